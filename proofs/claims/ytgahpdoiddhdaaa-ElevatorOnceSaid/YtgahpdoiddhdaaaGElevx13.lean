/- WRITTEN BY wip/hyb.py, a program of this workplace (out of the kit's printer and this workplace's own contracts). -/
import Derived.Test.YtgahpdoiddhdaaaGElevx0
import Derived.Test.YtgahpdoiddhdaaaGElevx1
import Derived.Test.YtgahpdoiddhdaaaGElevx7
import Derived.Test.YtgahpdoiddhdaaaGElevx9
namespace Go.Proofs.Ytgahpdoiddhdaaa.HElev
open Go.RowKit Go.Proofs.YtgahpdoiddhdaaaW.PrintWords Go.Proofs.YtgahpdoiddhdaaaW.PrintLast Go.Proofs.YtgahpdoiddhdaaaW.PrintMore
attribute [local go_sem] max2_int min2_int max_two min_two max_three min_three max_four min_four   -- for this text's walks alone
set_option linter.unusedVariables false
set_option linter.unusedSimpArgs false

attribute [local go_sem high] eqA37
mutual
def caulklaw40_ElevatorOnce.l0 : Nat → Int → List (S37) → List (S37) → Int → List (S37) → Int → Int → Option (Bool)
 | 0, _, _, _, _, _, _, _ => none
 | k + 1, x0, x1, x5, x7, x34, x35, x36 => if x36 < x35 then (if 0 ≤ x36 then (if x36 < (x34.length : Int) then (caulklaw40_ElevatorOnce.l1 k x0 x1 x5 x7 x36 0 0 x34 x35 x36 (x1.length : Int) 0 ((rd_T37 x34 x36).f0) ((rd_T37 x34 x36).f1) ((rd_T37 x34 x36).f2)) else (none)) else (none)) else (if x7 ≤ 1 then (if x7 = 0 then (some true) else (if 0 < (x5.length : Int) then (some (decide (((rd_T37 x5 0).f0) ≥ x0))) else (none))) else (some false))
def caulklaw40_ElevatorOnce.l1 : Nat → Int → List (S37) → List (S37) → Int → Int → Int → Int → List (S37) → Int → Int → Int → Int → Int → Int → Int → Option (Bool)
 | 0, _, _, _, _, _, _, _, _, _, _, _, _, _, _, _ => none
 | k + 1, x0, x1, x5, x7, x8, x10, x11, x34, x35, x36, x42, x43, x7318000, x7318001, x7318002 => if x43 < x42 then (if 0 ≤ x43 then (if x43 < (x1.length : Int) then (if (((rd_T37 x1 x43).f0) == x7318000 && (((rd_T37 x1 x43).f1) == x7318001 && (((rd_T37 x1 x43).f2) == x7318002))) = true then (if x43 < (x5.length : Int) then (if (((rd_T37 x5 x43).f0) == x7318000 && (((rd_T37 x5 x43).f1) == x7318001 && (((rd_T37 x5 x43).f2) == x7318002))) = true then (caulklaw40_ElevatorOnce.l1 k x0 x1 x5 x7 x8 (wrap64 (x10 + 1)) (wrap64 (x11 + 1)) x34 x35 x36 x42 (wrap64 (x43 + 1)) x7318000 x7318001 x7318002) else (caulklaw40_ElevatorOnce.l1 k x0 x1 x5 x7 x8 (wrap64 (x10 + 1)) x11 x34 x35 x36 x42 (wrap64 (x43 + 1)) x7318000 x7318001 x7318002)) else (none)) else (if x43 < (x5.length : Int) then (if (((rd_T37 x5 x43).f0) == x7318000 && (((rd_T37 x5 x43).f1) == x7318001 && (((rd_T37 x5 x43).f2) == x7318002))) = true then (caulklaw40_ElevatorOnce.l1 k x0 x1 x5 x7 x8 x10 (wrap64 (x11 + 1)) x34 x35 x36 x42 (wrap64 (x43 + 1)) x7318000 x7318001 x7318002) else (caulklaw40_ElevatorOnce.l1 k x0 x1 x5 x7 x8 x10 x11 x34 x35 x36 x42 (wrap64 (x43 + 1)) x7318000 x7318001 x7318002)) else (none))) else (none)) else (none)) else (if x10 = x11 then (if x8 > 0 then (if 0 ≤ (wrap64 (x8 - 1)) then (if (wrap64 (x8 - 1)) < (x5.length : Int) then (caulklaw40_ElevatorOnce.j2 k x0 x1 x5 x7 x34 x35 x36 (decide (((rd_T37 x5 (wrap64 (x8 - 1))).f0) > x7318000)) x7318000 x7318001 x7318002) else (none)) else (none)) else (caulklaw40_ElevatorOnce.j2 k x0 x1 x5 x7 x34 x35 x36 false x7318000 x7318001 x7318002)) else (some false))
def caulklaw40_ElevatorOnce.j2 : Nat → Int → List (S37) → List (S37) → Int → List (S37) → Int → Int → Bool → Int → Int → Int → Option (Bool)
 | 0, _, _, _, _, _, _, _, _, _, _, _ => none
 | k + 1, x0, x1, x5, x7, x34, x35, x36, x78, x7318000, x7318001, x7318002 => if x78 = true then (if x7318000 ≥ x0 then (some false) else (caulklaw40_ElevatorOnce.l0 k x0 x1 x5 (wrap64 (x7 + 1)) x34 x35 (wrap64 (x36 + 1)))) else (caulklaw40_ElevatorOnce.l0 k x0 x1 x5 x7 x34 x35 (wrap64 (x36 + 1)))
end
def caulklaw40_ElevatorOnce.f (k : Nat) (a0 : Int) (l1 : List (S37)) : Option (Bool) := (caulklaw40_lives.f).bind fun t7310 => (if t7310 = true then (if (l1.length : Int) > 200 then (some true) else ((elevator_Order.f k a0 l1).bind fun bt7311 => (if bt7311.2 = 0 then (if (bt7311.1.length : Int) = (l1.length : Int) then (caulklaw40_ElevatorOnce.l0 k a0 l1 bt7311.1 0 bt7311.1 (bt7311.1.length : Int) 0) else (some false)) else (some ((bt7311.1.length : Int) == 0))))) else (some false))
theorem caulklaw40_ElevatorOnce.mono_l : ∀ k, (∀ y0 y1 y2 y3 y4 y5 y6, LeO (caulklaw40_ElevatorOnce.l0 k y0 y1 y2 y3 y4 y5 y6) (caulklaw40_ElevatorOnce.l0 (k + 1) y0 y1 y2 y3 y4 y5 y6)) ∧ (∀ y0 y1 y2 y3 y4 y5 y6 y7 y8 y9 y10 y11 y12 y13 y14, LeO (caulklaw40_ElevatorOnce.l1 k y0 y1 y2 y3 y4 y5 y6 y7 y8 y9 y10 y11 y12 y13 y14) (caulklaw40_ElevatorOnce.l1 (k + 1) y0 y1 y2 y3 y4 y5 y6 y7 y8 y9 y10 y11 y12 y13 y14)) ∧ (∀ y0 y1 y2 y3 y4 y5 y6 y7 y8 y9 y10, LeO (caulklaw40_ElevatorOnce.j2 k y0 y1 y2 y3 y4 y5 y6 y7 y8 y9 y10) (caulklaw40_ElevatorOnce.j2 (k + 1) y0 y1 y2 y3 y4 y5 y6 y7 y8 y9 y10))
 | 0 => ⟨fun _ _ _ _ _ _ _ r h => by simp [caulklaw40_ElevatorOnce.l0] at h, fun _ _ _ _ _ _ _ _ _ _ _ _ _ _ _ r h => by simp [caulklaw40_ElevatorOnce.l1] at h, fun _ _ _ _ _ _ _ _ _ _ _ r h => by simp [caulklaw40_ElevatorOnce.j2] at h⟩
 | k + 1 => by
  obtain ⟨ih0, ih1, ih2⟩ := caulklaw40_ElevatorOnce.mono_l k
  refine ⟨?_, ?_, ?_⟩
  ·intro y0 y1 y2 y3 y4 y5 y6
   unfold caulklaw40_ElevatorOnce.l0
   repeat' first
   | (with_reducible exact ih0 _ _ _ _ _ _ _)
   | (with_reducible exact ih1 _ _ _ _ _ _ _ _ _ _ _ _ _ _ _)
   | (with_reducible exact ih2 _ _ _ _ _ _ _ _ _ _ _)
   | (with_reducible exact elevator_Order.mono _ _ _)
   | (with_reducible exact LeO.refl _)
   | (with_reducible exact LeO.none _)
   | (with_reducible refine LeO.ite ?_ ?_)
   | (with_reducible refine LeO.bind ?_ (fun _ => ?_))
   | exact ih0 _ _ _ _ _ _ _
   | exact ih1 _ _ _ _ _ _ _ _ _ _ _ _ _ _ _
   | exact ih2 _ _ _ _ _ _ _ _ _ _ _
   | exact elevator_Order.mono _ _ _
   | exact LeO.none _
   | refine LeO.ite ?_ ?_
   | refine LeO.bind ?_ (fun _ => ?_)
  ·intro y0 y1 y2 y3 y4 y5 y6 y7 y8 y9 y10 y11 y12 y13 y14
   unfold caulklaw40_ElevatorOnce.l1
   repeat' first
   | (with_reducible exact ih0 _ _ _ _ _ _ _)
   | (with_reducible exact ih1 _ _ _ _ _ _ _ _ _ _ _ _ _ _ _)
   | (with_reducible exact ih2 _ _ _ _ _ _ _ _ _ _ _)
   | (with_reducible exact elevator_Order.mono _ _ _)
   | (with_reducible exact LeO.refl _)
   | (with_reducible exact LeO.none _)
   | (with_reducible refine LeO.ite ?_ ?_)
   | (with_reducible refine LeO.bind ?_ (fun _ => ?_))
   | exact ih0 _ _ _ _ _ _ _
   | exact ih1 _ _ _ _ _ _ _ _ _ _ _ _ _ _ _
   | exact ih2 _ _ _ _ _ _ _ _ _ _ _
   | exact elevator_Order.mono _ _ _
   | exact LeO.none _
   | refine LeO.ite ?_ ?_
   | refine LeO.bind ?_ (fun _ => ?_)
  ·intro y0 y1 y2 y3 y4 y5 y6 y7 y8 y9 y10
   unfold caulklaw40_ElevatorOnce.j2
   repeat' first
   | (with_reducible exact ih0 _ _ _ _ _ _ _)
   | (with_reducible exact ih1 _ _ _ _ _ _ _ _ _ _ _ _ _ _ _)
   | (with_reducible exact ih2 _ _ _ _ _ _ _ _ _ _ _)
   | (with_reducible exact elevator_Order.mono _ _ _)
   | (with_reducible exact LeO.refl _)
   | (with_reducible exact LeO.none _)
   | (with_reducible refine LeO.ite ?_ ?_)
   | (with_reducible refine LeO.bind ?_ (fun _ => ?_))
   | exact ih0 _ _ _ _ _ _ _
   | exact ih1 _ _ _ _ _ _ _ _ _ _ _ _ _ _ _
   | exact ih2 _ _ _ _ _ _ _ _ _ _ _
   | exact elevator_Order.mono _ _ _
   | exact LeO.none _
   | refine LeO.ite ?_ ?_
   | refine LeO.bind ?_ (fun _ => ?_)
theorem caulklaw40_ElevatorOnce.mono : ∀ a0 a1 k, LeO (caulklaw40_ElevatorOnce.f k a0 a1) (caulklaw40_ElevatorOnce.f (k + 1) a0 a1) := by
 intro a0 a1 k
 obtain ⟨ih0, ih1, ih2⟩ := caulklaw40_ElevatorOnce.mono_l k
 unfold caulklaw40_ElevatorOnce.f
 repeat' first
   | (with_reducible exact ih0 _ _ _ _ _ _ _)
   | (with_reducible exact ih1 _ _ _ _ _ _ _ _ _ _ _ _ _ _ _)
   | (with_reducible exact ih2 _ _ _ _ _ _ _ _ _ _ _)
   | (with_reducible exact elevator_Order.mono _ _ _)
   | (with_reducible exact LeO.refl _)
   | (with_reducible exact LeO.none _)
   | (with_reducible refine LeO.ite ?_ ?_)
   | (with_reducible refine LeO.bind ?_ (fun _ => ?_))
   | exact ih0 _ _ _ _ _ _ _
   | exact ih1 _ _ _ _ _ _ _ _ _ _ _ _ _ _ _
   | exact ih2 _ _ _ _ _ _ _ _ _ _ _
   | exact elevator_Order.mono _ _ _
   | exact LeO.none _
   | refine LeO.ite ?_ ?_
   | refine LeO.bind ?_ (fun _ => ?_)
set_option maxHeartbeats 8000000 in
set_option maxRecDepth 100000 in
theorem caulklaw40_ElevatorOnce.calls (k : Nat) (a0 : Int) (A1 : Option Addr) (c1 : Nat) (l1 : List (S37)) (r : Bool) (w : World) (hr1 : Kd.C k37 w A1 l1.length l1) (hc1 : l1.length ≤ c1) (hrt : Aside0 (r = true)) (h : caulklaw40_ElevatorOnce.f k a0 l1 = some r) :
  Calls Try.prog 4 #[.int .i64 a0, .slice A1 l1.length c1] w fun e w' => e = .returned (.bool r) ∧ Below w.heap.size w w' := by
 have hu37 := Try.underlying37
 have HR1 := Aside0.mk hr1
 have HC1 := Aside0.mk hc1
 clear hr1 hc1
 have HB := Aside0.mk (Below.refl w.heap.size w)
 have H : ((caulklaw40_lives.f).bind fun t7310 => (if t7310 = true then (if (l1.length : Int) > 200 then (some true) else ((elevator_Order.f k a0 l1).bind fun bt7311 => (if bt7311.2 = 0 then (if (bt7311.1.length : Int) = (l1.length : Int) then (caulklaw40_ElevatorOnce.l0 k a0 l1 bt7311.1 0 bt7311.1 (bt7311.1.length : Int) 0) else (some false)) else (some ((bt7311.1.length : Int) == 0))))) else (some false))) = some r := h
 clear h
 replace H := Option.bind_eq_some_iff.mp H
 obtain ⟨t7310, A30, H⟩ := H
 replace H : (if t7310 = true then (if (l1.length : Int) > 200 then (some true) else ((elevator_Order.f k a0 l1).bind fun bt7311 => (if bt7311.2 = 0 then (if (bt7311.1.length : Int) = (l1.length : Int) then (caulklaw40_ElevatorOnce.l0 k a0 l1 bt7311.1 0 bt7311.1 (bt7311.1.length : Int) 0) else (some false)) else (some ((bt7311.1.length : Int) == 0))))) else (some false)) = some r := H
 have A3 := Aside0.mk A30
 clear A30
 by_cases c4 : t7310 = true
 ·subst c4
  have H1 : (if (l1.length : Int) > 200 then (some true) else ((elevator_Order.f k a0 l1).bind fun bt7311 => (if bt7311.2 = 0 then (if (bt7311.1.length : Int) = (l1.length : Int) then (caulklaw40_ElevatorOnce.l0 k a0 l1 bt7311.1 0 bt7311.1 (bt7311.1.length : Int) 0) else (some false)) else (some ((bt7311.1.length : Int) == 0))))) = some r := by rw [if_pos rfl] at H; exact H
  clear H
  have H := H1
  clear H1
  by_cases c5 : (l1.length : Int) > 200
  ·rw [if_pos c5] at H
   have c5b0 : decide (200 < (l1.length : Int)) = true := decide_eq_true c5
   have c5b1 : decide (200 < l1.length) = true := decide_eq_true (by omega)
   clear c5
   obtain rfl := Option.some.inj H
   go_enter Try.func4, Try.ntmps4
   (try simp only [List.append_eq, List.cons_append, List.nil_append])
   go_wp2_with (first | ((with_reducible refine HOpen.gate_append ?_); simp only [List.cons_append, List.nil_append]) | (go_at_call 13; (with_reducible refine (caulklaw40_lives.calls  true _ A3.out).mono ?_); rintro e w6 ⟨rfl, hb⟩; have n0_ := Aside0.mk (below_step (by repeat (first | (with_reducible first | exact HB.out | apply below_alloc | apply pw_below_drewN | apply below_drew1) | exact HB.out)) hb); clear HB; have HB := n0_; clear n0_; (try clear hb); (try clear hb2); (try clear hk); (try clear hi)))
   repeat (go_quiet (first | (go_at_call 13; (with_reducible refine (caulklaw40_lives.calls  true _ A3.out).mono ?_); rintro e w6 ⟨rfl, hb⟩; have n0_ := Aside0.mk (below_step (by repeat (first | (with_reducible first | exact HB.out | apply below_alloc | apply pw_below_drewN | apply below_drew1) | exact HB.out)) hb); clear HB; have HB := n0_; clear n0_; (try clear hb); (try clear hb2); (try clear hk); (try clear hi))); try go_wp2_with (first | ((with_reducible refine HOpen.gate_append ?_); simp only [List.cons_append, List.nil_append]) | (go_at_call 13; (with_reducible refine (caulklaw40_lives.calls  true _ A3.out).mono ?_); rintro e w6 ⟨rfl, hb⟩; have n0_ := Aside0.mk (below_step (by repeat (first | (with_reducible first | exact HB.out | apply below_alloc | apply pw_below_drewN | apply below_drew1) | exact HB.out)) hb); clear HB; have HB := n0_; clear n0_; (try clear hb); (try clear hb2); (try clear hk); (try clear hi))))
   go_ret
   exact ⟨by first | rfl | (simp [errW_none, errW_some] <;> rfl) | (simp [*, errW_none, errW_some] <;> rfl), by repeat (first | (with_reducible first | exact HB.out | apply below_alloc | apply pw_below_drewN | apply below_drew1) | exact HB.out)⟩
  ·rw [if_neg c5] at H
   have c5b0 : decide (200 < (l1.length : Int)) = false := decide_eq_false c5
   have c5b1 : decide (200 < l1.length) = false := decide_eq_false (by omega)
   clear c5
   replace H := Option.bind_eq_some_iff.mp H
   obtain ⟨⟨t7311, t7312⟩, A70, H⟩ := H
   replace H : (if t7312 = 0 then (if (t7311.length : Int) = (l1.length : Int) then (caulklaw40_ElevatorOnce.l0 k a0 l1 t7311 0 t7311 (t7311.length : Int) 0) else (some false)) else (some ((t7311.length : Int) == 0))) = some r := H
   have A7 := Aside0.mk A70
   clear A70
   by_cases c8 : t7312 = 0
   ·rw [if_pos c8] at H
    have c8b0 : (t7312 == 0) = true := beq_iff_eq.mpr c8
    have c8b1 : (t7312 != 0) = false := bne_eq_false_iff_eq.mpr c8
    clear c8
    by_cases c9 : (t7311.length : Int) = (l1.length : Int)
    ·rw [if_pos c9] at H
     have c9b0 : ((t7311.length : Int) == (l1.length : Int)) = true := beq_iff_eq.mpr c9
     have c9b1 : ((t7311.length : Int) != (l1.length : Int)) = false := bne_eq_false_iff_eq.mpr c9
     have c9b2 : (t7311.length == l1.length) = true := by first | simpa using c9 | (simp at c9 ⊢; omega)
     clear c9
     have H' := Aside0.mk H
     clear H
     go_enter Try.func4, Try.ntmps4
     (try simp only [List.append_eq, List.cons_append, List.nil_append])
     go_wp2_with (first | ((with_reducible refine HOpen.gate_append ?_); simp only [List.cons_append, List.nil_append]) | (go_at_call 13; (with_reducible refine (caulklaw40_lives.calls  true _ A3.out).mono ?_); rintro e w10 ⟨rfl, hb⟩; have n0_ := Aside0.mk (below_step (by repeat (first | (with_reducible first | exact HB.out | apply below_alloc | apply pw_below_drewN | apply below_drew1) | exact HB.out)) hb); clear HB; have HB := n0_; clear n0_; (try clear hb); (try clear hb2); (try clear hk); (try clear hi)) | (go_at_call 14; (with_reducible refine (elevator_Order.calls k a0 _ _ l1 t7311 t7312 _ ?side1 ?side2 A7.out).mono ?_); (case side1 => repeat (first | exact (Kd.C_below HR1.out HB.out) | (with_reducible refine Kd.C_alloc ?_ _) | (with_reducible refine Kd.C_drewN ?_ _) | (with_reducible refine Kd.C_drew ?_))); (case side2 => exact HC1.out); rintro e w11 ⟨v7313, rfl, ho0, hb⟩; have n0_ := Aside0.mk (Kd.R_lower ho0 (below_size (by repeat (first | (with_reducible first | exact HB.out | apply below_alloc | apply pw_below_drewN | apply below_drew1) | exact HB.out)))); have n1_ := Aside0.mk (below_step (by repeat (first | (with_reducible first | exact HB.out | apply below_alloc | apply pw_below_drewN | apply below_drew1) | exact HB.out)) hb); clear HB; have HO7314 := n0_; have HB := n1_; clear n0_ n1_; (try clear hb); (try clear hb2); (try clear hk); (try clear hi); (try clear ho0); obtain ⟨Ao12, co12, eo12⟩ := Kd.R_slice HO7314.out; subst eo12))
     repeat (go_quiet (first | (go_at_call 13; (with_reducible refine (caulklaw40_lives.calls  true _ A3.out).mono ?_); rintro e w10 ⟨rfl, hb⟩; have n0_ := Aside0.mk (below_step (by repeat (first | (with_reducible first | exact HB.out | apply below_alloc | apply pw_below_drewN | apply below_drew1) | exact HB.out)) hb); clear HB; have HB := n0_; clear n0_; (try clear hb); (try clear hb2); (try clear hk); (try clear hi)) | (go_at_call 14; (with_reducible refine (elevator_Order.calls k a0 _ _ l1 t7311 t7312 _ ?side1 ?side2 A7.out).mono ?_); (case side1 => repeat (first | exact (Kd.C_below HR1.out HB.out) | (with_reducible refine Kd.C_alloc ?_ _) | (with_reducible refine Kd.C_drewN ?_ _) | (with_reducible refine Kd.C_drew ?_))); (case side2 => exact HC1.out); rintro e w11 ⟨v7313, rfl, ho0, hb⟩; have n0_ := Aside0.mk (Kd.R_lower ho0 (below_size (by repeat (first | (with_reducible first | exact HB.out | apply below_alloc | apply pw_below_drewN | apply below_drew1) | exact HB.out)))); have n1_ := Aside0.mk (below_step (by repeat (first | (with_reducible first | exact HB.out | apply below_alloc | apply pw_below_drewN | apply below_drew1) | exact HB.out)) hb); clear HB; have HO7314 := n0_; have HB := n1_; clear n0_ n1_; (try clear hb); (try clear hb2); (try clear hk); (try clear hi); (try clear ho0); obtain ⟨Ao12, co12, eo12⟩ := Kd.R_slice HO7314.out; subst eo12)); try go_wp2_with (first | ((with_reducible refine HOpen.gate_append ?_); simp only [List.cons_append, List.nil_append]) | (go_at_call 13; (with_reducible refine (caulklaw40_lives.calls  true _ A3.out).mono ?_); rintro e w10 ⟨rfl, hb⟩; have n0_ := Aside0.mk (below_step (by repeat (first | (with_reducible first | exact HB.out | apply below_alloc | apply pw_below_drewN | apply below_drew1) | exact HB.out)) hb); clear HB; have HB := n0_; clear n0_; (try clear hb); (try clear hb2); (try clear hk); (try clear hi)) | (go_at_call 14; (with_reducible refine (elevator_Order.calls k a0 _ _ l1 t7311 t7312 _ ?side1 ?side2 A7.out).mono ?_); (case side1 => repeat (first | exact (Kd.C_below HR1.out HB.out) | (with_reducible refine Kd.C_alloc ?_ _) | (with_reducible refine Kd.C_drewN ?_ _) | (with_reducible refine Kd.C_drew ?_))); (case side2 => exact HC1.out); rintro e w11 ⟨v7313, rfl, ho0, hb⟩; have n0_ := Aside0.mk (Kd.R_lower ho0 (below_size (by repeat (first | (with_reducible first | exact HB.out | apply below_alloc | apply pw_below_drewN | apply below_drew1) | exact HB.out)))); have n1_ := Aside0.mk (below_step (by repeat (first | (with_reducible first | exact HB.out | apply below_alloc | apply pw_below_drewN | apply below_drew1) | exact HB.out)) hb); clear HB; have HO7314 := n0_; have HB := n1_; clear n0_ n1_; (try clear hb); (try clear hb2); (try clear hk); (try clear hi); (try clear ho0); obtain ⟨Ao12, co12, eo12⟩ := Kd.R_slice HO7314.out; subst eo12)))
     go_loopg [7, 36] k (fun kq v7 v36 w' => ∃ (x7_1 : Int) (x36_1 : Int), v7 = .int .i64 x7_1 ∧ v36 = .int .i64 x36_1 ∧ Aside0 (caulklaw40_ElevatorOnce.l0 kq a0 l1 t7311 x7_1 t7311 (t7311.length : Int) x36_1 = some r) ∧ Aside0 (kq ≤ k) ∧ Aside0 (Kd.R k37 37 w' w.heap.size (fun _ => True) (.slice Ao12 t7311.length co12) t7311) ∧ Aside0 (Kd.R k37 37 w' w.heap.size (fun _ => True) (.slice Ao12 t7311.length co12) t7311) ∧ Aside0 (Below w.heap.size w w'))
     case atStart => exact ⟨(0), (0), (by first | rfl | (simp; done) | (simp [*]; done)), (by first | rfl | (simp; done) | (simp [*]; done)), H', ⟨Nat.le_refl _⟩, ⟨by (with_reducible repeat (first | apply Kd.R_alloc | apply Kd.R_drewN | apply Kd.R_drew)); exact HO7314.out⟩, ⟨by (with_reducible repeat (first | apply Kd.R_alloc | apply Kd.R_drewN | apply Kd.R_drew)); exact HO7314.out⟩, ⟨by repeat (first | (with_reducible first | exact HB.out | apply below_alloc | apply pw_below_drewN | apply below_drew1) | exact HB.out)⟩⟩
     case round =>
      clear H'
      try clear c1
      try clear p2
      try clear c4
      try clear c5
      try clear c5b0
      try clear c5b1
      try clear c8
      try clear c8b0
      try clear c8b1
      try clear c9
      try clear c9b0
      try clear c9b1
      try clear c9b2
      obtain ⟨x7_1, x36_1, rfl, rfl, HA, HK1, HO_5, HO_34, HB⟩ := hrel
      cases gk with
      | zero => exact absurd HA.out (by simp [caulklaw40_ElevatorOnce.l0])
      | succ k1 =>
       have H := HA.out
       clear HA
       simp only [caulklaw40_ElevatorOnce.l0] at H
       by_cases c13 : x36_1 < (t7311.length : Int)
       ·rw [if_pos c13] at H
        have c13b0 : decide (x36_1 < (t7311.length : Int)) = true := decide_eq_true c13
        clear c13
        by_cases c14 : 0 ≤ x36_1
        ·rw [if_pos c14] at H
         have c14b0 : decide (0 ≤ x36_1) = true := decide_eq_true c14
         clear c14
         by_cases c15 : x36_1 < (t7311.length : Int)
         ·rw [if_pos c15] at H
          have c15b0 : decide (x36_1 < (t7311.length : Int)) = true := decide_eq_true c15
          clear c15
          have H' := Aside0.mk H
          clear H
          have p7316 : 0 ≤ (x36_1 : Int) := of_decide_eq_true (by first | (with_reducible assumption) | assumption)
          have q7316 : x36_1 < (t7311.length : Int) := of_decide_eq_true (by first | (with_reducible assumption) | assumption)
          obtain ⟨ad7316, e7316, hx7316_0, hx7316_1, hx7316_2⟩ := at_T37 (Kd.R_reads' HO_34.out).2.2 x36_1 p7316 q7316
          cases e7316
          replace p7316 := eq_true p7316
          replace q7316 := eq_true q7316
          go_wp2_with (first | ((with_reducible refine HOpen.gate_append ?_); simp only [List.cons_append, List.nil_append]) | ((with_reducible refine gate_dst (N := 9) rfl ?_); refine box_event ?hg (N := 9) ?hd (cs := #[.int .i64 0, .int .i64 0, .int .i64 0]) (t := 37) ?hr ?_; (case hd => rfl); (case hg => rfl); (case hr => first | (go_simp; done) | (go_simp; rfl)); intro gb7317 hg w16 hbox hb; have n0_ := Aside0.mk (Kd.R_below (Kd.R_elderB (by (with_reducible repeat (first | apply Kd.R_alloc | apply Kd.R_drewN | apply Kd.R_drew)); exact HO_5.out) gb7317 (Nat.le_of_eq hg.symm)) hb); have n1_ := Aside0.mk (Kd.R_below (Kd.R_elderB (by (with_reducible repeat (first | apply Kd.R_alloc | apply Kd.R_drewN | apply Kd.R_drew)); exact HO_34.out) gb7317 (Nat.le_of_eq hg.symm)) hb); have n2_ := Aside0.mk (below_step (by repeat (first | (with_reducible first | exact HB.out | apply below_alloc | apply pw_below_drewN | apply below_drew1) | exact HB.out)) hb); have n3_ := Aside0.mk (hbox); have n4_ := Aside0.mk ((by rw [hg]; exact (below_size (by repeat (first | (with_reducible first | exact HB.out | apply below_alloc | apply pw_below_drewN | apply below_drew1) | exact HB.out))) : w.heap.size ≤ gb7317)); have n5_ := Aside0.mk ((by rw [hg]; exact (below_size (by repeat (first | (with_reducible first | exact HB.out | apply below_alloc | apply pw_below_drewN | apply below_drew1) | exact HB.out))) : w.heap.size ≤ gb7317)); clear HO_5; clear HO_34; clear HB; have HO_5 := n0_; have HO_34 := n1_; have HB := n2_; have BK7317 := n3_; have GW7317 := n4_; have GE7317 := n5_; clear n0_ n1_ n2_ n3_ n4_ n5_; clear hb hbox hg; have hcz17_0 : w16.cell? ⟨gb7317, 0, none⟩ = some (.int .i64 0) := (blk_cell BK7317.out 0).trans rfl; have hcz17_1 : w16.cell? ⟨gb7317, 1, none⟩ = some (.int .i64 0) := (blk_cell BK7317.out 1).trans rfl; have hcz17_2 : w16.cell? ⟨gb7317, 2, none⟩ = some (.int .i64 0) := (blk_cell BK7317.out 2).trans rfl; have hfz17_0 := blk_frozen BK7317.out 0; have hfz17_1 := blk_frozen BK7317.out 1; have hfz17_2 := blk_frozen BK7317.out 2))
          repeat (go_quiet (first | ((with_reducible refine gate_dst (N := 9) rfl ?_); refine box_event ?hg (N := 9) ?hd (cs := #[.int .i64 0, .int .i64 0, .int .i64 0]) (t := 37) ?hr ?_; (case hd => rfl); (case hg => rfl); (case hr => first | (go_simp; done) | (go_simp; rfl)); intro gb7317 hg w16 hbox hb; have n0_ := Aside0.mk (Kd.R_below (Kd.R_elderB (by (with_reducible repeat (first | apply Kd.R_alloc | apply Kd.R_drewN | apply Kd.R_drew)); exact HO_5.out) gb7317 (Nat.le_of_eq hg.symm)) hb); have n1_ := Aside0.mk (Kd.R_below (Kd.R_elderB (by (with_reducible repeat (first | apply Kd.R_alloc | apply Kd.R_drewN | apply Kd.R_drew)); exact HO_34.out) gb7317 (Nat.le_of_eq hg.symm)) hb); have n2_ := Aside0.mk (below_step (by repeat (first | (with_reducible first | exact HB.out | apply below_alloc | apply pw_below_drewN | apply below_drew1) | exact HB.out)) hb); have n3_ := Aside0.mk (hbox); have n4_ := Aside0.mk ((by rw [hg]; exact (below_size (by repeat (first | (with_reducible first | exact HB.out | apply below_alloc | apply pw_below_drewN | apply below_drew1) | exact HB.out))) : w.heap.size ≤ gb7317)); have n5_ := Aside0.mk ((by rw [hg]; exact (below_size (by repeat (first | (with_reducible first | exact HB.out | apply below_alloc | apply pw_below_drewN | apply below_drew1) | exact HB.out))) : w.heap.size ≤ gb7317)); clear HO_5; clear HO_34; clear HB; have HO_5 := n0_; have HO_34 := n1_; have HB := n2_; have BK7317 := n3_; have GW7317 := n4_; have GE7317 := n5_; clear n0_ n1_ n2_ n3_ n4_ n5_; clear hb hbox hg; have hcz17_0 : w16.cell? ⟨gb7317, 0, none⟩ = some (.int .i64 0) := (blk_cell BK7317.out 0).trans rfl; have hcz17_1 : w16.cell? ⟨gb7317, 1, none⟩ = some (.int .i64 0) := (blk_cell BK7317.out 1).trans rfl; have hcz17_2 : w16.cell? ⟨gb7317, 2, none⟩ = some (.int .i64 0) := (blk_cell BK7317.out 2).trans rfl; have hfz17_0 := blk_frozen BK7317.out 0; have hfz17_1 := blk_frozen BK7317.out 1; have hfz17_2 := blk_frozen BK7317.out 2)); try go_wp2_with (first | ((with_reducible refine HOpen.gate_append ?_); simp only [List.cons_append, List.nil_append]) | ((with_reducible refine gate_dst (N := 9) rfl ?_); refine box_event ?hg (N := 9) ?hd (cs := #[.int .i64 0, .int .i64 0, .int .i64 0]) (t := 37) ?hr ?_; (case hd => rfl); (case hg => rfl); (case hr => first | (go_simp; done) | (go_simp; rfl)); intro gb7317 hg w16 hbox hb; have n0_ := Aside0.mk (Kd.R_below (Kd.R_elderB (by (with_reducible repeat (first | apply Kd.R_alloc | apply Kd.R_drewN | apply Kd.R_drew)); exact HO_5.out) gb7317 (Nat.le_of_eq hg.symm)) hb); have n1_ := Aside0.mk (Kd.R_below (Kd.R_elderB (by (with_reducible repeat (first | apply Kd.R_alloc | apply Kd.R_drewN | apply Kd.R_drew)); exact HO_34.out) gb7317 (Nat.le_of_eq hg.symm)) hb); have n2_ := Aside0.mk (below_step (by repeat (first | (with_reducible first | exact HB.out | apply below_alloc | apply pw_below_drewN | apply below_drew1) | exact HB.out)) hb); have n3_ := Aside0.mk (hbox); have n4_ := Aside0.mk ((by rw [hg]; exact (below_size (by repeat (first | (with_reducible first | exact HB.out | apply below_alloc | apply pw_below_drewN | apply below_drew1) | exact HB.out))) : w.heap.size ≤ gb7317)); have n5_ := Aside0.mk ((by rw [hg]; exact (below_size (by repeat (first | (with_reducible first | exact HB.out | apply below_alloc | apply pw_below_drewN | apply below_drew1) | exact HB.out))) : w.heap.size ≤ gb7317)); clear HO_5; clear HO_34; clear HB; have HO_5 := n0_; have HO_34 := n1_; have HB := n2_; have BK7317 := n3_; have GW7317 := n4_; have GE7317 := n5_; clear n0_ n1_ n2_ n3_ n4_ n5_; clear hb hbox hg; have hcz17_0 : w16.cell? ⟨gb7317, 0, none⟩ = some (.int .i64 0) := (blk_cell BK7317.out 0).trans rfl; have hcz17_1 : w16.cell? ⟨gb7317, 1, none⟩ = some (.int .i64 0) := (blk_cell BK7317.out 1).trans rfl; have hcz17_2 : w16.cell? ⟨gb7317, 2, none⟩ = some (.int .i64 0) := (blk_cell BK7317.out 2).trans rfl; have hfz17_0 := blk_frozen BK7317.out 0; have hfz17_1 := blk_frozen BK7317.out 1; have hfz17_2 := blk_frozen BK7317.out 2)))
          go_loopg [10, 11, 43] k1 (fun kq v10 v11 v43 w' => ∃ (x10_2 : Int) (x11_2 : Int) (x43_2 : Int), v10 = .int .i64 x10_2 ∧ v11 = .int .i64 x11_2 ∧ v43 = .int .i64 x43_2 ∧ Aside0 (caulklaw40_ElevatorOnce.l1 kq a0 l1 t7311 x7_1 x36_1 x10_2 x11_2 t7311 (t7311.length : Int) x36_1 (l1.length : Int) x43_2 ((rd_T37 t7311 x36_1).f0) ((rd_T37 t7311 x36_1).f1) ((rd_T37 t7311 x36_1).f2) = some r) ∧ Aside0 (kq ≤ k1) ∧ Aside0 (Kd.R k37 37 w' w.heap.size (fun k_ => k_ ≠ gb7317) (.slice (some ad7316) t7311.length co12) t7311) ∧ Aside0 (Kd.R k37 37 w' w.heap.size (fun k_ => k_ ≠ gb7317) (.slice (some ad7316) t7311.length co12) t7311) ∧ Aside0 (w'.heap[gb7317]? = some (.cells #[.int .i64 ((rd_T37 t7311 x36_1).f0), .int .i64 ((rd_T37 t7311 x36_1).f1), .int .i64 ((rd_T37 t7311 x36_1).f2)] 37 (0, 0))) ∧ Aside0 (Below w.heap.size w w'))
          case atStart => exact ⟨(0), (0), (0), (by first | rfl | (simp; done) | (simp [*]; done)), (by first | rfl | (simp; done) | (simp [*]; done)), (by first | rfl | (simp; done) | (simp [*]; done)), H', ⟨Nat.le_refl _⟩, ⟨by (with_reducible repeat (first | apply Kd.R_alloc | apply Kd.R_drewN | apply Kd.R_drew)); exact Kd.R_mono (Kd.R_far (p := ⟨gb7317, 2, none⟩) (Kd.R_far (p := ⟨gb7317, 1, none⟩) (Kd.R_far (p := ⟨gb7317, 0, none⟩) (Kd.R_mono HO_5.out (fun k_ hk => (⟨hk, hk.2⟩ : _ ∧ k_ ≠ gb7317))) (fun _ hk => hk.2) (.int .i64 ((rd_T37 t7311 x36_1).f0))) (fun _ hk => hk.2) (.int .i64 ((rd_T37 t7311 x36_1).f1))) (fun _ hk => hk.2) (.int .i64 ((rd_T37 t7311 x36_1).f2))) (fun _ hk => hk.1.2)⟩, ⟨by (with_reducible repeat (first | apply Kd.R_alloc | apply Kd.R_drewN | apply Kd.R_drew)); exact Kd.R_mono (Kd.R_far (p := ⟨gb7317, 2, none⟩) (Kd.R_far (p := ⟨gb7317, 1, none⟩) (Kd.R_far (p := ⟨gb7317, 0, none⟩) (Kd.R_mono HO_34.out (fun k_ hk => (⟨hk, hk.2⟩ : _ ∧ k_ ≠ gb7317))) (fun _ hk => hk.2) (.int .i64 ((rd_T37 t7311 x36_1).f0))) (fun _ hk => hk.2) (.int .i64 ((rd_T37 t7311 x36_1).f1))) (fun _ hk => hk.2) (.int .i64 ((rd_T37 t7311 x36_1).f2))) (fun _ hk => hk.1.2)⟩, ⟨by (with_reducible repeat (first | refine blk_drewN ?_ _ | refine blk_drew ?_ | refine blk_alloc ?_ _)); refine blk_put (cs := #[.int .i64 ((rd_T37 t7311 x36_1).f0), .int .i64 ((rd_T37 t7311 x36_1).f1), .int .i64 0]) ?_ 2 _ rfl; (with_reducible repeat (first | refine blk_drewN ?_ _ | refine blk_drew ?_ | refine blk_alloc ?_ _)); refine blk_put (cs := #[.int .i64 ((rd_T37 t7311 x36_1).f0), .int .i64 0, .int .i64 0]) ?_ 1 _ rfl; (with_reducible repeat (first | refine blk_drewN ?_ _ | refine blk_drew ?_ | refine blk_alloc ?_ _)); refine blk_put (cs := #[.int .i64 0, .int .i64 0, .int .i64 0]) ?_ 0 _ rfl; (with_reducible repeat (first | refine blk_drewN ?_ _ | refine blk_drew ?_ | refine blk_alloc ?_ _)); exact BK7317.out⟩, ⟨by repeat (first | (with_reducible first | exact HB.out | apply below_alloc | apply pw_below_drewN | apply below_drew1 | refine below_set ?_ GE7317.out) | exact HB.out)⟩⟩
          case round =>
           clear H'
           try clear c1
           try clear p2
           try clear c4
           try clear c5
           try clear c5b0
           try clear c5b1
           try clear p7
           try clear q7
           try clear hx7
           try clear c8
           try clear c8b0
           try clear c8b1
           try clear c9
           try clear c9b0
           try clear c9b1
           try clear c9b2
           try clear c13
           try clear c13b0
           try clear c14
           try clear c14b0
           try clear c15
           try clear c15b0
           try clear hcz17_0
           try clear hcz17_1
           try clear hcz17_2
           try clear hfz17_0
           try clear hfz17_1
           try clear hfz17_2
           try clear hx7316_0
           try clear hx7316_1
           try clear hx7316_2
           try clear p2
           try clear p7316
           try clear q7316
           obtain ⟨x10_2, x11_2, x43_2, rfl, rfl, rfl, HA, HK2, HO_5, HO_34, BK7317, HB⟩ := hrel
           cases gk with
           | zero => exact absurd HA.out (by simp [caulklaw40_ElevatorOnce.l1])
           | succ k2 =>
            have H := HA.out
            clear HA
            simp only [caulklaw40_ElevatorOnce.l1] at H
            by_cases c18 : x43_2 < (l1.length : Int)
            ·rw [if_pos c18] at H
             have c18b0 : decide (x43_2 < (l1.length : Int)) = true := decide_eq_true c18
             clear c18
             by_cases c19 : 0 ≤ x43_2
             ·rw [if_pos c19] at H
              have c19b0 : decide (0 ≤ x43_2) = true := decide_eq_true c19
              clear c19
              by_cases c20 : x43_2 < (l1.length : Int)
              ·rw [if_pos c20] at H
               have c20b0 : decide (x43_2 < (l1.length : Int)) = true := decide_eq_true c20
               clear c20
               by_cases c21 : (((rd_T37 l1 x43_2).f0) == ((rd_T37 t7311 x36_1).f0) && (((rd_T37 l1 x43_2).f1) == ((rd_T37 t7311 x36_1).f1) && (((rd_T37 l1 x43_2).f2) == ((rd_T37 t7311 x36_1).f2)))) = true
               ·rw [if_pos c21] at H
                have c21b0 : (((rd_T37 l1 x43_2).f0) == ((rd_T37 t7311 x36_1).f0) && (((rd_T37 l1 x43_2).f1) == ((rd_T37 t7311 x36_1).f1) && (((rd_T37 l1 x43_2).f2) == ((rd_T37 t7311 x36_1).f2)))) = true := c21
                (try (have c21b1 : decide (((rd_T37 l1 x43_2).f0) = ((rd_T37 t7311 x36_1).f0) && (((rd_T37 l1 x43_2).f1) == ((rd_T37 t7311 x36_1).f1) && (((rd_T37 l1 x43_2).f2) == ((rd_T37 t7311 x36_1).f2)))) = true := by simpa using c21))
                (try (have c21b2 : (((rd_T37 l1 x43_2).f0) == ((rd_T37 t7311 x36_1).f0) && (((rd_T37 l1 x43_2).f1) == ((rd_T37 t7311 x36_1).f1) && (((rd_T37 l1 x43_2).f2) == ((rd_T37 t7311 x36_1).f2)))) = true := by simpa using c21))
                clear c21
                by_cases c22 : x43_2 < (t7311.length : Int)
                ·rw [if_pos c22] at H
                 have c22b0 : decide (x43_2 < (t7311.length : Int)) = true := decide_eq_true c22
                 clear c22
                 by_cases c23 : (((rd_T37 t7311 x43_2).f0) == ((rd_T37 t7311 x36_1).f0) && (((rd_T37 t7311 x43_2).f1) == ((rd_T37 t7311 x36_1).f1) && (((rd_T37 t7311 x43_2).f2) == ((rd_T37 t7311 x36_1).f2)))) = true
                 ·rw [if_pos c23] at H
                  have c23b0 : (((rd_T37 t7311 x43_2).f0) == ((rd_T37 t7311 x36_1).f0) && (((rd_T37 t7311 x43_2).f1) == ((rd_T37 t7311 x36_1).f1) && (((rd_T37 t7311 x43_2).f2) == ((rd_T37 t7311 x36_1).f2)))) = true := c23
                  (try (have c23b1 : decide (((rd_T37 t7311 x43_2).f0) = ((rd_T37 t7311 x36_1).f0) && (((rd_T37 t7311 x43_2).f1) == ((rd_T37 t7311 x36_1).f1) && (((rd_T37 t7311 x43_2).f2) == ((rd_T37 t7311 x36_1).f2)))) = true := by simpa using c23))
                  (try (have c23b2 : (((rd_T37 t7311 x43_2).f0) == ((rd_T37 t7311 x36_1).f0) && (((rd_T37 t7311 x43_2).f1) == ((rd_T37 t7311 x36_1).f1) && (((rd_T37 t7311 x43_2).f2) == ((rd_T37 t7311 x36_1).f2)))) = true := by simpa using c23))
                  clear c23
                  have H' := Aside0.mk H
                  clear H
                  have p7318 : 0 ≤ (x43_2 : Int) := of_decide_eq_true (by first | (with_reducible assumption) | assumption)
                  have q7318 : x43_2 < (l1.length : Int) := of_decide_eq_true (by first | (with_reducible assumption) | assumption)
                  obtain ⟨ad7318, e7318, hx7318_0, hx7318_1, hx7318_2⟩ := at_T37 HR1.out x43_2 p7318 q7318
                  cases e7318
                  replace hx7318_0 := (HB.out.cell (World.block_lt_of_cell? w _ hx7318_0)).trans hx7318_0
                  replace hx7318_1 := (HB.out.cell (World.block_lt_of_cell? w _ hx7318_1)).trans hx7318_1
                  replace hx7318_2 := (HB.out.cell (World.block_lt_of_cell? w _ hx7318_2)).trans hx7318_2
                  replace p7318 := eq_true p7318
                  replace q7318 := eq_true q7318
                  have hcz24_0 : wr.cell? ⟨gb7317, 0, none⟩ = some (.int .i64 ((rd_T37 t7311 x36_1).f0)) := (blk_cell BK7317.out 0).trans rfl
                  have hcz24_1 : wr.cell? ⟨gb7317, 1, none⟩ = some (.int .i64 ((rd_T37 t7311 x36_1).f1)) := (blk_cell BK7317.out 1).trans rfl
                  have hcz24_2 : wr.cell? ⟨gb7317, 2, none⟩ = some (.int .i64 ((rd_T37 t7311 x36_1).f2)) := (blk_cell BK7317.out 2).trans rfl
                  have hfz24_0 := blk_frozen BK7317.out 0
                  have hfz24_1 := blk_frozen BK7317.out 1
                  have hfz24_2 := blk_frozen BK7317.out 2
                  have p7319 : 0 ≤ (x43_2 : Int) := of_decide_eq_true (by first | (with_reducible assumption) | assumption)
                  have q7319 : x43_2 < (t7311.length : Int) := of_decide_eq_true (by first | (with_reducible assumption) | assumption)
                  obtain ⟨ad7319, e7319, hx7319_0, hx7319_1, hx7319_2⟩ := at_T37 (Kd.R_reads' HO_5.out).2.2 x43_2 p7319 q7319
                  obtain rfl : ad7316 = ad7319 := (by injection e7319)
                  replace p7319 := eq_true p7319
                  replace q7319 := eq_true q7319
                  go_wp2
                  repeat (go_quiet (fail); try go_wp2)
                  go_roundg k2
                  case measure => have := HK1.out; have := HK2.out; omega
                  case rel => exact ⟨(wrap64 (x10_2 + 1)), (wrap64 (x11_2 + 1)), (wrap64 (x43_2 + 1)), (by first | rfl | (simp; done) | (simp [*]; done)), (by first | rfl | (simp; done) | (simp [*]; done)), (by first | rfl | (simp; done) | (simp [*]; done)), H', ⟨by have := HK1.out; have := HK2.out; omega⟩, ⟨by (with_reducible repeat (first | apply Kd.R_alloc | apply Kd.R_drewN | apply Kd.R_drew)); exact HO_5.out⟩, ⟨by (with_reducible repeat (first | apply Kd.R_alloc | apply Kd.R_drewN | apply Kd.R_drew)); exact HO_34.out⟩, ⟨by (with_reducible repeat (first | refine blk_drewN ?_ _ | refine blk_drew ?_ | refine blk_alloc ?_ _)); exact BK7317.out⟩, ⟨by repeat (first | (with_reducible first | exact HB.out | apply below_alloc | apply pw_below_drewN | apply below_drew1 | refine below_set ?_ GE7317.out) | exact HB.out)⟩⟩
                 ·rw [if_neg c23] at H
                  have c23b0 : (((rd_T37 t7311 x43_2).f0) == ((rd_T37 t7311 x36_1).f0) && (((rd_T37 t7311 x43_2).f1) == ((rd_T37 t7311 x36_1).f1) && (((rd_T37 t7311 x43_2).f2) == ((rd_T37 t7311 x36_1).f2)))) = false := by simpa using c23
                  (try (have c23b1 : decide (((rd_T37 t7311 x43_2).f0) = ((rd_T37 t7311 x36_1).f0) && (((rd_T37 t7311 x43_2).f1) == ((rd_T37 t7311 x36_1).f1) && (((rd_T37 t7311 x43_2).f2) == ((rd_T37 t7311 x36_1).f2)))) = false := by simpa using c23))
                  (try (have c23b2 : (((rd_T37 t7311 x43_2).f0) == ((rd_T37 t7311 x36_1).f0) && (((rd_T37 t7311 x43_2).f1) == ((rd_T37 t7311 x36_1).f1) && (((rd_T37 t7311 x43_2).f2) == ((rd_T37 t7311 x36_1).f2)))) = false := by simpa using c23))
                  (try (have c23b3 : ¬ (((rd_T37 t7311 x43_2).f0) = ((rd_T37 t7311 x36_1).f0) && (((rd_T37 t7311 x43_2).f1) == ((rd_T37 t7311 x36_1).f1) && (((rd_T37 t7311 x43_2).f2) == ((rd_T37 t7311 x36_1).f2)))) := by simpa using c23))
                  clear c23
                  have H' := Aside0.mk H
                  clear H
                  have p7318 : 0 ≤ (x43_2 : Int) := of_decide_eq_true (by first | (with_reducible assumption) | assumption)
                  have q7318 : x43_2 < (l1.length : Int) := of_decide_eq_true (by first | (with_reducible assumption) | assumption)
                  obtain ⟨ad7318, e7318, hx7318_0, hx7318_1, hx7318_2⟩ := at_T37 HR1.out x43_2 p7318 q7318
                  cases e7318
                  replace hx7318_0 := (HB.out.cell (World.block_lt_of_cell? w _ hx7318_0)).trans hx7318_0
                  replace hx7318_1 := (HB.out.cell (World.block_lt_of_cell? w _ hx7318_1)).trans hx7318_1
                  replace hx7318_2 := (HB.out.cell (World.block_lt_of_cell? w _ hx7318_2)).trans hx7318_2
                  replace p7318 := eq_true p7318
                  replace q7318 := eq_true q7318
                  have hcz25_0 : wr.cell? ⟨gb7317, 0, none⟩ = some (.int .i64 ((rd_T37 t7311 x36_1).f0)) := (blk_cell BK7317.out 0).trans rfl
                  have hcz25_1 : wr.cell? ⟨gb7317, 1, none⟩ = some (.int .i64 ((rd_T37 t7311 x36_1).f1)) := (blk_cell BK7317.out 1).trans rfl
                  have hcz25_2 : wr.cell? ⟨gb7317, 2, none⟩ = some (.int .i64 ((rd_T37 t7311 x36_1).f2)) := (blk_cell BK7317.out 2).trans rfl
                  have hfz25_0 := blk_frozen BK7317.out 0
                  have hfz25_1 := blk_frozen BK7317.out 1
                  have hfz25_2 := blk_frozen BK7317.out 2
                  have p7319 : 0 ≤ (x43_2 : Int) := of_decide_eq_true (by first | (with_reducible assumption) | assumption)
                  have q7319 : x43_2 < (t7311.length : Int) := of_decide_eq_true (by first | (with_reducible assumption) | assumption)
                  obtain ⟨ad7319, e7319, hx7319_0, hx7319_1, hx7319_2⟩ := at_T37 (Kd.R_reads' HO_5.out).2.2 x43_2 p7319 q7319
                  obtain rfl : ad7316 = ad7319 := (by injection e7319)
                  replace p7319 := eq_true p7319
                  replace q7319 := eq_true q7319
                  go_wp2
                  repeat (go_quiet (fail); try go_wp2)
                  go_roundg k2
                  case measure => have := HK1.out; have := HK2.out; omega
                  case rel => exact ⟨(wrap64 (x10_2 + 1)), (x11_2), (wrap64 (x43_2 + 1)), (by first | rfl | (simp; done) | (simp [*]; done)), (by first | rfl | (simp; done) | (simp [*]; done)), (by first | rfl | (simp; done) | (simp [*]; done)), H', ⟨by have := HK1.out; have := HK2.out; omega⟩, ⟨by (with_reducible repeat (first | apply Kd.R_alloc | apply Kd.R_drewN | apply Kd.R_drew)); exact HO_5.out⟩, ⟨by (with_reducible repeat (first | apply Kd.R_alloc | apply Kd.R_drewN | apply Kd.R_drew)); exact HO_34.out⟩, ⟨by (with_reducible repeat (first | refine blk_drewN ?_ _ | refine blk_drew ?_ | refine blk_alloc ?_ _)); exact BK7317.out⟩, ⟨by repeat (first | (with_reducible first | exact HB.out | apply below_alloc | apply pw_below_drewN | apply below_drew1 | refine below_set ?_ GE7317.out) | exact HB.out)⟩⟩
                ·rw [if_neg c22] at H
                 exact absurd H (by simp)
               ·rw [if_neg c21] at H
                have c21b0 : (((rd_T37 l1 x43_2).f0) == ((rd_T37 t7311 x36_1).f0) && (((rd_T37 l1 x43_2).f1) == ((rd_T37 t7311 x36_1).f1) && (((rd_T37 l1 x43_2).f2) == ((rd_T37 t7311 x36_1).f2)))) = false := by simpa using c21
                (try (have c21b1 : decide (((rd_T37 l1 x43_2).f0) = ((rd_T37 t7311 x36_1).f0) && (((rd_T37 l1 x43_2).f1) == ((rd_T37 t7311 x36_1).f1) && (((rd_T37 l1 x43_2).f2) == ((rd_T37 t7311 x36_1).f2)))) = false := by simpa using c21))
                (try (have c21b2 : (((rd_T37 l1 x43_2).f0) == ((rd_T37 t7311 x36_1).f0) && (((rd_T37 l1 x43_2).f1) == ((rd_T37 t7311 x36_1).f1) && (((rd_T37 l1 x43_2).f2) == ((rd_T37 t7311 x36_1).f2)))) = false := by simpa using c21))
                (try (have c21b3 : ¬ (((rd_T37 l1 x43_2).f0) = ((rd_T37 t7311 x36_1).f0) && (((rd_T37 l1 x43_2).f1) == ((rd_T37 t7311 x36_1).f1) && (((rd_T37 l1 x43_2).f2) == ((rd_T37 t7311 x36_1).f2)))) := by simpa using c21))
                clear c21
                by_cases c26 : x43_2 < (t7311.length : Int)
                ·rw [if_pos c26] at H
                 have c26b0 : decide (x43_2 < (t7311.length : Int)) = true := decide_eq_true c26
                 clear c26
                 by_cases c27 : (((rd_T37 t7311 x43_2).f0) == ((rd_T37 t7311 x36_1).f0) && (((rd_T37 t7311 x43_2).f1) == ((rd_T37 t7311 x36_1).f1) && (((rd_T37 t7311 x43_2).f2) == ((rd_T37 t7311 x36_1).f2)))) = true
                 ·rw [if_pos c27] at H
                  have c27b0 : (((rd_T37 t7311 x43_2).f0) == ((rd_T37 t7311 x36_1).f0) && (((rd_T37 t7311 x43_2).f1) == ((rd_T37 t7311 x36_1).f1) && (((rd_T37 t7311 x43_2).f2) == ((rd_T37 t7311 x36_1).f2)))) = true := c27
                  (try (have c27b1 : decide (((rd_T37 t7311 x43_2).f0) = ((rd_T37 t7311 x36_1).f0) && (((rd_T37 t7311 x43_2).f1) == ((rd_T37 t7311 x36_1).f1) && (((rd_T37 t7311 x43_2).f2) == ((rd_T37 t7311 x36_1).f2)))) = true := by simpa using c27))
                  (try (have c27b2 : (((rd_T37 t7311 x43_2).f0) == ((rd_T37 t7311 x36_1).f0) && (((rd_T37 t7311 x43_2).f1) == ((rd_T37 t7311 x36_1).f1) && (((rd_T37 t7311 x43_2).f2) == ((rd_T37 t7311 x36_1).f2)))) = true := by simpa using c27))
                  clear c27
                  have H' := Aside0.mk H
                  clear H
                  have p7318 : 0 ≤ (x43_2 : Int) := of_decide_eq_true (by first | (with_reducible assumption) | assumption)
                  have q7318 : x43_2 < (l1.length : Int) := of_decide_eq_true (by first | (with_reducible assumption) | assumption)
                  obtain ⟨ad7318, e7318, hx7318_0, hx7318_1, hx7318_2⟩ := at_T37 HR1.out x43_2 p7318 q7318
                  cases e7318
                  replace hx7318_0 := (HB.out.cell (World.block_lt_of_cell? w _ hx7318_0)).trans hx7318_0
                  replace hx7318_1 := (HB.out.cell (World.block_lt_of_cell? w _ hx7318_1)).trans hx7318_1
                  replace hx7318_2 := (HB.out.cell (World.block_lt_of_cell? w _ hx7318_2)).trans hx7318_2
                  replace p7318 := eq_true p7318
                  replace q7318 := eq_true q7318
                  have hcz28_0 : wr.cell? ⟨gb7317, 0, none⟩ = some (.int .i64 ((rd_T37 t7311 x36_1).f0)) := (blk_cell BK7317.out 0).trans rfl
                  have hcz28_1 : wr.cell? ⟨gb7317, 1, none⟩ = some (.int .i64 ((rd_T37 t7311 x36_1).f1)) := (blk_cell BK7317.out 1).trans rfl
                  have hcz28_2 : wr.cell? ⟨gb7317, 2, none⟩ = some (.int .i64 ((rd_T37 t7311 x36_1).f2)) := (blk_cell BK7317.out 2).trans rfl
                  have hfz28_0 := blk_frozen BK7317.out 0
                  have hfz28_1 := blk_frozen BK7317.out 1
                  have hfz28_2 := blk_frozen BK7317.out 2
                  have p7320 : 0 ≤ (x43_2 : Int) := of_decide_eq_true (by first | (with_reducible assumption) | assumption)
                  have q7320 : x43_2 < (t7311.length : Int) := of_decide_eq_true (by first | (with_reducible assumption) | assumption)
                  obtain ⟨ad7320, e7320, hx7320_0, hx7320_1, hx7320_2⟩ := at_T37 (Kd.R_reads' HO_5.out).2.2 x43_2 p7320 q7320
                  obtain rfl : ad7316 = ad7320 := (by injection e7320)
                  replace p7320 := eq_true p7320
                  replace q7320 := eq_true q7320
                  go_wp2
                  repeat (go_quiet (fail); try go_wp2)
                  go_roundg k2
                  case measure => have := HK1.out; have := HK2.out; omega
                  case rel => exact ⟨(x10_2), (wrap64 (x11_2 + 1)), (wrap64 (x43_2 + 1)), (by first | rfl | (simp; done) | (simp [*]; done)), (by first | rfl | (simp; done) | (simp [*]; done)), (by first | rfl | (simp; done) | (simp [*]; done)), H', ⟨by have := HK1.out; have := HK2.out; omega⟩, ⟨by (with_reducible repeat (first | apply Kd.R_alloc | apply Kd.R_drewN | apply Kd.R_drew)); exact HO_5.out⟩, ⟨by (with_reducible repeat (first | apply Kd.R_alloc | apply Kd.R_drewN | apply Kd.R_drew)); exact HO_34.out⟩, ⟨by (with_reducible repeat (first | refine blk_drewN ?_ _ | refine blk_drew ?_ | refine blk_alloc ?_ _)); exact BK7317.out⟩, ⟨by repeat (first | (with_reducible first | exact HB.out | apply below_alloc | apply pw_below_drewN | apply below_drew1 | refine below_set ?_ GE7317.out) | exact HB.out)⟩⟩
                 ·rw [if_neg c27] at H
                  have c27b0 : (((rd_T37 t7311 x43_2).f0) == ((rd_T37 t7311 x36_1).f0) && (((rd_T37 t7311 x43_2).f1) == ((rd_T37 t7311 x36_1).f1) && (((rd_T37 t7311 x43_2).f2) == ((rd_T37 t7311 x36_1).f2)))) = false := by simpa using c27
                  (try (have c27b1 : decide (((rd_T37 t7311 x43_2).f0) = ((rd_T37 t7311 x36_1).f0) && (((rd_T37 t7311 x43_2).f1) == ((rd_T37 t7311 x36_1).f1) && (((rd_T37 t7311 x43_2).f2) == ((rd_T37 t7311 x36_1).f2)))) = false := by simpa using c27))
                  (try (have c27b2 : (((rd_T37 t7311 x43_2).f0) == ((rd_T37 t7311 x36_1).f0) && (((rd_T37 t7311 x43_2).f1) == ((rd_T37 t7311 x36_1).f1) && (((rd_T37 t7311 x43_2).f2) == ((rd_T37 t7311 x36_1).f2)))) = false := by simpa using c27))
                  (try (have c27b3 : ¬ (((rd_T37 t7311 x43_2).f0) = ((rd_T37 t7311 x36_1).f0) && (((rd_T37 t7311 x43_2).f1) == ((rd_T37 t7311 x36_1).f1) && (((rd_T37 t7311 x43_2).f2) == ((rd_T37 t7311 x36_1).f2)))) := by simpa using c27))
                  clear c27
                  have H' := Aside0.mk H
                  clear H
                  have p7318 : 0 ≤ (x43_2 : Int) := of_decide_eq_true (by first | (with_reducible assumption) | assumption)
                  have q7318 : x43_2 < (l1.length : Int) := of_decide_eq_true (by first | (with_reducible assumption) | assumption)
                  obtain ⟨ad7318, e7318, hx7318_0, hx7318_1, hx7318_2⟩ := at_T37 HR1.out x43_2 p7318 q7318
                  cases e7318
                  replace hx7318_0 := (HB.out.cell (World.block_lt_of_cell? w _ hx7318_0)).trans hx7318_0
                  replace hx7318_1 := (HB.out.cell (World.block_lt_of_cell? w _ hx7318_1)).trans hx7318_1
                  replace hx7318_2 := (HB.out.cell (World.block_lt_of_cell? w _ hx7318_2)).trans hx7318_2
                  replace p7318 := eq_true p7318
                  replace q7318 := eq_true q7318
                  have hcz29_0 : wr.cell? ⟨gb7317, 0, none⟩ = some (.int .i64 ((rd_T37 t7311 x36_1).f0)) := (blk_cell BK7317.out 0).trans rfl
                  have hcz29_1 : wr.cell? ⟨gb7317, 1, none⟩ = some (.int .i64 ((rd_T37 t7311 x36_1).f1)) := (blk_cell BK7317.out 1).trans rfl
                  have hcz29_2 : wr.cell? ⟨gb7317, 2, none⟩ = some (.int .i64 ((rd_T37 t7311 x36_1).f2)) := (blk_cell BK7317.out 2).trans rfl
                  have hfz29_0 := blk_frozen BK7317.out 0
                  have hfz29_1 := blk_frozen BK7317.out 1
                  have hfz29_2 := blk_frozen BK7317.out 2
                  have p7320 : 0 ≤ (x43_2 : Int) := of_decide_eq_true (by first | (with_reducible assumption) | assumption)
                  have q7320 : x43_2 < (t7311.length : Int) := of_decide_eq_true (by first | (with_reducible assumption) | assumption)
                  obtain ⟨ad7320, e7320, hx7320_0, hx7320_1, hx7320_2⟩ := at_T37 (Kd.R_reads' HO_5.out).2.2 x43_2 p7320 q7320
                  obtain rfl : ad7316 = ad7320 := (by injection e7320)
                  replace p7320 := eq_true p7320
                  replace q7320 := eq_true q7320
                  go_wp2
                  repeat (go_quiet (fail); try go_wp2)
                  go_roundg k2
                  case measure => have := HK1.out; have := HK2.out; omega
                  case rel => exact ⟨(x10_2), (x11_2), (wrap64 (x43_2 + 1)), (by first | rfl | (simp; done) | (simp [*]; done)), (by first | rfl | (simp; done) | (simp [*]; done)), (by first | rfl | (simp; done) | (simp [*]; done)), H', ⟨by have := HK1.out; have := HK2.out; omega⟩, ⟨by (with_reducible repeat (first | apply Kd.R_alloc | apply Kd.R_drewN | apply Kd.R_drew)); exact HO_5.out⟩, ⟨by (with_reducible repeat (first | apply Kd.R_alloc | apply Kd.R_drewN | apply Kd.R_drew)); exact HO_34.out⟩, ⟨by (with_reducible repeat (first | refine blk_drewN ?_ _ | refine blk_drew ?_ | refine blk_alloc ?_ _)); exact BK7317.out⟩, ⟨by repeat (first | (with_reducible first | exact HB.out | apply below_alloc | apply pw_below_drewN | apply below_drew1 | refine below_set ?_ GE7317.out) | exact HB.out)⟩⟩
                ·rw [if_neg c26] at H
                 exact absurd H (by simp)
              ·rw [if_neg c20] at H
               exact absurd H (by simp)
             ·rw [if_neg c19] at H
              exact absurd H (by simp)
            ·rw [if_neg c18] at H
             have c18b0 : decide (x43_2 < (l1.length : Int)) = false := decide_eq_false c18
             clear c18
             by_cases c30 : x10_2 = x11_2
             ·rw [if_pos c30] at H
              have c30b0 : (x10_2 == x11_2) = true := beq_iff_eq.mpr c30
              have c30b1 : (x10_2 != x11_2) = false := bne_eq_false_iff_eq.mpr c30
              clear c30
              have HC31 := Aside0.mk H
              clear H
              go_upto_region 25 with (fail)
              repeat (go_quiet (fail); go_upto_region 25 with (fail))
              go_cut [78] (fun v78 wc => ∃ (kq : Nat) (x78_30 : Bool), v78 = .bool x78_30 ∧ Aside0 (caulklaw40_ElevatorOnce.j2 kq a0 l1 t7311 x7_1 t7311 (t7311.length : Int) x36_1 x78_30 ((rd_T37 t7311 x36_1).f0) ((rd_T37 t7311 x36_1).f1) ((rd_T37 t7311 x36_1).f2) = some r) ∧ Aside0 (kq ≤ k2) ∧ Aside0 (Kd.R k37 37 wc w.heap.size (fun k_ => k_ ≠ gb7317) (.slice (some ad7316) t7311.length co12) t7311) ∧ Aside0 (Kd.R k37 37 wc w.heap.size (fun k_ => k_ ≠ gb7317) (.slice (some ad7316) t7311.length co12) t7311) ∧ Aside0 (wc.heap[gb7317]? = some (.cells #[.int .i64 ((rd_T37 t7311 x36_1).f0), .int .i64 ((rd_T37 t7311 x36_1).f1), .int .i64 ((rd_T37 t7311 x36_1).f2)] 37 (0, 0))) ∧ Aside0 (Below w.heap.size w wc))
              case first =>
               have H := HC31.out
               clear HC31
               by_cases c32 : x36_1 > 0
               ·rw [if_pos c32] at H
                have c32b0 : decide (0 < x36_1) = true := decide_eq_true c32
                clear c32
                (first | rw [c32b0] | (simp only [i64_w, i32_w]; rw [c32b0]) | skip)
                obtain ⟨ji33, hji33⟩ : ∃ j_ : Int, (wrap64 (x36_1 - 1)) = j_ := ⟨_, rfl⟩
                replace H : (if 0 ≤ (ji33) then (if (ji33) < (t7311.length : Int) then (caulklaw40_ElevatorOnce.j2 k2 a0 l1 t7311 x7_1 t7311 (t7311.length : Int) x36_1 (decide (((rd_T37 t7311 (ji33)).f0) > ((rd_T37 t7311 x36_1).f0))) ((rd_T37 t7311 x36_1).f0) ((rd_T37 t7311 x36_1).f1) ((rd_T37 t7311 x36_1).f2)) else (none)) else (none)) = some r := by first | (rw [hji33] at H; exact H) | (simp only [hji33] at H ⊢; exact H)
                have hji33w : (IntKind.i64.wrap (x36_1 - 1)) = ji33 := (i64_w _).trans hji33
                by_cases c34 : 0 ≤ (ji33)
                ·rw [if_pos c34] at H
                 have c34b0 : decide (0 ≤ (ji33)) = true := decide_eq_true c34
                 clear c34
                 by_cases c35 : (ji33) < (t7311.length : Int)
                 ·rw [if_pos c35] at H
                  have c35b0 : decide ((ji33) < (t7311.length : Int)) = true := decide_eq_true c35
                  clear c35
                  have H' := Aside0.mk H
                  clear H
                  have p7321 : 0 ≤ ((ji33) : Int) := of_decide_eq_true (by first | (with_reducible assumption) | assumption)
                  have q7321 : (ji33) < (t7311.length : Int) := of_decide_eq_true (by first | (with_reducible assumption) | assumption)
                  obtain ⟨ad7321, e7321, hx7321_0, hx7321_1, hx7321_2⟩ := at_T37 (Kd.R_reads' HO_5.out).2.2 (ji33) p7321 q7321
                  obtain rfl : ad7316 = ad7321 := (by injection e7321)
                  replace p7321 := eq_true p7321
                  replace q7321 := eq_true q7321
                  have hcz36_0 : wr.cell? ⟨gb7317, 0, none⟩ = some (.int .i64 ((rd_T37 t7311 x36_1).f0)) := (blk_cell BK7317.out 0).trans rfl
                  have hcz36_1 : wr.cell? ⟨gb7317, 1, none⟩ = some (.int .i64 ((rd_T37 t7311 x36_1).f1)) := (blk_cell BK7317.out 1).trans rfl
                  have hcz36_2 : wr.cell? ⟨gb7317, 2, none⟩ = some (.int .i64 ((rd_T37 t7311 x36_1).f2)) := (blk_cell BK7317.out 2).trans rfl
                  have hfz36_0 := blk_frozen BK7317.out 0
                  have hfz36_1 := blk_frozen BK7317.out 1
                  have hfz36_2 := blk_frozen BK7317.out 2
                  go_wp2
                  repeat (go_quiet (fail); try go_wp2)
                  go_meet
                  case rel => exact ⟨_, (decide (((rd_T37 t7311 (ji33)).f0) > ((rd_T37 t7311 x36_1).f0))), (by first | rfl | (simp; done) | (simp only [← hji33] <;> (first | rfl | simp)) | (simp [*]; done)), H', ⟨by have := HK1.out; have := HK2.out; first | omega | exact Nat.le_refl _⟩, ⟨by (with_reducible repeat (first | apply Kd.R_alloc | apply Kd.R_drewN | apply Kd.R_drew)); exact HO_5.out⟩, ⟨by (with_reducible repeat (first | apply Kd.R_alloc | apply Kd.R_drewN | apply Kd.R_drew)); exact HO_34.out⟩, ⟨by (with_reducible repeat (first | refine blk_drewN ?_ _ | refine blk_drew ?_ | refine blk_alloc ?_ _)); exact BK7317.out⟩, ⟨by repeat (first | (with_reducible first | exact HB.out | apply below_alloc | apply pw_below_drewN | apply below_drew1 | refine below_set ?_ GE7317.out) | exact HB.out)⟩⟩
                 ·rw [if_neg c35] at H
                  exact absurd H (by simp)
                ·rw [if_neg c34] at H
                 exact absurd H (by simp)
               ·rw [if_neg c32] at H
                have c32b0 : decide (0 < x36_1) = false := decide_eq_false c32
                clear c32
                (first | rw [c32b0] | (simp only [i64_w, i32_w]; rw [c32b0]) | skip)
                have H' := Aside0.mk H
                clear H
                go_wp2
                repeat (go_quiet (fail); try go_wp2)
                go_meet
                case rel => exact ⟨_, (false), (by first | rfl | (simp; done) | (simp [*]; done)), H', ⟨by have := HK1.out; have := HK2.out; first | omega | exact Nat.le_refl _⟩, ⟨by (with_reducible repeat (first | apply Kd.R_alloc | apply Kd.R_drewN | apply Kd.R_drew)); exact HO_5.out⟩, ⟨by (with_reducible repeat (first | apply Kd.R_alloc | apply Kd.R_drewN | apply Kd.R_drew)); exact HO_34.out⟩, ⟨by (with_reducible repeat (first | refine blk_drewN ?_ _ | refine blk_drew ?_ | refine blk_alloc ?_ _)); exact BK7317.out⟩, ⟨by repeat (first | (with_reducible first | exact HB.out | apply below_alloc | apply pw_below_drewN | apply below_drew1 | refine below_set ?_ GE7317.out) | exact HB.out)⟩⟩
              case rest =>
               clear HC31
               try clear c1
               try clear c2
               try clear p2
               try clear c3
               try clear c4
               try clear c5
               try clear c5b0
               try clear c5b1
               try clear p6
               try clear p7
               try clear q7
               try clear hx7
               try clear c8
               try clear c8b0
               try clear c8b1
               try clear c9
               try clear c9b0
               try clear c9b1
               try clear c9b2
               try clear c13
               try clear c13b0
               try clear c14
               try clear c14b0
               try clear c15
               try clear c15b0
               try clear c18
               try clear c18b0
               try clear c19
               try clear c19b0
               try clear c20
               try clear c20b0
               try clear c21
               try clear c21b0
               try clear c21b1
               try clear c21b2
               try clear c22
               try clear c22b0
               try clear c23
               try clear c23b0
               try clear c23b1
               try clear c23b2
               try clear c26
               try clear c26b0
               try clear c27
               try clear c27b0
               try clear c27b1
               try clear c27b2
               try clear c30
               try clear c30b0
               try clear c30b1
               try clear c32
               try clear c32b0
               try clear c34
               try clear c34b0
               try clear c35
               try clear c35b0
               try clear hcz17_0
               try clear hcz17_1
               try clear hcz17_2
               try clear hcz24_0
               try clear hcz24_1
               try clear hcz24_2
               try clear hcz25_0
               try clear hcz25_1
               try clear hcz25_2
               try clear hcz28_0
               try clear hcz28_1
               try clear hcz28_2
               try clear hcz29_0
               try clear hcz29_1
               try clear hcz29_2
               try clear hcz36_0
               try clear hcz36_1
               try clear hcz36_2
               try clear hfz17_0
               try clear hfz17_1
               try clear hfz17_2
               try clear hfz24_0
               try clear hfz24_1
               try clear hfz24_2
               try clear hfz25_0
               try clear hfz25_1
               try clear hfz25_2
               try clear hfz28_0
               try clear hfz28_1
               try clear hfz28_2
               try clear hfz29_0
               try clear hfz29_1
               try clear hfz29_2
               try clear hfz36_0
               try clear hfz36_1
               try clear hfz36_2
               try clear hx7316_0
               try clear hx7316_1
               try clear hx7316_2
               try clear hx7318_0
               try clear hx7318_1
               try clear hx7318_2
               try clear hx7319_0
               try clear hx7319_1
               try clear hx7319_2
               try clear hx7320_0
               try clear hx7320_1
               try clear hx7320_2
               try clear hx7321_0
               try clear hx7321_1
               try clear hx7321_2
               try clear p2
               try clear p7
               try clear p7316
               try clear p7318
               try clear p7319
               try clear p7320
               try clear p7321
               try clear q7
               try clear q7316
               try clear q7318
               try clear q7319
               try clear q7320
               try clear q7321
               obtain ⟨kq, x78_30, rfl, HA, HJ30, HO_5, HO_34, BK7317, HB⟩ := hcut
               cases kq with
               | zero => exact absurd HA.out (by simp [caulklaw40_ElevatorOnce.j2])
               | succ kj30 =>
                have H := HA.out
                clear HA
                simp only [caulklaw40_ElevatorOnce.j2] at H
                by_cases c37 : x78_30 = true
                ·subst c37
                 have H1 : (if ((rd_T37 t7311 x36_1).f0) ≥ a0 then (some false) else (caulklaw40_ElevatorOnce.l0 kj30 a0 l1 t7311 (wrap64 (x7_1 + 1)) t7311 (t7311.length : Int) (wrap64 (x36_1 + 1)))) = some r := by rw [if_pos rfl] at H; exact H
                 clear H
                 have H := H1
                 clear H1
                 by_cases c38 : ((rd_T37 t7311 x36_1).f0) ≥ a0
                 ·rw [if_pos c38] at H
                  have c38b0 : decide (a0 ≤ ((rd_T37 t7311 x36_1).f0)) = true := decide_eq_true c38
                  clear c38
                  exact absurd ((Option.some.inj H).trans hrt.out) (by simp)
                 ·rw [if_neg c38] at H
                  have c38b0 : decide (a0 ≤ ((rd_T37 t7311 x36_1).f0)) = false := decide_eq_false c38
                  clear c38
                  have H' := Aside0.mk H
                  clear H
                  have hcz39_0 : wc.cell? ⟨gb7317, 0, none⟩ = some (.int .i64 ((rd_T37 t7311 x36_1).f0)) := (blk_cell BK7317.out 0).trans rfl
                  have hcz39_1 : wc.cell? ⟨gb7317, 1, none⟩ = some (.int .i64 ((rd_T37 t7311 x36_1).f1)) := (blk_cell BK7317.out 1).trans rfl
                  have hcz39_2 : wc.cell? ⟨gb7317, 2, none⟩ = some (.int .i64 ((rd_T37 t7311 x36_1).f2)) := (blk_cell BK7317.out 2).trans rfl
                  have hfz39_0 := blk_frozen BK7317.out 0
                  have hfz39_1 := blk_frozen BK7317.out 1
                  have hfz39_2 := blk_frozen BK7317.out 2
                  go_wp2
                  repeat (go_quiet (fail); try go_wp2)
                  go_roundg kj30
                  case measure => have := HK1.out; have := HK2.out; have := HJ30.out; omega
                  case rel => exact ⟨(wrap64 (x7_1 + 1)), (wrap64 (x36_1 + 1)), (by first | rfl | (simp; done) | (simp [*]; done)), (by first | rfl | (simp; done) | (simp [*]; done)), H', ⟨by have := HK1.out; have := HK2.out; have := HJ30.out; omega⟩, ⟨by (with_reducible repeat (first | apply Kd.R_alloc | apply Kd.R_drewN | apply Kd.R_drew)); exact Kd.R_mono HO_5.out (fun _ hk => trivial)⟩, ⟨by (with_reducible repeat (first | apply Kd.R_alloc | apply Kd.R_drewN | apply Kd.R_drew)); exact Kd.R_mono HO_34.out (fun _ hk => trivial)⟩, ⟨by repeat (first | (with_reducible first | exact HB.out | apply below_alloc | apply pw_below_drewN | apply below_drew1 | refine below_set ?_ GE7317.out) | exact HB.out)⟩⟩
                ·replace c37 := Bool.eq_false_iff.mpr c37
                 subst c37
                 have H1 : (caulklaw40_ElevatorOnce.l0 kj30 a0 l1 t7311 x7_1 t7311 (t7311.length : Int) (wrap64 (x36_1 + 1))) = some r := by rw [if_neg (show ¬ (false = true) by decide)] at H; exact H
                 clear H
                 have H := H1
                 clear H1
                 have H' := Aside0.mk H
                 clear H
                 go_wp2
                 repeat (go_quiet (fail); try go_wp2)
                 go_roundg kj30
                 case measure => have := HK1.out; have := HK2.out; have := HJ30.out; omega
                 case rel => exact ⟨(x7_1), (wrap64 (x36_1 + 1)), (by first | rfl | (simp; done) | (simp [*]; done)), (by first | rfl | (simp; done) | (simp [*]; done)), H', ⟨by have := HK1.out; have := HK2.out; have := HJ30.out; omega⟩, ⟨by (with_reducible repeat (first | apply Kd.R_alloc | apply Kd.R_drewN | apply Kd.R_drew)); exact Kd.R_mono HO_5.out (fun _ hk => trivial)⟩, ⟨by (with_reducible repeat (first | apply Kd.R_alloc | apply Kd.R_drewN | apply Kd.R_drew)); exact Kd.R_mono HO_34.out (fun _ hk => trivial)⟩, ⟨by repeat (first | (with_reducible first | exact HB.out | apply below_alloc | apply pw_below_drewN | apply below_drew1 | refine below_set ?_ GE7317.out) | exact HB.out)⟩⟩
             ·rw [if_neg c30] at H
              have c30b0 : (x10_2 == x11_2) = false := beq_eq_false_iff_ne.mpr c30
              have c30b1 : (x10_2 != x11_2) = true := bne_iff_ne.mpr c30
              exact absurd ((Option.some.inj H).trans hrt.out) (by simp)
         ·rw [if_neg c15] at H
          exact absurd H (by simp)
        ·rw [if_neg c14] at H
         exact absurd H (by simp)
       ·rw [if_neg c13] at H
        have c13b0 : decide (x36_1 < (t7311.length : Int)) = false := decide_eq_false c13
        clear c13
        by_cases c40 : x7_1 ≤ 1
        ·rw [if_pos c40] at H
         have c40b0 : decide (x7_1 ≤ 1) = true := decide_eq_true c40
         clear c40
         by_cases c41 : x7_1 = 0
         ·rw [if_pos c41] at H
          have c41b0 : (x7_1 == 0) = true := beq_iff_eq.mpr c41
          have c41b1 : (x7_1 != 0) = false := bne_eq_false_iff_eq.mpr c41
          clear c41
          obtain rfl := Option.some.inj H
          go_wp2
          repeat (go_quiet (fail); try go_wp2)
          go_ret
          exact ⟨by first | rfl | (simp [errW_none, errW_some] <;> rfl) | (simp [*, errW_none, errW_some] <;> rfl), by repeat (first | (with_reducible first | exact HB.out | apply below_alloc | apply pw_below_drewN | apply below_drew1) | exact HB.out)⟩
         ·rw [if_neg c41] at H
          have c41b0 : (x7_1 == 0) = false := beq_eq_false_iff_ne.mpr c41
          have c41b1 : (x7_1 != 0) = true := bne_iff_ne.mpr c41
          by_cases c42 : 0 < (t7311.length : Int)
          ·rw [if_pos c42] at H
           have c42b0 : decide (0 < (t7311.length : Int)) = true := decide_eq_true c42
           have c42b1 : decide (0 < t7311.length) = true := decide_eq_true (by omega)
           clear c42
           obtain rfl := Option.some.inj H
           have p7315 : 0 ≤ (0 : Int) := (by omega)
           have q7315 : 0 < (t7311.length : Int) := of_decide_eq_true (by first | (with_reducible assumption) | assumption)
           obtain ⟨ad7315, e7315, hx7315_0, hx7315_1, hx7315_2⟩ := at_T37 (Kd.R_reads' HO_5.out).2.2 0 p7315 q7315
           cases e7315
           have qi7315 : (0 < t7311.length) = True := eq_true (by omega)
           (try rw [show ((0 : Int)).toNat = 0 from rfl] at hx7315_0)
           (try rw [show 0 * 3 = 0 from rfl] at hx7315_0)
           (try rw [Addr.add_zero'] at hx7315_0)
           (try rw [show ((0 : Int)).toNat = 0 from rfl] at hx7315_1)
           (try rw [show 0 * 3 = 0 from rfl] at hx7315_1)
           (try rw [Addr.add_zero'] at hx7315_1)
           (try rw [show ((0 : Int)).toNat = 0 from rfl] at hx7315_2)
           (try rw [show 0 * 3 = 0 from rfl] at hx7315_2)
           (try rw [Addr.add_zero'] at hx7315_2)
           replace p7315 := eq_true p7315
           replace q7315 := eq_true q7315
           go_wp2
           repeat (go_quiet (fail); try go_wp2)
           go_ret
           exact ⟨by first | rfl | (simp [errW_none, errW_some] <;> rfl) | (simp [*, errW_none, errW_some] <;> rfl), by repeat (first | (with_reducible first | exact HB.out | apply below_alloc | apply pw_below_drewN | apply below_drew1) | exact HB.out)⟩
          ·rw [if_neg c42] at H
           exact absurd H (by simp)
        ·rw [if_neg c40] at H
         have c40b0 : decide (x7_1 ≤ 1) = false := decide_eq_false c40
         clear c40
         exact absurd ((Option.some.inj H).trans hrt.out) (by simp)
    ·rw [if_neg c9] at H
     have c9b0 : ((t7311.length : Int) == (l1.length : Int)) = false := beq_eq_false_iff_ne.mpr c9
     have c9b1 : ((t7311.length : Int) != (l1.length : Int)) = true := bne_iff_ne.mpr c9
     have c9b2 : (t7311.length == l1.length) = false := by first | simpa using c9 | (simp at c9 ⊢; omega)
     exact absurd ((Option.some.inj H).trans hrt.out) (by simp)
   ·rw [if_neg c8] at H
    have c8b0 : (t7312 == 0) = false := beq_eq_false_iff_ne.mpr c8
    have c8b1 : (t7312 != 0) = true := bne_iff_ne.mpr c8
    obtain rfl := Option.some.inj H
    go_enter Try.func4, Try.ntmps4
    (try simp only [List.append_eq, List.cons_append, List.nil_append])
    go_wp2_with (first | ((with_reducible refine HOpen.gate_append ?_); simp only [List.cons_append, List.nil_append]) | (go_at_call 13; (with_reducible refine (caulklaw40_lives.calls  true _ A3.out).mono ?_); rintro e w43 ⟨rfl, hb⟩; have n0_ := Aside0.mk (below_step (by repeat (first | (with_reducible first | exact HB.out | apply below_alloc | apply pw_below_drewN | apply below_drew1) | exact HB.out)) hb); clear HB; have HB := n0_; clear n0_; (try clear hb); (try clear hb2); (try clear hk); (try clear hi)) | (go_at_call 14; (with_reducible refine (elevator_Order.calls k a0 _ _ l1 t7311 t7312 _ ?side1 ?side2 A7.out).mono ?_); (case side1 => repeat (first | exact (Kd.C_below HR1.out HB.out) | (with_reducible refine Kd.C_alloc ?_ _) | (with_reducible refine Kd.C_drewN ?_ _) | (with_reducible refine Kd.C_drew ?_))); (case side2 => exact HC1.out); rintro e w44 ⟨v7313, rfl, ho0, hb⟩; have n0_ := Aside0.mk (Kd.R_lower ho0 (below_size (by repeat (first | (with_reducible first | exact HB.out | apply below_alloc | apply pw_below_drewN | apply below_drew1) | exact HB.out)))); have n1_ := Aside0.mk (below_step (by repeat (first | (with_reducible first | exact HB.out | apply below_alloc | apply pw_below_drewN | apply below_drew1) | exact HB.out)) hb); clear HB; have HO7314 := n0_; have HB := n1_; clear n0_ n1_; (try clear hb); (try clear hb2); (try clear hk); (try clear hi); (try clear ho0); obtain ⟨Ao45, co45, eo45⟩ := Kd.R_slice HO7314.out; subst eo45))
    repeat (go_quiet (first | (go_at_call 13; (with_reducible refine (caulklaw40_lives.calls  true _ A3.out).mono ?_); rintro e w43 ⟨rfl, hb⟩; have n0_ := Aside0.mk (below_step (by repeat (first | (with_reducible first | exact HB.out | apply below_alloc | apply pw_below_drewN | apply below_drew1) | exact HB.out)) hb); clear HB; have HB := n0_; clear n0_; (try clear hb); (try clear hb2); (try clear hk); (try clear hi)) | (go_at_call 14; (with_reducible refine (elevator_Order.calls k a0 _ _ l1 t7311 t7312 _ ?side1 ?side2 A7.out).mono ?_); (case side1 => repeat (first | exact (Kd.C_below HR1.out HB.out) | (with_reducible refine Kd.C_alloc ?_ _) | (with_reducible refine Kd.C_drewN ?_ _) | (with_reducible refine Kd.C_drew ?_))); (case side2 => exact HC1.out); rintro e w44 ⟨v7313, rfl, ho0, hb⟩; have n0_ := Aside0.mk (Kd.R_lower ho0 (below_size (by repeat (first | (with_reducible first | exact HB.out | apply below_alloc | apply pw_below_drewN | apply below_drew1) | exact HB.out)))); have n1_ := Aside0.mk (below_step (by repeat (first | (with_reducible first | exact HB.out | apply below_alloc | apply pw_below_drewN | apply below_drew1) | exact HB.out)) hb); clear HB; have HO7314 := n0_; have HB := n1_; clear n0_ n1_; (try clear hb); (try clear hb2); (try clear hk); (try clear hi); (try clear ho0); obtain ⟨Ao45, co45, eo45⟩ := Kd.R_slice HO7314.out; subst eo45)); try go_wp2_with (first | ((with_reducible refine HOpen.gate_append ?_); simp only [List.cons_append, List.nil_append]) | (go_at_call 13; (with_reducible refine (caulklaw40_lives.calls  true _ A3.out).mono ?_); rintro e w43 ⟨rfl, hb⟩; have n0_ := Aside0.mk (below_step (by repeat (first | (with_reducible first | exact HB.out | apply below_alloc | apply pw_below_drewN | apply below_drew1) | exact HB.out)) hb); clear HB; have HB := n0_; clear n0_; (try clear hb); (try clear hb2); (try clear hk); (try clear hi)) | (go_at_call 14; (with_reducible refine (elevator_Order.calls k a0 _ _ l1 t7311 t7312 _ ?side1 ?side2 A7.out).mono ?_); (case side1 => repeat (first | exact (Kd.C_below HR1.out HB.out) | (with_reducible refine Kd.C_alloc ?_ _) | (with_reducible refine Kd.C_drewN ?_ _) | (with_reducible refine Kd.C_drew ?_))); (case side2 => exact HC1.out); rintro e w44 ⟨v7313, rfl, ho0, hb⟩; have n0_ := Aside0.mk (Kd.R_lower ho0 (below_size (by repeat (first | (with_reducible first | exact HB.out | apply below_alloc | apply pw_below_drewN | apply below_drew1) | exact HB.out)))); have n1_ := Aside0.mk (below_step (by repeat (first | (with_reducible first | exact HB.out | apply below_alloc | apply pw_below_drewN | apply below_drew1) | exact HB.out)) hb); clear HB; have HO7314 := n0_; have HB := n1_; clear n0_ n1_; (try clear hb); (try clear hb2); (try clear hk); (try clear hi); (try clear ho0); obtain ⟨Ao45, co45, eo45⟩ := Kd.R_slice HO7314.out; subst eo45)))
    go_ret
    exact ⟨by first | rfl | (simp [errW_none, errW_some] <;> rfl) | (simp [*, errW_none, errW_some] <;> rfl), by repeat (first | (with_reducible first | exact HB.out | apply below_alloc | apply pw_below_drewN | apply below_drew1) | exact HB.out)⟩
 ·replace c4 := Bool.eq_false_iff.mpr c4
  subst c4
  have H1 : (some false) = some r := by rw [if_neg (show ¬ (false = true) by decide)] at H; exact H
  clear H
  have H := H1
  clear H1
  exact absurd ((Option.some.inj H).trans hrt.out) (by simp)

def caulklaw40_ElevatorOnce.Pure : Prop := ∀ (a0 : Int) (l1 : List (S37)), (Lit.int .i64 a0).wf = true → (l1.length ≤ maxLen ∧ l1.length * 24 ≤ 140737488351232 ∧ ∀ z0 ∈ l1, wf37 z0) → ∃ k, caulklaw40_ElevatorOnce.f k a0 l1 = some true
theorem caulklaw40_ElevatorOnce.walk (P : caulklaw40_ElevatorOnce.Pure) (a0 : Int) (A1 : Option Addr) (c1 : Nat) (l1 : List (S37)) (w : World) (hr1 : Kd.C k37 w A1 l1.length l1) (hc1 : l1.length ≤ c1) (hw0 : (Lit.int .i64 a0).wf = true) (hw1 : (l1.length ≤ maxLen ∧ l1.length * 24 ≤ 140737488351232 ∧ ∀ z0 ∈ l1, wf37 z0)) :
  Calls Try.prog 4 #[.int .i64 a0, .slice A1 l1.length c1] w fun e w' => e = .returned (.bool true) ∧ Below w.heap.size w w' := by
 obtain ⟨k, h⟩ := P a0 l1 hw0 hw1
 refine (caulklaw40_ElevatorOnce.calls k a0 A1 c1 l1 true w hr1 hc1 ⟨rfl⟩ h).mono ?_
 rintro e w' ⟨rfl, hd⟩
 exact ⟨rfl, hd⟩

end Go.Proofs.Ytgahpdoiddhdaaa.HElev
