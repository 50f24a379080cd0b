/- WRITTEN BY wip/hyb.py, a program of this workplace (out of the kit's printer and this workplace's own contracts). -/
import Derived.Test.YtgahpdoiddhdaaaGElevx0
import Derived.Test.YtgahpdoiddhdaaaGElevx3
import Derived.Test.YtgahpdoiddhdaaaGElevx7
import Derived.Test.YtgahpdoiddhdaaaGElevx8
import Derived.Test.YtgahpdoiddhdaaaGElevx9
import Derived.Test.YtgahpdoiddhdaaaGElevx10
import Derived.Test.YtgahpdoiddhdaaaGElevx11
namespace Go.Proofs.Ytgahpdoiddhdaaa.HElev
open Go.RowKit Go.Proofs.YtgahpdoiddhdaaaW.PrintWords Go.Proofs.YtgahpdoiddhdaaaW.PrintLast Go.Proofs.YtgahpdoiddhdaaaW.PrintMore
attribute [local go_sem] max2_int min2_int max_two min_two max_three min_three max_four min_four   -- for this text's walks alone
set_option linter.unusedVariables false
set_option linter.unusedSimpArgs false

def caulklaw40_ElevatorTells.f (k : Nat) (a0 : Int) (l1 : List (S37)) : Option (Bool) := if (l1.length : Int) > 40 then ((caulklaw40_lives.f).bind fun t7284 => (some t7284)) else ((elevator_Order.f k a0 l1).bind fun bt7285 => ((caulkref40_Order.f k a0 l1).bind fun bt7289 => ((elevator_Runs.f k l1).bind fun bt7293 => ((caulkref40_Runs.f k l1).bind fun bt7297 => ((elevator_Way.f k a0 l1).bind fun bt7301 => ((caulkref40_Way.f k a0 l1).bind fun bt7303 => ((caulklaw40_lives.f).bind fun t7305 => (if t7305 = true then ((elevator_Check.f k l1).bind fun t7306 => ((caulkref40_Check.f k l1).bind fun t7307 => (if t7306 = t7307 then ((caulkref40_Same.f k bt7285.1 bt7289.1).bind fun t7308 => (if t7308 = true then (if bt7285.2 = bt7289.2 then ((caulkref19_SameRanges.f k bt7293.1 bt7297.1).bind fun t7309 => (if t7309 = true then (if bt7293.2 = bt7297.2 then (if bt7301.1 = bt7303.1 then (some (bt7301.2 == bt7303.2)) else (some false)) else (some false)) else (some false))) else (some false)) else (some false))) else (some false)))) else (some false)))))))))
theorem caulklaw40_ElevatorTells.mono : ∀ a0 a1 k, LeO (caulklaw40_ElevatorTells.f k a0 a1) (caulklaw40_ElevatorTells.f (k + 1) a0 a1) := by
 intro a0 a1 k
 unfold caulklaw40_ElevatorTells.f
 repeat' first
   | (with_reducible exact caulkref19_SameRanges.mono _ _ _)
   | (with_reducible exact caulkref40_Check.mono _ _)
   | (with_reducible exact caulkref40_Order.mono _ _ _)
   | (with_reducible exact caulkref40_Runs.mono _ _)
   | (with_reducible exact caulkref40_Same.mono _ _ _)
   | (with_reducible exact caulkref40_Way.mono _ _ _)
   | (with_reducible exact elevator_Check.mono _ _)
   | (with_reducible exact elevator_Order.mono _ _ _)
   | (with_reducible exact elevator_Runs.mono _ _)
   | (with_reducible exact elevator_Way.mono _ _ _)
   | (with_reducible exact LeO.refl _)
   | (with_reducible exact LeO.none _)
   | (with_reducible refine LeO.ite ?_ ?_)
   | (with_reducible refine LeO.bind ?_ (fun _ => ?_))
   | exact caulkref19_SameRanges.mono _ _ _
   | exact caulkref40_Check.mono _ _
   | exact caulkref40_Order.mono _ _ _
   | exact caulkref40_Runs.mono _ _
   | exact caulkref40_Same.mono _ _ _
   | exact caulkref40_Way.mono _ _ _
   | exact elevator_Check.mono _ _
   | exact elevator_Order.mono _ _ _
   | exact elevator_Runs.mono _ _
   | exact elevator_Way.mono _ _ _
   | exact LeO.none _
   | refine LeO.ite ?_ ?_
   | refine LeO.bind ?_ (fun _ => ?_)
set_option maxHeartbeats 8000000 in
set_option maxRecDepth 100000 in
theorem caulklaw40_ElevatorTells.calls (k : Nat) (a0 : Int) (A1 : Option Addr) (c1 : Nat) (l1 : List (S37)) (r : Bool) (w : World) (hr1 : Kd.C k37 w A1 l1.length l1) (hc1 : l1.length ≤ c1) (hrt : Aside0 (r = true)) (h : caulklaw40_ElevatorTells.f k a0 l1 = some r) :
  Calls Try.prog 3 #[.int .i64 a0, .slice A1 l1.length c1] w fun e w' => e = .returned (.bool r) ∧ Below w.heap.size w w' := by
 have HR1 := Aside0.mk hr1
 have HC1 := Aside0.mk hc1
 clear hr1 hc1
 have HB := Aside0.mk (Below.refl w.heap.size w)
 have H : (if (l1.length : Int) > 40 then ((caulklaw40_lives.f).bind fun t7284 => (some t7284)) else ((elevator_Order.f k a0 l1).bind fun bt7285 => ((caulkref40_Order.f k a0 l1).bind fun bt7289 => ((elevator_Runs.f k l1).bind fun bt7293 => ((caulkref40_Runs.f k l1).bind fun bt7297 => ((elevator_Way.f k a0 l1).bind fun bt7301 => ((caulkref40_Way.f k a0 l1).bind fun bt7303 => ((caulklaw40_lives.f).bind fun t7305 => (if t7305 = true then ((elevator_Check.f k l1).bind fun t7306 => ((caulkref40_Check.f k l1).bind fun t7307 => (if t7306 = t7307 then ((caulkref40_Same.f k bt7285.1 bt7289.1).bind fun t7308 => (if t7308 = true then (if bt7285.2 = bt7289.2 then ((caulkref19_SameRanges.f k bt7293.1 bt7297.1).bind fun t7309 => (if t7309 = true then (if bt7293.2 = bt7297.2 then (if bt7301.1 = bt7303.1 then (some (bt7301.2 == bt7303.2)) else (some false)) else (some false)) else (some false))) else (some false)) else (some false))) else (some false)))) else (some false)))))))))) = some r := h
 clear h
 by_cases c3 : (l1.length : Int) > 40
 ·rw [if_pos c3] at H
  have c3b0 : decide (40 < (l1.length : Int)) = true := decide_eq_true c3
  have c3b1 : decide (40 < l1.length) = true := decide_eq_true (by omega)
  clear c3
  replace H := Option.bind_eq_some_iff.mp H
  obtain ⟨t7284, A40, H⟩ := H
  replace H : (some t7284) = some r := H
  have A4 := Aside0.mk A40
  clear A40
  obtain rfl := Option.some.inj H
  go_enter Try.func3, Try.ntmps3
  (try simp only [List.append_eq, List.cons_append, List.nil_append])
  go_wp2_with (first | ((with_reducible refine HOpen.gate_append ?_); simp only [List.cons_append, List.nil_append]) | ((with_reducible refine gate_callee (f := 13) rfl ?_); refine goesL_ (some 20) rfl rfl Try.func13 (by kernel_rfl) rfl #[] rfl (by (try simp only [List.map_toArray, List.map_cons, List.map_nil]); first | done | rfl | (simp only [List.length_drop, List.length_take]; rfl)) ?_; (with_reducible refine (caulklaw40_lives.calls  t7284 _ A4.out).mono ?_); rintro e w5 ⟨rfl, hb⟩; refine ⟨_, rfl, ?_⟩; have n0_ := Aside0.mk (below_step (by repeat (first | (with_reducible first | exact HB.out | apply below_alloc | apply pw_below_drewN | apply below_drew1) | exact HB.out)) hb); clear HB; have HB := n0_; clear n0_; (try clear hb); (try clear hb2); (try clear hk); (try clear hi)))
  go_ret
  exact ⟨by first | rfl | (simp [errW_none, errW_some] <;> rfl) | (simp [*, errW_none, errW_some] <;> rfl), by repeat (first | (with_reducible first | exact HB.out | apply below_alloc | apply pw_below_drewN | apply below_drew1) | exact HB.out)⟩
 ·rw [if_neg c3] at H
  have c3b0 : decide (40 < (l1.length : Int)) = false := decide_eq_false c3
  have c3b1 : decide (40 < l1.length) = false := decide_eq_false (by omega)
  clear c3
  replace H := Option.bind_eq_some_iff.mp H
  obtain ⟨⟨t7285, t7286⟩, A60, H⟩ := H
  replace H : ((caulkref40_Order.f k a0 l1).bind fun bt7289 => ((elevator_Runs.f k l1).bind fun bt7293 => ((caulkref40_Runs.f k l1).bind fun bt7297 => ((elevator_Way.f k a0 l1).bind fun bt7301 => ((caulkref40_Way.f k a0 l1).bind fun bt7303 => ((caulklaw40_lives.f).bind fun t7305 => (if t7305 = true then ((elevator_Check.f k l1).bind fun t7306 => ((caulkref40_Check.f k l1).bind fun t7307 => (if t7306 = t7307 then ((caulkref40_Same.f k t7285 bt7289.1).bind fun t7308 => (if t7308 = true then (if t7286 = bt7289.2 then ((caulkref19_SameRanges.f k bt7293.1 bt7297.1).bind fun t7309 => (if t7309 = true then (if bt7293.2 = bt7297.2 then (if bt7301.1 = bt7303.1 then (some (bt7301.2 == bt7303.2)) else (some false)) else (some false)) else (some false))) else (some false)) else (some false))) else (some false)))) else (some false)))))))) = some r := H
  have A6 := Aside0.mk A60
  clear A60
  replace H := Option.bind_eq_some_iff.mp H
  obtain ⟨⟨t7289, t7290⟩, A70, H⟩ := H
  replace H : ((elevator_Runs.f k l1).bind fun bt7293 => ((caulkref40_Runs.f k l1).bind fun bt7297 => ((elevator_Way.f k a0 l1).bind fun bt7301 => ((caulkref40_Way.f k a0 l1).bind fun bt7303 => ((caulklaw40_lives.f).bind fun t7305 => (if t7305 = true then ((elevator_Check.f k l1).bind fun t7306 => ((caulkref40_Check.f k l1).bind fun t7307 => (if t7306 = t7307 then ((caulkref40_Same.f k t7285 t7289).bind fun t7308 => (if t7308 = true then (if t7286 = t7290 then ((caulkref19_SameRanges.f k bt7293.1 bt7297.1).bind fun t7309 => (if t7309 = true then (if bt7293.2 = bt7297.2 then (if bt7301.1 = bt7303.1 then (some (bt7301.2 == bt7303.2)) else (some false)) else (some false)) else (some false))) else (some false)) else (some false))) else (some false)))) else (some false))))))) = some r := H
  have A7 := Aside0.mk A70
  clear A70
  replace H := Option.bind_eq_some_iff.mp H
  obtain ⟨⟨t7293, t7294⟩, A80, H⟩ := H
  replace H : ((caulkref40_Runs.f k l1).bind fun bt7297 => ((elevator_Way.f k a0 l1).bind fun bt7301 => ((caulkref40_Way.f k a0 l1).bind fun bt7303 => ((caulklaw40_lives.f).bind fun t7305 => (if t7305 = true then ((elevator_Check.f k l1).bind fun t7306 => ((caulkref40_Check.f k l1).bind fun t7307 => (if t7306 = t7307 then ((caulkref40_Same.f k t7285 t7289).bind fun t7308 => (if t7308 = true then (if t7286 = t7290 then ((caulkref19_SameRanges.f k t7293 bt7297.1).bind fun t7309 => (if t7309 = true then (if t7294 = bt7297.2 then (if bt7301.1 = bt7303.1 then (some (bt7301.2 == bt7303.2)) else (some false)) else (some false)) else (some false))) else (some false)) else (some false))) else (some false)))) else (some false)))))) = some r := H
  have A8 := Aside0.mk A80
  clear A80
  replace H := Option.bind_eq_some_iff.mp H
  obtain ⟨⟨t7297, t7298⟩, A90, H⟩ := H
  replace H : ((elevator_Way.f k a0 l1).bind fun bt7301 => ((caulkref40_Way.f k a0 l1).bind fun bt7303 => ((caulklaw40_lives.f).bind fun t7305 => (if t7305 = true then ((elevator_Check.f k l1).bind fun t7306 => ((caulkref40_Check.f k l1).bind fun t7307 => (if t7306 = t7307 then ((caulkref40_Same.f k t7285 t7289).bind fun t7308 => (if t7308 = true then (if t7286 = t7290 then ((caulkref19_SameRanges.f k t7293 t7297).bind fun t7309 => (if t7309 = true then (if t7294 = t7298 then (if bt7301.1 = bt7303.1 then (some (bt7301.2 == bt7303.2)) else (some false)) else (some false)) else (some false))) else (some false)) else (some false))) else (some false)))) else (some false))))) = some r := H
  have A9 := Aside0.mk A90
  clear A90
  replace H := Option.bind_eq_some_iff.mp H
  obtain ⟨⟨t7301, t7302⟩, A100, H⟩ := H
  replace H : ((caulkref40_Way.f k a0 l1).bind fun bt7303 => ((caulklaw40_lives.f).bind fun t7305 => (if t7305 = true then ((elevator_Check.f k l1).bind fun t7306 => ((caulkref40_Check.f k l1).bind fun t7307 => (if t7306 = t7307 then ((caulkref40_Same.f k t7285 t7289).bind fun t7308 => (if t7308 = true then (if t7286 = t7290 then ((caulkref19_SameRanges.f k t7293 t7297).bind fun t7309 => (if t7309 = true then (if t7294 = t7298 then (if t7301 = bt7303.1 then (some (t7302 == bt7303.2)) else (some false)) else (some false)) else (some false))) else (some false)) else (some false))) else (some false)))) else (some false)))) = some r := H
  have A10 := Aside0.mk A100
  clear A100
  replace H := Option.bind_eq_some_iff.mp H
  obtain ⟨⟨t7303, t7304⟩, A110, H⟩ := H
  replace H : ((caulklaw40_lives.f).bind fun t7305 => (if t7305 = true then ((elevator_Check.f k l1).bind fun t7306 => ((caulkref40_Check.f k l1).bind fun t7307 => (if t7306 = t7307 then ((caulkref40_Same.f k t7285 t7289).bind fun t7308 => (if t7308 = true then (if t7286 = t7290 then ((caulkref19_SameRanges.f k t7293 t7297).bind fun t7309 => (if t7309 = true then (if t7294 = t7298 then (if t7301 = t7303 then (some (t7302 == t7304)) else (some false)) else (some false)) else (some false))) else (some false)) else (some false))) else (some false)))) else (some false))) = some r := H
  have A11 := Aside0.mk A110
  clear A110
  replace H := Option.bind_eq_some_iff.mp H
  obtain ⟨t7305, A120, H⟩ := H
  replace H : (if t7305 = true then ((elevator_Check.f k l1).bind fun t7306 => ((caulkref40_Check.f k l1).bind fun t7307 => (if t7306 = t7307 then ((caulkref40_Same.f k t7285 t7289).bind fun t7308 => (if t7308 = true then (if t7286 = t7290 then ((caulkref19_SameRanges.f k t7293 t7297).bind fun t7309 => (if t7309 = true then (if t7294 = t7298 then (if t7301 = t7303 then (some (t7302 == t7304)) else (some false)) else (some false)) else (some false))) else (some false)) else (some false))) else (some false)))) else (some false)) = some r := H
  have A12 := Aside0.mk A120
  clear A120
  by_cases c13 : t7305 = true
  ·subst c13
   have H1 : ((elevator_Check.f k l1).bind fun t7306 => ((caulkref40_Check.f k l1).bind fun t7307 => (if t7306 = t7307 then ((caulkref40_Same.f k t7285 t7289).bind fun t7308 => (if t7308 = true then (if t7286 = t7290 then ((caulkref19_SameRanges.f k t7293 t7297).bind fun t7309 => (if t7309 = true then (if t7294 = t7298 then (if t7301 = t7303 then (some (t7302 == t7304)) else (some false)) else (some false)) else (some false))) else (some false)) else (some false))) else (some false)))) = some r := by rw [if_pos rfl] at H; exact H
   clear H
   have H := H1
   clear H1
   replace H := Option.bind_eq_some_iff.mp H
   obtain ⟨t7306, A140, H⟩ := H
   replace H : ((caulkref40_Check.f k l1).bind fun t7307 => (if t7306 = t7307 then ((caulkref40_Same.f k t7285 t7289).bind fun t7308 => (if t7308 = true then (if t7286 = t7290 then ((caulkref19_SameRanges.f k t7293 t7297).bind fun t7309 => (if t7309 = true then (if t7294 = t7298 then (if t7301 = t7303 then (some (t7302 == t7304)) else (some false)) else (some false)) else (some false))) else (some false)) else (some false))) else (some false))) = some r := H
   have A14 := Aside0.mk A140
   clear A140
   replace H := Option.bind_eq_some_iff.mp H
   obtain ⟨t7307, A150, H⟩ := H
   replace H : (if t7306 = t7307 then ((caulkref40_Same.f k t7285 t7289).bind fun t7308 => (if t7308 = true then (if t7286 = t7290 then ((caulkref19_SameRanges.f k t7293 t7297).bind fun t7309 => (if t7309 = true then (if t7294 = t7298 then (if t7301 = t7303 then (some (t7302 == t7304)) else (some false)) else (some false)) else (some false))) else (some false)) else (some false))) else (some false)) = some r := H
   have A15 := Aside0.mk A150
   clear A150
   by_cases c16 : t7306 = t7307
   ·rw [if_pos c16] at H
    have c16b0 : (t7306 == t7307) = true := beq_iff_eq.mpr c16
    have c16b1 : (t7306 != t7307) = false := bne_eq_false_iff_eq.mpr c16
    clear c16
    replace H := Option.bind_eq_some_iff.mp H
    obtain ⟨t7308, A170, H⟩ := H
    replace H : (if t7308 = true then (if t7286 = t7290 then ((caulkref19_SameRanges.f k t7293 t7297).bind fun t7309 => (if t7309 = true then (if t7294 = t7298 then (if t7301 = t7303 then (some (t7302 == t7304)) else (some false)) else (some false)) else (some false))) else (some false)) else (some false)) = some r := H
    have A17 := Aside0.mk A170
    clear A170
    by_cases c18 : t7308 = true
    ·subst c18
     have H1 : (if t7286 = t7290 then ((caulkref19_SameRanges.f k t7293 t7297).bind fun t7309 => (if t7309 = true then (if t7294 = t7298 then (if t7301 = t7303 then (some (t7302 == t7304)) else (some false)) else (some false)) else (some false))) else (some false)) = some r := by rw [if_pos rfl] at H; exact H
     clear H
     have H := H1
     clear H1
     by_cases c19 : t7286 = t7290
     ·rw [if_pos c19] at H
      have c19b0 : (t7286 == t7290) = true := beq_iff_eq.mpr c19
      have c19b1 : (t7286 != t7290) = false := bne_eq_false_iff_eq.mpr c19
      clear c19
      replace H := Option.bind_eq_some_iff.mp H
      obtain ⟨t7309, A200, H⟩ := H
      replace H : (if t7309 = true then (if t7294 = t7298 then (if t7301 = t7303 then (some (t7302 == t7304)) else (some false)) else (some false)) else (some false)) = some r := H
      have A20 := Aside0.mk A200
      clear A200
      by_cases c21 : t7309 = true
      ·subst c21
       have H1 : (if t7294 = t7298 then (if t7301 = t7303 then (some (t7302 == t7304)) else (some false)) else (some false)) = some r := by rw [if_pos rfl] at H; exact H
       clear H
       have H := H1
       clear H1
       by_cases c22 : t7294 = t7298
       ·rw [if_pos c22] at H
        have c22b0 : (t7294 == t7298) = true := beq_iff_eq.mpr c22
        have c22b1 : (t7294 != t7298) = false := bne_eq_false_iff_eq.mpr c22
        clear c22
        by_cases c23 : t7301 = t7303
        ·rw [if_pos c23] at H
         have c23b0 : (t7301 == t7303) = true := beq_iff_eq.mpr c23
         have c23b1 : (t7301 != t7303) = false := bne_eq_false_iff_eq.mpr c23
         clear c23
         obtain rfl := Option.some.inj H
         go_enter Try.func3, Try.ntmps3
         (try simp only [List.append_eq, List.cons_append, List.nil_append])
         go_wp2_with (first | ((with_reducible refine HOpen.gate_append ?_); simp only [List.cons_append, List.nil_append]) | ((with_reducible refine gate_callee (f := 14) rfl ?_); refine goesL_ (some 24) rfl rfl Try.func14 (by kernel_rfl) rfl #[.int .i64 a0, .slice A1 l1.length c1] rfl (by (try simp only [List.map_toArray, List.map_cons, List.map_nil]); first | done | rfl | (simp only [List.length_drop, List.length_take]; rfl)) ?_; (with_reducible refine (elevator_Order.calls k a0 _ _ l1 t7285 t7286 _ ?side1 ?side2 A6.out).mono ?_); (case side1 => repeat (first | exact HR1.out | (with_reducible refine Kd.C_alloc ?_ _) | (with_reducible refine Kd.C_drewN ?_ _) | (with_reducible refine Kd.C_drew ?_))); (case side2 => exact HC1.out); rintro e w24 ⟨v7287, rfl, ho0, hb⟩; refine ⟨_, rfl, ?_⟩; have n0_ := Aside0.mk (Kd.R_lower ho0 (below_size (by repeat (first | (with_reducible first | exact HB.out | apply below_alloc | apply pw_below_drewN | apply below_drew1) | exact HB.out)))); have n1_ := Aside0.mk (below_step (by repeat (first | (with_reducible first | exact HB.out | apply below_alloc | apply pw_below_drewN | apply below_drew1) | exact HB.out)) hb); clear HB; have HO7288 := n0_; have HB := n1_; clear n0_ n1_; (try clear hb); (try clear hb2); (try clear hk); (try clear hi); (try clear ho0)) | ((with_reducible refine gate_callee (f := 15) rfl ?_); refine goesL_ (some 30) rfl rfl Try.func15 (by kernel_rfl) rfl #[.int .i64 a0, .slice A1 l1.length c1] rfl (by (try simp only [List.map_toArray, List.map_cons, List.map_nil]); first | done | rfl | (simp only [List.length_drop, List.length_take]; rfl)) ?_; (with_reducible refine (caulkref40_Order.calls k a0 _ _ l1 t7289 t7290 _ ?side1 ?side2 A7.out).mono ?_); (case side1 => repeat (first | exact (Kd.C_below HR1.out HB.out) | (with_reducible refine Kd.C_alloc ?_ _) | (with_reducible refine Kd.C_drewN ?_ _) | (with_reducible refine Kd.C_drew ?_))); (case side2 => exact HC1.out); rintro e w25 ⟨v7291, rfl, ho0, hb⟩; refine ⟨_, rfl, ?_⟩; have n0_ := Aside0.mk (Kd.R_elder' (by (with_reducible repeat (first | apply Kd.R_alloc | apply Kd.R_drewN | apply Kd.R_drew)); exact HO7288.out) (Kd.R_base ho0) hb); have n1_ := Aside0.mk (Kd.R_lower (Kd.R_new' ho0 (Kd.R_lt (by (with_reducible repeat (first | apply Kd.R_alloc | apply Kd.R_drewN | apply Kd.R_drew)); exact HO7288.out))) (below_size (by repeat (first | (with_reducible first | exact HB.out | apply below_alloc | apply pw_below_drewN | apply below_drew1) | exact HB.out)))); have n2_ := Aside0.mk (below_step (by repeat (first | (with_reducible first | exact HB.out | apply below_alloc | apply pw_below_drewN | apply below_drew1) | exact HB.out)) hb); clear HO7288; clear HB; have HO7288 := n0_; have HO7292 := n1_; have HB := n2_; clear n0_ n1_ n2_; (try clear hb); (try clear hb2); (try clear hk); (try clear hi); (try clear ho0)) | ((with_reducible refine gate_callee (f := 16) rfl ?_); refine goesL_ (some 35) rfl rfl Try.func16 (by kernel_rfl) rfl #[.slice A1 l1.length c1] rfl (by (try simp only [List.map_toArray, List.map_cons, List.map_nil]); first | done | rfl | (simp only [List.length_drop, List.length_take]; rfl)) ?_; (with_reducible refine (elevator_Runs.calls k _ _ l1 t7293 t7294 _ ?side1 ?side2 A8.out).mono ?_); (case side1 => repeat (first | exact (Kd.C_below HR1.out HB.out) | (with_reducible refine Kd.C_alloc ?_ _) | (with_reducible refine Kd.C_drewN ?_ _) | (with_reducible refine Kd.C_drew ?_))); (case side2 => exact HC1.out); rintro e w26 ⟨v7295, rfl, ho0, hb⟩; refine ⟨_, rfl, ?_⟩; have n0_ := Aside0.mk (Kd.R_below (by (with_reducible repeat (first | apply Kd.R_alloc | apply Kd.R_drewN | apply Kd.R_drew)); exact HO7288.out) hb); have n1_ := Aside0.mk (Kd.R_below (by (with_reducible repeat (first | apply Kd.R_alloc | apply Kd.R_drewN | apply Kd.R_drew)); exact HO7292.out) hb); have n2_ := Aside0.mk (Kd.R_lower ho0 (below_size (by repeat (first | (with_reducible first | exact HB.out | apply below_alloc | apply pw_below_drewN | apply below_drew1) | exact HB.out)))); have n3_ := Aside0.mk (below_step (by repeat (first | (with_reducible first | exact HB.out | apply below_alloc | apply pw_below_drewN | apply below_drew1) | exact HB.out)) hb); clear HO7288; clear HO7292; clear HB; have HO7288 := n0_; have HO7292 := n1_; have HO7296 := n2_; have HB := n3_; clear n0_ n1_ n2_ n3_; (try clear hb); (try clear hb2); (try clear hk); (try clear hi); (try clear ho0)) | ((with_reducible refine gate_callee (f := 17) rfl ?_); refine goesL_ (some 40) rfl rfl Try.func17 (by kernel_rfl) rfl #[.slice A1 l1.length c1] rfl (by (try simp only [List.map_toArray, List.map_cons, List.map_nil]); first | done | rfl | (simp only [List.length_drop, List.length_take]; rfl)) ?_; (with_reducible refine (caulkref40_Runs.calls k _ _ l1 t7297 t7298 _ ?side1 ?side2 A9.out).mono ?_); (case side1 => repeat (first | exact (Kd.C_below HR1.out HB.out) | (with_reducible refine Kd.C_alloc ?_ _) | (with_reducible refine Kd.C_drewN ?_ _) | (with_reducible refine Kd.C_drew ?_))); (case side2 => exact HC1.out); rintro e w27 ⟨v7299, rfl, ho0, hb⟩; refine ⟨_, rfl, ?_⟩; have n0_ := Aside0.mk (Kd.R_below (by (with_reducible repeat (first | apply Kd.R_alloc | apply Kd.R_drewN | apply Kd.R_drew)); exact HO7288.out) hb); have n1_ := Aside0.mk (Kd.R_below (by (with_reducible repeat (first | apply Kd.R_alloc | apply Kd.R_drewN | apply Kd.R_drew)); exact HO7292.out) hb); have n2_ := Aside0.mk (Kd.R_elder' (by (with_reducible repeat (first | apply Kd.R_alloc | apply Kd.R_drewN | apply Kd.R_drew)); exact HO7296.out) (Kd.R_base ho0) hb); have n3_ := Aside0.mk (Kd.R_lower (Kd.R_new' ho0 (Kd.R_lt (by (with_reducible repeat (first | apply Kd.R_alloc | apply Kd.R_drewN | apply Kd.R_drew)); exact HO7296.out))) (below_size (by repeat (first | (with_reducible first | exact HB.out | apply below_alloc | apply pw_below_drewN | apply below_drew1) | exact HB.out)))); have n4_ := Aside0.mk (below_step (by repeat (first | (with_reducible first | exact HB.out | apply below_alloc | apply pw_below_drewN | apply below_drew1) | exact HB.out)) hb); clear HO7288; clear HO7292; clear HO7296; clear HB; have HO7288 := n0_; have HO7292 := n1_; have HO7296 := n2_; have HO7300 := n3_; have HB := n4_; clear n0_ n1_ n2_ n3_ n4_; (try clear hb); (try clear hb2); (try clear hk); (try clear hi); (try clear ho0)) | ((with_reducible refine gate_callee (f := 18) rfl ?_); refine goesL_ (some 46) rfl rfl Try.func18 (by kernel_rfl) rfl #[.int .i64 a0, .slice A1 l1.length c1] rfl (by (try simp only [List.map_toArray, List.map_cons, List.map_nil]); first | done | rfl | (simp only [List.length_drop, List.length_take]; rfl)) ?_; (with_reducible refine (elevator_Way.calls k a0 _ _ l1 t7301 t7302 _ ?side1 ?side2 A10.out).mono ?_); (case side1 => repeat (first | exact (Kd.C_below HR1.out HB.out) | (with_reducible refine Kd.C_alloc ?_ _) | (with_reducible refine Kd.C_drewN ?_ _) | (with_reducible refine Kd.C_drew ?_))); (case side2 => exact HC1.out); rintro e w28 ⟨rfl, hb⟩; refine ⟨_, rfl, ?_⟩; have n0_ := Aside0.mk (Kd.R_below (by (with_reducible repeat (first | apply Kd.R_alloc | apply Kd.R_drewN | apply Kd.R_drew)); exact HO7288.out) hb); have n1_ := Aside0.mk (Kd.R_below (by (with_reducible repeat (first | apply Kd.R_alloc | apply Kd.R_drewN | apply Kd.R_drew)); exact HO7292.out) hb); have n2_ := Aside0.mk (Kd.R_below (by (with_reducible repeat (first | apply Kd.R_alloc | apply Kd.R_drewN | apply Kd.R_drew)); exact HO7296.out) hb); have n3_ := Aside0.mk (Kd.R_below (by (with_reducible repeat (first | apply Kd.R_alloc | apply Kd.R_drewN | apply Kd.R_drew)); exact HO7300.out) hb); have n4_ := Aside0.mk (below_step (by repeat (first | (with_reducible first | exact HB.out | apply below_alloc | apply pw_below_drewN | apply below_drew1) | exact HB.out)) hb); clear HO7288; clear HO7292; clear HO7296; clear HO7300; clear HB; have HO7288 := n0_; have HO7292 := n1_; have HO7296 := n2_; have HO7300 := n3_; have HB := n4_; clear n0_ n1_ n2_ n3_ n4_; (try clear hb); (try clear hb2); (try clear hk); (try clear hi)) | ((with_reducible refine gate_callee (f := 19) rfl ?_); refine goesL_ (some 52) rfl rfl Try.func19 (by kernel_rfl) rfl #[.int .i64 a0, .slice A1 l1.length c1] rfl (by (try simp only [List.map_toArray, List.map_cons, List.map_nil]); first | done | rfl | (simp only [List.length_drop, List.length_take]; rfl)) ?_; (with_reducible refine (caulkref40_Way.calls k a0 _ _ l1 t7303 t7304 _ ?side1 ?side2 A11.out).mono ?_); (case side1 => repeat (first | exact (Kd.C_below HR1.out HB.out) | (with_reducible refine Kd.C_alloc ?_ _) | (with_reducible refine Kd.C_drewN ?_ _) | (with_reducible refine Kd.C_drew ?_))); (case side2 => exact HC1.out); rintro e w29 ⟨rfl, hb⟩; refine ⟨_, rfl, ?_⟩; have n0_ := Aside0.mk (Kd.R_below (by (with_reducible repeat (first | apply Kd.R_alloc | apply Kd.R_drewN | apply Kd.R_drew)); exact HO7288.out) hb); have n1_ := Aside0.mk (Kd.R_below (by (with_reducible repeat (first | apply Kd.R_alloc | apply Kd.R_drewN | apply Kd.R_drew)); exact HO7292.out) hb); have n2_ := Aside0.mk (Kd.R_below (by (with_reducible repeat (first | apply Kd.R_alloc | apply Kd.R_drewN | apply Kd.R_drew)); exact HO7296.out) hb); have n3_ := Aside0.mk (Kd.R_below (by (with_reducible repeat (first | apply Kd.R_alloc | apply Kd.R_drewN | apply Kd.R_drew)); exact HO7300.out) hb); have n4_ := Aside0.mk (below_step (by repeat (first | (with_reducible first | exact HB.out | apply below_alloc | apply pw_below_drewN | apply below_drew1) | exact HB.out)) hb); clear HO7288; clear HO7292; clear HO7296; clear HO7300; clear HB; have HO7288 := n0_; have HO7292 := n1_; have HO7296 := n2_; have HO7300 := n3_; have HB := n4_; clear n0_ n1_ n2_ n3_ n4_; (try clear hb); (try clear hb2); (try clear hk); (try clear hi)) | ((with_reducible refine gate_callee (f := 13) rfl ?_); refine goesL_ (some 55) rfl rfl Try.func13 (by kernel_rfl) rfl #[] rfl (by (try simp only [List.map_toArray, List.map_cons, List.map_nil]); first | done | rfl | (simp only [List.length_drop, List.length_take]; rfl)) ?_; (with_reducible refine (caulklaw40_lives.calls  true _ A12.out).mono ?_); rintro e w30 ⟨rfl, hb⟩; refine ⟨_, rfl, ?_⟩; have n0_ := Aside0.mk (Kd.R_below (by (with_reducible repeat (first | apply Kd.R_alloc | apply Kd.R_drewN | apply Kd.R_drew)); exact HO7288.out) hb); have n1_ := Aside0.mk (Kd.R_below (by (with_reducible repeat (first | apply Kd.R_alloc | apply Kd.R_drewN | apply Kd.R_drew)); exact HO7292.out) hb); have n2_ := Aside0.mk (Kd.R_below (by (with_reducible repeat (first | apply Kd.R_alloc | apply Kd.R_drewN | apply Kd.R_drew)); exact HO7296.out) hb); have n3_ := Aside0.mk (Kd.R_below (by (with_reducible repeat (first | apply Kd.R_alloc | apply Kd.R_drewN | apply Kd.R_drew)); exact HO7300.out) hb); have n4_ := Aside0.mk (below_step (by repeat (first | (with_reducible first | exact HB.out | apply below_alloc | apply pw_below_drewN | apply below_drew1) | exact HB.out)) hb); clear HO7288; clear HO7292; clear HO7296; clear HO7300; clear HB; have HO7288 := n0_; have HO7292 := n1_; have HO7296 := n2_; have HO7300 := n3_; have HB := n4_; clear n0_ n1_ n2_ n3_ n4_; (try clear hb); (try clear hb2); (try clear hk); (try clear hi)) | ((with_reducible refine gate_callee (f := 20) rfl ?_); (try (refine gate_guard (by rfl) ?_; dsimp only)); refine goesL_ (some 58) rfl rfl Try.func20 (by kernel_rfl) rfl #[.slice A1 l1.length c1] rfl (by (try simp only [List.map_toArray, List.map_cons, List.map_nil]); first | done | rfl | (simp only [List.length_drop, List.length_take]; rfl)) ?_; (with_reducible refine (elevator_Check.calls k _ _ l1 t7306 _ ?side1 ?side2 A14.out).mono ?_); (case side1 => repeat (first | exact (Kd.C_below HR1.out HB.out) | (with_reducible refine Kd.C_alloc ?_ _) | (with_reducible refine Kd.C_drewN ?_ _) | (with_reducible refine Kd.C_drew ?_))); (case side2 => exact HC1.out); rintro e w31 ⟨rfl, hb⟩; refine ⟨_, rfl, ?_⟩; have n0_ := Aside0.mk (Kd.R_below (by (with_reducible repeat (first | apply Kd.R_alloc | apply Kd.R_drewN | apply Kd.R_drew)); exact HO7288.out) hb); have n1_ := Aside0.mk (Kd.R_below (by (with_reducible repeat (first | apply Kd.R_alloc | apply Kd.R_drewN | apply Kd.R_drew)); exact HO7292.out) hb); have n2_ := Aside0.mk (Kd.R_below (by (with_reducible repeat (first | apply Kd.R_alloc | apply Kd.R_drewN | apply Kd.R_drew)); exact HO7296.out) hb); have n3_ := Aside0.mk (Kd.R_below (by (with_reducible repeat (first | apply Kd.R_alloc | apply Kd.R_drewN | apply Kd.R_drew)); exact HO7300.out) hb); have n4_ := Aside0.mk (below_step (by repeat (first | (with_reducible first | exact HB.out | apply below_alloc | apply pw_below_drewN | apply below_drew1) | exact HB.out)) hb); clear HO7288; clear HO7292; clear HO7296; clear HO7300; clear HB; have HO7288 := n0_; have HO7292 := n1_; have HO7296 := n2_; have HO7300 := n3_; have HB := n4_; clear n0_ n1_ n2_ n3_ n4_; (try clear hb); (try clear hb2); (try clear hk); (try clear hi)) | ((with_reducible refine gate_callee (f := 21) rfl ?_); (try (refine gate_guard (by rfl) ?_; dsimp only)); refine goesL_ (some 60) rfl rfl Try.func21 (by kernel_rfl) rfl #[.slice A1 l1.length c1] rfl (by (try simp only [List.map_toArray, List.map_cons, List.map_nil]); first | done | rfl | (simp only [List.length_drop, List.length_take]; rfl)) ?_; (with_reducible refine (caulkref40_Check.calls k _ _ l1 t7307 _ ?side1 ?side2 A15.out).mono ?_); (case side1 => repeat (first | exact (Kd.C_below HR1.out HB.out) | (with_reducible refine Kd.C_alloc ?_ _) | (with_reducible refine Kd.C_drewN ?_ _) | (with_reducible refine Kd.C_drew ?_))); (case side2 => exact HC1.out); rintro e w32 ⟨rfl, hb⟩; refine ⟨_, rfl, ?_⟩; have n0_ := Aside0.mk (Kd.R_below (by (with_reducible repeat (first | apply Kd.R_alloc | apply Kd.R_drewN | apply Kd.R_drew)); exact HO7288.out) hb); have n1_ := Aside0.mk (Kd.R_below (by (with_reducible repeat (first | apply Kd.R_alloc | apply Kd.R_drewN | apply Kd.R_drew)); exact HO7292.out) hb); have n2_ := Aside0.mk (Kd.R_below (by (with_reducible repeat (first | apply Kd.R_alloc | apply Kd.R_drewN | apply Kd.R_drew)); exact HO7296.out) hb); have n3_ := Aside0.mk (Kd.R_below (by (with_reducible repeat (first | apply Kd.R_alloc | apply Kd.R_drewN | apply Kd.R_drew)); exact HO7300.out) hb); have n4_ := Aside0.mk (below_step (by repeat (first | (with_reducible first | exact HB.out | apply below_alloc | apply pw_below_drewN | apply below_drew1) | exact HB.out)) hb); clear HO7288; clear HO7292; clear HO7296; clear HO7300; clear HB; have HO7288 := n0_; have HO7292 := n1_; have HO7296 := n2_; have HO7300 := n3_; have HB := n4_; clear n0_ n1_ n2_ n3_ n4_; (try clear hb); (try clear hb2); (try clear hk); (try clear hi); obtain ⟨Ao33, co33, eo33⟩ := Kd.R_slice HO7288.out; subst eo33; obtain ⟨Ao34, co34, eo34⟩ := Kd.R_slice HO7292.out; subst eo34) | ((with_reducible refine gate_callee (f := 22) rfl ?_); (try (refine gate_guard (by rfl) ?_; dsimp only)); refine goesL_ (some 66) rfl rfl Try.func22 (by kernel_rfl) rfl #[.slice Ao33 t7285.length co33, .slice Ao34 t7289.length co34] rfl (by (try simp only [List.map_toArray, List.map_cons, List.map_nil]); first | done | rfl | (simp only [List.length_drop, List.length_take]; rfl)) ?_; (with_reducible refine (caulkref40_Same.calls k _ _ t7285 _ _ t7289 true _ ?side1 ?side2 ?side3 ?side4 A17.out).mono ?_); (case side1 => repeat (first | exact (Kd.R_reads' HO7288.out).2.2 | (with_reducible refine Kd.C_alloc ?_ _) | (with_reducible refine Kd.C_drewN ?_ _) | (with_reducible refine Kd.C_drew ?_))); (case side2 => exact (Kd.R_reads' HO7288.out).2.1); (case side3 => repeat (first | exact (Kd.R_reads' HO7292.out).2.2 | (with_reducible refine Kd.C_alloc ?_ _) | (with_reducible refine Kd.C_drewN ?_ _) | (with_reducible refine Kd.C_drew ?_))); (case side4 => exact (Kd.R_reads' HO7292.out).2.1); rintro e w' ⟨rfl, ⟨nd, rfl⟩⟩; refine ⟨_, rfl, ?_⟩; obtain ⟨Ao35, co35, eo35⟩ := Kd.R_slice HO7296.out; subst eo35; obtain ⟨Ao36, co36, eo36⟩ := Kd.R_slice HO7300.out; subst eo36) | ((with_reducible refine gate_callee (f := 23) rfl ?_); (try (refine gate_guard (by rfl) ?_; dsimp only)); refine goesL_ (some 76) rfl rfl Try.func23 (by kernel_rfl) rfl #[.slice Ao35 t7293.length co35, .slice Ao36 t7297.length co36] rfl (by (try simp only [List.map_toArray, List.map_cons, List.map_nil]); first | done | rfl | (simp only [List.length_drop, List.length_take]; rfl)) ?_; (with_reducible refine (caulkref19_SameRanges.calls k _ _ t7293 _ _ t7297 true _ ?side1 ?side2 ?side3 ?side4 A20.out).mono ?_); (case side1 => repeat (first | exact (Kd.R_reads' HO7296.out).2.2 | (with_reducible refine Kd.C_alloc ?_ _) | (with_reducible refine Kd.C_drewN ?_ _) | (with_reducible refine Kd.C_drew ?_))); (case side2 => exact (Kd.R_reads' HO7296.out).2.1); (case side3 => repeat (first | exact (Kd.R_reads' HO7300.out).2.2 | (with_reducible refine Kd.C_alloc ?_ _) | (with_reducible refine Kd.C_drewN ?_ _) | (with_reducible refine Kd.C_drew ?_))); (case side4 => exact (Kd.R_reads' HO7300.out).2.1); rintro e w' ⟨rfl, ⟨nd, rfl⟩⟩; refine ⟨_, rfl, ?_⟩))
         go_ret
         exact ⟨by first | rfl | (simp [errW_none, errW_some] <;> rfl) | (simp [*, errW_none, errW_some] <;> rfl), by repeat (first | (with_reducible first | exact HB.out | apply below_alloc | apply pw_below_drewN | apply below_drew1) | exact HB.out)⟩
        ·rw [if_neg c23] at H
         have c23b0 : (t7301 == t7303) = false := beq_eq_false_iff_ne.mpr c23
         have c23b1 : (t7301 != t7303) = true := bne_iff_ne.mpr c23
         exact absurd ((Option.some.inj H).trans hrt.out) (by simp)
       ·rw [if_neg c22] at H
        have c22b0 : (t7294 == t7298) = false := beq_eq_false_iff_ne.mpr c22
        have c22b1 : (t7294 != t7298) = true := bne_iff_ne.mpr c22
        exact absurd ((Option.some.inj H).trans hrt.out) (by simp)
      ·replace c21 := Bool.eq_false_iff.mpr c21
       subst c21
       have H1 : (some false) = some r := by rw [if_neg (show ¬ (false = true) by decide)] at H; exact H
       clear H
       have H := H1
       clear H1
       exact absurd ((Option.some.inj H).trans hrt.out) (by simp)
     ·rw [if_neg c19] at H
      have c19b0 : (t7286 == t7290) = false := beq_eq_false_iff_ne.mpr c19
      have c19b1 : (t7286 != t7290) = true := bne_iff_ne.mpr c19
      exact absurd ((Option.some.inj H).trans hrt.out) (by simp)
    ·replace c18 := Bool.eq_false_iff.mpr c18
     subst c18
     have H1 : (some false) = some r := by rw [if_neg (show ¬ (false = true) by decide)] at H; exact H
     clear H
     have H := H1
     clear H1
     exact absurd ((Option.some.inj H).trans hrt.out) (by simp)
   ·rw [if_neg c16] at H
    have c16b0 : (t7306 == t7307) = false := beq_eq_false_iff_ne.mpr c16
    have c16b1 : (t7306 != t7307) = true := bne_iff_ne.mpr c16
    exact absurd ((Option.some.inj H).trans hrt.out) (by simp)
  ·replace c13 := Bool.eq_false_iff.mpr c13
   subst c13
   have H1 : (some false) = some r := by rw [if_neg (show ¬ (false = true) by decide)] at H; exact H
   clear H
   have H := H1
   clear H1
   exact absurd ((Option.some.inj H).trans hrt.out) (by simp)

def caulklaw40_ElevatorTells.Pure : Prop := ∀ (a0 : Int) (l1 : List (S37)), (Lit.int .i64 a0).wf = true → (l1.length ≤ maxLen ∧ l1.length * 24 ≤ 140737488351232 ∧ ∀ z0 ∈ l1, wf37 z0) → ∃ k, caulklaw40_ElevatorTells.f k a0 l1 = some true
theorem caulklaw40_ElevatorTells.walk (P : caulklaw40_ElevatorTells.Pure) (a0 : Int) (A1 : Option Addr) (c1 : Nat) (l1 : List (S37)) (w : World) (hr1 : Kd.C k37 w A1 l1.length l1) (hc1 : l1.length ≤ c1) (hw0 : (Lit.int .i64 a0).wf = true) (hw1 : (l1.length ≤ maxLen ∧ l1.length * 24 ≤ 140737488351232 ∧ ∀ z0 ∈ l1, wf37 z0)) :
  Calls Try.prog 3 #[.int .i64 a0, .slice A1 l1.length c1] w fun e w' => e = .returned (.bool true) ∧ Below w.heap.size w w' := by
 obtain ⟨k, h⟩ := P a0 l1 hw0 hw1
 refine (caulklaw40_ElevatorTells.calls k a0 A1 c1 l1 true w hr1 hc1 ⟨rfl⟩ h).mono ?_
 rintro e w' ⟨rfl, hd⟩
 exact ⟨rfl, hd⟩

end Go.Proofs.Ytgahpdoiddhdaaa.HElev
