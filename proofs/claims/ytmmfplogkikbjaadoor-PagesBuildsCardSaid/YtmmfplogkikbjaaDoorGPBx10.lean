/- a text of this claim -/
import Derived.Test.YtmmfplogkikbjaaDoorGPBx0
import Derived.Test.YtmmfplogkikbjaaDoorGPBx3
import Derived.Test.YtmmfplogkikbjaaDoorGPBx4
import Derived.Test.YtmmfplogkikbjaaDoorGPBx6
namespace Go.Proofs.YtmmfplogkikbjaaDoor.HPB
open Go.RowKit Go.Proofs.YtmmfplogkikbjaaDoorW.PrintWords Go.Proofs.YtmmfplogkikbjaaDoorW.PrintLast Go.Proofs.YtmmfplogkikbjaaDoorW.PrintMore
attribute [local go_sem] max2_int min2_int max_two min_two max_three min_three max_four min_four
set_option linter.unusedVariables false
set_option linter.unusedSimpArgs false
def field_Get.l0 : Nat → ByteArray → Int → Int → Int → Option (Int × Int)
 | 0, _, _, _, _ => none
 | k + 1, x1, x6, x17, x18 => if x18 < x17 then (if 0 ≤ x18 then (if x18 < (x1.size : Int) then (if 0 ≤ (wrap64 (8 * x18)) then (field_Get.l0 k x1 (Go.bits .or .u64 x6 (shl .u64 (IntKind.u64.wrap (bt x1 x18)) (wrap64 (8 * x18)))) x17 (wrap64 (x18 + 1))) else (none)) else (none)) else (none)) else (some (x6, 0))
def field_Get.f (k : Nat) (a0 : Int) (a1 : ByteArray) : Option (Int × Int) := (field_width.f a0).bind fun t177 => (if t177 = true then (if (a1.size : Int) < a0 then (some (0, 5)) else (field_Get.l0 k a1 0 a0 0)) else (some (0, 1)))
set_option maxHeartbeats 8000000 in
set_option maxRecDepth 100000 in
theorem field_Get.calls (k : Nat) (a0 : Int) (a1 : ByteArray) (r1 : Int) (r2 : Int) (w : World) (h : field_Get.f k a0 a1 = some (r1, r2)) :
  Calls Tryd.prog 103 #[.int .i64 a0, .string a1] w fun e w' => e = .returned (.tuple #[.int .u64 r1, .int .i64 r2]) ∧ Drawn0 w w' := by
 have H : ((field_width.f a0).bind fun t177 => (if t177 = true then (if (a1.size : Int) < a0 then (some (0, 5)) else (field_Get.l0 k a1 0 a0 0)) else (some (0, 1)))) = some (r1, r2) := h
 clear h
 replace H := Option.bind_eq_some_iff.mp H
 obtain ⟨t177, A30, H⟩ := H
 replace H : (if t177 = true then (if (a1.size : Int) < a0 then (some (0, 5)) else (field_Get.l0 k a1 0 a0 0)) else (some (0, 1))) = some (r1, r2) := H
 have A3 := Aside0.mk A30
 clear A30
 by_cases c4 : t177 = true
 ·subst c4
  have H1 : (if (a1.size : Int) < a0 then (some (0, 5)) else (field_Get.l0 k a1 0 a0 0)) = some (r1, r2) := by rw [if_pos rfl] at H; exact H
  clear H
  have H := H1
  clear H1
  by_cases c5 : (a1.size : Int) < a0
  ·rw [if_pos c5] at H
   have c5b0 : decide ((a1.size : Int) < a0) = true := decide_eq_true c5
   clear c5
   simp only [Option.some.injEq, Prod.mk.injEq] at H
   obtain ⟨rfl, rfl⟩ := H
   go_enter Tryd.func103, Tryd.ntmps103
   go_wp2_with (first | ((with_reducible refine HOpen.gate_append ?_); simp only [List.cons_append, List.nil_append]) | ((with_reducible refine gate_callee (f := 131) rfl ?_); refine goesL_ (some 10) rfl rfl Tryd.func131 (by kernel_rfl) rfl #[.int .i64 a0] rfl (by (try simp only [List.map_toArray, List.map_cons, List.map_nil]); first | done | rfl | (simp only [List.length_drop, List.length_take]; rfl)) ?_; (with_reducible refine (field_width.calls a0 true _ A3.out).mono ?_); rintro e w' ⟨rfl, ⟨nd, rfl⟩⟩; refine ⟨_, rfl, ?_⟩))
   go_ret2
   exact ⟨by first | rfl | (simp; done) | (simp [*]; done), by repeat (first | exact Drawn0.refl _ | apply Drawn0.step)⟩
  ·rw [if_neg c5] at H
   have c5b0 : decide ((a1.size : Int) < a0) = false := decide_eq_false c5
   clear c5
   have H' := Aside0.mk H
   clear H
   go_enter Tryd.func103, Tryd.ntmps103
   go_wp2_with (first | ((with_reducible refine HOpen.gate_append ?_); simp only [List.cons_append, List.nil_append]) | ((with_reducible refine gate_callee (f := 131) rfl ?_); refine goesL_ (some 10) rfl rfl Tryd.func131 (by kernel_rfl) rfl #[.int .i64 a0] rfl (by (try simp only [List.map_toArray, List.map_cons, List.map_nil]); first | done | rfl | (simp only [List.length_drop, List.length_take]; rfl)) ?_; (with_reducible refine (field_width.calls a0 true _ A3.out).mono ?_); rintro e w' ⟨rfl, ⟨nd, rfl⟩⟩; refine ⟨_, rfl, ?_⟩))
   (try simp only [Act.put, List.setIfInBounds_toArray, List.set_cons_zero, List.set_cons_succ])
   go_loopg [6, 18] k (fun kq v6 v18 w' => ∃ (x6_1 : Int) (x18_1 : Int), v6 = .int .u64 x6_1 ∧ v18 = .int .i64 x18_1 ∧ Aside0 (field_Get.l0 kq a1 x6_1 a0 x18_1 = some (r1, r2)) ∧ Aside0 (kq ≤ k) ∧ Drawn0 w w')
   case atStart => exact ⟨(0), (0), (by first | rfl | (simp; done) | (simp [*]; done)), (by first | rfl | (simp; done) | (simp [*]; done)), H', ⟨Nat.le_refl _⟩, by repeat (first | exact Drawn0.refl _ | apply Drawn0.step)⟩
   case round =>
    clear H'
    (try clear c1);(try clear p2);(try clear c4);(try clear c5);(try clear c5b0)
    obtain ⟨x6_1, x18_1, rfl, rfl, HA, HK1, ⟨m1, rfl⟩⟩ := hrel
    cases gk with
    | zero => exact absurd HA.out (by simp [field_Get.l0])
    | succ k1 =>
     have H := HA.out
     clear HA
     simp only [field_Get.l0] at H
     by_cases c6 : x18_1 < a0
     ·rw [if_pos c6] at H
      have c6b0 : decide (x18_1 < a0) = true := decide_eq_true c6
      clear c6
      by_cases c7 : 0 ≤ x18_1
      ·rw [if_pos c7] at H
       have c7b0 : decide (0 ≤ x18_1) = true := decide_eq_true c7
       clear c7
       by_cases c8 : x18_1 < (a1.size : Int)
       ·rw [if_pos c8] at H
        have c8b0 : decide (x18_1 < (a1.size : Int)) = true := decide_eq_true c8
        clear c8
        obtain ⟨ji10, hji10⟩ : ∃ j_ : Int, (wrap64 (8 * x18_1)) = j_ := ⟨_, rfl⟩
        replace H : (if 0 ≤ (ji10) then (field_Get.l0 k1 a1 (Go.bits .or .u64 x6_1 (shl .u64 (IntKind.u64.wrap (bt a1 x18_1)) (ji10))) a0 (wrap64 (x18_1 + 1))) else (none)) = some (r1, r2) := by first | (rw [hji10] at H; exact H) | (simp only [hji10] at H ⊢; exact H)
        have hji10w : (IntKind.i64.wrap (8 * x18_1)) = ji10 := (i64_w _).trans hji10
        by_cases c11 : 0 ≤ (ji10)
        ·rw [if_pos c11] at H
         have c11b0 := eq_true c11
         have c11b1 : decide (0 ≤ (ji10)) = true := decide_eq_true c11
         clear c11
         obtain ⟨ji12, hji12⟩ : ∃ j_ : Int, (shl .u64 (IntKind.u64.wrap (bt a1 x18_1)) (ji10)) = j_ := ⟨_, rfl⟩
         replace H : (field_Get.l0 k1 a1 (Go.bits .or .u64 x6_1 (ji12)) a0 (wrap64 (x18_1 + 1))) = some (r1, r2) := by first | (rw [hji12] at H; exact H) | (simp only [hji12] at H ⊢; exact H)
         have hji12_ : (IntKind.u64.wrap ((IntKind.u64.wrap (bt a1 x18_1)) * 2 ^ min (ji10).toNat 64)) = ji12 := hji12
         have hji12z : (ji10) ≤ 64 → (IntKind.u64.wrap ((IntKind.u64.wrap (bt a1 x18_1)) * 2 ^ (ji10).toNat)) = ji12 := shl_small hji12
         have H' := Aside0.mk H
         clear H
         have p9 : 0 ≤ (x18_1 : Int) := of_decide_eq_true (by first | (with_reducible assumption) | assumption)
         have q9 : x18_1 < (a1.size : Int) := of_decide_eq_true (by first | (with_reducible assumption) | assumption)
         have hx9 := bt_at a1 x18_1
         replace p9 := eq_true p9
         replace q9 := eq_true q9
         go_wp2
         go_roundg k1
         case measure => have := HK1.out; omega
         case rel => exact ⟨(Go.bits .or .u64 x6_1 (ji12)), (wrap64 (x18_1 + 1)), (by first | rfl | (simp; done) | (simp only [← hji12] <;> (first | rfl | simp)) | (simp [*]; done)), (by first | rfl | (simp; done) | (simp [*]; done)), H', ⟨by have := HK1.out; omega⟩, by repeat (first | exact Drawn0.refl _ | apply Drawn0.step)⟩
        ·rw [if_neg c11] at H
         exact absurd H (by simp)
       ·rw [if_neg c8] at H
        exact absurd H (by simp)
      ·rw [if_neg c7] at H
       exact absurd H (by simp)
     ·rw [if_neg c6] at H
      have c6b0 : decide (x18_1 < a0) = false := decide_eq_false c6
      clear c6
      simp only [Option.some.injEq, Prod.mk.injEq] at H
      obtain ⟨rfl, rfl⟩ := H
      go_wp2
      go_ret2
      exact ⟨by first | rfl | (simp; done) | (simp [*]; done), by repeat (first | exact Drawn0.refl _ | apply Drawn0.step)⟩
 ·replace c4 := Bool.eq_false_iff.mpr c4
  subst c4
  have H1 : (some (0, 1)) = some (r1, r2) := by rw [if_neg (show ¬ (false = true) by decide)] at H; exact H
  clear H
  have H := H1
  clear H1
  simp only [Option.some.injEq, Prod.mk.injEq] at H
  obtain ⟨rfl, rfl⟩ := H
  go_enter Tryd.func103, Tryd.ntmps103
  go_wp2_with (first | ((with_reducible refine HOpen.gate_append ?_); simp only [List.cons_append, List.nil_append]) | ((with_reducible refine gate_callee (f := 131) rfl ?_); refine goesL_ (some 10) rfl rfl Tryd.func131 (by kernel_rfl) rfl #[.int .i64 a0] rfl (by (try simp only [List.map_toArray, List.map_cons, List.map_nil]); first | done | rfl | (simp only [List.length_drop, List.length_take]; rfl)) ?_; (with_reducible refine (field_width.calls a0 false _ A3.out).mono ?_); rintro e w' ⟨rfl, ⟨nd, rfl⟩⟩; refine ⟨_, rfl, ?_⟩))
  go_ret2
  exact ⟨by first | rfl | (simp; done) | (simp [*]; done), by repeat (first | exact Drawn0.refl _ | apply Drawn0.step)⟩
def field_All.l0 : Nat → ByteArray → List Int → List Int → Int → Int → Option (List Int × ByteArray × Int)
 | 0, _, _, _, _, _ => none
 | k + 1, x0, x7, x12, x13, x14 => if x14 < x13 then (if 0 ≤ x14 then (if x14 < (x12.length : Int) then ((field_Get.f k (rd x12 x14) x0).bind fun bt179 => (if bt179.2 = 0 then (if x7.length < 17592186044416 then (if 0 ≤ (rd x12 x14) then (if (rd x12 x14) ≤ (x0.size : Int) then (field_All.l0 k (x0.extract ((rd x12 x14) : Int).toNat x0.size) (x7 ++ [bt179.1]) x12 x13 (wrap64 (x14 + 1))) else (none)) else (none)) else (none)) else (some (([] : List Int), (⟨#[]⟩ : ByteArray), bt179.2)))) else (none)) else (none)) else (some (x7, x0, 0))
def field_All.f (k : Nat) (a0 : ByteArray) (l1 : List Int) : Option (List Int × ByteArray × Int) := field_All.l0 k a0 ([] : List Int) l1 (l1.length : Int) 0
def field_All.T8 : Bool × List (List Nat × List Nat) := (true, [([], []), ([], []), ([1], [1]), ([0, 2], [0, 2]), ([], []), ([], []), ([4, 5], [4, 5]), ([3, 3, 0, 1, 2, 3], [0, 3]), ([6, 7, 0, 1, 2, 3, 4, 5, 6, 7], [4, 6])])
def field_All.B8 : List Nat := [0, 0, 2, 7, 0, 0, 48, 15, 255]
theorem field_All.tab8 : rtab .any (opsOf Tryd.f49 8) = field_All.T8 := by kernel_rfl
theorem field_All.bits8 : waitsOk field_All.T8.2 field_All.B8 = true := by kernel_rfl
set_option maxHeartbeats 8000000 in
set_option maxRecDepth 100000 in
theorem field_All.calls (k : Nat) (a0 : ByteArray) (A1 : Option Addr) (c1 : Nat) (l1 : List Int) (r1 : List Int) (r2 : ByteArray) (r3 : Int) (w : World) (hr1 : Kd.C (Kd.int .i64) w A1 l1.length l1) (hc1 : l1.length ≤ c1) (h : field_All.f k a0 l1 = some (r1, r2, r3)) :
  Calls Tryd.prog 49 #[.string a0, .slice A1 l1.length c1] w fun e w' => ∃ v0_ : Value, e = .returned (.tuple #[v0_, .string r2, .int .i64 r3]) ∧ Kd.R (Kd.int .u64) 90 w' w.heap.size (fun _ => True) v0_ r1 ∧ Below w.heap.size w w' := by
 have HR1 := Aside0.mk hr1
 have HC1 := Aside0.mk hc1
 clear hr1 hc1
 have HB := Aside0.mk (Below.refl w.heap.size w)
 have H : (field_All.l0 k a0 ([] : List Int) l1 (l1.length : Int) 0) = some (r1, r2, r3) := h
 clear h
 have H' := Aside0.mk H
 clear H
 go_enter Tryd.func49, Tryd.ntmps49
 go_wp2
 go_loopg [0, 7, 14] k (fun kq v0 v7 v14 w' => ∃ (x0_1 : ByteArray) (x7_1 : List Int) (x14_1 : Int), v0 = .string x0_1 ∧ v14 = .int .i64 x14_1 ∧ Aside0 (field_All.l0 kq x0_1 x7_1 l1 (l1.length : Int) x14_1 = some (r1, r2, r3)) ∧ Aside0 (kq ≤ k) ∧ Aside0 (Kd.R (Kd.int .u64) 90 w' w.heap.size (fun _ => True) v7 x7_1) ∧ Aside0 (Below w.heap.size w w'))
 case atStart => exact ⟨(a0), (([] : List Int)), (0), (by first | rfl | (simp; done) | (simp [*]; done)), (by first | rfl | (simp; done) | (simp [*]; done)), H', ⟨Nat.le_refl _⟩, ⟨by first | exact Kd.R_nil _ _ _ _ _ | exact Kd.N_nil _ _ _ _ _ | exact Kd.V_nil _ _ _ _ _ | exact Kd.Q_nil _ _ _ _ _ | exact Kd.S_nil _ _ _ _ _⟩, ⟨by repeat (first | (with_reducible first | exact HB.out | apply below_alloc | apply pw_below_drewN | apply below_drew1) | exact HB.out)⟩⟩
 case round =>
  clear H'
  (try clear c1);(try clear p2)
  obtain ⟨x0_1, x7_1, x14_1, rfl, rfl, HA, HK1, HO_7, HB⟩ := hrel
  cases gk with
  | zero => exact absurd HA.out (by simp [field_All.l0])
  | succ k1 =>
   have H := HA.out
   clear HA
   simp only [field_All.l0] at H
   by_cases c3 : x14_1 < (l1.length : Int)
   ·rw [if_pos c3] at H
    have c3b0 : decide (x14_1 < (l1.length : Int)) = true := decide_eq_true c3
    clear c3
    by_cases c4 : 0 ≤ x14_1
    ·rw [if_pos c4] at H
     have c4b0 : decide (0 ≤ x14_1) = true := decide_eq_true c4
     clear c4
     by_cases c5 : x14_1 < (l1.length : Int)
     ·rw [if_pos c5] at H
      have c5b0 : decide (x14_1 < (l1.length : Int)) = true := decide_eq_true c5
      clear c5
      replace H := Option.bind_eq_some_iff.mp H
      obtain ⟨⟨t179, t180⟩, A60, H⟩ := H
      replace H : (if t180 = 0 then (if x7_1.length < 17592186044416 then (if 0 ≤ (rd l1 x14_1) then (if (rd l1 x14_1) ≤ (x0_1.size : Int) then (field_All.l0 k1 (x0_1.extract ((rd l1 x14_1) : Int).toNat x0_1.size) (x7_1 ++ [t179]) l1 (l1.length : Int) (wrap64 (x14_1 + 1))) else (none)) else (none)) else (none)) else (some (([] : List Int), (⟨#[]⟩ : ByteArray), t180))) = some (r1, r2, r3) := H
      have A6 := Aside0.mk A60
      clear A60
      by_cases c7 : t180 = 0
      ·rw [if_pos c7] at H
       have c7b0 : (t180 == 0) = true := beq_iff_eq.mpr c7
       have c7b1 : (t180 != 0) = false := bne_eq_false_iff_eq.mpr c7
       clear c7
       by_cases c8 : x7_1.length < 17592186044416
       ·rw [if_pos c8] at H
        have LMc8 := Aside0.mk c8
        clear c8
        obtain ⟨y181, hy181⟩ : ∃ y_ : List Int, y_ = (x7_1 ++ [t179]) := ⟨_, rfl⟩
        replace H : (if 0 ≤ (rd l1 x14_1) then (if (rd l1 x14_1) ≤ (x0_1.size : Int) then (field_All.l0 k1 (x0_1.extract ((rd l1 x14_1) : Int).toNat x0_1.size) y181 l1 (l1.length : Int) (wrap64 (x14_1 + 1))) else (none)) else (none)) = some (r1, r2, r3) := by first | (rw [hy181]; with_reducible exact H) | (have H2_ := (Option.bind_some _ _).symm.trans H; rw [hy181]; with_reducible exact H2_) | (have H2_ := (Option.bind_some _ _).symm.trans H; with_reducible exact H2_) | with_reducible exact H | (rw [hy181]; exact H) | exact H
        have Ny181 := Aside0.mk hy181
        clear hy181
        by_cases c9 : 0 ≤ (rd l1 x14_1)
        ·rw [if_pos c9] at H
         have c9b0 := eq_true c9
         have c9b1 : decide (0 ≤ (rd l1 x14_1)) = true := decide_eq_true c9
         clear c9
         by_cases c10 : (rd l1 x14_1) ≤ (x0_1.size : Int)
         ·rw [if_pos c10] at H
          have c10b0 := eq_true c10
          have c10b1 : decide ((rd l1 x14_1) ≤ (x0_1.size : Int)) = true := decide_eq_true c10
          clear c10
          have H' := Aside0.mk H
          clear H
          have p178 : 0 ≤ (x14_1 : Int) := of_decide_eq_true (by first | (with_reducible assumption) | assumption)
          have q178 : x14_1 < (l1.length : Int) := of_decide_eq_true (by first | (with_reducible assumption) | assumption)
          obtain ⟨ad178, e178, hx178_0⟩ := Kd.at_int HR1.out x14_1 p178 q178
          cases e178
          replace hx178_0 := (HB.out.cell (World.block_lt_of_cell? w _ hx178_0)).trans hx178_0
          replace p178 := eq_true p178
          replace q178 := eq_true q178
          try go_wp2_with (first | ((with_reducible refine HOpen.gate_append ?_); simp only [List.cons_append, List.nil_append]) | ((with_reducible refine gate_callee (f := 103) rfl ?_); refine goesL_ (some 21) rfl rfl Tryd.func103 (by kernel_rfl) rfl #[.int .i64 (rd l1 x14_1), .string x0_1] rfl (by (try simp only [List.map_toArray, List.map_cons, List.map_nil]); first | done | rfl | (simp only [List.length_drop, List.length_take]; rfl)) ?_; (with_reducible refine (field_Get.calls k1 (rd l1 x14_1) x0_1 t179 t180 _ A6.out).mono ?_); rintro e w' ⟨rfl, ⟨nd, rfl⟩⟩; refine ⟨_, rfl, ?_⟩))
          (try (rw [drewN_self wr]; generalize hq_ : World.drewN wr _ = wr; have n0_ : Aside0 (Kd.R (Kd.int .u64) 90 wr w.heap.size (fun _ => True) u7 x7_1) := ⟨by rw [← hq_]; exact (by (with_reducible repeat (first | apply Kd.R_alloc | apply Kd.R_drewN | apply Kd.R_drew)); exact HO_7.out)⟩; have n1_ : Aside0 (Below w.heap.size w wr) := ⟨by rw [← hq_]; exact (by repeat (first | (with_reducible first | exact HB.out | apply below_alloc | apply pw_below_drewN | apply below_drew1) | exact HB.out))⟩; clear HO_7 HB hq_; have HO_7 := n0_; have HB := n1_; clear n0_ n1_))
          have n0_ := Aside0.mk (Kd.R_drew HO_7.out)
          have n1_ := Aside0.mk (below_drew1 HB.out)
          clear HO_7
          clear HB
          have HO_7 := n0_
          have HB := n1_
          clear n0_ n1_
          refine start_ (n := 9) (S := fun w' => True) (ds := []) #[G,G,G,G,G,G,G,G,G] (by kernel_rfl) rfl rfl trivial (fun hHeld => ?_); refine with_tabW field_All.tab8 field_All.bits8 (fun HT_ HW_ => ?_)
          generalize wr.drew = w11 at HO_7 HB hHeld ⊢
          refine pu_ 0 27 ?_ #[Y,G,G,G,G,G,G,G,G] rfl rfl (any_of HT_.out (by kernel_rfl)) (fun _ _ _ h => h) (Or.inl ⟨by rfl, ?_⟩) ?_ ?_ ?_;rotate_left
          ·intro w';go_simp;with_reducible rfl
          rotate_left;·simp only [Act.put, sA_];rfl
          refine pu_ 1 28 ?_ #[Y,Y,G,G,G,G,G,G,G] rfl rfl (any_of HT_.out (by kernel_rfl)) (fun _ _ _ h => h) (Or.inl ⟨by rfl, ?_⟩) ?_ ?_ ?_;rotate_left
          ·intro w';go_simp;with_reducible rfl
          rotate_left;·simp only [Act.put, sA_];rfl
          refine pu_ 4 31 ?_ #[Y,Y,G,G,Y,G,G,G,G] rfl rfl (any_of HT_.out (by kernel_rfl)) (fun _ _ _ h => h) (Or.inl ⟨by rfl, ?_⟩) ?_ ?_ ?_;rotate_left
          ·intro w';go_simp;with_reducible rfl
          rotate_left;·simp only [Act.put, sA_];rfl
          refine pu_ 5 32 ?_ #[Y,Y,G,G,Y,Y,G,G,G] rfl rfl (any_of HT_.out (by kernel_rfl)) (fun _ _ _ h => h) (Or.inl ⟨by rfl, ?_⟩) ?_ ?_ ?_;rotate_left
          ·intro w';go_simp;with_reducible rfl
          rotate_left;·simp only [Act.put, sA_];rfl
          refine pu_ 6 33 ?_ #[Y,Y,G,G,Y,Y,Y,G,G] rfl rfl (any_of HT_.out (by kernel_rfl)) (fun _ _ _ h => h) (Or.inl ⟨by rfl, ?_⟩) ?_ ?_ ?_;rotate_left
          ·intro w';go_simp;with_reducible rfl
          rotate_left;·simp only [Act.put, sA_];rfl
          refine one_ (i := 2) (N := some 29) #[Y,Y,Y,G,Y,Y,Y,G,G] rfl rfl (one_of HT_.out (by kernel_rfl)) (by decide) (fun K hK => ?_)
          refine value_ (w1 := ?_) (v := ?_) (by rfl) rfl ?_ ?_
          rotate_left 2
          ·go_simp
           constructor
           ·rfl
           ·rfl
          refine hK.out _ _ trivial (fun hHeld => ?_)
          clear hK K
          refine norm_ (a' := ?_) ?_ ?_;rotate_left
          ·show Act.put _ (some 29) _ = _
           simp only [Act.put, sA_]
           rfl
          refine one_ (i := 3) (N := some 30) #[Y,Y,Y,Y,Y,Y,Y,G,G] rfl rfl (one_of HT_.out (by kernel_rfl)) (by decide) (fun K hK => ?_)
          refine Kd.R_append_step (Kd.int .u64) (w0 := w) w.heap.size (by rfl) (.tmp 27) (.tmp 29) 91 90 (.int .u64 0) 8 rfl Tryd.underlying91 info90 rfl (by decide) (by omega) u7 x7_1 t179 [.int .u64 t179] (fun _ => True) (fun _ => False) rfl rfl ?aP (fun _ hk => hk.elim) ?aF ?aO ?aB ?aS ?aL ?_
          (case aP => exact rfl)
          (case aB => exact (by repeat (first | (with_reducible first | exact HB.out | apply below_alloc | apply pw_below_drewN | apply below_drew1) | exact HB.out)))
          (case aF => exact (fun _ _ => trivial))
          (case aO => exact (by (with_reducible repeat (first | apply Kd.R_alloc | apply Kd.R_drewN | apply Kd.R_drew)); exact HO_7.out))
          (case aS => exact (below_size (by repeat (first | (with_reducible first | exact HB.out | apply below_alloc | apply pw_below_drewN | apply below_drew1) | exact HB.out))))
          (case aL => have := LMc8.out; omega)
          intro v182 w12 ho hb hg hat
          rw [← Ny181.out] at ho
          have n0_ := Aside0.mk (hb)
          have n1_ := Aside0.mk (ho)
          clear HB
          clear HO_7
          have HB := n0_
          have HO183 := n1_
          clear n0_ n1_
          clear ho hb hg hat
          refine hK.out _ _ trivial (fun hHeld => ?_)
          clear hK K
          refine norm_ (a' := ?_) ?_ ?_;rotate_left
          ·show Act.put _ (some 30) _ = _
           simp only [Act.put, sA_]
           rfl
          refine pu_ 7 7 ?_ #[Y,Y,Y,Y,Y,Y,Y,Y,G] rfl rfl (any_of HT_.out (by kernel_rfl)) (fun _ _ _ h => h) (Or.inl ⟨by rfl, ?_⟩) ?_ ?_ ?_;rotate_left
          ·intro w';go_simp;with_reducible rfl
          rotate_left;·simp only [Act.put, sA_];rfl
          refine pu_ 8 0 ?_ #[Y,Y,Y,Y,Y,Y,Y,Y,Y] rfl rfl (any_of HT_.out (by kernel_rfl)) (fun _ _ _ h => h) (Or.inl ⟨by rfl, ?_⟩) ?_ ?_ ?_;rotate_left
          ·intro w';go_simp;with_reducible rfl
          rotate_left;·simp only [Act.put, sA_];rfl
          refine done_ (done_of HT_.out (by kernel_rfl)) ?_
          try go_wp2
          go_roundg k1
          case measure => have := HK1.out; omega
          case rel => exact ⟨(x0_1.extract ((rd l1 x14_1) : Int).toNat x0_1.size), (y181), (wrap64 (x14_1 + 1)), (by first | rfl | (simp; done) | (simp [*]; done)), (by first | rfl | (simp; done) | (simp [*]; done)), H', ⟨by have := HK1.out; omega⟩, ⟨by (with_reducible repeat (first | apply Kd.R_alloc | apply Kd.R_drewN | apply Kd.R_drew)); exact HO183.out⟩, ⟨by repeat (first | (with_reducible first | exact HB.out | apply below_alloc | apply pw_below_drewN | apply below_drew1) | exact HB.out)⟩⟩
         ·rw [if_neg c10] at H
          exact absurd H (by simp)
        ·rw [if_neg c9] at H
         exact absurd H (by simp)
       ·rw [if_neg c8] at H
        exact absurd H (by simp)
      ·rw [if_neg c7] at H
       have c7b0 : (t180 == 0) = false := beq_eq_false_iff_ne.mpr c7
       have c7b1 : (t180 != 0) = true := bne_iff_ne.mpr c7
       simp only [Option.some.injEq, Prod.mk.injEq] at H
       obtain ⟨rfl, rfl, rfl⟩ := H
       have p178 : 0 ≤ (x14_1 : Int) := of_decide_eq_true (by first | (with_reducible assumption) | assumption)
       have q178 : x14_1 < (l1.length : Int) := of_decide_eq_true (by first | (with_reducible assumption) | assumption)
       obtain ⟨ad178, e178, hx178_0⟩ := Kd.at_int HR1.out x14_1 p178 q178
       cases e178
       replace hx178_0 := (HB.out.cell (World.block_lt_of_cell? w _ hx178_0)).trans hx178_0
       replace p178 := eq_true p178
       replace q178 := eq_true q178
       go_wp2_with (first | ((with_reducible refine HOpen.gate_append ?_); simp only [List.cons_append, List.nil_append]) | ((with_reducible refine gate_callee (f := 103) rfl ?_); refine goesL_ (some 21) rfl rfl Tryd.func103 (by kernel_rfl) rfl #[.int .i64 (rd l1 x14_1), .string x0_1] rfl (by (try simp only [List.map_toArray, List.map_cons, List.map_nil]); first | done | rfl | (simp only [List.length_drop, List.length_take]; rfl)) ?_; (with_reducible refine (field_Get.calls k1 (rd l1 x14_1) x0_1 t179 t180 _ A6.out).mono ?_); rintro e w' ⟨rfl, ⟨nd, rfl⟩⟩; refine ⟨_, rfl, ?_⟩))
       go_ret3
       exact ⟨_, by first | rfl | (simp [errW_none, errW_some] <;> rfl) | (simp [*, errW_none, errW_some] <;> rfl), by first | exact Kd.R_nil _ _ _ _ _ | exact Kd.N_nil _ _ _ _ _ | exact Kd.V_nil _ _ _ _ _ | exact Kd.Q_nil _ _ _ _ _ | exact Kd.S_nil _ _ _ _ _, by repeat (first | (with_reducible first | exact HB.out | apply below_alloc | apply pw_below_drewN | apply below_drew1) | exact HB.out)⟩
     ·rw [if_neg c5] at H
      exact absurd H (by simp)
    ·rw [if_neg c4] at H
     exact absurd H (by simp)
   ·rw [if_neg c3] at H
    have c3b0 : decide (x14_1 < (l1.length : Int)) = false := decide_eq_false c3
    clear c3
    simp only [Option.some.injEq, Prod.mk.injEq] at H
    obtain ⟨rfl, rfl, rfl⟩ := H
    go_wp2
    go_ret3
    exact ⟨_, by first | rfl | (simp [errW_none, errW_some] <;> rfl) | (simp [*, errW_none, errW_some] <;> rfl), by (with_reducible repeat (first | apply Kd.R_alloc | apply Kd.R_drewN | apply Kd.R_drew)); exact HO_7.out, by repeat (first | (with_reducible first | exact HB.out | apply below_alloc | apply pw_below_drewN | apply below_drew1) | exact HB.out)⟩
def field_GetPtr.f (k : Nat) (a0 : ByteArray) : Option (Int × Int × Int × Int) := (field_All.f k a0 (([4, 4, 4] : List Int))).bind fun bt188 => (if bt188.2.2 = 0 then (if 0 < (bt188.1.length : Int) then (if 1 < (bt188.1.length : Int) then (if 2 < (bt188.1.length : Int) then (some (wrap64 (rd bt188.1 0), wrap64 (rd bt188.1 1), (rd bt188.1 2) % 4294967296, 0)) else (none)) else (none)) else (none)) else (some (0, 0, 0, bt188.2.2)))
def field_GetPtr.T4 : Bool × List (List Nat × List Nat) := (true, [([], []), ([0], [0]), ([1], [1]), ([2], [2]), ([], []), ([4], [4]), ([5], [5]), ([6], [6]), ([], []), ([8], [8]), ([9], [9]), ([10], [10]), ([3, 7, 11], [3, 7, 11]), ([12, 0, 1, 2, 3, 4, 5, 6, 7, 8, 9, 10, 11, 12], [12]), ([13, 0, 1, 2, 3, 4, 5, 6, 7, 8, 9, 10, 11, 12, 13], [])])
def field_GetPtr.B4 : List Nat := [0, 1, 3, 7, 0, 16, 48, 112, 0, 256, 768, 1792, 4095, 8191, 16383]
theorem field_GetPtr.tab4 : rtab .any (opsOf Tryd.f50 4) = field_GetPtr.T4 := by kernel_rfl
theorem field_GetPtr.bits4 : waitsOk field_GetPtr.T4.2 field_GetPtr.B4 = true := by kernel_rfl
set_option maxHeartbeats 8000000 in
set_option maxRecDepth 100000 in
theorem field_GetPtr.calls (k : Nat) (a0 : ByteArray) (r1 : Int) (r2 : Int) (r3 : Int) (r4 : Int) (w : World) (h : field_GetPtr.f k a0 = some (r1, r2, r3, r4)) :
  Calls Tryd.prog 50 #[.string a0] w fun e w' => e = .returned (.tuple #[.agg #[.int .i64 r1, .int .i64 r2, .int .u32 r3], .int .i64 r4]) ∧ Below w.heap.size w w' := by
 have hu26 := Tryd.underlying26
 have HB := Aside0.mk (Below.refl w.heap.size w)
 have H : ((field_All.f k a0 (([4, 4, 4] : List Int))).bind fun bt188 => (if bt188.2.2 = 0 then (if 0 < (bt188.1.length : Int) then (if 1 < (bt188.1.length : Int) then (if 2 < (bt188.1.length : Int) then (some (wrap64 (rd bt188.1 0), wrap64 (rd bt188.1 1), (rd bt188.1 2) % 4294967296, 0)) else (none)) else (none)) else (none)) else (some (0, 0, 0, bt188.2.2)))) = some (r1, r2, r3, r4) := h
 clear h
 obtain ⟨y185, hy185⟩ : ∃ y_ : List Int, y_ = (([4, 4, 4] : List Int)) := ⟨_, rfl⟩
 replace H : ((field_All.f k a0 y185).bind fun bt188 => (if bt188.2.2 = 0 then (if 0 < (bt188.1.length : Int) then (if 1 < (bt188.1.length : Int) then (if 2 < (bt188.1.length : Int) then (some (wrap64 (rd bt188.1 0), wrap64 (rd bt188.1 1), (rd bt188.1 2) % 4294967296, 0)) else (none)) else (none)) else (none)) else (some (0, 0, 0, bt188.2.2)))) = some (r1, r2, r3, r4) := by first | (rw [hy185]; with_reducible exact H) | (have H2_ := (Option.bind_some _ _).symm.trans H; rw [hy185]; with_reducible exact H2_) | (have H2_ := (Option.bind_some _ _).symm.trans H; with_reducible exact H2_) | with_reducible exact H | (rw [hy185]; exact H) | exact H
 have Ny185 := Aside0.mk hy185
 clear hy185
 replace H := Option.bind_eq_some_iff.mp H
 obtain ⟨⟨t188, t189, t190⟩, A20, H⟩ := H
 replace H : (if t190 = 0 then (if 0 < (t188.length : Int) then (if 1 < (t188.length : Int) then (if 2 < (t188.length : Int) then (some (wrap64 (rd t188 0), wrap64 (rd t188 1), (rd t188 2) % 4294967296, 0)) else (none)) else (none)) else (none)) else (some (0, 0, 0, t190))) = some (r1, r2, r3, r4) := H
 have A2 := Aside0.mk A20
 clear A20
 by_cases c3 : t190 = 0
 ·rw [if_pos c3] at H
  have c3b0 : (t190 == 0) = true := beq_iff_eq.mpr c3
  have c3b1 : (t190 != 0) = false := bne_eq_false_iff_eq.mpr c3
  clear c3
  by_cases c4 : 0 < (t188.length : Int)
  ·rw [if_pos c4] at H
   have c4b0 : decide (0 < (t188.length : Int)) = true := decide_eq_true c4
   have c4b1 : decide (0 < t188.length) = true := decide_eq_true (by omega)
   clear c4
   by_cases c5 : 1 < (t188.length : Int)
   ·rw [if_pos c5] at H
    have c5b0 : decide (1 < (t188.length : Int)) = true := decide_eq_true c5
    have c5b1 : decide (1 < t188.length) = true := decide_eq_true (by omega)
    clear c5
    by_cases c6 : 2 < (t188.length : Int)
    ·rw [if_pos c6] at H
     have c6b0 : decide (2 < (t188.length : Int)) = true := decide_eq_true c6
     have c6b1 : decide (2 < t188.length) = true := decide_eq_true (by omega)
     clear c6
     simp only [Option.some.injEq, Prod.mk.injEq] at H
     obtain ⟨rfl, rfl, rfl, rfl⟩ := H
     go_enter Tryd.func50, Tryd.ntmps50
     try go_wp2_with (first | ((with_reducible refine HOpen.gate_append ?_); simp only [List.cons_append, List.nil_append]) | ((with_reducible refine gate_dst (N := 2) rfl ?_); refine box_event ?hg (N := 2) ?hd (cs := #[.int .i64 0, .int .i64 0, .int .u32 0]) (t := 26) ?hr ?_; (case hd => rfl); (case hg => rfl); (case hr => first | (go_simp; done) | (go_simp; rfl)); intro gb184 hg w7 hbox hb; have n0_ := Aside0.mk (below_step (by repeat (first | (with_reducible first | exact HB.out | apply below_alloc | apply pw_below_drewN | apply below_drew1) | exact HB.out)) hb); have n1_ := Aside0.mk (hbox); have n2_ := Aside0.mk ((by rw [hg]; exact (below_size (by repeat (first | (with_reducible first | exact HB.out | apply below_alloc | apply pw_below_drewN | apply below_drew1) | exact HB.out))) : w.heap.size ≤ gb184)); have n3_ := Aside0.mk ((by rw [hg]; exact (below_size (by repeat (first | (with_reducible first | exact HB.out | apply below_alloc | apply pw_below_drewN | apply below_drew1) | exact HB.out))) : w.heap.size ≤ gb184)); clear HB; have HB := n0_; have BK184 := n1_; have GW184 := n2_; have GE184 := n3_; clear n0_ n1_ n2_ n3_; clear hb hbox hg) | ((with_reducible refine gate_dst (N := 9) rfl ?_); refine Kd.R_lit (Kd.int .i64) _ 3 ?hg (N := 9) ?hd (xs := ([4, 4, 4] : List Int)) (inner := [.int .i64 4, .int .i64 4, .int .i64 4]) (ok := fun _ => True) (okp := fun _ => True) ?hr ?hp (fun _ hk => hk) trivial (Below.refl _ _) (Nat.le_refl _) (by simp) ?_; (case hd => rfl); (case hg => rfl); (case hr => first | (go_simp; done) | (go_simp; rfl)); (case hp => exact (Reps.one (show Kd.M (Kd.int .i64) _ _ _ 4 [.int .i64 4] from rfl) (Reps.one (show Kd.M (Kd.int .i64) _ _ _ 4 [.int .i64 4] from rfl) (Reps.one (show Kd.M (Kd.int .i64) _ _ _ 4 [.int .i64 4] from rfl) (Reps.none _ _))))); intro v186 w8 ho9 hb hg_ hnew_; clear hg_ hnew_; (first | rw [← Ny185.out] at ho9 | (simp only [Int.reduceToNat] at ho9; rw [← Ny185.out] at ho9)); have n0_ := Aside0.mk (Kd.R_lower ho9 (below_size (by repeat (first | (with_reducible first | exact HB.out | apply below_alloc | apply pw_below_drewN | apply below_drew1 | refine below_set ?_ GE184.out) | exact HB.out)))); have n1_ := Aside0.mk (blk_below (g := gb184) (o := .cells #[.int .i64 0, .int .i64 0, .int .u32 0] 26 (0, 0)) (by (with_reducible repeat (first | refine blk_drewN ?_ _ | refine blk_drew ?_ | refine blk_alloc ?_ _)); exact BK184.out) hb); have n2_ := Aside0.mk (below_step (by repeat (first | (with_reducible first | exact HB.out | apply below_alloc | apply pw_below_drewN | apply below_drew1 | refine below_set ?_ GE184.out) | exact HB.out)) hb); clear BK184; clear HB; have HO187 := n0_; have BK184 := n1_; have HB := n2_; clear n0_ n1_ n2_; clear hb ho9; obtain ⟨Ao10, co10, eo10⟩ := Kd.R_slice HO187.out; subst eo10) | ((with_reducible refine gate_callee (f := 49) rfl ?_); refine goesL_ (some 10) rfl rfl Tryd.func49 (by kernel_rfl) rfl #[.string a0, .slice Ao10 y185.length co10] rfl (by (try simp only [List.map_toArray, List.map_cons, List.map_nil]); first | done | rfl | (simp only [List.length_drop, List.length_take]; rfl)) ?_; (with_reducible refine (field_All.calls k a0 _ _ y185 t188 t189 t190 _ ?side1 ?side2 A2.out).mono ?_); (case side1 => repeat (first | exact (Kd.R_reads' HO187.out).2.2 | (with_reducible refine Kd.C_alloc ?_ _) | (with_reducible refine Kd.C_drewN ?_ _) | (with_reducible refine Kd.C_drew ?_))); (case side2 => exact (Kd.R_reads' HO187.out).2.1); rintro e w11 ⟨v191, rfl, ho0, hb⟩; refine ⟨_, rfl, ?_⟩; have n0_ := Aside0.mk (Kd.R_below (by (with_reducible repeat (first | apply Kd.R_alloc | apply Kd.R_drewN | apply Kd.R_drew)); exact HO187.out) hb); have n1_ := Aside0.mk (Kd.R_lower ho0 (below_size (by repeat (first | (with_reducible first | exact HB.out | apply below_alloc | apply pw_below_drewN | apply below_drew1 | refine below_set ?_ GE184.out) | exact HB.out)))); have n2_ := Aside0.mk (blk_below (g := gb184) (o := .cells #[.int .i64 0, .int .i64 0, .int .u32 0] 26 (0, 0)) (by (with_reducible repeat (first | refine blk_drewN ?_ _ | refine blk_drew ?_ | refine blk_alloc ?_ _)); exact BK184.out) hb); have n3_ := Aside0.mk (below_step (by repeat (first | (with_reducible first | exact HB.out | apply below_alloc | apply pw_below_drewN | apply below_drew1 | refine below_set ?_ GE184.out) | exact HB.out)) hb); clear HO187; clear BK184; clear HB; have HO187 := n0_; have HO192 := n1_; have BK184 := n2_; have HB := n3_; clear n0_ n1_ n2_ n3_; (try clear hb); (try clear hb2); (try clear hk); (try clear hi); (try clear ho0)))
     have n0_ := Aside0.mk (Kd.R_drew HO187.out)
     have n1_ := Aside0.mk (Kd.R_drew HO192.out)
     have n2_ := Aside0.mk (blk_drew BK184.out)
     have n3_ := Aside0.mk (below_drew1 HB.out)
     clear HO187
     clear HO192
     clear BK184
     clear HB
     have HO187 := n0_
     have HO192 := n1_
     have BK184 := n2_
     have HB := n3_
     clear n0_ n1_ n2_ n3_
     obtain ⟨Ao13, co13, eo13⟩ := Kd.R_slice HO192.out
     (first | subst eo13 | (injection eo13 with f1_ f2_ f3_; have f4_ := f1_.symm; have f5_ := f3_.symm; clear f1_ f2_ f3_; subst f4_; subst f5_))
     have p193 : 0 ≤ (0 : Int) := (by omega)
     have q193 : 0 < (t188.length : Int) := of_decide_eq_true (by first | (with_reducible assumption) | assumption)
     obtain ⟨ad193, e193, hx193_0⟩ := Kd.at_int (Kd.R_reads' HO192.out).2.2 0 p193 q193
     cases e193
     have qi193 : (0 < t188.length) = True := eq_true (by omega)
     (try rw [show ((0 : Int)).toNat = 0 from rfl] at hx193_0)
     (try rw [Addr.add_zero'] at hx193_0)
     replace p193 := eq_true p193
     replace q193 := eq_true q193
     have p194 : 0 ≤ (1 : Int) := (by omega)
     have q194 : 1 < (t188.length : Int) := of_decide_eq_true (by first | (with_reducible assumption) | assumption)
     obtain ⟨ad194, e194, hx194_0⟩ := Kd.at_int (Kd.R_reads' HO192.out).2.2 1 p194 q194
     obtain rfl : ad193 = ad194 := (by injection e194)
     (try simp only [show (1 : Int).toNat = 1 from rfl, Nat.reduceMul, Nat.reduceEqDiff, Go.Addr.add, ↓reduceIte] at hx194_0)
     have qi194 : (1 < t188.length) = True := eq_true (by omega)
     (try rw [show ((1 : Int)).toNat = 1 from rfl] at hx194_0)
     replace p194 := eq_true p194
     replace q194 := eq_true q194
     have p195 : 0 ≤ (2 : Int) := (by omega)
     have q195 : 2 < (t188.length : Int) := of_decide_eq_true (by first | (with_reducible assumption) | assumption)
     obtain ⟨ad195, e195, hx195_0⟩ := Kd.at_int (Kd.R_reads' HO192.out).2.2 2 p195 q195
     obtain rfl : ad193 = ad195 := (by injection e195)
     (try simp only [show (2 : Int).toNat = 2 from rfl, Nat.reduceMul, Nat.reduceEqDiff, Go.Addr.add, ↓reduceIte] at hx195_0)
     have qi195 : (2 < t188.length) = True := eq_true (by omega)
     (try rw [show ((2 : Int)).toNat = 2 from rfl] at hx195_0)
     replace p195 := eq_true p195
     replace q195 := eq_true q195
     refine start_ (n := 15) (S := fun w' => w'.cell? ad193 = some (.int .u64 (rd t188 0)) ∧ w'.cell? ⟨ad193.block, ad193.off + 1, none⟩ = some (.int .u64 (rd t188 1)) ∧ w'.cell? ⟨ad193.block, ad193.off + 2, none⟩ = some (.int .u64 (rd t188 2))) (ds := []) #[G,G,G,G,G,G,G,G,G,G,G,G,G,G,G] (by kernel_rfl) rfl rfl ⟨hx193_0, hx194_0, hx195_0⟩ (fun hHeld => ?_); refine with_tabW field_GetPtr.tab4 field_GetPtr.bits4 (fun HT_ HW_ => ?_)
     generalize w11.drew = w12 at HO187 HO192 BK184 HB hx193_0 hx194_0 hx195_0 hHeld ⊢
     refine pu_ 0 18 ?_ #[Y,G,G,G,G,G,G,G,G,G,G,G,G,G,G] rfl rfl (any_of HT_.out (by kernel_rfl)) (fun _ _ _ h => h) (Or.inl ⟨by rfl, ?_⟩) ?_ ?_ ?_;rotate_left
     ·intro w';go_simp;with_reducible rfl
     rotate_left;·simp only [Act.put, sA_];rfl
     refine pu_ 1 19 ?_ #[Y,Y,G,G,G,G,G,G,G,G,G,G,G,G,G] rfl rfl (any_of HT_.out (by kernel_rfl)) (fun _ _ _ h => h) (Or.inl ⟨by rfl, ?_⟩) ?_ ?_ ?_;rotate_left
     ·intro w';go_simp;with_reducible rfl
     rotate_left;·simp only [Act.put, sA_];rfl
     refine pu_ 4 22 ?_ #[Y,Y,G,G,Y,G,G,G,G,G,G,G,G,G,G] rfl rfl (any_of HT_.out (by kernel_rfl)) (fun _ _ _ h => h) (Or.inl ⟨by rfl, ?_⟩) ?_ ?_ ?_;rotate_left
     ·intro w';go_simp;with_reducible rfl
     rotate_left;·simp only [Act.put, sA_];rfl
     refine pu_ 5 23 ?_ #[Y,Y,G,G,Y,Y,G,G,G,G,G,G,G,G,G] rfl rfl (any_of HT_.out (by kernel_rfl)) (fun _ _ _ h => h) (Or.inl ⟨by rfl, ?_⟩) ?_ ?_ ?_;rotate_left
     ·intro w';go_simp;with_reducible rfl
     rotate_left;·simp only [Act.put, sA_];rfl
     refine pu_ 8 26 ?_ #[Y,Y,G,G,Y,Y,G,G,Y,G,G,G,G,G,G] rfl rfl (any_of HT_.out (by kernel_rfl)) (fun _ _ _ h => h) (Or.inl ⟨by rfl, ?_⟩) ?_ ?_ ?_;rotate_left
     ·intro w';go_simp;with_reducible rfl
     rotate_left;·simp only [Act.put, sA_];rfl
     refine pu_ 9 27 ?_ #[Y,Y,G,G,Y,Y,G,G,Y,Y,G,G,G,G,G] rfl rfl (any_of HT_.out (by kernel_rfl)) (fun _ _ _ h => h) (Or.inl ⟨by rfl, ?_⟩) ?_ ?_ ?_;rotate_left
     ·intro w';go_simp;with_reducible rfl
     rotate_left;·simp only [Act.put, sA_];rfl
     refine tk_ 2 20 ?_ #[Y,Y,Y,G,Y,Y,G,G,Y,Y,G,G,G,G,G] rfl rfl (take_ofW HT_.out HW_.out (by kernel_rfl)) (fun _ _ _ h => h) (Or.inl ⟨by rfl, ?_⟩) hHeld ?_ ?_ ?_;rotate_left
     ·rintro w' ⟨s0, s1, s2⟩
      go_simp
      with_reducible rfl
     rotate_left;·simp only [Act.put, sA_];rfl
     refine pu_ 3 21 ?_ #[Y,Y,Y,Y,Y,Y,G,G,Y,Y,G,G,G,G,G] rfl rfl (any_of HT_.out (by kernel_rfl)) (fun _ _ _ h => h) (Or.inl ⟨by rfl, ?_⟩) ?_ ?_ ?_;rotate_left
     ·intro w';go_simp;with_reducible rfl
     rotate_left;·simp only [Act.put, sA_];rfl
     refine tk_ 6 24 ?_ #[Y,Y,Y,Y,Y,Y,Y,G,Y,Y,G,G,G,G,G] rfl rfl (take_ofW HT_.out HW_.out (by kernel_rfl)) (fun _ _ _ h => h) (Or.inl ⟨by rfl, ?_⟩) hHeld ?_ ?_ ?_;rotate_left
     ·rintro w' ⟨s0, s1, s2⟩
      go_simp
      with_reducible rfl
     rotate_left;·simp only [Act.put, sA_];rfl
     refine pu_ 7 25 ?_ #[Y,Y,Y,Y,Y,Y,Y,Y,Y,Y,G,G,G,G,G] rfl rfl (any_of HT_.out (by kernel_rfl)) (fun _ _ _ h => h) (Or.inl ⟨by rfl, ?_⟩) ?_ ?_ ?_;rotate_left
     ·intro w';go_simp;with_reducible rfl
     rotate_left;·simp only [Act.put, sA_];rfl
     refine tk_ 10 28 ?_ #[Y,Y,Y,Y,Y,Y,Y,Y,Y,Y,Y,G,G,G,G] rfl rfl (take_ofW HT_.out HW_.out (by kernel_rfl)) (fun _ _ _ h => h) (Or.inl ⟨by rfl, ?_⟩) hHeld ?_ ?_ ?_;rotate_left
     ·rintro w' ⟨s0, s1, s2⟩
      go_simp
      with_reducible rfl
     rotate_left;·simp only [Act.put, sA_];rfl
     refine pu_ 11 29 ?_ #[Y,Y,Y,Y,Y,Y,Y,Y,Y,Y,Y,Y,G,G,G] rfl rfl (any_of HT_.out (by kernel_rfl)) (fun _ _ _ h => h) (Or.inl ⟨by rfl, ?_⟩) ?_ ?_ ?_;rotate_left
     ·intro w';go_simp;with_reducible rfl
     rotate_left;·simp only [Act.put, sA_];rfl
     refine pu_ 12 30 ?_ #[Y,Y,Y,Y,Y,Y,Y,Y,Y,Y,Y,Y,Y,G,G] rfl rfl (any_of HT_.out (by kernel_rfl)) (fun _ _ _ h => h) (Or.inl ⟨by rfl, ?_⟩) ?_ ?_ ?_;rotate_left
     ·intro w';go_simp;with_reducible rfl
     rotate_left;·simp only [Act.put, sA_];rfl
     refine one_ (i := 13) (N := none) #[Y,Y,Y,Y,Y,Y,Y,Y,Y,Y,Y,Y,Y,Y,G] rfl rfl (one_of HT_.out (by kernel_rfl)) (by decide) (fun K hK => ?_)
     have hs14 : w12.cell? ⟨gb184, 0, none⟩ = some (.int .i64 0) := (blk_cell BK184.out 0).trans rfl
     have hfs14 := blk_frozen BK184.out 0
     have hs15 : w12.cell? ⟨gb184, 1, none⟩ = some (.int .i64 0) := (blk_cell BK184.out 1).trans rfl
     have hfs15 := blk_frozen BK184.out 1
     have hs16 : w12.cell? ⟨gb184, 2, none⟩ = some (.int .u32 0) := (blk_cell BK184.out 2).trans rfl
     have hfs16 := blk_frozen BK184.out 2
     refine skip_ (w1 := ?_) (by rfl) rfl ?_ ?_;rotate_left
     ·go_simp
      rfl
     refine hK.out _ _ ⟨((cell_far (p := ⟨gb184, _, none⟩) (by first | exact (by first | exact Kd.own_blk (Kd.R_ne HO192.out BK184.out (by decide)) | exact HO192.out.1 _ rfl | exact (HO192.out.1 _ rfl).2 | exact (HO192.out.1 _ rfl).1) | (rw [add_block]; exact (by first | exact Kd.own_blk (Kd.R_ne HO192.out BK184.out (by decide)) | exact HO192.out.1 _ rfl | exact (HO192.out.1 _ rfl).2 | exact (HO192.out.1 _ rfl).1)) | (show (Addr.add _ _).block ≠ _; rw [add_block]; exact (by first | exact Kd.own_blk (Kd.R_ne HO192.out BK184.out (by decide)) | exact HO192.out.1 _ rfl | exact (HO192.out.1 _ rfl).2 | exact (HO192.out.1 _ rfl).1)) | (dsimp only; exact (by first | exact Kd.own_blk (Kd.R_ne HO192.out BK184.out (by decide)) | exact HO192.out.1 _ rfl | exact (HO192.out.1 _ rfl).2 | exact (HO192.out.1 _ rfl).1))) _).trans (((cell_far (p := ⟨gb184, _, none⟩) (by first | exact (by first | exact Kd.own_blk (Kd.R_ne HO192.out BK184.out (by decide)) | exact HO192.out.1 _ rfl | exact (HO192.out.1 _ rfl).2 | exact (HO192.out.1 _ rfl).1) | (rw [add_block]; exact (by first | exact Kd.own_blk (Kd.R_ne HO192.out BK184.out (by decide)) | exact HO192.out.1 _ rfl | exact (HO192.out.1 _ rfl).2 | exact (HO192.out.1 _ rfl).1)) | (show (Addr.add _ _).block ≠ _; rw [add_block]; exact (by first | exact Kd.own_blk (Kd.R_ne HO192.out BK184.out (by decide)) | exact HO192.out.1 _ rfl | exact (HO192.out.1 _ rfl).2 | exact (HO192.out.1 _ rfl).1)) | (dsimp only; exact (by first | exact Kd.own_blk (Kd.R_ne HO192.out BK184.out (by decide)) | exact HO192.out.1 _ rfl | exact (HO192.out.1 _ rfl).2 | exact (HO192.out.1 _ rfl).1))) _).trans (((cell_far (p := ⟨gb184, _, none⟩) (by first | exact (by first | exact Kd.own_blk (Kd.R_ne HO192.out BK184.out (by decide)) | exact HO192.out.1 _ rfl | exact (HO192.out.1 _ rfl).2 | exact (HO192.out.1 _ rfl).1) | (rw [add_block]; exact (by first | exact Kd.own_blk (Kd.R_ne HO192.out BK184.out (by decide)) | exact HO192.out.1 _ rfl | exact (HO192.out.1 _ rfl).2 | exact (HO192.out.1 _ rfl).1)) | (show (Addr.add _ _).block ≠ _; rw [add_block]; exact (by first | exact Kd.own_blk (Kd.R_ne HO192.out BK184.out (by decide)) | exact HO192.out.1 _ rfl | exact (HO192.out.1 _ rfl).2 | exact (HO192.out.1 _ rfl).1)) | (dsimp only; exact (by first | exact Kd.own_blk (Kd.R_ne HO192.out BK184.out (by decide)) | exact HO192.out.1 _ rfl | exact (HO192.out.1 _ rfl).2 | exact (HO192.out.1 _ rfl).1))) _).trans (hHeld.1)))))), ((cell_far (p := ⟨gb184, _, none⟩) (by first | exact (by first | exact Kd.own_blk (Kd.R_ne HO192.out BK184.out (by decide)) | exact HO192.out.1 _ rfl | exact (HO192.out.1 _ rfl).2 | exact (HO192.out.1 _ rfl).1) | (rw [add_block]; exact (by first | exact Kd.own_blk (Kd.R_ne HO192.out BK184.out (by decide)) | exact HO192.out.1 _ rfl | exact (HO192.out.1 _ rfl).2 | exact (HO192.out.1 _ rfl).1)) | (show (Addr.add _ _).block ≠ _; rw [add_block]; exact (by first | exact Kd.own_blk (Kd.R_ne HO192.out BK184.out (by decide)) | exact HO192.out.1 _ rfl | exact (HO192.out.1 _ rfl).2 | exact (HO192.out.1 _ rfl).1)) | (dsimp only; exact (by first | exact Kd.own_blk (Kd.R_ne HO192.out BK184.out (by decide)) | exact HO192.out.1 _ rfl | exact (HO192.out.1 _ rfl).2 | exact (HO192.out.1 _ rfl).1))) _).trans (((cell_far (p := ⟨gb184, _, none⟩) (by first | exact (by first | exact Kd.own_blk (Kd.R_ne HO192.out BK184.out (by decide)) | exact HO192.out.1 _ rfl | exact (HO192.out.1 _ rfl).2 | exact (HO192.out.1 _ rfl).1) | (rw [add_block]; exact (by first | exact Kd.own_blk (Kd.R_ne HO192.out BK184.out (by decide)) | exact HO192.out.1 _ rfl | exact (HO192.out.1 _ rfl).2 | exact (HO192.out.1 _ rfl).1)) | (show (Addr.add _ _).block ≠ _; rw [add_block]; exact (by first | exact Kd.own_blk (Kd.R_ne HO192.out BK184.out (by decide)) | exact HO192.out.1 _ rfl | exact (HO192.out.1 _ rfl).2 | exact (HO192.out.1 _ rfl).1)) | (dsimp only; exact (by first | exact Kd.own_blk (Kd.R_ne HO192.out BK184.out (by decide)) | exact HO192.out.1 _ rfl | exact (HO192.out.1 _ rfl).2 | exact (HO192.out.1 _ rfl).1))) _).trans (((cell_far (p := ⟨gb184, _, none⟩) (by first | exact (by first | exact Kd.own_blk (Kd.R_ne HO192.out BK184.out (by decide)) | exact HO192.out.1 _ rfl | exact (HO192.out.1 _ rfl).2 | exact (HO192.out.1 _ rfl).1) | (rw [add_block]; exact (by first | exact Kd.own_blk (Kd.R_ne HO192.out BK184.out (by decide)) | exact HO192.out.1 _ rfl | exact (HO192.out.1 _ rfl).2 | exact (HO192.out.1 _ rfl).1)) | (show (Addr.add _ _).block ≠ _; rw [add_block]; exact (by first | exact Kd.own_blk (Kd.R_ne HO192.out BK184.out (by decide)) | exact HO192.out.1 _ rfl | exact (HO192.out.1 _ rfl).2 | exact (HO192.out.1 _ rfl).1)) | (dsimp only; exact (by first | exact Kd.own_blk (Kd.R_ne HO192.out BK184.out (by decide)) | exact HO192.out.1 _ rfl | exact (HO192.out.1 _ rfl).2 | exact (HO192.out.1 _ rfl).1))) _).trans (hHeld.2.1)))))), ((cell_far (p := ⟨gb184, _, none⟩) (by first | exact (by first | exact Kd.own_blk (Kd.R_ne HO192.out BK184.out (by decide)) | exact HO192.out.1 _ rfl | exact (HO192.out.1 _ rfl).2 | exact (HO192.out.1 _ rfl).1) | (rw [add_block]; exact (by first | exact Kd.own_blk (Kd.R_ne HO192.out BK184.out (by decide)) | exact HO192.out.1 _ rfl | exact (HO192.out.1 _ rfl).2 | exact (HO192.out.1 _ rfl).1)) | (show (Addr.add _ _).block ≠ _; rw [add_block]; exact (by first | exact Kd.own_blk (Kd.R_ne HO192.out BK184.out (by decide)) | exact HO192.out.1 _ rfl | exact (HO192.out.1 _ rfl).2 | exact (HO192.out.1 _ rfl).1)) | (dsimp only; exact (by first | exact Kd.own_blk (Kd.R_ne HO192.out BK184.out (by decide)) | exact HO192.out.1 _ rfl | exact (HO192.out.1 _ rfl).2 | exact (HO192.out.1 _ rfl).1))) _).trans (((cell_far (p := ⟨gb184, _, none⟩) (by first | exact (by first | exact Kd.own_blk (Kd.R_ne HO192.out BK184.out (by decide)) | exact HO192.out.1 _ rfl | exact (HO192.out.1 _ rfl).2 | exact (HO192.out.1 _ rfl).1) | (rw [add_block]; exact (by first | exact Kd.own_blk (Kd.R_ne HO192.out BK184.out (by decide)) | exact HO192.out.1 _ rfl | exact (HO192.out.1 _ rfl).2 | exact (HO192.out.1 _ rfl).1)) | (show (Addr.add _ _).block ≠ _; rw [add_block]; exact (by first | exact Kd.own_blk (Kd.R_ne HO192.out BK184.out (by decide)) | exact HO192.out.1 _ rfl | exact (HO192.out.1 _ rfl).2 | exact (HO192.out.1 _ rfl).1)) | (dsimp only; exact (by first | exact Kd.own_blk (Kd.R_ne HO192.out BK184.out (by decide)) | exact HO192.out.1 _ rfl | exact (HO192.out.1 _ rfl).2 | exact (HO192.out.1 _ rfl).1))) _).trans (((cell_far (p := ⟨gb184, _, none⟩) (by first | exact (by first | exact Kd.own_blk (Kd.R_ne HO192.out BK184.out (by decide)) | exact HO192.out.1 _ rfl | exact (HO192.out.1 _ rfl).2 | exact (HO192.out.1 _ rfl).1) | (rw [add_block]; exact (by first | exact Kd.own_blk (Kd.R_ne HO192.out BK184.out (by decide)) | exact HO192.out.1 _ rfl | exact (HO192.out.1 _ rfl).2 | exact (HO192.out.1 _ rfl).1)) | (show (Addr.add _ _).block ≠ _; rw [add_block]; exact (by first | exact Kd.own_blk (Kd.R_ne HO192.out BK184.out (by decide)) | exact HO192.out.1 _ rfl | exact (HO192.out.1 _ rfl).2 | exact (HO192.out.1 _ rfl).1)) | (dsimp only; exact (by first | exact Kd.own_blk (Kd.R_ne HO192.out BK184.out (by decide)) | exact HO192.out.1 _ rfl | exact (HO192.out.1 _ rfl).2 | exact (HO192.out.1 _ rfl).1))) _).trans (hHeld.2.2))))))⟩ (fun hHeld => ?_)
     clear hK K
     refine pu_ 14 3 ?_ #[Y,Y,Y,Y,Y,Y,Y,Y,Y,Y,Y,Y,Y,Y,Y] rfl rfl (any_of HT_.out (by kernel_rfl)) (fun _ _ _ h => h) (Or.inl ⟨by rfl, ?_⟩) ?_ ?_ ?_;rotate_left
     ·intro w';go_simp;with_reducible rfl
     rotate_left;·simp only [Act.put, sA_];rfl
     refine done_ (done_of HT_.out (by kernel_rfl)) ?_
     try go_wp2
     refine bodyPost_ret (results_ct rfl _ _ gb184 26 #[.int .i64 (wrap64 (rd t188 0)), .int .i64 (wrap64 (rd t188 1)), .int .u32 ((rd t188 2) % 4294967296)] (0, 0) _ rfl (by (with_reducible repeat (first | refine blk_drewN ?_ _ | refine blk_drew ?_ | refine blk_alloc ?_ _)); refine blk_put (cs := #[.int .i64 (wrap64 (rd t188 0)), .int .i64 (wrap64 (rd t188 1)), .int .u32 0]) ?_ 2 _ rfl; (with_reducible repeat (first | refine blk_drewN ?_ _ | refine blk_drew ?_ | refine blk_alloc ?_ _)); refine blk_put (cs := #[.int .i64 (wrap64 (rd t188 0)), .int .i64 0, .int .u32 0]) ?_ 1 _ rfl; (with_reducible repeat (first | refine blk_drewN ?_ _ | refine blk_drew ?_ | refine blk_alloc ?_ _)); refine blk_put (cs := #[.int .i64 0, .int .i64 0, .int .u32 0]) ?_ 0 _ rfl; (with_reducible repeat (first | refine blk_drewN ?_ _ | refine blk_drew ?_ | refine blk_alloc ?_ _)); exact BK184.out) Tryd.underlying26 rfl (by kernel_rfl)) rfl ?_
     exact ⟨by first | rfl | (simp [errW_none, errW_some] <;> rfl) | (simp [*, errW_none, errW_some] <;> rfl), by repeat (first | (with_reducible first | exact HB.out | apply below_alloc | apply pw_below_drewN | apply below_drew1 | refine below_set ?_ GE184.out) | exact HB.out)⟩
    ·rw [if_neg c6] at H
     exact absurd H (by simp)
   ·rw [if_neg c5] at H
    exact absurd H (by simp)
  ·rw [if_neg c4] at H
   exact absurd H (by simp)
 ·rw [if_neg c3] at H
  have c3b0 : (t190 == 0) = false := beq_eq_false_iff_ne.mpr c3
  have c3b1 : (t190 != 0) = true := bne_iff_ne.mpr c3
  simp only [Option.some.injEq, Prod.mk.injEq] at H
  obtain ⟨rfl, rfl, rfl, rfl⟩ := H
  go_enter Tryd.func50, Tryd.ntmps50
  go_wp2_with (first | ((with_reducible refine HOpen.gate_append ?_); simp only [List.cons_append, List.nil_append]) | ((with_reducible refine gate_dst (N := 2) rfl ?_); refine box_event ?hg (N := 2) ?hd (cs := #[.int .i64 0, .int .i64 0, .int .u32 0]) (t := 26) ?hr ?_; (case hd => rfl); (case hg => rfl); (case hr => first | (go_simp; done) | (go_simp; rfl)); intro gb184 hg w17 hbox hb; have n0_ := Aside0.mk (below_step (by repeat (first | (with_reducible first | exact HB.out | apply below_alloc | apply pw_below_drewN | apply below_drew1) | exact HB.out)) hb); have n1_ := Aside0.mk (hbox); have n2_ := Aside0.mk ((by rw [hg]; exact (below_size (by repeat (first | (with_reducible first | exact HB.out | apply below_alloc | apply pw_below_drewN | apply below_drew1) | exact HB.out))) : w.heap.size ≤ gb184)); have n3_ := Aside0.mk ((by rw [hg]; exact (below_size (by repeat (first | (with_reducible first | exact HB.out | apply below_alloc | apply pw_below_drewN | apply below_drew1) | exact HB.out))) : w.heap.size ≤ gb184)); clear HB; have HB := n0_; have BK184 := n1_; have GW184 := n2_; have GE184 := n3_; clear n0_ n1_ n2_ n3_; clear hb hbox hg) | ((with_reducible refine gate_dst (N := 9) rfl ?_); refine Kd.R_lit (Kd.int .i64) _ 3 ?hg (N := 9) ?hd (xs := ([4, 4, 4] : List Int)) (inner := [.int .i64 4, .int .i64 4, .int .i64 4]) (ok := fun _ => True) (okp := fun _ => True) ?hr ?hp (fun _ hk => hk) trivial (Below.refl _ _) (Nat.le_refl _) (by simp) ?_; (case hd => rfl); (case hg => rfl); (case hr => first | (go_simp; done) | (go_simp; rfl)); (case hp => exact (Reps.one (show Kd.M (Kd.int .i64) _ _ _ 4 [.int .i64 4] from rfl) (Reps.one (show Kd.M (Kd.int .i64) _ _ _ 4 [.int .i64 4] from rfl) (Reps.one (show Kd.M (Kd.int .i64) _ _ _ 4 [.int .i64 4] from rfl) (Reps.none _ _))))); intro v186 w18 ho19 hb hg_ hnew_; clear hg_ hnew_; (first | rw [← Ny185.out] at ho19 | (simp only [Int.reduceToNat] at ho19; rw [← Ny185.out] at ho19)); have n0_ := Aside0.mk (Kd.R_lower ho19 (below_size (by repeat (first | (with_reducible first | exact HB.out | apply below_alloc | apply pw_below_drewN | apply below_drew1 | refine below_set ?_ GE184.out) | exact HB.out)))); have n1_ := Aside0.mk (blk_below (g := gb184) (o := .cells #[.int .i64 0, .int .i64 0, .int .u32 0] 26 (0, 0)) (by (with_reducible repeat (first | refine blk_drewN ?_ _ | refine blk_drew ?_ | refine blk_alloc ?_ _)); exact BK184.out) hb); have n2_ := Aside0.mk (below_step (by repeat (first | (with_reducible first | exact HB.out | apply below_alloc | apply pw_below_drewN | apply below_drew1 | refine below_set ?_ GE184.out) | exact HB.out)) hb); clear BK184; clear HB; have HO187 := n0_; have BK184 := n1_; have HB := n2_; clear n0_ n1_ n2_; clear hb ho19; obtain ⟨Ao20, co20, eo20⟩ := Kd.R_slice HO187.out; subst eo20) | ((with_reducible refine gate_callee (f := 49) rfl ?_); refine goesL_ (some 10) rfl rfl Tryd.func49 (by kernel_rfl) rfl #[.string a0, .slice Ao20 y185.length co20] rfl (by (try simp only [List.map_toArray, List.map_cons, List.map_nil]); first | done | rfl | (simp only [List.length_drop, List.length_take]; rfl)) ?_; (with_reducible refine (field_All.calls k a0 _ _ y185 t188 t189 t190 _ ?side1 ?side2 A2.out).mono ?_); (case side1 => repeat (first | exact (Kd.R_reads' HO187.out).2.2 | (with_reducible refine Kd.C_alloc ?_ _) | (with_reducible refine Kd.C_drewN ?_ _) | (with_reducible refine Kd.C_drew ?_))); (case side2 => exact (Kd.R_reads' HO187.out).2.1); rintro e w21 ⟨v191, rfl, ho0, hb⟩; refine ⟨_, rfl, ?_⟩; have n0_ := Aside0.mk (Kd.R_below (by (with_reducible repeat (first | apply Kd.R_alloc | apply Kd.R_drewN | apply Kd.R_drew)); exact HO187.out) hb); have n1_ := Aside0.mk (Kd.R_lower ho0 (below_size (by repeat (first | (with_reducible first | exact HB.out | apply below_alloc | apply pw_below_drewN | apply below_drew1 | refine below_set ?_ GE184.out) | exact HB.out)))); have n2_ := Aside0.mk (blk_below (g := gb184) (o := .cells #[.int .i64 0, .int .i64 0, .int .u32 0] 26 (0, 0)) (by (with_reducible repeat (first | refine blk_drewN ?_ _ | refine blk_drew ?_ | refine blk_alloc ?_ _)); exact BK184.out) hb); have n3_ := Aside0.mk (below_step (by repeat (first | (with_reducible first | exact HB.out | apply below_alloc | apply pw_below_drewN | apply below_drew1 | refine below_set ?_ GE184.out) | exact HB.out)) hb); clear HO187; clear BK184; clear HB; have HO187 := n0_; have HO192 := n1_; have BK184 := n2_; have HB := n3_; clear n0_ n1_ n2_ n3_; (try clear hb); (try clear hb2); (try clear hk); (try clear hi); (try clear ho0); have hcz22_0 : w21.cell? ⟨gb184, 0, none⟩ = some (.int .i64 0) := (blk_cell BK184.out 0).trans rfl; have hcz22_1 : w21.cell? ⟨gb184, 1, none⟩ = some (.int .i64 0) := (blk_cell BK184.out 1).trans rfl; have hcz22_2 : w21.cell? ⟨gb184, 2, none⟩ = some (.int .u32 0) := (blk_cell BK184.out 2).trans rfl; have hfz22_0 := blk_frozen BK184.out 0; have hfz22_1 := blk_frozen BK184.out 1; have hfz22_2 := blk_frozen BK184.out 2))
  refine bodyPost_ret (results_ct rfl _ _ gb184 26 #[.int .i64 0, .int .i64 0, .int .u32 0] (0, 0) _ rfl (by (with_reducible repeat (first | refine blk_drewN ?_ _ | refine blk_drew ?_ | refine blk_alloc ?_ _)); refine blk_put (cs := #[.int .i64 0, .int .i64 0, .int .u32 0]) ?_ 2 _ rfl; (with_reducible repeat (first | refine blk_drewN ?_ _ | refine blk_drew ?_ | refine blk_alloc ?_ _)); refine blk_put (cs := #[.int .i64 0, .int .i64 0, .int .u32 0]) ?_ 1 _ rfl; (with_reducible repeat (first | refine blk_drewN ?_ _ | refine blk_drew ?_ | refine blk_alloc ?_ _)); refine blk_put (cs := #[.int .i64 0, .int .i64 0, .int .u32 0]) ?_ 0 _ rfl; (with_reducible repeat (first | refine blk_drewN ?_ _ | refine blk_drew ?_ | refine blk_alloc ?_ _)); exact BK184.out) Tryd.underlying26 rfl (by kernel_rfl)) rfl ?_
  exact ⟨by first | rfl | (simp [errW_none, errW_some] <;> rfl) | (simp [*, errW_none, errW_some] <;> rfl), by repeat (first | (with_reducible first | exact HB.out | apply below_alloc | apply pw_below_drewN | apply below_drew1 | refine below_set ?_ GE184.out) | exact HB.out)⟩
end Go.Proofs.YtmmfplogkikbjaaDoor.HPB
