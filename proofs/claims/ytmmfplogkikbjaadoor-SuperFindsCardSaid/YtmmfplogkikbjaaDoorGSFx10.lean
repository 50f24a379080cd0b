/- a text of this claim -/
import Derived.Test.YtmmfplogkikbjaaDoorGSFx0
import Derived.Test.YtmmfplogkikbjaaDoorGSFx5
import Derived.Test.YtmmfplogkikbjaaDoorGSFx9
namespace Go.Proofs.YtmmfplogkikbjaaDoor.HSF
open Go.RowKit Go.Proofs.YtmmfplogkikbjaaDoorW.PrintWords Go.Proofs.YtmmfplogkikbjaaDoorW.PrintLast Go.Proofs.YtmmfplogkikbjaaDoorW.PrintMore
attribute [local go_sem] max2_int min2_int max_two min_two max_three min_three max_four min_four
set_option linter.unusedVariables false
set_option linter.unusedSimpArgs false
def field_All.l0 : Nat → ByteArray → List Int → List Int → Int → Int → Option (List Int × ByteArray × Int)
 | 0, _, _, _, _, _ => none
 | k + 1, x0, x7, x12, x13, x14 => if x14 < x13 then (if 0 ≤ x14 then (if x14 < (x12.length : Int) then ((field_Get.f k (rd x12 x14) x0).bind fun bt171 => (if bt171.2 = 0 then (if x7.length < 17592186044416 then (if 0 ≤ (rd x12 x14) then (if (rd x12 x14) ≤ (x0.size : Int) then (field_All.l0 k (x0.extract ((rd x12 x14) : Int).toNat x0.size) (x7 ++ [bt171.1]) x12 x13 (wrap64 (x14 + 1))) else (none)) else (none)) else (none)) else (some (([] : List Int), (⟨#[]⟩ : ByteArray), bt171.2)))) else (none)) else (none)) else (some (x7, x0, 0))
def field_All.f (k : Nat) (a0 : ByteArray) (l1 : List Int) : Option (List Int × ByteArray × Int) := field_All.l0 k a0 ([] : List Int) l1 (l1.length : Int) 0
def field_All.T8 : Bool × List (List Nat × List Nat) := (true, [([], []), ([], []), ([1], [1]), ([0, 2], [0, 2]), ([], []), ([], []), ([4, 5], [4, 5]), ([3, 3, 0, 1, 2, 3], [0, 3]), ([6, 7, 0, 1, 2, 3, 4, 5, 6, 7], [4, 6])])
def field_All.B8 : List Nat := [0, 0, 2, 7, 0, 0, 48, 15, 255]
theorem field_All.tab8 : rtab .any (opsOf Tryd.f49 8) = field_All.T8 := by kernel_rfl
theorem field_All.bits8 : waitsOk field_All.T8.2 field_All.B8 = true := by kernel_rfl
set_option maxHeartbeats 8000000 in
set_option maxRecDepth 100000 in
theorem field_All.calls (k : Nat) (a0 : ByteArray) (A1 : Option Addr) (c1 : Nat) (l1 : List Int) (r1 : List Int) (r2 : ByteArray) (r3 : Int) (w : World) (hr1 : Kd.C (Kd.int .i64) w A1 l1.length l1) (hc1 : l1.length ≤ c1) (h : field_All.f k a0 l1 = some (r1, r2, r3)) :
  Calls Tryd.prog 49 #[.string a0, .slice A1 l1.length c1] w fun e w' => ∃ v0_ : Value, e = .returned (.tuple #[v0_, .string r2, .int .i64 r3]) ∧ Kd.R (Kd.int .u64) 90 w' w.heap.size (fun _ => True) v0_ r1 ∧ Below w.heap.size w w' := by
 have HR1 := Aside0.mk hr1
 have HC1 := Aside0.mk hc1
 clear hr1 hc1
 have HB := Aside0.mk (Below.refl w.heap.size w)
 have H : (field_All.l0 k a0 ([] : List Int) l1 (l1.length : Int) 0) = some (r1, r2, r3) := h
 clear h
 have H' := Aside0.mk H
 clear H
 go_enter Tryd.func49, Tryd.ntmps49
 go_wp2
 go_loopg [0, 7, 14] k (fun kq v0 v7 v14 w' => ∃ (x0_1 : ByteArray) (x7_1 : List Int) (x14_1 : Int), v0 = .string x0_1 ∧ v14 = .int .i64 x14_1 ∧ Aside0 (field_All.l0 kq x0_1 x7_1 l1 (l1.length : Int) x14_1 = some (r1, r2, r3)) ∧ Aside0 (kq ≤ k) ∧ Aside0 (Kd.R (Kd.int .u64) 90 w' w.heap.size (fun _ => True) v7 x7_1) ∧ Aside0 (Below w.heap.size w w'))
 case atStart => exact ⟨(a0), (([] : List Int)), (0), (by first | rfl | (simp; done) | (simp [*]; done)), (by first | rfl | (simp; done) | (simp [*]; done)), H', ⟨Nat.le_refl _⟩, ⟨by first | exact Kd.R_nil _ _ _ _ _ | exact Kd.N_nil _ _ _ _ _ | exact Kd.V_nil _ _ _ _ _ | exact Kd.Q_nil _ _ _ _ _ | exact Kd.S_nil _ _ _ _ _⟩, ⟨by repeat (first | (with_reducible first | exact HB.out | apply below_alloc | apply pw_below_drewN | apply below_drew1) | exact HB.out)⟩⟩
 case round =>
  clear H'
  (try clear c1);(try clear p2)
  obtain ⟨x0_1, x7_1, x14_1, rfl, rfl, HA, HK1, HO_7, HB⟩ := hrel
  cases gk with
  | zero => exact absurd HA.out (by simp [field_All.l0])
  | succ k1 =>
   have H := HA.out
   clear HA
   simp only [field_All.l0] at H
   by_cases c3 : x14_1 < (l1.length : Int)
   ·rw [if_pos c3] at H
    have c3b0 : decide (x14_1 < (l1.length : Int)) = true := decide_eq_true c3
    clear c3
    by_cases c4 : 0 ≤ x14_1
    ·rw [if_pos c4] at H
     have c4b0 : decide (0 ≤ x14_1) = true := decide_eq_true c4
     clear c4
     by_cases c5 : x14_1 < (l1.length : Int)
     ·rw [if_pos c5] at H
      have c5b0 : decide (x14_1 < (l1.length : Int)) = true := decide_eq_true c5
      clear c5
      replace H := Option.bind_eq_some_iff.mp H
      obtain ⟨⟨t171, t172⟩, A60, H⟩ := H
      replace H : (if t172 = 0 then (if x7_1.length < 17592186044416 then (if 0 ≤ (rd l1 x14_1) then (if (rd l1 x14_1) ≤ (x0_1.size : Int) then (field_All.l0 k1 (x0_1.extract ((rd l1 x14_1) : Int).toNat x0_1.size) (x7_1 ++ [t171]) l1 (l1.length : Int) (wrap64 (x14_1 + 1))) else (none)) else (none)) else (none)) else (some (([] : List Int), (⟨#[]⟩ : ByteArray), t172))) = some (r1, r2, r3) := H
      have A6 := Aside0.mk A60
      clear A60
      by_cases c7 : t172 = 0
      ·rw [if_pos c7] at H
       have c7b0 : (t172 == 0) = true := beq_iff_eq.mpr c7
       have c7b1 : (t172 != 0) = false := bne_eq_false_iff_eq.mpr c7
       clear c7
       by_cases c8 : x7_1.length < 17592186044416
       ·rw [if_pos c8] at H
        have LMc8 := Aside0.mk c8
        clear c8
        obtain ⟨y173, hy173⟩ : ∃ y_ : List Int, y_ = (x7_1 ++ [t171]) := ⟨_, rfl⟩
        replace H : (if 0 ≤ (rd l1 x14_1) then (if (rd l1 x14_1) ≤ (x0_1.size : Int) then (field_All.l0 k1 (x0_1.extract ((rd l1 x14_1) : Int).toNat x0_1.size) y173 l1 (l1.length : Int) (wrap64 (x14_1 + 1))) else (none)) else (none)) = some (r1, r2, r3) := by first | (rw [hy173]; with_reducible exact H) | (have H2_ := (Option.bind_some _ _).symm.trans H; rw [hy173]; with_reducible exact H2_) | (have H2_ := (Option.bind_some _ _).symm.trans H; with_reducible exact H2_) | with_reducible exact H | (rw [hy173]; exact H) | exact H
        have Ny173 := Aside0.mk hy173
        clear hy173
        by_cases c9 : 0 ≤ (rd l1 x14_1)
        ·rw [if_pos c9] at H
         have c9b0 := eq_true c9
         have c9b1 : decide (0 ≤ (rd l1 x14_1)) = true := decide_eq_true c9
         clear c9
         by_cases c10 : (rd l1 x14_1) ≤ (x0_1.size : Int)
         ·rw [if_pos c10] at H
          have c10b0 := eq_true c10
          have c10b1 : decide ((rd l1 x14_1) ≤ (x0_1.size : Int)) = true := decide_eq_true c10
          clear c10
          have H' := Aside0.mk H
          clear H
          have p170 : 0 ≤ (x14_1 : Int) := of_decide_eq_true (by first | (with_reducible assumption) | assumption)
          have q170 : x14_1 < (l1.length : Int) := of_decide_eq_true (by first | (with_reducible assumption) | assumption)
          obtain ⟨ad170, e170, hx170_0⟩ := Kd.at_int HR1.out x14_1 p170 q170
          cases e170
          replace hx170_0 := (HB.out.cell (World.block_lt_of_cell? w _ hx170_0)).trans hx170_0
          replace p170 := eq_true p170
          replace q170 := eq_true q170
          try go_wp2_with (first | ((with_reducible refine HOpen.gate_append ?_); simp only [List.cons_append, List.nil_append]) | ((with_reducible refine gate_callee (f := 103) rfl ?_); refine goesL_ (some 21) rfl rfl Tryd.func103 (by kernel_rfl) rfl #[.int .i64 (rd l1 x14_1), .string x0_1] rfl (by (try simp only [List.map_toArray, List.map_cons, List.map_nil]); first | done | rfl | (simp only [List.length_drop, List.length_take]; rfl)) ?_; (with_reducible refine (field_Get.calls k1 (rd l1 x14_1) x0_1 t171 t172 _ A6.out).mono ?_); rintro e w' ⟨rfl, ⟨nd, rfl⟩⟩; refine ⟨_, rfl, ?_⟩))
          (try (rw [drewN_self wr]; generalize hq_ : World.drewN wr _ = wr; have n0_ : Aside0 (Kd.R (Kd.int .u64) 90 wr w.heap.size (fun _ => True) u7 x7_1) := ⟨by rw [← hq_]; exact (by (with_reducible repeat (first | apply Kd.R_alloc | apply Kd.R_drewN | apply Kd.R_drew)); exact HO_7.out)⟩; have n1_ : Aside0 (Below w.heap.size w wr) := ⟨by rw [← hq_]; exact (by repeat (first | (with_reducible first | exact HB.out | apply below_alloc | apply pw_below_drewN | apply below_drew1) | exact HB.out))⟩; clear HO_7 HB hq_; have HO_7 := n0_; have HB := n1_; clear n0_ n1_))
          have n0_ := Aside0.mk (Kd.R_drew HO_7.out)
          have n1_ := Aside0.mk (below_drew1 HB.out)
          clear HO_7
          clear HB
          have HO_7 := n0_
          have HB := n1_
          clear n0_ n1_
          refine start_ (n := 9) (S := fun w' => True) (ds := []) #[G,G,G,G,G,G,G,G,G] (by kernel_rfl) rfl rfl trivial (fun hHeld => ?_); refine with_tabW field_All.tab8 field_All.bits8 (fun HT_ HW_ => ?_)
          generalize wr.drew = w11 at HO_7 HB hHeld ⊢
          refine pure_ (i := 0) (N := some 27) (v := ?_) (a' := ?_) #[Y,G,G,G,G,G,G,G,G] rfl rfl (any_of HT_.out (by kernel_rfl)) (fun _ _ _ h => h) (Or.inl ⟨by rfl, ?_⟩) ?_ ?_;rotate_left
          ·intro w';go_simp;with_reducible rfl
          rotate_left;·simp only [Act.put, sA_];rfl
          refine pure_ (i := 1) (N := some 28) (v := ?_) (a' := ?_) #[Y,Y,G,G,G,G,G,G,G] rfl rfl (any_of HT_.out (by kernel_rfl)) (fun _ _ _ h => h) (Or.inl ⟨by rfl, ?_⟩) ?_ ?_;rotate_left
          ·intro w';go_simp;with_reducible rfl
          rotate_left;·simp only [Act.put, sA_];rfl
          refine pure_ (i := 4) (N := some 31) (v := ?_) (a' := ?_) #[Y,Y,G,G,Y,G,G,G,G] rfl rfl (any_of HT_.out (by kernel_rfl)) (fun _ _ _ h => h) (Or.inl ⟨by rfl, ?_⟩) ?_ ?_;rotate_left
          ·intro w';go_simp;with_reducible rfl
          rotate_left;·simp only [Act.put, sA_];rfl
          refine pure_ (i := 5) (N := some 32) (v := ?_) (a' := ?_) #[Y,Y,G,G,Y,Y,G,G,G] rfl rfl (any_of HT_.out (by kernel_rfl)) (fun _ _ _ h => h) (Or.inl ⟨by rfl, ?_⟩) ?_ ?_;rotate_left
          ·intro w';go_simp;with_reducible rfl
          rotate_left;·simp only [Act.put, sA_];rfl
          refine pure_ (i := 6) (N := some 33) (v := ?_) (a' := ?_) #[Y,Y,G,G,Y,Y,Y,G,G] rfl rfl (any_of HT_.out (by kernel_rfl)) (fun _ _ _ h => h) (Or.inl ⟨by rfl, ?_⟩) ?_ ?_;rotate_left
          ·intro w';go_simp;with_reducible rfl
          rotate_left;·simp only [Act.put, sA_];rfl
          refine one_ (i := 2) (N := some 29) #[Y,Y,Y,G,Y,Y,Y,G,G] rfl rfl (one_of HT_.out (by kernel_rfl)) (by decide) (fun K hK => ?_)
          refine value_ (w1 := ?_) (v := ?_) (by rfl) rfl ?_ ?_
          rotate_left 2
          ·go_simp
           constructor
           ·rfl
           ·rfl
          refine hK.out _ _ trivial (fun hHeld => ?_)
          clear hK K
          refine norm_ (a' := ?_) ?_ ?_;rotate_left
          ·show Act.put _ (some 29) _ = _
           simp only [Act.put, sA_]
           rfl
          refine one_ (i := 3) (N := some 30) #[Y,Y,Y,Y,Y,Y,Y,G,G] rfl rfl (one_of HT_.out (by kernel_rfl)) (by decide) (fun K hK => ?_)
          refine Kd.R_append_step (Kd.int .u64) (w0 := w) w.heap.size (by rfl) (.tmp 27) (.tmp 29) 91 90 (.int .u64 0) 8 rfl Tryd.underlying91 info90 rfl (by decide) (by omega) u7 x7_1 t171 [.int .u64 t171] (fun _ => True) (fun _ => False) rfl rfl ?aP (fun _ hk => hk.elim) ?aF ?aO ?aB ?aS ?aL ?_
          (case aP => exact rfl)
          (case aB => exact (by repeat (first | (with_reducible first | exact HB.out | apply below_alloc | apply pw_below_drewN | apply below_drew1) | exact HB.out)))
          (case aF => exact (fun _ _ => trivial))
          (case aO => exact (by (with_reducible repeat (first | apply Kd.R_alloc | apply Kd.R_drewN | apply Kd.R_drew)); exact HO_7.out))
          (case aS => exact (below_size (by repeat (first | (with_reducible first | exact HB.out | apply below_alloc | apply pw_below_drewN | apply below_drew1) | exact HB.out))))
          (case aL => have := LMc8.out; omega)
          intro v174 w12 ho hb hg hat
          rw [← Ny173.out] at ho
          have n0_ := Aside0.mk (hb)
          have n1_ := Aside0.mk (ho)
          clear HB
          clear HO_7
          have HB := n0_
          have HO175 := n1_
          clear n0_ n1_
          clear ho hb hg hat
          refine hK.out _ _ trivial (fun hHeld => ?_)
          clear hK K
          refine norm_ (a' := ?_) ?_ ?_;rotate_left
          ·show Act.put _ (some 30) _ = _
           simp only [Act.put, sA_]
           rfl
          refine pure_ (i := 7) (N := some 7) (v := ?_) (a' := ?_) #[Y,Y,Y,Y,Y,Y,Y,Y,G] rfl rfl (any_of HT_.out (by kernel_rfl)) (fun _ _ _ h => h) (Or.inl ⟨by rfl, ?_⟩) ?_ ?_;rotate_left
          ·intro w';go_simp;with_reducible rfl
          rotate_left;·simp only [Act.put, sA_];rfl
          refine pure_ (i := 8) (N := some 0) (v := ?_) (a' := ?_) #[Y,Y,Y,Y,Y,Y,Y,Y,Y] rfl rfl (any_of HT_.out (by kernel_rfl)) (fun _ _ _ h => h) (Or.inl ⟨by rfl, ?_⟩) ?_ ?_;rotate_left
          ·intro w';go_simp;with_reducible rfl
          rotate_left;·simp only [Act.put, sA_];rfl
          refine done_ (done_of HT_.out (by kernel_rfl)) ?_
          try go_wp2
          go_roundg k1
          case measure => have := HK1.out; omega
          case rel => exact ⟨(x0_1.extract ((rd l1 x14_1) : Int).toNat x0_1.size), (y173), (wrap64 (x14_1 + 1)), (by first | rfl | (simp; done) | (simp [*]; done)), (by first | rfl | (simp; done) | (simp [*]; done)), H', ⟨by have := HK1.out; omega⟩, ⟨by (with_reducible repeat (first | apply Kd.R_alloc | apply Kd.R_drewN | apply Kd.R_drew)); exact HO175.out⟩, ⟨by repeat (first | (with_reducible first | exact HB.out | apply below_alloc | apply pw_below_drewN | apply below_drew1) | exact HB.out)⟩⟩
         ·rw [if_neg c10] at H
          exact absurd H (by simp)
        ·rw [if_neg c9] at H
         exact absurd H (by simp)
       ·rw [if_neg c8] at H
        exact absurd H (by simp)
      ·rw [if_neg c7] at H
       have c7b0 : (t172 == 0) = false := beq_eq_false_iff_ne.mpr c7
       have c7b1 : (t172 != 0) = true := bne_iff_ne.mpr c7
       simp only [Option.some.injEq, Prod.mk.injEq] at H
       obtain ⟨rfl, rfl, rfl⟩ := H
       have p170 : 0 ≤ (x14_1 : Int) := of_decide_eq_true (by first | (with_reducible assumption) | assumption)
       have q170 : x14_1 < (l1.length : Int) := of_decide_eq_true (by first | (with_reducible assumption) | assumption)
       obtain ⟨ad170, e170, hx170_0⟩ := Kd.at_int HR1.out x14_1 p170 q170
       cases e170
       replace hx170_0 := (HB.out.cell (World.block_lt_of_cell? w _ hx170_0)).trans hx170_0
       replace p170 := eq_true p170
       replace q170 := eq_true q170
       go_wp2_with (first | ((with_reducible refine HOpen.gate_append ?_); simp only [List.cons_append, List.nil_append]) | ((with_reducible refine gate_callee (f := 103) rfl ?_); refine goesL_ (some 21) rfl rfl Tryd.func103 (by kernel_rfl) rfl #[.int .i64 (rd l1 x14_1), .string x0_1] rfl (by (try simp only [List.map_toArray, List.map_cons, List.map_nil]); first | done | rfl | (simp only [List.length_drop, List.length_take]; rfl)) ?_; (with_reducible refine (field_Get.calls k1 (rd l1 x14_1) x0_1 t171 t172 _ A6.out).mono ?_); rintro e w' ⟨rfl, ⟨nd, rfl⟩⟩; refine ⟨_, rfl, ?_⟩))
       go_ret3
       exact ⟨_, by first | rfl | (simp [errW_none, errW_some] <;> rfl) | (simp [*, errW_none, errW_some] <;> rfl), by first | exact Kd.R_nil _ _ _ _ _ | exact Kd.N_nil _ _ _ _ _ | exact Kd.V_nil _ _ _ _ _ | exact Kd.Q_nil _ _ _ _ _ | exact Kd.S_nil _ _ _ _ _, by repeat (first | (with_reducible first | exact HB.out | apply below_alloc | apply pw_below_drewN | apply below_drew1) | exact HB.out)⟩
     ·rw [if_neg c5] at H
      exact absurd H (by simp)
    ·rw [if_neg c4] at H
     exact absurd H (by simp)
   ·rw [if_neg c3] at H
    have c3b0 : decide (x14_1 < (l1.length : Int)) = false := decide_eq_false c3
    clear c3
    simp only [Option.some.injEq, Prod.mk.injEq] at H
    obtain ⟨rfl, rfl, rfl⟩ := H
    go_wp2
    go_ret3
    exact ⟨_, by first | rfl | (simp [errW_none, errW_some] <;> rfl) | (simp [*, errW_none, errW_some] <;> rfl), by (with_reducible repeat (first | apply Kd.R_alloc | apply Kd.R_drewN | apply Kd.R_drew)); exact HO_7.out, by repeat (first | (with_reducible first | exact HB.out | apply below_alloc | apply pw_below_drewN | apply below_drew1) | exact HB.out)⟩
def field_GetPtr.f (k : Nat) (a0 : ByteArray) : Option (Int × Int × Int × Int) := (field_All.f k a0 (([4, 4, 4] : List Int))).bind fun bt180 => (if bt180.2.2 = 0 then (if 0 < (bt180.1.length : Int) then (if 1 < (bt180.1.length : Int) then (if 2 < (bt180.1.length : Int) then (some (wrap64 (rd bt180.1 0), wrap64 (rd bt180.1 1), (rd bt180.1 2) % 4294967296, 0)) else (none)) else (none)) else (none)) else (some (0, 0, 0, bt180.2.2)))
def field_GetPtr.T4 : Bool × List (List Nat × List Nat) := (true, [([], []), ([0], [0]), ([1], [1]), ([2], [2]), ([], []), ([4], [4]), ([5], [5]), ([6], [6]), ([], []), ([8], [8]), ([9], [9]), ([10], [10]), ([3, 7, 11], [3, 7, 11]), ([12, 0, 1, 2, 3, 4, 5, 6, 7, 8, 9, 10, 11, 12], [12]), ([13, 0, 1, 2, 3, 4, 5, 6, 7, 8, 9, 10, 11, 12, 13], [])])
def field_GetPtr.B4 : List Nat := [0, 1, 3, 7, 0, 16, 48, 112, 0, 256, 768, 1792, 4095, 8191, 16383]
theorem field_GetPtr.tab4 : rtab .any (opsOf Tryd.f50 4) = field_GetPtr.T4 := by kernel_rfl
theorem field_GetPtr.bits4 : waitsOk field_GetPtr.T4.2 field_GetPtr.B4 = true := by kernel_rfl
set_option maxHeartbeats 8000000 in
set_option maxRecDepth 100000 in
theorem field_GetPtr.calls (k : Nat) (a0 : ByteArray) (r1 : Int) (r2 : Int) (r3 : Int) (r4 : Int) (w : World) (h : field_GetPtr.f k a0 = some (r1, r2, r3, r4)) :
  Calls Tryd.prog 50 #[.string a0] w fun e w' => e = .returned (.tuple #[.agg #[.int .i64 r1, .int .i64 r2, .int .u32 r3], .int .i64 r4]) ∧ Below w.heap.size w w' := by
 have hu26 := Tryd.underlying26
 have HB := Aside0.mk (Below.refl w.heap.size w)
 have H : ((field_All.f k a0 (([4, 4, 4] : List Int))).bind fun bt180 => (if bt180.2.2 = 0 then (if 0 < (bt180.1.length : Int) then (if 1 < (bt180.1.length : Int) then (if 2 < (bt180.1.length : Int) then (some (wrap64 (rd bt180.1 0), wrap64 (rd bt180.1 1), (rd bt180.1 2) % 4294967296, 0)) else (none)) else (none)) else (none)) else (some (0, 0, 0, bt180.2.2)))) = some (r1, r2, r3, r4) := h
 clear h
 obtain ⟨y177, hy177⟩ : ∃ y_ : List Int, y_ = (([4, 4, 4] : List Int)) := ⟨_, rfl⟩
 replace H : ((field_All.f k a0 y177).bind fun bt180 => (if bt180.2.2 = 0 then (if 0 < (bt180.1.length : Int) then (if 1 < (bt180.1.length : Int) then (if 2 < (bt180.1.length : Int) then (some (wrap64 (rd bt180.1 0), wrap64 (rd bt180.1 1), (rd bt180.1 2) % 4294967296, 0)) else (none)) else (none)) else (none)) else (some (0, 0, 0, bt180.2.2)))) = some (r1, r2, r3, r4) := by first | (rw [hy177]; with_reducible exact H) | (have H2_ := (Option.bind_some _ _).symm.trans H; rw [hy177]; with_reducible exact H2_) | (have H2_ := (Option.bind_some _ _).symm.trans H; with_reducible exact H2_) | with_reducible exact H | (rw [hy177]; exact H) | exact H
 have Ny177 := Aside0.mk hy177
 clear hy177
 replace H := Option.bind_eq_some_iff.mp H
 obtain ⟨⟨t180, t181, t182⟩, A20, H⟩ := H
 replace H : (if t182 = 0 then (if 0 < (t180.length : Int) then (if 1 < (t180.length : Int) then (if 2 < (t180.length : Int) then (some (wrap64 (rd t180 0), wrap64 (rd t180 1), (rd t180 2) % 4294967296, 0)) else (none)) else (none)) else (none)) else (some (0, 0, 0, t182))) = some (r1, r2, r3, r4) := H
 have A2 := Aside0.mk A20
 clear A20
 by_cases c3 : t182 = 0
 ·rw [if_pos c3] at H
  have c3b0 : (t182 == 0) = true := beq_iff_eq.mpr c3
  have c3b1 : (t182 != 0) = false := bne_eq_false_iff_eq.mpr c3
  clear c3
  by_cases c4 : 0 < (t180.length : Int)
  ·rw [if_pos c4] at H
   have c4b0 : decide (0 < (t180.length : Int)) = true := decide_eq_true c4
   have c4b1 : decide (0 < t180.length) = true := decide_eq_true (by omega)
   clear c4
   by_cases c5 : 1 < (t180.length : Int)
   ·rw [if_pos c5] at H
    have c5b0 : decide (1 < (t180.length : Int)) = true := decide_eq_true c5
    have c5b1 : decide (1 < t180.length) = true := decide_eq_true (by omega)
    clear c5
    by_cases c6 : 2 < (t180.length : Int)
    ·rw [if_pos c6] at H
     have c6b0 : decide (2 < (t180.length : Int)) = true := decide_eq_true c6
     have c6b1 : decide (2 < t180.length) = true := decide_eq_true (by omega)
     clear c6
     simp only [Option.some.injEq, Prod.mk.injEq] at H
     obtain ⟨rfl, rfl, rfl, rfl⟩ := H
     go_enter Tryd.func50, Tryd.ntmps50
     try go_wp2_with (first | ((with_reducible refine HOpen.gate_append ?_); simp only [List.cons_append, List.nil_append]) | ((with_reducible refine gate_dst (N := 2) rfl ?_); refine box_event ?hg (N := 2) ?hd (cs := #[.int .i64 0, .int .i64 0, .int .u32 0]) (t := 26) ?hr ?_; (case hd => rfl); (case hg => rfl); (case hr => first | (go_simp; done) | (go_simp; rfl)); intro gb176 hg w7 hbox hb; have n0_ := Aside0.mk (below_step (by repeat (first | (with_reducible first | exact HB.out | apply below_alloc | apply pw_below_drewN | apply below_drew1) | exact HB.out)) hb); have n1_ := Aside0.mk (hbox); have n2_ := Aside0.mk ((by rw [hg]; exact (below_size (by repeat (first | (with_reducible first | exact HB.out | apply below_alloc | apply pw_below_drewN | apply below_drew1) | exact HB.out))) : w.heap.size ≤ gb176)); have n3_ := Aside0.mk ((by rw [hg]; exact (below_size (by repeat (first | (with_reducible first | exact HB.out | apply below_alloc | apply pw_below_drewN | apply below_drew1) | exact HB.out))) : w.heap.size ≤ gb176)); clear HB; have HB := n0_; have BK176 := n1_; have GW176 := n2_; have GE176 := n3_; clear n0_ n1_ n2_ n3_; clear hb hbox hg) | ((with_reducible refine gate_dst (N := 9) rfl ?_); refine Kd.R_lit (Kd.int .i64) _ 3 ?hg (N := 9) ?hd (xs := ([4, 4, 4] : List Int)) (inner := [.int .i64 4, .int .i64 4, .int .i64 4]) (ok := fun _ => True) (okp := fun _ => True) ?hr ?hp (fun _ hk => hk) trivial (Below.refl _ _) (Nat.le_refl _) (by simp) ?_; (case hd => rfl); (case hg => rfl); (case hr => first | (go_simp; done) | (go_simp; rfl)); (case hp => exact (Reps.one (show Kd.M (Kd.int .i64) _ _ _ 4 [.int .i64 4] from rfl) (Reps.one (show Kd.M (Kd.int .i64) _ _ _ 4 [.int .i64 4] from rfl) (Reps.one (show Kd.M (Kd.int .i64) _ _ _ 4 [.int .i64 4] from rfl) (Reps.none _ _))))); intro v178 w8 ho9 hb hg_ hnew_; clear hg_ hnew_; (first | rw [← Ny177.out] at ho9 | (simp only [Int.reduceToNat] at ho9; rw [← Ny177.out] at ho9)); have n0_ := Aside0.mk (Kd.R_lower ho9 (below_size (by repeat (first | (with_reducible first | exact HB.out | apply below_alloc | apply pw_below_drewN | apply below_drew1 | refine below_set ?_ GE176.out) | exact HB.out)))); have n1_ := Aside0.mk (blk_below (g := gb176) (o := .cells #[.int .i64 0, .int .i64 0, .int .u32 0] 26 (0, 0)) (by (with_reducible repeat (first | refine blk_drewN ?_ _ | refine blk_drew ?_ | refine blk_alloc ?_ _)); exact BK176.out) hb); have n2_ := Aside0.mk (below_step (by repeat (first | (with_reducible first | exact HB.out | apply below_alloc | apply pw_below_drewN | apply below_drew1 | refine below_set ?_ GE176.out) | exact HB.out)) hb); clear BK176; clear HB; have HO179 := n0_; have BK176 := n1_; have HB := n2_; clear n0_ n1_ n2_; clear hb ho9; obtain ⟨Ao10, co10, eo10⟩ := Kd.R_slice HO179.out; subst eo10) | ((with_reducible refine gate_callee (f := 49) rfl ?_); refine goesL_ (some 10) rfl rfl Tryd.func49 (by kernel_rfl) rfl #[.string a0, .slice Ao10 y177.length co10] rfl (by (try simp only [List.map_toArray, List.map_cons, List.map_nil]); first | done | rfl | (simp only [List.length_drop, List.length_take]; rfl)) ?_; (with_reducible refine (field_All.calls k a0 _ _ y177 t180 t181 t182 _ ?side1 ?side2 A2.out).mono ?_); (case side1 => repeat (first | exact (Kd.R_reads' HO179.out).2.2 | (with_reducible refine Kd.C_alloc ?_ _) | (with_reducible refine Kd.C_drewN ?_ _) | (with_reducible refine Kd.C_drew ?_))); (case side2 => exact (Kd.R_reads' HO179.out).2.1); rintro e w11 ⟨v183, rfl, ho0, hb⟩; refine ⟨_, rfl, ?_⟩; have n0_ := Aside0.mk (Kd.R_below (by (with_reducible repeat (first | apply Kd.R_alloc | apply Kd.R_drewN | apply Kd.R_drew)); exact HO179.out) hb); have n1_ := Aside0.mk (Kd.R_lower ho0 (below_size (by repeat (first | (with_reducible first | exact HB.out | apply below_alloc | apply pw_below_drewN | apply below_drew1 | refine below_set ?_ GE176.out) | exact HB.out)))); have n2_ := Aside0.mk (blk_below (g := gb176) (o := .cells #[.int .i64 0, .int .i64 0, .int .u32 0] 26 (0, 0)) (by (with_reducible repeat (first | refine blk_drewN ?_ _ | refine blk_drew ?_ | refine blk_alloc ?_ _)); exact BK176.out) hb); have n3_ := Aside0.mk (below_step (by repeat (first | (with_reducible first | exact HB.out | apply below_alloc | apply pw_below_drewN | apply below_drew1 | refine below_set ?_ GE176.out) | exact HB.out)) hb); clear HO179; clear BK176; clear HB; have HO179 := n0_; have HO184 := n1_; have BK176 := n2_; have HB := n3_; clear n0_ n1_ n2_ n3_; (try clear hb); (try clear hb2); (try clear hk); (try clear hi); (try clear ho0)))
     have n0_ := Aside0.mk (Kd.R_drew HO179.out)
     have n1_ := Aside0.mk (Kd.R_drew HO184.out)
     have n2_ := Aside0.mk (blk_drew BK176.out)
     have n3_ := Aside0.mk (below_drew1 HB.out)
     clear HO179
     clear HO184
     clear BK176
     clear HB
     have HO179 := n0_
     have HO184 := n1_
     have BK176 := n2_
     have HB := n3_
     clear n0_ n1_ n2_ n3_
     obtain ⟨Ao13, co13, eo13⟩ := Kd.R_slice HO184.out
     (first | subst eo13 | (injection eo13 with f1_ f2_ f3_; have f4_ := f1_.symm; have f5_ := f3_.symm; clear f1_ f2_ f3_; subst f4_; subst f5_))
     have p185 : 0 ≤ (0 : Int) := (by omega)
     have q185 : 0 < (t180.length : Int) := of_decide_eq_true (by first | (with_reducible assumption) | assumption)
     obtain ⟨ad185, e185, hx185_0⟩ := Kd.at_int (Kd.R_reads' HO184.out).2.2 0 p185 q185
     cases e185
     have qi185 : (0 < t180.length) = True := eq_true (by omega)
     (try rw [show ((0 : Int)).toNat = 0 from rfl] at hx185_0)
     (try rw [Addr.add_zero'] at hx185_0)
     replace p185 := eq_true p185
     replace q185 := eq_true q185
     have p186 : 0 ≤ (1 : Int) := (by omega)
     have q186 : 1 < (t180.length : Int) := of_decide_eq_true (by first | (with_reducible assumption) | assumption)
     obtain ⟨ad186, e186, hx186_0⟩ := Kd.at_int (Kd.R_reads' HO184.out).2.2 1 p186 q186
     obtain rfl : ad185 = ad186 := (by injection e186)
     (try simp only [show (1 : Int).toNat = 1 from rfl, Nat.reduceMul, Nat.reduceEqDiff, Go.Addr.add, ↓reduceIte] at hx186_0)
     have qi186 : (1 < t180.length) = True := eq_true (by omega)
     (try rw [show ((1 : Int)).toNat = 1 from rfl] at hx186_0)
     replace p186 := eq_true p186
     replace q186 := eq_true q186
     have p187 : 0 ≤ (2 : Int) := (by omega)
     have q187 : 2 < (t180.length : Int) := of_decide_eq_true (by first | (with_reducible assumption) | assumption)
     obtain ⟨ad187, e187, hx187_0⟩ := Kd.at_int (Kd.R_reads' HO184.out).2.2 2 p187 q187
     obtain rfl : ad185 = ad187 := (by injection e187)
     (try simp only [show (2 : Int).toNat = 2 from rfl, Nat.reduceMul, Nat.reduceEqDiff, Go.Addr.add, ↓reduceIte] at hx187_0)
     have qi187 : (2 < t180.length) = True := eq_true (by omega)
     (try rw [show ((2 : Int)).toNat = 2 from rfl] at hx187_0)
     replace p187 := eq_true p187
     replace q187 := eq_true q187
     refine start_ (n := 15) (S := fun w' => w'.cell? ad185 = some (.int .u64 (rd t180 0)) ∧ w'.cell? ⟨ad185.block, ad185.off + 1, none⟩ = some (.int .u64 (rd t180 1)) ∧ w'.cell? ⟨ad185.block, ad185.off + 2, none⟩ = some (.int .u64 (rd t180 2))) (ds := []) #[G,G,G,G,G,G,G,G,G,G,G,G,G,G,G] (by kernel_rfl) rfl rfl ⟨hx185_0, hx186_0, hx187_0⟩ (fun hHeld => ?_); refine with_tabW field_GetPtr.tab4 field_GetPtr.bits4 (fun HT_ HW_ => ?_)
     generalize w11.drew = w12 at HO179 HO184 BK176 HB hx185_0 hx186_0 hx187_0 hHeld ⊢
     refine pure_ (i := 0) (N := some 18) (v := ?_) (a' := ?_) #[Y,G,G,G,G,G,G,G,G,G,G,G,G,G,G] rfl rfl (any_of HT_.out (by kernel_rfl)) (fun _ _ _ h => h) (Or.inl ⟨by rfl, ?_⟩) ?_ ?_;rotate_left
     ·intro w';go_simp;with_reducible rfl
     rotate_left;·simp only [Act.put, sA_];rfl
     refine pure_ (i := 1) (N := some 19) (v := ?_) (a' := ?_) #[Y,Y,G,G,G,G,G,G,G,G,G,G,G,G,G] rfl rfl (any_of HT_.out (by kernel_rfl)) (fun _ _ _ h => h) (Or.inl ⟨by rfl, ?_⟩) ?_ ?_;rotate_left
     ·intro w';go_simp;with_reducible rfl
     rotate_left;·simp only [Act.put, sA_];rfl
     refine pure_ (i := 4) (N := some 22) (v := ?_) (a' := ?_) #[Y,Y,G,G,Y,G,G,G,G,G,G,G,G,G,G] rfl rfl (any_of HT_.out (by kernel_rfl)) (fun _ _ _ h => h) (Or.inl ⟨by rfl, ?_⟩) ?_ ?_;rotate_left
     ·intro w';go_simp;with_reducible rfl
     rotate_left;·simp only [Act.put, sA_];rfl
     refine pure_ (i := 5) (N := some 23) (v := ?_) (a' := ?_) #[Y,Y,G,G,Y,Y,G,G,G,G,G,G,G,G,G] rfl rfl (any_of HT_.out (by kernel_rfl)) (fun _ _ _ h => h) (Or.inl ⟨by rfl, ?_⟩) ?_ ?_;rotate_left
     ·intro w';go_simp;with_reducible rfl
     rotate_left;·simp only [Act.put, sA_];rfl
     refine pure_ (i := 8) (N := some 26) (v := ?_) (a' := ?_) #[Y,Y,G,G,Y,Y,G,G,Y,G,G,G,G,G,G] rfl rfl (any_of HT_.out (by kernel_rfl)) (fun _ _ _ h => h) (Or.inl ⟨by rfl, ?_⟩) ?_ ?_;rotate_left
     ·intro w';go_simp;with_reducible rfl
     rotate_left;·simp only [Act.put, sA_];rfl
     refine pure_ (i := 9) (N := some 27) (v := ?_) (a' := ?_) #[Y,Y,G,G,Y,Y,G,G,Y,Y,G,G,G,G,G] rfl rfl (any_of HT_.out (by kernel_rfl)) (fun _ _ _ h => h) (Or.inl ⟨by rfl, ?_⟩) ?_ ?_;rotate_left
     ·intro w';go_simp;with_reducible rfl
     rotate_left;·simp only [Act.put, sA_];rfl
     refine take_ (i := 2) (N := some 20) (v := ?_) (a' := ?_) #[Y,Y,Y,G,Y,Y,G,G,Y,Y,G,G,G,G,G] rfl rfl (take_ofW HT_.out HW_.out (by kernel_rfl)) (fun _ _ _ h => h) (Or.inl ⟨by rfl, ?_⟩) hHeld ?_ ?_;rotate_left
     ·rintro w' ⟨s0, s1, s2⟩
      go_simp
      with_reducible rfl
     rotate_left;·simp only [Act.put, sA_];rfl
     refine pure_ (i := 3) (N := some 21) (v := ?_) (a' := ?_) #[Y,Y,Y,Y,Y,Y,G,G,Y,Y,G,G,G,G,G] rfl rfl (any_of HT_.out (by kernel_rfl)) (fun _ _ _ h => h) (Or.inl ⟨by rfl, ?_⟩) ?_ ?_;rotate_left
     ·intro w';go_simp;with_reducible rfl
     rotate_left;·simp only [Act.put, sA_];rfl
     refine take_ (i := 6) (N := some 24) (v := ?_) (a' := ?_) #[Y,Y,Y,Y,Y,Y,Y,G,Y,Y,G,G,G,G,G] rfl rfl (take_ofW HT_.out HW_.out (by kernel_rfl)) (fun _ _ _ h => h) (Or.inl ⟨by rfl, ?_⟩) hHeld ?_ ?_;rotate_left
     ·rintro w' ⟨s0, s1, s2⟩
      go_simp
      with_reducible rfl
     rotate_left;·simp only [Act.put, sA_];rfl
     refine pure_ (i := 7) (N := some 25) (v := ?_) (a' := ?_) #[Y,Y,Y,Y,Y,Y,Y,Y,Y,Y,G,G,G,G,G] rfl rfl (any_of HT_.out (by kernel_rfl)) (fun _ _ _ h => h) (Or.inl ⟨by rfl, ?_⟩) ?_ ?_;rotate_left
     ·intro w';go_simp;with_reducible rfl
     rotate_left;·simp only [Act.put, sA_];rfl
     refine take_ (i := 10) (N := some 28) (v := ?_) (a' := ?_) #[Y,Y,Y,Y,Y,Y,Y,Y,Y,Y,Y,G,G,G,G] rfl rfl (take_ofW HT_.out HW_.out (by kernel_rfl)) (fun _ _ _ h => h) (Or.inl ⟨by rfl, ?_⟩) hHeld ?_ ?_;rotate_left
     ·rintro w' ⟨s0, s1, s2⟩
      go_simp
      with_reducible rfl
     rotate_left;·simp only [Act.put, sA_];rfl
     refine pure_ (i := 11) (N := some 29) (v := ?_) (a' := ?_) #[Y,Y,Y,Y,Y,Y,Y,Y,Y,Y,Y,Y,G,G,G] rfl rfl (any_of HT_.out (by kernel_rfl)) (fun _ _ _ h => h) (Or.inl ⟨by rfl, ?_⟩) ?_ ?_;rotate_left
     ·intro w';go_simp;with_reducible rfl
     rotate_left;·simp only [Act.put, sA_];rfl
     refine pure_ (i := 12) (N := some 30) (v := ?_) (a' := ?_) #[Y,Y,Y,Y,Y,Y,Y,Y,Y,Y,Y,Y,Y,G,G] rfl rfl (any_of HT_.out (by kernel_rfl)) (fun _ _ _ h => h) (Or.inl ⟨by rfl, ?_⟩) ?_ ?_;rotate_left
     ·intro w';go_simp;with_reducible rfl
     rotate_left;·simp only [Act.put, sA_];rfl
     refine one_ (i := 13) (N := none) #[Y,Y,Y,Y,Y,Y,Y,Y,Y,Y,Y,Y,Y,Y,G] rfl rfl (one_of HT_.out (by kernel_rfl)) (by decide) (fun K hK => ?_)
     have hs14 : w12.cell? ⟨gb176, 0, none⟩ = some (.int .i64 0) := (blk_cell BK176.out 0).trans rfl
     have hfs14 := blk_frozen BK176.out 0
     have hs15 : w12.cell? ⟨gb176, 1, none⟩ = some (.int .i64 0) := (blk_cell BK176.out 1).trans rfl
     have hfs15 := blk_frozen BK176.out 1
     have hs16 : w12.cell? ⟨gb176, 2, none⟩ = some (.int .u32 0) := (blk_cell BK176.out 2).trans rfl
     have hfs16 := blk_frozen BK176.out 2
     refine skip_ (w1 := ?_) (by rfl) rfl ?_ ?_;rotate_left
     ·go_simp
      rfl
     refine hK.out _ _ ⟨((cell_far (p := ⟨gb176, _, none⟩) (by first | exact (by first | exact Kd.own_blk (Kd.R_ne HO184.out BK176.out (by decide)) | exact HO184.out.1 _ rfl | exact (HO184.out.1 _ rfl).2 | exact (HO184.out.1 _ rfl).1) | (rw [add_block]; exact (by first | exact Kd.own_blk (Kd.R_ne HO184.out BK176.out (by decide)) | exact HO184.out.1 _ rfl | exact (HO184.out.1 _ rfl).2 | exact (HO184.out.1 _ rfl).1)) | (show (Addr.add _ _).block ≠ _; rw [add_block]; exact (by first | exact Kd.own_blk (Kd.R_ne HO184.out BK176.out (by decide)) | exact HO184.out.1 _ rfl | exact (HO184.out.1 _ rfl).2 | exact (HO184.out.1 _ rfl).1)) | (dsimp only; exact (by first | exact Kd.own_blk (Kd.R_ne HO184.out BK176.out (by decide)) | exact HO184.out.1 _ rfl | exact (HO184.out.1 _ rfl).2 | exact (HO184.out.1 _ rfl).1))) _).trans (((cell_far (p := ⟨gb176, _, none⟩) (by first | exact (by first | exact Kd.own_blk (Kd.R_ne HO184.out BK176.out (by decide)) | exact HO184.out.1 _ rfl | exact (HO184.out.1 _ rfl).2 | exact (HO184.out.1 _ rfl).1) | (rw [add_block]; exact (by first | exact Kd.own_blk (Kd.R_ne HO184.out BK176.out (by decide)) | exact HO184.out.1 _ rfl | exact (HO184.out.1 _ rfl).2 | exact (HO184.out.1 _ rfl).1)) | (show (Addr.add _ _).block ≠ _; rw [add_block]; exact (by first | exact Kd.own_blk (Kd.R_ne HO184.out BK176.out (by decide)) | exact HO184.out.1 _ rfl | exact (HO184.out.1 _ rfl).2 | exact (HO184.out.1 _ rfl).1)) | (dsimp only; exact (by first | exact Kd.own_blk (Kd.R_ne HO184.out BK176.out (by decide)) | exact HO184.out.1 _ rfl | exact (HO184.out.1 _ rfl).2 | exact (HO184.out.1 _ rfl).1))) _).trans (((cell_far (p := ⟨gb176, _, none⟩) (by first | exact (by first | exact Kd.own_blk (Kd.R_ne HO184.out BK176.out (by decide)) | exact HO184.out.1 _ rfl | exact (HO184.out.1 _ rfl).2 | exact (HO184.out.1 _ rfl).1) | (rw [add_block]; exact (by first | exact Kd.own_blk (Kd.R_ne HO184.out BK176.out (by decide)) | exact HO184.out.1 _ rfl | exact (HO184.out.1 _ rfl).2 | exact (HO184.out.1 _ rfl).1)) | (show (Addr.add _ _).block ≠ _; rw [add_block]; exact (by first | exact Kd.own_blk (Kd.R_ne HO184.out BK176.out (by decide)) | exact HO184.out.1 _ rfl | exact (HO184.out.1 _ rfl).2 | exact (HO184.out.1 _ rfl).1)) | (dsimp only; exact (by first | exact Kd.own_blk (Kd.R_ne HO184.out BK176.out (by decide)) | exact HO184.out.1 _ rfl | exact (HO184.out.1 _ rfl).2 | exact (HO184.out.1 _ rfl).1))) _).trans (hHeld.1)))))), ((cell_far (p := ⟨gb176, _, none⟩) (by first | exact (by first | exact Kd.own_blk (Kd.R_ne HO184.out BK176.out (by decide)) | exact HO184.out.1 _ rfl | exact (HO184.out.1 _ rfl).2 | exact (HO184.out.1 _ rfl).1) | (rw [add_block]; exact (by first | exact Kd.own_blk (Kd.R_ne HO184.out BK176.out (by decide)) | exact HO184.out.1 _ rfl | exact (HO184.out.1 _ rfl).2 | exact (HO184.out.1 _ rfl).1)) | (show (Addr.add _ _).block ≠ _; rw [add_block]; exact (by first | exact Kd.own_blk (Kd.R_ne HO184.out BK176.out (by decide)) | exact HO184.out.1 _ rfl | exact (HO184.out.1 _ rfl).2 | exact (HO184.out.1 _ rfl).1)) | (dsimp only; exact (by first | exact Kd.own_blk (Kd.R_ne HO184.out BK176.out (by decide)) | exact HO184.out.1 _ rfl | exact (HO184.out.1 _ rfl).2 | exact (HO184.out.1 _ rfl).1))) _).trans (((cell_far (p := ⟨gb176, _, none⟩) (by first | exact (by first | exact Kd.own_blk (Kd.R_ne HO184.out BK176.out (by decide)) | exact HO184.out.1 _ rfl | exact (HO184.out.1 _ rfl).2 | exact (HO184.out.1 _ rfl).1) | (rw [add_block]; exact (by first | exact Kd.own_blk (Kd.R_ne HO184.out BK176.out (by decide)) | exact HO184.out.1 _ rfl | exact (HO184.out.1 _ rfl).2 | exact (HO184.out.1 _ rfl).1)) | (show (Addr.add _ _).block ≠ _; rw [add_block]; exact (by first | exact Kd.own_blk (Kd.R_ne HO184.out BK176.out (by decide)) | exact HO184.out.1 _ rfl | exact (HO184.out.1 _ rfl).2 | exact (HO184.out.1 _ rfl).1)) | (dsimp only; exact (by first | exact Kd.own_blk (Kd.R_ne HO184.out BK176.out (by decide)) | exact HO184.out.1 _ rfl | exact (HO184.out.1 _ rfl).2 | exact (HO184.out.1 _ rfl).1))) _).trans (((cell_far (p := ⟨gb176, _, none⟩) (by first | exact (by first | exact Kd.own_blk (Kd.R_ne HO184.out BK176.out (by decide)) | exact HO184.out.1 _ rfl | exact (HO184.out.1 _ rfl).2 | exact (HO184.out.1 _ rfl).1) | (rw [add_block]; exact (by first | exact Kd.own_blk (Kd.R_ne HO184.out BK176.out (by decide)) | exact HO184.out.1 _ rfl | exact (HO184.out.1 _ rfl).2 | exact (HO184.out.1 _ rfl).1)) | (show (Addr.add _ _).block ≠ _; rw [add_block]; exact (by first | exact Kd.own_blk (Kd.R_ne HO184.out BK176.out (by decide)) | exact HO184.out.1 _ rfl | exact (HO184.out.1 _ rfl).2 | exact (HO184.out.1 _ rfl).1)) | (dsimp only; exact (by first | exact Kd.own_blk (Kd.R_ne HO184.out BK176.out (by decide)) | exact HO184.out.1 _ rfl | exact (HO184.out.1 _ rfl).2 | exact (HO184.out.1 _ rfl).1))) _).trans (hHeld.2.1)))))), ((cell_far (p := ⟨gb176, _, none⟩) (by first | exact (by first | exact Kd.own_blk (Kd.R_ne HO184.out BK176.out (by decide)) | exact HO184.out.1 _ rfl | exact (HO184.out.1 _ rfl).2 | exact (HO184.out.1 _ rfl).1) | (rw [add_block]; exact (by first | exact Kd.own_blk (Kd.R_ne HO184.out BK176.out (by decide)) | exact HO184.out.1 _ rfl | exact (HO184.out.1 _ rfl).2 | exact (HO184.out.1 _ rfl).1)) | (show (Addr.add _ _).block ≠ _; rw [add_block]; exact (by first | exact Kd.own_blk (Kd.R_ne HO184.out BK176.out (by decide)) | exact HO184.out.1 _ rfl | exact (HO184.out.1 _ rfl).2 | exact (HO184.out.1 _ rfl).1)) | (dsimp only; exact (by first | exact Kd.own_blk (Kd.R_ne HO184.out BK176.out (by decide)) | exact HO184.out.1 _ rfl | exact (HO184.out.1 _ rfl).2 | exact (HO184.out.1 _ rfl).1))) _).trans (((cell_far (p := ⟨gb176, _, none⟩) (by first | exact (by first | exact Kd.own_blk (Kd.R_ne HO184.out BK176.out (by decide)) | exact HO184.out.1 _ rfl | exact (HO184.out.1 _ rfl).2 | exact (HO184.out.1 _ rfl).1) | (rw [add_block]; exact (by first | exact Kd.own_blk (Kd.R_ne HO184.out BK176.out (by decide)) | exact HO184.out.1 _ rfl | exact (HO184.out.1 _ rfl).2 | exact (HO184.out.1 _ rfl).1)) | (show (Addr.add _ _).block ≠ _; rw [add_block]; exact (by first | exact Kd.own_blk (Kd.R_ne HO184.out BK176.out (by decide)) | exact HO184.out.1 _ rfl | exact (HO184.out.1 _ rfl).2 | exact (HO184.out.1 _ rfl).1)) | (dsimp only; exact (by first | exact Kd.own_blk (Kd.R_ne HO184.out BK176.out (by decide)) | exact HO184.out.1 _ rfl | exact (HO184.out.1 _ rfl).2 | exact (HO184.out.1 _ rfl).1))) _).trans (((cell_far (p := ⟨gb176, _, none⟩) (by first | exact (by first | exact Kd.own_blk (Kd.R_ne HO184.out BK176.out (by decide)) | exact HO184.out.1 _ rfl | exact (HO184.out.1 _ rfl).2 | exact (HO184.out.1 _ rfl).1) | (rw [add_block]; exact (by first | exact Kd.own_blk (Kd.R_ne HO184.out BK176.out (by decide)) | exact HO184.out.1 _ rfl | exact (HO184.out.1 _ rfl).2 | exact (HO184.out.1 _ rfl).1)) | (show (Addr.add _ _).block ≠ _; rw [add_block]; exact (by first | exact Kd.own_blk (Kd.R_ne HO184.out BK176.out (by decide)) | exact HO184.out.1 _ rfl | exact (HO184.out.1 _ rfl).2 | exact (HO184.out.1 _ rfl).1)) | (dsimp only; exact (by first | exact Kd.own_blk (Kd.R_ne HO184.out BK176.out (by decide)) | exact HO184.out.1 _ rfl | exact (HO184.out.1 _ rfl).2 | exact (HO184.out.1 _ rfl).1))) _).trans (hHeld.2.2))))))⟩ (fun hHeld => ?_)
     clear hK K
     refine pure_ (i := 14) (N := some 3) (v := ?_) (a' := ?_) #[Y,Y,Y,Y,Y,Y,Y,Y,Y,Y,Y,Y,Y,Y,Y] rfl rfl (any_of HT_.out (by kernel_rfl)) (fun _ _ _ h => h) (Or.inl ⟨by rfl, ?_⟩) ?_ ?_;rotate_left
     ·intro w';go_simp;with_reducible rfl
     rotate_left;·simp only [Act.put, sA_];rfl
     refine done_ (done_of HT_.out (by kernel_rfl)) ?_
     try go_wp2
     refine bodyPost_ret (results_ct rfl _ _ gb176 26 #[.int .i64 (wrap64 (rd t180 0)), .int .i64 (wrap64 (rd t180 1)), .int .u32 ((rd t180 2) % 4294967296)] (0, 0) _ rfl (by (with_reducible repeat (first | refine blk_drewN ?_ _ | refine blk_drew ?_ | refine blk_alloc ?_ _)); refine blk_put (cs := #[.int .i64 (wrap64 (rd t180 0)), .int .i64 (wrap64 (rd t180 1)), .int .u32 0]) ?_ 2 _ rfl; (with_reducible repeat (first | refine blk_drewN ?_ _ | refine blk_drew ?_ | refine blk_alloc ?_ _)); refine blk_put (cs := #[.int .i64 (wrap64 (rd t180 0)), .int .i64 0, .int .u32 0]) ?_ 1 _ rfl; (with_reducible repeat (first | refine blk_drewN ?_ _ | refine blk_drew ?_ | refine blk_alloc ?_ _)); refine blk_put (cs := #[.int .i64 0, .int .i64 0, .int .u32 0]) ?_ 0 _ rfl; (with_reducible repeat (first | refine blk_drewN ?_ _ | refine blk_drew ?_ | refine blk_alloc ?_ _)); exact BK176.out) Tryd.underlying26 rfl (by kernel_rfl)) rfl ?_
     exact ⟨by first | rfl | (simp [errW_none, errW_some] <;> rfl) | (simp [*, errW_none, errW_some] <;> rfl), by repeat (first | (with_reducible first | exact HB.out | apply below_alloc | apply pw_below_drewN | apply below_drew1 | refine below_set ?_ GE176.out) | exact HB.out)⟩
    ·rw [if_neg c6] at H
     exact absurd H (by simp)
   ·rw [if_neg c5] at H
    exact absurd H (by simp)
  ·rw [if_neg c4] at H
   exact absurd H (by simp)
 ·rw [if_neg c3] at H
  have c3b0 : (t182 == 0) = false := beq_eq_false_iff_ne.mpr c3
  have c3b1 : (t182 != 0) = true := bne_iff_ne.mpr c3
  simp only [Option.some.injEq, Prod.mk.injEq] at H
  obtain ⟨rfl, rfl, rfl, rfl⟩ := H
  go_enter Tryd.func50, Tryd.ntmps50
  go_wp2_with (first | ((with_reducible refine HOpen.gate_append ?_); simp only [List.cons_append, List.nil_append]) | ((with_reducible refine gate_dst (N := 2) rfl ?_); refine box_event ?hg (N := 2) ?hd (cs := #[.int .i64 0, .int .i64 0, .int .u32 0]) (t := 26) ?hr ?_; (case hd => rfl); (case hg => rfl); (case hr => first | (go_simp; done) | (go_simp; rfl)); intro gb176 hg w17 hbox hb; have n0_ := Aside0.mk (below_step (by repeat (first | (with_reducible first | exact HB.out | apply below_alloc | apply pw_below_drewN | apply below_drew1) | exact HB.out)) hb); have n1_ := Aside0.mk (hbox); have n2_ := Aside0.mk ((by rw [hg]; exact (below_size (by repeat (first | (with_reducible first | exact HB.out | apply below_alloc | apply pw_below_drewN | apply below_drew1) | exact HB.out))) : w.heap.size ≤ gb176)); have n3_ := Aside0.mk ((by rw [hg]; exact (below_size (by repeat (first | (with_reducible first | exact HB.out | apply below_alloc | apply pw_below_drewN | apply below_drew1) | exact HB.out))) : w.heap.size ≤ gb176)); clear HB; have HB := n0_; have BK176 := n1_; have GW176 := n2_; have GE176 := n3_; clear n0_ n1_ n2_ n3_; clear hb hbox hg) | ((with_reducible refine gate_dst (N := 9) rfl ?_); refine Kd.R_lit (Kd.int .i64) _ 3 ?hg (N := 9) ?hd (xs := ([4, 4, 4] : List Int)) (inner := [.int .i64 4, .int .i64 4, .int .i64 4]) (ok := fun _ => True) (okp := fun _ => True) ?hr ?hp (fun _ hk => hk) trivial (Below.refl _ _) (Nat.le_refl _) (by simp) ?_; (case hd => rfl); (case hg => rfl); (case hr => first | (go_simp; done) | (go_simp; rfl)); (case hp => exact (Reps.one (show Kd.M (Kd.int .i64) _ _ _ 4 [.int .i64 4] from rfl) (Reps.one (show Kd.M (Kd.int .i64) _ _ _ 4 [.int .i64 4] from rfl) (Reps.one (show Kd.M (Kd.int .i64) _ _ _ 4 [.int .i64 4] from rfl) (Reps.none _ _))))); intro v178 w18 ho19 hb hg_ hnew_; clear hg_ hnew_; (first | rw [← Ny177.out] at ho19 | (simp only [Int.reduceToNat] at ho19; rw [← Ny177.out] at ho19)); have n0_ := Aside0.mk (Kd.R_lower ho19 (below_size (by repeat (first | (with_reducible first | exact HB.out | apply below_alloc | apply pw_below_drewN | apply below_drew1 | refine below_set ?_ GE176.out) | exact HB.out)))); have n1_ := Aside0.mk (blk_below (g := gb176) (o := .cells #[.int .i64 0, .int .i64 0, .int .u32 0] 26 (0, 0)) (by (with_reducible repeat (first | refine blk_drewN ?_ _ | refine blk_drew ?_ | refine blk_alloc ?_ _)); exact BK176.out) hb); have n2_ := Aside0.mk (below_step (by repeat (first | (with_reducible first | exact HB.out | apply below_alloc | apply pw_below_drewN | apply below_drew1 | refine below_set ?_ GE176.out) | exact HB.out)) hb); clear BK176; clear HB; have HO179 := n0_; have BK176 := n1_; have HB := n2_; clear n0_ n1_ n2_; clear hb ho19; obtain ⟨Ao20, co20, eo20⟩ := Kd.R_slice HO179.out; subst eo20) | ((with_reducible refine gate_callee (f := 49) rfl ?_); refine goesL_ (some 10) rfl rfl Tryd.func49 (by kernel_rfl) rfl #[.string a0, .slice Ao20 y177.length co20] rfl (by (try simp only [List.map_toArray, List.map_cons, List.map_nil]); first | done | rfl | (simp only [List.length_drop, List.length_take]; rfl)) ?_; (with_reducible refine (field_All.calls k a0 _ _ y177 t180 t181 t182 _ ?side1 ?side2 A2.out).mono ?_); (case side1 => repeat (first | exact (Kd.R_reads' HO179.out).2.2 | (with_reducible refine Kd.C_alloc ?_ _) | (with_reducible refine Kd.C_drewN ?_ _) | (with_reducible refine Kd.C_drew ?_))); (case side2 => exact (Kd.R_reads' HO179.out).2.1); rintro e w21 ⟨v183, rfl, ho0, hb⟩; refine ⟨_, rfl, ?_⟩; have n0_ := Aside0.mk (Kd.R_below (by (with_reducible repeat (first | apply Kd.R_alloc | apply Kd.R_drewN | apply Kd.R_drew)); exact HO179.out) hb); have n1_ := Aside0.mk (Kd.R_lower ho0 (below_size (by repeat (first | (with_reducible first | exact HB.out | apply below_alloc | apply pw_below_drewN | apply below_drew1 | refine below_set ?_ GE176.out) | exact HB.out)))); have n2_ := Aside0.mk (blk_below (g := gb176) (o := .cells #[.int .i64 0, .int .i64 0, .int .u32 0] 26 (0, 0)) (by (with_reducible repeat (first | refine blk_drewN ?_ _ | refine blk_drew ?_ | refine blk_alloc ?_ _)); exact BK176.out) hb); have n3_ := Aside0.mk (below_step (by repeat (first | (with_reducible first | exact HB.out | apply below_alloc | apply pw_below_drewN | apply below_drew1 | refine below_set ?_ GE176.out) | exact HB.out)) hb); clear HO179; clear BK176; clear HB; have HO179 := n0_; have HO184 := n1_; have BK176 := n2_; have HB := n3_; clear n0_ n1_ n2_ n3_; (try clear hb); (try clear hb2); (try clear hk); (try clear hi); (try clear ho0); have hcz22_0 : w21.cell? ⟨gb176, 0, none⟩ = some (.int .i64 0) := (blk_cell BK176.out 0).trans rfl; have hcz22_1 : w21.cell? ⟨gb176, 1, none⟩ = some (.int .i64 0) := (blk_cell BK176.out 1).trans rfl; have hcz22_2 : w21.cell? ⟨gb176, 2, none⟩ = some (.int .u32 0) := (blk_cell BK176.out 2).trans rfl; have hfz22_0 := blk_frozen BK176.out 0; have hfz22_1 := blk_frozen BK176.out 1; have hfz22_2 := blk_frozen BK176.out 2))
  refine bodyPost_ret (results_ct rfl _ _ gb176 26 #[.int .i64 0, .int .i64 0, .int .u32 0] (0, 0) _ rfl (by (with_reducible repeat (first | refine blk_drewN ?_ _ | refine blk_drew ?_ | refine blk_alloc ?_ _)); refine blk_put (cs := #[.int .i64 0, .int .i64 0, .int .u32 0]) ?_ 2 _ rfl; (with_reducible repeat (first | refine blk_drewN ?_ _ | refine blk_drew ?_ | refine blk_alloc ?_ _)); refine blk_put (cs := #[.int .i64 0, .int .i64 0, .int .u32 0]) ?_ 1 _ rfl; (with_reducible repeat (first | refine blk_drewN ?_ _ | refine blk_drew ?_ | refine blk_alloc ?_ _)); refine blk_put (cs := #[.int .i64 0, .int .i64 0, .int .u32 0]) ?_ 0 _ rfl; (with_reducible repeat (first | refine blk_drewN ?_ _ | refine blk_drew ?_ | refine blk_alloc ?_ _)); exact BK176.out) Tryd.underlying26 rfl (by kernel_rfl)) rfl ?_
  exact ⟨by first | rfl | (simp [errW_none, errW_some] <;> rfl) | (simp [*, errW_none, errW_some] <;> rfl), by repeat (first | (with_reducible first | exact HB.out | apply below_alloc | apply pw_below_drewN | apply below_drew1 | refine below_set ?_ GE176.out) | exact HB.out)⟩
def caulkref07_Get.l0 : Nat → ByteArray → Int → Int → Option (Int × Int)
 | 0, _, _, _ => none
 | k + 1, x1, x6, x7 => if x7 ≥ 0 then (if 0 ≤ x7 then (if x7 < (x1.size : Int) then (caulkref07_Get.l0 k x1 (IntKind.u64.wrap ((IntKind.u64.wrap (256 * x6)) + (IntKind.u64.wrap (bt x1 x7)))) (wrap64 (x7 - 1))) else (none)) else (none)) else (some (x6, 0))
def caulkref07_Get.f (k : Nat) (a0 : Int) (a1 : ByteArray) : Option (Int × Int) := (caulkref07_width.f a0).bind fun t188 => (if t188 = true then (if (a1.size : Int) < a0 then (some (0, 5)) else (caulkref07_Get.l0 k a1 0 (wrap64 (a0 - 1)))) else (some (0, 1)))
set_option maxHeartbeats 8000000 in
set_option maxRecDepth 100000 in
theorem caulkref07_Get.calls (k : Nat) (a0 : Int) (a1 : ByteArray) (r1 : Int) (r2 : Int) (w : World) (h : caulkref07_Get.f k a0 a1 = some (r1, r2)) :
  Calls Tryd.prog 104 #[.int .i64 a0, .string a1] w fun e w' => e = .returned (.tuple #[.int .u64 r1, .int .i64 r2]) ∧ Drawn0 w w' := by
 have H : ((caulkref07_width.f a0).bind fun t188 => (if t188 = true then (if (a1.size : Int) < a0 then (some (0, 5)) else (caulkref07_Get.l0 k a1 0 (wrap64 (a0 - 1)))) else (some (0, 1)))) = some (r1, r2) := h
 clear h
 replace H := Option.bind_eq_some_iff.mp H
 obtain ⟨t188, A30, H⟩ := H
 replace H : (if t188 = true then (if (a1.size : Int) < a0 then (some (0, 5)) else (caulkref07_Get.l0 k a1 0 (wrap64 (a0 - 1)))) else (some (0, 1))) = some (r1, r2) := H
 have A3 := Aside0.mk A30
 clear A30
 by_cases c4 : t188 = true
 ·subst c4
  have H1 : (if (a1.size : Int) < a0 then (some (0, 5)) else (caulkref07_Get.l0 k a1 0 (wrap64 (a0 - 1)))) = some (r1, r2) := by rw [if_pos rfl] at H; exact H
  clear H
  have H := H1
  clear H1
  by_cases c5 : (a1.size : Int) < a0
  ·rw [if_pos c5] at H
   have c5b0 : decide ((a1.size : Int) < a0) = true := decide_eq_true c5
   clear c5
   simp only [Option.some.injEq, Prod.mk.injEq] at H
   obtain ⟨rfl, rfl⟩ := H
   go_enter Tryd.func104, Tryd.ntmps104
   go_wp2_with (first | ((with_reducible refine HOpen.gate_append ?_); simp only [List.cons_append, List.nil_append]) | ((with_reducible refine gate_callee (f := 136) rfl ?_); refine goesL_ (some 9) rfl rfl Tryd.func136 (by kernel_rfl) rfl #[.int .i64 a0] rfl (by (try simp only [List.map_toArray, List.map_cons, List.map_nil]); first | done | rfl | (simp only [List.length_drop, List.length_take]; rfl)) ?_; (with_reducible refine (caulkref07_width.calls a0 true _ A3.out).mono ?_); rintro e w' ⟨rfl, ⟨nd, rfl⟩⟩; refine ⟨_, rfl, ?_⟩))
   go_ret2
   exact ⟨by first | rfl | (simp; done) | (simp [*]; done), by repeat (first | exact Drawn0.refl _ | apply Drawn0.step)⟩
  ·rw [if_neg c5] at H
   have c5b0 : decide ((a1.size : Int) < a0) = false := decide_eq_false c5
   clear c5
   have H' := Aside0.mk H
   clear H
   go_enter Tryd.func104, Tryd.ntmps104
   go_wp2_with (first | ((with_reducible refine HOpen.gate_append ?_); simp only [List.cons_append, List.nil_append]) | ((with_reducible refine gate_callee (f := 136) rfl ?_); refine goesL_ (some 9) rfl rfl Tryd.func136 (by kernel_rfl) rfl #[.int .i64 a0] rfl (by (try simp only [List.map_toArray, List.map_cons, List.map_nil]); first | done | rfl | (simp only [List.length_drop, List.length_take]; rfl)) ?_; (with_reducible refine (caulkref07_width.calls a0 true _ A3.out).mono ?_); rintro e w' ⟨rfl, ⟨nd, rfl⟩⟩; refine ⟨_, rfl, ?_⟩))
   (try simp only [Act.put, List.setIfInBounds_toArray, List.set_cons_zero, List.set_cons_succ])
   go_loopg [6, 7] k (fun kq v6 v7 w' => ∃ (x6_1 : Int) (x7_1 : Int), v6 = .int .u64 x6_1 ∧ v7 = .int .i64 x7_1 ∧ Aside0 (caulkref07_Get.l0 kq a1 x6_1 x7_1 = some (r1, r2)) ∧ Aside0 (kq ≤ k) ∧ Drawn0 w w')
   case atStart => exact ⟨(0), (wrap64 (a0 - 1)), (by first | rfl | (simp; done) | (simp [*]; done)), (by first | rfl | (simp; done) | (simp [*]; done)), H', ⟨Nat.le_refl _⟩, by repeat (first | exact Drawn0.refl _ | apply Drawn0.step)⟩
   case round =>
    clear H'
    (try clear c1);(try clear p2);(try clear c4);(try clear c5);(try clear c5b0)
    obtain ⟨x6_1, x7_1, rfl, rfl, HA, HK1, ⟨m1, rfl⟩⟩ := hrel
    cases gk with
    | zero => exact absurd HA.out (by simp [caulkref07_Get.l0])
    | succ k1 =>
     have H := HA.out
     clear HA
     simp only [caulkref07_Get.l0] at H
     by_cases c6 : x7_1 ≥ 0
     ·rw [if_pos c6] at H
      have c6b0 : decide (0 ≤ x7_1) = true := decide_eq_true c6
      clear c6
      by_cases c7 : 0 ≤ x7_1
      ·rw [if_pos c7] at H
       have c7b0 : decide (0 ≤ x7_1) = true := decide_eq_true c7
       clear c7
       by_cases c8 : x7_1 < (a1.size : Int)
       ·rw [if_pos c8] at H
        have c8b0 : decide (x7_1 < (a1.size : Int)) = true := decide_eq_true c8
        clear c8
        have H' := Aside0.mk H
        clear H
        have p9 : 0 ≤ (x7_1 : Int) := of_decide_eq_true (by first | (with_reducible assumption) | assumption)
        have q9 : x7_1 < (a1.size : Int) := of_decide_eq_true (by first | (with_reducible assumption) | assumption)
        have hx9 := bt_at a1 x7_1
        replace p9 := eq_true p9
        replace q9 := eq_true q9
        go_wp2
        go_roundg k1
        case measure => have := HK1.out; omega
        case rel => exact ⟨(IntKind.u64.wrap ((IntKind.u64.wrap (256 * x6_1)) + (IntKind.u64.wrap (bt a1 x7_1)))), (wrap64 (x7_1 - 1)), (by first | rfl | (simp; done) | (simp [*]; done)), (by first | rfl | (simp; done) | (simp [*]; done)), H', ⟨by have := HK1.out; omega⟩, by repeat (first | exact Drawn0.refl _ | apply Drawn0.step)⟩
       ·rw [if_neg c8] at H
        exact absurd H (by simp)
      ·rw [if_neg c7] at H
       exact absurd H (by simp)
     ·rw [if_neg c6] at H
      have c6b0 : decide (0 ≤ x7_1) = false := decide_eq_false c6
      clear c6
      simp only [Option.some.injEq, Prod.mk.injEq] at H
      obtain ⟨rfl, rfl⟩ := H
      go_wp2
      go_ret2
      exact ⟨by first | rfl | (simp; done) | (simp [*]; done), by repeat (first | exact Drawn0.refl _ | apply Drawn0.step)⟩
 ·replace c4 := Bool.eq_false_iff.mpr c4
  subst c4
  have H1 : (some (0, 1)) = some (r1, r2) := by rw [if_neg (show ¬ (false = true) by decide)] at H; exact H
  clear H
  have H := H1
  clear H1
  simp only [Option.some.injEq, Prod.mk.injEq] at H
  obtain ⟨rfl, rfl⟩ := H
  go_enter Tryd.func104, Tryd.ntmps104
  go_wp2_with (first | ((with_reducible refine HOpen.gate_append ?_); simp only [List.cons_append, List.nil_append]) | ((with_reducible refine gate_callee (f := 136) rfl ?_); refine goesL_ (some 9) rfl rfl Tryd.func136 (by kernel_rfl) rfl #[.int .i64 a0] rfl (by (try simp only [List.map_toArray, List.map_cons, List.map_nil]); first | done | rfl | (simp only [List.length_drop, List.length_take]; rfl)) ?_; (with_reducible refine (caulkref07_width.calls a0 false _ A3.out).mono ?_); rintro e w' ⟨rfl, ⟨nd, rfl⟩⟩; refine ⟨_, rfl, ?_⟩))
  go_ret2
  exact ⟨by first | rfl | (simp; done) | (simp [*]; done), by repeat (first | exact Drawn0.refl _ | apply Drawn0.step)⟩
def caulkref07_All.l0 : Nat → ByteArray → List Int → List Int → Int → Int → Option (List Int × ByteArray × Int)
 | 0, _, _, _, _, _ => none
 | k + 1, x0, x7, x12, x13, x14 => if x14 < x13 then (if 0 ≤ x14 then (if x14 < (x12.length : Int) then ((caulkref07_Get.f k (rd x12 x14) x0).bind fun bt190 => (if bt190.2 = 0 then (if x7.length < 17592186044416 then (if 0 ≤ (rd x12 x14) then (if (rd x12 x14) ≤ (x0.size : Int) then (caulkref07_All.l0 k (x0.extract ((rd x12 x14) : Int).toNat x0.size) (x7 ++ [bt190.1]) x12 x13 (wrap64 (x14 + 1))) else (none)) else (none)) else (none)) else (some (([] : List Int), (⟨#[]⟩ : ByteArray), bt190.2)))) else (none)) else (none)) else (some (x7, x0, 0))
def caulkref07_All.f (k : Nat) (a0 : ByteArray) (l1 : List Int) : Option (List Int × ByteArray × Int) := caulkref07_All.l0 k a0 ([] : List Int) l1 (l1.length : Int) 0
set_option maxHeartbeats 8000000 in
set_option maxRecDepth 100000 in
theorem caulkref07_All.calls (k : Nat) (a0 : ByteArray) (A1 : Option Addr) (c1 : Nat) (l1 : List Int) (r1 : List Int) (r2 : ByteArray) (r3 : Int) (w : World) (hr1 : Kd.C (Kd.int .i64) w A1 l1.length l1) (hc1 : l1.length ≤ c1) (h : caulkref07_All.f k a0 l1 = some (r1, r2, r3)) :
  Calls Tryd.prog 51 #[.string a0, .slice A1 l1.length c1] w fun e w' => ∃ v0_ : Value, e = .returned (.tuple #[v0_, .string r2, .int .i64 r3]) ∧ Kd.R (Kd.int .u64) 90 w' w.heap.size (fun _ => True) v0_ r1 ∧ Below w.heap.size w w' := by
 have HR1 := Aside0.mk hr1
 have HC1 := Aside0.mk hc1
 clear hr1 hc1
 have HB := Aside0.mk (Below.refl w.heap.size w)
 have H : (caulkref07_All.l0 k a0 ([] : List Int) l1 (l1.length : Int) 0) = some (r1, r2, r3) := h
 clear h
 have H' := Aside0.mk H
 clear H
 go_enter Tryd.func51, Tryd.ntmps51
 go_wp2
 go_loopg [0, 7, 14] k (fun kq v0 v7 v14 w' => ∃ (x0_1 : ByteArray) (x7_1 : List Int) (x14_1 : Int), v0 = .string x0_1 ∧ v14 = .int .i64 x14_1 ∧ Aside0 (caulkref07_All.l0 kq x0_1 x7_1 l1 (l1.length : Int) x14_1 = some (r1, r2, r3)) ∧ Aside0 (kq ≤ k) ∧ Aside0 (Kd.R (Kd.int .u64) 90 w' w.heap.size (fun _ => True) v7 x7_1) ∧ Aside0 (Below w.heap.size w w'))
 case atStart => exact ⟨(a0), (([] : List Int)), (0), (by first | rfl | (simp; done) | (simp [*]; done)), (by first | rfl | (simp; done) | (simp [*]; done)), H', ⟨Nat.le_refl _⟩, ⟨by first | exact Kd.R_nil _ _ _ _ _ | exact Kd.N_nil _ _ _ _ _ | exact Kd.V_nil _ _ _ _ _ | exact Kd.Q_nil _ _ _ _ _ | exact Kd.S_nil _ _ _ _ _⟩, ⟨by repeat (first | (with_reducible first | exact HB.out | apply below_alloc | apply pw_below_drewN | apply below_drew1) | exact HB.out)⟩⟩
 case round =>
  clear H'
  (try clear c1);(try clear p2)
  obtain ⟨x0_1, x7_1, x14_1, rfl, rfl, HA, HK1, HO_7, HB⟩ := hrel
  cases gk with
  | zero => exact absurd HA.out (by simp [caulkref07_All.l0])
  | succ k1 =>
   have H := HA.out
   clear HA
   simp only [caulkref07_All.l0] at H
   by_cases c3 : x14_1 < (l1.length : Int)
   ·rw [if_pos c3] at H
    have c3b0 : decide (x14_1 < (l1.length : Int)) = true := decide_eq_true c3
    clear c3
    by_cases c4 : 0 ≤ x14_1
    ·rw [if_pos c4] at H
     have c4b0 : decide (0 ≤ x14_1) = true := decide_eq_true c4
     clear c4
     by_cases c5 : x14_1 < (l1.length : Int)
     ·rw [if_pos c5] at H
      have c5b0 : decide (x14_1 < (l1.length : Int)) = true := decide_eq_true c5
      clear c5
      replace H := Option.bind_eq_some_iff.mp H
      obtain ⟨⟨t190, t191⟩, A60, H⟩ := H
      replace H : (if t191 = 0 then (if x7_1.length < 17592186044416 then (if 0 ≤ (rd l1 x14_1) then (if (rd l1 x14_1) ≤ (x0_1.size : Int) then (caulkref07_All.l0 k1 (x0_1.extract ((rd l1 x14_1) : Int).toNat x0_1.size) (x7_1 ++ [t190]) l1 (l1.length : Int) (wrap64 (x14_1 + 1))) else (none)) else (none)) else (none)) else (some (([] : List Int), (⟨#[]⟩ : ByteArray), t191))) = some (r1, r2, r3) := H
      have A6 := Aside0.mk A60
      clear A60
      by_cases c7 : t191 = 0
      ·rw [if_pos c7] at H
       have c7b0 : (t191 == 0) = true := beq_iff_eq.mpr c7
       have c7b1 : (t191 != 0) = false := bne_eq_false_iff_eq.mpr c7
       clear c7
       by_cases c8 : x7_1.length < 17592186044416
       ·rw [if_pos c8] at H
        have LMc8 := Aside0.mk c8
        clear c8
        obtain ⟨y192, hy192⟩ : ∃ y_ : List Int, y_ = (x7_1 ++ [t190]) := ⟨_, rfl⟩
        replace H : (if 0 ≤ (rd l1 x14_1) then (if (rd l1 x14_1) ≤ (x0_1.size : Int) then (caulkref07_All.l0 k1 (x0_1.extract ((rd l1 x14_1) : Int).toNat x0_1.size) y192 l1 (l1.length : Int) (wrap64 (x14_1 + 1))) else (none)) else (none)) = some (r1, r2, r3) := by first | (rw [hy192]; with_reducible exact H) | (have H2_ := (Option.bind_some _ _).symm.trans H; rw [hy192]; with_reducible exact H2_) | (have H2_ := (Option.bind_some _ _).symm.trans H; with_reducible exact H2_) | with_reducible exact H | (rw [hy192]; exact H) | exact H
        have Ny192 := Aside0.mk hy192
        clear hy192
        by_cases c9 : 0 ≤ (rd l1 x14_1)
        ·rw [if_pos c9] at H
         have c9b0 := eq_true c9
         have c9b1 : decide (0 ≤ (rd l1 x14_1)) = true := decide_eq_true c9
         clear c9
         by_cases c10 : (rd l1 x14_1) ≤ (x0_1.size : Int)
         ·rw [if_pos c10] at H
          have c10b0 := eq_true c10
          have c10b1 : decide ((rd l1 x14_1) ≤ (x0_1.size : Int)) = true := decide_eq_true c10
          clear c10
          have H' := Aside0.mk H
          clear H
          have p189 : 0 ≤ (x14_1 : Int) := of_decide_eq_true (by first | (with_reducible assumption) | assumption)
          have q189 : x14_1 < (l1.length : Int) := of_decide_eq_true (by first | (with_reducible assumption) | assumption)
          obtain ⟨ad189, e189, hx189_0⟩ := Kd.at_int HR1.out x14_1 p189 q189
          cases e189
          replace hx189_0 := (HB.out.cell (World.block_lt_of_cell? w _ hx189_0)).trans hx189_0
          replace p189 := eq_true p189
          replace q189 := eq_true q189
          go_wp2_with (first | ((with_reducible refine HOpen.gate_append ?_); simp only [List.cons_append, List.nil_append]) | ((with_reducible refine gate_callee (f := 104) rfl ?_); refine goesL_ (some 21) rfl rfl Tryd.func104 (by kernel_rfl) rfl #[.int .i64 (rd l1 x14_1), .string x0_1] rfl (by (try simp only [List.map_toArray, List.map_cons, List.map_nil]); first | done | rfl | (simp only [List.length_drop, List.length_take]; rfl)) ?_; (with_reducible refine (caulkref07_Get.calls k1 (rd l1 x14_1) x0_1 t190 t191 _ A6.out).mono ?_); rintro e w' ⟨rfl, ⟨nd, rfl⟩⟩; refine ⟨_, rfl, ?_⟩) | ((with_reducible refine gate_builtin (b := .append) (xs := #[.tmp 27, .tmp 29]) rfl ?_); at_builtin; refine Kd.R_append (Kd.int .u64) (w0 := w) w.heap.size rfl (.tmp 27) (.tmp 29) 91 90 (.int .u64 0) 8 rfl Tryd.underlying91 info90 rfl (by decide) (by omega) u7 x7_1 t190 [.int .u64 t190] (fun _ => True) (fun _ => False) rfl rfl ?aP (fun _ hk => hk.elim) ?aF ?aO ?aB ?aS ?aL ?_; (case aP => exact rfl); (case aB => exact (by repeat (first | (with_reducible first | exact HB.out | apply below_alloc | apply pw_below_drewN | apply below_drew1) | exact HB.out))); (case aF => exact (fun _ _ => trivial)); (case aO => exact (by (with_reducible repeat (first | apply Kd.R_alloc | apply Kd.R_drewN | apply Kd.R_drew)); exact HO_7.out)); (case aS => exact (below_size (by repeat (first | (with_reducible first | exact HB.out | apply below_alloc | apply pw_below_drewN | apply below_drew1) | exact HB.out)))); (case aL => have := LMc8.out; omega); intro v193 w11 ho hb hg hat; rw [← Ny192.out] at ho; have n0_ := Aside0.mk (hb); have n1_ := Aside0.mk (ho); clear HB; clear HO_7; have HB := n0_; have HO194 := n1_; clear n0_ n1_; clear ho hb hg hat))
          go_roundg k1
          case measure => have := HK1.out; omega
          case rel => exact ⟨(x0_1.extract ((rd l1 x14_1) : Int).toNat x0_1.size), (y192), (wrap64 (x14_1 + 1)), (by first | rfl | (simp; done) | (simp [*]; done)), (by first | rfl | (simp; done) | (simp [*]; done)), H', ⟨by have := HK1.out; omega⟩, ⟨by (with_reducible repeat (first | apply Kd.R_alloc | apply Kd.R_drewN | apply Kd.R_drew)); exact HO194.out⟩, ⟨by repeat (first | (with_reducible first | exact HB.out | apply below_alloc | apply pw_below_drewN | apply below_drew1) | exact HB.out)⟩⟩
         ·rw [if_neg c10] at H
          exact absurd H (by simp)
        ·rw [if_neg c9] at H
         exact absurd H (by simp)
       ·rw [if_neg c8] at H
        exact absurd H (by simp)
      ·rw [if_neg c7] at H
       have c7b0 : (t191 == 0) = false := beq_eq_false_iff_ne.mpr c7
       have c7b1 : (t191 != 0) = true := bne_iff_ne.mpr c7
       simp only [Option.some.injEq, Prod.mk.injEq] at H
       obtain ⟨rfl, rfl, rfl⟩ := H
       have p189 : 0 ≤ (x14_1 : Int) := of_decide_eq_true (by first | (with_reducible assumption) | assumption)
       have q189 : x14_1 < (l1.length : Int) := of_decide_eq_true (by first | (with_reducible assumption) | assumption)
       obtain ⟨ad189, e189, hx189_0⟩ := Kd.at_int HR1.out x14_1 p189 q189
       cases e189
       replace hx189_0 := (HB.out.cell (World.block_lt_of_cell? w _ hx189_0)).trans hx189_0
       replace p189 := eq_true p189
       replace q189 := eq_true q189
       go_wp2_with (first | ((with_reducible refine HOpen.gate_append ?_); simp only [List.cons_append, List.nil_append]) | ((with_reducible refine gate_callee (f := 104) rfl ?_); refine goesL_ (some 21) rfl rfl Tryd.func104 (by kernel_rfl) rfl #[.int .i64 (rd l1 x14_1), .string x0_1] rfl (by (try simp only [List.map_toArray, List.map_cons, List.map_nil]); first | done | rfl | (simp only [List.length_drop, List.length_take]; rfl)) ?_; (with_reducible refine (caulkref07_Get.calls k1 (rd l1 x14_1) x0_1 t190 t191 _ A6.out).mono ?_); rintro e w' ⟨rfl, ⟨nd, rfl⟩⟩; refine ⟨_, rfl, ?_⟩))
       go_ret3
       exact ⟨_, by first | rfl | (simp [errW_none, errW_some] <;> rfl) | (simp [*, errW_none, errW_some] <;> rfl), by first | exact Kd.R_nil _ _ _ _ _ | exact Kd.N_nil _ _ _ _ _ | exact Kd.V_nil _ _ _ _ _ | exact Kd.Q_nil _ _ _ _ _ | exact Kd.S_nil _ _ _ _ _, by repeat (first | (with_reducible first | exact HB.out | apply below_alloc | apply pw_below_drewN | apply below_drew1) | exact HB.out)⟩
     ·rw [if_neg c5] at H
      exact absurd H (by simp)
    ·rw [if_neg c4] at H
     exact absurd H (by simp)
   ·rw [if_neg c3] at H
    have c3b0 : decide (x14_1 < (l1.length : Int)) = false := decide_eq_false c3
    clear c3
    simp only [Option.some.injEq, Prod.mk.injEq] at H
    obtain ⟨rfl, rfl, rfl⟩ := H
    go_wp2
    go_ret3
    exact ⟨_, by first | rfl | (simp [errW_none, errW_some] <;> rfl) | (simp [*, errW_none, errW_some] <;> rfl), by (with_reducible repeat (first | apply Kd.R_alloc | apply Kd.R_drewN | apply Kd.R_drew)); exact HO_7.out, by repeat (first | (with_reducible first | exact HB.out | apply below_alloc | apply pw_below_drewN | apply below_drew1) | exact HB.out)⟩
end Go.Proofs.YtmmfplogkikbjaaDoor.HSF
