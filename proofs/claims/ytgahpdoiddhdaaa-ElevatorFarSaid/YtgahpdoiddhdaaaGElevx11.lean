/- WRITTEN BY wip/hyb.py, a program of this workplace (out of the kit's printer and this workplace's own contracts). -/
import Derived.Test.YtgahpdoiddhdaaaGElevx0
import Derived.Test.YtgahpdoiddhdaaaGElevx10
namespace Go.Proofs.Ytgahpdoiddhdaaa.HElev
open Go.RowKit Go.Proofs.YtgahpdoiddhdaaaW.PrintWords Go.Proofs.YtgahpdoiddhdaaaW.PrintLast Go.Proofs.YtgahpdoiddhdaaaW.PrintMore
attribute [local go_sem] max2_int min2_int max_two min_two max_three min_three max_four min_four   -- for this text's walks alone
set_option linter.unusedVariables false
set_option linter.unusedSimpArgs false

def caulkref40_Runs.l0 : Nat → List (S39) → List (S37) → Int → Int → Option ((List (S39)) × Int)
 | 0, _, _, _, _ => none
 | k + 1, x5, x14, x15, x16 => if x16 < x15 then (if 0 ≤ x16 then (if x16 < (x14.length : Int) then (if (x5.length : Int) > 0 then (if 0 ≤ (wrap64 ((x5.length : Int) - 1)) then (if (wrap64 ((x5.length : Int) - 1)) < (x5.length : Int) then (if ((rd_T39 x5 (wrap64 ((x5.length : Int) - 1))).f1) = ((rd_T37 x14 x16).f0) then (caulkref40_Runs.l0 k (x5.set ((wrap64 ((x5.length : Int) - 1)) : Int).toNat (⟨(rd_T39 x5 (wrap64 ((x5.length : Int) - 1))).f0, wrap64 (((rd_T39 x5 (wrap64 ((x5.length : Int) - 1))).f1) + ((rd_T37 x14 x16).f1))⟩ : S39)) x14 x15 (wrap64 (x16 + 1))) else (if x5.length < 8796093022208 then (caulkref40_Runs.l0 k (x5 ++ [(⟨(rd_T37 x14 x16).f0, wrap64 (((rd_T37 x14 x16).f0) + ((rd_T37 x14 x16).f1))⟩ : S39)]) x14 x15 (wrap64 (x16 + 1))) else (none))) else (none)) else (none)) else (if x5.length < 8796093022208 then (caulkref40_Runs.l0 k (x5 ++ [(⟨(rd_T37 x14 x16).f0, wrap64 (((rd_T37 x14 x16).f0) + ((rd_T37 x14 x16).f1))⟩ : S39)]) x14 x15 (wrap64 (x16 + 1))) else (none))) else (none)) else (none)) else (some (x5, 0))
def caulkref40_Runs.f (k : Nat) (l0 : List (S37)) : Option ((List (S39)) × Int) := (caulkref40_Check.f k l0).bind fun t7269 => (if t7269 = 0 then (caulkref40_Runs.l0 k ([] : List (S39)) l0 (l0.length : Int) 0) else (some (([] : List (S39)), t7269)))
theorem caulkref40_Runs.mono_l : ∀ k, (∀ y0 y1 y2 y3, LeO (caulkref40_Runs.l0 k y0 y1 y2 y3) (caulkref40_Runs.l0 (k + 1) y0 y1 y2 y3))
 | 0 => fun _ _ _ _ r h => by simp [caulkref40_Runs.l0] at h
 | k + 1 => by
  have ih0 := caulkref40_Runs.mono_l k
  ·intro y0 y1 y2 y3
   unfold caulkref40_Runs.l0
   repeat' first
   | (with_reducible exact ih0 _ _ _ _)
   | (with_reducible exact caulkref40_Check.mono _ _)
   | (with_reducible exact LeO.refl _)
   | (with_reducible exact LeO.none _)
   | (with_reducible refine LeO.ite ?_ ?_)
   | (with_reducible refine LeO.bind ?_ (fun _ => ?_))
   | exact ih0 _ _ _ _
   | exact caulkref40_Check.mono _ _
   | exact LeO.none _
   | refine LeO.ite ?_ ?_
   | refine LeO.bind ?_ (fun _ => ?_)
theorem caulkref40_Runs.mono : ∀ a0 k, LeO (caulkref40_Runs.f k a0) (caulkref40_Runs.f (k + 1) a0) := by
 intro a0 k
 have ih0 := caulkref40_Runs.mono_l k
 unfold caulkref40_Runs.f
 repeat' first
   | (with_reducible exact ih0 _ _ _ _)
   | (with_reducible exact caulkref40_Check.mono _ _)
   | (with_reducible exact LeO.refl _)
   | (with_reducible exact LeO.none _)
   | (with_reducible refine LeO.ite ?_ ?_)
   | (with_reducible refine LeO.bind ?_ (fun _ => ?_))
   | exact ih0 _ _ _ _
   | exact caulkref40_Check.mono _ _
   | exact LeO.none _
   | refine LeO.ite ?_ ?_
   | refine LeO.bind ?_ (fun _ => ?_)
def caulkref40_Runs.T9 : Bool × List (List Nat × List Nat) := (true, [([], []), ([0], [0]), ([1], [1]), ([2], [2]), ([2], [2]), ([4, 2], [2, 4]), ([3, 5, 2], [2, 3, 5]), ([6, 2], [2, 6]), ([7, 2], [2, 7]), ([2], [2]), ([9, 2], [2, 9]), ([8, 10, 2], [2, 8, 10]), ([2, 11], [2, 11])])
def caulkref40_Runs.B9 : List Nat := [0, 1, 3, 7, 7, 23, 63, 127, 255, 7, 519, 2047, 4095]
theorem caulkref40_Runs.tab9 : rtab .any (opsOf Try.f17 9) = caulkref40_Runs.T9 := by kernel_rfl
theorem caulkref40_Runs.bits9 : waitsOk caulkref40_Runs.T9.2 caulkref40_Runs.B9 = true := by kernel_rfl
def caulkref40_Runs.T10 : Bool × List (List Nat × List Nat) := (true, [([], []), ([], []), ([1], [1]), ([0, 2], [0, 2]), ([3], [3]), ([4], [4]), ([], []), ([6], [6]), ([5, 7], [5, 7]), ([0, 2, 0, 1, 2, 3, 4, 5, 6, 7, 8], [0, 2]), ([9, 0, 1, 2, 3, 4, 5, 6, 7, 8], [9]), ([10, 8, 0, 1, 2, 3, 4, 5, 6, 7, 8], [8, 10])])
def caulkref40_Runs.B10 : List Nat := [0, 0, 2, 7, 15, 31, 0, 64, 255, 511, 1023, 2047]
theorem caulkref40_Runs.tab10 : rtab .any (opsOf Try.f17 10) = caulkref40_Runs.T10 := by kernel_rfl
theorem caulkref40_Runs.bits10 : waitsOk caulkref40_Runs.T10.2 caulkref40_Runs.B10 = true := by kernel_rfl
set_option maxHeartbeats 8000000 in
set_option maxRecDepth 100000 in
theorem caulkref40_Runs.calls (k : Nat) (A0 : Option Addr) (c0 : Nat) (l0 : List (S37)) (r1 : List (S39)) (r2 : Int) (w : World) (hr0 : Kd.C k37 w A0 l0.length l0) (hc0 : l0.length ≤ c0) (h : caulkref40_Runs.f k l0 = some (r1, r2)) :
  Calls Try.prog 17 #[.slice A0 l0.length c0] w fun e w' => ∃ v0_ : Value, e = .returned (.tuple #[v0_, .int .i64 r2]) ∧ Kd.R k39 39 w' w.heap.size (fun _ => True) v0_ r1 ∧ Below w.heap.size w w' := by
 have hu37 := Try.underlying37
 have hu39 := Try.underlying39
 have HR0 := Aside0.mk hr0
 have HC0 := Aside0.mk hc0
 clear hr0 hc0
 have HB := Aside0.mk (Below.refl w.heap.size w)
 have H : ((caulkref40_Check.f k l0).bind fun t7269 => (if t7269 = 0 then (caulkref40_Runs.l0 k ([] : List (S39)) l0 (l0.length : Int) 0) else (some (([] : List (S39)), t7269)))) = some (r1, r2) := h
 clear h
 replace H := Option.bind_eq_some_iff.mp H
 obtain ⟨t7269, A20, H⟩ := H
 replace H : (if t7269 = 0 then (caulkref40_Runs.l0 k ([] : List (S39)) l0 (l0.length : Int) 0) else (some (([] : List (S39)), t7269))) = some (r1, r2) := H
 have A2 := Aside0.mk A20
 clear A20
 by_cases c3 : t7269 = 0
 ·rw [if_pos c3] at H
  have c3b0 : (t7269 == 0) = true := beq_iff_eq.mpr c3
  have c3b1 : (t7269 != 0) = false := bne_eq_false_iff_eq.mpr c3
  clear c3
  have H' := Aside0.mk H
  clear H
  go_enter Try.func17, Try.ntmps17
  go_wp2_with (first | ((with_reducible refine HOpen.gate_append ?_); simp only [List.cons_append, List.nil_append]) | ((with_reducible refine gate_callee (f := 21) rfl ?_); refine goesL_ (some 10) rfl rfl Try.func21 (by kernel_rfl) rfl #[.slice A0 l0.length c0] rfl (by (try simp only [List.map_toArray, List.map_cons, List.map_nil]); first | done | rfl | (simp only [List.length_drop, List.length_take]; rfl)) ?_; (with_reducible refine (caulkref40_Check.calls k _ _ l0 t7269 _ ?side1 ?side2 A2.out).mono ?_); (case side1 => repeat (first | exact HR0.out | (with_reducible refine Kd.C_alloc ?_ _) | (with_reducible refine Kd.C_drewN ?_ _) | (with_reducible refine Kd.C_drew ?_))); (case side2 => exact HC0.out); rintro e w4 ⟨rfl, hb⟩; refine ⟨_, rfl, ?_⟩; have n0_ := Aside0.mk (below_step (by repeat (first | (with_reducible first | exact HB.out | apply below_alloc | apply pw_below_drewN | apply below_drew1) | exact HB.out)) hb); clear HB; have HB := n0_; clear n0_; (try clear hb); (try clear hb2); (try clear hk); (try clear hi)))
  (try simp only [Act.put, List.setIfInBounds_toArray, List.set_cons_zero, List.set_cons_succ])
  go_loopg [5, 16] k (fun kq v5 v16 w' => ∃ (x5_1 : List (S39)) (x16_1 : Int), v16 = .int .i64 x16_1 ∧ Aside0 (caulkref40_Runs.l0 kq x5_1 l0 (l0.length : Int) x16_1 = some (r1, r2)) ∧ Aside0 (kq ≤ k) ∧ Aside0 (Kd.R k39 39 w' w.heap.size (fun _ => True) v5 x5_1) ∧ Aside0 (Below w.heap.size w w'))
  case atStart => exact ⟨(([] : List (S39))), (0), (by first | rfl | (simp; done) | (simp [*]; done)), H', ⟨Nat.le_refl _⟩, ⟨by first | exact Kd.R_nil _ _ _ _ _ | exact Kd.N_nil _ _ _ _ _ | exact Kd.V_nil _ _ _ _ _ | exact Kd.Q_nil _ _ _ _ _ | exact Kd.S_nil _ _ _ _ _⟩, ⟨by repeat (first | (with_reducible first | exact HB.out | apply below_alloc | apply pw_below_drewN | apply below_drew1) | exact HB.out)⟩⟩
  case round =>
   clear H'
   try clear c1
   try clear c2
   try clear p2
   try clear c3
   try clear c3b0
   try clear c3b1
   obtain ⟨x5_1, x16_1, rfl, HA, HK1, HO_5, HB⟩ := hrel
   cases gk with
   | zero => exact absurd HA.out (by simp [caulkref40_Runs.l0])
   | succ k1 =>
    have H := HA.out
    clear HA
    simp only [caulkref40_Runs.l0] at H
    by_cases c5 : x16_1 < (l0.length : Int)
    ·rw [if_pos c5] at H
     have c5b0 : decide (x16_1 < (l0.length : Int)) = true := decide_eq_true c5
     clear c5
     by_cases c6 : 0 ≤ x16_1
     ·rw [if_pos c6] at H
      have c6b0 : decide (0 ≤ x16_1) = true := decide_eq_true c6
      clear c6
      by_cases c7 : x16_1 < (l0.length : Int)
      ·rw [if_pos c7] at H
       have c7b0 : decide (x16_1 < (l0.length : Int)) = true := decide_eq_true c7
       clear c7
       by_cases c8 : (x5_1.length : Int) > 0
       ·rw [if_pos c8] at H
        have c8b0 : decide (0 < (x5_1.length : Int)) = true := decide_eq_true c8
        have c8b1 : decide (0 < x5_1.length) = true := decide_eq_true (by omega)
        clear c8
        obtain ⟨ji9, hji9⟩ : ∃ j_ : Int, (wrap64 ((x5_1.length : Int) - 1)) = j_ := ⟨_, rfl⟩
        replace H : (if 0 ≤ (ji9) then (if (ji9) < (x5_1.length : Int) then (if ((rd_T39 x5_1 (ji9)).f1) = ((rd_T37 l0 x16_1).f0) then (caulkref40_Runs.l0 k1 (x5_1.set ((ji9) : Int).toNat (⟨(rd_T39 x5_1 (ji9)).f0, wrap64 (((rd_T39 x5_1 (ji9)).f1) + ((rd_T37 l0 x16_1).f1))⟩ : S39)) l0 (l0.length : Int) (wrap64 (x16_1 + 1))) else (if x5_1.length < 8796093022208 then (caulkref40_Runs.l0 k1 (x5_1 ++ [(⟨(rd_T37 l0 x16_1).f0, wrap64 (((rd_T37 l0 x16_1).f0) + ((rd_T37 l0 x16_1).f1))⟩ : S39)]) l0 (l0.length : Int) (wrap64 (x16_1 + 1))) else (none))) else (none)) else (none)) = some (r1, r2) := by first | (rw [hji9] at H; exact H) | (simp only [hji9] at H ⊢; exact H)
        have hji9w : (IntKind.i64.wrap ((x5_1.length : Int) - 1)) = ji9 := (i64_w _).trans hji9
        by_cases c10 : 0 ≤ (ji9)
        ·rw [if_pos c10] at H
         have c10b0 : decide (0 ≤ (ji9)) = true := decide_eq_true c10
         clear c10
         by_cases c11 : (ji9) < (x5_1.length : Int)
         ·rw [if_pos c11] at H
          have c11b0 : decide ((ji9) < (x5_1.length : Int)) = true := decide_eq_true c11
          clear c11
          by_cases c12 : ((rd_T39 x5_1 (ji9)).f1) = ((rd_T37 l0 x16_1).f0)
          ·rw [if_pos c12] at H
           have c12b0 : (((rd_T39 x5_1 (ji9)).f1) == ((rd_T37 l0 x16_1).f0)) = true := beq_iff_eq.mpr c12
           have c12b1 : (((rd_T39 x5_1 (ji9)).f1) != ((rd_T37 l0 x16_1).f0)) = false := bne_eq_false_iff_eq.mpr c12
           clear c12
           obtain ⟨y7274, hy7274⟩ : ∃ y_ : List (S39), y_ = (x5_1.set ((ji9) : Int).toNat (⟨(rd_T39 x5_1 (ji9)).f0, wrap64 (((rd_T39 x5_1 (ji9)).f1) + ((rd_T37 l0 x16_1).f1))⟩ : S39)) := ⟨_, rfl⟩
           replace H : (caulkref40_Runs.l0 k1 y7274 l0 (l0.length : Int) (wrap64 (x16_1 + 1))) = some (r1, r2) := by first | (rw [hy7274]; with_reducible exact H) | (have H2_ := (Option.bind_some _ _).symm.trans H; rw [hy7274]; with_reducible exact H2_) | (have H2_ := (Option.bind_some _ _).symm.trans H; with_reducible exact H2_) | with_reducible exact H | (rw [hy7274]; exact H) | exact H
           have Ny7274 := Aside0.mk hy7274
           clear hy7274
           have H' := Aside0.mk H
           clear H
           have p7270 : 0 ≤ (x16_1 : Int) := of_decide_eq_true (by first | (with_reducible assumption) | assumption)
           have q7270 : x16_1 < (l0.length : Int) := of_decide_eq_true (by first | (with_reducible assumption) | assumption)
           obtain ⟨ad7270, e7270, hx7270_0, hx7270_1, hx7270_2⟩ := at_T37 HR0.out x16_1 p7270 q7270
           cases e7270
           replace hx7270_0 := (HB.out.cell (World.block_lt_of_cell? w _ hx7270_0)).trans hx7270_0
           replace hx7270_1 := (HB.out.cell (World.block_lt_of_cell? w _ hx7270_1)).trans hx7270_1
           replace hx7270_2 := (HB.out.cell (World.block_lt_of_cell? w _ hx7270_2)).trans hx7270_2
           replace p7270 := eq_true p7270
           replace q7270 := eq_true q7270
           try go_wp2_with (first | ((with_reducible refine HOpen.gate_append ?_); simp only [List.cons_append, List.nil_append]) | ((with_reducible refine gate_dst (N := 7) rfl ?_); refine box_event ?hg (N := 7) ?hd (cs := #[.int .i64 0, .int .i64 0, .int .i64 0]) (t := 37) ?hr ?_; (case hd => rfl); (case hg => rfl); (case hr => first | (go_simp; done) | (go_simp; rfl)); intro gb7271 hg w14 hbox hb; have n0_ := Aside0.mk (Kd.R_below (by (with_reducible repeat (first | apply Kd.R_alloc | apply Kd.R_drewN | apply Kd.R_drew)); exact HO_5.out) hb); have n1_ := Aside0.mk (below_step (by repeat (first | (with_reducible first | exact HB.out | apply below_alloc | apply pw_below_drewN | apply below_drew1) | exact HB.out)) hb); have n2_ := Aside0.mk (hbox); have n3_ := Aside0.mk ((by rw [hg]; exact (below_size (by repeat (first | (with_reducible first | exact HB.out | apply below_alloc | apply pw_below_drewN | apply below_drew1) | exact HB.out))) : w.heap.size ≤ gb7271)); have n4_ := Aside0.mk ((by rw [hg]; exact (below_size (by repeat (first | (with_reducible first | exact HB.out | apply below_alloc | apply pw_below_drewN | apply below_drew1) | exact HB.out))) : w.heap.size ≤ gb7271)); clear HO_5; clear HB; have HO_5 := n0_; have HB := n1_; have BK7271 := n2_; have GW7271 := n3_; have GE7271 := n4_; clear n0_ n1_ n2_ n3_ n4_; clear hb hbox hg; have hcz15_0 : w14.cell? ⟨gb7271, 0, none⟩ = some (.int .i64 0) := (blk_cell BK7271.out 0).trans rfl; have hcz15_1 : w14.cell? ⟨gb7271, 1, none⟩ = some (.int .i64 0) := (blk_cell BK7271.out 1).trans rfl; have hcz15_2 : w14.cell? ⟨gb7271, 2, none⟩ = some (.int .i64 0) := (blk_cell BK7271.out 2).trans rfl; have hfz15_0 := blk_frozen BK7271.out 0; have hfz15_1 := blk_frozen BK7271.out 1; have hfz15_2 := blk_frozen BK7271.out 2; obtain ⟨Ao16, co16, eo16⟩ := Kd.R_slice HO_5.out; subst eo16))
           have n0_ : Aside0 (Kd.R k39 39 (((w14.setCell ⟨gb7271, 0, none⟩ (.int .i64 ((rd_T37 l0 x16_1).f0))).setCell ⟨gb7271, 1, none⟩ (.int .i64 ((rd_T37 l0 x16_1).f1))).setCell ⟨gb7271, 2, none⟩ (.int .i64 ((rd_T37 l0 x16_1).f2))) w.heap.size (fun _ => True) (.slice Ao16 x5_1.length co16) x5_1) := ⟨by (with_reducible repeat (first | apply Kd.R_alloc | apply Kd.R_drewN | apply Kd.R_drew)); exact Kd.R_mono (Kd.R_far (p := ⟨gb7271, 2, none⟩) (Kd.R_far (p := ⟨gb7271, 1, none⟩) (Kd.R_far (p := ⟨gb7271, 0, none⟩) (Kd.R_types HO_5.out BK7271.out (by decide)) (fun _ hk => hk.2) (.int .i64 ((rd_T37 l0 x16_1).f0))) (fun _ hk => hk.2) (.int .i64 ((rd_T37 l0 x16_1).f1))) (fun _ hk => hk.2) (.int .i64 ((rd_T37 l0 x16_1).f2))) (fun _ hk => trivial)⟩
           have n1_ : Aside0 ((((w14.setCell ⟨gb7271, 0, none⟩ (.int .i64 ((rd_T37 l0 x16_1).f0))).setCell ⟨gb7271, 1, none⟩ (.int .i64 ((rd_T37 l0 x16_1).f1))).setCell ⟨gb7271, 2, none⟩ (.int .i64 ((rd_T37 l0 x16_1).f2))).heap[gb7271]? = some (.cells #[.int .i64 ((rd_T37 l0 x16_1).f0), .int .i64 ((rd_T37 l0 x16_1).f1), .int .i64 ((rd_T37 l0 x16_1).f2)] 37 (0, 0))) := ⟨by (with_reducible repeat (first | refine blk_drewN ?_ _ | refine blk_drew ?_ | refine blk_alloc ?_ _)); refine blk_put (cs := #[.int .i64 ((rd_T37 l0 x16_1).f0), .int .i64 ((rd_T37 l0 x16_1).f1), .int .i64 0]) ?_ 2 _ rfl; (with_reducible repeat (first | refine blk_drewN ?_ _ | refine blk_drew ?_ | refine blk_alloc ?_ _)); refine blk_put (cs := #[.int .i64 ((rd_T37 l0 x16_1).f0), .int .i64 0, .int .i64 0]) ?_ 1 _ rfl; (with_reducible repeat (first | refine blk_drewN ?_ _ | refine blk_drew ?_ | refine blk_alloc ?_ _)); refine blk_put (cs := #[.int .i64 0, .int .i64 0, .int .i64 0]) ?_ 0 _ rfl; (with_reducible repeat (first | refine blk_drewN ?_ _ | refine blk_drew ?_ | refine blk_alloc ?_ _)); exact BK7271.out⟩
           have n2_ : Aside0 (Below w.heap.size w (((w14.setCell ⟨gb7271, 0, none⟩ (.int .i64 ((rd_T37 l0 x16_1).f0))).setCell ⟨gb7271, 1, none⟩ (.int .i64 ((rd_T37 l0 x16_1).f1))).setCell ⟨gb7271, 2, none⟩ (.int .i64 ((rd_T37 l0 x16_1).f2)))) := ⟨by repeat (first | (with_reducible first | exact HB.out | apply below_alloc | apply pw_below_drewN | apply below_drew1 | refine below_set ?_ GE7271.out) | exact HB.out)⟩
           (try clear HO_5)
           (try clear BK7271)
           (try clear HB)
           generalize (((w14.setCell ⟨gb7271, 0, none⟩ (.int .i64 ((rd_T37 l0 x16_1).f0))).setCell ⟨gb7271, 1, none⟩ (.int .i64 ((rd_T37 l0 x16_1).f1))).setCell ⟨gb7271, 2, none⟩ (.int .i64 ((rd_T37 l0 x16_1).f2))) = w17 at n0_ n1_ n2_ ⊢
           have HO_5 := n0_
           have BK7271 := n1_
           have HB := n2_
           clear n0_ n1_ n2_
           have n0_ := Aside0.mk (Kd.R_drew HO_5.out)
           have n1_ := Aside0.mk (blk_drew BK7271.out)
           have n2_ := Aside0.mk (below_drew1 HB.out)
           clear HO_5
           clear BK7271
           clear HB
           have HO_5 := n0_
           have BK7271 := n1_
           have HB := n2_
           clear n0_ n1_ n2_
           have p7272 : 0 ≤ ((ji9) : Int) := of_decide_eq_true (by first | (with_reducible assumption) | assumption)
           have q7272 : (ji9) < (x5_1.length : Int) := of_decide_eq_true (by first | (with_reducible assumption) | assumption)
           obtain ⟨ad7272, e7272, hx7272_0, hx7272_1⟩ := at_T39 (Kd.R_reads' HO_5.out).2.2 (ji9) p7272 q7272
           cases e7272
           replace p7272 := eq_true p7272
           replace q7272 := eq_true q7272
           refine start_ (n := 13) (S := fun w' => w'.cell? ⟨gb7271, 0, none⟩ = some (.int .i64 ((rd_T37 l0 x16_1).f0)) ∧ w'.cell? ⟨gb7271, 1, none⟩ = some (.int .i64 ((rd_T37 l0 x16_1).f1)) ∧ w'.cell? ⟨gb7271, 2, none⟩ = some (.int .i64 ((rd_T37 l0 x16_1).f2)) ∧ w'.cell? (ad7272.add (((ji9)).toNat * 2)) = some (.int .i64 ((rd_T39 x5_1 (ji9)).f0)) ∧ w'.cell? ⟨(ad7272.add (((ji9)).toNat * 2)).block, (ad7272.add (((ji9)).toNat * 2)).off + 1, none⟩ = some (.int .i64 ((rd_T39 x5_1 (ji9)).f1))) (ds := []) #[false, false, false, false, false, false, false, false, false, false, false, false, false] (by kernel_rfl) rfl rfl ⟨(blk_cell BK7271.out 0).trans rfl, (blk_cell BK7271.out 1).trans rfl, (blk_cell BK7271.out 2).trans rfl, hx7272_0, hx7272_1⟩ (fun hHeld => ?_); refine with_tabW caulkref40_Runs.tab9 caulkref40_Runs.bits9 (fun HT_ HW_ => ?_)
           generalize w17.drew = w18 at HO_5 BK7271 HB hx7272_0 hx7272_1 hHeld ⊢
           refine pure_ (i := 0) (N := some 22) (v := ?_) (a' := ?_) #[true, false, false, false, false, false, false, false, false, false, false, false, false] rfl rfl (any_of HT_.out (by kernel_rfl)) (fun _ _ _ h => h) (Or.inl ⟨by rfl, ?_⟩) ?_ ?_
           rotate_left
           ·intro w'
            go_simp
            with_reducible rfl
           rotate_left
           ·simp only [Act.put, List.setIfInBounds_toArray, List.set_cons_zero, List.set_cons_succ, i64_w, i32_w]
            rfl
           refine pure_ (i := 1) (N := some 23) (v := ?_) (a' := ?_) #[true, true, false, false, false, false, false, false, false, false, false, false, false] rfl rfl (any_of HT_.out (by kernel_rfl)) (fun _ _ _ h => h) (Or.inl ⟨by rfl, ?_⟩) ?_ ?_
           rotate_left
           ·intro w'
            go_simp
            with_reducible rfl
           rotate_left
           ·simp only [Act.put, List.setIfInBounds_toArray, List.set_cons_zero, List.set_cons_succ, i64_w, i32_w]
            rfl
           refine pure_ (i := 2) (N := some 24) (v := ?_) (a' := ?_) #[true, true, true, false, false, false, false, false, false, false, false, false, false] rfl rfl (any_of HT_.out (by kernel_rfl)) (fun _ _ _ h => h) (Or.inl ⟨by rfl, ?_⟩) ?_ ?_
           rotate_left
           ·intro w'
            go_simp
            with_reducible rfl
           rotate_left
           ·simp only [Act.put, List.setIfInBounds_toArray, List.set_cons_zero, List.set_cons_succ, i64_w, i32_w]
            rfl
           refine pure_ (i := 3) (N := some 25) (v := ?_) (a' := ?_) #[true, true, true, true, false, false, false, false, false, false, false, false, false] rfl rfl (any_of HT_.out (by kernel_rfl)) (fun _ _ _ h => h) (Or.inl ⟨by rfl, ?_⟩) ?_ ?_
           rotate_left
           ·intro w'
            go_simp
            with_reducible rfl
           rotate_left
           ·simp only [Act.put, List.setIfInBounds_toArray, List.set_cons_zero, List.set_cons_succ, i64_w, i32_w]
            rfl
           refine pure_ (i := 4) (N := some 26) (v := ?_) (a' := ?_) #[true, true, true, true, true, false, false, false, false, false, false, false, false] rfl rfl (any_of HT_.out (by kernel_rfl)) (fun _ _ _ h => h) (Or.inl ⟨by rfl, ?_⟩) ?_ ?_
           rotate_left
           ·intro w'
            go_simp
            with_reducible rfl
           rotate_left
           ·simp only [Act.put, List.setIfInBounds_toArray, List.set_cons_zero, List.set_cons_succ, i64_w, i32_w]
            rfl
           refine pure_ (i := 5) (N := some 27) (v := ?_) (a' := ?_) #[true, true, true, true, true, true, false, false, false, false, false, false, false] rfl rfl (any_of HT_.out (by kernel_rfl)) (fun _ _ _ h => h) (Or.inl ⟨by rfl, ?_⟩) ?_ ?_
           rotate_left
           ·intro w'
            go_simp
            with_reducible rfl
           rotate_left
           ·simp only [Act.put, List.setIfInBounds_toArray, List.set_cons_zero, List.set_cons_succ, i64_w, i32_w]
            rfl
           refine pure_ (i := 6) (N := some 28) (v := ?_) (a' := ?_) #[true, true, true, true, true, true, true, false, false, false, false, false, false] rfl rfl (any_of HT_.out (by kernel_rfl)) (fun _ _ _ h => h) (Or.inl ⟨by rfl, ?_⟩) ?_ ?_
           rotate_left
           ·intro w'
            go_simp
            with_reducible rfl
           rotate_left
           ·simp only [Act.put, List.setIfInBounds_toArray, List.set_cons_zero, List.set_cons_succ, i64_w, i32_w]
            rfl
           refine pure_ (i := 7) (N := some 29) (v := ?_) (a' := ?_) #[true, true, true, true, true, true, true, true, false, false, false, false, false] rfl rfl (any_of HT_.out (by kernel_rfl)) (fun _ _ _ h => h) (Or.inl ⟨by rfl, ?_⟩) ?_ ?_
           rotate_left
           ·intro w'
            go_simp
            with_reducible rfl
           rotate_left
           ·simp only [Act.put, List.setIfInBounds_toArray, List.set_cons_zero, List.set_cons_succ, i64_w, i32_w]
            rfl
           refine pure_ (i := 9) (N := some 31) (v := ?_) (a' := ?_) #[true, true, true, true, true, true, true, true, false, true, false, false, false] rfl rfl (any_of HT_.out (by kernel_rfl)) (fun _ _ _ h => h) (Or.inl ⟨by rfl, ?_⟩) ?_ ?_
           rotate_left
           ·intro w'
            go_simp
            with_reducible rfl
           rotate_left
           ·simp only [Act.put, List.setIfInBounds_toArray, List.set_cons_zero, List.set_cons_succ, i64_w, i32_w]
            rfl
           refine take_ (i := 8) (N := some 30) (v := ?_) (a' := ?_) #[true, true, true, true, true, true, true, true, true, true, false, false, false] rfl rfl (take_ofW HT_.out HW_.out (by kernel_rfl)) (fun _ _ _ h => h) (Or.inl ⟨by rfl, ?_⟩) hHeld ?_ ?_
           rotate_left
           ·rintro w' ⟨s0, s1, s2, s3, s4⟩
            go_simp
            with_reducible rfl
           rotate_left
           ·simp only [Act.put, List.setIfInBounds_toArray, List.set_cons_zero, List.set_cons_succ, i64_w, i32_w]
            rfl
           refine take_ (i := 10) (N := some 32) (v := ?_) (a' := ?_) #[true, true, true, true, true, true, true, true, true, true, true, false, false] rfl rfl (take_ofW HT_.out HW_.out (by kernel_rfl)) (fun _ _ _ h => h) (Or.inl ⟨by rfl, ?_⟩) hHeld ?_ ?_
           rotate_left
           ·rintro w' ⟨s0, s1, s2, s3, s4⟩
            go_simp
            with_reducible rfl
           rotate_left
           ·simp only [Act.put, List.setIfInBounds_toArray, List.set_cons_zero, List.set_cons_succ, i64_w, i32_w]
            rfl
           refine pure_ (i := 11) (N := some 33) (v := ?_) (a' := ?_) #[true, true, true, true, true, true, true, true, true, true, true, true, false] rfl rfl (any_of HT_.out (by kernel_rfl)) (fun _ _ _ h => h) (Or.inl ⟨by rfl, ?_⟩) ?_ ?_
           rotate_left
           ·intro w'
            go_simp
            with_reducible rfl
           rotate_left
           ·simp only [Act.put, List.setIfInBounds_toArray, List.set_cons_zero, List.set_cons_succ, i64_w, i32_w]
            rfl
           refine pure_ (i := 12) (N := some 34) (v := ?_) (a' := ?_) #[true, true, true, true, true, true, true, true, true, true, true, true, true] rfl rfl (any_of HT_.out (by kernel_rfl)) (fun _ _ _ h => h) (Or.inl ⟨by rfl, ?_⟩) ?_ ?_
           rotate_left
           ·intro w'
            go_simp
            with_reducible rfl
           rotate_left
           ·simp only [Act.put, List.setIfInBounds_toArray, List.set_cons_zero, List.set_cons_succ, i64_w, i32_w]
            rfl
           refine done_ (done_of HT_.out (by kernel_rfl)) ?_
           try go_wp2
           have n0_ := Aside0.mk (Kd.R_drew HO_5.out)
           have n1_ := Aside0.mk (blk_drew BK7271.out)
           have n2_ := Aside0.mk (below_drew1 HB.out)
           clear HO_5
           clear BK7271
           clear HB
           have HO_5 := n0_
           have BK7271 := n1_
           have HB := n2_
           clear n0_ n1_ n2_
           have p7273 : 0 ≤ ((ji9) : Int) := of_decide_eq_true (by first | (with_reducible assumption) | assumption)
           have q7273 : (ji9) < (x5_1.length : Int) := of_decide_eq_true (by first | (with_reducible assumption) | assumption)
           obtain ⟨ad7273, e7273, hx7273_0, hx7273_1⟩ := at_T39 (Kd.R_reads' HO_5.out).2.2 (ji9) p7273 q7273
           obtain rfl : ad7272 = ad7273 := (by injection e7273)
           replace p7273 := eq_true p7273
           replace q7273 := eq_true q7273
           have p13 : 0 ≤ ((ji9) : Int) := of_decide_eq_true (by first | (with_reducible assumption) | assumption)
           have q13 : ((ji9) : Int) < ((x5_1.length : Int) : Int) := of_decide_eq_true (by first | (with_reducible assumption) | assumption)
           obtain ⟨go13, co13, eo13, gb13, gl13, cl13, HG13⟩ := Kd.R_form HO_5.out (by omega)
           (first | cases eo13 | (injection eo13 with ea_ en_ ec_; (first | subst ea_ | (injection ea_ with ea_; subst ea_)); subst ec_; clear en_))
           have GB13 := Aside0.mk gb13
           have GG13 := Aside0.mk HG13
           clear gb13 gl13 HG13
           (first | simp only [add_plain] at hx7272_0 | skip)
           (first | simp only [add_plain] at hx7272_1 | skip)
           (first | simp only [add_plain] at hx7273_0 | skip)
           (first | simp only [add_plain] at hx7273_1 | skip)
           obtain ⟨ce13, hcl13, hM13, hcc13, hfr13⟩ := Kd.R_elem HO_5.out z39 ((ji9) : Int) p13 q13
           obtain rfl := k39_openM hM13
           have hx13_0 : World.cell? _ ⟨go13, ((ji9) : Int).toNat * 2, none⟩ = some (.int .i64 ((rd_T39 x5_1 (ji9)).f0)) := hcc13 0 _ rfl
           have hx13_1 : World.cell? _ ⟨go13, ((ji9) : Int).toNat * 2 + 1, none⟩ = some (.int .i64 ((rd_T39 x5_1 (ji9)).f1)) := hcc13 1 _ rfl
           have hf13_0 : World.frozen? _ ⟨go13, ((ji9) : Int).toNat * 2, none⟩ = false := hfr13 0
           have hf13_1 : World.frozen? _ ⟨go13, ((ji9) : Int).toNat * 2 + 1, none⟩ = false := hfr13 1
           clear hcl13 hcc13 hfr13 hM13
           replace p13 := eq_true p13
           replace q13 := eq_true q13
           obtain ⟨ce20, hcl20, hM20, hcc20, hfr20⟩ := Kd.R_elem HO_5.out z39 ((ji9) : Int) (of_decide_eq_true (by first | (with_reducible assumption) | assumption)) (by have h_ : ((ji9) : Int) < ((x5_1.length : Int) : Int) := of_decide_eq_true (by first | (with_reducible assumption) | assumption); first | exact h_ | (have e_ := (Kd.R_reads' HO_5.out).1; omega) | simpa using h_)
           obtain rfl := k39_openM hM20
           have HP20 := (Kd.R_seg HO_5.out ((ji9) : Int) (of_decide_eq_true (by first | (with_reducible assumption) | assumption)) (by have h_ : ((ji9) : Int) < ((x5_1.length : Int) : Int) := of_decide_eq_true (by first | (with_reducible assumption) | assumption); first | exact h_ | (have e_ := (Kd.R_reads' HO_5.out).1; omega) | simpa using h_) (seg := [.int .i64 (wrap64 (((rd_T39 x5_1 (ji9)).f1) + ((rd_T37 l0 x16_1).f1)))]) (j := 1) hcl20 hcc20 (show 2 ≤ 2 from by decide) (x' := (⟨(rd_T39 x5_1 (ji9)).f0, wrap64 (((rd_T39 x5_1 (ji9)).f1) + ((rd_T37 l0 x16_1).f1))⟩ : S39)) (k39_mkM _ _ _ (⟨(rd_T39 x5_1 (ji9)).f0, wrap64 (((rd_T39 x5_1 (ji9)).f1) + ((rd_T37 l0 x16_1).f1))⟩ : S39) ) (fun _ hk => hk)).1
           rw [← Ny7274.out] at HP20
           have HQ20 := Aside0.mk HP20
           clear hcl20 hcc20 hfr20 hM20 HP20
           refine start_ (n := 12) (S := fun w' => w'.cell? ⟨gb7271, 0, none⟩ = some (.int .i64 ((rd_T37 l0 x16_1).f0)) ∧ w'.cell? ⟨gb7271, 1, none⟩ = some (.int .i64 ((rd_T37 l0 x16_1).f1)) ∧ w'.cell? ⟨gb7271, 2, none⟩ = some (.int .i64 ((rd_T37 l0 x16_1).f2)) ∧ w'.cell? ⟨go13, ((ji9)).toNat * 2, none⟩ = some (.int .i64 ((rd_T39 x5_1 (ji9)).f0)) ∧ w'.cell? ⟨go13, ((ji9)).toNat * 2 + 1, none⟩ = some (.int .i64 ((rd_T39 x5_1 (ji9)).f1))) (ds := [11]) #[false, false, false, false, false, false, false, false, false, false, false, false] (by kernel_rfl) rfl rfl ⟨(blk_cell BK7271.out 0).trans rfl, (blk_cell BK7271.out 1).trans rfl, (blk_cell BK7271.out 2).trans rfl, hx7273_0, hx7273_1⟩ (fun hHeld => ?_); refine with_tabW caulkref40_Runs.tab10 caulkref40_Runs.bits10 (fun HT_ HW_ => ?_)
           generalize w18.drew = w19 at HO_5 BK7271 HB GG13 HQ20 hf13_0 hf13_1 hx13_0 hx13_1 hx7272_0 hx7272_1 hx7273_0 hx7273_1 hHeld ⊢
           refine pure_ (i := 0) (N := some 35) (v := ?_) (a' := ?_) #[true, false, false, false, false, false, false, false, false, false, false, false] rfl rfl (any_of HT_.out (by kernel_rfl)) (fun _ _ _ h => h) (Or.inl ⟨by rfl, ?_⟩) ?_ ?_
           rotate_left
           ·intro w'
            go_simp
            with_reducible rfl
           rotate_left
           ·simp only [Act.put, List.setIfInBounds_toArray, List.set_cons_zero, List.set_cons_succ, i64_w, i32_w]
            rfl
           refine pure_ (i := 1) (N := some 36) (v := ?_) (a' := ?_) #[true, true, false, false, false, false, false, false, false, false, false, false] rfl rfl (any_of HT_.out (by kernel_rfl)) (fun _ _ _ h => h) (Or.inl ⟨by rfl, ?_⟩) ?_ ?_
           rotate_left
           ·intro w'
            go_simp
            with_reducible rfl
           rotate_left
           ·simp only [Act.put, List.setIfInBounds_toArray, List.set_cons_zero, List.set_cons_succ, i64_w, i32_w]
            rfl
           refine pure_ (i := 2) (N := some 37) (v := ?_) (a' := ?_) #[true, true, true, false, false, false, false, false, false, false, false, false] rfl rfl (any_of HT_.out (by kernel_rfl)) (fun _ _ _ h => h) (Or.inl ⟨by rfl, ?_⟩) ?_ ?_
           rotate_left
           ·intro w'
            go_simp
            with_reducible rfl
           rotate_left
           ·simp only [Act.put, List.setIfInBounds_toArray, List.set_cons_zero, List.set_cons_succ, i64_w, i32_w]
            rfl
           refine pure_ (i := 3) (N := some 38) (v := ?_) (a' := ?_) #[true, true, true, true, false, false, false, false, false, false, false, false] rfl rfl (any_of HT_.out (by kernel_rfl)) (fun _ _ _ h => h) (Or.inl ⟨by rfl, ?_⟩) ?_ ?_
           rotate_left
           ·intro w'
            go_simp
            with_reducible rfl
           rotate_left
           ·simp only [Act.put, List.setIfInBounds_toArray, List.set_cons_zero, List.set_cons_succ, i64_w, i32_w]
            rfl
           refine pure_ (i := 4) (N := some 39) (v := ?_) (a' := ?_) #[true, true, true, true, true, false, false, false, false, false, false, false] rfl rfl (any_of HT_.out (by kernel_rfl)) (fun _ _ _ h => h) (Or.inl ⟨by rfl, ?_⟩) ?_ ?_
           rotate_left
           ·intro w'
            go_simp
            with_reducible rfl
           rotate_left
           ·simp only [Act.put, List.setIfInBounds_toArray, List.set_cons_zero, List.set_cons_succ, i64_w, i32_w]
            rfl
           refine pure_ (i := 6) (N := some 41) (v := ?_) (a' := ?_) #[true, true, true, true, true, false, true, false, false, false, false, false] rfl rfl (any_of HT_.out (by kernel_rfl)) (fun _ _ _ h => h) (Or.inl ⟨by rfl, ?_⟩) ?_ ?_
           rotate_left
           ·intro w'
            go_simp
            with_reducible rfl
           rotate_left
           ·simp only [Act.put, List.setIfInBounds_toArray, List.set_cons_zero, List.set_cons_succ, i64_w, i32_w]
            rfl
           refine take_ (i := 5) (N := some 40) (v := ?_) (a' := ?_) #[true, true, true, true, true, true, true, false, false, false, false, false] rfl rfl (take_ofW HT_.out HW_.out (by kernel_rfl)) (fun _ _ _ h => h) (Or.inl ⟨by rfl, ?_⟩) hHeld ?_ ?_
           rotate_left
           ·rintro w' ⟨s0, s1, s2, s3, s4⟩
            go_simp
            with_reducible rfl
           rotate_left
           ·simp only [Act.put, List.setIfInBounds_toArray, List.set_cons_zero, List.set_cons_succ, i64_w, i32_w]
            rfl
           refine take_ (i := 7) (N := some 42) (v := ?_) (a' := ?_) #[true, true, true, true, true, true, true, true, false, false, false, false] rfl rfl (take_ofW HT_.out HW_.out (by kernel_rfl)) (fun _ _ _ h => h) (Or.inl ⟨by rfl, ?_⟩) hHeld ?_ ?_
           rotate_left
           ·rintro w' ⟨s0, s1, s2, s3, s4⟩
            go_simp
            with_reducible rfl
           rotate_left
           ·simp only [Act.put, List.setIfInBounds_toArray, List.set_cons_zero, List.set_cons_succ, i64_w, i32_w]
            rfl
           refine pure_ (i := 8) (N := some 43) (v := ?_) (a' := ?_) #[true, true, true, true, true, true, true, true, true, false, false, false] rfl rfl (any_of HT_.out (by kernel_rfl)) (fun _ _ _ h => h) (Or.inl ⟨by rfl, ?_⟩) ?_ ?_
           rotate_left
           ·intro w'
            go_simp
            with_reducible rfl
           rotate_left
           ·simp only [Act.put, List.setIfInBounds_toArray, List.set_cons_zero, List.set_cons_succ, i64_w, i32_w]
            rfl
           refine pure_ (i := 9) (N := some 44) (v := ?_) (a' := ?_) #[true, true, true, true, true, true, true, true, true, true, false, false] rfl rfl (any_of HT_.out (by kernel_rfl)) (fun _ _ _ h => h) (Or.inl ⟨by rfl, ?_⟩) ?_ ?_
           rotate_left
           ·intro w'
            go_simp
            with_reducible rfl
           rotate_left
           ·simp only [Act.put, List.setIfInBounds_toArray, List.set_cons_zero, List.set_cons_succ, i64_w, i32_w]
            rfl
           refine pure_ (i := 10) (N := some 45) (v := ?_) (a' := ?_) #[true, true, true, true, true, true, true, true, true, true, true, false] rfl rfl (any_of HT_.out (by kernel_rfl)) (fun _ _ _ h => h) (Or.inl ⟨by rfl, ?_⟩) ?_ ?_
           rotate_left
           ·intro w'
            go_simp
            with_reducible rfl
           rotate_left
           ·simp only [Act.put, List.setIfInBounds_toArray, List.set_cons_zero, List.set_cons_succ, i64_w, i32_w]
            rfl
           refine last_ (i := 11) (N := none) #[true, true, true, true, true, true, true, true, true, true, true, true] rfl rfl (one_of HT_.out (by kernel_rfl)) (by decide) (fun K hK => ?_)
           refine skip_ (w1 := ?_) (by rfl) rfl ?_ ?_
           rotate_left
           ·go_simp
            rfl
           refine hK.out _ _ ?_
           clear hK K
           refine done_ (done_of HT_.out (by kernel_rfl)) ?_
           try go_wp2
           go_roundg k1
           case measure => have := HK1.out; omega
           case rel => exact ⟨(y7274), (wrap64 (x16_1 + 1)), (by first | rfl | (simp; done) | (simp [*]; done)), H', ⟨by have := HK1.out; omega⟩, ⟨by (with_reducible repeat (first | apply Kd.R_alloc | apply Kd.R_drewN | apply Kd.R_drew)); exact HQ20.out⟩, ⟨by repeat (first | (with_reducible first | exact HB.out | apply below_alloc | apply pw_below_drewN | apply below_drew1 | refine below_set ?_ GB13.out | refine below_set ?_ GE7271.out) | exact HB.out)⟩⟩
          ·rw [if_neg c12] at H
           have c12b0 : (((rd_T39 x5_1 (ji9)).f1) == ((rd_T37 l0 x16_1).f0)) = false := beq_eq_false_iff_ne.mpr c12
           have c12b1 : (((rd_T39 x5_1 (ji9)).f1) != ((rd_T37 l0 x16_1).f0)) = true := bne_iff_ne.mpr c12
           by_cases c21 : x5_1.length < 8796093022208
           ·rw [if_pos c21] at H
            have LMc21 := Aside0.mk c21
            clear c21
            obtain ⟨y7275, hy7275⟩ : ∃ y_ : List (S39), y_ = (x5_1 ++ [(⟨(rd_T37 l0 x16_1).f0, wrap64 (((rd_T37 l0 x16_1).f0) + ((rd_T37 l0 x16_1).f1))⟩ : S39)]) := ⟨_, rfl⟩
            replace H : (caulkref40_Runs.l0 k1 y7275 l0 (l0.length : Int) (wrap64 (x16_1 + 1))) = some (r1, r2) := by first | (rw [hy7275]; with_reducible exact H) | (have H2_ := (Option.bind_some _ _).symm.trans H; rw [hy7275]; with_reducible exact H2_) | (have H2_ := (Option.bind_some _ _).symm.trans H; with_reducible exact H2_) | with_reducible exact H | (rw [hy7275]; exact H) | exact H
            have Ny7275 := Aside0.mk hy7275
            clear hy7275
            have H' := Aside0.mk H
            clear H
            have p7270 : 0 ≤ (x16_1 : Int) := of_decide_eq_true (by first | (with_reducible assumption) | assumption)
            have q7270 : x16_1 < (l0.length : Int) := of_decide_eq_true (by first | (with_reducible assumption) | assumption)
            obtain ⟨ad7270, e7270, hx7270_0, hx7270_1, hx7270_2⟩ := at_T37 HR0.out x16_1 p7270 q7270
            cases e7270
            replace hx7270_0 := (HB.out.cell (World.block_lt_of_cell? w _ hx7270_0)).trans hx7270_0
            replace hx7270_1 := (HB.out.cell (World.block_lt_of_cell? w _ hx7270_1)).trans hx7270_1
            replace hx7270_2 := (HB.out.cell (World.block_lt_of_cell? w _ hx7270_2)).trans hx7270_2
            replace p7270 := eq_true p7270
            replace q7270 := eq_true q7270
            try go_wp2_with (first | ((with_reducible refine HOpen.gate_append ?_); simp only [List.cons_append, List.nil_append]) | ((with_reducible refine gate_dst (N := 7) rfl ?_); refine box_event ?hg (N := 7) ?hd (cs := #[.int .i64 0, .int .i64 0, .int .i64 0]) (t := 37) ?hr ?_; (case hd => rfl); (case hg => rfl); (case hr => first | (go_simp; done) | (go_simp; rfl)); intro gb7271 hg w22 hbox hb; have n0_ := Aside0.mk (Kd.R_below (by (with_reducible repeat (first | apply Kd.R_alloc | apply Kd.R_drewN | apply Kd.R_drew)); exact HO_5.out) hb); have n1_ := Aside0.mk (below_step (by repeat (first | (with_reducible first | exact HB.out | apply below_alloc | apply pw_below_drewN | apply below_drew1) | exact HB.out)) hb); have n2_ := Aside0.mk (hbox); have n3_ := Aside0.mk ((by rw [hg]; exact (below_size (by repeat (first | (with_reducible first | exact HB.out | apply below_alloc | apply pw_below_drewN | apply below_drew1) | exact HB.out))) : w.heap.size ≤ gb7271)); have n4_ := Aside0.mk ((by rw [hg]; exact (below_size (by repeat (first | (with_reducible first | exact HB.out | apply below_alloc | apply pw_below_drewN | apply below_drew1) | exact HB.out))) : w.heap.size ≤ gb7271)); clear HO_5; clear HB; have HO_5 := n0_; have HB := n1_; have BK7271 := n2_; have GW7271 := n3_; have GE7271 := n4_; clear n0_ n1_ n2_ n3_ n4_; clear hb hbox hg; have hcz23_0 : w22.cell? ⟨gb7271, 0, none⟩ = some (.int .i64 0) := (blk_cell BK7271.out 0).trans rfl; have hcz23_1 : w22.cell? ⟨gb7271, 1, none⟩ = some (.int .i64 0) := (blk_cell BK7271.out 1).trans rfl; have hcz23_2 : w22.cell? ⟨gb7271, 2, none⟩ = some (.int .i64 0) := (blk_cell BK7271.out 2).trans rfl; have hfz23_0 := blk_frozen BK7271.out 0; have hfz23_1 := blk_frozen BK7271.out 1; have hfz23_2 := blk_frozen BK7271.out 2; obtain ⟨Ao24, co24, eo24⟩ := Kd.R_slice HO_5.out; subst eo24))
            have n0_ : Aside0 (Kd.R k39 39 (((w22.setCell ⟨gb7271, 0, none⟩ (.int .i64 ((rd_T37 l0 x16_1).f0))).setCell ⟨gb7271, 1, none⟩ (.int .i64 ((rd_T37 l0 x16_1).f1))).setCell ⟨gb7271, 2, none⟩ (.int .i64 ((rd_T37 l0 x16_1).f2))) w.heap.size (fun _ => True) (.slice Ao24 x5_1.length co24) x5_1) := ⟨by (with_reducible repeat (first | apply Kd.R_alloc | apply Kd.R_drewN | apply Kd.R_drew)); exact Kd.R_mono (Kd.R_far (p := ⟨gb7271, 2, none⟩) (Kd.R_far (p := ⟨gb7271, 1, none⟩) (Kd.R_far (p := ⟨gb7271, 0, none⟩) (Kd.R_types HO_5.out BK7271.out (by decide)) (fun _ hk => hk.2) (.int .i64 ((rd_T37 l0 x16_1).f0))) (fun _ hk => hk.2) (.int .i64 ((rd_T37 l0 x16_1).f1))) (fun _ hk => hk.2) (.int .i64 ((rd_T37 l0 x16_1).f2))) (fun _ hk => trivial)⟩
            have n1_ : Aside0 ((((w22.setCell ⟨gb7271, 0, none⟩ (.int .i64 ((rd_T37 l0 x16_1).f0))).setCell ⟨gb7271, 1, none⟩ (.int .i64 ((rd_T37 l0 x16_1).f1))).setCell ⟨gb7271, 2, none⟩ (.int .i64 ((rd_T37 l0 x16_1).f2))).heap[gb7271]? = some (.cells #[.int .i64 ((rd_T37 l0 x16_1).f0), .int .i64 ((rd_T37 l0 x16_1).f1), .int .i64 ((rd_T37 l0 x16_1).f2)] 37 (0, 0))) := ⟨by (with_reducible repeat (first | refine blk_drewN ?_ _ | refine blk_drew ?_ | refine blk_alloc ?_ _)); refine blk_put (cs := #[.int .i64 ((rd_T37 l0 x16_1).f0), .int .i64 ((rd_T37 l0 x16_1).f1), .int .i64 0]) ?_ 2 _ rfl; (with_reducible repeat (first | refine blk_drewN ?_ _ | refine blk_drew ?_ | refine blk_alloc ?_ _)); refine blk_put (cs := #[.int .i64 ((rd_T37 l0 x16_1).f0), .int .i64 0, .int .i64 0]) ?_ 1 _ rfl; (with_reducible repeat (first | refine blk_drewN ?_ _ | refine blk_drew ?_ | refine blk_alloc ?_ _)); refine blk_put (cs := #[.int .i64 0, .int .i64 0, .int .i64 0]) ?_ 0 _ rfl; (with_reducible repeat (first | refine blk_drewN ?_ _ | refine blk_drew ?_ | refine blk_alloc ?_ _)); exact BK7271.out⟩
            have n2_ : Aside0 (Below w.heap.size w (((w22.setCell ⟨gb7271, 0, none⟩ (.int .i64 ((rd_T37 l0 x16_1).f0))).setCell ⟨gb7271, 1, none⟩ (.int .i64 ((rd_T37 l0 x16_1).f1))).setCell ⟨gb7271, 2, none⟩ (.int .i64 ((rd_T37 l0 x16_1).f2)))) := ⟨by repeat (first | (with_reducible first | exact HB.out | apply below_alloc | apply pw_below_drewN | apply below_drew1 | refine below_set ?_ GE7271.out) | exact HB.out)⟩
            (try clear HO_5)
            (try clear BK7271)
            (try clear HB)
            generalize (((w22.setCell ⟨gb7271, 0, none⟩ (.int .i64 ((rd_T37 l0 x16_1).f0))).setCell ⟨gb7271, 1, none⟩ (.int .i64 ((rd_T37 l0 x16_1).f1))).setCell ⟨gb7271, 2, none⟩ (.int .i64 ((rd_T37 l0 x16_1).f2))) = w25 at n0_ n1_ n2_ ⊢
            have HO_5 := n0_
            have BK7271 := n1_
            have HB := n2_
            clear n0_ n1_ n2_
            have n0_ := Aside0.mk (Kd.R_drew HO_5.out)
            have n1_ := Aside0.mk (blk_drew BK7271.out)
            have n2_ := Aside0.mk (below_drew1 HB.out)
            clear HO_5
            clear BK7271
            clear HB
            have HO_5 := n0_
            have BK7271 := n1_
            have HB := n2_
            clear n0_ n1_ n2_
            have p7272 : 0 ≤ ((ji9) : Int) := of_decide_eq_true (by first | (with_reducible assumption) | assumption)
            have q7272 : (ji9) < (x5_1.length : Int) := of_decide_eq_true (by first | (with_reducible assumption) | assumption)
            obtain ⟨ad7272, e7272, hx7272_0, hx7272_1⟩ := at_T39 (Kd.R_reads' HO_5.out).2.2 (ji9) p7272 q7272
            cases e7272
            replace p7272 := eq_true p7272
            replace q7272 := eq_true q7272
            refine start_ (n := 13) (S := fun w' => w'.cell? ⟨gb7271, 0, none⟩ = some (.int .i64 ((rd_T37 l0 x16_1).f0)) ∧ w'.cell? ⟨gb7271, 1, none⟩ = some (.int .i64 ((rd_T37 l0 x16_1).f1)) ∧ w'.cell? ⟨gb7271, 2, none⟩ = some (.int .i64 ((rd_T37 l0 x16_1).f2)) ∧ w'.cell? (ad7272.add (((ji9)).toNat * 2)) = some (.int .i64 ((rd_T39 x5_1 (ji9)).f0)) ∧ w'.cell? ⟨(ad7272.add (((ji9)).toNat * 2)).block, (ad7272.add (((ji9)).toNat * 2)).off + 1, none⟩ = some (.int .i64 ((rd_T39 x5_1 (ji9)).f1))) (ds := []) #[false, false, false, false, false, false, false, false, false, false, false, false, false] (by kernel_rfl) rfl rfl ⟨(blk_cell BK7271.out 0).trans rfl, (blk_cell BK7271.out 1).trans rfl, (blk_cell BK7271.out 2).trans rfl, hx7272_0, hx7272_1⟩ (fun hHeld => ?_); refine with_tabW caulkref40_Runs.tab9 caulkref40_Runs.bits9 (fun HT_ HW_ => ?_)
            generalize w25.drew = w26 at HO_5 BK7271 HB hx7272_0 hx7272_1 hHeld ⊢
            refine pure_ (i := 0) (N := some 22) (v := ?_) (a' := ?_) #[true, false, false, false, false, false, false, false, false, false, false, false, false] rfl rfl (any_of HT_.out (by kernel_rfl)) (fun _ _ _ h => h) (Or.inl ⟨by rfl, ?_⟩) ?_ ?_
            rotate_left
            ·intro w'
             go_simp
             with_reducible rfl
            rotate_left
            ·simp only [Act.put, List.setIfInBounds_toArray, List.set_cons_zero, List.set_cons_succ, i64_w, i32_w]
             rfl
            refine pure_ (i := 1) (N := some 23) (v := ?_) (a' := ?_) #[true, true, false, false, false, false, false, false, false, false, false, false, false] rfl rfl (any_of HT_.out (by kernel_rfl)) (fun _ _ _ h => h) (Or.inl ⟨by rfl, ?_⟩) ?_ ?_
            rotate_left
            ·intro w'
             go_simp
             with_reducible rfl
            rotate_left
            ·simp only [Act.put, List.setIfInBounds_toArray, List.set_cons_zero, List.set_cons_succ, i64_w, i32_w]
             rfl
            refine pure_ (i := 2) (N := some 24) (v := ?_) (a' := ?_) #[true, true, true, false, false, false, false, false, false, false, false, false, false] rfl rfl (any_of HT_.out (by kernel_rfl)) (fun _ _ _ h => h) (Or.inl ⟨by rfl, ?_⟩) ?_ ?_
            rotate_left
            ·intro w'
             go_simp
             with_reducible rfl
            rotate_left
            ·simp only [Act.put, List.setIfInBounds_toArray, List.set_cons_zero, List.set_cons_succ, i64_w, i32_w]
             rfl
            refine pure_ (i := 3) (N := some 25) (v := ?_) (a' := ?_) #[true, true, true, true, false, false, false, false, false, false, false, false, false] rfl rfl (any_of HT_.out (by kernel_rfl)) (fun _ _ _ h => h) (Or.inl ⟨by rfl, ?_⟩) ?_ ?_
            rotate_left
            ·intro w'
             go_simp
             with_reducible rfl
            rotate_left
            ·simp only [Act.put, List.setIfInBounds_toArray, List.set_cons_zero, List.set_cons_succ, i64_w, i32_w]
             rfl
            refine pure_ (i := 4) (N := some 26) (v := ?_) (a' := ?_) #[true, true, true, true, true, false, false, false, false, false, false, false, false] rfl rfl (any_of HT_.out (by kernel_rfl)) (fun _ _ _ h => h) (Or.inl ⟨by rfl, ?_⟩) ?_ ?_
            rotate_left
            ·intro w'
             go_simp
             with_reducible rfl
            rotate_left
            ·simp only [Act.put, List.setIfInBounds_toArray, List.set_cons_zero, List.set_cons_succ, i64_w, i32_w]
             rfl
            refine pure_ (i := 5) (N := some 27) (v := ?_) (a' := ?_) #[true, true, true, true, true, true, false, false, false, false, false, false, false] rfl rfl (any_of HT_.out (by kernel_rfl)) (fun _ _ _ h => h) (Or.inl ⟨by rfl, ?_⟩) ?_ ?_
            rotate_left
            ·intro w'
             go_simp
             with_reducible rfl
            rotate_left
            ·simp only [Act.put, List.setIfInBounds_toArray, List.set_cons_zero, List.set_cons_succ, i64_w, i32_w]
             rfl
            refine pure_ (i := 6) (N := some 28) (v := ?_) (a' := ?_) #[true, true, true, true, true, true, true, false, false, false, false, false, false] rfl rfl (any_of HT_.out (by kernel_rfl)) (fun _ _ _ h => h) (Or.inl ⟨by rfl, ?_⟩) ?_ ?_
            rotate_left
            ·intro w'
             go_simp
             with_reducible rfl
            rotate_left
            ·simp only [Act.put, List.setIfInBounds_toArray, List.set_cons_zero, List.set_cons_succ, i64_w, i32_w]
             rfl
            refine pure_ (i := 7) (N := some 29) (v := ?_) (a' := ?_) #[true, true, true, true, true, true, true, true, false, false, false, false, false] rfl rfl (any_of HT_.out (by kernel_rfl)) (fun _ _ _ h => h) (Or.inl ⟨by rfl, ?_⟩) ?_ ?_
            rotate_left
            ·intro w'
             go_simp
             with_reducible rfl
            rotate_left
            ·simp only [Act.put, List.setIfInBounds_toArray, List.set_cons_zero, List.set_cons_succ, i64_w, i32_w]
             rfl
            refine pure_ (i := 9) (N := some 31) (v := ?_) (a' := ?_) #[true, true, true, true, true, true, true, true, false, true, false, false, false] rfl rfl (any_of HT_.out (by kernel_rfl)) (fun _ _ _ h => h) (Or.inl ⟨by rfl, ?_⟩) ?_ ?_
            rotate_left
            ·intro w'
             go_simp
             with_reducible rfl
            rotate_left
            ·simp only [Act.put, List.setIfInBounds_toArray, List.set_cons_zero, List.set_cons_succ, i64_w, i32_w]
             rfl
            refine take_ (i := 8) (N := some 30) (v := ?_) (a' := ?_) #[true, true, true, true, true, true, true, true, true, true, false, false, false] rfl rfl (take_ofW HT_.out HW_.out (by kernel_rfl)) (fun _ _ _ h => h) (Or.inl ⟨by rfl, ?_⟩) hHeld ?_ ?_
            rotate_left
            ·rintro w' ⟨s0, s1, s2, s3, s4⟩
             go_simp
             with_reducible rfl
            rotate_left
            ·simp only [Act.put, List.setIfInBounds_toArray, List.set_cons_zero, List.set_cons_succ, i64_w, i32_w]
             rfl
            refine take_ (i := 10) (N := some 32) (v := ?_) (a' := ?_) #[true, true, true, true, true, true, true, true, true, true, true, false, false] rfl rfl (take_ofW HT_.out HW_.out (by kernel_rfl)) (fun _ _ _ h => h) (Or.inl ⟨by rfl, ?_⟩) hHeld ?_ ?_
            rotate_left
            ·rintro w' ⟨s0, s1, s2, s3, s4⟩
             go_simp
             with_reducible rfl
            rotate_left
            ·simp only [Act.put, List.setIfInBounds_toArray, List.set_cons_zero, List.set_cons_succ, i64_w, i32_w]
             rfl
            refine pure_ (i := 11) (N := some 33) (v := ?_) (a' := ?_) #[true, true, true, true, true, true, true, true, true, true, true, true, false] rfl rfl (any_of HT_.out (by kernel_rfl)) (fun _ _ _ h => h) (Or.inl ⟨by rfl, ?_⟩) ?_ ?_
            rotate_left
            ·intro w'
             go_simp
             with_reducible rfl
            rotate_left
            ·simp only [Act.put, List.setIfInBounds_toArray, List.set_cons_zero, List.set_cons_succ, i64_w, i32_w]
             rfl
            refine pure_ (i := 12) (N := some 34) (v := ?_) (a' := ?_) #[true, true, true, true, true, true, true, true, true, true, true, true, true] rfl rfl (any_of HT_.out (by kernel_rfl)) (fun _ _ _ h => h) (Or.inl ⟨by rfl, ?_⟩) ?_ ?_
            rotate_left
            ·intro w'
             go_simp
             with_reducible rfl
            rotate_left
            ·simp only [Act.put, List.setIfInBounds_toArray, List.set_cons_zero, List.set_cons_succ, i64_w, i32_w]
             rfl
            refine done_ (done_of HT_.out (by kernel_rfl)) ?_
            have hcz27_0 : w26.cell? ⟨gb7271, 0, none⟩ = some (.int .i64 ((rd_T37 l0 x16_1).f0)) := (blk_cell BK7271.out 0).trans rfl
            have hcz27_1 : w26.cell? ⟨gb7271, 1, none⟩ = some (.int .i64 ((rd_T37 l0 x16_1).f1)) := (blk_cell BK7271.out 1).trans rfl
            have hcz27_2 : w26.cell? ⟨gb7271, 2, none⟩ = some (.int .i64 ((rd_T37 l0 x16_1).f2)) := (blk_cell BK7271.out 2).trans rfl
            have hfz27_0 := blk_frozen BK7271.out 0
            have hfz27_1 := blk_frozen BK7271.out 1
            have hfz27_2 := blk_frozen BK7271.out 2
            try go_wp2_with (first | ((with_reducible refine HOpen.gate_append ?_); simp only [List.cons_append, List.nil_append]) | ((with_reducible refine gate_builtin (b := .append) (xs := #[.tmp 46, .tmp 55]) rfl ?_); at_builtin; refine Kd.R_append k39 (w0 := w) w.heap.size rfl (.tmp 46) (.tmp 55) 27 39 (.agg #[(.int .i64 0), (.int .i64 0)]) 16 rfl Try.underlying27 info39 rfl (by decide) (by omega) (.slice (some ad7272) x5_1.length co24) x5_1 (⟨(rd_T37 l0 x16_1).f0, wrap64 (((rd_T37 l0 x16_1).f0) + ((rd_T37 l0 x16_1).f1))⟩ : S39) [.int .i64 ((rd_T37 l0 x16_1).f0), .int .i64 (wrap64 (((rd_T37 l0 x16_1).f0) + ((rd_T37 l0 x16_1).f1)))] (fun _ => True) (fun _ => False) rfl rfl ?aP (fun _ hk => hk.elim) ?aF ?aO ?aB ?aS ?aL ?_; (case aP => exact k39_mkM _ _ _ (⟨(rd_T37 l0 x16_1).f0, wrap64 (((rd_T37 l0 x16_1).f0) + ((rd_T37 l0 x16_1).f1))⟩ : S39)); (case aB => exact (by repeat (first | (with_reducible first | exact HB.out | apply below_alloc | apply pw_below_drewN | apply below_drew1 | refine below_set ?_ GE7271.out) | exact HB.out))); (case aF => exact (fun _ _ => trivial)); (case aO => exact (by (with_reducible repeat (first | apply Kd.R_alloc | apply Kd.R_drewN | apply Kd.R_drew)); exact HO_5.out)); (case aS => exact (below_size (by repeat (first | (with_reducible first | exact HB.out | apply below_alloc | apply pw_below_drewN | apply below_drew1 | refine below_set ?_ GE7271.out) | exact HB.out)))); (case aL => have := LMc21.out; omega); intro v7276 w28 ho hb hg hat; rw [← Ny7275.out] at ho; have n0_ := Aside0.mk (blk_grown (g := gb7271) (o := .cells #[.int .i64 ((rd_T37 l0 x16_1).f0), .int .i64 ((rd_T37 l0 x16_1).f1), .int .i64 ((rd_T37 l0 x16_1).f2)] 37 (0, 0)) (by (with_reducible repeat (first | refine blk_drewN ?_ _ | refine blk_drew ?_ | refine blk_alloc ?_ _)); exact BK7271.out) hg (Kd.R_ne HO_5.out BK7271.out (by decide))); have n1_ := Aside0.mk (hb); have n2_ := Aside0.mk (ho); clear BK7271; clear HB; clear HO_5; have BK7271 := n0_; have HB := n1_; have HO7277 := n2_; clear n0_ n1_ n2_; clear ho hb hg hat))
            go_roundg k1
            case measure => have := HK1.out; omega
            case rel => exact ⟨(y7275), (wrap64 (x16_1 + 1)), (by first | rfl | (simp; done) | (simp [*]; done)), H', ⟨by have := HK1.out; omega⟩, ⟨by (with_reducible repeat (first | apply Kd.R_alloc | apply Kd.R_drewN | apply Kd.R_drew)); exact HO7277.out⟩, ⟨by repeat (first | (with_reducible first | exact HB.out | apply below_alloc | apply pw_below_drewN | apply below_drew1 | refine below_set ?_ GE7271.out) | exact HB.out)⟩⟩
           ·rw [if_neg c21] at H
            exact absurd H (by simp)
         ·rw [if_neg c11] at H
          exact absurd H (by simp)
        ·rw [if_neg c10] at H
         exact absurd H (by simp)
       ·rw [if_neg c8] at H
        have c8b0 : decide (0 < (x5_1.length : Int)) = false := decide_eq_false c8
        have c8b1 : decide (0 < x5_1.length) = false := decide_eq_false (by omega)
        clear c8
        by_cases c29 : x5_1.length < 8796093022208
        ·rw [if_pos c29] at H
         have LMc29 := Aside0.mk c29
         clear c29
         obtain ⟨y7278, hy7278⟩ : ∃ y_ : List (S39), y_ = (x5_1 ++ [(⟨(rd_T37 l0 x16_1).f0, wrap64 (((rd_T37 l0 x16_1).f0) + ((rd_T37 l0 x16_1).f1))⟩ : S39)]) := ⟨_, rfl⟩
         replace H : (caulkref40_Runs.l0 k1 y7278 l0 (l0.length : Int) (wrap64 (x16_1 + 1))) = some (r1, r2) := by first | (rw [hy7278]; with_reducible exact H) | (have H2_ := (Option.bind_some _ _).symm.trans H; rw [hy7278]; with_reducible exact H2_) | (have H2_ := (Option.bind_some _ _).symm.trans H; with_reducible exact H2_) | with_reducible exact H | (rw [hy7278]; exact H) | exact H
         have Ny7278 := Aside0.mk hy7278
         clear hy7278
         have H' := Aside0.mk H
         clear H
         have p7270 : 0 ≤ (x16_1 : Int) := of_decide_eq_true (by first | (with_reducible assumption) | assumption)
         have q7270 : x16_1 < (l0.length : Int) := of_decide_eq_true (by first | (with_reducible assumption) | assumption)
         obtain ⟨ad7270, e7270, hx7270_0, hx7270_1, hx7270_2⟩ := at_T37 HR0.out x16_1 p7270 q7270
         cases e7270
         replace hx7270_0 := (HB.out.cell (World.block_lt_of_cell? w _ hx7270_0)).trans hx7270_0
         replace hx7270_1 := (HB.out.cell (World.block_lt_of_cell? w _ hx7270_1)).trans hx7270_1
         replace hx7270_2 := (HB.out.cell (World.block_lt_of_cell? w _ hx7270_2)).trans hx7270_2
         replace p7270 := eq_true p7270
         replace q7270 := eq_true q7270
         try go_wp2_with (first | ((with_reducible refine HOpen.gate_append ?_); simp only [List.cons_append, List.nil_append]) | ((with_reducible refine gate_dst (N := 7) rfl ?_); refine box_event ?hg (N := 7) ?hd (cs := #[.int .i64 0, .int .i64 0, .int .i64 0]) (t := 37) ?hr ?_; (case hd => rfl); (case hg => rfl); (case hr => first | (go_simp; done) | (go_simp; rfl)); intro gb7271 hg w30 hbox hb; have n0_ := Aside0.mk (Kd.R_below (by (with_reducible repeat (first | apply Kd.R_alloc | apply Kd.R_drewN | apply Kd.R_drew)); exact HO_5.out) hb); have n1_ := Aside0.mk (below_step (by repeat (first | (with_reducible first | exact HB.out | apply below_alloc | apply pw_below_drewN | apply below_drew1) | exact HB.out)) hb); have n2_ := Aside0.mk (hbox); have n3_ := Aside0.mk ((by rw [hg]; exact (below_size (by repeat (first | (with_reducible first | exact HB.out | apply below_alloc | apply pw_below_drewN | apply below_drew1) | exact HB.out))) : w.heap.size ≤ gb7271)); have n4_ := Aside0.mk ((by rw [hg]; exact (below_size (by repeat (first | (with_reducible first | exact HB.out | apply below_alloc | apply pw_below_drewN | apply below_drew1) | exact HB.out))) : w.heap.size ≤ gb7271)); clear HO_5; clear HB; have HO_5 := n0_; have HB := n1_; have BK7271 := n2_; have GW7271 := n3_; have GE7271 := n4_; clear n0_ n1_ n2_ n3_ n4_; clear hb hbox hg; have hcz31_0 : w30.cell? ⟨gb7271, 0, none⟩ = some (.int .i64 0) := (blk_cell BK7271.out 0).trans rfl; have hcz31_1 : w30.cell? ⟨gb7271, 1, none⟩ = some (.int .i64 0) := (blk_cell BK7271.out 1).trans rfl; have hcz31_2 : w30.cell? ⟨gb7271, 2, none⟩ = some (.int .i64 0) := (blk_cell BK7271.out 2).trans rfl; have hfz31_0 := blk_frozen BK7271.out 0; have hfz31_1 := blk_frozen BK7271.out 1; have hfz31_2 := blk_frozen BK7271.out 2; obtain ⟨Ao32, co32, eo32⟩ := Kd.R_slice HO_5.out; subst eo32))
         have n0_ : Aside0 (Kd.R k39 39 (((w30.setCell ⟨gb7271, 0, none⟩ (.int .i64 ((rd_T37 l0 x16_1).f0))).setCell ⟨gb7271, 1, none⟩ (.int .i64 ((rd_T37 l0 x16_1).f1))).setCell ⟨gb7271, 2, none⟩ (.int .i64 ((rd_T37 l0 x16_1).f2))) w.heap.size (fun _ => True) (.slice Ao32 x5_1.length co32) x5_1) := ⟨by (with_reducible repeat (first | apply Kd.R_alloc | apply Kd.R_drewN | apply Kd.R_drew)); exact Kd.R_mono (Kd.R_far (p := ⟨gb7271, 2, none⟩) (Kd.R_far (p := ⟨gb7271, 1, none⟩) (Kd.R_far (p := ⟨gb7271, 0, none⟩) (Kd.R_types HO_5.out BK7271.out (by decide)) (fun _ hk => hk.2) (.int .i64 ((rd_T37 l0 x16_1).f0))) (fun _ hk => hk.2) (.int .i64 ((rd_T37 l0 x16_1).f1))) (fun _ hk => hk.2) (.int .i64 ((rd_T37 l0 x16_1).f2))) (fun _ hk => trivial)⟩
         have n1_ : Aside0 ((((w30.setCell ⟨gb7271, 0, none⟩ (.int .i64 ((rd_T37 l0 x16_1).f0))).setCell ⟨gb7271, 1, none⟩ (.int .i64 ((rd_T37 l0 x16_1).f1))).setCell ⟨gb7271, 2, none⟩ (.int .i64 ((rd_T37 l0 x16_1).f2))).heap[gb7271]? = some (.cells #[.int .i64 ((rd_T37 l0 x16_1).f0), .int .i64 ((rd_T37 l0 x16_1).f1), .int .i64 ((rd_T37 l0 x16_1).f2)] 37 (0, 0))) := ⟨by (with_reducible repeat (first | refine blk_drewN ?_ _ | refine blk_drew ?_ | refine blk_alloc ?_ _)); refine blk_put (cs := #[.int .i64 ((rd_T37 l0 x16_1).f0), .int .i64 ((rd_T37 l0 x16_1).f1), .int .i64 0]) ?_ 2 _ rfl; (with_reducible repeat (first | refine blk_drewN ?_ _ | refine blk_drew ?_ | refine blk_alloc ?_ _)); refine blk_put (cs := #[.int .i64 ((rd_T37 l0 x16_1).f0), .int .i64 0, .int .i64 0]) ?_ 1 _ rfl; (with_reducible repeat (first | refine blk_drewN ?_ _ | refine blk_drew ?_ | refine blk_alloc ?_ _)); refine blk_put (cs := #[.int .i64 0, .int .i64 0, .int .i64 0]) ?_ 0 _ rfl; (with_reducible repeat (first | refine blk_drewN ?_ _ | refine blk_drew ?_ | refine blk_alloc ?_ _)); exact BK7271.out⟩
         have n2_ : Aside0 (Below w.heap.size w (((w30.setCell ⟨gb7271, 0, none⟩ (.int .i64 ((rd_T37 l0 x16_1).f0))).setCell ⟨gb7271, 1, none⟩ (.int .i64 ((rd_T37 l0 x16_1).f1))).setCell ⟨gb7271, 2, none⟩ (.int .i64 ((rd_T37 l0 x16_1).f2)))) := ⟨by repeat (first | (with_reducible first | exact HB.out | apply below_alloc | apply pw_below_drewN | apply below_drew1 | refine below_set ?_ GE7271.out) | exact HB.out)⟩
         (try clear HO_5)
         (try clear BK7271)
         (try clear HB)
         generalize (((w30.setCell ⟨gb7271, 0, none⟩ (.int .i64 ((rd_T37 l0 x16_1).f0))).setCell ⟨gb7271, 1, none⟩ (.int .i64 ((rd_T37 l0 x16_1).f1))).setCell ⟨gb7271, 2, none⟩ (.int .i64 ((rd_T37 l0 x16_1).f2))) = w33 at n0_ n1_ n2_ ⊢
         have HO_5 := n0_
         have BK7271 := n1_
         have HB := n2_
         clear n0_ n1_ n2_
         have n0_ := Aside0.mk (Kd.R_drew HO_5.out)
         have n1_ := Aside0.mk (blk_drew BK7271.out)
         have n2_ := Aside0.mk (below_drew1 HB.out)
         clear HO_5
         clear BK7271
         clear HB
         have HO_5 := n0_
         have BK7271 := n1_
         have HB := n2_
         clear n0_ n1_ n2_
         refine start_ (n := 13) (S := fun w' => True) (ds := []) #[false, false, false, false, false, false, false, false, false, false, false, false, false] (by kernel_rfl) rfl rfl trivial (fun hHeld => ?_); refine with_tabW caulkref40_Runs.tab9 caulkref40_Runs.bits9 (fun HT_ HW_ => ?_)
         generalize w33.drew = w34 at HO_5 BK7271 HB hHeld ⊢
         refine pure_ (i := 0) (N := some 22) (v := ?_) (a' := ?_) #[true, false, false, false, false, false, false, false, false, false, false, false, false] rfl rfl (any_of HT_.out (by kernel_rfl)) (fun _ _ _ h => h) (Or.inl ⟨by rfl, ?_⟩) ?_ ?_
         rotate_left
         ·intro w'
          go_simp
          with_reducible rfl
         rotate_left
         ·simp only [Act.put, List.setIfInBounds_toArray, List.set_cons_zero, List.set_cons_succ, i64_w, i32_w]
          rfl
         refine pure_ (i := 1) (N := some 23) (v := ?_) (a' := ?_) #[true, true, false, false, false, false, false, false, false, false, false, false, false] rfl rfl (any_of HT_.out (by kernel_rfl)) (fun _ _ _ h => h) (Or.inl ⟨by rfl, ?_⟩) ?_ ?_
         rotate_left
         ·intro w'
          go_simp
          with_reducible rfl
         rotate_left
         ·simp only [Act.put, List.setIfInBounds_toArray, List.set_cons_zero, List.set_cons_succ, i64_w, i32_w]
          rfl
         refine pure_ (i := 2) (N := some 24) (v := ?_) (a' := ?_) #[true, true, true, false, false, false, false, false, false, false, false, false, false] rfl rfl (any_of HT_.out (by kernel_rfl)) (fun _ _ _ h => h) (Or.inl ⟨by rfl, ?_⟩) ?_ ?_
         rotate_left
         ·intro w'
          go_simp
          with_reducible rfl
         rotate_left
         ·simp only [Act.put, List.setIfInBounds_toArray, List.set_cons_zero, List.set_cons_succ, i64_w, i32_w]
          rfl
         refine pure_ (i := 3) (N := some 25) (v := undef) (a' := ?_) #[true, true, true, true, false, false, false, false, false, false, false, false, false] rfl rfl (any_of HT_.out (by kernel_rfl)) (fun _ _ _ h => h) (Or.inr ⟨by rfl, rfl⟩) ?_ ?_
         rotate_left
         ·simp only [Act.put, List.setIfInBounds_toArray, List.set_cons_zero, List.set_cons_succ, i64_w, i32_w]
          rfl
         refine pure_ (i := 4) (N := some 26) (v := undef) (a' := ?_) #[true, true, true, true, true, false, false, false, false, false, false, false, false] rfl rfl (any_of HT_.out (by kernel_rfl)) (fun _ _ _ h => h) (Or.inr ⟨by rfl, rfl⟩) ?_ ?_
         rotate_left
         ·simp only [Act.put, List.setIfInBounds_toArray, List.set_cons_zero, List.set_cons_succ, i64_w, i32_w]
          rfl
         refine pure_ (i := 5) (N := some 27) (v := undef) (a' := ?_) #[true, true, true, true, true, true, false, false, false, false, false, false, false] rfl rfl (any_of HT_.out (by kernel_rfl)) (fun _ _ _ h => h) (Or.inr ⟨by rfl, rfl⟩) ?_ ?_
         rotate_left
         ·simp only [Act.put, List.setIfInBounds_toArray, List.set_cons_zero, List.set_cons_succ, i64_w, i32_w]
          rfl
         refine pure_ (i := 6) (N := some 28) (v := undef) (a' := ?_) #[true, true, true, true, true, true, true, false, false, false, false, false, false] rfl rfl (any_of HT_.out (by kernel_rfl)) (fun _ _ _ h => h) (Or.inr ⟨by rfl, rfl⟩) ?_ ?_
         rotate_left
         ·simp only [Act.put, List.setIfInBounds_toArray, List.set_cons_zero, List.set_cons_succ, i64_w, i32_w]
          rfl
         refine pure_ (i := 7) (N := some 29) (v := undef) (a' := ?_) #[true, true, true, true, true, true, true, true, false, false, false, false, false] rfl rfl (any_of HT_.out (by kernel_rfl)) (fun _ _ _ h => h) (Or.inr ⟨by rfl, rfl⟩) ?_ ?_
         rotate_left
         ·simp only [Act.put, List.setIfInBounds_toArray, List.set_cons_zero, List.set_cons_succ, i64_w, i32_w]
          rfl
         refine pure_ (i := 8) (N := some 30) (v := undef) (a' := ?_) #[true, true, true, true, true, true, true, true, true, false, false, false, false] rfl rfl (any_of HT_.out (by kernel_rfl)) (fun _ _ _ h => h) (Or.inr ⟨by rfl, rfl⟩) ?_ ?_
         rotate_left
         ·simp only [Act.put, List.setIfInBounds_toArray, List.set_cons_zero, List.set_cons_succ, i64_w, i32_w]
          rfl
         refine pure_ (i := 9) (N := some 31) (v := undef) (a' := ?_) #[true, true, true, true, true, true, true, true, true, true, false, false, false] rfl rfl (any_of HT_.out (by kernel_rfl)) (fun _ _ _ h => h) (Or.inr ⟨by rfl, rfl⟩) ?_ ?_
         rotate_left
         ·simp only [Act.put, List.setIfInBounds_toArray, List.set_cons_zero, List.set_cons_succ, i64_w, i32_w]
          rfl
         refine pure_ (i := 10) (N := some 32) (v := undef) (a' := ?_) #[true, true, true, true, true, true, true, true, true, true, true, false, false] rfl rfl (any_of HT_.out (by kernel_rfl)) (fun _ _ _ h => h) (Or.inr ⟨by rfl, rfl⟩) ?_ ?_
         rotate_left
         ·simp only [Act.put, List.setIfInBounds_toArray, List.set_cons_zero, List.set_cons_succ, i64_w, i32_w]
          rfl
         refine pure_ (i := 11) (N := some 33) (v := undef) (a' := ?_) #[true, true, true, true, true, true, true, true, true, true, true, true, false] rfl rfl (any_of HT_.out (by kernel_rfl)) (fun _ _ _ h => h) (Or.inr ⟨by rfl, rfl⟩) ?_ ?_
         rotate_left
         ·simp only [Act.put, List.setIfInBounds_toArray, List.set_cons_zero, List.set_cons_succ, i64_w, i32_w]
          rfl
         refine pure_ (i := 12) (N := some 34) (v := ?_) (a' := ?_) #[true, true, true, true, true, true, true, true, true, true, true, true, true] rfl rfl (any_of HT_.out (by kernel_rfl)) (fun _ _ _ h => h) (Or.inl ⟨by rfl, ?_⟩) ?_ ?_
         rotate_left
         ·intro w'
          go_simp
          with_reducible rfl
         rotate_left
         ·simp only [Act.put, List.setIfInBounds_toArray, List.set_cons_zero, List.set_cons_succ, i64_w, i32_w]
          rfl
         refine done_ (done_of HT_.out (by kernel_rfl)) ?_
         have hcz35_0 : w34.cell? ⟨gb7271, 0, none⟩ = some (.int .i64 ((rd_T37 l0 x16_1).f0)) := (blk_cell BK7271.out 0).trans rfl
         have hcz35_1 : w34.cell? ⟨gb7271, 1, none⟩ = some (.int .i64 ((rd_T37 l0 x16_1).f1)) := (blk_cell BK7271.out 1).trans rfl
         have hcz35_2 : w34.cell? ⟨gb7271, 2, none⟩ = some (.int .i64 ((rd_T37 l0 x16_1).f2)) := (blk_cell BK7271.out 2).trans rfl
         have hfz35_0 := blk_frozen BK7271.out 0
         have hfz35_1 := blk_frozen BK7271.out 1
         have hfz35_2 := blk_frozen BK7271.out 2
         try go_wp2_with (first | ((with_reducible refine HOpen.gate_append ?_); simp only [List.cons_append, List.nil_append]) | ((with_reducible refine gate_builtin (b := .append) (xs := #[.tmp 46, .tmp 55]) rfl ?_); at_builtin; refine Kd.R_append k39 (w0 := w) w.heap.size rfl (.tmp 46) (.tmp 55) 27 39 (.agg #[(.int .i64 0), (.int .i64 0)]) 16 rfl Try.underlying27 info39 rfl (by decide) (by omega) (.slice Ao32 x5_1.length co32) x5_1 (⟨(rd_T37 l0 x16_1).f0, wrap64 (((rd_T37 l0 x16_1).f0) + ((rd_T37 l0 x16_1).f1))⟩ : S39) [.int .i64 ((rd_T37 l0 x16_1).f0), .int .i64 (wrap64 (((rd_T37 l0 x16_1).f0) + ((rd_T37 l0 x16_1).f1)))] (fun _ => True) (fun _ => False) rfl rfl ?aP (fun _ hk => hk.elim) ?aF ?aO ?aB ?aS ?aL ?_; (case aP => exact k39_mkM _ _ _ (⟨(rd_T37 l0 x16_1).f0, wrap64 (((rd_T37 l0 x16_1).f0) + ((rd_T37 l0 x16_1).f1))⟩ : S39)); (case aB => exact (by repeat (first | (with_reducible first | exact HB.out | apply below_alloc | apply pw_below_drewN | apply below_drew1 | refine below_set ?_ GE7271.out) | exact HB.out))); (case aF => exact (fun _ _ => trivial)); (case aO => exact (by (with_reducible repeat (first | apply Kd.R_alloc | apply Kd.R_drewN | apply Kd.R_drew)); exact HO_5.out)); (case aS => exact (below_size (by repeat (first | (with_reducible first | exact HB.out | apply below_alloc | apply pw_below_drewN | apply below_drew1 | refine below_set ?_ GE7271.out) | exact HB.out)))); (case aL => have := LMc29.out; omega); intro v7279 w36 ho hb hg hat; rw [← Ny7278.out] at ho; have n0_ := Aside0.mk (blk_grown (g := gb7271) (o := .cells #[.int .i64 ((rd_T37 l0 x16_1).f0), .int .i64 ((rd_T37 l0 x16_1).f1), .int .i64 ((rd_T37 l0 x16_1).f2)] 37 (0, 0)) (by (with_reducible repeat (first | refine blk_drewN ?_ _ | refine blk_drew ?_ | refine blk_alloc ?_ _)); exact BK7271.out) hg (Kd.R_ne HO_5.out BK7271.out (by decide))); have n1_ := Aside0.mk (hb); have n2_ := Aside0.mk (ho); clear BK7271; clear HB; clear HO_5; have BK7271 := n0_; have HB := n1_; have HO7280 := n2_; clear n0_ n1_ n2_; clear ho hb hg hat))
         go_roundg k1
         case measure => have := HK1.out; omega
         case rel => exact ⟨(y7278), (wrap64 (x16_1 + 1)), (by first | rfl | (simp; done) | (simp [*]; done)), H', ⟨by have := HK1.out; omega⟩, ⟨by (with_reducible repeat (first | apply Kd.R_alloc | apply Kd.R_drewN | apply Kd.R_drew)); exact HO7280.out⟩, ⟨by repeat (first | (with_reducible first | exact HB.out | apply below_alloc | apply pw_below_drewN | apply below_drew1 | refine below_set ?_ GE7271.out) | exact HB.out)⟩⟩
        ·rw [if_neg c29] at H
         exact absurd H (by simp)
      ·rw [if_neg c7] at H
       exact absurd H (by simp)
     ·rw [if_neg c6] at H
      exact absurd H (by simp)
    ·rw [if_neg c5] at H
     have c5b0 : decide (x16_1 < (l0.length : Int)) = false := decide_eq_false c5
     clear c5
     simp only [Option.some.injEq, Prod.mk.injEq] at H
     obtain ⟨rfl, rfl⟩ := H
     go_wp2
     go_ret2
     exact ⟨_, by first | rfl | (simp [errW_none, errW_some] <;> rfl) | (simp [*, errW_none, errW_some] <;> rfl), by (with_reducible repeat (first | apply Kd.R_alloc | apply Kd.R_drewN | apply Kd.R_drew)); exact HO_5.out, by repeat (first | (with_reducible first | exact HB.out | apply below_alloc | apply pw_below_drewN | apply below_drew1) | exact HB.out)⟩
 ·rw [if_neg c3] at H
  have c3b0 : (t7269 == 0) = false := beq_eq_false_iff_ne.mpr c3
  have c3b1 : (t7269 != 0) = true := bne_iff_ne.mpr c3
  simp only [Option.some.injEq, Prod.mk.injEq] at H
  obtain ⟨rfl, rfl⟩ := H
  go_enter Try.func17, Try.ntmps17
  go_wp2_with (first | ((with_reducible refine HOpen.gate_append ?_); simp only [List.cons_append, List.nil_append]) | ((with_reducible refine gate_callee (f := 21) rfl ?_); refine goesL_ (some 10) rfl rfl Try.func21 (by kernel_rfl) rfl #[.slice A0 l0.length c0] rfl (by (try simp only [List.map_toArray, List.map_cons, List.map_nil]); first | done | rfl | (simp only [List.length_drop, List.length_take]; rfl)) ?_; (with_reducible refine (caulkref40_Check.calls k _ _ l0 t7269 _ ?side1 ?side2 A2.out).mono ?_); (case side1 => repeat (first | exact HR0.out | (with_reducible refine Kd.C_alloc ?_ _) | (with_reducible refine Kd.C_drewN ?_ _) | (with_reducible refine Kd.C_drew ?_))); (case side2 => exact HC0.out); rintro e w37 ⟨rfl, hb⟩; refine ⟨_, rfl, ?_⟩; have n0_ := Aside0.mk (below_step (by repeat (first | (with_reducible first | exact HB.out | apply below_alloc | apply pw_below_drewN | apply below_drew1) | exact HB.out)) hb); clear HB; have HB := n0_; clear n0_; (try clear hb); (try clear hb2); (try clear hk); (try clear hi)))
  go_ret2
  exact ⟨_, by first | rfl | (simp [errW_none, errW_some] <;> rfl) | (simp [*, errW_none, errW_some] <;> rfl), by first | exact Kd.R_nil _ _ _ _ _ | exact Kd.N_nil _ _ _ _ _ | exact Kd.V_nil _ _ _ _ _ | exact Kd.Q_nil _ _ _ _ _ | exact Kd.S_nil _ _ _ _ _, by repeat (first | (with_reducible first | exact HB.out | apply below_alloc | apply pw_below_drewN | apply below_drew1) | exact HB.out)⟩

def caulkref40_Way.l0 : Nat → Int → Int → List (S37) → Int → Int → Option (Int × Int)
 | 0, _, _, _, _, _ => none
 | k + 1, x0, x7, x16, x17, x18 => if x18 < x17 then (if 0 ≤ x18 then (if x18 < (x16.length : Int) then (caulkref40_Way.l0 k (wrap64 (((rd_T37 x16 x18).f0) + ((rd_T37 x16 x18).f1))) (wrap64 (x7 + (wrap64 ((mx (wrap64 (((rd_T37 x16 x18).f0) - x0)) (wrap64 (x0 - ((rd_T37 x16 x18).f0)))) + ((rd_T37 x16 x18).f1))))) x16 x17 (wrap64 (x18 + 1))) else (none)) else (none)) else (some (x7, 0))
def caulkref40_Way.f (k : Nat) (a0 : Int) (l1 : List (S37)) : Option (Int × Int) := (caulkref40_ready.f k a0 l1).bind fun t7281 => (if t7281 = 0 then (caulkref40_Way.l0 k a0 0 l1 (l1.length : Int) 0) else (some (0, t7281)))
theorem caulkref40_Way.mono_l : ∀ k, (∀ y0 y1 y2 y3 y4, LeO (caulkref40_Way.l0 k y0 y1 y2 y3 y4) (caulkref40_Way.l0 (k + 1) y0 y1 y2 y3 y4))
 | 0 => fun _ _ _ _ _ r h => by simp [caulkref40_Way.l0] at h
 | k + 1 => by
  have ih0 := caulkref40_Way.mono_l k
  ·intro y0 y1 y2 y3 y4
   unfold caulkref40_Way.l0
   repeat' first
   | (with_reducible exact ih0 _ _ _ _ _)
   | (with_reducible exact caulkref40_ready.mono _ _ _)
   | (with_reducible exact LeO.refl _)
   | (with_reducible exact LeO.none _)
   | (with_reducible refine LeO.ite ?_ ?_)
   | (with_reducible refine LeO.bind ?_ (fun _ => ?_))
   | exact ih0 _ _ _ _ _
   | exact caulkref40_ready.mono _ _ _
   | exact LeO.none _
   | refine LeO.ite ?_ ?_
   | refine LeO.bind ?_ (fun _ => ?_)
theorem caulkref40_Way.mono : ∀ a0 a1 k, LeO (caulkref40_Way.f k a0 a1) (caulkref40_Way.f (k + 1) a0 a1) := by
 intro a0 a1 k
 have ih0 := caulkref40_Way.mono_l k
 unfold caulkref40_Way.f
 repeat' first
   | (with_reducible exact ih0 _ _ _ _ _)
   | (with_reducible exact caulkref40_ready.mono _ _ _)
   | (with_reducible exact LeO.refl _)
   | (with_reducible exact LeO.none _)
   | (with_reducible refine LeO.ite ?_ ?_)
   | (with_reducible refine LeO.bind ?_ (fun _ => ?_))
   | exact ih0 _ _ _ _ _
   | exact caulkref40_ready.mono _ _ _
   | exact LeO.none _
   | refine LeO.ite ?_ ?_
   | refine LeO.bind ?_ (fun _ => ?_)
set_option maxHeartbeats 8000000 in
set_option maxRecDepth 100000 in
theorem caulkref40_Way.calls (k : Nat) (a0 : Int) (A1 : Option Addr) (c1 : Nat) (l1 : List (S37)) (r1 : Int) (r2 : Int) (w : World) (hr1 : Kd.C k37 w A1 l1.length l1) (hc1 : l1.length ≤ c1) (h : caulkref40_Way.f k a0 l1 = some (r1, r2)) :
  Calls Try.prog 19 #[.int .i64 a0, .slice A1 l1.length c1] w fun e w' => e = .returned (.tuple #[.int .i64 r1, .int .i64 r2]) ∧ Below w.heap.size w w' := by
 have hu37 := Try.underlying37
 have HR1 := Aside0.mk hr1
 have HC1 := Aside0.mk hc1
 clear hr1 hc1
 have HB := Aside0.mk (Below.refl w.heap.size w)
 have H : ((caulkref40_ready.f k a0 l1).bind fun t7281 => (if t7281 = 0 then (caulkref40_Way.l0 k a0 0 l1 (l1.length : Int) 0) else (some (0, t7281)))) = some (r1, r2) := h
 clear h
 replace H := Option.bind_eq_some_iff.mp H
 obtain ⟨t7281, A30, H⟩ := H
 replace H : (if t7281 = 0 then (caulkref40_Way.l0 k a0 0 l1 (l1.length : Int) 0) else (some (0, t7281))) = some (r1, r2) := H
 have A3 := Aside0.mk A30
 clear A30
 by_cases c4 : t7281 = 0
 ·rw [if_pos c4] at H
  have c4b0 : (t7281 == 0) = true := beq_iff_eq.mpr c4
  have c4b1 : (t7281 != 0) = false := bne_eq_false_iff_eq.mpr c4
  clear c4
  have H' := Aside0.mk H
  clear H
  go_enter Try.func19, Try.ntmps19
  go_wp2_with (first | ((with_reducible refine HOpen.gate_append ?_); simp only [List.cons_append, List.nil_append]) | ((with_reducible refine gate_callee (f := 68) rfl ?_); refine goesL_ (some 12) rfl rfl Try.func68 (by kernel_rfl) rfl #[.int .i64 a0, .slice A1 l1.length c1] rfl (by (try simp only [List.map_toArray, List.map_cons, List.map_nil]); first | done | rfl | (simp only [List.length_drop, List.length_take]; rfl)) ?_; (with_reducible refine (caulkref40_ready.calls k a0 _ _ l1 t7281 _ ?side1 ?side2 A3.out).mono ?_); (case side1 => repeat (first | exact HR1.out | (with_reducible refine Kd.C_alloc ?_ _) | (with_reducible refine Kd.C_drewN ?_ _) | (with_reducible refine Kd.C_drew ?_))); (case side2 => exact HC1.out); rintro e w5 ⟨rfl, hb⟩; refine ⟨_, rfl, ?_⟩; have n0_ := Aside0.mk (below_step (by repeat (first | (with_reducible first | exact HB.out | apply below_alloc | apply pw_below_drewN | apply below_drew1) | exact HB.out)) hb); clear HB; have HB := n0_; clear n0_; (try clear hb); (try clear hb2); (try clear hk); (try clear hi)))
  (try simp only [Act.put, List.setIfInBounds_toArray, List.set_cons_zero, List.set_cons_succ])
  go_loopg [0, 7, 18] k (fun kq v0 v7 v18 w' => ∃ (x0_1 : Int) (x7_1 : Int) (x18_1 : Int), v0 = .int .i64 x0_1 ∧ v7 = .int .i64 x7_1 ∧ v18 = .int .i64 x18_1 ∧ Aside0 (caulkref40_Way.l0 kq x0_1 x7_1 l1 (l1.length : Int) x18_1 = some (r1, r2)) ∧ Aside0 (kq ≤ k) ∧ Aside0 (Below w.heap.size w w'))
  case atStart => exact ⟨(a0), (0), (0), (by first | rfl | (simp; done) | (simp [*]; done)), (by first | rfl | (simp; done) | (simp [*]; done)), (by first | rfl | (simp; done) | (simp [*]; done)), H', ⟨Nat.le_refl _⟩, ⟨by repeat (first | (with_reducible first | exact HB.out | apply below_alloc | apply pw_below_drewN | apply below_drew1) | exact HB.out)⟩⟩
  case round =>
   clear H'
   try clear c1
   try clear p2
   try clear c4
   try clear c4b0
   try clear c4b1
   obtain ⟨x0_1, x7_1, x18_1, rfl, rfl, rfl, HA, HK1, HB⟩ := hrel
   cases gk with
   | zero => exact absurd HA.out (by simp [caulkref40_Way.l0])
   | succ k1 =>
    have H := HA.out
    clear HA
    simp only [caulkref40_Way.l0] at H
    by_cases c6 : x18_1 < (l1.length : Int)
    ·rw [if_pos c6] at H
     have c6b0 : decide (x18_1 < (l1.length : Int)) = true := decide_eq_true c6
     clear c6
     by_cases c7 : 0 ≤ x18_1
     ·rw [if_pos c7] at H
      have c7b0 : decide (0 ≤ x18_1) = true := decide_eq_true c7
      clear c7
      by_cases c8 : x18_1 < (l1.length : Int)
      ·rw [if_pos c8] at H
       have c8b0 : decide (x18_1 < (l1.length : Int)) = true := decide_eq_true c8
       clear c8
       obtain ⟨ji9, hji9⟩ : ∃ j_ : Int, (mx (wrap64 (((rd_T37 l1 x18_1).f0) - x0_1)) (wrap64 (x0_1 - ((rd_T37 l1 x18_1).f0)))) = j_ := ⟨_, rfl⟩
       replace H : (caulkref40_Way.l0 k1 (wrap64 (((rd_T37 l1 x18_1).f0) + ((rd_T37 l1 x18_1).f1))) (wrap64 (x7_1 + (wrap64 ((ji9) + ((rd_T37 l1 x18_1).f1))))) l1 (l1.length : Int) (wrap64 (x18_1 + 1))) = some (r1, r2) := by first | (rw [hji9] at H; exact H) | (simp only [hji9] at H ⊢; exact H)
       have hji9_ : (if (wrap64 (((rd_T37 l1 x18_1).f0) - x0_1)) < (wrap64 (x0_1 - ((rd_T37 l1 x18_1).f0))) then (wrap64 (x0_1 - ((rd_T37 l1 x18_1).f0))) else (wrap64 (((rd_T37 l1 x18_1).f0) - x0_1))) = ji9 := hji9
       have H' := Aside0.mk H
       clear H
       have p7282 : 0 ≤ (x18_1 : Int) := of_decide_eq_true (by first | (with_reducible assumption) | assumption)
       have q7282 : x18_1 < (l1.length : Int) := of_decide_eq_true (by first | (with_reducible assumption) | assumption)
       obtain ⟨ad7282, e7282, hx7282_0, hx7282_1, hx7282_2⟩ := at_T37 HR1.out x18_1 p7282 q7282
       cases e7282
       replace hx7282_0 := (HB.out.cell (World.block_lt_of_cell? w _ hx7282_0)).trans hx7282_0
       replace hx7282_1 := (HB.out.cell (World.block_lt_of_cell? w _ hx7282_1)).trans hx7282_1
       replace hx7282_2 := (HB.out.cell (World.block_lt_of_cell? w _ hx7282_2)).trans hx7282_2
       replace p7282 := eq_true p7282
       replace q7282 := eq_true q7282
       go_wp2_with (first | ((with_reducible refine HOpen.gate_append ?_); simp only [List.cons_append, List.nil_append]) | ((with_reducible refine gate_dst (N := 9) rfl ?_); refine box_event ?hg (N := 9) ?hd (cs := #[.int .i64 0, .int .i64 0, .int .i64 0]) (t := 37) ?hr ?_; (case hd => rfl); (case hg => rfl); (case hr => first | (go_simp; done) | (go_simp; rfl)); intro gb7283 hg w10 hbox hb; have n0_ := Aside0.mk (below_step (by repeat (first | (with_reducible first | exact HB.out | apply below_alloc | apply pw_below_drewN | apply below_drew1) | exact HB.out)) hb); have n1_ := Aside0.mk (hbox); have n2_ := Aside0.mk ((by rw [hg]; exact (below_size (by repeat (first | (with_reducible first | exact HB.out | apply below_alloc | apply pw_below_drewN | apply below_drew1) | exact HB.out))) : w.heap.size ≤ gb7283)); have n3_ := Aside0.mk ((by rw [hg]; exact (below_size (by repeat (first | (with_reducible first | exact HB.out | apply below_alloc | apply pw_below_drewN | apply below_drew1) | exact HB.out))) : w.heap.size ≤ gb7283)); clear HB; have HB := n0_; have BK7283 := n1_; have GW7283 := n2_; have GE7283 := n3_; clear n0_ n1_ n2_ n3_; clear hb hbox hg; have hcz11_0 : w10.cell? ⟨gb7283, 0, none⟩ = some (.int .i64 0) := (blk_cell BK7283.out 0).trans rfl; have hcz11_1 : w10.cell? ⟨gb7283, 1, none⟩ = some (.int .i64 0) := (blk_cell BK7283.out 1).trans rfl; have hcz11_2 : w10.cell? ⟨gb7283, 2, none⟩ = some (.int .i64 0) := (blk_cell BK7283.out 2).trans rfl; have hfz11_0 := blk_frozen BK7283.out 0; have hfz11_1 := blk_frozen BK7283.out 1; have hfz11_2 := blk_frozen BK7283.out 2))
       go_roundg k1
       case measure => have := HK1.out; omega
       case rel => exact ⟨(wrap64 (((rd_T37 l1 x18_1).f0) + ((rd_T37 l1 x18_1).f1))), (wrap64 (x7_1 + (wrap64 ((ji9) + ((rd_T37 l1 x18_1).f1))))), (wrap64 (x18_1 + 1)), (by first | rfl | (simp; done) | (simp [*]; done)), (by first | rfl | (simp; done) | (simp only [← hji9] <;> (first | rfl | simp)) | (simp [*]; done)), (by first | rfl | (simp; done) | (simp [*]; done)), H', ⟨by have := HK1.out; omega⟩, ⟨by repeat (first | (with_reducible first | exact HB.out | apply below_alloc | apply pw_below_drewN | apply below_drew1 | refine below_set ?_ GE7283.out) | exact HB.out)⟩⟩
      ·rw [if_neg c8] at H
       exact absurd H (by simp)
     ·rw [if_neg c7] at H
      exact absurd H (by simp)
    ·rw [if_neg c6] at H
     have c6b0 : decide (x18_1 < (l1.length : Int)) = false := decide_eq_false c6
     clear c6
     simp only [Option.some.injEq, Prod.mk.injEq] at H
     obtain ⟨rfl, rfl⟩ := H
     go_wp2
     go_ret2
     exact ⟨by first | rfl | (simp [errW_none, errW_some] <;> rfl) | (simp [*, errW_none, errW_some] <;> rfl), by repeat (first | (with_reducible first | exact HB.out | apply below_alloc | apply pw_below_drewN | apply below_drew1) | exact HB.out)⟩
 ·rw [if_neg c4] at H
  have c4b0 : (t7281 == 0) = false := beq_eq_false_iff_ne.mpr c4
  have c4b1 : (t7281 != 0) = true := bne_iff_ne.mpr c4
  simp only [Option.some.injEq, Prod.mk.injEq] at H
  obtain ⟨rfl, rfl⟩ := H
  go_enter Try.func19, Try.ntmps19
  go_wp2_with (first | ((with_reducible refine HOpen.gate_append ?_); simp only [List.cons_append, List.nil_append]) | ((with_reducible refine gate_callee (f := 68) rfl ?_); refine goesL_ (some 12) rfl rfl Try.func68 (by kernel_rfl) rfl #[.int .i64 a0, .slice A1 l1.length c1] rfl (by (try simp only [List.map_toArray, List.map_cons, List.map_nil]); first | done | rfl | (simp only [List.length_drop, List.length_take]; rfl)) ?_; (with_reducible refine (caulkref40_ready.calls k a0 _ _ l1 t7281 _ ?side1 ?side2 A3.out).mono ?_); (case side1 => repeat (first | exact HR1.out | (with_reducible refine Kd.C_alloc ?_ _) | (with_reducible refine Kd.C_drewN ?_ _) | (with_reducible refine Kd.C_drew ?_))); (case side2 => exact HC1.out); rintro e w12 ⟨rfl, hb⟩; refine ⟨_, rfl, ?_⟩; have n0_ := Aside0.mk (below_step (by repeat (first | (with_reducible first | exact HB.out | apply below_alloc | apply pw_below_drewN | apply below_drew1) | exact HB.out)) hb); clear HB; have HB := n0_; clear n0_; (try clear hb); (try clear hb2); (try clear hk); (try clear hi)))
  go_ret2
  exact ⟨by first | rfl | (simp [errW_none, errW_some] <;> rfl) | (simp [*, errW_none, errW_some] <;> rfl), by repeat (first | (with_reducible first | exact HB.out | apply below_alloc | apply pw_below_drewN | apply below_drew1) | exact HB.out)⟩

end Go.Proofs.Ytgahpdoiddhdaaa.HElev
