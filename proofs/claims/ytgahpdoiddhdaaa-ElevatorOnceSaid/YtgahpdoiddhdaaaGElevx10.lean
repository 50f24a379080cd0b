/- WRITTEN BY wip/hyb.py, a program of this workplace (out of the kit's printer and this workplace's own contracts). -/
import Derived.Test.YtgahpdoiddhdaaaGElevx0
namespace Go.Proofs.Ytgahpdoiddhdaaa.HElev
open Go.RowKit Go.Proofs.YtgahpdoiddhdaaaW.PrintWords Go.Proofs.YtgahpdoiddhdaaaW.PrintLast Go.Proofs.YtgahpdoiddhdaaaW.PrintMore
attribute [local go_sem] max2_int min2_int max_two min_two max_three min_three max_four min_four   -- for this text's walks alone
set_option linter.unusedVariables false
set_option linter.unusedSimpArgs false

def caulkref40_Check.l0 : Nat → List (S37) → Int → Int → Option (Int)
 | 0, _, _, _ => none
 | k + 1, x5, x6, x7 => if x7 < x6 then (if 0 ≤ x7 then (if x7 < (x5.length : Int) then (if ((rd_T37 x5 x7).f0) < 0 then (some 2) else (if ((rd_T37 x5 x7).f0) ≥ 4096 then (some 2) else (if ((rd_T37 x5 x7).f1) < 1 then (some 2) else (if ((rd_T37 x5 x7).f1) > 4096 then (some 2) else (if (wrap64 (((rd_T37 x5 x7).f0) + ((rd_T37 x5 x7).f1))) > 4096 then (some 2) else (caulkref40_Check.l0 k x5 x6 (wrap64 (x7 + 1)))))))) else (none)) else (none)) else (some 0)
def caulkref40_Check.f (k : Nat) (l0 : List (S37)) : Option (Int) := caulkref40_Check.l0 k l0 (l0.length : Int) 0
theorem caulkref40_Check.mono_l : ∀ k, (∀ y0 y1 y2, LeO (caulkref40_Check.l0 k y0 y1 y2) (caulkref40_Check.l0 (k + 1) y0 y1 y2))
 | 0 => fun _ _ _ r h => by simp [caulkref40_Check.l0] at h
 | k + 1 => by
  have ih0 := caulkref40_Check.mono_l k
  ·intro y0 y1 y2
   unfold caulkref40_Check.l0
   repeat' first
   | (with_reducible exact ih0 _ _ _)
   | (with_reducible exact LeO.refl _)
   | (with_reducible exact LeO.none _)
   | (with_reducible refine LeO.ite ?_ ?_)
   | (with_reducible refine LeO.bind ?_ (fun _ => ?_))
   | exact ih0 _ _ _
   | exact LeO.none _
   | refine LeO.ite ?_ ?_
   | refine LeO.bind ?_ (fun _ => ?_)
theorem caulkref40_Check.mono : ∀ a0 k, LeO (caulkref40_Check.f k a0) (caulkref40_Check.f (k + 1) a0) := by
 intro a0 k
 have ih0 := caulkref40_Check.mono_l k
 unfold caulkref40_Check.f
 repeat' first
   | (with_reducible exact ih0 _ _ _)
   | (with_reducible exact LeO.refl _)
   | (with_reducible exact LeO.none _)
   | (with_reducible refine LeO.ite ?_ ?_)
   | (with_reducible refine LeO.bind ?_ (fun _ => ?_))
   | exact ih0 _ _ _
   | exact LeO.none _
   | refine LeO.ite ?_ ?_
   | refine LeO.bind ?_ (fun _ => ?_)
set_option maxHeartbeats 8000000 in
set_option maxRecDepth 100000 in
theorem caulkref40_Check.calls (k : Nat) (A0 : Option Addr) (c0 : Nat) (l0 : List (S37)) (r : Int) (w : World) (hr0 : Kd.C k37 w A0 l0.length l0) (hc0 : l0.length ≤ c0) (h : caulkref40_Check.f k l0 = some r) :
  Calls Try.prog 21 #[.slice A0 l0.length c0] w fun e w' => e = .returned (.int .i64 r) ∧ Below w.heap.size w w' := by
 have hu37 := Try.underlying37
 have HR0 := Aside0.mk hr0
 have HC0 := Aside0.mk hc0
 clear hr0 hc0
 have HB := Aside0.mk (Below.refl w.heap.size w)
 have H : (caulkref40_Check.l0 k l0 (l0.length : Int) 0) = some r := h
 clear h
 have H' := Aside0.mk H
 clear H
 go_enter Try.func21, Try.ntmps21
 go_wp2
 go_loopg [7] k (fun kq v7 w' => ∃ (x7_1 : Int), v7 = .int .i64 x7_1 ∧ Aside0 (caulkref40_Check.l0 kq l0 (l0.length : Int) x7_1 = some r) ∧ Aside0 (kq ≤ k) ∧ Aside0 (Below w.heap.size w w'))
 case atStart => exact ⟨(0), (by first | rfl | (simp; done) | (simp [*]; done)), H', ⟨Nat.le_refl _⟩, ⟨by repeat (first | (with_reducible first | exact HB.out | apply below_alloc | apply pw_below_drewN | apply below_drew1) | exact HB.out)⟩⟩
 case round =>
  clear H'
  obtain ⟨x7_1, rfl, HA, HK1, HB⟩ := hrel
  cases gk with
  | zero => exact absurd HA.out (by simp [caulkref40_Check.l0])
  | succ k1 =>
   have H := HA.out
   clear HA
   simp only [caulkref40_Check.l0] at H
   by_cases c2 : x7_1 < (l0.length : Int)
   ·rw [if_pos c2] at H
    have c2b0 : decide (x7_1 < (l0.length : Int)) = true := decide_eq_true c2
    clear c2
    by_cases c3 : 0 ≤ x7_1
    ·rw [if_pos c3] at H
     have c3b0 : decide (0 ≤ x7_1) = true := decide_eq_true c3
     clear c3
     by_cases c4 : x7_1 < (l0.length : Int)
     ·rw [if_pos c4] at H
      have c4b0 : decide (x7_1 < (l0.length : Int)) = true := decide_eq_true c4
      clear c4
      by_cases c5 : ((rd_T37 l0 x7_1).f0) < 0
      ·rw [if_pos c5] at H
       have c5b0 : decide (((rd_T37 l0 x7_1).f0) < 0) = true := decide_eq_true c5
       clear c5
       obtain rfl := Option.some.inj H
       have p7251 : 0 ≤ (x7_1 : Int) := of_decide_eq_true (by first | (with_reducible assumption) | assumption)
       have q7251 : x7_1 < (l0.length : Int) := of_decide_eq_true (by first | (with_reducible assumption) | assumption)
       obtain ⟨ad7251, e7251, hx7251_0, hx7251_1, hx7251_2⟩ := at_T37 HR0.out x7_1 p7251 q7251
       cases e7251
       replace hx7251_0 := (HB.out.cell (World.block_lt_of_cell? w _ hx7251_0)).trans hx7251_0
       replace hx7251_1 := (HB.out.cell (World.block_lt_of_cell? w _ hx7251_1)).trans hx7251_1
       replace hx7251_2 := (HB.out.cell (World.block_lt_of_cell? w _ hx7251_2)).trans hx7251_2
       replace p7251 := eq_true p7251
       replace q7251 := eq_true q7251
       go_wp2_with (first | ((with_reducible refine HOpen.gate_append ?_); simp only [List.cons_append, List.nil_append]) | ((with_reducible refine gate_dst (N := 4) rfl ?_); refine box_event ?hg (N := 4) ?hd (cs := #[.int .i64 0, .int .i64 0, .int .i64 0]) (t := 37) ?hr ?_; (case hd => rfl); (case hg => rfl); (case hr => first | (go_simp; done) | (go_simp; rfl)); intro gb7252 hg w6 hbox hb; have n0_ := Aside0.mk (below_step (by repeat (first | (with_reducible first | exact HB.out | apply below_alloc | apply pw_below_drewN | apply below_drew1) | exact HB.out)) hb); have n1_ := Aside0.mk (hbox); have n2_ := Aside0.mk ((by rw [hg]; exact (below_size (by repeat (first | (with_reducible first | exact HB.out | apply below_alloc | apply pw_below_drewN | apply below_drew1) | exact HB.out))) : w.heap.size ≤ gb7252)); have n3_ := Aside0.mk ((by rw [hg]; exact (below_size (by repeat (first | (with_reducible first | exact HB.out | apply below_alloc | apply pw_below_drewN | apply below_drew1) | exact HB.out))) : w.heap.size ≤ gb7252)); clear HB; have HB := n0_; have BK7252 := n1_; have GW7252 := n2_; have GE7252 := n3_; clear n0_ n1_ n2_ n3_; clear hb hbox hg; have hcz7_0 : w6.cell? ⟨gb7252, 0, none⟩ = some (.int .i64 0) := (blk_cell BK7252.out 0).trans rfl; have hcz7_1 : w6.cell? ⟨gb7252, 1, none⟩ = some (.int .i64 0) := (blk_cell BK7252.out 1).trans rfl; have hcz7_2 : w6.cell? ⟨gb7252, 2, none⟩ = some (.int .i64 0) := (blk_cell BK7252.out 2).trans rfl; have hfz7_0 := blk_frozen BK7252.out 0; have hfz7_1 := blk_frozen BK7252.out 1; have hfz7_2 := blk_frozen BK7252.out 2))
       go_ret
       exact ⟨by first | rfl | (simp [errW_none, errW_some] <;> rfl) | (simp [*, errW_none, errW_some] <;> rfl), by repeat (first | (with_reducible first | exact HB.out | apply below_alloc | apply pw_below_drewN | apply below_drew1 | refine below_set ?_ GE7252.out) | exact HB.out)⟩
      ·rw [if_neg c5] at H
       have c5b0 : decide (((rd_T37 l0 x7_1).f0) < 0) = false := decide_eq_false c5
       clear c5
       by_cases c8 : ((rd_T37 l0 x7_1).f0) ≥ 4096
       ·rw [if_pos c8] at H
        have c8b0 : decide (4096 ≤ ((rd_T37 l0 x7_1).f0)) = true := decide_eq_true c8
        clear c8
        obtain rfl := Option.some.inj H
        have p7251 : 0 ≤ (x7_1 : Int) := of_decide_eq_true (by first | (with_reducible assumption) | assumption)
        have q7251 : x7_1 < (l0.length : Int) := of_decide_eq_true (by first | (with_reducible assumption) | assumption)
        obtain ⟨ad7251, e7251, hx7251_0, hx7251_1, hx7251_2⟩ := at_T37 HR0.out x7_1 p7251 q7251
        cases e7251
        replace hx7251_0 := (HB.out.cell (World.block_lt_of_cell? w _ hx7251_0)).trans hx7251_0
        replace hx7251_1 := (HB.out.cell (World.block_lt_of_cell? w _ hx7251_1)).trans hx7251_1
        replace hx7251_2 := (HB.out.cell (World.block_lt_of_cell? w _ hx7251_2)).trans hx7251_2
        replace p7251 := eq_true p7251
        replace q7251 := eq_true q7251
        go_wp2_with (first | ((with_reducible refine HOpen.gate_append ?_); simp only [List.cons_append, List.nil_append]) | ((with_reducible refine gate_dst (N := 4) rfl ?_); refine box_event ?hg (N := 4) ?hd (cs := #[.int .i64 0, .int .i64 0, .int .i64 0]) (t := 37) ?hr ?_; (case hd => rfl); (case hg => rfl); (case hr => first | (go_simp; done) | (go_simp; rfl)); intro gb7252 hg w9 hbox hb; have n0_ := Aside0.mk (below_step (by repeat (first | (with_reducible first | exact HB.out | apply below_alloc | apply pw_below_drewN | apply below_drew1) | exact HB.out)) hb); have n1_ := Aside0.mk (hbox); have n2_ := Aside0.mk ((by rw [hg]; exact (below_size (by repeat (first | (with_reducible first | exact HB.out | apply below_alloc | apply pw_below_drewN | apply below_drew1) | exact HB.out))) : w.heap.size ≤ gb7252)); have n3_ := Aside0.mk ((by rw [hg]; exact (below_size (by repeat (first | (with_reducible first | exact HB.out | apply below_alloc | apply pw_below_drewN | apply below_drew1) | exact HB.out))) : w.heap.size ≤ gb7252)); clear HB; have HB := n0_; have BK7252 := n1_; have GW7252 := n2_; have GE7252 := n3_; clear n0_ n1_ n2_ n3_; clear hb hbox hg; have hcz10_0 : w9.cell? ⟨gb7252, 0, none⟩ = some (.int .i64 0) := (blk_cell BK7252.out 0).trans rfl; have hcz10_1 : w9.cell? ⟨gb7252, 1, none⟩ = some (.int .i64 0) := (blk_cell BK7252.out 1).trans rfl; have hcz10_2 : w9.cell? ⟨gb7252, 2, none⟩ = some (.int .i64 0) := (blk_cell BK7252.out 2).trans rfl; have hfz10_0 := blk_frozen BK7252.out 0; have hfz10_1 := blk_frozen BK7252.out 1; have hfz10_2 := blk_frozen BK7252.out 2))
        go_ret
        exact ⟨by first | rfl | (simp [errW_none, errW_some] <;> rfl) | (simp [*, errW_none, errW_some] <;> rfl), by repeat (first | (with_reducible first | exact HB.out | apply below_alloc | apply pw_below_drewN | apply below_drew1 | refine below_set ?_ GE7252.out) | exact HB.out)⟩
       ·rw [if_neg c8] at H
        have c8b0 : decide (4096 ≤ ((rd_T37 l0 x7_1).f0)) = false := decide_eq_false c8
        clear c8
        by_cases c11 : ((rd_T37 l0 x7_1).f1) < 1
        ·rw [if_pos c11] at H
         have c11b0 : decide (((rd_T37 l0 x7_1).f1) < 1) = true := decide_eq_true c11
         clear c11
         obtain rfl := Option.some.inj H
         have p7251 : 0 ≤ (x7_1 : Int) := of_decide_eq_true (by first | (with_reducible assumption) | assumption)
         have q7251 : x7_1 < (l0.length : Int) := of_decide_eq_true (by first | (with_reducible assumption) | assumption)
         obtain ⟨ad7251, e7251, hx7251_0, hx7251_1, hx7251_2⟩ := at_T37 HR0.out x7_1 p7251 q7251
         cases e7251
         replace hx7251_0 := (HB.out.cell (World.block_lt_of_cell? w _ hx7251_0)).trans hx7251_0
         replace hx7251_1 := (HB.out.cell (World.block_lt_of_cell? w _ hx7251_1)).trans hx7251_1
         replace hx7251_2 := (HB.out.cell (World.block_lt_of_cell? w _ hx7251_2)).trans hx7251_2
         replace p7251 := eq_true p7251
         replace q7251 := eq_true q7251
         go_wp2_with (first | ((with_reducible refine HOpen.gate_append ?_); simp only [List.cons_append, List.nil_append]) | ((with_reducible refine gate_dst (N := 4) rfl ?_); refine box_event ?hg (N := 4) ?hd (cs := #[.int .i64 0, .int .i64 0, .int .i64 0]) (t := 37) ?hr ?_; (case hd => rfl); (case hg => rfl); (case hr => first | (go_simp; done) | (go_simp; rfl)); intro gb7252 hg w12 hbox hb; have n0_ := Aside0.mk (below_step (by repeat (first | (with_reducible first | exact HB.out | apply below_alloc | apply pw_below_drewN | apply below_drew1) | exact HB.out)) hb); have n1_ := Aside0.mk (hbox); have n2_ := Aside0.mk ((by rw [hg]; exact (below_size (by repeat (first | (with_reducible first | exact HB.out | apply below_alloc | apply pw_below_drewN | apply below_drew1) | exact HB.out))) : w.heap.size ≤ gb7252)); have n3_ := Aside0.mk ((by rw [hg]; exact (below_size (by repeat (first | (with_reducible first | exact HB.out | apply below_alloc | apply pw_below_drewN | apply below_drew1) | exact HB.out))) : w.heap.size ≤ gb7252)); clear HB; have HB := n0_; have BK7252 := n1_; have GW7252 := n2_; have GE7252 := n3_; clear n0_ n1_ n2_ n3_; clear hb hbox hg; have hcz13_0 : w12.cell? ⟨gb7252, 0, none⟩ = some (.int .i64 0) := (blk_cell BK7252.out 0).trans rfl; have hcz13_1 : w12.cell? ⟨gb7252, 1, none⟩ = some (.int .i64 0) := (blk_cell BK7252.out 1).trans rfl; have hcz13_2 : w12.cell? ⟨gb7252, 2, none⟩ = some (.int .i64 0) := (blk_cell BK7252.out 2).trans rfl; have hfz13_0 := blk_frozen BK7252.out 0; have hfz13_1 := blk_frozen BK7252.out 1; have hfz13_2 := blk_frozen BK7252.out 2))
         go_ret
         exact ⟨by first | rfl | (simp [errW_none, errW_some] <;> rfl) | (simp [*, errW_none, errW_some] <;> rfl), by repeat (first | (with_reducible first | exact HB.out | apply below_alloc | apply pw_below_drewN | apply below_drew1 | refine below_set ?_ GE7252.out) | exact HB.out)⟩
        ·rw [if_neg c11] at H
         have c11b0 : decide (((rd_T37 l0 x7_1).f1) < 1) = false := decide_eq_false c11
         clear c11
         by_cases c14 : ((rd_T37 l0 x7_1).f1) > 4096
         ·rw [if_pos c14] at H
          have c14b0 : decide (4096 < ((rd_T37 l0 x7_1).f1)) = true := decide_eq_true c14
          clear c14
          obtain rfl := Option.some.inj H
          have p7251 : 0 ≤ (x7_1 : Int) := of_decide_eq_true (by first | (with_reducible assumption) | assumption)
          have q7251 : x7_1 < (l0.length : Int) := of_decide_eq_true (by first | (with_reducible assumption) | assumption)
          obtain ⟨ad7251, e7251, hx7251_0, hx7251_1, hx7251_2⟩ := at_T37 HR0.out x7_1 p7251 q7251
          cases e7251
          replace hx7251_0 := (HB.out.cell (World.block_lt_of_cell? w _ hx7251_0)).trans hx7251_0
          replace hx7251_1 := (HB.out.cell (World.block_lt_of_cell? w _ hx7251_1)).trans hx7251_1
          replace hx7251_2 := (HB.out.cell (World.block_lt_of_cell? w _ hx7251_2)).trans hx7251_2
          replace p7251 := eq_true p7251
          replace q7251 := eq_true q7251
          go_wp2_with (first | ((with_reducible refine HOpen.gate_append ?_); simp only [List.cons_append, List.nil_append]) | ((with_reducible refine gate_dst (N := 4) rfl ?_); refine box_event ?hg (N := 4) ?hd (cs := #[.int .i64 0, .int .i64 0, .int .i64 0]) (t := 37) ?hr ?_; (case hd => rfl); (case hg => rfl); (case hr => first | (go_simp; done) | (go_simp; rfl)); intro gb7252 hg w15 hbox hb; have n0_ := Aside0.mk (below_step (by repeat (first | (with_reducible first | exact HB.out | apply below_alloc | apply pw_below_drewN | apply below_drew1) | exact HB.out)) hb); have n1_ := Aside0.mk (hbox); have n2_ := Aside0.mk ((by rw [hg]; exact (below_size (by repeat (first | (with_reducible first | exact HB.out | apply below_alloc | apply pw_below_drewN | apply below_drew1) | exact HB.out))) : w.heap.size ≤ gb7252)); have n3_ := Aside0.mk ((by rw [hg]; exact (below_size (by repeat (first | (with_reducible first | exact HB.out | apply below_alloc | apply pw_below_drewN | apply below_drew1) | exact HB.out))) : w.heap.size ≤ gb7252)); clear HB; have HB := n0_; have BK7252 := n1_; have GW7252 := n2_; have GE7252 := n3_; clear n0_ n1_ n2_ n3_; clear hb hbox hg; have hcz16_0 : w15.cell? ⟨gb7252, 0, none⟩ = some (.int .i64 0) := (blk_cell BK7252.out 0).trans rfl; have hcz16_1 : w15.cell? ⟨gb7252, 1, none⟩ = some (.int .i64 0) := (blk_cell BK7252.out 1).trans rfl; have hcz16_2 : w15.cell? ⟨gb7252, 2, none⟩ = some (.int .i64 0) := (blk_cell BK7252.out 2).trans rfl; have hfz16_0 := blk_frozen BK7252.out 0; have hfz16_1 := blk_frozen BK7252.out 1; have hfz16_2 := blk_frozen BK7252.out 2))
          go_ret
          exact ⟨by first | rfl | (simp [errW_none, errW_some] <;> rfl) | (simp [*, errW_none, errW_some] <;> rfl), by repeat (first | (with_reducible first | exact HB.out | apply below_alloc | apply pw_below_drewN | apply below_drew1 | refine below_set ?_ GE7252.out) | exact HB.out)⟩
         ·rw [if_neg c14] at H
          have c14b0 : decide (4096 < ((rd_T37 l0 x7_1).f1)) = false := decide_eq_false c14
          clear c14
          by_cases c17 : (wrap64 (((rd_T37 l0 x7_1).f0) + ((rd_T37 l0 x7_1).f1))) > 4096
          ·rw [if_pos c17] at H
           have c17b0 : decide (4096 < (wrap64 (((rd_T37 l0 x7_1).f0) + ((rd_T37 l0 x7_1).f1)))) = true := decide_eq_true c17
           clear c17
           obtain rfl := Option.some.inj H
           have p7251 : 0 ≤ (x7_1 : Int) := of_decide_eq_true (by first | (with_reducible assumption) | assumption)
           have q7251 : x7_1 < (l0.length : Int) := of_decide_eq_true (by first | (with_reducible assumption) | assumption)
           obtain ⟨ad7251, e7251, hx7251_0, hx7251_1, hx7251_2⟩ := at_T37 HR0.out x7_1 p7251 q7251
           cases e7251
           replace hx7251_0 := (HB.out.cell (World.block_lt_of_cell? w _ hx7251_0)).trans hx7251_0
           replace hx7251_1 := (HB.out.cell (World.block_lt_of_cell? w _ hx7251_1)).trans hx7251_1
           replace hx7251_2 := (HB.out.cell (World.block_lt_of_cell? w _ hx7251_2)).trans hx7251_2
           replace p7251 := eq_true p7251
           replace q7251 := eq_true q7251
           go_wp2_with (first | ((with_reducible refine HOpen.gate_append ?_); simp only [List.cons_append, List.nil_append]) | ((with_reducible refine gate_dst (N := 4) rfl ?_); refine box_event ?hg (N := 4) ?hd (cs := #[.int .i64 0, .int .i64 0, .int .i64 0]) (t := 37) ?hr ?_; (case hd => rfl); (case hg => rfl); (case hr => first | (go_simp; done) | (go_simp; rfl)); intro gb7252 hg w18 hbox hb; have n0_ := Aside0.mk (below_step (by repeat (first | (with_reducible first | exact HB.out | apply below_alloc | apply pw_below_drewN | apply below_drew1) | exact HB.out)) hb); have n1_ := Aside0.mk (hbox); have n2_ := Aside0.mk ((by rw [hg]; exact (below_size (by repeat (first | (with_reducible first | exact HB.out | apply below_alloc | apply pw_below_drewN | apply below_drew1) | exact HB.out))) : w.heap.size ≤ gb7252)); have n3_ := Aside0.mk ((by rw [hg]; exact (below_size (by repeat (first | (with_reducible first | exact HB.out | apply below_alloc | apply pw_below_drewN | apply below_drew1) | exact HB.out))) : w.heap.size ≤ gb7252)); clear HB; have HB := n0_; have BK7252 := n1_; have GW7252 := n2_; have GE7252 := n3_; clear n0_ n1_ n2_ n3_; clear hb hbox hg; have hcz19_0 : w18.cell? ⟨gb7252, 0, none⟩ = some (.int .i64 0) := (blk_cell BK7252.out 0).trans rfl; have hcz19_1 : w18.cell? ⟨gb7252, 1, none⟩ = some (.int .i64 0) := (blk_cell BK7252.out 1).trans rfl; have hcz19_2 : w18.cell? ⟨gb7252, 2, none⟩ = some (.int .i64 0) := (blk_cell BK7252.out 2).trans rfl; have hfz19_0 := blk_frozen BK7252.out 0; have hfz19_1 := blk_frozen BK7252.out 1; have hfz19_2 := blk_frozen BK7252.out 2))
           go_ret
           exact ⟨by first | rfl | (simp [errW_none, errW_some] <;> rfl) | (simp [*, errW_none, errW_some] <;> rfl), by repeat (first | (with_reducible first | exact HB.out | apply below_alloc | apply pw_below_drewN | apply below_drew1 | refine below_set ?_ GE7252.out) | exact HB.out)⟩
          ·rw [if_neg c17] at H
           have c17b0 : decide (4096 < (wrap64 (((rd_T37 l0 x7_1).f0) + ((rd_T37 l0 x7_1).f1)))) = false := decide_eq_false c17
           clear c17
           have H' := Aside0.mk H
           clear H
           have p7251 : 0 ≤ (x7_1 : Int) := of_decide_eq_true (by first | (with_reducible assumption) | assumption)
           have q7251 : x7_1 < (l0.length : Int) := of_decide_eq_true (by first | (with_reducible assumption) | assumption)
           obtain ⟨ad7251, e7251, hx7251_0, hx7251_1, hx7251_2⟩ := at_T37 HR0.out x7_1 p7251 q7251
           cases e7251
           replace hx7251_0 := (HB.out.cell (World.block_lt_of_cell? w _ hx7251_0)).trans hx7251_0
           replace hx7251_1 := (HB.out.cell (World.block_lt_of_cell? w _ hx7251_1)).trans hx7251_1
           replace hx7251_2 := (HB.out.cell (World.block_lt_of_cell? w _ hx7251_2)).trans hx7251_2
           replace p7251 := eq_true p7251
           replace q7251 := eq_true q7251
           go_wp2_with (first | ((with_reducible refine HOpen.gate_append ?_); simp only [List.cons_append, List.nil_append]) | ((with_reducible refine gate_dst (N := 4) rfl ?_); refine box_event ?hg (N := 4) ?hd (cs := #[.int .i64 0, .int .i64 0, .int .i64 0]) (t := 37) ?hr ?_; (case hd => rfl); (case hg => rfl); (case hr => first | (go_simp; done) | (go_simp; rfl)); intro gb7252 hg w20 hbox hb; have n0_ := Aside0.mk (below_step (by repeat (first | (with_reducible first | exact HB.out | apply below_alloc | apply pw_below_drewN | apply below_drew1) | exact HB.out)) hb); have n1_ := Aside0.mk (hbox); have n2_ := Aside0.mk ((by rw [hg]; exact (below_size (by repeat (first | (with_reducible first | exact HB.out | apply below_alloc | apply pw_below_drewN | apply below_drew1) | exact HB.out))) : w.heap.size ≤ gb7252)); have n3_ := Aside0.mk ((by rw [hg]; exact (below_size (by repeat (first | (with_reducible first | exact HB.out | apply below_alloc | apply pw_below_drewN | apply below_drew1) | exact HB.out))) : w.heap.size ≤ gb7252)); clear HB; have HB := n0_; have BK7252 := n1_; have GW7252 := n2_; have GE7252 := n3_; clear n0_ n1_ n2_ n3_; clear hb hbox hg; have hcz21_0 : w20.cell? ⟨gb7252, 0, none⟩ = some (.int .i64 0) := (blk_cell BK7252.out 0).trans rfl; have hcz21_1 : w20.cell? ⟨gb7252, 1, none⟩ = some (.int .i64 0) := (blk_cell BK7252.out 1).trans rfl; have hcz21_2 : w20.cell? ⟨gb7252, 2, none⟩ = some (.int .i64 0) := (blk_cell BK7252.out 2).trans rfl; have hfz21_0 := blk_frozen BK7252.out 0; have hfz21_1 := blk_frozen BK7252.out 1; have hfz21_2 := blk_frozen BK7252.out 2))
           go_roundg k1
           case measure => have := HK1.out; omega
           case rel => exact ⟨(wrap64 (x7_1 + 1)), (by first | rfl | (simp; done) | (simp [*]; done)), H', ⟨by have := HK1.out; omega⟩, ⟨by repeat (first | (with_reducible first | exact HB.out | apply below_alloc | apply pw_below_drewN | apply below_drew1 | refine below_set ?_ GE7252.out) | exact HB.out)⟩⟩
     ·rw [if_neg c4] at H
      exact absurd H (by simp)
    ·rw [if_neg c3] at H
     exact absurd H (by simp)
   ·rw [if_neg c2] at H
    have c2b0 : decide (x7_1 < (l0.length : Int)) = false := decide_eq_false c2
    clear c2
    obtain rfl := Option.some.inj H
    go_wp2
    go_ret
    exact ⟨by first | rfl | (simp [errW_none, errW_some] <;> rfl) | (simp [*, errW_none, errW_some] <;> rfl), by repeat (first | (with_reducible first | exact HB.out | apply below_alloc | apply pw_below_drewN | apply below_drew1) | exact HB.out)⟩

def caulkref40_ready.f (k : Nat) (a0 : Int) (l1 : List (S37)) : Option (Int) := (caulkref40_Check.f k l1).bind fun t7253 => (if t7253 = 0 then (if a0 < 0 then (some 1) else (if a0 > 4096 then (some 1) else (some 0))) else (some t7253))
theorem caulkref40_ready.mono : ∀ a0 a1 k, LeO (caulkref40_ready.f k a0 a1) (caulkref40_ready.f (k + 1) a0 a1) := by
 intro a0 a1 k
 unfold caulkref40_ready.f
 repeat' first
   | (with_reducible exact caulkref40_Check.mono _ _)
   | (with_reducible exact LeO.refl _)
   | (with_reducible exact LeO.none _)
   | (with_reducible refine LeO.ite ?_ ?_)
   | (with_reducible refine LeO.bind ?_ (fun _ => ?_))
   | exact caulkref40_Check.mono _ _
   | exact LeO.none _
   | refine LeO.ite ?_ ?_
   | refine LeO.bind ?_ (fun _ => ?_)
set_option maxHeartbeats 8000000 in
set_option maxRecDepth 100000 in
theorem caulkref40_ready.calls (k : Nat) (a0 : Int) (A1 : Option Addr) (c1 : Nat) (l1 : List (S37)) (r : Int) (w : World) (hr1 : Kd.C k37 w A1 l1.length l1) (hc1 : l1.length ≤ c1) (h : caulkref40_ready.f k a0 l1 = some r) :
  Calls Try.prog 68 #[.int .i64 a0, .slice A1 l1.length c1] w fun e w' => e = .returned (.int .i64 r) ∧ Below w.heap.size w w' := by
 have HR1 := Aside0.mk hr1
 have HC1 := Aside0.mk hc1
 clear hr1 hc1
 have HB := Aside0.mk (Below.refl w.heap.size w)
 have H : ((caulkref40_Check.f k l1).bind fun t7253 => (if t7253 = 0 then (if a0 < 0 then (some 1) else (if a0 > 4096 then (some 1) else (some 0))) else (some t7253))) = some r := h
 clear h
 replace H := Option.bind_eq_some_iff.mp H
 obtain ⟨t7253, A30, H⟩ := H
 replace H : (if t7253 = 0 then (if a0 < 0 then (some 1) else (if a0 > 4096 then (some 1) else (some 0))) else (some t7253)) = some r := H
 have A3 := Aside0.mk A30
 clear A30
 by_cases c4 : t7253 = 0
 ·rw [if_pos c4] at H
  have c4b0 : (t7253 == 0) = true := beq_iff_eq.mpr c4
  have c4b1 : (t7253 != 0) = false := bne_eq_false_iff_eq.mpr c4
  clear c4
  by_cases c5 : a0 < 0
  ·rw [if_pos c5] at H
   have c5b0 : decide (a0 < 0) = true := decide_eq_true c5
   clear c5
   obtain rfl := Option.some.inj H
   go_enter Try.func68, Try.ntmps68
   go_wp2_with (first | ((with_reducible refine HOpen.gate_append ?_); simp only [List.cons_append, List.nil_append]) | ((with_reducible refine gate_callee (f := 21) rfl ?_); refine goesL_ (some 7) rfl rfl Try.func21 (by kernel_rfl) rfl #[.slice A1 l1.length c1] rfl (by (try simp only [List.map_toArray, List.map_cons, List.map_nil]); first | done | rfl | (simp only [List.length_drop, List.length_take]; rfl)) ?_; (with_reducible refine (caulkref40_Check.calls k _ _ l1 t7253 _ ?side1 ?side2 A3.out).mono ?_); (case side1 => repeat (first | exact HR1.out | (with_reducible refine Kd.C_alloc ?_ _) | (with_reducible refine Kd.C_drewN ?_ _) | (with_reducible refine Kd.C_drew ?_))); (case side2 => exact HC1.out); rintro e w6 ⟨rfl, hb⟩; refine ⟨_, rfl, ?_⟩; have n0_ := Aside0.mk (below_step (by repeat (first | (with_reducible first | exact HB.out | apply below_alloc | apply pw_below_drewN | apply below_drew1) | exact HB.out)) hb); clear HB; have HB := n0_; clear n0_; (try clear hb); (try clear hb2); (try clear hk); (try clear hi)))
   go_ret
   exact ⟨by first | rfl | (simp [errW_none, errW_some] <;> rfl) | (simp [*, errW_none, errW_some] <;> rfl), by repeat (first | (with_reducible first | exact HB.out | apply below_alloc | apply pw_below_drewN | apply below_drew1) | exact HB.out)⟩
  ·rw [if_neg c5] at H
   have c5b0 : decide (a0 < 0) = false := decide_eq_false c5
   clear c5
   by_cases c7 : a0 > 4096
   ·rw [if_pos c7] at H
    have c7b0 : decide (4096 < a0) = true := decide_eq_true c7
    clear c7
    obtain rfl := Option.some.inj H
    go_enter Try.func68, Try.ntmps68
    go_wp2_with (first | ((with_reducible refine HOpen.gate_append ?_); simp only [List.cons_append, List.nil_append]) | ((with_reducible refine gate_callee (f := 21) rfl ?_); refine goesL_ (some 7) rfl rfl Try.func21 (by kernel_rfl) rfl #[.slice A1 l1.length c1] rfl (by (try simp only [List.map_toArray, List.map_cons, List.map_nil]); first | done | rfl | (simp only [List.length_drop, List.length_take]; rfl)) ?_; (with_reducible refine (caulkref40_Check.calls k _ _ l1 t7253 _ ?side1 ?side2 A3.out).mono ?_); (case side1 => repeat (first | exact HR1.out | (with_reducible refine Kd.C_alloc ?_ _) | (with_reducible refine Kd.C_drewN ?_ _) | (with_reducible refine Kd.C_drew ?_))); (case side2 => exact HC1.out); rintro e w8 ⟨rfl, hb⟩; refine ⟨_, rfl, ?_⟩; have n0_ := Aside0.mk (below_step (by repeat (first | (with_reducible first | exact HB.out | apply below_alloc | apply pw_below_drewN | apply below_drew1) | exact HB.out)) hb); clear HB; have HB := n0_; clear n0_; (try clear hb); (try clear hb2); (try clear hk); (try clear hi)))
    go_ret
    exact ⟨by first | rfl | (simp [errW_none, errW_some] <;> rfl) | (simp [*, errW_none, errW_some] <;> rfl), by repeat (first | (with_reducible first | exact HB.out | apply below_alloc | apply pw_below_drewN | apply below_drew1) | exact HB.out)⟩
   ·rw [if_neg c7] at H
    have c7b0 : decide (4096 < a0) = false := decide_eq_false c7
    clear c7
    obtain rfl := Option.some.inj H
    go_enter Try.func68, Try.ntmps68
    go_wp2_with (first | ((with_reducible refine HOpen.gate_append ?_); simp only [List.cons_append, List.nil_append]) | ((with_reducible refine gate_callee (f := 21) rfl ?_); refine goesL_ (some 7) rfl rfl Try.func21 (by kernel_rfl) rfl #[.slice A1 l1.length c1] rfl (by (try simp only [List.map_toArray, List.map_cons, List.map_nil]); first | done | rfl | (simp only [List.length_drop, List.length_take]; rfl)) ?_; (with_reducible refine (caulkref40_Check.calls k _ _ l1 t7253 _ ?side1 ?side2 A3.out).mono ?_); (case side1 => repeat (first | exact HR1.out | (with_reducible refine Kd.C_alloc ?_ _) | (with_reducible refine Kd.C_drewN ?_ _) | (with_reducible refine Kd.C_drew ?_))); (case side2 => exact HC1.out); rintro e w9 ⟨rfl, hb⟩; refine ⟨_, rfl, ?_⟩; have n0_ := Aside0.mk (below_step (by repeat (first | (with_reducible first | exact HB.out | apply below_alloc | apply pw_below_drewN | apply below_drew1) | exact HB.out)) hb); clear HB; have HB := n0_; clear n0_; (try clear hb); (try clear hb2); (try clear hk); (try clear hi)))
    go_ret
    exact ⟨by first | rfl | (simp [errW_none, errW_some] <;> rfl) | (simp [*, errW_none, errW_some] <;> rfl), by repeat (first | (with_reducible first | exact HB.out | apply below_alloc | apply pw_below_drewN | apply below_drew1) | exact HB.out)⟩
 ·rw [if_neg c4] at H
  have c4b0 : (t7253 == 0) = false := beq_eq_false_iff_ne.mpr c4
  have c4b1 : (t7253 != 0) = true := bne_iff_ne.mpr c4
  obtain rfl := Option.some.inj H
  go_enter Try.func68, Try.ntmps68
  go_wp2_with (first | ((with_reducible refine HOpen.gate_append ?_); simp only [List.cons_append, List.nil_append]) | ((with_reducible refine gate_callee (f := 21) rfl ?_); refine goesL_ (some 7) rfl rfl Try.func21 (by kernel_rfl) rfl #[.slice A1 l1.length c1] rfl (by (try simp only [List.map_toArray, List.map_cons, List.map_nil]); first | done | rfl | (simp only [List.length_drop, List.length_take]; rfl)) ?_; (with_reducible refine (caulkref40_Check.calls k _ _ l1 t7253 _ ?side1 ?side2 A3.out).mono ?_); (case side1 => repeat (first | exact HR1.out | (with_reducible refine Kd.C_alloc ?_ _) | (with_reducible refine Kd.C_drewN ?_ _) | (with_reducible refine Kd.C_drew ?_))); (case side2 => exact HC1.out); rintro e w10 ⟨rfl, hb⟩; refine ⟨_, rfl, ?_⟩; have n0_ := Aside0.mk (below_step (by repeat (first | (with_reducible first | exact HB.out | apply below_alloc | apply pw_below_drewN | apply below_drew1) | exact HB.out)) hb); clear HB; have HB := n0_; clear n0_; (try clear hb); (try clear hb2); (try clear hk); (try clear hi)))
  go_ret
  exact ⟨by first | rfl | (simp [errW_none, errW_some] <;> rfl) | (simp [*, errW_none, errW_some] <;> rfl), by repeat (first | (with_reducible first | exact HB.out | apply below_alloc | apply pw_below_drewN | apply below_drew1) | exact HB.out)⟩

mutual
def caulkref40_rising.l0 : Nat → List (S37) → Int → List (S37) → Int → Option ((List (S37)))
 | 0, _, _, _, _ => none
 | k + 1, x0, x2, x7, x8 => if x8 < x2 then (caulkref40_rising.l1 k x0 x2 x7 x8 x0 (x0.length : Int) 0) else (some x7)
def caulkref40_rising.l1 : Nat → List (S37) → Int → List (S37) → Int → List (S37) → Int → Int → Option ((List (S37)))
 | 0, _, _, _, _, _, _, _ => none
 | k + 1, x0, x2, x7, x8, x17, x18, x19 => if x19 < x18 then (if 0 ≤ x19 then (if x19 < (x17.length : Int) then (if ((rd_T37 x17 x19).f0) = x8 then (if x7.length < 5864062014805 then (caulkref40_rising.l1 k x0 x2 (x7 ++ [(⟨(rd_T37 x17 x19).f0, (rd_T37 x17 x19).f1, (rd_T37 x17 x19).f2⟩ : S37)]) x8 x17 x18 (wrap64 (x19 + 1))) else (none)) else (caulkref40_rising.l1 k x0 x2 x7 x8 x17 x18 (wrap64 (x19 + 1)))) else (none)) else (none)) else (caulkref40_rising.l0 k x0 x2 x7 (wrap64 (x8 + 1)))
end
def caulkref40_rising.f (k : Nat) (l0 : List (S37)) (a1 : Int) (a2 : Int) : Option ((List (S37))) := caulkref40_rising.l0 k l0 a2 ([] : List (S37)) a1
theorem caulkref40_rising.mono_l : ∀ k, (∀ y0 y1 y2 y3, LeO (caulkref40_rising.l0 k y0 y1 y2 y3) (caulkref40_rising.l0 (k + 1) y0 y1 y2 y3)) ∧ (∀ y0 y1 y2 y3 y4 y5 y6, LeO (caulkref40_rising.l1 k y0 y1 y2 y3 y4 y5 y6) (caulkref40_rising.l1 (k + 1) y0 y1 y2 y3 y4 y5 y6))
 | 0 => ⟨fun _ _ _ _ r h => by simp [caulkref40_rising.l0] at h, fun _ _ _ _ _ _ _ r h => by simp [caulkref40_rising.l1] at h⟩
 | k + 1 => by
  obtain ⟨ih0, ih1⟩ := caulkref40_rising.mono_l k
  refine ⟨?_, ?_⟩
  ·intro y0 y1 y2 y3
   unfold caulkref40_rising.l0
   repeat' first
   | (with_reducible exact ih0 _ _ _ _)
   | (with_reducible exact ih1 _ _ _ _ _ _ _)
   | (with_reducible exact LeO.refl _)
   | (with_reducible exact LeO.none _)
   | (with_reducible refine LeO.ite ?_ ?_)
   | (with_reducible refine LeO.bind ?_ (fun _ => ?_))
   | exact ih0 _ _ _ _
   | exact ih1 _ _ _ _ _ _ _
   | exact LeO.none _
   | refine LeO.ite ?_ ?_
   | refine LeO.bind ?_ (fun _ => ?_)
  ·intro y0 y1 y2 y3 y4 y5 y6
   unfold caulkref40_rising.l1
   repeat' first
   | (with_reducible exact ih0 _ _ _ _)
   | (with_reducible exact ih1 _ _ _ _ _ _ _)
   | (with_reducible exact LeO.refl _)
   | (with_reducible exact LeO.none _)
   | (with_reducible refine LeO.ite ?_ ?_)
   | (with_reducible refine LeO.bind ?_ (fun _ => ?_))
   | exact ih0 _ _ _ _
   | exact ih1 _ _ _ _ _ _ _
   | exact LeO.none _
   | refine LeO.ite ?_ ?_
   | refine LeO.bind ?_ (fun _ => ?_)
theorem caulkref40_rising.mono : ∀ a0 a1 a2 k, LeO (caulkref40_rising.f k a0 a1 a2) (caulkref40_rising.f (k + 1) a0 a1 a2) := by
 intro a0 a1 a2 k
 obtain ⟨ih0, ih1⟩ := caulkref40_rising.mono_l k
 unfold caulkref40_rising.f
 repeat' first
   | (with_reducible exact ih0 _ _ _ _)
   | (with_reducible exact ih1 _ _ _ _ _ _ _)
   | (with_reducible exact LeO.refl _)
   | (with_reducible exact LeO.none _)
   | (with_reducible refine LeO.ite ?_ ?_)
   | (with_reducible refine LeO.bind ?_ (fun _ => ?_))
   | exact ih0 _ _ _ _
   | exact ih1 _ _ _ _ _ _ _
   | exact LeO.none _
   | refine LeO.ite ?_ ?_
   | refine LeO.bind ?_ (fun _ => ?_)
set_option maxHeartbeats 8000000 in
set_option maxRecDepth 100000 in
theorem caulkref40_rising.calls (k : Nat) (A0 : Option Addr) (c0 : Nat) (l0 : List (S37)) (a1 : Int) (a2 : Int) (r : List (S37)) (w : World) (hr0 : Kd.C k37 w A0 l0.length l0) (hc0 : l0.length ≤ c0) (h : caulkref40_rising.f k l0 a1 a2 = some r) :
  Calls Try.prog 69 #[.slice A0 l0.length c0, .int .i64 a1, .int .i64 a2] w fun e w' => ∃ v0_ : Value, e = .returned (v0_) ∧ Kd.R k37 37 w' w.heap.size (fun _ => True) v0_ r ∧ Below w.heap.size w w' := by
 have hu37 := Try.underlying37
 have HR0 := Aside0.mk hr0
 have HC0 := Aside0.mk hc0
 clear hr0 hc0
 have HB := Aside0.mk (Below.refl w.heap.size w)
 have H : (caulkref40_rising.l0 k l0 a2 ([] : List (S37)) a1) = some r := h
 clear h
 have H' := Aside0.mk H
 clear H
 go_enter Try.func69, Try.ntmps69
 go_wp2
 go_loopg [7, 8] k (fun kq v7 v8 w' => ∃ (x7_1 : List (S37)) (x8_1 : Int), v8 = .int .i64 x8_1 ∧ Aside0 (caulkref40_rising.l0 kq l0 a2 x7_1 x8_1 = some r) ∧ Aside0 (kq ≤ k) ∧ Aside0 (Kd.R k37 37 w' w.heap.size (fun _ => True) v7 x7_1) ∧ Aside0 (Below w.heap.size w w'))
 case atStart => exact ⟨(([] : List (S37))), (a1), (by first | rfl | (simp; done) | (simp [*]; done)), H', ⟨Nat.le_refl _⟩, ⟨by first | exact Kd.R_nil _ _ _ _ _ | exact Kd.N_nil _ _ _ _ _ | exact Kd.V_nil _ _ _ _ _ | exact Kd.Q_nil _ _ _ _ _ | exact Kd.S_nil _ _ _ _ _⟩, ⟨by repeat (first | (with_reducible first | exact HB.out | apply below_alloc | apply pw_below_drewN | apply below_drew1) | exact HB.out)⟩⟩
 case round =>
  clear H'
  try clear p2
  obtain ⟨x7_1, x8_1, rfl, HA, HK1, HO_7, HB⟩ := hrel
  cases gk with
  | zero => exact absurd HA.out (by simp [caulkref40_rising.l0])
  | succ k1 =>
   have H := HA.out
   clear HA
   simp only [caulkref40_rising.l0] at H
   by_cases c4 : x8_1 < a2
   ·rw [if_pos c4] at H
    have c4b0 : decide (x8_1 < a2) = true := decide_eq_true c4
    clear c4
    have H' := Aside0.mk H
    clear H
    go_wp2
    go_loopg [7, 19] k1 (fun kq v7 v19 w' => ∃ (x7_2 : List (S37)) (x19_2 : Int), v19 = .int .i64 x19_2 ∧ Aside0 (caulkref40_rising.l1 kq l0 a2 x7_2 x8_1 l0 (l0.length : Int) x19_2 = some r) ∧ Aside0 (kq ≤ k1) ∧ Aside0 (Kd.R k37 37 w' w.heap.size (fun _ => True) v7 x7_2) ∧ Aside0 (Below w.heap.size w w'))
    case atStart => exact ⟨(x7_1), (0), (by first | rfl | (simp; done) | (simp [*]; done)), H', ⟨Nat.le_refl _⟩, ⟨by (with_reducible repeat (first | apply Kd.R_alloc | apply Kd.R_drewN | apply Kd.R_drew)); exact HO_7.out⟩, ⟨by repeat (first | (with_reducible first | exact HB.out | apply below_alloc | apply pw_below_drewN | apply below_drew1) | exact HB.out)⟩⟩
    case round =>
     clear H'
     try clear p2
     try clear c4
     try clear c4b0
     try clear p2
     obtain ⟨x7_2, x19_2, rfl, HA, HK2, HO_7, HB⟩ := hrel
     cases gk with
     | zero => exact absurd HA.out (by simp [caulkref40_rising.l1])
     | succ k2 =>
      have H := HA.out
      clear HA
      simp only [caulkref40_rising.l1] at H
      by_cases c5 : x19_2 < (l0.length : Int)
      ·rw [if_pos c5] at H
       have c5b0 : decide (x19_2 < (l0.length : Int)) = true := decide_eq_true c5
       clear c5
       by_cases c6 : 0 ≤ x19_2
       ·rw [if_pos c6] at H
        have c6b0 : decide (0 ≤ x19_2) = true := decide_eq_true c6
        clear c6
        by_cases c7 : x19_2 < (l0.length : Int)
        ·rw [if_pos c7] at H
         have c7b0 : decide (x19_2 < (l0.length : Int)) = true := decide_eq_true c7
         clear c7
         by_cases c8 : ((rd_T37 l0 x19_2).f0) = x8_1
         ·rw [if_pos c8] at H
          have c8b0 : (((rd_T37 l0 x19_2).f0) == x8_1) = true := beq_iff_eq.mpr c8
          have c8b1 : (((rd_T37 l0 x19_2).f0) != x8_1) = false := bne_eq_false_iff_eq.mpr c8
          clear c8
          by_cases c9 : x7_2.length < 5864062014805
          ·rw [if_pos c9] at H
           have LMc9 := Aside0.mk c9
           clear c9
           obtain ⟨y7256, hy7256⟩ : ∃ y_ : List (S37), y_ = (x7_2 ++ [(⟨(rd_T37 l0 x19_2).f0, (rd_T37 l0 x19_2).f1, (rd_T37 l0 x19_2).f2⟩ : S37)]) := ⟨_, rfl⟩
           replace H : (caulkref40_rising.l1 k2 l0 a2 y7256 x8_1 l0 (l0.length : Int) (wrap64 (x19_2 + 1))) = some r := by first | (rw [hy7256]; with_reducible exact H) | (have H2_ := (Option.bind_some _ _).symm.trans H; rw [hy7256]; with_reducible exact H2_) | (have H2_ := (Option.bind_some _ _).symm.trans H; with_reducible exact H2_) | with_reducible exact H | (rw [hy7256]; exact H) | exact H
           have Ny7256 := Aside0.mk hy7256
           clear hy7256
           have H' := Aside0.mk H
           clear H
           have p7254 : 0 ≤ (x19_2 : Int) := of_decide_eq_true (by first | (with_reducible assumption) | assumption)
           have q7254 : x19_2 < (l0.length : Int) := of_decide_eq_true (by first | (with_reducible assumption) | assumption)
           obtain ⟨ad7254, e7254, hx7254_0, hx7254_1, hx7254_2⟩ := at_T37 HR0.out x19_2 p7254 q7254
           cases e7254
           replace hx7254_0 := (HB.out.cell (World.block_lt_of_cell? w _ hx7254_0)).trans hx7254_0
           replace hx7254_1 := (HB.out.cell (World.block_lt_of_cell? w _ hx7254_1)).trans hx7254_1
           replace hx7254_2 := (HB.out.cell (World.block_lt_of_cell? w _ hx7254_2)).trans hx7254_2
           replace p7254 := eq_true p7254
           replace q7254 := eq_true q7254
           go_wp2_with (first | ((with_reducible refine HOpen.gate_append ?_); simp only [List.cons_append, List.nil_append]) | ((with_reducible refine gate_dst (N := 10) rfl ?_); refine box_event ?hg (N := 10) ?hd (cs := #[.int .i64 0, .int .i64 0, .int .i64 0]) (t := 37) ?hr ?_; (case hd => rfl); (case hg => rfl); (case hr => first | (go_simp; done) | (go_simp; rfl)); intro gb7255 hg w10 hbox hb; have n0_ := Aside0.mk (Kd.R_below (Kd.R_elderB (by (with_reducible repeat (first | apply Kd.R_alloc | apply Kd.R_drewN | apply Kd.R_drew)); exact HO_7.out) gb7255 (Nat.le_of_eq hg.symm)) hb); have n1_ := Aside0.mk (below_step (by repeat (first | (with_reducible first | exact HB.out | apply below_alloc | apply pw_below_drewN | apply below_drew1) | exact HB.out)) hb); have n2_ := Aside0.mk (hbox); have n3_ := Aside0.mk ((by rw [hg]; exact (below_size (by repeat (first | (with_reducible first | exact HB.out | apply below_alloc | apply pw_below_drewN | apply below_drew1) | exact HB.out))) : w.heap.size ≤ gb7255)); have n4_ := Aside0.mk ((by rw [hg]; exact (below_size (by repeat (first | (with_reducible first | exact HB.out | apply below_alloc | apply pw_below_drewN | apply below_drew1) | exact HB.out))) : w.heap.size ≤ gb7255)); clear HO_7; clear HB; have HO_7 := n0_; have HB := n1_; have BK7255 := n2_; have GW7255 := n3_; have GE7255 := n4_; clear n0_ n1_ n2_ n3_ n4_; clear hb hbox hg; have hcz11_0 : w10.cell? ⟨gb7255, 0, none⟩ = some (.int .i64 0) := (blk_cell BK7255.out 0).trans rfl; have hcz11_1 : w10.cell? ⟨gb7255, 1, none⟩ = some (.int .i64 0) := (blk_cell BK7255.out 1).trans rfl; have hcz11_2 : w10.cell? ⟨gb7255, 2, none⟩ = some (.int .i64 0) := (blk_cell BK7255.out 2).trans rfl; have hfz11_0 := blk_frozen BK7255.out 0; have hfz11_1 := blk_frozen BK7255.out 1; have hfz11_2 := blk_frozen BK7255.out 2) | ((with_reducible refine gate_builtin (b := .append) (xs := #[.tmp 27, .tmp 29]) rfl ?_); at_builtin; refine Kd.R_append k37 (w0 := w) w.heap.size rfl (.tmp 27) (.tmp 29) 22 37 (.agg #[(.int .i64 0), (.int .i64 0), (.int .i64 0)]) 24 rfl Try.underlying22 info37 rfl (by decide) (by omega) u7 x7_2 (⟨(rd_T37 l0 x19_2).f0, (rd_T37 l0 x19_2).f1, (rd_T37 l0 x19_2).f2⟩ : S37) [.int .i64 ((rd_T37 l0 x19_2).f0), .int .i64 ((rd_T37 l0 x19_2).f1), .int .i64 ((rd_T37 l0 x19_2).f2)] (fun k_ => k_ ≠ gb7255) (fun _ => False) rfl (by first | (go_simp; done) | (go_simp; rfl)) ?aP (fun _ hk => hk.elim) ?aF ?aO ?aB ?aS ?aL ?_; (case aP => exact k37_mkM _ _ _ (⟨(rd_T37 l0 x19_2).f0, (rd_T37 l0 x19_2).f1, (rd_T37 l0 x19_2).f2⟩ : S37)); (case aB => exact (by repeat (first | (with_reducible first | exact HB.out | apply below_alloc | apply pw_below_drewN | apply below_drew1 | refine below_set ?_ GE7255.out) | exact HB.out))); (case aF => exact (fun k_ hk => Kd.freshB (g := gb7255) (o := .cells #[.int .i64 ((rd_T37 l0 x19_2).f0), .int .i64 ((rd_T37 l0 x19_2).f1), .int .i64 ((rd_T37 l0 x19_2).f2)] 37 (0, 0)) (by (with_reducible repeat (first | refine blk_drewN ?_ _ | refine blk_drew ?_ | refine blk_alloc ?_ _)); refine blk_put (cs := #[.int .i64 ((rd_T37 l0 x19_2).f0), .int .i64 ((rd_T37 l0 x19_2).f1), .int .i64 0]) ?_ 2 _ rfl; (with_reducible repeat (first | refine blk_drewN ?_ _ | refine blk_drew ?_ | refine blk_alloc ?_ _)); refine blk_put (cs := #[.int .i64 ((rd_T37 l0 x19_2).f0), .int .i64 0, .int .i64 0]) ?_ 1 _ rfl; (with_reducible repeat (first | refine blk_drewN ?_ _ | refine blk_drew ?_ | refine blk_alloc ?_ _)); refine blk_put (cs := #[.int .i64 0, .int .i64 0, .int .i64 0]) ?_ 0 _ rfl; (with_reducible repeat (first | refine blk_drewN ?_ _ | refine blk_drew ?_ | refine blk_alloc ?_ _)); exact BK7255.out) k_ hk)); (case aO => exact (by (with_reducible repeat (first | apply Kd.R_alloc | apply Kd.R_drewN | apply Kd.R_drew)); exact Kd.R_mono (Kd.R_far (p := ⟨gb7255, 2, none⟩) (Kd.R_far (p := ⟨gb7255, 1, none⟩) (Kd.R_far (p := ⟨gb7255, 0, none⟩) (Kd.R_mono HO_7.out (fun k_ hk => (⟨hk, hk.2⟩ : _ ∧ k_ ≠ gb7255))) (fun _ hk => hk.2) (.int .i64 ((rd_T37 l0 x19_2).f0))) (fun _ hk => hk.2) (.int .i64 ((rd_T37 l0 x19_2).f1))) (fun _ hk => hk.2) (.int .i64 ((rd_T37 l0 x19_2).f2))) (fun _ hk => hk.1.2))); (case aS => exact (below_size (by repeat (first | (with_reducible first | exact HB.out | apply below_alloc | apply pw_below_drewN | apply below_drew1 | refine below_set ?_ GE7255.out) | exact HB.out)))); (case aL => have := LMc9.out; omega); intro v7257 w12 ho hb hg hat; rw [← Ny7256.out] at ho; have n0_ := Aside0.mk (blk_grown (g := gb7255) (o := .cells #[.int .i64 ((rd_T37 l0 x19_2).f0), .int .i64 ((rd_T37 l0 x19_2).f1), .int .i64 ((rd_T37 l0 x19_2).f2)] 37 (0, 0)) (by (with_reducible repeat (first | refine blk_drewN ?_ _ | refine blk_drew ?_ | refine blk_alloc ?_ _)); refine blk_put (cs := #[.int .i64 ((rd_T37 l0 x19_2).f0), .int .i64 ((rd_T37 l0 x19_2).f1), .int .i64 0]) ?_ 2 _ rfl; (with_reducible repeat (first | refine blk_drewN ?_ _ | refine blk_drew ?_ | refine blk_alloc ?_ _)); refine blk_put (cs := #[.int .i64 ((rd_T37 l0 x19_2).f0), .int .i64 0, .int .i64 0]) ?_ 1 _ rfl; (with_reducible repeat (first | refine blk_drewN ?_ _ | refine blk_drew ?_ | refine blk_alloc ?_ _)); refine blk_put (cs := #[.int .i64 0, .int .i64 0, .int .i64 0]) ?_ 0 _ rfl; (with_reducible repeat (first | refine blk_drewN ?_ _ | refine blk_drew ?_ | refine blk_alloc ?_ _)); exact BK7255.out) hg (Kd.R_away HO_7.out (fun _ hk => hk.2))); have n1_ := Aside0.mk (hb); have n2_ := Aside0.mk (ho); clear BK7255; clear HB; clear HO_7; have BK7255 := n0_; have HB := n1_; have HO7258 := n2_; clear n0_ n1_ n2_; clear ho hb hg hat))
           go_roundg k2
           case measure => have := HK1.out; have := HK2.out; omega
           case rel => exact ⟨(y7256), (wrap64 (x19_2 + 1)), (by first | rfl | (simp; done) | (simp [*]; done)), H', ⟨by have := HK1.out; have := HK2.out; omega⟩, ⟨by (with_reducible repeat (first | apply Kd.R_alloc | apply Kd.R_drewN | apply Kd.R_drew)); exact Kd.R_mono HO7258.out (fun _ hk => trivial)⟩, ⟨by repeat (first | (with_reducible first | exact HB.out | apply below_alloc | apply pw_below_drewN | apply below_drew1 | refine below_set ?_ GE7255.out) | exact HB.out)⟩⟩
          ·rw [if_neg c9] at H
           exact absurd H (by simp)
         ·rw [if_neg c8] at H
          have c8b0 : (((rd_T37 l0 x19_2).f0) == x8_1) = false := beq_eq_false_iff_ne.mpr c8
          have c8b1 : (((rd_T37 l0 x19_2).f0) != x8_1) = true := bne_iff_ne.mpr c8
          have H' := Aside0.mk H
          clear H
          have p7254 : 0 ≤ (x19_2 : Int) := of_decide_eq_true (by first | (with_reducible assumption) | assumption)
          have q7254 : x19_2 < (l0.length : Int) := of_decide_eq_true (by first | (with_reducible assumption) | assumption)
          obtain ⟨ad7254, e7254, hx7254_0, hx7254_1, hx7254_2⟩ := at_T37 HR0.out x19_2 p7254 q7254
          cases e7254
          replace hx7254_0 := (HB.out.cell (World.block_lt_of_cell? w _ hx7254_0)).trans hx7254_0
          replace hx7254_1 := (HB.out.cell (World.block_lt_of_cell? w _ hx7254_1)).trans hx7254_1
          replace hx7254_2 := (HB.out.cell (World.block_lt_of_cell? w _ hx7254_2)).trans hx7254_2
          replace p7254 := eq_true p7254
          replace q7254 := eq_true q7254
          go_wp2_with (first | ((with_reducible refine HOpen.gate_append ?_); simp only [List.cons_append, List.nil_append]) | ((with_reducible refine gate_dst (N := 10) rfl ?_); refine box_event ?hg (N := 10) ?hd (cs := #[.int .i64 0, .int .i64 0, .int .i64 0]) (t := 37) ?hr ?_; (case hd => rfl); (case hg => rfl); (case hr => first | (go_simp; done) | (go_simp; rfl)); intro gb7255 hg w13 hbox hb; have n0_ := Aside0.mk (Kd.R_below (Kd.R_elderB (by (with_reducible repeat (first | apply Kd.R_alloc | apply Kd.R_drewN | apply Kd.R_drew)); exact HO_7.out) gb7255 (Nat.le_of_eq hg.symm)) hb); have n1_ := Aside0.mk (below_step (by repeat (first | (with_reducible first | exact HB.out | apply below_alloc | apply pw_below_drewN | apply below_drew1) | exact HB.out)) hb); have n2_ := Aside0.mk (hbox); have n3_ := Aside0.mk ((by rw [hg]; exact (below_size (by repeat (first | (with_reducible first | exact HB.out | apply below_alloc | apply pw_below_drewN | apply below_drew1) | exact HB.out))) : w.heap.size ≤ gb7255)); have n4_ := Aside0.mk ((by rw [hg]; exact (below_size (by repeat (first | (with_reducible first | exact HB.out | apply below_alloc | apply pw_below_drewN | apply below_drew1) | exact HB.out))) : w.heap.size ≤ gb7255)); clear HO_7; clear HB; have HO_7 := n0_; have HB := n1_; have BK7255 := n2_; have GW7255 := n3_; have GE7255 := n4_; clear n0_ n1_ n2_ n3_ n4_; clear hb hbox hg; have hcz14_0 : w13.cell? ⟨gb7255, 0, none⟩ = some (.int .i64 0) := (blk_cell BK7255.out 0).trans rfl; have hcz14_1 : w13.cell? ⟨gb7255, 1, none⟩ = some (.int .i64 0) := (blk_cell BK7255.out 1).trans rfl; have hcz14_2 : w13.cell? ⟨gb7255, 2, none⟩ = some (.int .i64 0) := (blk_cell BK7255.out 2).trans rfl; have hfz14_0 := blk_frozen BK7255.out 0; have hfz14_1 := blk_frozen BK7255.out 1; have hfz14_2 := blk_frozen BK7255.out 2))
          go_roundg k2
          case measure => have := HK1.out; have := HK2.out; omega
          case rel => exact ⟨(x7_2), (wrap64 (x19_2 + 1)), (by first | rfl | (simp; done) | (simp [*]; done)), H', ⟨by have := HK1.out; have := HK2.out; omega⟩, ⟨by (with_reducible repeat (first | apply Kd.R_alloc | apply Kd.R_drewN | apply Kd.R_drew)); exact Kd.R_mono (Kd.R_far (p := ⟨gb7255, 2, none⟩) (Kd.R_far (p := ⟨gb7255, 1, none⟩) (Kd.R_far (p := ⟨gb7255, 0, none⟩) (Kd.R_mono HO_7.out (fun k_ hk => (⟨hk, hk.2⟩ : _ ∧ k_ ≠ gb7255))) (fun _ hk => hk.2) (.int .i64 ((rd_T37 l0 x19_2).f0))) (fun _ hk => hk.2) (.int .i64 ((rd_T37 l0 x19_2).f1))) (fun _ hk => hk.2) (.int .i64 ((rd_T37 l0 x19_2).f2))) (fun _ hk => trivial)⟩, ⟨by repeat (first | (with_reducible first | exact HB.out | apply below_alloc | apply pw_below_drewN | apply below_drew1 | refine below_set ?_ GE7255.out) | exact HB.out)⟩⟩
        ·rw [if_neg c7] at H
         exact absurd H (by simp)
       ·rw [if_neg c6] at H
        exact absurd H (by simp)
      ·rw [if_neg c5] at H
       have c5b0 : decide (x19_2 < (l0.length : Int)) = false := decide_eq_false c5
       clear c5
       have H' := Aside0.mk H
       clear H
       go_wp2
       go_roundg k2
       case measure => have := HK1.out; have := HK2.out; omega
       case rel => exact ⟨(x7_2), (wrap64 (x8_1 + 1)), (by first | rfl | (simp; done) | (simp [*]; done)), H', ⟨by have := HK1.out; have := HK2.out; omega⟩, ⟨by (with_reducible repeat (first | apply Kd.R_alloc | apply Kd.R_drewN | apply Kd.R_drew)); exact HO_7.out⟩, ⟨by repeat (first | (with_reducible first | exact HB.out | apply below_alloc | apply pw_below_drewN | apply below_drew1) | exact HB.out)⟩⟩
   ·rw [if_neg c4] at H
    have c4b0 : decide (x8_1 < a2) = false := decide_eq_false c4
    clear c4
    obtain rfl := Option.some.inj H
    go_wp2
    go_ret
    exact ⟨_, by first | rfl | (simp [errW_none, errW_some] <;> rfl) | (simp [*, errW_none, errW_some] <;> rfl), by (with_reducible repeat (first | apply Kd.R_alloc | apply Kd.R_drewN | apply Kd.R_drew)); exact HO_7.out, by repeat (first | (with_reducible first | exact HB.out | apply below_alloc | apply pw_below_drewN | apply below_drew1) | exact HB.out)⟩

def caulkref40_Order.f (k : Nat) (a0 : Int) (l1 : List (S37)) : Option ((List (S37)) × Int) := (caulkref40_ready.f k a0 l1).bind fun t7259 => (if t7259 = 0 then ((caulkref40_rising.f k l1 a0 4096).bind fun t7260 => ((caulkref40_rising.f k l1 0 a0).bind fun t7263 => (if t7260.length + t7263.length < 5864062014805 then (some ((t7260 ++ t7263), 0)) else (none)))) else (some (([] : List (S37)), t7259)))
theorem caulkref40_Order.mono : ∀ a0 a1 k, LeO (caulkref40_Order.f k a0 a1) (caulkref40_Order.f (k + 1) a0 a1) := by
 intro a0 a1 k
 unfold caulkref40_Order.f
 repeat' first
   | (with_reducible exact caulkref40_ready.mono _ _ _)
   | (with_reducible exact caulkref40_rising.mono _ _ _ _)
   | (with_reducible exact LeO.refl _)
   | (with_reducible exact LeO.none _)
   | (with_reducible refine LeO.ite ?_ ?_)
   | (with_reducible refine LeO.bind ?_ (fun _ => ?_))
   | exact caulkref40_ready.mono _ _ _
   | exact caulkref40_rising.mono _ _ _ _
   | exact LeO.none _
   | refine LeO.ite ?_ ?_
   | refine LeO.bind ?_ (fun _ => ?_)
set_option maxHeartbeats 8000000 in
set_option maxRecDepth 100000 in
theorem caulkref40_Order.calls (k : Nat) (a0 : Int) (A1 : Option Addr) (c1 : Nat) (l1 : List (S37)) (r1 : List (S37)) (r2 : Int) (w : World) (hr1 : Kd.C k37 w A1 l1.length l1) (hc1 : l1.length ≤ c1) (h : caulkref40_Order.f k a0 l1 = some (r1, r2)) :
  Calls Try.prog 15 #[.int .i64 a0, .slice A1 l1.length c1] w fun e w' => ∃ v0_ : Value, e = .returned (.tuple #[v0_, .int .i64 r2]) ∧ Kd.R k37 37 w' w.heap.size (fun _ => True) v0_ r1 ∧ Below w.heap.size w w' := by
 have HR1 := Aside0.mk hr1
 have HC1 := Aside0.mk hc1
 clear hr1 hc1
 have HB := Aside0.mk (Below.refl w.heap.size w)
 have H : ((caulkref40_ready.f k a0 l1).bind fun t7259 => (if t7259 = 0 then ((caulkref40_rising.f k l1 a0 4096).bind fun t7260 => ((caulkref40_rising.f k l1 0 a0).bind fun t7263 => (if t7260.length + t7263.length < 5864062014805 then (some ((t7260 ++ t7263), 0)) else (none)))) else (some (([] : List (S37)), t7259)))) = some (r1, r2) := h
 clear h
 replace H := Option.bind_eq_some_iff.mp H
 obtain ⟨t7259, A30, H⟩ := H
 replace H : (if t7259 = 0 then ((caulkref40_rising.f k l1 a0 4096).bind fun t7260 => ((caulkref40_rising.f k l1 0 a0).bind fun t7263 => (if t7260.length + t7263.length < 5864062014805 then (some ((t7260 ++ t7263), 0)) else (none)))) else (some (([] : List (S37)), t7259))) = some (r1, r2) := H
 have A3 := Aside0.mk A30
 clear A30
 by_cases c4 : t7259 = 0
 ·rw [if_pos c4] at H
  have c4b0 : (t7259 == 0) = true := beq_iff_eq.mpr c4
  have c4b1 : (t7259 != 0) = false := bne_eq_false_iff_eq.mpr c4
  clear c4
  replace H := Option.bind_eq_some_iff.mp H
  obtain ⟨t7260, A50, H⟩ := H
  replace H : ((caulkref40_rising.f k l1 0 a0).bind fun t7263 => (if t7260.length + t7263.length < 5864062014805 then (some ((t7260 ++ t7263), 0)) else (none))) = some (r1, r2) := H
  have A5 := Aside0.mk A50
  clear A50
  replace H := Option.bind_eq_some_iff.mp H
  obtain ⟨t7263, A60, H⟩ := H
  replace H : (if t7260.length + t7263.length < 5864062014805 then (some ((t7260 ++ t7263), 0)) else (none)) = some (r1, r2) := H
  have A6 := Aside0.mk A60
  clear A60
  by_cases c7 : t7260.length + t7263.length < 5864062014805
  ·rw [if_pos c7] at H
   have LMc7 := Aside0.mk c7
   clear c7
   obtain ⟨y7266, hy7266⟩ : ∃ y_ : List (S37), y_ = (t7260 ++ t7263) := ⟨_, rfl⟩
   replace H : (some (y7266, 0)) = some (r1, r2) := by first | (rw [hy7266]; with_reducible exact H) | (have H2_ := (Option.bind_some _ _).symm.trans H; rw [hy7266]; with_reducible exact H2_) | (have H2_ := (Option.bind_some _ _).symm.trans H; with_reducible exact H2_) | with_reducible exact H | (rw [hy7266]; exact H) | exact H
   have Ny7266 := Aside0.mk hy7266
   clear hy7266
   simp only [Option.some.injEq, Prod.mk.injEq] at H
   obtain ⟨rfl, rfl⟩ := H
   go_enter Try.func15, Try.ntmps15
   go_wp2_with (first | ((with_reducible refine HOpen.gate_append ?_); simp only [List.cons_append, List.nil_append]) | ((with_reducible refine gate_callee (f := 68) rfl ?_); refine goesL_ (some 9) rfl rfl Try.func68 (by kernel_rfl) rfl #[.int .i64 a0, .slice A1 l1.length c1] rfl (by (try simp only [List.map_toArray, List.map_cons, List.map_nil]); first | done | rfl | (simp only [List.length_drop, List.length_take]; rfl)) ?_; (with_reducible refine (caulkref40_ready.calls k a0 _ _ l1 t7259 _ ?side1 ?side2 A3.out).mono ?_); (case side1 => repeat (first | exact HR1.out | (with_reducible refine Kd.C_alloc ?_ _) | (with_reducible refine Kd.C_drewN ?_ _) | (with_reducible refine Kd.C_drew ?_))); (case side2 => exact HC1.out); rintro e w8 ⟨rfl, hb⟩; refine ⟨_, rfl, ?_⟩; have n0_ := Aside0.mk (below_step (by repeat (first | (with_reducible first | exact HB.out | apply below_alloc | apply pw_below_drewN | apply below_drew1) | exact HB.out)) hb); clear HB; have HB := n0_; clear n0_; (try clear hb); (try clear hb2); (try clear hk); (try clear hi)) | ((with_reducible refine gate_callee (f := 69) rfl ?_); refine goesL_ (some 15) rfl rfl Try.func69 (by kernel_rfl) rfl #[.slice A1 l1.length c1, .int .i64 a0, .int .i64 4096] rfl (by (try simp only [List.map_toArray, List.map_cons, List.map_nil]); first | done | rfl | (simp only [List.length_drop, List.length_take]; rfl)) ?_; (with_reducible refine (caulkref40_rising.calls k _ _ l1 a0 4096 t7260 _ ?side1 ?side2 A5.out).mono ?_); (case side1 => repeat (first | exact (Kd.C_below HR1.out HB.out) | (with_reducible refine Kd.C_alloc ?_ _) | (with_reducible refine Kd.C_drewN ?_ _) | (with_reducible refine Kd.C_drew ?_))); (case side2 => exact HC1.out); rintro e w9 ⟨v7261, rfl, ho0, hb⟩; refine ⟨_, rfl, ?_⟩; have n0_ := Aside0.mk (Kd.R_lower ho0 (below_size (by repeat (first | (with_reducible first | exact HB.out | apply below_alloc | apply pw_below_drewN | apply below_drew1) | exact HB.out)))); have n1_ := Aside0.mk (below_step (by repeat (first | (with_reducible first | exact HB.out | apply below_alloc | apply pw_below_drewN | apply below_drew1) | exact HB.out)) hb); clear HB; have HO7262 := n0_; have HB := n1_; clear n0_ n1_; (try clear hb); (try clear hb2); (try clear hk); (try clear hi); (try clear ho0)) | ((with_reducible refine gate_callee (f := 69) rfl ?_); refine goesL_ (some 18) rfl rfl Try.func69 (by kernel_rfl) rfl #[.slice A1 l1.length c1, .int .i64 0, .int .i64 a0] rfl (by (try simp only [List.map_toArray, List.map_cons, List.map_nil]); first | done | rfl | (simp only [List.length_drop, List.length_take]; rfl)) ?_; (with_reducible refine (caulkref40_rising.calls k _ _ l1 0 a0 t7263 _ ?side1 ?side2 A6.out).mono ?_); (case side1 => repeat (first | exact (Kd.C_below HR1.out HB.out) | (with_reducible refine Kd.C_alloc ?_ _) | (with_reducible refine Kd.C_drewN ?_ _) | (with_reducible refine Kd.C_drew ?_))); (case side2 => exact HC1.out); rintro e w10 ⟨v7264, rfl, ho0, hb⟩; refine ⟨_, rfl, ?_⟩; have n0_ := Aside0.mk (Kd.R_elder' (by (with_reducible repeat (first | apply Kd.R_alloc | apply Kd.R_drewN | apply Kd.R_drew)); exact HO7262.out) (Kd.R_base ho0) hb); have n1_ := Aside0.mk (Kd.R_lower (Kd.R_new' ho0 (Kd.R_lt (by (with_reducible repeat (first | apply Kd.R_alloc | apply Kd.R_drewN | apply Kd.R_drew)); exact HO7262.out))) (below_size (by repeat (first | (with_reducible first | exact HB.out | apply below_alloc | apply pw_below_drewN | apply below_drew1) | exact HB.out)))); have n2_ := Aside0.mk (below_step (by repeat (first | (with_reducible first | exact HB.out | apply below_alloc | apply pw_below_drewN | apply below_drew1) | exact HB.out)) hb); clear HO7262; clear HB; have HO7262 := n0_; have HO7265 := n1_; have HB := n2_; clear n0_ n1_ n2_; (try clear hb); (try clear hb2); (try clear hk); (try clear hi); (try clear ho0); obtain ⟨Ao12, co12, eo12⟩ := Kd.R_slice HO7265.out; subst eo12) | ((with_reducible refine gate_builtin (b := .append) (xs := #[.tmp 15, .tmp 18]) rfl ?_); at_builtin; refine Kd.R_append_rows k37 (w0 := w) w.heap.size rfl (.tmp 15) (.tmp 18) 22 37 (.agg #[(.int .i64 0), (.int .i64 0), (.int .i64 0)]) 24 rfl Try.underlying22 info37 rfl (by decide) (by omega) v7261 t7260 t7263 _ _ _ (fun k_ => some k_ ≠ (.slice Ao12 t7263.length co12 : Value).ownBlock) (fun _ => False) rfl rfl ?aO ?aR (fun _ _ h => h) (fun _ h => h.elim) ?aF ?aB ?aS ?aL ?_; (case aR => repeat (first | exact (Kd.R_reads' HO7265.out).2.2 | (with_reducible refine Kd.C_alloc ?_ _) | (with_reducible refine Kd.C_drewN ?_ _) | (with_reducible refine Kd.C_drew ?_))); (case aB => exact (by repeat (first | (with_reducible first | exact HB.out | apply below_alloc | apply pw_below_drewN | apply below_drew1) | exact HB.out))); (case aF => exact (fun k_ hk => Kd.fresh' (Kd.R_lt (by (with_reducible repeat (first | apply Kd.R_alloc | apply Kd.R_drewN | apply Kd.R_drew)); exact HO7265.out)) k_ hk)); (case aO => exact (by (with_reducible repeat (first | apply Kd.R_alloc | apply Kd.R_drewN | apply Kd.R_drew)); exact Kd.R_mono HO7262.out (fun _ hk => hk.2))); (case aS => exact (below_size (by repeat (first | (with_reducible first | exact HB.out | apply below_alloc | apply pw_below_drewN | apply below_drew1) | exact HB.out)))); (case aL => have := LMc7.out; omega); intro v7267 w11 ho hb hg hat; rw [← Ny7266.out] at ho; have n0_ := Aside0.mk (Kd.R_after (ok := (fun _ => True)) (by (with_reducible repeat (first | apply Kd.R_alloc | apply Kd.R_drewN | apply Kd.R_drew)); exact HO7265.out) hg hat); have n1_ := Aside0.mk (hb); have n2_ := Aside0.mk (ho); clear HO7265; clear HB; clear HO7262; have HO7265 := n0_; have HB := n1_; have HO7268 := n2_; clear n0_ n1_ n2_; clear ho hb hg hat))
   go_ret2
   exact ⟨_, by first | rfl | (simp [errW_none, errW_some] <;> rfl) | (simp [*, errW_none, errW_some] <;> rfl), by (with_reducible repeat (first | apply Kd.R_alloc | apply Kd.R_drewN | apply Kd.R_drew)); exact Kd.R_mono HO7268.out (fun _ hk => trivial), by repeat (first | (with_reducible first | exact HB.out | apply below_alloc | apply pw_below_drewN | apply below_drew1) | exact HB.out)⟩
  ·rw [if_neg c7] at H
   exact absurd H (by simp)
 ·rw [if_neg c4] at H
  have c4b0 : (t7259 == 0) = false := beq_eq_false_iff_ne.mpr c4
  have c4b1 : (t7259 != 0) = true := bne_iff_ne.mpr c4
  simp only [Option.some.injEq, Prod.mk.injEq] at H
  obtain ⟨rfl, rfl⟩ := H
  go_enter Try.func15, Try.ntmps15
  go_wp2_with (first | ((with_reducible refine HOpen.gate_append ?_); simp only [List.cons_append, List.nil_append]) | ((with_reducible refine gate_callee (f := 68) rfl ?_); refine goesL_ (some 9) rfl rfl Try.func68 (by kernel_rfl) rfl #[.int .i64 a0, .slice A1 l1.length c1] rfl (by (try simp only [List.map_toArray, List.map_cons, List.map_nil]); first | done | rfl | (simp only [List.length_drop, List.length_take]; rfl)) ?_; (with_reducible refine (caulkref40_ready.calls k a0 _ _ l1 t7259 _ ?side1 ?side2 A3.out).mono ?_); (case side1 => repeat (first | exact HR1.out | (with_reducible refine Kd.C_alloc ?_ _) | (with_reducible refine Kd.C_drewN ?_ _) | (with_reducible refine Kd.C_drew ?_))); (case side2 => exact HC1.out); rintro e w13 ⟨rfl, hb⟩; refine ⟨_, rfl, ?_⟩; have n0_ := Aside0.mk (below_step (by repeat (first | (with_reducible first | exact HB.out | apply below_alloc | apply pw_below_drewN | apply below_drew1) | exact HB.out)) hb); clear HB; have HB := n0_; clear n0_; (try clear hb); (try clear hb2); (try clear hk); (try clear hi)))
  go_ret2
  exact ⟨_, by first | rfl | (simp [errW_none, errW_some] <;> rfl) | (simp [*, errW_none, errW_some] <;> rfl), by first | exact Kd.R_nil _ _ _ _ _ | exact Kd.N_nil _ _ _ _ _ | exact Kd.V_nil _ _ _ _ _ | exact Kd.Q_nil _ _ _ _ _ | exact Kd.S_nil _ _ _ _ _, by repeat (first | (with_reducible first | exact HB.out | apply below_alloc | apply pw_below_drewN | apply below_drew1) | exact HB.out)⟩

end Go.Proofs.Ytgahpdoiddhdaaa.HElev
