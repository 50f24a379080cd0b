/- WRITTEN BY wip/hyb.py, a program of this workplace (out of the kit's printer and this workplace's own contracts). -/
import Derived.Test.YtepbhlngcaiklaaGSpanx0
import Derived.Test.YtepbhlngcaiklaaGSpanx3
import Derived.Test.YtepbhlngcaiklaaGSpanx4
import Derived.Test.YtepbhlngcaiklaaGSpanx6
namespace Go.Proofs.Ytepbhlngcaiklaa.HSpan
open Go.RowKit Go.Proofs.YtepbhlngcaiklaaW.PrintWords Go.Proofs.YtepbhlngcaiklaaW.PrintLast Go.Proofs.YtepbhlngcaiklaaW.PrintMore
attribute [local go_sem] max2_int min2_int max_two min_two max_three min_three max_four min_four   -- for this text's walks alone
set_option linter.unusedVariables false
set_option linter.unusedSimpArgs false

mutual
def caulklaw19_SpanAll.l0 : Nat → Int → ByteArray → List (S43) → Int → Int → Int → ByteArray → List ByteArray → List (S43) → Int → Int → Int → Int → Option (Bool)
 | 0, _, _, _, _, _, _, _, _, _, _, _, _, _ => none
 | k + 1, x0, x2, x7, x10, x11, x12, x13, x14, x53, x54, x55, x319000, x319001 => if x55 < x54 then (if 0 ≤ x55 then (if x55 < (x53.length : Int) then (if (wrap64 (((rd_T43 x53 x55).f2) - ((rd_T43 x53 x55).f1))) < 1 then (caulklaw19_SpanAll.j1 k x0 x2 x7 x10 x11 x12 x13 x14 (wrap64 (((rd_T43 x53 x55).f2) - ((rd_T43 x53 x55).f1))) x53 x54 x55 true x319000 x319001 ((rd_T43 x53 x55).f0) ((rd_T43 x53 x55).f1) ((rd_T43 x53 x55).f2)) else (if (wrap64 (((rd_T43 x53 x55).f2) - ((rd_T43 x53 x55).f1))) > (x13.size : Int) then (caulklaw19_SpanAll.j1 k x0 x2 x7 x10 x11 x12 x13 x14 (wrap64 (((rd_T43 x53 x55).f2) - ((rd_T43 x53 x55).f1))) x53 x54 x55 true x319000 x319001 ((rd_T43 x53 x55).f0) ((rd_T43 x53 x55).f1) ((rd_T43 x53 x55).f2)) else (if (wrap64 ((wrap64 (((rd_T43 x53 x55).f0) * x0)) + ((rd_T43 x53 x55).f1))) = x11 then (if x55 > 0 then (if 0 ≤ (wrap64 (x55 - 1)) then (if (wrap64 (x55 - 1)) < (x7.length : Int) then (caulklaw19_SpanAll.j1 k x0 x2 x7 x10 x11 x12 x13 x14 (wrap64 (((rd_T43 x53 x55).f2) - ((rd_T43 x53 x55).f1))) x53 x54 x55 ((wrap64 (((rd_T43 x7 (wrap64 (x55 - 1))).f0) + 1)) != ((rd_T43 x53 x55).f0)) x319000 x319001 ((rd_T43 x53 x55).f0) ((rd_T43 x53 x55).f1) ((rd_T43 x53 x55).f2)) else (none)) else (none)) else (caulklaw19_SpanAll.j1 k x0 x2 x7 x10 x11 x12 x13 x14 (wrap64 (((rd_T43 x53 x55).f2) - ((rd_T43 x53 x55).f1))) x53 x54 x55 false x319000 x319001 ((rd_T43 x53 x55).f0) ((rd_T43 x53 x55).f1) ((rd_T43 x53 x55).f2))) else (caulklaw19_SpanAll.j1 k x0 x2 x7 x10 x11 x12 x13 x14 (wrap64 (((rd_T43 x53 x55).f2) - ((rd_T43 x53 x55).f1))) x53 x54 x55 true x319000 x319001 ((rd_T43 x53 x55).f0) ((rd_T43 x53 x55).f1) ((rd_T43 x53 x55).f2))))) else (none)) else (none)) else ((span_Join.f k x0 x7 x14).bind fun bt319 => (if x10 = 0 then (if x13.toList = ([] : List UInt8) then (if bt319.2 = 0 then (if bt319.1.toList = x2.toList then (some ((wrap64 (x319001 - x319000)) == x12)) else (some false)) else (some false)) else (some false)) else (some false)))
def caulklaw19_SpanAll.j1 : Nat → Int → ByteArray → List (S43) → Int → Int → Int → ByteArray → List ByteArray → Int → List (S43) → Int → Int → Bool → Int → Int → Int → Int → Int → Option (Bool)
 | 0, _, _, _, _, _, _, _, _, _, _, _, _, _, _, _, _, _, _ => none
 | k + 1, x0, x2, x7, x10, x11, x12, x13, x14, x17, x53, x54, x55, x99, x319000, x319001, x323000, x323001, x323002 => if x99 = true then (some false) else (if x17 = x0 then (if x323000 < x319000 then (some false) else (if x323000 ≥ x319001 then (some false) else (if 0 ≤ x17 then (if x17 ≤ (x13.size : Int) then (if x14.length < 8796093022208 then (caulklaw19_SpanAll.l0 k x0 x2 x7 x10 (wrap64 (x11 + x17)) (wrap64 (x12 + 1)) (x13.extract (x17 : Int).toNat x13.size) (x14 ++ [x13.extract 0 (x17 : Int).toNat]) x53 x54 (wrap64 (x55 + 1)) x319000 x319001) else (none)) else (none)) else (none)))) else (if 0 ≤ x17 then (if x17 ≤ (x13.size : Int) then (if x14.length < 8796093022208 then (caulklaw19_SpanAll.l0 k x0 x2 x7 x10 (wrap64 (x11 + x17)) x12 (x13.extract (x17 : Int).toNat x13.size) (x14 ++ [x13.extract 0 (x17 : Int).toNat]) x53 x54 (wrap64 (x55 + 1)) x319000 x319001) else (none)) else (none)) else (none)))
end
def caulklaw19_SpanAll.f (k : Nat) (a0 : Int) (a1 : Int) (a2 : ByteArray) : Option (Bool) := (caulklaw19_lives.f).bind fun t310 => (if t310 = true then (if (a2.size : Int) > 4096 then (some true) else ((span_Cut.f a0 a1 (a2.size : Int)).bind fun bt311 => ((span_Whole.f a0 a1 (a2.size : Int)).bind fun bt315 => (if bt311.2 = 0 then (caulklaw19_SpanAll.l0 k a0 a2 bt311.1 bt315.2.2 a1 0 a2 ([] : List ByteArray) bt311.1 (bt311.1.length : Int) 0 bt315.1 bt315.2.1) else (if (bt311.1.length : Int) = 0 then (some (bt315.2.2 == bt311.2)) else (some false)))))) else (some false))
theorem caulklaw19_SpanAll.mono_l : ∀ k, (∀ y0 y1 y2 y3 y4 y5 y6 y7 y8 y9 y10 y11 y12, LeO (caulklaw19_SpanAll.l0 k y0 y1 y2 y3 y4 y5 y6 y7 y8 y9 y10 y11 y12) (caulklaw19_SpanAll.l0 (k + 1) y0 y1 y2 y3 y4 y5 y6 y7 y8 y9 y10 y11 y12)) ∧ (∀ y0 y1 y2 y3 y4 y5 y6 y7 y8 y9 y10 y11 y12 y13 y14 y15 y16 y17, LeO (caulklaw19_SpanAll.j1 k y0 y1 y2 y3 y4 y5 y6 y7 y8 y9 y10 y11 y12 y13 y14 y15 y16 y17) (caulklaw19_SpanAll.j1 (k + 1) y0 y1 y2 y3 y4 y5 y6 y7 y8 y9 y10 y11 y12 y13 y14 y15 y16 y17))
 | 0 => ⟨fun _ _ _ _ _ _ _ _ _ _ _ _ _ r h => by simp [caulklaw19_SpanAll.l0] at h, fun _ _ _ _ _ _ _ _ _ _ _ _ _ _ _ _ _ _ r h => by simp [caulklaw19_SpanAll.j1] at h⟩
 | k + 1 => by
  obtain ⟨ih0, ih1⟩ := caulklaw19_SpanAll.mono_l k
  refine ⟨?_, ?_⟩
  ·intro y0 y1 y2 y3 y4 y5 y6 y7 y8 y9 y10 y11 y12
   unfold caulklaw19_SpanAll.l0
   repeat' first
   | (with_reducible exact ih0 _ _ _ _ _ _ _ _ _ _ _ _ _)
   | (with_reducible exact ih1 _ _ _ _ _ _ _ _ _ _ _ _ _ _ _ _ _ _)
   | (with_reducible exact span_Join.mono _ _ _ _)
   | (with_reducible exact LeO.refl _)
   | (with_reducible exact LeO.none _)
   | (with_reducible refine LeO.ite ?_ ?_)
   | (with_reducible refine LeO.bind ?_ (fun _ => ?_))
   | exact ih0 _ _ _ _ _ _ _ _ _ _ _ _ _
   | exact ih1 _ _ _ _ _ _ _ _ _ _ _ _ _ _ _ _ _ _
   | exact span_Join.mono _ _ _ _
   | exact LeO.none _
   | refine LeO.ite ?_ ?_
   | refine LeO.bind ?_ (fun _ => ?_)
  ·intro y0 y1 y2 y3 y4 y5 y6 y7 y8 y9 y10 y11 y12 y13 y14 y15 y16 y17
   unfold caulklaw19_SpanAll.j1
   repeat' first
   | (with_reducible exact ih0 _ _ _ _ _ _ _ _ _ _ _ _ _)
   | (with_reducible exact ih1 _ _ _ _ _ _ _ _ _ _ _ _ _ _ _ _ _ _)
   | (with_reducible exact span_Join.mono _ _ _ _)
   | (with_reducible exact LeO.refl _)
   | (with_reducible exact LeO.none _)
   | (with_reducible refine LeO.ite ?_ ?_)
   | (with_reducible refine LeO.bind ?_ (fun _ => ?_))
   | exact ih0 _ _ _ _ _ _ _ _ _ _ _ _ _
   | exact ih1 _ _ _ _ _ _ _ _ _ _ _ _ _ _ _ _ _ _
   | exact span_Join.mono _ _ _ _
   | exact LeO.none _
   | refine LeO.ite ?_ ?_
   | refine LeO.bind ?_ (fun _ => ?_)
theorem caulklaw19_SpanAll.mono : ∀ a0 a1 a2 k, LeO (caulklaw19_SpanAll.f k a0 a1 a2) (caulklaw19_SpanAll.f (k + 1) a0 a1 a2) := by
 intro a0 a1 a2 k
 obtain ⟨ih0, ih1⟩ := caulklaw19_SpanAll.mono_l k
 unfold caulklaw19_SpanAll.f
 repeat' first
   | (with_reducible exact ih0 _ _ _ _ _ _ _ _ _ _ _ _ _)
   | (with_reducible exact ih1 _ _ _ _ _ _ _ _ _ _ _ _ _ _ _ _ _ _)
   | (with_reducible exact span_Join.mono _ _ _ _)
   | (with_reducible exact LeO.refl _)
   | (with_reducible exact LeO.none _)
   | (with_reducible refine LeO.ite ?_ ?_)
   | (with_reducible refine LeO.bind ?_ (fun _ => ?_))
   | exact ih0 _ _ _ _ _ _ _ _ _ _ _ _ _
   | exact ih1 _ _ _ _ _ _ _ _ _ _ _ _ _ _ _ _ _ _
   | exact span_Join.mono _ _ _ _
   | exact LeO.none _
   | refine LeO.ite ?_ ?_
   | refine LeO.bind ?_ (fun _ => ?_)
set_option maxHeartbeats 8000000 in
set_option maxRecDepth 100000 in
theorem caulklaw19_SpanAll.calls (k : Nat) (a0 : Int) (a1 : Int) (a2 : ByteArray) (r : Bool) (w : World) (hrt : Aside0 (r = true)) (h : caulklaw19_SpanAll.f k a0 a1 a2 = some r) :
  Calls Try.prog 5 #[.int .i64 a0, .int .i64 a1, .string a2] w fun e w' => e = .returned (.bool r) ∧ Below w.heap.size w w' := by
 have hu28 := Try.underlying28
 have hu43 := Try.underlying43
 have HB := Aside0.mk (Below.refl w.heap.size w)
 have H : ((caulklaw19_lives.f).bind fun t310 => (if t310 = true then (if (a2.size : Int) > 4096 then (some true) else ((span_Cut.f a0 a1 (a2.size : Int)).bind fun bt311 => ((span_Whole.f a0 a1 (a2.size : Int)).bind fun bt315 => (if bt311.2 = 0 then (caulklaw19_SpanAll.l0 k a0 a2 bt311.1 bt315.2.2 a1 0 a2 ([] : List ByteArray) bt311.1 (bt311.1.length : Int) 0 bt315.1 bt315.2.1) else (if (bt311.1.length : Int) = 0 then (some (bt315.2.2 == bt311.2)) else (some false)))))) else (some false))) = some r := h
 clear h
 replace H := Option.bind_eq_some_iff.mp H
 obtain ⟨t310, A40, H⟩ := H
 replace H : (if t310 = true then (if (a2.size : Int) > 4096 then (some true) else ((span_Cut.f a0 a1 (a2.size : Int)).bind fun bt311 => ((span_Whole.f a0 a1 (a2.size : Int)).bind fun bt315 => (if bt311.2 = 0 then (caulklaw19_SpanAll.l0 k a0 a2 bt311.1 bt315.2.2 a1 0 a2 ([] : List ByteArray) bt311.1 (bt311.1.length : Int) 0 bt315.1 bt315.2.1) else (if (bt311.1.length : Int) = 0 then (some (bt315.2.2 == bt311.2)) else (some false)))))) else (some false)) = some r := H
 have A4 := Aside0.mk A40
 clear A40
 by_cases c5 : t310 = true
 ·subst c5
  have H1 : (if (a2.size : Int) > 4096 then (some true) else ((span_Cut.f a0 a1 (a2.size : Int)).bind fun bt311 => ((span_Whole.f a0 a1 (a2.size : Int)).bind fun bt315 => (if bt311.2 = 0 then (caulklaw19_SpanAll.l0 k a0 a2 bt311.1 bt315.2.2 a1 0 a2 ([] : List ByteArray) bt311.1 (bt311.1.length : Int) 0 bt315.1 bt315.2.1) else (if (bt311.1.length : Int) = 0 then (some (bt315.2.2 == bt311.2)) else (some false)))))) = some r := by rw [if_pos rfl] at H; exact H
  clear H
  have H := H1
  clear H1
  by_cases c6 : (a2.size : Int) > 4096
  ·rw [if_pos c6] at H
   have c6b0 : decide (4096 < (a2.size : Int)) = true := decide_eq_true c6
   have c6b1 : decide (4096 < a2.size) = true := decide_eq_true (by omega)
   clear c6
   obtain rfl := Option.some.inj H
   go_enter Try.func5, Try.ntmps5
   (try simp only [List.append_eq, List.cons_append, List.nil_append])
   go_wp2_with (first | ((with_reducible refine HOpen.gate_append ?_); simp only [List.cons_append, List.nil_append]) | (go_at_call 6; (with_reducible refine (caulklaw19_lives.calls  true _ A4.out).mono ?_); rintro e w7 ⟨rfl, hb⟩; have n0_ := Aside0.mk (below_step (by repeat (first | (with_reducible first | exact HB.out | apply below_alloc | apply pw_below_drewN | apply below_drew1) | exact HB.out)) hb); clear HB; have HB := n0_; clear n0_; (try clear hb); (try clear hb2); (try clear hk); (try clear hi)))
   repeat (go_quiet (first | (go_at_call 6; (with_reducible refine (caulklaw19_lives.calls  true _ A4.out).mono ?_); rintro e w7 ⟨rfl, hb⟩; have n0_ := Aside0.mk (below_step (by repeat (first | (with_reducible first | exact HB.out | apply below_alloc | apply pw_below_drewN | apply below_drew1) | exact HB.out)) hb); clear HB; have HB := n0_; clear n0_; (try clear hb); (try clear hb2); (try clear hk); (try clear hi))); try go_wp2_with (first | ((with_reducible refine HOpen.gate_append ?_); simp only [List.cons_append, List.nil_append]) | (go_at_call 6; (with_reducible refine (caulklaw19_lives.calls  true _ A4.out).mono ?_); rintro e w7 ⟨rfl, hb⟩; have n0_ := Aside0.mk (below_step (by repeat (first | (with_reducible first | exact HB.out | apply below_alloc | apply pw_below_drewN | apply below_drew1) | exact HB.out)) hb); clear HB; have HB := n0_; clear n0_; (try clear hb); (try clear hb2); (try clear hk); (try clear hi))))
   go_ret
   exact ⟨by first | rfl | (simp [errW_none, errW_some] <;> rfl) | (simp [*, errW_none, errW_some] <;> rfl), by repeat (first | (with_reducible first | exact HB.out | apply below_alloc | apply pw_below_drewN | apply below_drew1) | exact HB.out)⟩
  ·rw [if_neg c6] at H
   have c6b0 : decide (4096 < (a2.size : Int)) = false := decide_eq_false c6
   have c6b1 : decide (4096 < a2.size) = false := decide_eq_false (by omega)
   clear c6
   replace H := Option.bind_eq_some_iff.mp H
   obtain ⟨⟨t311, t312⟩, A80, H⟩ := H
   replace H : ((span_Whole.f a0 a1 (a2.size : Int)).bind fun bt315 => (if t312 = 0 then (caulklaw19_SpanAll.l0 k a0 a2 t311 bt315.2.2 a1 0 a2 ([] : List ByteArray) t311 (t311.length : Int) 0 bt315.1 bt315.2.1) else (if (t311.length : Int) = 0 then (some (bt315.2.2 == t312)) else (some false)))) = some r := H
   have A8 := Aside0.mk A80
   clear A80
   replace H := Option.bind_eq_some_iff.mp H
   obtain ⟨⟨t315, t316, t317⟩, A90, H⟩ := H
   replace H : (if t312 = 0 then (caulklaw19_SpanAll.l0 k a0 a2 t311 t317 a1 0 a2 ([] : List ByteArray) t311 (t311.length : Int) 0 t315 t316) else (if (t311.length : Int) = 0 then (some (t317 == t312)) else (some false))) = some r := H
   have A9 := Aside0.mk A90
   clear A90
   by_cases c10 : t312 = 0
   ·rw [if_pos c10] at H
    have c10b0 : (t312 == 0) = true := beq_iff_eq.mpr c10
    have c10b1 : (t312 != 0) = false := bne_eq_false_iff_eq.mpr c10
    clear c10
    have H' := Aside0.mk H
    clear H
    go_enter Try.func5, Try.ntmps5
    (try simp only [List.append_eq, List.cons_append, List.nil_append])
    go_wp2_with (first | ((with_reducible refine HOpen.gate_append ?_); simp only [List.cons_append, List.nil_append]) | (go_at_call 6; (with_reducible refine (caulklaw19_lives.calls  true _ A4.out).mono ?_); rintro e w11 ⟨rfl, hb⟩; have n0_ := Aside0.mk (below_step (by repeat (first | (with_reducible first | exact HB.out | apply below_alloc | apply pw_below_drewN | apply below_drew1) | exact HB.out)) hb); clear HB; have HB := n0_; clear n0_; (try clear hb); (try clear hb2); (try clear hk); (try clear hi)) | (go_at_call 7; (with_reducible refine (span_Cut.calls a0 a1 (a2.size : Int) t311 t312 _ A8.out).mono ?_); rintro e w12 ⟨v313, rfl, ho0, hb⟩; have n0_ := Aside0.mk (Kd.R_lower ho0 (below_size (by repeat (first | (with_reducible first | exact HB.out | apply below_alloc | apply pw_below_drewN | apply below_drew1) | exact HB.out)))); have n1_ := Aside0.mk (below_step (by repeat (first | (with_reducible first | exact HB.out | apply below_alloc | apply pw_below_drewN | apply below_drew1) | exact HB.out)) hb); clear HB; have HO314 := n0_; have HB := n1_; clear n0_ n1_; (try clear hb); (try clear hb2); (try clear hk); (try clear hi); (try clear ho0)) | (go_at_call 9; (with_reducible refine (span_Whole.calls a0 a1 (a2.size : Int) t315 t316 t317 _ A9.out).mono ?_); rintro e w13 ⟨rfl, hb⟩; have n0_ := Aside0.mk (Kd.R_below (by (with_reducible repeat (first | apply Kd.R_alloc | apply Kd.R_drewN | apply Kd.R_drew)); exact HO314.out) hb); have n1_ := Aside0.mk (below_step (by repeat (first | (with_reducible first | exact HB.out | apply below_alloc | apply pw_below_drewN | apply below_drew1) | exact HB.out)) hb); clear HO314; clear HB; have HO314 := n0_; have HB := n1_; clear n0_ n1_; (try clear hb); (try clear hb2); (try clear hk); (try clear hi)) | ((with_reducible refine gate_dst (N := 9) rfl ?_); (try (refine gate_guard (by rfl) ?_; dsimp only)); refine box_event ?hg (N := 9) ?hd (cs := #[.int .i64 0, .int .i64 0]) (t := 28) ?hr ?_; (case hd => rfl); (case hg => rfl); (case hr => first | (go_simp; done) | (go_simp; rfl)); intro gb318 hg w14 hbox hb; have n0_ := Aside0.mk (Kd.R_below (by (with_reducible repeat (first | apply Kd.R_alloc | apply Kd.R_drewN | apply Kd.R_drew)); exact HO314.out) hb); have n1_ := Aside0.mk (below_step (by repeat (first | (with_reducible first | exact HB.out | apply below_alloc | apply pw_below_drewN | apply below_drew1) | exact HB.out)) hb); have n2_ := Aside0.mk (hbox); have n3_ := Aside0.mk ((by rw [hg]; exact (below_size (by repeat (first | (with_reducible first | exact HB.out | apply below_alloc | apply pw_below_drewN | apply below_drew1) | exact HB.out))) : w.heap.size ≤ gb318)); have n4_ := Aside0.mk ((by rw [hg]; exact (below_size (by repeat (first | (with_reducible first | exact HB.out | apply below_alloc | apply pw_below_drewN | apply below_drew1) | exact HB.out))) : w.heap.size ≤ gb318)); clear HO314; clear HB; have HO314 := n0_; have HB := n1_; have BK318 := n2_; have GW318 := n3_; have GE318 := n4_; clear n0_ n1_ n2_ n3_ n4_; clear hb hbox hg; have hcz15_0 : w14.cell? ⟨gb318, 0, none⟩ = some (.int .i64 0) := (blk_cell BK318.out 0).trans rfl; have hcz15_1 : w14.cell? ⟨gb318, 1, none⟩ = some (.int .i64 0) := (blk_cell BK318.out 1).trans rfl; have hfz15_0 := blk_frozen BK318.out 0; have hfz15_1 := blk_frozen BK318.out 1; obtain ⟨Ao16, co16, eo16⟩ := Kd.R_slice HO314.out; subst eo16))
    repeat (go_quiet (first | (go_at_call 6; (with_reducible refine (caulklaw19_lives.calls  true _ A4.out).mono ?_); rintro e w11 ⟨rfl, hb⟩; have n0_ := Aside0.mk (below_step (by repeat (first | (with_reducible first | exact HB.out | apply below_alloc | apply pw_below_drewN | apply below_drew1) | exact HB.out)) hb); clear HB; have HB := n0_; clear n0_; (try clear hb); (try clear hb2); (try clear hk); (try clear hi)) | (go_at_call 7; (with_reducible refine (span_Cut.calls a0 a1 (a2.size : Int) t311 t312 _ A8.out).mono ?_); rintro e w12 ⟨v313, rfl, ho0, hb⟩; have n0_ := Aside0.mk (Kd.R_lower ho0 (below_size (by repeat (first | (with_reducible first | exact HB.out | apply below_alloc | apply pw_below_drewN | apply below_drew1) | exact HB.out)))); have n1_ := Aside0.mk (below_step (by repeat (first | (with_reducible first | exact HB.out | apply below_alloc | apply pw_below_drewN | apply below_drew1) | exact HB.out)) hb); clear HB; have HO314 := n0_; have HB := n1_; clear n0_ n1_; (try clear hb); (try clear hb2); (try clear hk); (try clear hi); (try clear ho0)) | (go_at_call 9; (with_reducible refine (span_Whole.calls a0 a1 (a2.size : Int) t315 t316 t317 _ A9.out).mono ?_); rintro e w13 ⟨rfl, hb⟩; have n0_ := Aside0.mk (Kd.R_below (by (with_reducible repeat (first | apply Kd.R_alloc | apply Kd.R_drewN | apply Kd.R_drew)); exact HO314.out) hb); have n1_ := Aside0.mk (below_step (by repeat (first | (with_reducible first | exact HB.out | apply below_alloc | apply pw_below_drewN | apply below_drew1) | exact HB.out)) hb); clear HO314; clear HB; have HO314 := n0_; have HB := n1_; clear n0_ n1_; (try clear hb); (try clear hb2); (try clear hk); (try clear hi)) | ((with_reducible refine gate_dst (N := 9) rfl ?_); (try (refine gate_guard (by rfl) ?_; dsimp only)); refine box_event ?hg (N := 9) ?hd (cs := #[.int .i64 0, .int .i64 0]) (t := 28) ?hr ?_; (case hd => rfl); (case hg => rfl); (case hr => first | (go_simp; done) | (go_simp; rfl)); intro gb318 hg w14 hbox hb; have n0_ := Aside0.mk (Kd.R_below (by (with_reducible repeat (first | apply Kd.R_alloc | apply Kd.R_drewN | apply Kd.R_drew)); exact HO314.out) hb); have n1_ := Aside0.mk (below_step (by repeat (first | (with_reducible first | exact HB.out | apply below_alloc | apply pw_below_drewN | apply below_drew1) | exact HB.out)) hb); have n2_ := Aside0.mk (hbox); have n3_ := Aside0.mk ((by rw [hg]; exact (below_size (by repeat (first | (with_reducible first | exact HB.out | apply below_alloc | apply pw_below_drewN | apply below_drew1) | exact HB.out))) : w.heap.size ≤ gb318)); have n4_ := Aside0.mk ((by rw [hg]; exact (below_size (by repeat (first | (with_reducible first | exact HB.out | apply below_alloc | apply pw_below_drewN | apply below_drew1) | exact HB.out))) : w.heap.size ≤ gb318)); clear HO314; clear HB; have HO314 := n0_; have HB := n1_; have BK318 := n2_; have GW318 := n3_; have GE318 := n4_; clear n0_ n1_ n2_ n3_ n4_; clear hb hbox hg; have hcz15_0 : w14.cell? ⟨gb318, 0, none⟩ = some (.int .i64 0) := (blk_cell BK318.out 0).trans rfl; have hcz15_1 : w14.cell? ⟨gb318, 1, none⟩ = some (.int .i64 0) := (blk_cell BK318.out 1).trans rfl; have hfz15_0 := blk_frozen BK318.out 0; have hfz15_1 := blk_frozen BK318.out 1; obtain ⟨Ao16, co16, eo16⟩ := Kd.R_slice HO314.out; subst eo16)); try go_wp2_with (first | ((with_reducible refine HOpen.gate_append ?_); simp only [List.cons_append, List.nil_append]) | (go_at_call 6; (with_reducible refine (caulklaw19_lives.calls  true _ A4.out).mono ?_); rintro e w11 ⟨rfl, hb⟩; have n0_ := Aside0.mk (below_step (by repeat (first | (with_reducible first | exact HB.out | apply below_alloc | apply pw_below_drewN | apply below_drew1) | exact HB.out)) hb); clear HB; have HB := n0_; clear n0_; (try clear hb); (try clear hb2); (try clear hk); (try clear hi)) | (go_at_call 7; (with_reducible refine (span_Cut.calls a0 a1 (a2.size : Int) t311 t312 _ A8.out).mono ?_); rintro e w12 ⟨v313, rfl, ho0, hb⟩; have n0_ := Aside0.mk (Kd.R_lower ho0 (below_size (by repeat (first | (with_reducible first | exact HB.out | apply below_alloc | apply pw_below_drewN | apply below_drew1) | exact HB.out)))); have n1_ := Aside0.mk (below_step (by repeat (first | (with_reducible first | exact HB.out | apply below_alloc | apply pw_below_drewN | apply below_drew1) | exact HB.out)) hb); clear HB; have HO314 := n0_; have HB := n1_; clear n0_ n1_; (try clear hb); (try clear hb2); (try clear hk); (try clear hi); (try clear ho0)) | (go_at_call 9; (with_reducible refine (span_Whole.calls a0 a1 (a2.size : Int) t315 t316 t317 _ A9.out).mono ?_); rintro e w13 ⟨rfl, hb⟩; have n0_ := Aside0.mk (Kd.R_below (by (with_reducible repeat (first | apply Kd.R_alloc | apply Kd.R_drewN | apply Kd.R_drew)); exact HO314.out) hb); have n1_ := Aside0.mk (below_step (by repeat (first | (with_reducible first | exact HB.out | apply below_alloc | apply pw_below_drewN | apply below_drew1) | exact HB.out)) hb); clear HO314; clear HB; have HO314 := n0_; have HB := n1_; clear n0_ n1_; (try clear hb); (try clear hb2); (try clear hk); (try clear hi)) | ((with_reducible refine gate_dst (N := 9) rfl ?_); (try (refine gate_guard (by rfl) ?_; dsimp only)); refine box_event ?hg (N := 9) ?hd (cs := #[.int .i64 0, .int .i64 0]) (t := 28) ?hr ?_; (case hd => rfl); (case hg => rfl); (case hr => first | (go_simp; done) | (go_simp; rfl)); intro gb318 hg w14 hbox hb; have n0_ := Aside0.mk (Kd.R_below (by (with_reducible repeat (first | apply Kd.R_alloc | apply Kd.R_drewN | apply Kd.R_drew)); exact HO314.out) hb); have n1_ := Aside0.mk (below_step (by repeat (first | (with_reducible first | exact HB.out | apply below_alloc | apply pw_below_drewN | apply below_drew1) | exact HB.out)) hb); have n2_ := Aside0.mk (hbox); have n3_ := Aside0.mk ((by rw [hg]; exact (below_size (by repeat (first | (with_reducible first | exact HB.out | apply below_alloc | apply pw_below_drewN | apply below_drew1) | exact HB.out))) : w.heap.size ≤ gb318)); have n4_ := Aside0.mk ((by rw [hg]; exact (below_size (by repeat (first | (with_reducible first | exact HB.out | apply below_alloc | apply pw_below_drewN | apply below_drew1) | exact HB.out))) : w.heap.size ≤ gb318)); clear HO314; clear HB; have HO314 := n0_; have HB := n1_; have BK318 := n2_; have GW318 := n3_; have GE318 := n4_; clear n0_ n1_ n2_ n3_ n4_; clear hb hbox hg; have hcz15_0 : w14.cell? ⟨gb318, 0, none⟩ = some (.int .i64 0) := (blk_cell BK318.out 0).trans rfl; have hcz15_1 : w14.cell? ⟨gb318, 1, none⟩ = some (.int .i64 0) := (blk_cell BK318.out 1).trans rfl; have hfz15_0 := blk_frozen BK318.out 0; have hfz15_1 := blk_frozen BK318.out 1; obtain ⟨Ao16, co16, eo16⟩ := Kd.R_slice HO314.out; subst eo16)))
    go_loopg [11, 12, 13, 14, 55] k (fun kq v11 v12 v13 v14 v55 w' => ∃ (x11_1 : Int) (x12_1 : Int) (x13_1 : ByteArray) (x14_1 : List ByteArray) (x55_1 : Int), v11 = .int .i64 x11_1 ∧ v12 = .int .i64 x12_1 ∧ v13 = .string x13_1 ∧ v55 = .int .i64 x55_1 ∧ Aside0 (caulklaw19_SpanAll.l0 kq a0 a2 t311 t317 x11_1 x12_1 x13_1 x14_1 t311 (t311.length : Int) x55_1 t315 t316 = some r) ∧ Aside0 (kq ≤ k) ∧ Aside0 (Kd.R k43 43 w' w.heap.size (fun _ => True) (.slice Ao16 t311.length co16) t311) ∧ Aside0 (Kd.R Kd.string 9 w' w.heap.size (fun _ => True) v14 x14_1) ∧ Aside0 (Kd.R k43 43 w' w.heap.size (fun _ => True) (.slice Ao16 t311.length co16) t311) ∧ Aside0 (w'.heap[gb318]? = some (.cells #[.int .i64 t315, .int .i64 t316] 28 (0, 0))) ∧ Aside0 (Below w.heap.size w w'))
    case atStart => exact ⟨(a1), (0), (a2), (([] : List ByteArray)), (0), (by first | rfl | (simp; done) | (simp [*]; done)), (by first | rfl | (simp; done) | (simp [*]; done)), (by first | rfl | (simp; done) | (simp [*]; done)), (by first | rfl | (simp; done) | (simp [*]; done)), H', ⟨Nat.le_refl _⟩, ⟨by (with_reducible repeat (first | apply Kd.R_alloc | apply Kd.R_drewN | apply Kd.R_drew)); exact Kd.R_mono (Kd.R_far (p := ⟨gb318, 1, none⟩) (Kd.R_far (p := ⟨gb318, 0, none⟩) (Kd.R_types HO314.out BK318.out (by decide)) (fun _ hk => hk.2) (.int .i64 t315)) (fun _ hk => hk.2) (.int .i64 t316)) (fun _ hk => trivial)⟩, ⟨by first | exact Kd.R_nil _ _ _ _ _ | exact Kd.N_nil _ _ _ _ _ | exact Kd.V_nil _ _ _ _ _ | exact Kd.Q_nil _ _ _ _ _ | exact Kd.S_nil _ _ _ _ _⟩, ⟨by (with_reducible repeat (first | apply Kd.R_alloc | apply Kd.R_drewN | apply Kd.R_drew)); exact Kd.R_mono (Kd.R_far (p := ⟨gb318, 1, none⟩) (Kd.R_far (p := ⟨gb318, 0, none⟩) (Kd.R_types HO314.out BK318.out (by decide)) (fun _ hk => hk.2) (.int .i64 t315)) (fun _ hk => hk.2) (.int .i64 t316)) (fun _ hk => trivial)⟩, ⟨by (with_reducible repeat (first | refine blk_drewN ?_ _ | refine blk_drew ?_ | refine blk_alloc ?_ _)); refine blk_put (cs := #[.int .i64 t315, .int .i64 0]) ?_ 1 _ rfl; (with_reducible repeat (first | refine blk_drewN ?_ _ | refine blk_drew ?_ | refine blk_alloc ?_ _)); refine blk_put (cs := #[.int .i64 0, .int .i64 0]) ?_ 0 _ rfl; (with_reducible repeat (first | refine blk_drewN ?_ _ | refine blk_drew ?_ | refine blk_alloc ?_ _)); exact BK318.out⟩, ⟨by repeat (first | (with_reducible first | exact HB.out | apply below_alloc | apply pw_below_drewN | apply below_drew1 | refine below_set ?_ GE318.out) | exact HB.out)⟩⟩
    case round =>
     clear H'
     try clear c1
     try clear p2
     try clear c5
     try clear c6
     try clear c6b0
     try clear c6b1
     try clear c10
     try clear c10b0
     try clear c10b1
     try clear hcz15_0
     try clear hcz15_1
     try clear hfz15_0
     try clear hfz15_1
     obtain ⟨x11_1, x12_1, x13_1, x14_1, x55_1, rfl, rfl, rfl, rfl, HA, HK1, HO_7, HO_14, HO_53, BK318, HB⟩ := hrel
     cases gk with
     | zero => exact absurd HA.out (by simp [caulklaw19_SpanAll.l0])
     | succ k1 =>
      have H := HA.out
      clear HA
      simp only [caulklaw19_SpanAll.l0] at H
      by_cases c17 : x55_1 < (t311.length : Int)
      ·rw [if_pos c17] at H
       have c17b0 : decide (x55_1 < (t311.length : Int)) = true := decide_eq_true c17
       clear c17
       by_cases c18 : 0 ≤ x55_1
       ·rw [if_pos c18] at H
        have c18b0 : decide (0 ≤ x55_1) = true := decide_eq_true c18
        clear c18
        by_cases c19 : x55_1 < (t311.length : Int)
        ·rw [if_pos c19] at H
         have c19b0 : decide (x55_1 < (t311.length : Int)) = true := decide_eq_true c19
         clear c19
         have HC20 := Aside0.mk H
         clear H
         have p321 : 0 ≤ (x55_1 : Int) := of_decide_eq_true (by first | (with_reducible assumption) | assumption)
         have q321 : x55_1 < (t311.length : Int) := of_decide_eq_true (by first | (with_reducible assumption) | assumption)
         obtain ⟨ad321, e321, hx321_0, hx321_1, hx321_2⟩ := at_T43 (Kd.R_reads' HO_53.out).2.2 x55_1 p321 q321
         cases e321
         replace p321 := eq_true p321
         replace q321 := eq_true q321
         go_upto_region 16 with (first | ((with_reducible refine gate_dst (N := 16) rfl ?_); (try (refine gate_guard (by rfl) ?_; dsimp only)); refine box_event ?hg (N := 16) ?hd (cs := #[.int .i64 0, .int .i64 0, .int .i64 0]) (t := 43) ?hr ?_; (case hd => rfl); (case hg => rfl); (case hr => first | (go_simp; done) | (go_simp; rfl)); intro gb322 hg w21 hbox hb; have n0_ := Aside0.mk (Kd.R_below (Kd.R_elderB (by (with_reducible repeat (first | apply Kd.R_alloc | apply Kd.R_drewN | apply Kd.R_drew)); exact HO_7.out) gb322 (Nat.le_of_eq hg.symm)) hb); have n1_ := Aside0.mk (Kd.R_below (by (with_reducible repeat (first | apply Kd.R_alloc | apply Kd.R_drewN | apply Kd.R_drew)); exact HO_14.out) hb); have n2_ := Aside0.mk (Kd.R_below (Kd.R_elderB (by (with_reducible repeat (first | apply Kd.R_alloc | apply Kd.R_drewN | apply Kd.R_drew)); exact HO_53.out) gb322 (Nat.le_of_eq hg.symm)) hb); have n3_ := Aside0.mk (blk_below (g := gb318) (o := .cells #[.int .i64 t315, .int .i64 t316] 28 (0, 0)) (by (with_reducible repeat (first | refine blk_drewN ?_ _ | refine blk_drew ?_ | refine blk_alloc ?_ _)); exact BK318.out) hb); have n4_ := Aside0.mk (below_step (by repeat (first | (with_reducible first | exact HB.out | apply below_alloc | apply pw_below_drewN | apply below_drew1 | refine below_set ?_ GE318.out) | exact HB.out)) hb); have n5_ := Aside0.mk (hbox); have n6_ := Aside0.mk ((by rw [hg]; exact (below_size (by repeat (first | (with_reducible first | exact HB.out | apply below_alloc | apply pw_below_drewN | apply below_drew1 | refine below_set ?_ GE318.out) | exact HB.out))) : w.heap.size ≤ gb322)); have n7_ := Aside0.mk ((by rw [hg]; exact (below_size (by repeat (first | (with_reducible first | exact HB.out | apply below_alloc | apply pw_below_drewN | apply below_drew1 | refine below_set ?_ GE318.out) | exact HB.out))) : w.heap.size ≤ gb322)); have n8_ := Aside0.mk ((by rw [hg]; exact Nat.ne_of_lt (blk_lt (g := gb318) (o := .cells #[.int .i64 t315, .int .i64 t316] 28 (0, 0)) (by (with_reducible repeat (first | refine blk_drewN ?_ _ | refine blk_drew ?_ | refine blk_alloc ?_ _)); exact BK318.out)) : gb318 ≠ gb322)); have n9_ := Aside0.mk ((by rw [hg]; exact Nat.ne_of_gt (blk_lt (g := gb318) (o := .cells #[.int .i64 t315, .int .i64 t316] 28 (0, 0)) (by (with_reducible repeat (first | refine blk_drewN ?_ _ | refine blk_drew ?_ | refine blk_alloc ?_ _)); exact BK318.out)) : gb322 ≠ gb318)); clear HO_7; clear HO_14; clear HO_53; clear BK318; clear HB; have HO_7 := n0_; have HO_14 := n1_; have HO_53 := n2_; have BK318 := n3_; have HB := n4_; have BK322 := n5_; have GW322 := n6_; have GE322 := n7_; have NB318_322 := n8_; have NB322_318 := n9_; clear n0_ n1_ n2_ n3_ n4_ n5_ n6_ n7_ n8_ n9_; clear hb hbox hg; have hnb22 := NB322_318.out; have hnc22 := NB318_322.out; have hcz23_0 : w21.cell? ⟨gb322, 0, none⟩ = some (.int .i64 0) := (blk_cell BK322.out 0).trans rfl; have hcz23_1 : w21.cell? ⟨gb322, 1, none⟩ = some (.int .i64 0) := (blk_cell BK322.out 1).trans rfl; have hcz23_2 : w21.cell? ⟨gb322, 2, none⟩ = some (.int .i64 0) := (blk_cell BK322.out 2).trans rfl; have hfz23_0 := blk_frozen BK322.out 0; have hfz23_1 := blk_frozen BK322.out 1; have hfz23_2 := blk_frozen BK322.out 2))
         repeat (go_quiet (first | ((with_reducible refine gate_dst (N := 16) rfl ?_); (try (refine gate_guard (by rfl) ?_; dsimp only)); refine box_event ?hg (N := 16) ?hd (cs := #[.int .i64 0, .int .i64 0, .int .i64 0]) (t := 43) ?hr ?_; (case hd => rfl); (case hg => rfl); (case hr => first | (go_simp; done) | (go_simp; rfl)); intro gb322 hg w21 hbox hb; have n0_ := Aside0.mk (Kd.R_below (Kd.R_elderB (by (with_reducible repeat (first | apply Kd.R_alloc | apply Kd.R_drewN | apply Kd.R_drew)); exact HO_7.out) gb322 (Nat.le_of_eq hg.symm)) hb); have n1_ := Aside0.mk (Kd.R_below (by (with_reducible repeat (first | apply Kd.R_alloc | apply Kd.R_drewN | apply Kd.R_drew)); exact HO_14.out) hb); have n2_ := Aside0.mk (Kd.R_below (Kd.R_elderB (by (with_reducible repeat (first | apply Kd.R_alloc | apply Kd.R_drewN | apply Kd.R_drew)); exact HO_53.out) gb322 (Nat.le_of_eq hg.symm)) hb); have n3_ := Aside0.mk (blk_below (g := gb318) (o := .cells #[.int .i64 t315, .int .i64 t316] 28 (0, 0)) (by (with_reducible repeat (first | refine blk_drewN ?_ _ | refine blk_drew ?_ | refine blk_alloc ?_ _)); exact BK318.out) hb); have n4_ := Aside0.mk (below_step (by repeat (first | (with_reducible first | exact HB.out | apply below_alloc | apply pw_below_drewN | apply below_drew1 | refine below_set ?_ GE318.out) | exact HB.out)) hb); have n5_ := Aside0.mk (hbox); have n6_ := Aside0.mk ((by rw [hg]; exact (below_size (by repeat (first | (with_reducible first | exact HB.out | apply below_alloc | apply pw_below_drewN | apply below_drew1 | refine below_set ?_ GE318.out) | exact HB.out))) : w.heap.size ≤ gb322)); have n7_ := Aside0.mk ((by rw [hg]; exact (below_size (by repeat (first | (with_reducible first | exact HB.out | apply below_alloc | apply pw_below_drewN | apply below_drew1 | refine below_set ?_ GE318.out) | exact HB.out))) : w.heap.size ≤ gb322)); have n8_ := Aside0.mk ((by rw [hg]; exact Nat.ne_of_lt (blk_lt (g := gb318) (o := .cells #[.int .i64 t315, .int .i64 t316] 28 (0, 0)) (by (with_reducible repeat (first | refine blk_drewN ?_ _ | refine blk_drew ?_ | refine blk_alloc ?_ _)); exact BK318.out)) : gb318 ≠ gb322)); have n9_ := Aside0.mk ((by rw [hg]; exact Nat.ne_of_gt (blk_lt (g := gb318) (o := .cells #[.int .i64 t315, .int .i64 t316] 28 (0, 0)) (by (with_reducible repeat (first | refine blk_drewN ?_ _ | refine blk_drew ?_ | refine blk_alloc ?_ _)); exact BK318.out)) : gb322 ≠ gb318)); clear HO_7; clear HO_14; clear HO_53; clear BK318; clear HB; have HO_7 := n0_; have HO_14 := n1_; have HO_53 := n2_; have BK318 := n3_; have HB := n4_; have BK322 := n5_; have GW322 := n6_; have GE322 := n7_; have NB318_322 := n8_; have NB322_318 := n9_; clear n0_ n1_ n2_ n3_ n4_ n5_ n6_ n7_ n8_ n9_; clear hb hbox hg; have hnb22 := NB322_318.out; have hnc22 := NB318_322.out; have hcz23_0 : w21.cell? ⟨gb322, 0, none⟩ = some (.int .i64 0) := (blk_cell BK322.out 0).trans rfl; have hcz23_1 : w21.cell? ⟨gb322, 1, none⟩ = some (.int .i64 0) := (blk_cell BK322.out 1).trans rfl; have hcz23_2 : w21.cell? ⟨gb322, 2, none⟩ = some (.int .i64 0) := (blk_cell BK322.out 2).trans rfl; have hfz23_0 := blk_frozen BK322.out 0; have hfz23_1 := blk_frozen BK322.out 1; have hfz23_2 := blk_frozen BK322.out 2)); go_upto_region 16 with (first | ((with_reducible refine gate_dst (N := 16) rfl ?_); (try (refine gate_guard (by rfl) ?_; dsimp only)); refine box_event ?hg (N := 16) ?hd (cs := #[.int .i64 0, .int .i64 0, .int .i64 0]) (t := 43) ?hr ?_; (case hd => rfl); (case hg => rfl); (case hr => first | (go_simp; done) | (go_simp; rfl)); intro gb322 hg w21 hbox hb; have n0_ := Aside0.mk (Kd.R_below (Kd.R_elderB (by (with_reducible repeat (first | apply Kd.R_alloc | apply Kd.R_drewN | apply Kd.R_drew)); exact HO_7.out) gb322 (Nat.le_of_eq hg.symm)) hb); have n1_ := Aside0.mk (Kd.R_below (by (with_reducible repeat (first | apply Kd.R_alloc | apply Kd.R_drewN | apply Kd.R_drew)); exact HO_14.out) hb); have n2_ := Aside0.mk (Kd.R_below (Kd.R_elderB (by (with_reducible repeat (first | apply Kd.R_alloc | apply Kd.R_drewN | apply Kd.R_drew)); exact HO_53.out) gb322 (Nat.le_of_eq hg.symm)) hb); have n3_ := Aside0.mk (blk_below (g := gb318) (o := .cells #[.int .i64 t315, .int .i64 t316] 28 (0, 0)) (by (with_reducible repeat (first | refine blk_drewN ?_ _ | refine blk_drew ?_ | refine blk_alloc ?_ _)); exact BK318.out) hb); have n4_ := Aside0.mk (below_step (by repeat (first | (with_reducible first | exact HB.out | apply below_alloc | apply pw_below_drewN | apply below_drew1 | refine below_set ?_ GE318.out) | exact HB.out)) hb); have n5_ := Aside0.mk (hbox); have n6_ := Aside0.mk ((by rw [hg]; exact (below_size (by repeat (first | (with_reducible first | exact HB.out | apply below_alloc | apply pw_below_drewN | apply below_drew1 | refine below_set ?_ GE318.out) | exact HB.out))) : w.heap.size ≤ gb322)); have n7_ := Aside0.mk ((by rw [hg]; exact (below_size (by repeat (first | (with_reducible first | exact HB.out | apply below_alloc | apply pw_below_drewN | apply below_drew1 | refine below_set ?_ GE318.out) | exact HB.out))) : w.heap.size ≤ gb322)); have n8_ := Aside0.mk ((by rw [hg]; exact Nat.ne_of_lt (blk_lt (g := gb318) (o := .cells #[.int .i64 t315, .int .i64 t316] 28 (0, 0)) (by (with_reducible repeat (first | refine blk_drewN ?_ _ | refine blk_drew ?_ | refine blk_alloc ?_ _)); exact BK318.out)) : gb318 ≠ gb322)); have n9_ := Aside0.mk ((by rw [hg]; exact Nat.ne_of_gt (blk_lt (g := gb318) (o := .cells #[.int .i64 t315, .int .i64 t316] 28 (0, 0)) (by (with_reducible repeat (first | refine blk_drewN ?_ _ | refine blk_drew ?_ | refine blk_alloc ?_ _)); exact BK318.out)) : gb322 ≠ gb318)); clear HO_7; clear HO_14; clear HO_53; clear BK318; clear HB; have HO_7 := n0_; have HO_14 := n1_; have HO_53 := n2_; have BK318 := n3_; have HB := n4_; have BK322 := n5_; have GW322 := n6_; have GE322 := n7_; have NB318_322 := n8_; have NB322_318 := n9_; clear n0_ n1_ n2_ n3_ n4_ n5_ n6_ n7_ n8_ n9_; clear hb hbox hg; have hnb22 := NB322_318.out; have hnc22 := NB318_322.out; have hcz23_0 : w21.cell? ⟨gb322, 0, none⟩ = some (.int .i64 0) := (blk_cell BK322.out 0).trans rfl; have hcz23_1 : w21.cell? ⟨gb322, 1, none⟩ = some (.int .i64 0) := (blk_cell BK322.out 1).trans rfl; have hcz23_2 : w21.cell? ⟨gb322, 2, none⟩ = some (.int .i64 0) := (blk_cell BK322.out 2).trans rfl; have hfz23_0 := blk_frozen BK322.out 0; have hfz23_1 := blk_frozen BK322.out 1; have hfz23_2 := blk_frozen BK322.out 2)))
         (try simp only [Act.put, List.setIfInBounds_toArray, List.set_cons_zero, List.set_cons_succ])
         go_cut [99] (fun v99 wc => ∃ (kq : Nat) (x99_19 : Bool), v99 = .bool x99_19 ∧ Aside0 (caulklaw19_SpanAll.j1 kq a0 a2 t311 t317 x11_1 x12_1 x13_1 x14_1 (wrap64 (((rd_T43 t311 x55_1).f2) - ((rd_T43 t311 x55_1).f1))) t311 (t311.length : Int) x55_1 x99_19 t315 t316 ((rd_T43 t311 x55_1).f0) ((rd_T43 t311 x55_1).f1) ((rd_T43 t311 x55_1).f2) = some r) ∧ Aside0 (kq ≤ k1) ∧ Aside0 (Kd.R k43 43 wc w.heap.size (fun k_ => k_ ≠ gb322) (.slice (some ad321) t311.length co16) t311) ∧ Aside0 (Kd.R Kd.string 9 wc w.heap.size (fun _ => True) u14 x14_1) ∧ Aside0 (Kd.R k43 43 wc w.heap.size (fun k_ => k_ ≠ gb322) (.slice (some ad321) t311.length co16) t311) ∧ Aside0 (wc.heap[gb318]? = some (.cells #[.int .i64 t315, .int .i64 t316] 28 (0, 0))) ∧ Aside0 (wc.heap[gb322]? = some (.cells #[.int .i64 ((rd_T43 t311 x55_1).f0), .int .i64 ((rd_T43 t311 x55_1).f1), .int .i64 ((rd_T43 t311 x55_1).f2)] 43 (0, 0))) ∧ Aside0 (Below w.heap.size w wc))
         case first =>
          have H := HC20.out
          clear HC20
          by_cases c24 : (wrap64 (((rd_T43 t311 x55_1).f2) - ((rd_T43 t311 x55_1).f1))) < 1
          ·rw [if_pos c24] at H
           have c24b0 : decide ((wrap64 (((rd_T43 t311 x55_1).f2) - ((rd_T43 t311 x55_1).f1))) < 1) = true := decide_eq_true c24
           clear c24
           (first | rw [c24b0] | (simp only [i64_w, i32_w]; rw [c24b0]) | skip)
           have H' := Aside0.mk H
           clear H
           go_wp2
           repeat (go_quiet (fail); try go_wp2)
           go_meet
           case rel => exact ⟨_, (true), (by first | rfl | (simp; done) | (simp [*]; done)), H', ⟨by have := HK1.out; first | omega | exact Nat.le_refl _⟩, ⟨by (with_reducible repeat (first | apply Kd.R_alloc | apply Kd.R_drewN | apply Kd.R_drew)); exact Kd.R_mono (Kd.R_far (p := ⟨gb322, 2, none⟩) (Kd.R_far (p := ⟨gb322, 1, none⟩) (Kd.R_far (p := ⟨gb322, 0, none⟩) (Kd.R_mono HO_7.out (fun k_ hk => (⟨hk, hk.2⟩ : _ ∧ k_ ≠ gb322))) (fun _ hk => hk.2) (.int .i64 ((rd_T43 t311 x55_1).f0))) (fun _ hk => hk.2) (.int .i64 ((rd_T43 t311 x55_1).f1))) (fun _ hk => hk.2) (.int .i64 ((rd_T43 t311 x55_1).f2))) (fun _ hk => hk.1.2)⟩, ⟨by (with_reducible repeat (first | apply Kd.R_alloc | apply Kd.R_drewN | apply Kd.R_drew)); exact Kd.R_mono (Kd.R_far (p := ⟨gb322, 2, none⟩) (Kd.R_far (p := ⟨gb322, 1, none⟩) (Kd.R_far (p := ⟨gb322, 0, none⟩) (Kd.R_types HO_14.out BK322.out (by decide)) (fun _ hk => hk.2) (.int .i64 ((rd_T43 t311 x55_1).f0))) (fun _ hk => hk.2) (.int .i64 ((rd_T43 t311 x55_1).f1))) (fun _ hk => hk.2) (.int .i64 ((rd_T43 t311 x55_1).f2))) (fun _ hk => trivial)⟩, ⟨by (with_reducible repeat (first | apply Kd.R_alloc | apply Kd.R_drewN | apply Kd.R_drew)); exact Kd.R_mono (Kd.R_far (p := ⟨gb322, 2, none⟩) (Kd.R_far (p := ⟨gb322, 1, none⟩) (Kd.R_far (p := ⟨gb322, 0, none⟩) (Kd.R_mono HO_53.out (fun k_ hk => (⟨hk, hk.2⟩ : _ ∧ k_ ≠ gb322))) (fun _ hk => hk.2) (.int .i64 ((rd_T43 t311 x55_1).f0))) (fun _ hk => hk.2) (.int .i64 ((rd_T43 t311 x55_1).f1))) (fun _ hk => hk.2) (.int .i64 ((rd_T43 t311 x55_1).f2))) (fun _ hk => hk.1.2)⟩, ⟨by (with_reducible repeat (first | refine blk_drewN ?_ _ | refine blk_drew ?_ | refine blk_alloc ?_ _)); refine blk_far ?_ NB318_322.out _; (with_reducible repeat (first | refine blk_drewN ?_ _ | refine blk_drew ?_ | refine blk_alloc ?_ _)); refine blk_far ?_ NB318_322.out _; (with_reducible repeat (first | refine blk_drewN ?_ _ | refine blk_drew ?_ | refine blk_alloc ?_ _)); refine blk_far ?_ NB318_322.out _; (with_reducible repeat (first | refine blk_drewN ?_ _ | refine blk_drew ?_ | refine blk_alloc ?_ _)); exact BK318.out⟩, ⟨by (with_reducible repeat (first | refine blk_drewN ?_ _ | refine blk_drew ?_ | refine blk_alloc ?_ _)); refine blk_put (cs := #[.int .i64 ((rd_T43 t311 x55_1).f0), .int .i64 ((rd_T43 t311 x55_1).f1), .int .i64 0]) ?_ 2 _ rfl; (with_reducible repeat (first | refine blk_drewN ?_ _ | refine blk_drew ?_ | refine blk_alloc ?_ _)); refine blk_put (cs := #[.int .i64 ((rd_T43 t311 x55_1).f0), .int .i64 0, .int .i64 0]) ?_ 1 _ rfl; (with_reducible repeat (first | refine blk_drewN ?_ _ | refine blk_drew ?_ | refine blk_alloc ?_ _)); refine blk_put (cs := #[.int .i64 0, .int .i64 0, .int .i64 0]) ?_ 0 _ rfl; (with_reducible repeat (first | refine blk_drewN ?_ _ | refine blk_drew ?_ | refine blk_alloc ?_ _)); exact BK322.out⟩, ⟨by repeat (first | (with_reducible first | exact HB.out | apply below_alloc | apply pw_below_drewN | apply below_drew1 | refine below_set ?_ GE318.out | refine below_set ?_ GE322.out) | exact HB.out)⟩⟩
          ·rw [if_neg c24] at H
           have c24b0 : decide ((wrap64 (((rd_T43 t311 x55_1).f2) - ((rd_T43 t311 x55_1).f1))) < 1) = false := decide_eq_false c24
           clear c24
           (first | rw [c24b0] | (simp only [i64_w, i32_w]; rw [c24b0]) | skip)
           by_cases c25 : (wrap64 (((rd_T43 t311 x55_1).f2) - ((rd_T43 t311 x55_1).f1))) > (x13_1.size : Int)
           ·rw [if_pos c25] at H
            have c25b0 : decide ((x13_1.size : Int) < (wrap64 (((rd_T43 t311 x55_1).f2) - ((rd_T43 t311 x55_1).f1)))) = true := decide_eq_true c25
            clear c25
            have H' := Aside0.mk H
            clear H
            go_wp2
            repeat (go_quiet (fail); try go_wp2)
            go_meet
            case rel => exact ⟨_, (true), (by first | rfl | (simp; done) | (simp [*]; done)), H', ⟨by have := HK1.out; first | omega | exact Nat.le_refl _⟩, ⟨by (with_reducible repeat (first | apply Kd.R_alloc | apply Kd.R_drewN | apply Kd.R_drew)); exact Kd.R_mono (Kd.R_far (p := ⟨gb322, 2, none⟩) (Kd.R_far (p := ⟨gb322, 1, none⟩) (Kd.R_far (p := ⟨gb322, 0, none⟩) (Kd.R_mono HO_7.out (fun k_ hk => (⟨hk, hk.2⟩ : _ ∧ k_ ≠ gb322))) (fun _ hk => hk.2) (.int .i64 ((rd_T43 t311 x55_1).f0))) (fun _ hk => hk.2) (.int .i64 ((rd_T43 t311 x55_1).f1))) (fun _ hk => hk.2) (.int .i64 ((rd_T43 t311 x55_1).f2))) (fun _ hk => hk.1.2)⟩, ⟨by (with_reducible repeat (first | apply Kd.R_alloc | apply Kd.R_drewN | apply Kd.R_drew)); exact Kd.R_mono (Kd.R_far (p := ⟨gb322, 2, none⟩) (Kd.R_far (p := ⟨gb322, 1, none⟩) (Kd.R_far (p := ⟨gb322, 0, none⟩) (Kd.R_types HO_14.out BK322.out (by decide)) (fun _ hk => hk.2) (.int .i64 ((rd_T43 t311 x55_1).f0))) (fun _ hk => hk.2) (.int .i64 ((rd_T43 t311 x55_1).f1))) (fun _ hk => hk.2) (.int .i64 ((rd_T43 t311 x55_1).f2))) (fun _ hk => trivial)⟩, ⟨by (with_reducible repeat (first | apply Kd.R_alloc | apply Kd.R_drewN | apply Kd.R_drew)); exact Kd.R_mono (Kd.R_far (p := ⟨gb322, 2, none⟩) (Kd.R_far (p := ⟨gb322, 1, none⟩) (Kd.R_far (p := ⟨gb322, 0, none⟩) (Kd.R_mono HO_53.out (fun k_ hk => (⟨hk, hk.2⟩ : _ ∧ k_ ≠ gb322))) (fun _ hk => hk.2) (.int .i64 ((rd_T43 t311 x55_1).f0))) (fun _ hk => hk.2) (.int .i64 ((rd_T43 t311 x55_1).f1))) (fun _ hk => hk.2) (.int .i64 ((rd_T43 t311 x55_1).f2))) (fun _ hk => hk.1.2)⟩, ⟨by (with_reducible repeat (first | refine blk_drewN ?_ _ | refine blk_drew ?_ | refine blk_alloc ?_ _)); refine blk_far ?_ NB318_322.out _; (with_reducible repeat (first | refine blk_drewN ?_ _ | refine blk_drew ?_ | refine blk_alloc ?_ _)); refine blk_far ?_ NB318_322.out _; (with_reducible repeat (first | refine blk_drewN ?_ _ | refine blk_drew ?_ | refine blk_alloc ?_ _)); refine blk_far ?_ NB318_322.out _; (with_reducible repeat (first | refine blk_drewN ?_ _ | refine blk_drew ?_ | refine blk_alloc ?_ _)); exact BK318.out⟩, ⟨by (with_reducible repeat (first | refine blk_drewN ?_ _ | refine blk_drew ?_ | refine blk_alloc ?_ _)); refine blk_put (cs := #[.int .i64 ((rd_T43 t311 x55_1).f0), .int .i64 ((rd_T43 t311 x55_1).f1), .int .i64 0]) ?_ 2 _ rfl; (with_reducible repeat (first | refine blk_drewN ?_ _ | refine blk_drew ?_ | refine blk_alloc ?_ _)); refine blk_put (cs := #[.int .i64 ((rd_T43 t311 x55_1).f0), .int .i64 0, .int .i64 0]) ?_ 1 _ rfl; (with_reducible repeat (first | refine blk_drewN ?_ _ | refine blk_drew ?_ | refine blk_alloc ?_ _)); refine blk_put (cs := #[.int .i64 0, .int .i64 0, .int .i64 0]) ?_ 0 _ rfl; (with_reducible repeat (first | refine blk_drewN ?_ _ | refine blk_drew ?_ | refine blk_alloc ?_ _)); exact BK322.out⟩, ⟨by repeat (first | (with_reducible first | exact HB.out | apply below_alloc | apply pw_below_drewN | apply below_drew1 | refine below_set ?_ GE318.out | refine below_set ?_ GE322.out) | exact HB.out)⟩⟩
           ·rw [if_neg c25] at H
            have c25b0 : decide ((x13_1.size : Int) < (wrap64 (((rd_T43 t311 x55_1).f2) - ((rd_T43 t311 x55_1).f1)))) = false := decide_eq_false c25
            clear c25
            by_cases c26 : (wrap64 ((wrap64 (((rd_T43 t311 x55_1).f0) * a0)) + ((rd_T43 t311 x55_1).f1))) = x11_1
            ·rw [if_pos c26] at H
             have c26b0 : ((wrap64 ((wrap64 (((rd_T43 t311 x55_1).f0) * a0)) + ((rd_T43 t311 x55_1).f1))) == x11_1) = true := beq_iff_eq.mpr c26
             have c26b1 : ((wrap64 ((wrap64 (((rd_T43 t311 x55_1).f0) * a0)) + ((rd_T43 t311 x55_1).f1))) != x11_1) = false := bne_eq_false_iff_eq.mpr c26
             clear c26
             by_cases c27 : x55_1 > 0
             ·rw [if_pos c27] at H
              have c27b0 : decide (0 < x55_1) = true := decide_eq_true c27
              clear c27
              obtain ⟨ji28, hji28⟩ : ∃ j_ : Int, (wrap64 (x55_1 - 1)) = j_ := ⟨_, rfl⟩
              replace H : (if 0 ≤ (ji28) then (if (ji28) < (t311.length : Int) then (caulklaw19_SpanAll.j1 k1 a0 a2 t311 t317 x11_1 x12_1 x13_1 x14_1 (wrap64 (((rd_T43 t311 x55_1).f2) - ((rd_T43 t311 x55_1).f1))) t311 (t311.length : Int) x55_1 ((wrap64 (((rd_T43 t311 (ji28)).f0) + 1)) != ((rd_T43 t311 x55_1).f0)) t315 t316 ((rd_T43 t311 x55_1).f0) ((rd_T43 t311 x55_1).f1) ((rd_T43 t311 x55_1).f2)) else (none)) else (none)) = some r := by first | (rw [hji28] at H; exact H) | (simp only [hji28] at H ⊢; exact H)
              have hji28w : (IntKind.i64.wrap (x55_1 - 1)) = ji28 := (i64_w _).trans hji28
              by_cases c29 : 0 ≤ (ji28)
              ·rw [if_pos c29] at H
               have c29b0 : decide (0 ≤ (ji28)) = true := decide_eq_true c29
               clear c29
               by_cases c30 : (ji28) < (t311.length : Int)
               ·rw [if_pos c30] at H
                have c30b0 : decide ((ji28) < (t311.length : Int)) = true := decide_eq_true c30
                clear c30
                have H' := Aside0.mk H
                clear H
                have hnb31 := NB322_318.out
                have hnc31 := NB318_322.out
                have hcz32_0 : w21.cell? ⟨gb322, 0, none⟩ = some (.int .i64 0) := (blk_cell BK322.out 0).trans rfl
                have hcz32_1 : w21.cell? ⟨gb322, 1, none⟩ = some (.int .i64 0) := (blk_cell BK322.out 1).trans rfl
                have hcz32_2 : w21.cell? ⟨gb322, 2, none⟩ = some (.int .i64 0) := (blk_cell BK322.out 2).trans rfl
                have hfz32_0 := blk_frozen BK322.out 0
                have hfz32_1 := blk_frozen BK322.out 1
                have hfz32_2 := blk_frozen BK322.out 2
                have p323 : 0 ≤ ((ji28) : Int) := of_decide_eq_true (by first | (with_reducible assumption) | assumption)
                have q323 : (ji28) < (t311.length : Int) := of_decide_eq_true (by first | (with_reducible assumption) | assumption)
                obtain ⟨ad323, e323, hx323_0, hx323_1, hx323_2⟩ := at_T43 (Kd.R_reads' HO_7.out).2.2 (ji28) p323 q323
                obtain rfl : ad321 = ad323 := (by injection e323)
                have hn323_0 : ad321.block ≠ gb322 := (by first | exact Kd.own_blk (Kd.R_ne HO_7.out BK322.out (by decide)) | exact HO_7.out.1 _ rfl | exact (HO_7.out.1 _ rfl).2 | exact (HO_7.out.1 _ rfl).1)
                have hn323_1 : ad321.block ≠ gb322 := (by first | exact Kd.own_blk (Kd.R_ne HO_7.out BK322.out (by decide)) | exact HO_7.out.1 _ rfl | exact (HO_7.out.1 _ rfl).2 | exact (HO_7.out.1 _ rfl).1)
                have hn323_2 : ad321.block ≠ gb322 := (by first | exact Kd.own_blk (Kd.R_ne HO_7.out BK322.out (by decide)) | exact HO_7.out.1 _ rfl | exact (HO_7.out.1 _ rfl).2 | exact (HO_7.out.1 _ rfl).1)
                replace hx323_0 := (cell_far (p := ⟨gb322, 0, none⟩) (by first | (rw [add_block]; exact hn323_0) | (show (Addr.add _ _).block ≠ _; rw [add_block]; exact hn323_0) | exact hn323_0) (.int .i64 ((rd_T43 t311 x55_1).f0))).trans hx323_0
                replace hx323_1 := (cell_far (p := ⟨gb322, 0, none⟩) (by first | (rw [add_block]; exact hn323_0) | (show (Addr.add _ _).block ≠ _; rw [add_block]; exact hn323_0) | exact hn323_0) (.int .i64 ((rd_T43 t311 x55_1).f0))).trans hx323_1
                replace hx323_2 := (cell_far (p := ⟨gb322, 0, none⟩) (by first | (rw [add_block]; exact hn323_0) | (show (Addr.add _ _).block ≠ _; rw [add_block]; exact hn323_0) | exact hn323_0) (.int .i64 ((rd_T43 t311 x55_1).f0))).trans hx323_2
                replace hx323_0 := (cell_far (p := ⟨gb322, 1, none⟩) (by first | (rw [add_block]; exact hn323_1) | (show (Addr.add _ _).block ≠ _; rw [add_block]; exact hn323_1) | exact hn323_1) (.int .i64 ((rd_T43 t311 x55_1).f1))).trans hx323_0
                replace hx323_1 := (cell_far (p := ⟨gb322, 1, none⟩) (by first | (rw [add_block]; exact hn323_1) | (show (Addr.add _ _).block ≠ _; rw [add_block]; exact hn323_1) | exact hn323_1) (.int .i64 ((rd_T43 t311 x55_1).f1))).trans hx323_1
                replace hx323_2 := (cell_far (p := ⟨gb322, 1, none⟩) (by first | (rw [add_block]; exact hn323_1) | (show (Addr.add _ _).block ≠ _; rw [add_block]; exact hn323_1) | exact hn323_1) (.int .i64 ((rd_T43 t311 x55_1).f1))).trans hx323_2
                replace hx323_0 := (cell_far (p := ⟨gb322, 2, none⟩) (by first | (rw [add_block]; exact hn323_2) | (show (Addr.add _ _).block ≠ _; rw [add_block]; exact hn323_2) | exact hn323_2) (.int .i64 ((rd_T43 t311 x55_1).f2))).trans hx323_0
                replace hx323_1 := (cell_far (p := ⟨gb322, 2, none⟩) (by first | (rw [add_block]; exact hn323_2) | (show (Addr.add _ _).block ≠ _; rw [add_block]; exact hn323_2) | exact hn323_2) (.int .i64 ((rd_T43 t311 x55_1).f2))).trans hx323_1
                replace hx323_2 := (cell_far (p := ⟨gb322, 2, none⟩) (by first | (rw [add_block]; exact hn323_2) | (show (Addr.add _ _).block ≠ _; rw [add_block]; exact hn323_2) | exact hn323_2) (.int .i64 ((rd_T43 t311 x55_1).f2))).trans hx323_2
                (try have hy323_0 := fun (n_ : Nat) => (show (((((w21.drewN n_).setCell ⟨gb322, 0, none⟩ (.int .i64 ((rd_T43 t311 x55_1).f0))).setCell ⟨gb322, 1, none⟩ (.int .i64 ((rd_T43 t311 x55_1).f1))).setCell ⟨gb322, 2, none⟩ (.int .i64 ((rd_T43 t311 x55_1).f2)))).cell? _ = some _ from hx323_0))
                (try have hy323_1 := fun (n_ : Nat) => (show (((((w21.drewN n_).setCell ⟨gb322, 0, none⟩ (.int .i64 ((rd_T43 t311 x55_1).f0))).setCell ⟨gb322, 1, none⟩ (.int .i64 ((rd_T43 t311 x55_1).f1))).setCell ⟨gb322, 2, none⟩ (.int .i64 ((rd_T43 t311 x55_1).f2)))).cell? _ = some _ from hx323_1))
                (try have hy323_2 := fun (n_ : Nat) => (show (((((w21.drewN n_).setCell ⟨gb322, 0, none⟩ (.int .i64 ((rd_T43 t311 x55_1).f0))).setCell ⟨gb322, 1, none⟩ (.int .i64 ((rd_T43 t311 x55_1).f1))).setCell ⟨gb322, 2, none⟩ (.int .i64 ((rd_T43 t311 x55_1).f2)))).cell? _ = some _ from hx323_2))
                clear hn323_0
                clear hn323_1
                clear hn323_2
                replace p323 := eq_true p323
                replace q323 := eq_true q323
                go_wp2
                repeat (go_quiet (fail); try go_wp2)
                go_meet
                case rel => exact ⟨_, (((wrap64 (((rd_T43 t311 (ji28)).f0) + 1)) != ((rd_T43 t311 x55_1).f0))), (by first | rfl | (simp; done) | (simp only [← hji28] <;> (first | rfl | simp)) | (simp [*]; done)), H', ⟨by have := HK1.out; first | omega | exact Nat.le_refl _⟩, ⟨by (with_reducible repeat (first | apply Kd.R_alloc | apply Kd.R_drewN | apply Kd.R_drew)); exact Kd.R_mono (Kd.R_far (p := ⟨gb322, 2, none⟩) (Kd.R_far (p := ⟨gb322, 1, none⟩) (Kd.R_far (p := ⟨gb322, 0, none⟩) (Kd.R_mono HO_7.out (fun k_ hk => (⟨hk, hk.2⟩ : _ ∧ k_ ≠ gb322))) (fun _ hk => hk.2) (.int .i64 ((rd_T43 t311 x55_1).f0))) (fun _ hk => hk.2) (.int .i64 ((rd_T43 t311 x55_1).f1))) (fun _ hk => hk.2) (.int .i64 ((rd_T43 t311 x55_1).f2))) (fun _ hk => hk.1.2)⟩, ⟨by (with_reducible repeat (first | apply Kd.R_alloc | apply Kd.R_drewN | apply Kd.R_drew)); exact Kd.R_mono (Kd.R_far (p := ⟨gb322, 2, none⟩) (Kd.R_far (p := ⟨gb322, 1, none⟩) (Kd.R_far (p := ⟨gb322, 0, none⟩) (Kd.R_types HO_14.out BK322.out (by decide)) (fun _ hk => hk.2) (.int .i64 ((rd_T43 t311 x55_1).f0))) (fun _ hk => hk.2) (.int .i64 ((rd_T43 t311 x55_1).f1))) (fun _ hk => hk.2) (.int .i64 ((rd_T43 t311 x55_1).f2))) (fun _ hk => trivial)⟩, ⟨by (with_reducible repeat (first | apply Kd.R_alloc | apply Kd.R_drewN | apply Kd.R_drew)); exact Kd.R_mono (Kd.R_far (p := ⟨gb322, 2, none⟩) (Kd.R_far (p := ⟨gb322, 1, none⟩) (Kd.R_far (p := ⟨gb322, 0, none⟩) (Kd.R_mono HO_53.out (fun k_ hk => (⟨hk, hk.2⟩ : _ ∧ k_ ≠ gb322))) (fun _ hk => hk.2) (.int .i64 ((rd_T43 t311 x55_1).f0))) (fun _ hk => hk.2) (.int .i64 ((rd_T43 t311 x55_1).f1))) (fun _ hk => hk.2) (.int .i64 ((rd_T43 t311 x55_1).f2))) (fun _ hk => hk.1.2)⟩, ⟨by (with_reducible repeat (first | refine blk_drewN ?_ _ | refine blk_drew ?_ | refine blk_alloc ?_ _)); refine blk_far ?_ NB318_322.out _; (with_reducible repeat (first | refine blk_drewN ?_ _ | refine blk_drew ?_ | refine blk_alloc ?_ _)); refine blk_far ?_ NB318_322.out _; (with_reducible repeat (first | refine blk_drewN ?_ _ | refine blk_drew ?_ | refine blk_alloc ?_ _)); refine blk_far ?_ NB318_322.out _; (with_reducible repeat (first | refine blk_drewN ?_ _ | refine blk_drew ?_ | refine blk_alloc ?_ _)); exact BK318.out⟩, ⟨by (with_reducible repeat (first | refine blk_drewN ?_ _ | refine blk_drew ?_ | refine blk_alloc ?_ _)); refine blk_put (cs := #[.int .i64 ((rd_T43 t311 x55_1).f0), .int .i64 ((rd_T43 t311 x55_1).f1), .int .i64 0]) ?_ 2 _ rfl; (with_reducible repeat (first | refine blk_drewN ?_ _ | refine blk_drew ?_ | refine blk_alloc ?_ _)); refine blk_put (cs := #[.int .i64 ((rd_T43 t311 x55_1).f0), .int .i64 0, .int .i64 0]) ?_ 1 _ rfl; (with_reducible repeat (first | refine blk_drewN ?_ _ | refine blk_drew ?_ | refine blk_alloc ?_ _)); refine blk_put (cs := #[.int .i64 0, .int .i64 0, .int .i64 0]) ?_ 0 _ rfl; (with_reducible repeat (first | refine blk_drewN ?_ _ | refine blk_drew ?_ | refine blk_alloc ?_ _)); exact BK322.out⟩, ⟨by repeat (first | (with_reducible first | exact HB.out | apply below_alloc | apply pw_below_drewN | apply below_drew1 | refine below_set ?_ GE318.out | refine below_set ?_ GE322.out) | exact HB.out)⟩⟩
               ·rw [if_neg c30] at H
                exact absurd H (by simp)
              ·rw [if_neg c29] at H
               exact absurd H (by simp)
             ·rw [if_neg c27] at H
              have c27b0 : decide (0 < x55_1) = false := decide_eq_false c27
              clear c27
              have H' := Aside0.mk H
              clear H
              have hnb33 := NB322_318.out
              have hnc33 := NB318_322.out
              have hcz34_0 : w21.cell? ⟨gb322, 0, none⟩ = some (.int .i64 0) := (blk_cell BK322.out 0).trans rfl
              have hcz34_1 : w21.cell? ⟨gb322, 1, none⟩ = some (.int .i64 0) := (blk_cell BK322.out 1).trans rfl
              have hcz34_2 : w21.cell? ⟨gb322, 2, none⟩ = some (.int .i64 0) := (blk_cell BK322.out 2).trans rfl
              have hfz34_0 := blk_frozen BK322.out 0
              have hfz34_1 := blk_frozen BK322.out 1
              have hfz34_2 := blk_frozen BK322.out 2
              go_wp2
              repeat (go_quiet (fail); try go_wp2)
              go_meet
              case rel => exact ⟨_, (false), (by first | rfl | (simp; done) | (simp [*]; done)), H', ⟨by have := HK1.out; first | omega | exact Nat.le_refl _⟩, ⟨by (with_reducible repeat (first | apply Kd.R_alloc | apply Kd.R_drewN | apply Kd.R_drew)); exact Kd.R_mono (Kd.R_far (p := ⟨gb322, 2, none⟩) (Kd.R_far (p := ⟨gb322, 1, none⟩) (Kd.R_far (p := ⟨gb322, 0, none⟩) (Kd.R_mono HO_7.out (fun k_ hk => (⟨hk, hk.2⟩ : _ ∧ k_ ≠ gb322))) (fun _ hk => hk.2) (.int .i64 ((rd_T43 t311 x55_1).f0))) (fun _ hk => hk.2) (.int .i64 ((rd_T43 t311 x55_1).f1))) (fun _ hk => hk.2) (.int .i64 ((rd_T43 t311 x55_1).f2))) (fun _ hk => hk.1.2)⟩, ⟨by (with_reducible repeat (first | apply Kd.R_alloc | apply Kd.R_drewN | apply Kd.R_drew)); exact Kd.R_mono (Kd.R_far (p := ⟨gb322, 2, none⟩) (Kd.R_far (p := ⟨gb322, 1, none⟩) (Kd.R_far (p := ⟨gb322, 0, none⟩) (Kd.R_types HO_14.out BK322.out (by decide)) (fun _ hk => hk.2) (.int .i64 ((rd_T43 t311 x55_1).f0))) (fun _ hk => hk.2) (.int .i64 ((rd_T43 t311 x55_1).f1))) (fun _ hk => hk.2) (.int .i64 ((rd_T43 t311 x55_1).f2))) (fun _ hk => trivial)⟩, ⟨by (with_reducible repeat (first | apply Kd.R_alloc | apply Kd.R_drewN | apply Kd.R_drew)); exact Kd.R_mono (Kd.R_far (p := ⟨gb322, 2, none⟩) (Kd.R_far (p := ⟨gb322, 1, none⟩) (Kd.R_far (p := ⟨gb322, 0, none⟩) (Kd.R_mono HO_53.out (fun k_ hk => (⟨hk, hk.2⟩ : _ ∧ k_ ≠ gb322))) (fun _ hk => hk.2) (.int .i64 ((rd_T43 t311 x55_1).f0))) (fun _ hk => hk.2) (.int .i64 ((rd_T43 t311 x55_1).f1))) (fun _ hk => hk.2) (.int .i64 ((rd_T43 t311 x55_1).f2))) (fun _ hk => hk.1.2)⟩, ⟨by (with_reducible repeat (first | refine blk_drewN ?_ _ | refine blk_drew ?_ | refine blk_alloc ?_ _)); refine blk_far ?_ NB318_322.out _; (with_reducible repeat (first | refine blk_drewN ?_ _ | refine blk_drew ?_ | refine blk_alloc ?_ _)); refine blk_far ?_ NB318_322.out _; (with_reducible repeat (first | refine blk_drewN ?_ _ | refine blk_drew ?_ | refine blk_alloc ?_ _)); refine blk_far ?_ NB318_322.out _; (with_reducible repeat (first | refine blk_drewN ?_ _ | refine blk_drew ?_ | refine blk_alloc ?_ _)); exact BK318.out⟩, ⟨by (with_reducible repeat (first | refine blk_drewN ?_ _ | refine blk_drew ?_ | refine blk_alloc ?_ _)); refine blk_put (cs := #[.int .i64 ((rd_T43 t311 x55_1).f0), .int .i64 ((rd_T43 t311 x55_1).f1), .int .i64 0]) ?_ 2 _ rfl; (with_reducible repeat (first | refine blk_drewN ?_ _ | refine blk_drew ?_ | refine blk_alloc ?_ _)); refine blk_put (cs := #[.int .i64 ((rd_T43 t311 x55_1).f0), .int .i64 0, .int .i64 0]) ?_ 1 _ rfl; (with_reducible repeat (first | refine blk_drewN ?_ _ | refine blk_drew ?_ | refine blk_alloc ?_ _)); refine blk_put (cs := #[.int .i64 0, .int .i64 0, .int .i64 0]) ?_ 0 _ rfl; (with_reducible repeat (first | refine blk_drewN ?_ _ | refine blk_drew ?_ | refine blk_alloc ?_ _)); exact BK322.out⟩, ⟨by repeat (first | (with_reducible first | exact HB.out | apply below_alloc | apply pw_below_drewN | apply below_drew1 | refine below_set ?_ GE318.out | refine below_set ?_ GE322.out) | exact HB.out)⟩⟩
            ·rw [if_neg c26] at H
             have c26b0 : ((wrap64 ((wrap64 (((rd_T43 t311 x55_1).f0) * a0)) + ((rd_T43 t311 x55_1).f1))) == x11_1) = false := beq_eq_false_iff_ne.mpr c26
             have c26b1 : ((wrap64 ((wrap64 (((rd_T43 t311 x55_1).f0) * a0)) + ((rd_T43 t311 x55_1).f1))) != x11_1) = true := bne_iff_ne.mpr c26
             have H' := Aside0.mk H
             clear H
             have hnb35 := NB322_318.out
             have hnc35 := NB318_322.out
             have hcz36_0 : w21.cell? ⟨gb322, 0, none⟩ = some (.int .i64 0) := (blk_cell BK322.out 0).trans rfl
             have hcz36_1 : w21.cell? ⟨gb322, 1, none⟩ = some (.int .i64 0) := (blk_cell BK322.out 1).trans rfl
             have hcz36_2 : w21.cell? ⟨gb322, 2, none⟩ = some (.int .i64 0) := (blk_cell BK322.out 2).trans rfl
             have hfz36_0 := blk_frozen BK322.out 0
             have hfz36_1 := blk_frozen BK322.out 1
             have hfz36_2 := blk_frozen BK322.out 2
             go_wp2
             repeat (go_quiet (fail); try go_wp2)
             go_meet
             case rel => exact ⟨_, (true), (by first | rfl | (simp; done) | (simp [*]; done)), H', ⟨by have := HK1.out; first | omega | exact Nat.le_refl _⟩, ⟨by (with_reducible repeat (first | apply Kd.R_alloc | apply Kd.R_drewN | apply Kd.R_drew)); exact Kd.R_mono (Kd.R_far (p := ⟨gb322, 2, none⟩) (Kd.R_far (p := ⟨gb322, 1, none⟩) (Kd.R_far (p := ⟨gb322, 0, none⟩) (Kd.R_mono HO_7.out (fun k_ hk => (⟨hk, hk.2⟩ : _ ∧ k_ ≠ gb322))) (fun _ hk => hk.2) (.int .i64 ((rd_T43 t311 x55_1).f0))) (fun _ hk => hk.2) (.int .i64 ((rd_T43 t311 x55_1).f1))) (fun _ hk => hk.2) (.int .i64 ((rd_T43 t311 x55_1).f2))) (fun _ hk => hk.1.2)⟩, ⟨by (with_reducible repeat (first | apply Kd.R_alloc | apply Kd.R_drewN | apply Kd.R_drew)); exact Kd.R_mono (Kd.R_far (p := ⟨gb322, 2, none⟩) (Kd.R_far (p := ⟨gb322, 1, none⟩) (Kd.R_far (p := ⟨gb322, 0, none⟩) (Kd.R_types HO_14.out BK322.out (by decide)) (fun _ hk => hk.2) (.int .i64 ((rd_T43 t311 x55_1).f0))) (fun _ hk => hk.2) (.int .i64 ((rd_T43 t311 x55_1).f1))) (fun _ hk => hk.2) (.int .i64 ((rd_T43 t311 x55_1).f2))) (fun _ hk => trivial)⟩, ⟨by (with_reducible repeat (first | apply Kd.R_alloc | apply Kd.R_drewN | apply Kd.R_drew)); exact Kd.R_mono (Kd.R_far (p := ⟨gb322, 2, none⟩) (Kd.R_far (p := ⟨gb322, 1, none⟩) (Kd.R_far (p := ⟨gb322, 0, none⟩) (Kd.R_mono HO_53.out (fun k_ hk => (⟨hk, hk.2⟩ : _ ∧ k_ ≠ gb322))) (fun _ hk => hk.2) (.int .i64 ((rd_T43 t311 x55_1).f0))) (fun _ hk => hk.2) (.int .i64 ((rd_T43 t311 x55_1).f1))) (fun _ hk => hk.2) (.int .i64 ((rd_T43 t311 x55_1).f2))) (fun _ hk => hk.1.2)⟩, ⟨by (with_reducible repeat (first | refine blk_drewN ?_ _ | refine blk_drew ?_ | refine blk_alloc ?_ _)); refine blk_far ?_ NB318_322.out _; (with_reducible repeat (first | refine blk_drewN ?_ _ | refine blk_drew ?_ | refine blk_alloc ?_ _)); refine blk_far ?_ NB318_322.out _; (with_reducible repeat (first | refine blk_drewN ?_ _ | refine blk_drew ?_ | refine blk_alloc ?_ _)); refine blk_far ?_ NB318_322.out _; (with_reducible repeat (first | refine blk_drewN ?_ _ | refine blk_drew ?_ | refine blk_alloc ?_ _)); exact BK318.out⟩, ⟨by (with_reducible repeat (first | refine blk_drewN ?_ _ | refine blk_drew ?_ | refine blk_alloc ?_ _)); refine blk_put (cs := #[.int .i64 ((rd_T43 t311 x55_1).f0), .int .i64 ((rd_T43 t311 x55_1).f1), .int .i64 0]) ?_ 2 _ rfl; (with_reducible repeat (first | refine blk_drewN ?_ _ | refine blk_drew ?_ | refine blk_alloc ?_ _)); refine blk_put (cs := #[.int .i64 ((rd_T43 t311 x55_1).f0), .int .i64 0, .int .i64 0]) ?_ 1 _ rfl; (with_reducible repeat (first | refine blk_drewN ?_ _ | refine blk_drew ?_ | refine blk_alloc ?_ _)); refine blk_put (cs := #[.int .i64 0, .int .i64 0, .int .i64 0]) ?_ 0 _ rfl; (with_reducible repeat (first | refine blk_drewN ?_ _ | refine blk_drew ?_ | refine blk_alloc ?_ _)); exact BK322.out⟩, ⟨by repeat (first | (with_reducible first | exact HB.out | apply below_alloc | apply pw_below_drewN | apply below_drew1 | refine below_set ?_ GE318.out | refine below_set ?_ GE322.out) | exact HB.out)⟩⟩
         case rest =>
          clear HC20
          try clear c1
          try clear c2
          try clear p2
          try clear c3
          try clear p3
          try clear q3
          try clear hx3
          try clear c5
          try clear c6
          try clear c6b0
          try clear c6b1
          try clear p6
          try clear c10
          try clear c10b0
          try clear c10b1
          try clear c17
          try clear c17b0
          try clear c18
          try clear c18b0
          try clear c19
          try clear c19b0
          try clear c22
          try clear c24
          try clear c24b0
          try clear c25
          try clear c25b0
          try clear c26
          try clear c26b0
          try clear c26b1
          try clear c27
          try clear c27b0
          try clear c29
          try clear c29b0
          try clear c30
          try clear c30b0
          try clear c31
          try clear p32
          try clear q32
          try clear hx32
          try clear c33
          try clear c35
          try clear hcz15_0
          try clear hcz15_1
          try clear hcz23_0
          try clear hcz23_1
          try clear hcz23_2
          try clear hcz32_0
          try clear hcz32_1
          try clear hcz32_2
          try clear hcz34_0
          try clear hcz34_1
          try clear hcz34_2
          try clear hcz36_0
          try clear hcz36_1
          try clear hcz36_2
          try clear hfz15_0
          try clear hfz15_1
          try clear hfz23_0
          try clear hfz23_1
          try clear hfz23_2
          try clear hfz32_0
          try clear hfz32_1
          try clear hfz32_2
          try clear hfz34_0
          try clear hfz34_1
          try clear hfz34_2
          try clear hfz36_0
          try clear hfz36_1
          try clear hfz36_2
          try clear hx321_0
          try clear hx321_1
          try clear hx321_2
          try clear hx323_0
          try clear hx323_1
          try clear hx323_2
          try clear p2
          try clear p321
          try clear p323
          try clear q321
          try clear q323
          obtain ⟨kq, x99_19, rfl, HA, HJ19, HO_7, HO_14, HO_53, BK318, BK322, HB⟩ := hcut
          cases kq with
          | zero => exact absurd HA.out (by simp [caulklaw19_SpanAll.j1])
          | succ kj19 =>
           have H := HA.out
           clear HA
           simp only [caulklaw19_SpanAll.j1] at H
           by_cases c37 : x99_19 = true
           ·subst c37
            have H1 : (some false) = some r := by rw [if_pos rfl] at H; exact H
            clear H
            have H := H1
            clear H1
            exact absurd ((Option.some.inj H).trans hrt.out) (by simp)
           ·replace c37 := Bool.eq_false_iff.mpr c37
            subst c37
            have H1 : (if (wrap64 (((rd_T43 t311 x55_1).f2) - ((rd_T43 t311 x55_1).f1))) = a0 then (if ((rd_T43 t311 x55_1).f0) < t315 then (some false) else (if ((rd_T43 t311 x55_1).f0) ≥ t316 then (some false) else (if 0 ≤ (wrap64 (((rd_T43 t311 x55_1).f2) - ((rd_T43 t311 x55_1).f1))) then (if (wrap64 (((rd_T43 t311 x55_1).f2) - ((rd_T43 t311 x55_1).f1))) ≤ (x13_1.size : Int) then (if x14_1.length < 8796093022208 then (caulklaw19_SpanAll.l0 kj19 a0 a2 t311 t317 (wrap64 (x11_1 + (wrap64 (((rd_T43 t311 x55_1).f2) - ((rd_T43 t311 x55_1).f1))))) (wrap64 (x12_1 + 1)) (x13_1.extract ((wrap64 (((rd_T43 t311 x55_1).f2) - ((rd_T43 t311 x55_1).f1))) : Int).toNat x13_1.size) (x14_1 ++ [x13_1.extract 0 ((wrap64 (((rd_T43 t311 x55_1).f2) - ((rd_T43 t311 x55_1).f1))) : Int).toNat]) t311 (t311.length : Int) (wrap64 (x55_1 + 1)) t315 t316) else (none)) else (none)) else (none)))) else (if 0 ≤ (wrap64 (((rd_T43 t311 x55_1).f2) - ((rd_T43 t311 x55_1).f1))) then (if (wrap64 (((rd_T43 t311 x55_1).f2) - ((rd_T43 t311 x55_1).f1))) ≤ (x13_1.size : Int) then (if x14_1.length < 8796093022208 then (caulklaw19_SpanAll.l0 kj19 a0 a2 t311 t317 (wrap64 (x11_1 + (wrap64 (((rd_T43 t311 x55_1).f2) - ((rd_T43 t311 x55_1).f1))))) x12_1 (x13_1.extract ((wrap64 (((rd_T43 t311 x55_1).f2) - ((rd_T43 t311 x55_1).f1))) : Int).toNat x13_1.size) (x14_1 ++ [x13_1.extract 0 ((wrap64 (((rd_T43 t311 x55_1).f2) - ((rd_T43 t311 x55_1).f1))) : Int).toNat]) t311 (t311.length : Int) (wrap64 (x55_1 + 1)) t315 t316) else (none)) else (none)) else (none))) = some r := by rw [if_neg (show ¬ (false = true) by decide)] at H; exact H
            clear H
            have H := H1
            clear H1
            by_cases c38 : (wrap64 (((rd_T43 t311 x55_1).f2) - ((rd_T43 t311 x55_1).f1))) = a0
            ·rw [if_pos c38] at H
             have c38b0 : ((wrap64 (((rd_T43 t311 x55_1).f2) - ((rd_T43 t311 x55_1).f1))) == a0) = true := beq_iff_eq.mpr c38
             have c38b1 : ((wrap64 (((rd_T43 t311 x55_1).f2) - ((rd_T43 t311 x55_1).f1))) != a0) = false := bne_eq_false_iff_eq.mpr c38
             clear c38
             by_cases c39 : ((rd_T43 t311 x55_1).f0) < t315
             ·rw [if_pos c39] at H
              have c39b0 : decide (((rd_T43 t311 x55_1).f0) < t315) = true := decide_eq_true c39
              clear c39
              exact absurd ((Option.some.inj H).trans hrt.out) (by simp)
             ·rw [if_neg c39] at H
              have c39b0 : decide (((rd_T43 t311 x55_1).f0) < t315) = false := decide_eq_false c39
              clear c39
              by_cases c40 : ((rd_T43 t311 x55_1).f0) ≥ t316
              ·rw [if_pos c40] at H
               have c40b0 : decide (t316 ≤ ((rd_T43 t311 x55_1).f0)) = true := decide_eq_true c40
               clear c40
               exact absurd ((Option.some.inj H).trans hrt.out) (by simp)
              ·rw [if_neg c40] at H
               have c40b0 : decide (t316 ≤ ((rd_T43 t311 x55_1).f0)) = false := decide_eq_false c40
               clear c40
               obtain ⟨ji41, hji41⟩ : ∃ j_ : Int, (wrap64 (((rd_T43 t311 x55_1).f2) - ((rd_T43 t311 x55_1).f1))) = j_ := ⟨_, rfl⟩
               replace H : (if 0 ≤ (ji41) then (if (ji41) ≤ (x13_1.size : Int) then (if x14_1.length < 8796093022208 then (caulklaw19_SpanAll.l0 kj19 a0 a2 t311 t317 (wrap64 (x11_1 + (ji41))) (wrap64 (x12_1 + 1)) (x13_1.extract ((ji41) : Int).toNat x13_1.size) (x14_1 ++ [x13_1.extract 0 ((ji41) : Int).toNat]) t311 (t311.length : Int) (wrap64 (x55_1 + 1)) t315 t316) else (none)) else (none)) else (none)) = some r := by first | (rw [hji41] at H; exact H) | (simp only [hji41] at H ⊢; exact H)
               (try rw [hji41] at c38b0)
               (try rw [hji41] at c38b1)
               have hji41w : (IntKind.i64.wrap (((rd_T43 t311 x55_1).f2) - ((rd_T43 t311 x55_1).f1))) = ji41 := (i64_w _).trans hji41
               by_cases c42 : 0 ≤ (ji41)
               ·rw [if_pos c42] at H
                have c42b0 := eq_true c42
                have c42b1 : decide (0 ≤ (ji41)) = true := decide_eq_true c42
                clear c42
                by_cases c43 : (ji41) ≤ (x13_1.size : Int)
                ·rw [if_pos c43] at H
                 have c43b0 := eq_true c43
                 have c43b1 : decide ((ji41) ≤ (x13_1.size : Int)) = true := decide_eq_true c43
                 clear c43
                 by_cases c44 : x14_1.length < 8796093022208
                 ·rw [if_pos c44] at H
                  have LMc44 := Aside0.mk c44
                  clear c44
                  obtain ⟨y324, hy324⟩ : ∃ y_ : List ByteArray, y_ = (x14_1 ++ [x13_1.extract 0 ((ji41) : Int).toNat]) := ⟨_, rfl⟩
                  replace H : (caulklaw19_SpanAll.l0 kj19 a0 a2 t311 t317 (wrap64 (x11_1 + (ji41))) (wrap64 (x12_1 + 1)) (x13_1.extract ((ji41) : Int).toNat x13_1.size) y324 t311 (t311.length : Int) (wrap64 (x55_1 + 1)) t315 t316) = some r := by first | (rw [hy324]; with_reducible exact H) | (have H2_ := (Option.bind_some _ _).symm.trans H; rw [hy324]; with_reducible exact H2_) | (have H2_ := (Option.bind_some _ _).symm.trans H; with_reducible exact H2_) | with_reducible exact H | (rw [hy324]; exact H) | exact H
                  have Ny324 := Aside0.mk hy324
                  clear hy324
                  have c45b0 := eq_true (of_decide_eq_true (by first | (with_reducible assumption) | assumption) : 0 ≤ (ji41))
                  have c46b0 := eq_true (of_decide_eq_true (by first | (with_reducible assumption) | assumption) : (ji41) ≤ (x13_1.size : Int))
                  have H' := Aside0.mk H
                  clear H
                  have hnb47 := NB322_318.out
                  have hnc47 := NB318_322.out
                  have hcz48_0 : wc.cell? ⟨gb322, 0, none⟩ = some (.int .i64 ((rd_T43 t311 x55_1).f0)) := (blk_cell BK322.out 0).trans rfl
                  have hcz48_1 : wc.cell? ⟨gb322, 1, none⟩ = some (.int .i64 ((rd_T43 t311 x55_1).f1)) := (blk_cell BK322.out 1).trans rfl
                  have hcz48_2 : wc.cell? ⟨gb322, 2, none⟩ = some (.int .i64 ((rd_T43 t311 x55_1).f2)) := (blk_cell BK322.out 2).trans rfl
                  have hfz48_0 := blk_frozen BK322.out 0
                  have hfz48_1 := blk_frozen BK322.out 1
                  have hfz48_2 := blk_frozen BK322.out 2
                  have hcz49_0 : wc.cell? ⟨gb318, 0, none⟩ = some (.int .i64 t315) := (blk_cell BK318.out 0).trans rfl
                  have hcz49_1 : wc.cell? ⟨gb318, 1, none⟩ = some (.int .i64 t316) := (blk_cell BK318.out 1).trans rfl
                  have hfz49_0 := blk_frozen BK318.out 0
                  have hfz49_1 := blk_frozen BK318.out 1
                  go_wp2_with (first | ((with_reducible refine HOpen.gate_append ?_); simp only [List.cons_append, List.nil_append]) | ((with_reducible refine gate_builtin (b := .append) (xs := #[.tmp 117, .tmp 121]) rfl ?_); (try (refine gate_guard (by rfl) ?_; dsimp only)); at_builtin; refine Kd.R_append Kd.string (w0 := w) w.heap.size rfl (.tmp 117) (.tmp 121) 35 9 (.string ⟨#[]⟩) 16 rfl Try.underlying35 info9 rfl (by decide) (by omega) u14 x14_1 (x13_1.extract 0 ((ji41) : Int).toNat) [.string (x13_1.extract 0 ((ji41) : Int).toNat)] (fun _ => True) (fun _ => False) rfl rfl ?aP (fun _ hk => hk.elim) ?aF ?aO ?aB ?aS ?aL ?_; (case aP => exact rfl); (case aB => exact (by repeat (first | (with_reducible first | exact HB.out | apply below_alloc | apply pw_below_drewN | apply below_drew1 | refine below_set ?_ GE318.out | refine below_set ?_ GE322.out) | exact HB.out))); (case aF => exact (fun _ _ => trivial)); (case aO => exact (by (with_reducible repeat (first | apply Kd.R_alloc | apply Kd.R_drewN | apply Kd.R_drew)); exact HO_14.out)); (case aS => exact (below_size (by repeat (first | (with_reducible first | exact HB.out | apply below_alloc | apply pw_below_drewN | apply below_drew1 | refine below_set ?_ GE318.out | refine below_set ?_ GE322.out) | exact HB.out)))); (case aL => have := LMc44.out; omega); intro v325 w50 ho hb hg hat; rw [← Ny324.out] at ho; have n0_ := Aside0.mk (Kd.R_over' (by (with_reducible repeat (first | apply Kd.R_alloc | apply Kd.R_drewN | apply Kd.R_drew)); exact HO_7.out) (Kd.R_typed (by (with_reducible repeat (first | apply Kd.R_alloc | apply Kd.R_drewN | apply Kd.R_drew)); exact HO_14.out)) (by decide) hg); have n1_ := Aside0.mk (Kd.R_over' (by (with_reducible repeat (first | apply Kd.R_alloc | apply Kd.R_drewN | apply Kd.R_drew)); exact HO_53.out) (Kd.R_typed (by (with_reducible repeat (first | apply Kd.R_alloc | apply Kd.R_drewN | apply Kd.R_drew)); exact HO_14.out)) (by decide) hg); have n2_ := Aside0.mk (blk_grown (g := gb318) (o := .cells #[.int .i64 t315, .int .i64 t316] 28 (0, 0)) (by (with_reducible repeat (first | refine blk_drewN ?_ _ | refine blk_drew ?_ | refine blk_alloc ?_ _)); exact BK318.out) hg (Kd.R_ne HO_14.out BK318.out (by decide))); have n3_ := Aside0.mk (blk_grown (g := gb322) (o := .cells #[.int .i64 ((rd_T43 t311 x55_1).f0), .int .i64 ((rd_T43 t311 x55_1).f1), .int .i64 ((rd_T43 t311 x55_1).f2)] 43 (0, 0)) (by (with_reducible repeat (first | refine blk_drewN ?_ _ | refine blk_drew ?_ | refine blk_alloc ?_ _)); exact BK322.out) hg (Kd.R_ne HO_14.out BK322.out (by decide))); have n4_ := Aside0.mk (hb); have n5_ := Aside0.mk (ho); clear HO_7; clear HO_53; clear BK318; clear BK322; clear HB; clear HO_14; have HO_7 := n0_; have HO_53 := n1_; have BK318 := n2_; have BK322 := n3_; have HB := n4_; have HO326 := n5_; clear n0_ n1_ n2_ n3_ n4_ n5_; clear ho hb hg hat))
                  repeat (go_quiet (first | ((with_reducible refine gate_builtin (b := .append) (xs := #[.tmp 117, .tmp 121]) rfl ?_); (try (refine gate_guard (by rfl) ?_; dsimp only)); at_builtin; refine Kd.R_append Kd.string (w0 := w) w.heap.size rfl (.tmp 117) (.tmp 121) 35 9 (.string ⟨#[]⟩) 16 rfl Try.underlying35 info9 rfl (by decide) (by omega) u14 x14_1 (x13_1.extract 0 ((ji41) : Int).toNat) [.string (x13_1.extract 0 ((ji41) : Int).toNat)] (fun _ => True) (fun _ => False) rfl rfl ?aP (fun _ hk => hk.elim) ?aF ?aO ?aB ?aS ?aL ?_; (case aP => exact rfl); (case aB => exact (by repeat (first | (with_reducible first | exact HB.out | apply below_alloc | apply pw_below_drewN | apply below_drew1 | refine below_set ?_ GE318.out | refine below_set ?_ GE322.out) | exact HB.out))); (case aF => exact (fun _ _ => trivial)); (case aO => exact (by (with_reducible repeat (first | apply Kd.R_alloc | apply Kd.R_drewN | apply Kd.R_drew)); exact HO_14.out)); (case aS => exact (below_size (by repeat (first | (with_reducible first | exact HB.out | apply below_alloc | apply pw_below_drewN | apply below_drew1 | refine below_set ?_ GE318.out | refine below_set ?_ GE322.out) | exact HB.out)))); (case aL => have := LMc44.out; omega); intro v325 w50 ho hb hg hat; rw [← Ny324.out] at ho; have n0_ := Aside0.mk (Kd.R_over' (by (with_reducible repeat (first | apply Kd.R_alloc | apply Kd.R_drewN | apply Kd.R_drew)); exact HO_7.out) (Kd.R_typed (by (with_reducible repeat (first | apply Kd.R_alloc | apply Kd.R_drewN | apply Kd.R_drew)); exact HO_14.out)) (by decide) hg); have n1_ := Aside0.mk (Kd.R_over' (by (with_reducible repeat (first | apply Kd.R_alloc | apply Kd.R_drewN | apply Kd.R_drew)); exact HO_53.out) (Kd.R_typed (by (with_reducible repeat (first | apply Kd.R_alloc | apply Kd.R_drewN | apply Kd.R_drew)); exact HO_14.out)) (by decide) hg); have n2_ := Aside0.mk (blk_grown (g := gb318) (o := .cells #[.int .i64 t315, .int .i64 t316] 28 (0, 0)) (by (with_reducible repeat (first | refine blk_drewN ?_ _ | refine blk_drew ?_ | refine blk_alloc ?_ _)); exact BK318.out) hg (Kd.R_ne HO_14.out BK318.out (by decide))); have n3_ := Aside0.mk (blk_grown (g := gb322) (o := .cells #[.int .i64 ((rd_T43 t311 x55_1).f0), .int .i64 ((rd_T43 t311 x55_1).f1), .int .i64 ((rd_T43 t311 x55_1).f2)] 43 (0, 0)) (by (with_reducible repeat (first | refine blk_drewN ?_ _ | refine blk_drew ?_ | refine blk_alloc ?_ _)); exact BK322.out) hg (Kd.R_ne HO_14.out BK322.out (by decide))); have n4_ := Aside0.mk (hb); have n5_ := Aside0.mk (ho); clear HO_7; clear HO_53; clear BK318; clear BK322; clear HB; clear HO_14; have HO_7 := n0_; have HO_53 := n1_; have BK318 := n2_; have BK322 := n3_; have HB := n4_; have HO326 := n5_; clear n0_ n1_ n2_ n3_ n4_ n5_; clear ho hb hg hat)); try go_wp2_with (first | ((with_reducible refine HOpen.gate_append ?_); simp only [List.cons_append, List.nil_append]) | ((with_reducible refine gate_builtin (b := .append) (xs := #[.tmp 117, .tmp 121]) rfl ?_); (try (refine gate_guard (by rfl) ?_; dsimp only)); at_builtin; refine Kd.R_append Kd.string (w0 := w) w.heap.size rfl (.tmp 117) (.tmp 121) 35 9 (.string ⟨#[]⟩) 16 rfl Try.underlying35 info9 rfl (by decide) (by omega) u14 x14_1 (x13_1.extract 0 ((ji41) : Int).toNat) [.string (x13_1.extract 0 ((ji41) : Int).toNat)] (fun _ => True) (fun _ => False) rfl rfl ?aP (fun _ hk => hk.elim) ?aF ?aO ?aB ?aS ?aL ?_; (case aP => exact rfl); (case aB => exact (by repeat (first | (with_reducible first | exact HB.out | apply below_alloc | apply pw_below_drewN | apply below_drew1 | refine below_set ?_ GE318.out | refine below_set ?_ GE322.out) | exact HB.out))); (case aF => exact (fun _ _ => trivial)); (case aO => exact (by (with_reducible repeat (first | apply Kd.R_alloc | apply Kd.R_drewN | apply Kd.R_drew)); exact HO_14.out)); (case aS => exact (below_size (by repeat (first | (with_reducible first | exact HB.out | apply below_alloc | apply pw_below_drewN | apply below_drew1 | refine below_set ?_ GE318.out | refine below_set ?_ GE322.out) | exact HB.out)))); (case aL => have := LMc44.out; omega); intro v325 w50 ho hb hg hat; rw [← Ny324.out] at ho; have n0_ := Aside0.mk (Kd.R_over' (by (with_reducible repeat (first | apply Kd.R_alloc | apply Kd.R_drewN | apply Kd.R_drew)); exact HO_7.out) (Kd.R_typed (by (with_reducible repeat (first | apply Kd.R_alloc | apply Kd.R_drewN | apply Kd.R_drew)); exact HO_14.out)) (by decide) hg); have n1_ := Aside0.mk (Kd.R_over' (by (with_reducible repeat (first | apply Kd.R_alloc | apply Kd.R_drewN | apply Kd.R_drew)); exact HO_53.out) (Kd.R_typed (by (with_reducible repeat (first | apply Kd.R_alloc | apply Kd.R_drewN | apply Kd.R_drew)); exact HO_14.out)) (by decide) hg); have n2_ := Aside0.mk (blk_grown (g := gb318) (o := .cells #[.int .i64 t315, .int .i64 t316] 28 (0, 0)) (by (with_reducible repeat (first | refine blk_drewN ?_ _ | refine blk_drew ?_ | refine blk_alloc ?_ _)); exact BK318.out) hg (Kd.R_ne HO_14.out BK318.out (by decide))); have n3_ := Aside0.mk (blk_grown (g := gb322) (o := .cells #[.int .i64 ((rd_T43 t311 x55_1).f0), .int .i64 ((rd_T43 t311 x55_1).f1), .int .i64 ((rd_T43 t311 x55_1).f2)] 43 (0, 0)) (by (with_reducible repeat (first | refine blk_drewN ?_ _ | refine blk_drew ?_ | refine blk_alloc ?_ _)); exact BK322.out) hg (Kd.R_ne HO_14.out BK322.out (by decide))); have n4_ := Aside0.mk (hb); have n5_ := Aside0.mk (ho); clear HO_7; clear HO_53; clear BK318; clear BK322; clear HB; clear HO_14; have HO_7 := n0_; have HO_53 := n1_; have BK318 := n2_; have BK322 := n3_; have HB := n4_; have HO326 := n5_; clear n0_ n1_ n2_ n3_ n4_ n5_; clear ho hb hg hat)))
                  go_roundg kj19
                  case measure => have := HK1.out; have := HJ19.out; omega
                  case rel => exact ⟨(wrap64 (x11_1 + (ji41))), (wrap64 (x12_1 + 1)), (x13_1.extract ((ji41) : Int).toNat x13_1.size), (y324), (wrap64 (x55_1 + 1)), (by first | rfl | (simp; done) | (simp only [← hji41] <;> (first | rfl | simp)) | (simp [*]; done)), (by first | rfl | (simp; done) | (simp [*]; done)), (by first | rfl | (simp; done) | (simp only [← hji41] <;> (first | rfl | simp)) | (simp [*]; done)), (by first | rfl | (simp; done) | (simp [*]; done)), H', ⟨by have := HK1.out; have := HJ19.out; omega⟩, ⟨by (with_reducible repeat (first | apply Kd.R_alloc | apply Kd.R_drewN | apply Kd.R_drew)); exact Kd.R_mono HO_7.out (fun _ hk => trivial)⟩, ⟨by (with_reducible repeat (first | apply Kd.R_alloc | apply Kd.R_drewN | apply Kd.R_drew)); exact HO326.out⟩, ⟨by (with_reducible repeat (first | apply Kd.R_alloc | apply Kd.R_drewN | apply Kd.R_drew)); exact Kd.R_mono HO_53.out (fun _ hk => trivial)⟩, ⟨by (with_reducible repeat (first | refine blk_drewN ?_ _ | refine blk_drew ?_ | refine blk_alloc ?_ _)); exact BK318.out⟩, ⟨by repeat (first | (with_reducible first | exact HB.out | apply below_alloc | apply pw_below_drewN | apply below_drew1 | refine below_set ?_ GE318.out | refine below_set ?_ GE322.out) | exact HB.out)⟩⟩
                 ·rw [if_neg c44] at H
                  exact absurd H (by simp)
                ·rw [if_neg c43] at H
                 exact absurd H (by simp)
               ·rw [if_neg c42] at H
                exact absurd H (by simp)
            ·rw [if_neg c38] at H
             have c38b0 : ((wrap64 (((rd_T43 t311 x55_1).f2) - ((rd_T43 t311 x55_1).f1))) == a0) = false := beq_eq_false_iff_ne.mpr c38
             have c38b1 : ((wrap64 (((rd_T43 t311 x55_1).f2) - ((rd_T43 t311 x55_1).f1))) != a0) = true := bne_iff_ne.mpr c38
             obtain ⟨ji51, hji51⟩ : ∃ j_ : Int, (wrap64 (((rd_T43 t311 x55_1).f2) - ((rd_T43 t311 x55_1).f1))) = j_ := ⟨_, rfl⟩
             replace H : (if 0 ≤ (ji51) then (if (ji51) ≤ (x13_1.size : Int) then (if x14_1.length < 8796093022208 then (caulklaw19_SpanAll.l0 kj19 a0 a2 t311 t317 (wrap64 (x11_1 + (ji51))) x12_1 (x13_1.extract ((ji51) : Int).toNat x13_1.size) (x14_1 ++ [x13_1.extract 0 ((ji51) : Int).toNat]) t311 (t311.length : Int) (wrap64 (x55_1 + 1)) t315 t316) else (none)) else (none)) else (none)) = some r := by first | (rw [hji51] at H; exact H) | (simp only [hji51] at H ⊢; exact H)
             (try rw [hji51] at c38b0)
             (try rw [hji51] at c38b1)
             have hji51w : (IntKind.i64.wrap (((rd_T43 t311 x55_1).f2) - ((rd_T43 t311 x55_1).f1))) = ji51 := (i64_w _).trans hji51
             by_cases c52 : 0 ≤ (ji51)
             ·rw [if_pos c52] at H
              have c52b0 := eq_true c52
              have c52b1 : decide (0 ≤ (ji51)) = true := decide_eq_true c52
              clear c52
              by_cases c53 : (ji51) ≤ (x13_1.size : Int)
              ·rw [if_pos c53] at H
               have c53b0 := eq_true c53
               have c53b1 : decide ((ji51) ≤ (x13_1.size : Int)) = true := decide_eq_true c53
               clear c53
               by_cases c54 : x14_1.length < 8796093022208
               ·rw [if_pos c54] at H
                have LMc54 := Aside0.mk c54
                clear c54
                obtain ⟨y327, hy327⟩ : ∃ y_ : List ByteArray, y_ = (x14_1 ++ [x13_1.extract 0 ((ji51) : Int).toNat]) := ⟨_, rfl⟩
                replace H : (caulklaw19_SpanAll.l0 kj19 a0 a2 t311 t317 (wrap64 (x11_1 + (ji51))) x12_1 (x13_1.extract ((ji51) : Int).toNat x13_1.size) y327 t311 (t311.length : Int) (wrap64 (x55_1 + 1)) t315 t316) = some r := by first | (rw [hy327]; with_reducible exact H) | (have H2_ := (Option.bind_some _ _).symm.trans H; rw [hy327]; with_reducible exact H2_) | (have H2_ := (Option.bind_some _ _).symm.trans H; with_reducible exact H2_) | with_reducible exact H | (rw [hy327]; exact H) | exact H
                have Ny327 := Aside0.mk hy327
                clear hy327
                have c55b0 := eq_true (of_decide_eq_true (by first | (with_reducible assumption) | assumption) : 0 ≤ (ji51))
                have c56b0 := eq_true (of_decide_eq_true (by first | (with_reducible assumption) | assumption) : (ji51) ≤ (x13_1.size : Int))
                have H' := Aside0.mk H
                clear H
                go_wp2_with (first | ((with_reducible refine HOpen.gate_append ?_); simp only [List.cons_append, List.nil_append]) | ((with_reducible refine gate_builtin (b := .append) (xs := #[.tmp 117, .tmp 121]) rfl ?_); (try (refine gate_guard (by rfl) ?_; dsimp only)); at_builtin; refine Kd.R_append Kd.string (w0 := w) w.heap.size rfl (.tmp 117) (.tmp 121) 35 9 (.string ⟨#[]⟩) 16 rfl Try.underlying35 info9 rfl (by decide) (by omega) u14 x14_1 (x13_1.extract 0 ((ji51) : Int).toNat) [.string (x13_1.extract 0 ((ji51) : Int).toNat)] (fun _ => True) (fun _ => False) rfl rfl ?aP (fun _ hk => hk.elim) ?aF ?aO ?aB ?aS ?aL ?_; (case aP => exact rfl); (case aB => exact (by repeat (first | (with_reducible first | exact HB.out | apply below_alloc | apply pw_below_drewN | apply below_drew1 | refine below_set ?_ GE318.out | refine below_set ?_ GE322.out) | exact HB.out))); (case aF => exact (fun _ _ => trivial)); (case aO => exact (by (with_reducible repeat (first | apply Kd.R_alloc | apply Kd.R_drewN | apply Kd.R_drew)); exact HO_14.out)); (case aS => exact (below_size (by repeat (first | (with_reducible first | exact HB.out | apply below_alloc | apply pw_below_drewN | apply below_drew1 | refine below_set ?_ GE318.out | refine below_set ?_ GE322.out) | exact HB.out)))); (case aL => have := LMc54.out; omega); intro v328 w57 ho hb hg hat; rw [← Ny327.out] at ho; have n0_ := Aside0.mk (Kd.R_over' (by (with_reducible repeat (first | apply Kd.R_alloc | apply Kd.R_drewN | apply Kd.R_drew)); exact HO_7.out) (Kd.R_typed (by (with_reducible repeat (first | apply Kd.R_alloc | apply Kd.R_drewN | apply Kd.R_drew)); exact HO_14.out)) (by decide) hg); have n1_ := Aside0.mk (Kd.R_over' (by (with_reducible repeat (first | apply Kd.R_alloc | apply Kd.R_drewN | apply Kd.R_drew)); exact HO_53.out) (Kd.R_typed (by (with_reducible repeat (first | apply Kd.R_alloc | apply Kd.R_drewN | apply Kd.R_drew)); exact HO_14.out)) (by decide) hg); have n2_ := Aside0.mk (blk_grown (g := gb318) (o := .cells #[.int .i64 t315, .int .i64 t316] 28 (0, 0)) (by (with_reducible repeat (first | refine blk_drewN ?_ _ | refine blk_drew ?_ | refine blk_alloc ?_ _)); exact BK318.out) hg (Kd.R_ne HO_14.out BK318.out (by decide))); have n3_ := Aside0.mk (blk_grown (g := gb322) (o := .cells #[.int .i64 ((rd_T43 t311 x55_1).f0), .int .i64 ((rd_T43 t311 x55_1).f1), .int .i64 ((rd_T43 t311 x55_1).f2)] 43 (0, 0)) (by (with_reducible repeat (first | refine blk_drewN ?_ _ | refine blk_drew ?_ | refine blk_alloc ?_ _)); exact BK322.out) hg (Kd.R_ne HO_14.out BK322.out (by decide))); have n4_ := Aside0.mk (hb); have n5_ := Aside0.mk (ho); clear HO_7; clear HO_53; clear BK318; clear BK322; clear HB; clear HO_14; have HO_7 := n0_; have HO_53 := n1_; have BK318 := n2_; have BK322 := n3_; have HB := n4_; have HO329 := n5_; clear n0_ n1_ n2_ n3_ n4_ n5_; clear ho hb hg hat))
                repeat (go_quiet (first | ((with_reducible refine gate_builtin (b := .append) (xs := #[.tmp 117, .tmp 121]) rfl ?_); (try (refine gate_guard (by rfl) ?_; dsimp only)); at_builtin; refine Kd.R_append Kd.string (w0 := w) w.heap.size rfl (.tmp 117) (.tmp 121) 35 9 (.string ⟨#[]⟩) 16 rfl Try.underlying35 info9 rfl (by decide) (by omega) u14 x14_1 (x13_1.extract 0 ((ji51) : Int).toNat) [.string (x13_1.extract 0 ((ji51) : Int).toNat)] (fun _ => True) (fun _ => False) rfl rfl ?aP (fun _ hk => hk.elim) ?aF ?aO ?aB ?aS ?aL ?_; (case aP => exact rfl); (case aB => exact (by repeat (first | (with_reducible first | exact HB.out | apply below_alloc | apply pw_below_drewN | apply below_drew1 | refine below_set ?_ GE318.out | refine below_set ?_ GE322.out) | exact HB.out))); (case aF => exact (fun _ _ => trivial)); (case aO => exact (by (with_reducible repeat (first | apply Kd.R_alloc | apply Kd.R_drewN | apply Kd.R_drew)); exact HO_14.out)); (case aS => exact (below_size (by repeat (first | (with_reducible first | exact HB.out | apply below_alloc | apply pw_below_drewN | apply below_drew1 | refine below_set ?_ GE318.out | refine below_set ?_ GE322.out) | exact HB.out)))); (case aL => have := LMc54.out; omega); intro v328 w57 ho hb hg hat; rw [← Ny327.out] at ho; have n0_ := Aside0.mk (Kd.R_over' (by (with_reducible repeat (first | apply Kd.R_alloc | apply Kd.R_drewN | apply Kd.R_drew)); exact HO_7.out) (Kd.R_typed (by (with_reducible repeat (first | apply Kd.R_alloc | apply Kd.R_drewN | apply Kd.R_drew)); exact HO_14.out)) (by decide) hg); have n1_ := Aside0.mk (Kd.R_over' (by (with_reducible repeat (first | apply Kd.R_alloc | apply Kd.R_drewN | apply Kd.R_drew)); exact HO_53.out) (Kd.R_typed (by (with_reducible repeat (first | apply Kd.R_alloc | apply Kd.R_drewN | apply Kd.R_drew)); exact HO_14.out)) (by decide) hg); have n2_ := Aside0.mk (blk_grown (g := gb318) (o := .cells #[.int .i64 t315, .int .i64 t316] 28 (0, 0)) (by (with_reducible repeat (first | refine blk_drewN ?_ _ | refine blk_drew ?_ | refine blk_alloc ?_ _)); exact BK318.out) hg (Kd.R_ne HO_14.out BK318.out (by decide))); have n3_ := Aside0.mk (blk_grown (g := gb322) (o := .cells #[.int .i64 ((rd_T43 t311 x55_1).f0), .int .i64 ((rd_T43 t311 x55_1).f1), .int .i64 ((rd_T43 t311 x55_1).f2)] 43 (0, 0)) (by (with_reducible repeat (first | refine blk_drewN ?_ _ | refine blk_drew ?_ | refine blk_alloc ?_ _)); exact BK322.out) hg (Kd.R_ne HO_14.out BK322.out (by decide))); have n4_ := Aside0.mk (hb); have n5_ := Aside0.mk (ho); clear HO_7; clear HO_53; clear BK318; clear BK322; clear HB; clear HO_14; have HO_7 := n0_; have HO_53 := n1_; have BK318 := n2_; have BK322 := n3_; have HB := n4_; have HO329 := n5_; clear n0_ n1_ n2_ n3_ n4_ n5_; clear ho hb hg hat)); try go_wp2_with (first | ((with_reducible refine HOpen.gate_append ?_); simp only [List.cons_append, List.nil_append]) | ((with_reducible refine gate_builtin (b := .append) (xs := #[.tmp 117, .tmp 121]) rfl ?_); (try (refine gate_guard (by rfl) ?_; dsimp only)); at_builtin; refine Kd.R_append Kd.string (w0 := w) w.heap.size rfl (.tmp 117) (.tmp 121) 35 9 (.string ⟨#[]⟩) 16 rfl Try.underlying35 info9 rfl (by decide) (by omega) u14 x14_1 (x13_1.extract 0 ((ji51) : Int).toNat) [.string (x13_1.extract 0 ((ji51) : Int).toNat)] (fun _ => True) (fun _ => False) rfl rfl ?aP (fun _ hk => hk.elim) ?aF ?aO ?aB ?aS ?aL ?_; (case aP => exact rfl); (case aB => exact (by repeat (first | (with_reducible first | exact HB.out | apply below_alloc | apply pw_below_drewN | apply below_drew1 | refine below_set ?_ GE318.out | refine below_set ?_ GE322.out) | exact HB.out))); (case aF => exact (fun _ _ => trivial)); (case aO => exact (by (with_reducible repeat (first | apply Kd.R_alloc | apply Kd.R_drewN | apply Kd.R_drew)); exact HO_14.out)); (case aS => exact (below_size (by repeat (first | (with_reducible first | exact HB.out | apply below_alloc | apply pw_below_drewN | apply below_drew1 | refine below_set ?_ GE318.out | refine below_set ?_ GE322.out) | exact HB.out)))); (case aL => have := LMc54.out; omega); intro v328 w57 ho hb hg hat; rw [← Ny327.out] at ho; have n0_ := Aside0.mk (Kd.R_over' (by (with_reducible repeat (first | apply Kd.R_alloc | apply Kd.R_drewN | apply Kd.R_drew)); exact HO_7.out) (Kd.R_typed (by (with_reducible repeat (first | apply Kd.R_alloc | apply Kd.R_drewN | apply Kd.R_drew)); exact HO_14.out)) (by decide) hg); have n1_ := Aside0.mk (Kd.R_over' (by (with_reducible repeat (first | apply Kd.R_alloc | apply Kd.R_drewN | apply Kd.R_drew)); exact HO_53.out) (Kd.R_typed (by (with_reducible repeat (first | apply Kd.R_alloc | apply Kd.R_drewN | apply Kd.R_drew)); exact HO_14.out)) (by decide) hg); have n2_ := Aside0.mk (blk_grown (g := gb318) (o := .cells #[.int .i64 t315, .int .i64 t316] 28 (0, 0)) (by (with_reducible repeat (first | refine blk_drewN ?_ _ | refine blk_drew ?_ | refine blk_alloc ?_ _)); exact BK318.out) hg (Kd.R_ne HO_14.out BK318.out (by decide))); have n3_ := Aside0.mk (blk_grown (g := gb322) (o := .cells #[.int .i64 ((rd_T43 t311 x55_1).f0), .int .i64 ((rd_T43 t311 x55_1).f1), .int .i64 ((rd_T43 t311 x55_1).f2)] 43 (0, 0)) (by (with_reducible repeat (first | refine blk_drewN ?_ _ | refine blk_drew ?_ | refine blk_alloc ?_ _)); exact BK322.out) hg (Kd.R_ne HO_14.out BK322.out (by decide))); have n4_ := Aside0.mk (hb); have n5_ := Aside0.mk (ho); clear HO_7; clear HO_53; clear BK318; clear BK322; clear HB; clear HO_14; have HO_7 := n0_; have HO_53 := n1_; have BK318 := n2_; have BK322 := n3_; have HB := n4_; have HO329 := n5_; clear n0_ n1_ n2_ n3_ n4_ n5_; clear ho hb hg hat)))
                go_roundg kj19
                case measure => have := HK1.out; have := HJ19.out; omega
                case rel => exact ⟨(wrap64 (x11_1 + (ji51))), (x12_1), (x13_1.extract ((ji51) : Int).toNat x13_1.size), (y327), (wrap64 (x55_1 + 1)), (by first | rfl | (simp; done) | (simp only [← hji51] <;> (first | rfl | simp)) | (simp [*]; done)), (by first | rfl | (simp; done) | (simp [*]; done)), (by first | rfl | (simp; done) | (simp only [← hji51] <;> (first | rfl | simp)) | (simp [*]; done)), (by first | rfl | (simp; done) | (simp [*]; done)), H', ⟨by have := HK1.out; have := HJ19.out; omega⟩, ⟨by (with_reducible repeat (first | apply Kd.R_alloc | apply Kd.R_drewN | apply Kd.R_drew)); exact Kd.R_mono HO_7.out (fun _ hk => trivial)⟩, ⟨by (with_reducible repeat (first | apply Kd.R_alloc | apply Kd.R_drewN | apply Kd.R_drew)); exact HO329.out⟩, ⟨by (with_reducible repeat (first | apply Kd.R_alloc | apply Kd.R_drewN | apply Kd.R_drew)); exact Kd.R_mono HO_53.out (fun _ hk => trivial)⟩, ⟨by (with_reducible repeat (first | refine blk_drewN ?_ _ | refine blk_drew ?_ | refine blk_alloc ?_ _)); exact BK318.out⟩, ⟨by repeat (first | (with_reducible first | exact HB.out | apply below_alloc | apply pw_below_drewN | apply below_drew1 | refine below_set ?_ GE318.out | refine below_set ?_ GE322.out) | exact HB.out)⟩⟩
               ·rw [if_neg c54] at H
                exact absurd H (by simp)
              ·rw [if_neg c53] at H
               exact absurd H (by simp)
             ·rw [if_neg c52] at H
              exact absurd H (by simp)
        ·rw [if_neg c19] at H
         exact absurd H (by simp)
       ·rw [if_neg c18] at H
        exact absurd H (by simp)
      ·rw [if_neg c17] at H
       have c17b0 : decide (x55_1 < (t311.length : Int)) = false := decide_eq_false c17
       clear c17
       replace H := Option.bind_eq_some_iff.mp H
       obtain ⟨⟨t319, t320⟩, A580, H⟩ := H
       replace H : (if t317 = 0 then (if x13_1.toList = ([] : List UInt8) then (if t320 = 0 then (if t319.toList = a2.toList then (some ((wrap64 (t316 - t315)) == x12_1)) else (some false)) else (some false)) else (some false)) else (some false)) = some r := H
       have A58 := Aside0.mk A580
       clear A580
       by_cases c59 : t317 = 0
       ·rw [if_pos c59] at H
        have c59b0 : (t317 == 0) = true := beq_iff_eq.mpr c59
        have c59b1 : (t317 != 0) = false := bne_eq_false_iff_eq.mpr c59
        clear c59
        by_cases c60 : x13_1.toList = ([] : List UInt8)
        ·rw [if_pos c60] at H
         have c60b0 : (x13_1.toList == ([] : List UInt8)) = true := beq_iff_eq.mpr c60
         have c60b1 : (x13_1.toList != ([] : List UInt8)) = false := bne_eq_false_iff_eq.mpr c60
         clear c60
         by_cases c61 : t320 = 0
         ·rw [if_pos c61] at H
          have c61b0 : (t320 == 0) = true := beq_iff_eq.mpr c61
          have c61b1 : (t320 != 0) = false := bne_eq_false_iff_eq.mpr c61
          clear c61
          by_cases c62 : t319.toList = a2.toList
          ·rw [if_pos c62] at H
           have c62b0 : (t319.toList == a2.toList) = true := beq_iff_eq.mpr c62
           have c62b1 : (t319.toList != a2.toList) = false := bne_eq_false_iff_eq.mpr c62
           clear c62
           obtain rfl := Option.some.inj H
           obtain ⟨Ao63, co63, eo63⟩ := Kd.R_slice HO_14.out
           subst eo63
           go_wp2_with (first | ((with_reducible refine HOpen.gate_append ?_); simp only [List.cons_append, List.nil_append]) | (go_at_call 15; (with_reducible refine (span_Join.calls k1 a0 _ _ t311 _ _ x14_1 t319 t320 _ ?side1 ?side2 ?side3 ?side4 A58.out).mono ?_); (case side1 => repeat (first | exact (Kd.R_reads' HO_7.out).2.2 | (with_reducible refine Kd.C_alloc ?_ _) | (with_reducible refine Kd.C_drewN ?_ _) | (with_reducible refine Kd.C_drew ?_))); (case side2 => exact (Kd.R_reads' HO_7.out).2.1); (case side3 => repeat (first | exact (Kd.R_reads' HO_14.out).2.2 | (with_reducible refine Kd.C_alloc ?_ _) | (with_reducible refine Kd.C_drewN ?_ _) | (with_reducible refine Kd.C_drew ?_))); (case side4 => exact (Kd.R_reads' HO_14.out).2.1); rintro e w64 ⟨rfl, hb⟩; have n0_ := Aside0.mk (Kd.R_below (by (with_reducible repeat (first | apply Kd.R_alloc | apply Kd.R_drewN | apply Kd.R_drew)); exact HO_7.out) hb); have n1_ := Aside0.mk (Kd.R_below (by (with_reducible repeat (first | apply Kd.R_alloc | apply Kd.R_drewN | apply Kd.R_drew)); exact HO_14.out) hb); have n2_ := Aside0.mk (Kd.R_below (by (with_reducible repeat (first | apply Kd.R_alloc | apply Kd.R_drewN | apply Kd.R_drew)); exact HO_53.out) hb); have n3_ := Aside0.mk (blk_below (g := gb318) (o := .cells #[.int .i64 t315, .int .i64 t316] 28 (0, 0)) (by (with_reducible repeat (first | refine blk_drewN ?_ _ | refine blk_drew ?_ | refine blk_alloc ?_ _)); exact BK318.out) hb); have n4_ := Aside0.mk (below_step (by repeat (first | (with_reducible first | exact HB.out | apply below_alloc | apply pw_below_drewN | apply below_drew1 | refine below_set ?_ GE318.out) | exact HB.out)) hb); clear HO_7; clear HO_14; clear HO_53; clear BK318; clear HB; have HO_7 := n0_; have HO_14 := n1_; have HO_53 := n2_; have BK318 := n3_; have HB := n4_; clear n0_ n1_ n2_ n3_ n4_; (try clear hb); (try clear hb2); (try clear hk); (try clear hi); have hcz65_0 : w64.cell? ⟨gb318, 0, none⟩ = some (.int .i64 t315) := (blk_cell BK318.out 0).trans rfl; have hcz65_1 : w64.cell? ⟨gb318, 1, none⟩ = some (.int .i64 t316) := (blk_cell BK318.out 1).trans rfl; have hfz65_0 := blk_frozen BK318.out 0; have hfz65_1 := blk_frozen BK318.out 1))
           repeat (go_quiet (first | (go_at_call 15; (with_reducible refine (span_Join.calls k1 a0 _ _ t311 _ _ x14_1 t319 t320 _ ?side1 ?side2 ?side3 ?side4 A58.out).mono ?_); (case side1 => repeat (first | exact (Kd.R_reads' HO_7.out).2.2 | (with_reducible refine Kd.C_alloc ?_ _) | (with_reducible refine Kd.C_drewN ?_ _) | (with_reducible refine Kd.C_drew ?_))); (case side2 => exact (Kd.R_reads' HO_7.out).2.1); (case side3 => repeat (first | exact (Kd.R_reads' HO_14.out).2.2 | (with_reducible refine Kd.C_alloc ?_ _) | (with_reducible refine Kd.C_drewN ?_ _) | (with_reducible refine Kd.C_drew ?_))); (case side4 => exact (Kd.R_reads' HO_14.out).2.1); rintro e w64 ⟨rfl, hb⟩; have n0_ := Aside0.mk (Kd.R_below (by (with_reducible repeat (first | apply Kd.R_alloc | apply Kd.R_drewN | apply Kd.R_drew)); exact HO_7.out) hb); have n1_ := Aside0.mk (Kd.R_below (by (with_reducible repeat (first | apply Kd.R_alloc | apply Kd.R_drewN | apply Kd.R_drew)); exact HO_14.out) hb); have n2_ := Aside0.mk (Kd.R_below (by (with_reducible repeat (first | apply Kd.R_alloc | apply Kd.R_drewN | apply Kd.R_drew)); exact HO_53.out) hb); have n3_ := Aside0.mk (blk_below (g := gb318) (o := .cells #[.int .i64 t315, .int .i64 t316] 28 (0, 0)) (by (with_reducible repeat (first | refine blk_drewN ?_ _ | refine blk_drew ?_ | refine blk_alloc ?_ _)); exact BK318.out) hb); have n4_ := Aside0.mk (below_step (by repeat (first | (with_reducible first | exact HB.out | apply below_alloc | apply pw_below_drewN | apply below_drew1 | refine below_set ?_ GE318.out) | exact HB.out)) hb); clear HO_7; clear HO_14; clear HO_53; clear BK318; clear HB; have HO_7 := n0_; have HO_14 := n1_; have HO_53 := n2_; have BK318 := n3_; have HB := n4_; clear n0_ n1_ n2_ n3_ n4_; (try clear hb); (try clear hb2); (try clear hk); (try clear hi); have hcz65_0 : w64.cell? ⟨gb318, 0, none⟩ = some (.int .i64 t315) := (blk_cell BK318.out 0).trans rfl; have hcz65_1 : w64.cell? ⟨gb318, 1, none⟩ = some (.int .i64 t316) := (blk_cell BK318.out 1).trans rfl; have hfz65_0 := blk_frozen BK318.out 0; have hfz65_1 := blk_frozen BK318.out 1)); try go_wp2_with (first | ((with_reducible refine HOpen.gate_append ?_); simp only [List.cons_append, List.nil_append]) | (go_at_call 15; (with_reducible refine (span_Join.calls k1 a0 _ _ t311 _ _ x14_1 t319 t320 _ ?side1 ?side2 ?side3 ?side4 A58.out).mono ?_); (case side1 => repeat (first | exact (Kd.R_reads' HO_7.out).2.2 | (with_reducible refine Kd.C_alloc ?_ _) | (with_reducible refine Kd.C_drewN ?_ _) | (with_reducible refine Kd.C_drew ?_))); (case side2 => exact (Kd.R_reads' HO_7.out).2.1); (case side3 => repeat (first | exact (Kd.R_reads' HO_14.out).2.2 | (with_reducible refine Kd.C_alloc ?_ _) | (with_reducible refine Kd.C_drewN ?_ _) | (with_reducible refine Kd.C_drew ?_))); (case side4 => exact (Kd.R_reads' HO_14.out).2.1); rintro e w64 ⟨rfl, hb⟩; have n0_ := Aside0.mk (Kd.R_below (by (with_reducible repeat (first | apply Kd.R_alloc | apply Kd.R_drewN | apply Kd.R_drew)); exact HO_7.out) hb); have n1_ := Aside0.mk (Kd.R_below (by (with_reducible repeat (first | apply Kd.R_alloc | apply Kd.R_drewN | apply Kd.R_drew)); exact HO_14.out) hb); have n2_ := Aside0.mk (Kd.R_below (by (with_reducible repeat (first | apply Kd.R_alloc | apply Kd.R_drewN | apply Kd.R_drew)); exact HO_53.out) hb); have n3_ := Aside0.mk (blk_below (g := gb318) (o := .cells #[.int .i64 t315, .int .i64 t316] 28 (0, 0)) (by (with_reducible repeat (first | refine blk_drewN ?_ _ | refine blk_drew ?_ | refine blk_alloc ?_ _)); exact BK318.out) hb); have n4_ := Aside0.mk (below_step (by repeat (first | (with_reducible first | exact HB.out | apply below_alloc | apply pw_below_drewN | apply below_drew1 | refine below_set ?_ GE318.out) | exact HB.out)) hb); clear HO_7; clear HO_14; clear HO_53; clear BK318; clear HB; have HO_7 := n0_; have HO_14 := n1_; have HO_53 := n2_; have BK318 := n3_; have HB := n4_; clear n0_ n1_ n2_ n3_ n4_; (try clear hb); (try clear hb2); (try clear hk); (try clear hi); have hcz65_0 : w64.cell? ⟨gb318, 0, none⟩ = some (.int .i64 t315) := (blk_cell BK318.out 0).trans rfl; have hcz65_1 : w64.cell? ⟨gb318, 1, none⟩ = some (.int .i64 t316) := (blk_cell BK318.out 1).trans rfl; have hfz65_0 := blk_frozen BK318.out 0; have hfz65_1 := blk_frozen BK318.out 1)))
           go_ret
           exact ⟨by first | rfl | (simp [errW_none, errW_some] <;> rfl) | (simp [*, errW_none, errW_some] <;> rfl), by repeat (first | (with_reducible first | exact HB.out | apply below_alloc | apply pw_below_drewN | apply below_drew1 | refine below_set ?_ GE318.out) | exact HB.out)⟩
          ·rw [if_neg c62] at H
           have c62b0 : (t319.toList == a2.toList) = false := beq_eq_false_iff_ne.mpr c62
           have c62b1 : (t319.toList != a2.toList) = true := bne_iff_ne.mpr c62
           exact absurd ((Option.some.inj H).trans hrt.out) (by simp)
         ·rw [if_neg c61] at H
          have c61b0 : (t320 == 0) = false := beq_eq_false_iff_ne.mpr c61
          have c61b1 : (t320 != 0) = true := bne_iff_ne.mpr c61
          exact absurd ((Option.some.inj H).trans hrt.out) (by simp)
        ·rw [if_neg c60] at H
         have c60b0 : (x13_1.toList == ([] : List UInt8)) = false := beq_eq_false_iff_ne.mpr c60
         have c60b1 : (x13_1.toList != ([] : List UInt8)) = true := bne_iff_ne.mpr c60
         exact absurd ((Option.some.inj H).trans hrt.out) (by simp)
       ·rw [if_neg c59] at H
        have c59b0 : (t317 == 0) = false := beq_eq_false_iff_ne.mpr c59
        have c59b1 : (t317 != 0) = true := bne_iff_ne.mpr c59
        exact absurd ((Option.some.inj H).trans hrt.out) (by simp)
   ·rw [if_neg c10] at H
    have c10b0 : (t312 == 0) = false := beq_eq_false_iff_ne.mpr c10
    have c10b1 : (t312 != 0) = true := bne_iff_ne.mpr c10
    by_cases c66 : (t311.length : Int) = 0
    ·rw [if_pos c66] at H
     have c66b0 : ((t311.length : Int) == 0) = true := beq_iff_eq.mpr c66
     have c66b1 : ((t311.length : Int) != 0) = false := bne_eq_false_iff_eq.mpr c66
     clear c66
     obtain rfl := Option.some.inj H
     go_enter Try.func5, Try.ntmps5
     (try simp only [List.append_eq, List.cons_append, List.nil_append])
     go_wp2_with (first | ((with_reducible refine HOpen.gate_append ?_); simp only [List.cons_append, List.nil_append]) | (go_at_call 6; (with_reducible refine (caulklaw19_lives.calls  true _ A4.out).mono ?_); rintro e w67 ⟨rfl, hb⟩; have n0_ := Aside0.mk (below_step (by repeat (first | (with_reducible first | exact HB.out | apply below_alloc | apply pw_below_drewN | apply below_drew1) | exact HB.out)) hb); clear HB; have HB := n0_; clear n0_; (try clear hb); (try clear hb2); (try clear hk); (try clear hi)) | (go_at_call 7; (with_reducible refine (span_Cut.calls a0 a1 (a2.size : Int) t311 t312 _ A8.out).mono ?_); rintro e w68 ⟨v313, rfl, ho0, hb⟩; have n0_ := Aside0.mk (Kd.R_lower ho0 (below_size (by repeat (first | (with_reducible first | exact HB.out | apply below_alloc | apply pw_below_drewN | apply below_drew1) | exact HB.out)))); have n1_ := Aside0.mk (below_step (by repeat (first | (with_reducible first | exact HB.out | apply below_alloc | apply pw_below_drewN | apply below_drew1) | exact HB.out)) hb); clear HB; have HO314 := n0_; have HB := n1_; clear n0_ n1_; (try clear hb); (try clear hb2); (try clear hk); (try clear hi); (try clear ho0)) | (go_at_call 9; (with_reducible refine (span_Whole.calls a0 a1 (a2.size : Int) t315 t316 t317 _ A9.out).mono ?_); rintro e w69 ⟨rfl, hb⟩; have n0_ := Aside0.mk (Kd.R_below (by (with_reducible repeat (first | apply Kd.R_alloc | apply Kd.R_drewN | apply Kd.R_drew)); exact HO314.out) hb); have n1_ := Aside0.mk (below_step (by repeat (first | (with_reducible first | exact HB.out | apply below_alloc | apply pw_below_drewN | apply below_drew1) | exact HB.out)) hb); clear HO314; clear HB; have HO314 := n0_; have HB := n1_; clear n0_ n1_; (try clear hb); (try clear hb2); (try clear hk); (try clear hi)) | ((with_reducible refine gate_dst (N := 9) rfl ?_); (try (refine gate_guard (by rfl) ?_; dsimp only)); refine box_event ?hg (N := 9) ?hd (cs := #[.int .i64 0, .int .i64 0]) (t := 28) ?hr ?_; (case hd => rfl); (case hg => rfl); (case hr => first | (go_simp; done) | (go_simp; rfl)); intro gb318 hg w70 hbox hb; have n0_ := Aside0.mk (Kd.R_below (by (with_reducible repeat (first | apply Kd.R_alloc | apply Kd.R_drewN | apply Kd.R_drew)); exact HO314.out) hb); have n1_ := Aside0.mk (below_step (by repeat (first | (with_reducible first | exact HB.out | apply below_alloc | apply pw_below_drewN | apply below_drew1) | exact HB.out)) hb); have n2_ := Aside0.mk (hbox); have n3_ := Aside0.mk ((by rw [hg]; exact (below_size (by repeat (first | (with_reducible first | exact HB.out | apply below_alloc | apply pw_below_drewN | apply below_drew1) | exact HB.out))) : w.heap.size ≤ gb318)); have n4_ := Aside0.mk ((by rw [hg]; exact (below_size (by repeat (first | (with_reducible first | exact HB.out | apply below_alloc | apply pw_below_drewN | apply below_drew1) | exact HB.out))) : w.heap.size ≤ gb318)); clear HO314; clear HB; have HO314 := n0_; have HB := n1_; have BK318 := n2_; have GW318 := n3_; have GE318 := n4_; clear n0_ n1_ n2_ n3_ n4_; clear hb hbox hg; have hcz71_0 : w70.cell? ⟨gb318, 0, none⟩ = some (.int .i64 0) := (blk_cell BK318.out 0).trans rfl; have hcz71_1 : w70.cell? ⟨gb318, 1, none⟩ = some (.int .i64 0) := (blk_cell BK318.out 1).trans rfl; have hfz71_0 := blk_frozen BK318.out 0; have hfz71_1 := blk_frozen BK318.out 1; obtain ⟨Ao72, co72, eo72⟩ := Kd.R_slice HO314.out; subst eo72))
     repeat (go_quiet (first | (go_at_call 6; (with_reducible refine (caulklaw19_lives.calls  true _ A4.out).mono ?_); rintro e w67 ⟨rfl, hb⟩; have n0_ := Aside0.mk (below_step (by repeat (first | (with_reducible first | exact HB.out | apply below_alloc | apply pw_below_drewN | apply below_drew1) | exact HB.out)) hb); clear HB; have HB := n0_; clear n0_; (try clear hb); (try clear hb2); (try clear hk); (try clear hi)) | (go_at_call 7; (with_reducible refine (span_Cut.calls a0 a1 (a2.size : Int) t311 t312 _ A8.out).mono ?_); rintro e w68 ⟨v313, rfl, ho0, hb⟩; have n0_ := Aside0.mk (Kd.R_lower ho0 (below_size (by repeat (first | (with_reducible first | exact HB.out | apply below_alloc | apply pw_below_drewN | apply below_drew1) | exact HB.out)))); have n1_ := Aside0.mk (below_step (by repeat (first | (with_reducible first | exact HB.out | apply below_alloc | apply pw_below_drewN | apply below_drew1) | exact HB.out)) hb); clear HB; have HO314 := n0_; have HB := n1_; clear n0_ n1_; (try clear hb); (try clear hb2); (try clear hk); (try clear hi); (try clear ho0)) | (go_at_call 9; (with_reducible refine (span_Whole.calls a0 a1 (a2.size : Int) t315 t316 t317 _ A9.out).mono ?_); rintro e w69 ⟨rfl, hb⟩; have n0_ := Aside0.mk (Kd.R_below (by (with_reducible repeat (first | apply Kd.R_alloc | apply Kd.R_drewN | apply Kd.R_drew)); exact HO314.out) hb); have n1_ := Aside0.mk (below_step (by repeat (first | (with_reducible first | exact HB.out | apply below_alloc | apply pw_below_drewN | apply below_drew1) | exact HB.out)) hb); clear HO314; clear HB; have HO314 := n0_; have HB := n1_; clear n0_ n1_; (try clear hb); (try clear hb2); (try clear hk); (try clear hi)) | ((with_reducible refine gate_dst (N := 9) rfl ?_); (try (refine gate_guard (by rfl) ?_; dsimp only)); refine box_event ?hg (N := 9) ?hd (cs := #[.int .i64 0, .int .i64 0]) (t := 28) ?hr ?_; (case hd => rfl); (case hg => rfl); (case hr => first | (go_simp; done) | (go_simp; rfl)); intro gb318 hg w70 hbox hb; have n0_ := Aside0.mk (Kd.R_below (by (with_reducible repeat (first | apply Kd.R_alloc | apply Kd.R_drewN | apply Kd.R_drew)); exact HO314.out) hb); have n1_ := Aside0.mk (below_step (by repeat (first | (with_reducible first | exact HB.out | apply below_alloc | apply pw_below_drewN | apply below_drew1) | exact HB.out)) hb); have n2_ := Aside0.mk (hbox); have n3_ := Aside0.mk ((by rw [hg]; exact (below_size (by repeat (first | (with_reducible first | exact HB.out | apply below_alloc | apply pw_below_drewN | apply below_drew1) | exact HB.out))) : w.heap.size ≤ gb318)); have n4_ := Aside0.mk ((by rw [hg]; exact (below_size (by repeat (first | (with_reducible first | exact HB.out | apply below_alloc | apply pw_below_drewN | apply below_drew1) | exact HB.out))) : w.heap.size ≤ gb318)); clear HO314; clear HB; have HO314 := n0_; have HB := n1_; have BK318 := n2_; have GW318 := n3_; have GE318 := n4_; clear n0_ n1_ n2_ n3_ n4_; clear hb hbox hg; have hcz71_0 : w70.cell? ⟨gb318, 0, none⟩ = some (.int .i64 0) := (blk_cell BK318.out 0).trans rfl; have hcz71_1 : w70.cell? ⟨gb318, 1, none⟩ = some (.int .i64 0) := (blk_cell BK318.out 1).trans rfl; have hfz71_0 := blk_frozen BK318.out 0; have hfz71_1 := blk_frozen BK318.out 1; obtain ⟨Ao72, co72, eo72⟩ := Kd.R_slice HO314.out; subst eo72)); try go_wp2_with (first | ((with_reducible refine HOpen.gate_append ?_); simp only [List.cons_append, List.nil_append]) | (go_at_call 6; (with_reducible refine (caulklaw19_lives.calls  true _ A4.out).mono ?_); rintro e w67 ⟨rfl, hb⟩; have n0_ := Aside0.mk (below_step (by repeat (first | (with_reducible first | exact HB.out | apply below_alloc | apply pw_below_drewN | apply below_drew1) | exact HB.out)) hb); clear HB; have HB := n0_; clear n0_; (try clear hb); (try clear hb2); (try clear hk); (try clear hi)) | (go_at_call 7; (with_reducible refine (span_Cut.calls a0 a1 (a2.size : Int) t311 t312 _ A8.out).mono ?_); rintro e w68 ⟨v313, rfl, ho0, hb⟩; have n0_ := Aside0.mk (Kd.R_lower ho0 (below_size (by repeat (first | (with_reducible first | exact HB.out | apply below_alloc | apply pw_below_drewN | apply below_drew1) | exact HB.out)))); have n1_ := Aside0.mk (below_step (by repeat (first | (with_reducible first | exact HB.out | apply below_alloc | apply pw_below_drewN | apply below_drew1) | exact HB.out)) hb); clear HB; have HO314 := n0_; have HB := n1_; clear n0_ n1_; (try clear hb); (try clear hb2); (try clear hk); (try clear hi); (try clear ho0)) | (go_at_call 9; (with_reducible refine (span_Whole.calls a0 a1 (a2.size : Int) t315 t316 t317 _ A9.out).mono ?_); rintro e w69 ⟨rfl, hb⟩; have n0_ := Aside0.mk (Kd.R_below (by (with_reducible repeat (first | apply Kd.R_alloc | apply Kd.R_drewN | apply Kd.R_drew)); exact HO314.out) hb); have n1_ := Aside0.mk (below_step (by repeat (first | (with_reducible first | exact HB.out | apply below_alloc | apply pw_below_drewN | apply below_drew1) | exact HB.out)) hb); clear HO314; clear HB; have HO314 := n0_; have HB := n1_; clear n0_ n1_; (try clear hb); (try clear hb2); (try clear hk); (try clear hi)) | ((with_reducible refine gate_dst (N := 9) rfl ?_); (try (refine gate_guard (by rfl) ?_; dsimp only)); refine box_event ?hg (N := 9) ?hd (cs := #[.int .i64 0, .int .i64 0]) (t := 28) ?hr ?_; (case hd => rfl); (case hg => rfl); (case hr => first | (go_simp; done) | (go_simp; rfl)); intro gb318 hg w70 hbox hb; have n0_ := Aside0.mk (Kd.R_below (by (with_reducible repeat (first | apply Kd.R_alloc | apply Kd.R_drewN | apply Kd.R_drew)); exact HO314.out) hb); have n1_ := Aside0.mk (below_step (by repeat (first | (with_reducible first | exact HB.out | apply below_alloc | apply pw_below_drewN | apply below_drew1) | exact HB.out)) hb); have n2_ := Aside0.mk (hbox); have n3_ := Aside0.mk ((by rw [hg]; exact (below_size (by repeat (first | (with_reducible first | exact HB.out | apply below_alloc | apply pw_below_drewN | apply below_drew1) | exact HB.out))) : w.heap.size ≤ gb318)); have n4_ := Aside0.mk ((by rw [hg]; exact (below_size (by repeat (first | (with_reducible first | exact HB.out | apply below_alloc | apply pw_below_drewN | apply below_drew1) | exact HB.out))) : w.heap.size ≤ gb318)); clear HO314; clear HB; have HO314 := n0_; have HB := n1_; have BK318 := n2_; have GW318 := n3_; have GE318 := n4_; clear n0_ n1_ n2_ n3_ n4_; clear hb hbox hg; have hcz71_0 : w70.cell? ⟨gb318, 0, none⟩ = some (.int .i64 0) := (blk_cell BK318.out 0).trans rfl; have hcz71_1 : w70.cell? ⟨gb318, 1, none⟩ = some (.int .i64 0) := (blk_cell BK318.out 1).trans rfl; have hfz71_0 := blk_frozen BK318.out 0; have hfz71_1 := blk_frozen BK318.out 1; obtain ⟨Ao72, co72, eo72⟩ := Kd.R_slice HO314.out; subst eo72)))
     go_ret
     exact ⟨by first | rfl | (simp [errW_none, errW_some] <;> rfl) | (simp [*, errW_none, errW_some] <;> rfl), by repeat (first | (with_reducible first | exact HB.out | apply below_alloc | apply pw_below_drewN | apply below_drew1 | refine below_set ?_ GE318.out) | exact HB.out)⟩
    ·rw [if_neg c66] at H
     have c66b0 : ((t311.length : Int) == 0) = false := beq_eq_false_iff_ne.mpr c66
     have c66b1 : ((t311.length : Int) != 0) = true := bne_iff_ne.mpr c66
     have c66b2 : ¬ (t311 = []) := fun h_ => c66 (by rw [h_]; rfl)
     exact absurd ((Option.some.inj H).trans hrt.out) (by simp)
 ·replace c5 := Bool.eq_false_iff.mpr c5
  subst c5
  have H1 : (some false) = some r := by rw [if_neg (show ¬ (false = true) by decide)] at H; exact H
  clear H
  have H := H1
  clear H1
  exact absurd ((Option.some.inj H).trans hrt.out) (by simp)

def caulklaw19_SpanAll.Pure : Prop := ∀ (a0 : Int) (a1 : Int) (a2 : ByteArray), (Lit.int .i64 a0).wf = true → (Lit.int .i64 a1).wf = true → a2.size ≤ 140737488351232 → ∃ k, caulklaw19_SpanAll.f k a0 a1 a2 = some true
theorem caulklaw19_SpanAll.walk (P : caulklaw19_SpanAll.Pure) (a0 : Int) (a1 : Int) (a2 : ByteArray) (w : World)  (hw0 : (Lit.int .i64 a0).wf = true) (hw1 : (Lit.int .i64 a1).wf = true) (hw2 : a2.size ≤ 140737488351232) :
  Calls Try.prog 5 #[.int .i64 a0, .int .i64 a1, .string a2] w fun e w' => e = .returned (.bool true) ∧ Below w.heap.size w w' := by
 obtain ⟨k, h⟩ := P a0 a1 a2 hw0 hw1 hw2
 refine (caulklaw19_SpanAll.calls k a0 a1 a2 true w  ⟨rfl⟩ h).mono ?_
 rintro e w' ⟨rfl, hd⟩
 exact ⟨rfl, hd⟩

end Go.Proofs.Ytepbhlngcaiklaa.HSpan
