/- WRITTEN BY wip/hyb.py, a program of this workplace (out of the kit's printer and this workplace's own contracts). -/
import Derived.Test.YtgahpdoiddhdaaaGElevx0
import Derived.Test.YtgahpdoiddhdaaaGElevx3
import Derived.Test.YtgahpdoiddhdaaaGElevx4
import Derived.Test.YtgahpdoiddhdaaaGElevx6
namespace Go.Proofs.Ytgahpdoiddhdaaa.HElev
open Go.RowKit Go.Proofs.YtgahpdoiddhdaaaW.PrintWords Go.Proofs.YtgahpdoiddhdaaaW.PrintLast Go.Proofs.YtgahpdoiddhdaaaW.PrintMore
attribute [local go_sem] max2_int min2_int max_two min_two max_three min_three max_four min_four   -- for this text's walks alone
set_option linter.unusedVariables false
set_option linter.unusedSimpArgs false

mutual
def api_Req_98__elevator_Order_1.l0 : Nat → List (S37) → Int → Int → Int → Int → Option ((List (S37)))
 | 0, _, _, _, _, _ => none
 | k + 1, x0, x1, x6, x7, x8 => if x8 ≤ x1 then ((api_Req_126__elevator_Order_1.f k x0 x7 x8).bind fun t4177 => (api_Req_98__elevator_Order_1.l0 k t4177 x1 x6 x8 (wrap64 (x8 + x6)))) else ((api_Req_126__elevator_Order_1.f k x0 x7 x1).bind fun t4178 => (api_Req_98__elevator_Order_1.l1 k t4178 x1 x6))
def api_Req_98__elevator_Order_1.l1 : Nat → List (S37) → Int → Int → Option ((List (S37)))
 | 0, _, _, _ => none
 | k + 1, x0, x1, x6 => if x6 < x1 then (api_Req_98__elevator_Order_1.l2 k x0 x1 x6 0 (wrap64 (2 * x6))) else (some x0)
def api_Req_98__elevator_Order_1.l2 : Nat → List (S37) → Int → Int → Int → Int → Option ((List (S37)))
 | 0, _, _, _, _, _ => none
 | k + 1, x0, x1, x6, x7, x8 => if x8 ≤ x1 then ((api_Req_127__elevator_Order_1.f k x0 x7 (wrap64 (x7 + x6)) x8).bind fun t4179 => (api_Req_98__elevator_Order_1.l2 k t4179 x1 x6 x8 (wrap64 (x8 + (wrap64 (2 * x6)))))) else (if (wrap64 (x7 + x6)) < x1 then ((api_Req_127__elevator_Order_1.f k x0 x7 (wrap64 (x7 + x6)) x1).bind fun t4180 => (api_Req_98__elevator_Order_1.l1 k t4180 x1 (wrap64 (x6 * 2)))) else (api_Req_98__elevator_Order_1.l1 k x0 x1 (wrap64 (x6 * 2))))
end
def api_Req_98__elevator_Order_1.f (k : Nat) (l0 : List (S37)) (a1 : Int)  : Option ((List (S37))) := api_Req_98__elevator_Order_1.l0 k l0 a1 20 0 20
theorem api_Req_98__elevator_Order_1.mono_l : ∀ k, (∀ y0 y1 y2 y3 y4, LeO (api_Req_98__elevator_Order_1.l0 k y0 y1 y2 y3 y4) (api_Req_98__elevator_Order_1.l0 (k + 1) y0 y1 y2 y3 y4)) ∧ (∀ y0 y1 y2, LeO (api_Req_98__elevator_Order_1.l1 k y0 y1 y2) (api_Req_98__elevator_Order_1.l1 (k + 1) y0 y1 y2)) ∧ (∀ y0 y1 y2 y3 y4, LeO (api_Req_98__elevator_Order_1.l2 k y0 y1 y2 y3 y4) (api_Req_98__elevator_Order_1.l2 (k + 1) y0 y1 y2 y3 y4))
 | 0 => ⟨fun _ _ _ _ _ r h => by simp [api_Req_98__elevator_Order_1.l0] at h, fun _ _ _ r h => by simp [api_Req_98__elevator_Order_1.l1] at h, fun _ _ _ _ _ r h => by simp [api_Req_98__elevator_Order_1.l2] at h⟩
 | k + 1 => by
  obtain ⟨ih0, ih1, ih2⟩ := api_Req_98__elevator_Order_1.mono_l k
  refine ⟨?_, ?_, ?_⟩
  ·intro y0 y1 y2 y3 y4
   unfold api_Req_98__elevator_Order_1.l0
   repeat' first
   | (with_reducible exact ih0 _ _ _ _ _)
   | (with_reducible exact ih1 _ _ _)
   | (with_reducible exact ih2 _ _ _ _ _)
   | (with_reducible exact api_Req_126__elevator_Order_1.mono _ _ _ _)
   | (with_reducible exact api_Req_127__elevator_Order_1.mono _ _ _ _ _)
   | (with_reducible exact LeO.refl _)
   | (with_reducible exact LeO.none _)
   | (with_reducible refine LeO.ite ?_ ?_)
   | (with_reducible refine LeO.bind ?_ (fun _ => ?_))
   | exact ih0 _ _ _ _ _
   | exact ih1 _ _ _
   | exact ih2 _ _ _ _ _
   | exact api_Req_126__elevator_Order_1.mono _ _ _ _
   | exact api_Req_127__elevator_Order_1.mono _ _ _ _ _
   | exact LeO.none _
   | refine LeO.ite ?_ ?_
   | refine LeO.bind ?_ (fun _ => ?_)
  ·intro y0 y1 y2
   unfold api_Req_98__elevator_Order_1.l1
   repeat' first
   | (with_reducible exact ih0 _ _ _ _ _)
   | (with_reducible exact ih1 _ _ _)
   | (with_reducible exact ih2 _ _ _ _ _)
   | (with_reducible exact api_Req_126__elevator_Order_1.mono _ _ _ _)
   | (with_reducible exact api_Req_127__elevator_Order_1.mono _ _ _ _ _)
   | (with_reducible exact LeO.refl _)
   | (with_reducible exact LeO.none _)
   | (with_reducible refine LeO.ite ?_ ?_)
   | (with_reducible refine LeO.bind ?_ (fun _ => ?_))
   | exact ih0 _ _ _ _ _
   | exact ih1 _ _ _
   | exact ih2 _ _ _ _ _
   | exact api_Req_126__elevator_Order_1.mono _ _ _ _
   | exact api_Req_127__elevator_Order_1.mono _ _ _ _ _
   | exact LeO.none _
   | refine LeO.ite ?_ ?_
   | refine LeO.bind ?_ (fun _ => ?_)
  ·intro y0 y1 y2 y3 y4
   unfold api_Req_98__elevator_Order_1.l2
   repeat' first
   | (with_reducible exact ih0 _ _ _ _ _)
   | (with_reducible exact ih1 _ _ _)
   | (with_reducible exact ih2 _ _ _ _ _)
   | (with_reducible exact api_Req_126__elevator_Order_1.mono _ _ _ _)
   | (with_reducible exact api_Req_127__elevator_Order_1.mono _ _ _ _ _)
   | (with_reducible exact LeO.refl _)
   | (with_reducible exact LeO.none _)
   | (with_reducible refine LeO.ite ?_ ?_)
   | (with_reducible refine LeO.bind ?_ (fun _ => ?_))
   | exact ih0 _ _ _ _ _
   | exact ih1 _ _ _
   | exact ih2 _ _ _ _ _
   | exact api_Req_126__elevator_Order_1.mono _ _ _ _
   | exact api_Req_127__elevator_Order_1.mono _ _ _ _ _
   | exact LeO.none _
   | refine LeO.ite ?_ ?_
   | refine LeO.bind ?_ (fun _ => ?_)
theorem api_Req_98__elevator_Order_1.mono : ∀ a0 a1 k, LeO (api_Req_98__elevator_Order_1.f k a0 a1) (api_Req_98__elevator_Order_1.f (k + 1) a0 a1) := by
 intro a0 a1 k
 obtain ⟨ih0, ih1, ih2⟩ := api_Req_98__elevator_Order_1.mono_l k
 unfold api_Req_98__elevator_Order_1.f
 repeat' first
   | (with_reducible exact ih0 _ _ _ _ _)
   | (with_reducible exact ih1 _ _ _)
   | (with_reducible exact ih2 _ _ _ _ _)
   | (with_reducible exact api_Req_126__elevator_Order_1.mono _ _ _ _)
   | (with_reducible exact api_Req_127__elevator_Order_1.mono _ _ _ _ _)
   | (with_reducible exact LeO.refl _)
   | (with_reducible exact LeO.none _)
   | (with_reducible refine LeO.ite ?_ ?_)
   | (with_reducible refine LeO.bind ?_ (fun _ => ?_))
   | exact ih0 _ _ _ _ _
   | exact ih1 _ _ _
   | exact ih2 _ _ _ _ _
   | exact api_Req_126__elevator_Order_1.mono _ _ _ _
   | exact api_Req_127__elevator_Order_1.mono _ _ _ _ _
   | exact LeO.none _
   | refine LeO.ite ?_ ?_
   | refine LeO.bind ?_ (fun _ => ?_)
set_option maxHeartbeats 8000000 in
set_option maxRecDepth 100000 in
theorem api_Req_98__elevator_Order_1.calls (k : Nat) (P0_ : Nat → Prop) (u9000_ : Value) (l0 : List (S37)) (a1 : Int)  (r : List (S37)) (w0 w : World) (hB : Below w0.heap.size w0 w) (ho0 : Kd.R k37 37 w w0.heap.size P0_ u9000_ l0) (h : api_Req_98__elevator_Order_1.f k l0 a1 = some r) :
  Calls Try.prog 98 #[u9000_, .int .i64 a1, .func (.func 63) #[] #[]] w fun e w' => e = .returned (.tuple #[]) ∧ Kd.R k37 37 w' w0.heap.size (fun k_ => (P0_ k_ ∨ w.heap.size ≤ k_)) u9000_ r ∧ Below w0.heap.size w0 w' ∧ Kept w w' (fun k_ => P0_ k_) := by
 have HO0 := Aside0.mk (show Kd.R k37 37 w w0.heap.size (fun k_ => (P0_ k_ ∨ w.heap.size ≤ k_)) u9000_ l0 from Kd.R_mono ho0 (fun k_ hk => (.inl hk)))
 have HK := Aside0.mk (Kept.refl w (fun k_ => P0_ k_))
 have HW0 := Aside0.mk hB.size
 have HB := Aside0.mk hB
 clear hB
 have H : (api_Req_98__elevator_Order_1.l0 k l0 a1 20 0 20) = some r := h
 clear h
 have H' := Aside0.mk H
 clear H
 go_enter Try.func98, Try.ntmps98
 go_wp2
 go_loopg [7, 8] k (fun kq v7 v8 w' => ∃ (x0_1 : List (S37)) (x7_1 : Int) (x8_1 : Int), v7 = .int .i64 x7_1 ∧ v8 = .int .i64 x8_1 ∧ Aside0 (api_Req_98__elevator_Order_1.l0 kq x0_1 a1 20 x7_1 x8_1 = some r) ∧ Aside0 (kq ≤ k) ∧ Aside0 (Kd.R k37 37 w' w0.heap.size (fun k_ => (P0_ k_ ∨ w.heap.size ≤ k_)) u9000_ x0_1) ∧ Aside0 (Kept w w' (fun k_ => P0_ k_)) ∧ Aside0 (Below w0.heap.size w0 w'))
 case atStart => exact ⟨(l0), (0), (20), (by first | rfl | (simp; done) | (simp [*]; done)), (by first | rfl | (simp; done) | (simp [*]; done)), H', ⟨Nat.le_refl _⟩, ⟨by (with_reducible repeat (first | apply Kd.R_alloc | apply Kd.R_drewN | apply Kd.R_drew)); exact HO0.out⟩, ⟨by repeat (first | (with_reducible first | exact HK.out | apply Kept.alloc | apply Kept.drewN | apply Kept.drew) | exact HK.out)⟩, ⟨by repeat (first | (with_reducible first | exact HB.out | apply below_alloc | apply pw_below_drewN | apply below_drew1) | exact HB.out)⟩⟩
 case round =>
  clear H'
  try clear p2
  obtain ⟨x0_1, x7_1, x8_1, rfl, rfl, HA, HK1, HO_0, HK, HB⟩ := hrel
  cases gk with
  | zero => exact absurd HA.out (by simp [api_Req_98__elevator_Order_1.l0])
  | succ k1 =>
   have H := HA.out
   clear HA
   simp only [api_Req_98__elevator_Order_1.l0] at H
   by_cases c4 : x8_1 ≤ a1
   ·rw [if_pos c4] at H
    have c4b0 : decide (x8_1 ≤ a1) = true := decide_eq_true c4
    clear c4
    replace H := Option.bind_eq_some_iff.mp H
    obtain ⟨t4177, A50, H⟩ := H
    replace H : (api_Req_98__elevator_Order_1.l0 k1 t4177 a1 20 x8_1 (wrap64 (x8_1 + 20))) = some r := H
    have A5 := Aside0.mk A50
    clear A50
    have H' := Aside0.mk H
    clear H
    obtain ⟨Ao6, co6, eo6⟩ := Kd.R_slice HO_0.out
    subst eo6
    go_wp2_with (first | ((with_reducible refine HOpen.gate_append ?_); simp only [List.cons_append, List.nil_append]) | ((with_reducible refine gate_callee (f := 126) rfl ?_); refine goesL_ (some 18) rfl rfl Try.func126 (by kernel_rfl) rfl #[.slice Ao6 x0_1.length co6, .int .i64 x7_1, .int .i64 x8_1, .func (.func 63) #[] #[]] rfl (by (try simp only [List.map_toArray, List.map_cons, List.map_nil]); first | done | rfl | (simp only [List.length_drop, List.length_take]; rfl)) ?_; (with_reducible refine (api_Req_126__elevator_Order_1.calls k1 (fun k_ => some k_ = (.slice Ao6 x0_1.length co6 : Value).ownBlock) (.slice Ao6 x0_1.length co6) x0_1 x7_1 x8_1  t4177 w0 _ ?side1 ?side2 A5.out).mono ?_); (case side1 => repeat (first | (with_reducible first | exact HB.out | apply below_alloc | apply pw_below_drewN | apply below_drew1) | exact HB.out)); (case side2 => exact Kd.R_tight rfl HO_0.out); rintro e w7 ⟨rfl, hy0, hb, hkp⟩; refine ⟨_, rfl, ?_⟩; have n0_ := Aside0.mk (Kd.R_reok rfl hy0 (fun k_ e_ => HO_0.out.1 k_ e_)); have n1_ := Aside0.mk (Kept.then_ (S := (fun k_ => P0_ k_)) (by repeat (first | (with_reducible first | exact HK.out | apply Kept.alloc | apply Kept.drewN | apply Kept.drew) | exact HK.out)) hkp (fun k_ hs_ => (fun e_ => (HO_0.out.1 k_ e_.symm)) hs_)); have n2_ := Aside0.mk (hb); clear HO_0; clear HK; clear HB; have HO_0 := n0_; have HK := n1_; have HB := n2_; clear n0_ n1_ n2_; (try clear hb); (try clear hkp); (try clear hy0)))
    go_roundg k1
    case measure => have := HK1.out; omega
    case rel => exact ⟨(t4177), (x8_1), (wrap64 (x8_1 + 20)), (by first | rfl | (simp; done) | (simp [*]; done)), (by first | rfl | (simp; done) | (simp [*]; done)), H', ⟨by have := HK1.out; omega⟩, ⟨by (with_reducible repeat (first | apply Kd.R_alloc | apply Kd.R_drewN | apply Kd.R_drew)); exact HO_0.out⟩, ⟨by repeat (first | (with_reducible first | exact HK.out | apply Kept.alloc | apply Kept.drewN | apply Kept.drew) | exact HK.out)⟩, ⟨by repeat (first | (with_reducible first | exact HB.out | apply below_alloc | apply pw_below_drewN | apply below_drew1) | exact HB.out)⟩⟩
   ·rw [if_neg c4] at H
    have c4b0 : decide (x8_1 ≤ a1) = false := decide_eq_false c4
    clear c4
    replace H := Option.bind_eq_some_iff.mp H
    obtain ⟨t4178, A80, H⟩ := H
    replace H : (api_Req_98__elevator_Order_1.l1 k1 t4178 a1 20) = some r := H
    have A8 := Aside0.mk A80
    clear A80
    have H' := Aside0.mk H
    clear H
    obtain ⟨Ao9, co9, eo9⟩ := Kd.R_slice HO_0.out
    subst eo9
    go_wp2_with (first | ((with_reducible refine HOpen.gate_append ?_); simp only [List.cons_append, List.nil_append]) | ((with_reducible refine gate_callee (f := 126) rfl ?_); refine goesL_ (some 27) rfl rfl Try.func126 (by kernel_rfl) rfl #[.slice Ao9 x0_1.length co9, .int .i64 x7_1, .int .i64 a1, .func (.func 63) #[] #[]] rfl (by (try simp only [List.map_toArray, List.map_cons, List.map_nil]); first | done | rfl | (simp only [List.length_drop, List.length_take]; rfl)) ?_; (with_reducible refine (api_Req_126__elevator_Order_1.calls k1 (fun k_ => some k_ = (.slice Ao9 x0_1.length co9 : Value).ownBlock) (.slice Ao9 x0_1.length co9) x0_1 x7_1 a1  t4178 w0 _ ?side1 ?side2 A8.out).mono ?_); (case side1 => repeat (first | (with_reducible first | exact HB.out | apply below_alloc | apply pw_below_drewN | apply below_drew1) | exact HB.out)); (case side2 => exact Kd.R_tight rfl HO_0.out); rintro e w10 ⟨rfl, hy0, hb, hkp⟩; refine ⟨_, rfl, ?_⟩; have n0_ := Aside0.mk (Kd.R_reok rfl hy0 (fun k_ e_ => HO_0.out.1 k_ e_)); have n1_ := Aside0.mk (Kept.then_ (S := (fun k_ => P0_ k_)) (by repeat (first | (with_reducible first | exact HK.out | apply Kept.alloc | apply Kept.drewN | apply Kept.drew) | exact HK.out)) hkp (fun k_ hs_ => (fun e_ => (HO_0.out.1 k_ e_.symm)) hs_)); have n2_ := Aside0.mk (hb); clear HO_0; clear HK; clear HB; have HO_0 := n0_; have HK := n1_; have HB := n2_; clear n0_ n1_ n2_; (try clear hb); (try clear hkp); (try clear hy0)))
    (try simp only [Act.put, List.setIfInBounds_toArray, List.set_cons_zero, List.set_cons_succ])
    go_loopg [6] k1 (fun kq v6 w' => ∃ (x0_2 : List (S37)) (x6_2 : Int), v6 = .int .i64 x6_2 ∧ Aside0 (api_Req_98__elevator_Order_1.l1 kq x0_2 a1 x6_2 = some r) ∧ Aside0 (kq ≤ k1) ∧ Aside0 (Kd.R k37 37 w' w0.heap.size (fun k_ => (P0_ k_ ∨ w.heap.size ≤ k_)) (.slice Ao9 x0_1.length co9) x0_2) ∧ Aside0 (Kept w w' (fun k_ => P0_ k_)) ∧ Aside0 (Below w0.heap.size w0 w'))
    case atStart => exact ⟨(t4178), (20), (by first | rfl | (simp; done) | (simp [*]; done)), H', ⟨Nat.le_refl _⟩, ⟨by (with_reducible repeat (first | apply Kd.R_alloc | apply Kd.R_drewN | apply Kd.R_drew)); exact HO_0.out⟩, ⟨by repeat (first | (with_reducible first | exact HK.out | apply Kept.alloc | apply Kept.drewN | apply Kept.drew) | exact HK.out)⟩, ⟨by repeat (first | (with_reducible first | exact HB.out | apply below_alloc | apply pw_below_drewN | apply below_drew1) | exact HB.out)⟩⟩
    case round =>
     clear H'
     try clear p2
     try clear c4
     try clear c4b0
     try clear p6
     try clear c9
     try clear p2
     obtain ⟨x0_2, x6_2, rfl, HA, HK2, HO_0, HK, HB⟩ := hrel
     have hl0_2 := (Kd.R_reads' HO_0.out).1
     rw [hl0_2] at HO_0
     (try simp only [hl0_2])
     cases gk with
     | zero => exact absurd HA.out (by simp [api_Req_98__elevator_Order_1.l1])
     | succ k2 =>
      have H := HA.out
      clear HA
      simp only [api_Req_98__elevator_Order_1.l1] at H
      by_cases c11 : x6_2 < a1
      ·rw [if_pos c11] at H
       have c11b0 : decide (x6_2 < a1) = true := decide_eq_true c11
       clear c11
       have H' := Aside0.mk H
       clear H
       go_wp2
       go_loopg [7, 8] k2 (fun kq v7 v8 w' => ∃ (x0_3 : List (S37)) (x7_3 : Int) (x8_3 : Int), v7 = .int .i64 x7_3 ∧ v8 = .int .i64 x8_3 ∧ Aside0 (api_Req_98__elevator_Order_1.l2 kq x0_3 a1 x6_2 x7_3 x8_3 = some r) ∧ Aside0 (kq ≤ k2) ∧ Aside0 (Kd.R k37 37 w' w0.heap.size (fun k_ => (P0_ k_ ∨ w.heap.size ≤ k_)) (.slice Ao9 x0_2.length co9) x0_3) ∧ Aside0 (Kept w w' (fun k_ => P0_ k_)) ∧ Aside0 (Below w0.heap.size w0 w'))
       case atStart => exact ⟨(x0_2), (0), (wrap64 (2 * x6_2)), (by first | rfl | (simp; done) | (simp [*]; done)), (by first | rfl | (simp; done) | (simp [*]; done)), H', ⟨Nat.le_refl _⟩, ⟨by (try simp only [hl0_2]); (with_reducible repeat (first | apply Kd.R_alloc | apply Kd.R_drewN | apply Kd.R_drew)); exact HO_0.out⟩, ⟨by repeat (first | (with_reducible first | exact HK.out | apply Kept.alloc | apply Kept.drewN | apply Kept.drew) | exact HK.out)⟩, ⟨by repeat (first | (with_reducible first | exact HB.out | apply below_alloc | apply pw_below_drewN | apply below_drew1) | exact HB.out)⟩⟩
       case round =>
        clear H'
        try clear c1
        try clear p2
        try clear c4
        try clear c4b0
        try clear p6
        try clear c9
        try clear c11
        try clear c11b0
        try clear p2
        try clear p6
        obtain ⟨x0_3, x7_3, x8_3, rfl, rfl, HA, HK3, HO_0, HK, HB⟩ := hrel
        have hl0_3 := (Kd.R_reads' HO_0.out).1
        rw [hl0_3] at HO_0
        (try simp only [hl0_3])
        cases gk with
        | zero => exact absurd HA.out (by simp [api_Req_98__elevator_Order_1.l2])
        | succ k3 =>
         have H := HA.out
         clear HA
         simp only [api_Req_98__elevator_Order_1.l2] at H
         by_cases c12 : x8_3 ≤ a1
         ·rw [if_pos c12] at H
          have c12b0 : decide (x8_3 ≤ a1) = true := decide_eq_true c12
          clear c12
          replace H := Option.bind_eq_some_iff.mp H
          obtain ⟨t4179, A130, H⟩ := H
          replace H : (api_Req_98__elevator_Order_1.l2 k3 t4179 a1 x6_2 x8_3 (wrap64 (x8_3 + (wrap64 (2 * x6_2))))) = some r := H
          have A13 := Aside0.mk A130
          clear A130
          have H' := Aside0.mk H
          clear H
          go_wp2_with (first | ((with_reducible refine HOpen.gate_append ?_); simp only [List.cons_append, List.nil_append]) | ((with_reducible refine gate_callee (f := 127) rfl ?_); refine goesL_ (some 43) rfl rfl Try.func127 (by kernel_rfl) rfl #[.slice Ao9 x0_3.length co9, .int .i64 x7_3, .int .i64 (wrap64 (x7_3 + x6_2)), .int .i64 x8_3, .func (.func 63) #[] #[]] rfl (by (try simp only [List.map_toArray, List.map_cons, List.map_nil]); first | done | rfl | (simp only [List.length_drop, List.length_take]; rfl)) ?_; (with_reducible refine (api_Req_127__elevator_Order_1.calls k3 (fun k_ => some k_ = (.slice Ao9 x0_3.length co9 : Value).ownBlock) (.slice Ao9 x0_3.length co9) x0_3 x7_3 (wrap64 (x7_3 + x6_2)) x8_3  t4179 w0 _ ?side1 ?side2 A13.out).mono ?_); (case side1 => repeat (first | (with_reducible first | exact HB.out | apply below_alloc | apply pw_below_drewN | apply below_drew1) | exact HB.out)); (case side2 => exact Kd.R_tight rfl HO_0.out); rintro e w14 ⟨rfl, hy0, hb, hkp⟩; refine ⟨_, rfl, ?_⟩; have n0_ := Aside0.mk (Kd.R_reok rfl hy0 (fun k_ e_ => HO_0.out.1 k_ e_)); have n1_ := Aside0.mk (Kept.then_ (S := (fun k_ => P0_ k_)) (by repeat (first | (with_reducible first | exact HK.out | apply Kept.alloc | apply Kept.drewN | apply Kept.drew) | exact HK.out)) hkp (fun k_ hs_ => (fun e_ => (HO_0.out.1 k_ e_.symm)) hs_)); have n2_ := Aside0.mk (hb); clear HO_0; clear HK; clear HB; have HO_0 := n0_; have HK := n1_; have HB := n2_; clear n0_ n1_ n2_; (try clear hb); (try clear hkp); (try clear hy0)))
          (try simp only [← hl0_3])
          go_roundg k3
          case measure => have := HK1.out; have := HK2.out; have := HK3.out; omega
          case rel => exact ⟨(t4179), (x8_3), (wrap64 (x8_3 + (wrap64 (2 * x6_2)))), (by first | rfl | (simp; done) | (simp [*]; done)), (by first | rfl | (simp; done) | (simp [*]; done)), H', ⟨by have := HK1.out; have := HK2.out; have := HK3.out; omega⟩, ⟨by (try simp only [hl0_2]); (try simp only [hl0_3]); (with_reducible repeat (first | apply Kd.R_alloc | apply Kd.R_drewN | apply Kd.R_drew)); exact HO_0.out⟩, ⟨by repeat (first | (with_reducible first | exact HK.out | apply Kept.alloc | apply Kept.drewN | apply Kept.drew) | exact HK.out)⟩, ⟨by repeat (first | (with_reducible first | exact HB.out | apply below_alloc | apply pw_below_drewN | apply below_drew1) | exact HB.out)⟩⟩
         ·rw [if_neg c12] at H
          have c12b0 : decide (x8_3 ≤ a1) = false := decide_eq_false c12
          clear c12
          by_cases c15 : (wrap64 (x7_3 + x6_2)) < a1
          ·rw [if_pos c15] at H
           have c15b0 : decide ((wrap64 (x7_3 + x6_2)) < a1) = true := decide_eq_true c15
           clear c15
           replace H := Option.bind_eq_some_iff.mp H
           obtain ⟨t4180, A160, H⟩ := H
           replace H : (api_Req_98__elevator_Order_1.l1 k3 t4180 a1 (wrap64 (x6_2 * 2))) = some r := H
           have A16 := Aside0.mk A160
           clear A160
           have H' := Aside0.mk H
           clear H
           go_wp2_with (first | ((with_reducible refine HOpen.gate_append ?_); simp only [List.cons_append, List.nil_append]) | ((with_reducible refine gate_callee (f := 127) rfl ?_); refine goesL_ (some 60) rfl rfl Try.func127 (by kernel_rfl) rfl #[.slice Ao9 x0_3.length co9, .int .i64 x7_3, .int .i64 (wrap64 (x7_3 + x6_2)), .int .i64 a1, .func (.func 63) #[] #[]] rfl (by (try simp only [List.map_toArray, List.map_cons, List.map_nil]); first | done | rfl | (simp only [List.length_drop, List.length_take]; rfl)) ?_; (with_reducible refine (api_Req_127__elevator_Order_1.calls k3 (fun k_ => some k_ = (.slice Ao9 x0_3.length co9 : Value).ownBlock) (.slice Ao9 x0_3.length co9) x0_3 x7_3 (wrap64 (x7_3 + x6_2)) a1  t4180 w0 _ ?side1 ?side2 A16.out).mono ?_); (case side1 => repeat (first | (with_reducible first | exact HB.out | apply below_alloc | apply pw_below_drewN | apply below_drew1) | exact HB.out)); (case side2 => exact Kd.R_tight rfl HO_0.out); rintro e w17 ⟨rfl, hy0, hb, hkp⟩; refine ⟨_, rfl, ?_⟩; have n0_ := Aside0.mk (Kd.R_reok rfl hy0 (fun k_ e_ => HO_0.out.1 k_ e_)); have n1_ := Aside0.mk (Kept.then_ (S := (fun k_ => P0_ k_)) (by repeat (first | (with_reducible first | exact HK.out | apply Kept.alloc | apply Kept.drewN | apply Kept.drew) | exact HK.out)) hkp (fun k_ hs_ => (fun e_ => (HO_0.out.1 k_ e_.symm)) hs_)); have n2_ := Aside0.mk (hb); clear HO_0; clear HK; clear HB; have HO_0 := n0_; have HK := n1_; have HB := n2_; clear n0_ n1_ n2_; (try clear hb); (try clear hkp); (try clear hy0)))
           (try simp only [← hl0_2, ← hl0_3])
           go_roundg k3
           case measure => have := HK1.out; have := HK2.out; have := HK3.out; omega
           case rel => exact ⟨(t4180), (wrap64 (x6_2 * 2)), (by first | rfl | (simp; done) | (simp [*]; done)), H', ⟨by have := HK1.out; have := HK2.out; have := HK3.out; omega⟩, ⟨by (try simp only [hl0_2]); (try simp only [hl0_3]); (with_reducible repeat (first | apply Kd.R_alloc | apply Kd.R_drewN | apply Kd.R_drew)); exact HO_0.out⟩, ⟨by repeat (first | (with_reducible first | exact HK.out | apply Kept.alloc | apply Kept.drewN | apply Kept.drew) | exact HK.out)⟩, ⟨by repeat (first | (with_reducible first | exact HB.out | apply below_alloc | apply pw_below_drewN | apply below_drew1) | exact HB.out)⟩⟩
          ·rw [if_neg c15] at H
           have c15b0 : decide ((wrap64 (x7_3 + x6_2)) < a1) = false := decide_eq_false c15
           clear c15
           have H' := Aside0.mk H
           clear H
           go_wp2
           (try simp only [← hl0_2, ← hl0_3])
           go_roundg k3
           case measure => have := HK1.out; have := HK2.out; have := HK3.out; omega
           case rel => exact ⟨(x0_3), (wrap64 (x6_2 * 2)), (by first | rfl | (simp; done) | (simp [*]; done)), H', ⟨by have := HK1.out; have := HK2.out; have := HK3.out; omega⟩, ⟨by (try simp only [hl0_2]); (try simp only [hl0_3]); (with_reducible repeat (first | apply Kd.R_alloc | apply Kd.R_drewN | apply Kd.R_drew)); exact HO_0.out⟩, ⟨by repeat (first | (with_reducible first | exact HK.out | apply Kept.alloc | apply Kept.drewN | apply Kept.drew) | exact HK.out)⟩, ⟨by repeat (first | (with_reducible first | exact HB.out | apply below_alloc | apply pw_below_drewN | apply below_drew1) | exact HB.out)⟩⟩
      ·rw [if_neg c11] at H
       have c11b0 : decide (x6_2 < a1) = false := decide_eq_false c11
       clear c11
       obtain rfl := Option.some.inj H
       go_wp2
       first | go_end0 | ((try simp only [Exit.inBlock, Exit.then]); refine bodyPost_ret (results_none rfl _ _ _) rfl ?_)
       exact ⟨by first | rfl | (simp [errW_none, errW_some] <;> rfl) | (simp [*, errW_none, errW_some] <;> rfl), (by first | exact (by (with_reducible repeat (first | apply Kd.R_alloc | apply Kd.R_drewN | apply Kd.R_drew)); exact HO_0.out) | (simp only [hl0_2]; exact (by (with_reducible repeat (first | apply Kd.R_alloc | apply Kd.R_drewN | apply Kd.R_drew)); exact HO_0.out))), by repeat (first | (with_reducible first | exact HB.out | apply below_alloc | apply pw_below_drewN | apply below_drew1) | exact HB.out), by repeat (first | (with_reducible first | exact HK.out | apply Kept.alloc | apply Kept.drewN | apply Kept.drew) | exact HK.out)⟩

def api_Req_62__elevator_Order_1.f (k : Nat) (l0 : List (S37))  : Option ((List (S37))) := (api_Req_98__elevator_Order_1.f k l0 (l0.length : Int)).bind fun t5181 => (some t5181)
theorem api_Req_62__elevator_Order_1.mono : ∀ a0 k, LeO (api_Req_62__elevator_Order_1.f k a0) (api_Req_62__elevator_Order_1.f (k + 1) a0) := by
 intro a0 k
 unfold api_Req_62__elevator_Order_1.f
 repeat' first
   | (with_reducible exact api_Req_98__elevator_Order_1.mono _ _ _)
   | (with_reducible exact LeO.refl _)
   | (with_reducible exact LeO.none _)
   | (with_reducible refine LeO.ite ?_ ?_)
   | (with_reducible refine LeO.bind ?_ (fun _ => ?_))
   | exact api_Req_98__elevator_Order_1.mono _ _ _
   | exact LeO.none _
   | refine LeO.ite ?_ ?_
   | refine LeO.bind ?_ (fun _ => ?_)
set_option maxHeartbeats 8000000 in
set_option maxRecDepth 100000 in
theorem api_Req_62__elevator_Order_1.calls (k : Nat) (P0_ : Nat → Prop) (u9000_ : Value) (l0 : List (S37))  (r : List (S37)) (w0 w : World) (hB : Below w0.heap.size w0 w) (ho0 : Kd.R k37 37 w w0.heap.size P0_ u9000_ l0) (h : api_Req_62__elevator_Order_1.f k l0 = some r) :
  Calls Try.prog 62 #[u9000_, .func (.func 63) #[] #[]] w fun e w' => e = .returned (.tuple #[]) ∧ Kd.R k37 37 w' w0.heap.size (fun k_ => (P0_ k_ ∨ w.heap.size ≤ k_)) u9000_ r ∧ Below w0.heap.size w0 w' ∧ Kept w w' (fun k_ => P0_ k_) := by
 have HO0 := Aside0.mk (show Kd.R k37 37 w w0.heap.size (fun k_ => (P0_ k_ ∨ w.heap.size ≤ k_)) u9000_ l0 from Kd.R_mono ho0 (fun k_ hk => (.inl hk)))
 have HK := Aside0.mk (Kept.refl w (fun k_ => P0_ k_))
 have HW0 := Aside0.mk hB.size
 have HB := Aside0.mk hB
 clear hB
 have H : ((api_Req_98__elevator_Order_1.f k l0 (l0.length : Int)).bind fun t5181 => (some t5181)) = some r := h
 clear h
 replace H := Option.bind_eq_some_iff.mp H
 obtain ⟨t5181, A30, H⟩ := H
 replace H : (some t5181) = some r := H
 have A3 := Aside0.mk A30
 clear A30
 obtain rfl := Option.some.inj H
 obtain ⟨Ao4, co4, eo4⟩ := Kd.R_slice HO0.out
 subst eo4
 go_enter Try.func62, Try.ntmps62
 go_wp2_with (first | ((with_reducible refine HOpen.gate_append ?_); simp only [List.cons_append, List.nil_append]) | ((with_reducible refine gate_callee (f := 98) rfl ?_); refine goesL_ (some 8) rfl rfl Try.func98 (by kernel_rfl) rfl #[.slice Ao4 l0.length co4, .int .i64 (l0.length : Int), .func (.func 63) #[] #[]] rfl (by (try simp only [List.map_toArray, List.map_cons, List.map_nil]); first | done | rfl | (simp only [List.length_drop, List.length_take]; rfl)) ?_; (with_reducible refine (api_Req_98__elevator_Order_1.calls k (fun k_ => some k_ = (.slice Ao4 l0.length co4 : Value).ownBlock) (.slice Ao4 l0.length co4) l0 (l0.length : Int)  t5181 w0 _ ?side1 ?side2 A3.out).mono ?_); (case side1 => repeat (first | (with_reducible first | exact HB.out | apply below_alloc | apply pw_below_drewN | apply below_drew1) | exact HB.out)); (case side2 => exact Kd.R_tight rfl HO0.out); rintro e w5 ⟨rfl, hy0, hb, hkp⟩; refine ⟨_, rfl, ?_⟩; have n0_ := Aside0.mk (Kd.R_reok rfl hy0 (fun k_ e_ => HO0.out.1 k_ e_)); have n1_ := Aside0.mk (Kept.then_ (S := (fun k_ => P0_ k_)) (by repeat (first | (with_reducible first | exact HK.out | apply Kept.alloc | apply Kept.drewN | apply Kept.drew) | exact HK.out)) hkp (fun k_ hs_ => (fun e_ => (HO0.out.1 k_ e_.symm)) hs_)); have n2_ := Aside0.mk (hb); clear HO0; clear HK; clear HB; have HO0 := n0_; have HK := n1_; have HB := n2_; clear n0_ n1_ n2_; (try clear hb); (try clear hkp); (try clear hy0)))
 first | go_end0 | ((try simp only [Exit.inBlock, Exit.then]); refine bodyPost_ret (results_none rfl _ _ _) rfl ?_)
 exact ⟨by first | rfl | (simp [errW_none, errW_some] <;> rfl) | (simp [*, errW_none, errW_some] <;> rfl), by (with_reducible repeat (first | apply Kd.R_alloc | apply Kd.R_drewN | apply Kd.R_drew)); exact HO0.out, by repeat (first | (with_reducible first | exact HB.out | apply below_alloc | apply pw_below_drewN | apply below_drew1) | exact HB.out), by repeat (first | (with_reducible first | exact HK.out | apply Kept.alloc | apply Kept.drewN | apply Kept.drew) | exact HK.out)⟩

def api_Req_int__elevator_Order_2.l0 : Nat → List (S37) → Int → Int → Int → Int → Option (Int × Bool)
 | 0, _, _, _, _, _ => none
 | k + 1, x0, x1, x8, x9, x10 => if x9 < x10 then (if 0 ≤ (wrap64 ((IntKind.u64.wrap (wrap64 (x9 + x10))) / 2)) then (if (wrap64 ((IntKind.u64.wrap (wrap64 (x9 + x10))) / 2)) < (x0.length : Int) then ((elevator_Order_2.f ((rd_T37 x0 (wrap64 ((IntKind.u64.wrap (wrap64 (x9 + x10))) / 2))).f0) ((rd_T37 x0 (wrap64 ((IntKind.u64.wrap (wrap64 (x9 + x10))) / 2))).f1) ((rd_T37 x0 (wrap64 ((IntKind.u64.wrap (wrap64 (x9 + x10))) / 2))).f2) x1).bind fun t6188 => (if t6188 < 0 then (api_Req_int__elevator_Order_2.l0 k x0 x1 x8 (wrap64 ((wrap64 ((IntKind.u64.wrap (wrap64 (x9 + x10))) / 2)) + 1)) x10) else (api_Req_int__elevator_Order_2.l0 k x0 x1 x8 x9 (wrap64 ((IntKind.u64.wrap (wrap64 (x9 + x10))) / 2))))) else (none)) else (none)) else (if x9 < x8 then (if 0 ≤ x9 then (if x9 < (x0.length : Int) then ((elevator_Order_2.f ((rd_T37 x0 x9).f0) ((rd_T37 x0 x9).f1) ((rd_T37 x0 x9).f2) x1).bind fun t6190 => (some (x9, (t6190 == 0)))) else (none)) else (none)) else (some (x9, false)))
def api_Req_int__elevator_Order_2.f (k : Nat) (l0 : List (S37)) (a1 : Int)  : Option (Int × Bool) := api_Req_int__elevator_Order_2.l0 k l0 a1 (l0.length : Int) 0 (l0.length : Int)
theorem api_Req_int__elevator_Order_2.mono_l : ∀ k, (∀ y0 y1 y2 y3 y4, LeO (api_Req_int__elevator_Order_2.l0 k y0 y1 y2 y3 y4) (api_Req_int__elevator_Order_2.l0 (k + 1) y0 y1 y2 y3 y4))
 | 0 => fun _ _ _ _ _ r h => by simp [api_Req_int__elevator_Order_2.l0] at h
 | k + 1 => by
  have ih0 := api_Req_int__elevator_Order_2.mono_l k
  ·intro y0 y1 y2 y3 y4
   unfold api_Req_int__elevator_Order_2.l0
   repeat' first
   | (with_reducible exact ih0 _ _ _ _ _)
   | (with_reducible exact LeO.refl _)
   | (with_reducible exact LeO.none _)
   | (with_reducible refine LeO.ite ?_ ?_)
   | (with_reducible refine LeO.bind ?_ (fun _ => ?_))
   | exact ih0 _ _ _ _ _
   | exact LeO.none _
   | refine LeO.ite ?_ ?_
   | refine LeO.bind ?_ (fun _ => ?_)
theorem api_Req_int__elevator_Order_2.mono : ∀ a0 a1 k, LeO (api_Req_int__elevator_Order_2.f k a0 a1) (api_Req_int__elevator_Order_2.f (k + 1) a0 a1) := by
 intro a0 a1 k
 have ih0 := api_Req_int__elevator_Order_2.mono_l k
 unfold api_Req_int__elevator_Order_2.f
 repeat' first
   | (with_reducible exact ih0 _ _ _ _ _)
   | (with_reducible exact LeO.refl _)
   | (with_reducible exact LeO.none _)
   | (with_reducible refine LeO.ite ?_ ?_)
   | (with_reducible refine LeO.bind ?_ (fun _ => ?_))
   | exact ih0 _ _ _ _ _
   | exact LeO.none _
   | refine LeO.ite ?_ ?_
   | refine LeO.bind ?_ (fun _ => ?_)
set_option maxHeartbeats 8000000 in
set_option maxRecDepth 100000 in
theorem api_Req_int__elevator_Order_2.calls (k : Nat) (A0 : Option Addr) (c0 : Nat) (l0 : List (S37)) (a1 : Int)  (r1 : Int) (r2 : Bool) (w : World) (hr0 : Kd.C k37 w A0 l0.length l0) (hc0 : l0.length ≤ c0) (h : api_Req_int__elevator_Order_2.f k l0 a1 = some (r1, r2)) :
  Calls Try.prog 65 #[.slice A0 l0.length c0, .int .i64 a1, .func (.func 66) #[] #[]] w fun e w' => e = .returned (.tuple #[.int .i64 r1, .bool r2]) ∧ Below w.heap.size w w' := by
 have hu37 := Try.underlying37
 have HR0 := Aside0.mk hr0
 have HC0 := Aside0.mk hc0
 clear hr0 hc0
 have HB := Aside0.mk (Below.refl w.heap.size w)
 have H : (api_Req_int__elevator_Order_2.l0 k l0 a1 (l0.length : Int) 0 (l0.length : Int)) = some (r1, r2) := h
 clear h
 have H' := Aside0.mk H
 clear H
 go_enter Try.func65, Try.ntmps65
 go_wp2
 go_loopg [9, 10] k (fun kq v9 v10 w' => ∃ (x9_1 : Int) (x10_1 : Int), v9 = .int .i64 x9_1 ∧ v10 = .int .i64 x10_1 ∧ Aside0 (api_Req_int__elevator_Order_2.l0 kq l0 a1 (l0.length : Int) x9_1 x10_1 = some (r1, r2)) ∧ Aside0 (kq ≤ k) ∧ Aside0 (Below w.heap.size w w'))
 case atStart => exact ⟨(0), ((l0.length : Int)), (by first | rfl | (simp; done) | (simp [*]; done)), (by first | rfl | (simp; done) | (simp [*]; done)), H', ⟨Nat.le_refl _⟩, ⟨by repeat (first | (with_reducible first | exact HB.out | apply below_alloc | apply pw_below_drewN | apply below_drew1) | exact HB.out)⟩⟩
 case round =>
  clear H'
  try clear p2
  obtain ⟨x9_1, x10_1, rfl, rfl, HA, HK1, HB⟩ := hrel
  cases gk with
  | zero => exact absurd HA.out (by simp [api_Req_int__elevator_Order_2.l0])
  | succ k1 =>
   have H := HA.out
   clear HA
   simp only [api_Req_int__elevator_Order_2.l0] at H
   by_cases c4 : x9_1 < x10_1
   ·rw [if_pos c4] at H
    have c4b0 : decide (x9_1 < x10_1) = true := decide_eq_true c4
    clear c4
    obtain ⟨ji5, hji5⟩ : ∃ j_ : Int, (wrap64 ((IntKind.u64.wrap (wrap64 (x9_1 + x10_1))) / 2)) = j_ := ⟨_, rfl⟩
    replace H : (if 0 ≤ (ji5) then (if (ji5) < (l0.length : Int) then ((elevator_Order_2.f ((rd_T37 l0 (ji5)).f0) ((rd_T37 l0 (ji5)).f1) ((rd_T37 l0 (ji5)).f2) a1).bind fun t6188 => (if t6188 < 0 then (api_Req_int__elevator_Order_2.l0 k1 l0 a1 (l0.length : Int) (wrap64 ((ji5) + 1)) x10_1) else (api_Req_int__elevator_Order_2.l0 k1 l0 a1 (l0.length : Int) x9_1 ji5))) else (none)) else (none)) = some (r1, r2) := by first | (rw [hji5] at H; exact H) | (simp only [hji5] at H ⊢; exact H)
    have hji5w : (IntKind.i64.wrap ((IntKind.u64.wrap (wrap64 (x9_1 + x10_1))) / 2)) = ji5 := (i64_w _).trans hji5
    by_cases c6 : 0 ≤ (ji5)
    ·rw [if_pos c6] at H
     have c6b0 : decide (0 ≤ (ji5)) = true := decide_eq_true c6
     clear c6
     by_cases c7 : (ji5) < (l0.length : Int)
     ·rw [if_pos c7] at H
      have c7b0 : decide ((ji5) < (l0.length : Int)) = true := decide_eq_true c7
      clear c7
      replace H := Option.bind_eq_some_iff.mp H
      obtain ⟨t6188, A80, H⟩ := H
      replace H : (if t6188 < 0 then (api_Req_int__elevator_Order_2.l0 k1 l0 a1 (l0.length : Int) (wrap64 ((ji5) + 1)) x10_1) else (api_Req_int__elevator_Order_2.l0 k1 l0 a1 (l0.length : Int) x9_1 ji5)) = some (r1, r2) := H
      have A8 := Aside0.mk A80
      clear A80
      by_cases c9 : t6188 < 0
      ·rw [if_pos c9] at H
       have c9b0 : decide (t6188 < 0) = true := decide_eq_true c9
       clear c9
       have H' := Aside0.mk H
       clear H
       have p6187 : 0 ≤ ((ji5) : Int) := of_decide_eq_true (by first | (with_reducible assumption) | assumption)
       have q6187 : (ji5) < (l0.length : Int) := of_decide_eq_true (by first | (with_reducible assumption) | assumption)
       obtain ⟨ad6187, e6187, hx6187_0, hx6187_1, hx6187_2⟩ := at_T37 HR0.out (ji5) p6187 q6187
       cases e6187
       replace hx6187_0 := (HB.out.cell (World.block_lt_of_cell? w _ hx6187_0)).trans hx6187_0
       replace hx6187_1 := (HB.out.cell (World.block_lt_of_cell? w _ hx6187_1)).trans hx6187_1
       replace hx6187_2 := (HB.out.cell (World.block_lt_of_cell? w _ hx6187_2)).trans hx6187_2
       replace p6187 := eq_true p6187
       replace q6187 := eq_true q6187
       go_wp2_with (first | ((with_reducible refine HOpen.gate_append ?_); simp only [List.cons_append, List.nil_append]) | ((with_reducible refine HOpen.gate_calleev (t := 24) rfl ?_); refine HOpen.goesLv_ (some 30) rfl rfl Try.func66 (by kernel_rfl) rfl #[.agg #[.int .i64 ((rd_T37 l0 (ji5)).f0), .int .i64 ((rd_T37 l0 (ji5)).f1), .int .i64 ((rd_T37 l0 (ji5)).f2)], .int .i64 a1] rfl rfl (by (try simp only [List.map_toArray, List.map_cons, List.map_nil]); first | done | (simp only [hji5]; rfl) | rfl | (simp only [List.length_drop, List.length_take]; rfl)) ?_; (with_reducible refine (elevator_Order_2.calls ((rd_T37 l0 (ji5)).f0) ((rd_T37 l0 (ji5)).f1) ((rd_T37 l0 (ji5)).f2) a1 t6188 _ A8.out).mono ?_); rintro e w10 ⟨rfl, hb⟩; refine ⟨_, rfl, ?_⟩; have n0_ := Aside0.mk (below_step (by repeat (first | (with_reducible first | exact HB.out | apply below_alloc | apply pw_below_drewN | apply below_drew1) | exact HB.out)) hb); clear HB; have HB := n0_; clear n0_; (try clear hb); (try clear hb2); (try clear hk); (try clear hi)))
       go_roundg k1
       case measure => have := HK1.out; omega
       case rel => exact ⟨(wrap64 ((ji5) + 1)), (x10_1), (by first | rfl | (simp; done) | (simp only [← hji5] <;> (first | rfl | simp)) | (simp [*]; done)), (by first | rfl | (simp; done) | (simp [*]; done)), H', ⟨by have := HK1.out; omega⟩, ⟨by repeat (first | (with_reducible first | exact HB.out | apply below_alloc | apply pw_below_drewN | apply below_drew1) | exact HB.out)⟩⟩
      ·rw [if_neg c9] at H
       have c9b0 : decide (t6188 < 0) = false := decide_eq_false c9
       clear c9
       have H' := Aside0.mk H
       clear H
       have p6187 : 0 ≤ ((ji5) : Int) := of_decide_eq_true (by first | (with_reducible assumption) | assumption)
       have q6187 : (ji5) < (l0.length : Int) := of_decide_eq_true (by first | (with_reducible assumption) | assumption)
       obtain ⟨ad6187, e6187, hx6187_0, hx6187_1, hx6187_2⟩ := at_T37 HR0.out (ji5) p6187 q6187
       cases e6187
       replace hx6187_0 := (HB.out.cell (World.block_lt_of_cell? w _ hx6187_0)).trans hx6187_0
       replace hx6187_1 := (HB.out.cell (World.block_lt_of_cell? w _ hx6187_1)).trans hx6187_1
       replace hx6187_2 := (HB.out.cell (World.block_lt_of_cell? w _ hx6187_2)).trans hx6187_2
       replace p6187 := eq_true p6187
       replace q6187 := eq_true q6187
       go_wp2_with (first | ((with_reducible refine HOpen.gate_append ?_); simp only [List.cons_append, List.nil_append]) | ((with_reducible refine HOpen.gate_calleev (t := 24) rfl ?_); refine HOpen.goesLv_ (some 30) rfl rfl Try.func66 (by kernel_rfl) rfl #[.agg #[.int .i64 ((rd_T37 l0 (ji5)).f0), .int .i64 ((rd_T37 l0 (ji5)).f1), .int .i64 ((rd_T37 l0 (ji5)).f2)], .int .i64 a1] rfl rfl (by (try simp only [List.map_toArray, List.map_cons, List.map_nil]); first | done | (simp only [hji5]; rfl) | rfl | (simp only [List.length_drop, List.length_take]; rfl)) ?_; (with_reducible refine (elevator_Order_2.calls ((rd_T37 l0 (ji5)).f0) ((rd_T37 l0 (ji5)).f1) ((rd_T37 l0 (ji5)).f2) a1 t6188 _ A8.out).mono ?_); rintro e w11 ⟨rfl, hb⟩; refine ⟨_, rfl, ?_⟩; have n0_ := Aside0.mk (below_step (by repeat (first | (with_reducible first | exact HB.out | apply below_alloc | apply pw_below_drewN | apply below_drew1) | exact HB.out)) hb); clear HB; have HB := n0_; clear n0_; (try clear hb); (try clear hb2); (try clear hk); (try clear hi)))
       go_roundg k1
       case measure => have := HK1.out; omega
       case rel => exact ⟨(x9_1), (ji5), (by first | rfl | (simp; done) | (simp [*]; done)), (by first | rfl | (simp; done) | (simp only [← hji5] <;> (first | rfl | simp)) | (simp [*]; done)), H', ⟨by have := HK1.out; omega⟩, ⟨by repeat (first | (with_reducible first | exact HB.out | apply below_alloc | apply pw_below_drewN | apply below_drew1) | exact HB.out)⟩⟩
     ·rw [if_neg c7] at H
      exact absurd H (by simp)
    ·rw [if_neg c6] at H
     exact absurd H (by simp)
   ·rw [if_neg c4] at H
    have c4b0 : decide (x9_1 < x10_1) = false := decide_eq_false c4
    clear c4
    by_cases c12 : x9_1 < (l0.length : Int)
    ·rw [if_pos c12] at H
     have c12b0 : decide (x9_1 < (l0.length : Int)) = true := decide_eq_true c12
     clear c12
     by_cases c13 : 0 ≤ x9_1
     ·rw [if_pos c13] at H
      have c13b0 : decide (0 ≤ x9_1) = true := decide_eq_true c13
      clear c13
      by_cases c14 : x9_1 < (l0.length : Int)
      ·rw [if_pos c14] at H
       have c14b0 : decide (x9_1 < (l0.length : Int)) = true := decide_eq_true c14
       clear c14
       replace H := Option.bind_eq_some_iff.mp H
       obtain ⟨t6190, A150, H⟩ := H
       replace H : (some (x9_1, (t6190 == 0))) = some (r1, r2) := H
       have A15 := Aside0.mk A150
       clear A150
       simp only [Option.some.injEq, Prod.mk.injEq] at H
       obtain ⟨rfl, rfl⟩ := H
       have p6189 : 0 ≤ (x9_1 : Int) := of_decide_eq_true (by first | (with_reducible assumption) | assumption)
       have q6189 : x9_1 < (l0.length : Int) := of_decide_eq_true (by first | (with_reducible assumption) | assumption)
       obtain ⟨ad6189, e6189, hx6189_0, hx6189_1, hx6189_2⟩ := at_T37 HR0.out x9_1 p6189 q6189
       cases e6189
       replace hx6189_0 := (HB.out.cell (World.block_lt_of_cell? w _ hx6189_0)).trans hx6189_0
       replace hx6189_1 := (HB.out.cell (World.block_lt_of_cell? w _ hx6189_1)).trans hx6189_1
       replace hx6189_2 := (HB.out.cell (World.block_lt_of_cell? w _ hx6189_2)).trans hx6189_2
       replace p6189 := eq_true p6189
       replace q6189 := eq_true q6189
       go_wp2_with (first | ((with_reducible refine HOpen.gate_append ?_); simp only [List.cons_append, List.nil_append]) | ((with_reducible refine HOpen.gate_calleev (t := 40) rfl ?_); (try (refine gate_guard (by rfl) ?_; dsimp only)); refine HOpen.goesLv_ (some 46) rfl rfl Try.func66 (by kernel_rfl) rfl #[.agg #[.int .i64 ((rd_T37 l0 x9_1).f0), .int .i64 ((rd_T37 l0 x9_1).f1), .int .i64 ((rd_T37 l0 x9_1).f2)], .int .i64 a1] rfl rfl (by (try simp only [List.map_toArray, List.map_cons, List.map_nil]); first | done | rfl | (simp only [List.length_drop, List.length_take]; rfl)) ?_; (with_reducible refine (elevator_Order_2.calls ((rd_T37 l0 x9_1).f0) ((rd_T37 l0 x9_1).f1) ((rd_T37 l0 x9_1).f2) a1 t6190 _ A15.out).mono ?_); rintro e w16 ⟨rfl, hb⟩; refine ⟨_, rfl, ?_⟩; have n0_ := Aside0.mk (below_step (by repeat (first | (with_reducible first | exact HB.out | apply below_alloc | apply pw_below_drewN | apply below_drew1) | exact HB.out)) hb); clear HB; have HB := n0_; clear n0_; (try clear hb); (try clear hb2); (try clear hk); (try clear hi)))
       go_ret2
       exact ⟨by first | rfl | (simp [errW_none, errW_some] <;> rfl) | (simp [*, errW_none, errW_some] <;> rfl), by repeat (first | (with_reducible first | exact HB.out | apply below_alloc | apply pw_below_drewN | apply below_drew1) | exact HB.out)⟩
      ·rw [if_neg c14] at H
       exact absurd H (by simp)
     ·rw [if_neg c13] at H
      exact absurd H (by simp)
    ·rw [if_neg c12] at H
     have c12b0 : decide (x9_1 < (l0.length : Int)) = false := decide_eq_false c12
     clear c12
     simp only [Option.some.injEq, Prod.mk.injEq] at H
     obtain ⟨rfl, rfl⟩ := H
     go_wp2
     go_ret2
     exact ⟨by first | rfl | (simp [errW_none, errW_some] <;> rfl) | (simp [*, errW_none, errW_some] <;> rfl), by repeat (first | (with_reducible first | exact HB.out | apply below_alloc | apply pw_below_drewN | apply below_drew1) | exact HB.out)⟩

def elevator_Order.f (k : Nat) (a0 : Int) (l1 : List (S37)) : Option ((List (S37)) × Int) := (elevator_ready.f k a0 l1).bind fun t7191 => (if t7191 = 0 then ((api_Req_61.f l1).bind fun t7192 => ((api_Req_62__elevator_Order_1.f k t7192).bind fun t7195 => ((api_Req_int__elevator_Order_2.f k t7195 a0).bind fun bt7196 => (if 0 ≤ bt7196.1 then (if bt7196.1 ≤ (t7192.length : Int) then ((api_Req_67.f k (([(t7195.drop (bt7196.1 : Int).toNat), (t7195.take (bt7196.1 : Int).toNat)] : List (List (S37))))).bind fun t7211 => (some (t7211, 0))) else (none)) else (none))))) else (some (([] : List (S37)), t7191)))
theorem elevator_Order.mono : ∀ a0 a1 k, LeO (elevator_Order.f k a0 a1) (elevator_Order.f (k + 1) a0 a1) := by
 intro a0 a1 k
 unfold elevator_Order.f
 repeat' first
   | (with_reducible exact api_Req_62__elevator_Order_1.mono _ _)
   | (with_reducible exact api_Req_67.mono _ _)
   | (with_reducible exact api_Req_int__elevator_Order_2.mono _ _ _)
   | (with_reducible exact elevator_ready.mono _ _ _)
   | (with_reducible exact LeO.refl _)
   | (with_reducible exact LeO.none _)
   | (with_reducible refine LeO.ite ?_ ?_)
   | (with_reducible refine LeO.bind ?_ (fun _ => ?_))
   | exact api_Req_62__elevator_Order_1.mono _ _
   | exact api_Req_67.mono _ _
   | exact api_Req_int__elevator_Order_2.mono _ _ _
   | exact elevator_ready.mono _ _ _
   | exact LeO.none _
   | refine LeO.ite ?_ ?_
   | refine LeO.bind ?_ (fun _ => ?_)
def elevator_Order.T7 : Bool × List (List Nat × List Nat) := (true, [([], []), ([], []), ([0, 1], [0, 1]), ([], []), ([], []), ([3, 4], [3, 4]), ([2, 5], [2, 5]), ([6], [6]), ([7, 7, 0, 1, 2, 3, 4, 5, 6, 7], [7]), ([8, 0, 1, 2, 3, 4, 5, 6, 7, 8], [])])
def elevator_Order.B7 : List Nat := [0, 0, 3, 0, 0, 24, 63, 127, 255, 511]
theorem elevator_Order.tab7 : rtab .any (opsOf Try.f14 7) = elevator_Order.T7 := by kernel_rfl
theorem elevator_Order.bits7 : waitsOk elevator_Order.T7.2 elevator_Order.B7 = true := by kernel_rfl
set_option maxHeartbeats 8000000 in
set_option maxRecDepth 100000 in
theorem elevator_Order.calls (k : Nat) (a0 : Int) (A1 : Option Addr) (c1 : Nat) (l1 : List (S37)) (r1 : List (S37)) (r2 : Int) (w : World) (hr1 : Kd.C k37 w A1 l1.length l1) (hc1 : l1.length ≤ c1) (h : elevator_Order.f k a0 l1 = some (r1, r2)) :
  Calls Try.prog 14 #[.int .i64 a0, .slice A1 l1.length c1] w fun e w' => ∃ v0_ : Value, e = .returned (.tuple #[v0_, .int .i64 r2]) ∧ Kd.R k37 37 w' w.heap.size (fun _ => True) v0_ r1 ∧ Below w.heap.size w w' := by
 have HR1 := Aside0.mk hr1
 have HC1 := Aside0.mk hc1
 clear hr1 hc1
 have HB := Aside0.mk (Below.refl w.heap.size w)
 have H : ((elevator_ready.f k a0 l1).bind fun t7191 => (if t7191 = 0 then ((api_Req_61.f l1).bind fun t7192 => ((api_Req_62__elevator_Order_1.f k t7192).bind fun t7195 => ((api_Req_int__elevator_Order_2.f k t7195 a0).bind fun bt7196 => (if 0 ≤ bt7196.1 then (if bt7196.1 ≤ (t7192.length : Int) then ((api_Req_67.f k (([(t7195.drop (bt7196.1 : Int).toNat), (t7195.take (bt7196.1 : Int).toNat)] : List (List (S37))))).bind fun t7211 => (some (t7211, 0))) else (none)) else (none))))) else (some (([] : List (S37)), t7191)))) = some (r1, r2) := h
 clear h
 replace H := Option.bind_eq_some_iff.mp H
 obtain ⟨t7191, A30, H⟩ := H
 replace H : (if t7191 = 0 then ((api_Req_61.f l1).bind fun t7192 => ((api_Req_62__elevator_Order_1.f k t7192).bind fun t7195 => ((api_Req_int__elevator_Order_2.f k t7195 a0).bind fun bt7196 => (if 0 ≤ bt7196.1 then (if bt7196.1 ≤ (t7192.length : Int) then ((api_Req_67.f k (([(t7195.drop (bt7196.1 : Int).toNat), (t7195.take (bt7196.1 : Int).toNat)] : List (List (S37))))).bind fun t7211 => (some (t7211, 0))) else (none)) else (none))))) else (some (([] : List (S37)), t7191))) = some (r1, r2) := H
 have A3 := Aside0.mk A30
 clear A30
 by_cases c4 : t7191 = 0
 ·rw [if_pos c4] at H
  have c4b0 : (t7191 == 0) = true := beq_iff_eq.mpr c4
  have c4b1 : (t7191 != 0) = false := bne_eq_false_iff_eq.mpr c4
  clear c4
  replace H := Option.bind_eq_some_iff.mp H
  obtain ⟨t7192, A50, H⟩ := H
  replace H : ((api_Req_62__elevator_Order_1.f k t7192).bind fun t7195 => ((api_Req_int__elevator_Order_2.f k t7195 a0).bind fun bt7196 => (if 0 ≤ bt7196.1 then (if bt7196.1 ≤ (t7192.length : Int) then ((api_Req_67.f k (([(t7195.drop (bt7196.1 : Int).toNat), (t7195.take (bt7196.1 : Int).toNat)] : List (List (S37))))).bind fun t7211 => (some (t7211, 0))) else (none)) else (none)))) = some (r1, r2) := H
  have A5 := Aside0.mk A50
  clear A50
  replace H := Option.bind_eq_some_iff.mp H
  obtain ⟨t7195, A60, H⟩ := H
  replace H : ((api_Req_int__elevator_Order_2.f k t7195 a0).bind fun bt7196 => (if 0 ≤ bt7196.1 then (if bt7196.1 ≤ (t7192.length : Int) then ((api_Req_67.f k (([(t7195.drop (bt7196.1 : Int).toNat), (t7195.take (bt7196.1 : Int).toNat)] : List (List (S37))))).bind fun t7211 => (some (t7211, 0))) else (none)) else (none))) = some (r1, r2) := H
  have A6 := Aside0.mk A60
  clear A60
  replace H := Option.bind_eq_some_iff.mp H
  obtain ⟨⟨t7196, t7197⟩, A70, H⟩ := H
  replace H : (if 0 ≤ t7196 then (if t7196 ≤ (t7192.length : Int) then ((api_Req_67.f k (([(t7195.drop (t7196 : Int).toNat), (t7195.take (t7196 : Int).toNat)] : List (List (S37))))).bind fun t7211 => (some (t7211, 0))) else (none)) else (none)) = some (r1, r2) := H
  have A7 := Aside0.mk A70
  clear A70
  by_cases c8 : 0 ≤ t7196
  ·rw [if_pos c8] at H
   have c8b0 := eq_true c8
   have c8b1 : decide (0 ≤ t7196) = true := decide_eq_true c8
   clear c8
   by_cases c9 : t7196 ≤ (t7192.length : Int)
   ·rw [if_pos c9] at H
    have c9b0 := eq_true c9
    have c9b1 : decide (t7196 ≤ (t7192.length : Int)) = true := decide_eq_true c9
    clear c9
    obtain ⟨y7198, hy7198⟩ : ∃ y_ : List (S37), y_ = (t7195.drop (t7196 : Int).toNat) := ⟨_, rfl⟩
    replace H : ((api_Req_67.f k (([y7198, (t7195.take (t7196 : Int).toNat)] : List (List (S37))))).bind fun t7211 => (some (t7211, 0))) = some (r1, r2) := by first | (rw [hy7198]; with_reducible exact H) | (have H2_ := (Option.bind_some _ _).symm.trans H; rw [hy7198]; with_reducible exact H2_) | (have H2_ := (Option.bind_some _ _).symm.trans H; with_reducible exact H2_) | with_reducible exact H | (rw [hy7198]; exact H) | exact H
    have Ny7198 := Aside0.mk hy7198
    clear hy7198
    have c10b0 := eq_true (of_decide_eq_true (by first | (with_reducible assumption) | assumption) : 0 ≤ t7196)
    have c11b0 := eq_true (of_decide_eq_true (by first | (with_reducible assumption) | assumption) : t7196 ≤ (t7192.length : Int))
    obtain ⟨y7203, hy7203⟩ : ∃ y_ : List (S37), y_ = (t7195.take (t7196 : Int).toNat) := ⟨_, rfl⟩
    replace H : ((api_Req_67.f k (([y7198, y7203] : List (List (S37))))).bind fun t7211 => (some (t7211, 0))) = some (r1, r2) := by first | (rw [hy7203]; with_reducible exact H) | (have H2_ := (Option.bind_some _ _).symm.trans H; rw [hy7203]; with_reducible exact H2_) | (have H2_ := (Option.bind_some _ _).symm.trans H; with_reducible exact H2_) | with_reducible exact H | (rw [hy7203]; exact H) | exact H
    have Ny7203 := Aside0.mk hy7203
    clear hy7203
    obtain ⟨y7208, hy7208⟩ : ∃ y_ : List (List (S37)), y_ = (([y7198, y7203] : List (List (S37)))) := ⟨_, rfl⟩
    replace H : ((api_Req_67.f k y7208).bind fun t7211 => (some (t7211, 0))) = some (r1, r2) := by first | (rw [hy7208]; with_reducible exact H) | (have H2_ := (Option.bind_some _ _).symm.trans H; rw [hy7208]; with_reducible exact H2_) | (have H2_ := (Option.bind_some _ _).symm.trans H; with_reducible exact H2_) | with_reducible exact H | (rw [hy7208]; exact H) | exact H
    have Ny7208 := Aside0.mk hy7208
    clear hy7208
    replace H := Option.bind_eq_some_iff.mp H
    obtain ⟨t7211, A120, H⟩ := H
    replace H : (some (t7211, 0)) = some (r1, r2) := H
    have A12 := Aside0.mk A120
    clear A120
    simp only [Option.some.injEq, Prod.mk.injEq] at H
    obtain ⟨rfl, rfl⟩ := H
    go_enter Try.func14, Try.ntmps14
    try go_wp2_with (first | ((with_reducible refine HOpen.gate_append ?_); simp only [List.cons_append, List.nil_append]) | ((with_reducible refine gate_callee (f := 60) rfl ?_); refine goesL_ (some 12) rfl rfl Try.func60 (by kernel_rfl) rfl #[.int .i64 a0, .slice A1 l1.length c1] rfl (by (try simp only [List.map_toArray, List.map_cons, List.map_nil]); first | done | rfl | (simp only [List.length_drop, List.length_take]; rfl)) ?_; (with_reducible refine (elevator_ready.calls k a0 _ _ l1 t7191 _ ?side1 ?side2 A3.out).mono ?_); (case side1 => repeat (first | exact HR1.out | (with_reducible refine Kd.C_alloc ?_ _) | (with_reducible refine Kd.C_drewN ?_ _) | (with_reducible refine Kd.C_drew ?_))); (case side2 => exact HC1.out); rintro e w13 ⟨rfl, hb⟩; refine ⟨_, rfl, ?_⟩; have n0_ := Aside0.mk (below_step (by repeat (first | (with_reducible first | exact HB.out | apply below_alloc | apply pw_below_drewN | apply below_drew1) | exact HB.out)) hb); clear HB; have HB := n0_; clear n0_; (try clear hb); (try clear hb2); (try clear hk); (try clear hi)) | ((with_reducible refine gate_callee (f := 61) rfl ?_); refine goesL_ (some 17) rfl rfl Try.func61 (by kernel_rfl) rfl #[.slice A1 l1.length c1] rfl (by (try simp only [List.map_toArray, List.map_cons, List.map_nil]); first | done | rfl | (simp only [List.length_drop, List.length_take]; rfl)) ?_; (with_reducible refine (api_Req_61.calls _ _ l1 t7192 _ ?side1 ?side2 A5.out).mono ?_); (case side1 => repeat (first | exact (Kd.C_below HR1.out HB.out) | (with_reducible refine Kd.C_alloc ?_ _) | (with_reducible refine Kd.C_drewN ?_ _) | (with_reducible refine Kd.C_drew ?_))); (case side2 => exact HC1.out); rintro e w14 ⟨v7193, rfl, ho0, hb⟩; refine ⟨_, rfl, ?_⟩; have n0_ := Aside0.mk (Kd.R_lower ho0 (below_size (by repeat (first | (with_reducible first | exact HB.out | apply below_alloc | apply pw_below_drewN | apply below_drew1) | exact HB.out)))); have n1_ := Aside0.mk (below_step (by repeat (first | (with_reducible first | exact HB.out | apply below_alloc | apply pw_below_drewN | apply below_drew1) | exact HB.out)) hb); clear HB; have HO7194 := n0_; have HB := n1_; clear n0_ n1_; (try clear hb); (try clear hb2); (try clear hk); (try clear hi); (try clear ho0); obtain ⟨Ao15, co15, eo15⟩ := Kd.R_slice HO7194.out; subst eo15) | ((with_reducible refine gate_callee (f := 62) rfl ?_); refine goesL_ (some 19) rfl rfl Try.func62 (by kernel_rfl) rfl #[.slice Ao15 t7192.length co15, .func (.func 63) #[] #[]] rfl (by (try simp only [List.map_toArray, List.map_cons, List.map_nil]); first | done | rfl | (simp only [List.length_drop, List.length_take]; rfl)) ?_; (with_reducible refine (api_Req_62__elevator_Order_1.calls k (fun k_ => some k_ = (.slice Ao15 t7192.length co15 : Value).ownBlock) (.slice Ao15 t7192.length co15) t7192  t7195 w _ ?side1 ?side2 A6.out).mono ?_); (case side1 => repeat (first | (with_reducible first | exact HB.out | apply below_alloc | apply pw_below_drewN | apply below_drew1) | exact HB.out)); (case side2 => exact Kd.R_tight rfl HO7194.out); rintro e w16 ⟨rfl, hy0, hb, hkp⟩; refine ⟨_, rfl, ?_⟩; have n0_ := Aside0.mk (Kd.R_reok rfl hy0 (fun k_ e_ => HO7194.out.1 k_ e_)); have n1_ := Aside0.mk (hb); clear HO7194; clear HB; have HO7194 := n0_; have HB := n1_; clear n0_ n1_; (try clear hb); (try clear hkp); (try clear hy0)) | ((with_reducible refine gate_callee (f := 65) rfl ?_); refine goesL_ (some 23) rfl rfl Try.func65 (by kernel_rfl) rfl #[.slice Ao15 t7195.length co15, .int .i64 a0, .func (.func 66) #[] #[]] rfl (by (try simp only [List.map_toArray, List.map_cons, List.map_nil]); first | done | (rw [show t7195.length = t7192.length from (Kd.R_reads' HO7194.out).1.symm] <;> rfl) | rfl | (simp only [List.length_drop, List.length_take]; rfl)) ?_; (with_reducible refine (api_Req_int__elevator_Order_2.calls k _ _ t7195 a0  t7196 t7197 _ ?side1 ?side2 A7.out).mono ?_); (case side1 => repeat (first | exact (Kd.R_reads' HO7194.out).2.2 | (with_reducible refine Kd.C_alloc ?_ _) | (with_reducible refine Kd.C_drewN ?_ _) | (with_reducible refine Kd.C_drew ?_))); (case side2 => rw [show t7195.length = t7192.length from (Kd.R_reads' HO7194.out).1.symm]; exact (Kd.R_reads' HO7194.out).2.1); rintro e w17 ⟨rfl, hb⟩; refine ⟨_, rfl, ?_⟩; have n0_ := Aside0.mk (Kd.R_below (by (with_reducible repeat (first | apply Kd.R_alloc | apply Kd.R_drewN | apply Kd.R_drew)); exact HO7194.out) hb); have n1_ := Aside0.mk (below_step (by repeat (first | (with_reducible first | exact HB.out | apply below_alloc | apply pw_below_drewN | apply below_drew1) | exact HB.out)) hb); clear HO7194; clear HB; have HO7194 := n0_; have HB := n1_; clear n0_ n1_; (try clear hb); (try clear hb2); (try clear hk); (try clear hi)))
    have n0_ := Aside0.mk (Kd.R_drew HO7194.out)
    have n1_ := Aside0.mk (below_drew1 HB.out)
    clear HO7194
    clear HB
    have HO7194 := n0_
    have HB := n1_
    clear n0_ n1_
    have hlx19 := (Kd.R_reads' HO7194.out).1
    have q19 : (t7196 : Int) ≤ ((t7192.length : Int) : Int) := of_decide_eq_true (by first | (with_reducible assumption) | assumption)
    obtain ⟨i019, hi019, _, hsz19, _⟩ := info_parts info37
    have hroom19 : t7192.length ≤ co15 := (Kd.R_reads' HO7194.out).2.1
    have hroomc19 : t7195.length ≤ co15 := (by rw [← hlx19]; exact hroom19)
    have hC19 : Kd.F k37 _ _ Ao15 t7195.length t7195 := (Kd.V_at (base := w.heap.size) (Kd.R_V HO7194.out)).2.2
    have q019 : (0 : Int) ≤ (t7196 : Int) := of_decide_eq_true (by first | (with_reducible assumption) | assumption)
    have hcut19 := cut_from (P := Try.prog) 22 37 .i64 Try.underlying22 hi019 3 hsz19 Ao15 t7192.length co15 t7196 q019 q19
    have hr19 := Kd.F_cut (m := (t7196 : Int).toNat) (c := co15) hC19 (by omega) hroomc19
    obtain ⟨A19, hA19⟩ : ∃ A1, A1 = (if co15 = (t7196 : Int).toNat then Ao15 else (Ao15 : Option Addr).map (·.add ((t7196 : Int).toNat * 3))) := ⟨_, rfl⟩
    obtain ⟨c19, hc19⟩ : ∃ c1, c1 = co15 - (t7196 : Int).toNat := ⟨_, rfl⟩
    have hy19 : y7198.length = t7192.length - (t7196 : Int).toNat := (by rw [Ny7198.out, List.length_drop] <;> omega)
    rw [show (t7195).drop (t7196 : Int).toNat = y7198 from Ny7198.out.symm] at hr19
    replace hr19 : Kd.F k37 _ _ A19 y7198.length y7198 := (by rw [hA19]; exact hr19)
    rw [← hy19, ← hA19, ← hc19] at hcut19
    have HO7202 := Aside0.mk (show Kd.V k37 37 _ w.heap.size _ (.slice A19 y7198.length c19) y7198 from Kd.V_mk (by rw [hy19, hc19]; exact Nat.sub_le_sub_right hroom19 _) hr19)
    have HC7202 := Aside0.mk (show y7198.length ≤ c19 from by rw [hy19, hc19]; exact Nat.sub_le_sub_right hroom19 _)
    clear hr19 hC19 hroom19 hi019 hsz19 hc19 hroomc19
    have KY19 := Aside0.mk hy19
    have KA19 := Aside0.mk hA19
    clear hy19 hA19
    clear hlx19
    replace q19 := eq_true q19
    have hlx20 := (Kd.R_reads' HO7194.out).1
    have q20 : (t7196 : Int) ≤ ((t7192.length : Int) : Int) := of_decide_eq_true (by first | (with_reducible assumption) | assumption)
    obtain ⟨i020, hi020, _, hsz20, _⟩ := info_parts info37
    have hroom20 : t7192.length ≤ co15 := (Kd.R_reads' HO7194.out).2.1
    have hroomc20 : t7195.length ≤ co15 := (by rw [← hlx20]; exact hroom20)
    have hC20 : Kd.F k37 _ _ Ao15 t7195.length t7195 := (Kd.V_at (base := w.heap.size) (Kd.R_V HO7194.out)).2.2
    have hcut20 := cut_to (P := Try.prog) 22 37 .i64 Try.underlying22 hi020 Ao15 t7192.length co15 t7196 (of_decide_eq_true (by first | (with_reducible assumption) | assumption)) q20 hroom20
    have hr20 := Kd.F_take (m := (t7196 : Int).toNat) hC20 (by omega)
    have hy20 : y7203.length = (t7196 : Int).toNat := (by rw [Ny7203.out, List.length_take]; omega)
    rw [← Ny7203.out] at hr20
    rw [← hy20] at hcut20
    have HO7207 := Aside0.mk (show Kd.V k37 37 _ w.heap.size _ (.slice Ao15 y7203.length co15) y7203 from Kd.V_mk (by omega) hr20)
    have HC7207 := Aside0.mk (show y7203.length ≤ co15 from by omega)
    clear hr20 hC20 hroom20 hi020 hsz20 hroomc20
    have KY20 := Aside0.mk hy20
    clear hy20
    clear hlx20
    replace q20 := eq_true q20
    refine start_ (n := 10) (S := fun w' => True) (ds := []) #[false, false, false, false, false, false, false, false, false, false] (by kernel_rfl) rfl rfl trivial (fun hHeld => ?_); refine with_tabW elevator_Order.tab7 elevator_Order.bits7 (fun HT_ HW_ => ?_)
    generalize w17.drew = w18 at HO7194 HB HO7202 HO7207 hHeld ⊢
    refine pure_ (i := 0) (N := some 26) (v := ?_) (a' := ?_) #[true, false, false, false, false, false, false, false, false, false] rfl rfl (any_of HT_.out (by kernel_rfl)) (fun _ _ _ h => h) (Or.inl ⟨by rfl, ?_⟩) ?_ ?_
    rotate_left
    ·intro w'
     go_simp
     with_reducible rfl
    rotate_left
    ·simp only [Act.put, List.setIfInBounds_toArray, List.set_cons_zero, List.set_cons_succ, i64_w, i32_w]
     rfl
    refine pure_ (i := 1) (N := some 27) (v := ?_) (a' := ?_) #[true, true, false, false, false, false, false, false, false, false] rfl rfl (any_of HT_.out (by kernel_rfl)) (fun _ _ _ h => h) (Or.inl ⟨by rfl, ?_⟩) ?_ ?_
    rotate_left
    ·intro w'
     go_simp
     with_reducible rfl
    rotate_left
    ·simp only [Act.put, List.setIfInBounds_toArray, List.set_cons_zero, List.set_cons_succ, i64_w, i32_w]
     rfl
    refine pure_ (i := 2) (N := some 28) (v := ?_) (a' := ?_) #[true, true, true, false, false, false, false, false, false, false] rfl rfl (any_of HT_.out (by kernel_rfl)) (fun _ _ _ h => h) (Or.inl ⟨by rfl, ?_⟩) ?_ ?_
    rotate_left
    ·intro w'
     go_simp
     with_reducible rfl
    rotate_left
    ·simp only [Act.put, List.setIfInBounds_toArray, List.set_cons_zero, List.set_cons_succ, i64_w, i32_w]
     rfl
    refine pure_ (i := 3) (N := some 29) (v := ?_) (a' := ?_) #[true, true, true, true, false, false, false, false, false, false] rfl rfl (any_of HT_.out (by kernel_rfl)) (fun _ _ _ h => h) (Or.inl ⟨by rfl, ?_⟩) ?_ ?_
    rotate_left
    ·intro w'
     go_simp
     with_reducible rfl
    rotate_left
    ·simp only [Act.put, List.setIfInBounds_toArray, List.set_cons_zero, List.set_cons_succ, i64_w, i32_w]
     rfl
    refine pure_ (i := 4) (N := some 30) (v := ?_) (a' := ?_) #[true, true, true, true, true, false, false, false, false, false] rfl rfl (any_of HT_.out (by kernel_rfl)) (fun _ _ _ h => h) (Or.inl ⟨by rfl, ?_⟩) ?_ ?_
    rotate_left
    ·intro w'
     go_simp
     with_reducible rfl
    rotate_left
    ·simp only [Act.put, List.setIfInBounds_toArray, List.set_cons_zero, List.set_cons_succ, i64_w, i32_w]
     rfl
    refine pure_ (i := 5) (N := some 31) (v := ?_) (a' := ?_) #[true, true, true, true, true, true, false, false, false, false] rfl rfl (any_of HT_.out (by kernel_rfl)) (fun _ _ _ h => h) (Or.inl ⟨by rfl, ?_⟩) ?_ ?_
    rotate_left
    ·intro w'
     go_simp
     with_reducible rfl
    rotate_left
    ·simp only [Act.put, List.setIfInBounds_toArray, List.set_cons_zero, List.set_cons_succ, i64_w, i32_w]
     rfl
    refine one_ (i := 6) (N := some 32) #[true, true, true, true, true, true, true, false, false, false] rfl rfl (one_of HT_.out (by kernel_rfl)) (by decide) (fun K hK => ?_)
    refine Kd.N_lit_step (Kd.slice 37 k37) _ 22 ?hg (N' := 32) ?hd (xs := ([y7198, y7203] : List (List (S37)))) (inner := [.slice A19 y7198.length c19, .slice Ao15 y7203.length co15]) (ok := (fun _ => True)) (okp := (fun _ => True)) ?hr ?hp (fun _ hk => hk) ((show ∀ k_, w18.heap.size ≤ k_ → (fun _ => True) k_ from fun k_ hk => trivial) _ (Nat.le_refl _)) (Below.refl _ _) (Nat.le_refl _) (by simp) ?_; (case hd => rfl); (case hg => rfl); (case hr => first | (go_simp; done) | (go_simp; rfl)); (case hp => exact (Reps.one (show Kd.FK (Kd.slice 37 k37) _ _ y7198 [.slice A19 y7198.length c19] from (Kd.FK_slice_mk (Kd.V_reads' (Kd.V_mono (ok' := (fun _ => True)) (HO7202.out) (fun k_ hk => trivial))).2.1 (Kd.V_F (Kd.V_mono (ok' := (fun _ => True)) (HO7202.out) (fun k_ hk => trivial))))) (Reps.one (show Kd.FK (Kd.slice 37 k37) _ _ y7203 [.slice Ao15 y7203.length co15] from (Kd.FK_slice_mk (Kd.V_reads' (Kd.V_mono (ok' := (fun _ => True)) (HO7207.out) (fun k_ hk => trivial))).2.1 (Kd.V_F (Kd.V_mono (ok' := (fun _ => True)) (HO7207.out) (fun k_ hk => trivial))))) (Reps.none _ _))))
    intro v7209 w21 ho22 hb hg_ hnew_
    clear hg_ hnew_
    (first | rw [← Ny7208.out] at ho22 | (simp only [Int.reduceToNat] at ho22; rw [← Ny7208.out] at ho22))
    have n0_ := Aside0.mk (Kd.R_below (by (with_reducible repeat (first | apply Kd.R_alloc | apply Kd.R_drewN | apply Kd.R_drew)); exact HO7194.out) hb)
    have n1_ := Aside0.mk (Kd.V_elder' (by (with_reducible repeat (first | apply Kd.V_alloc | apply Kd.V_drewN | apply Kd.V_drew)); exact HO7202.out) (Kd.N_base ho22) hb)
    have n2_ := Aside0.mk (Kd.V_elder' (by (with_reducible repeat (first | apply Kd.V_alloc | apply Kd.V_drewN | apply Kd.V_drew)); exact HO7207.out) (Kd.N_base ho22) hb)
    have n3_ := Aside0.mk (Kd.N_lower ho22 (below_size (by repeat (first | (with_reducible first | exact HB.out | apply below_alloc | apply pw_below_drewN | apply below_drew1) | exact HB.out))))
    have n4_ := Aside0.mk (below_step (by repeat (first | (with_reducible first | exact HB.out | apply below_alloc | apply pw_below_drewN | apply below_drew1) | exact HB.out)) hb)
    clear HO7194
    clear HO7202
    clear HO7207
    clear HB
    have HO7194 := n0_
    have HO7202 := n1_
    have HO7207 := n2_
    have HO7210 := n3_
    have HB := n4_
    clear n0_ n1_ n2_ n3_ n4_
    clear hb ho22
    obtain ⟨Ao23, co23, eo23⟩ := Kd.N_slice HO7210.out
    (first | subst eo23 | (injection eo23 with f1_ f2_ f3_; have f4_ := f1_.symm; have f5_ := f3_.symm; clear f1_ f2_ f3_; subst f4_; subst f5_))
    refine hK.out _ _ trivial (fun hHeld => ?_)
    clear hK K
    refine norm_ (a' := ?_) ?_ ?_
    rotate_left
    ·show Act.put _ (some 32) _ = _
     simp only [Act.put, List.setIfInBounds_toArray, List.set_cons_zero, List.set_cons_succ, i64_w, i32_w]
     rfl
    refine one_ (i := 7) (N := some 33) #[true, true, true, true, true, true, true, true, false, false] rfl rfl (one_of HT_.out (by kernel_rfl)) (by decide) (fun K hK => ?_)
    refine goes_ Try.func67 (by kernel_rfl) rfl #[.slice Ao23 y7208.length co23] (by rfl) rfl rfl (by (try simp only [List.map_toArray, List.map_cons, List.map_nil]); first | done | rfl | (simp only [List.length_drop, List.length_take]; rfl)) ?_
    with_reducible refine (api_Req_67.calls k _ _ y7208 t7211 _ ?side1 ?side2 A12.out).mono ?_
    (case side1 => repeat (first | exact (Kd.N_reads' HO7210.out).2.2 | (with_reducible refine Kd.C_alloc ?_ _) | (with_reducible refine Kd.C_drewN ?_ _) | (with_reducible refine Kd.C_drew ?_)))
    (case side2 => exact (Kd.N_reads' HO7210.out).2.1)
    rintro e w24 ⟨v7212, rfl, ho0, hb⟩
    refine ⟨_, rfl, ?_⟩
    have n0_ := Aside0.mk (Kd.R_elder' (by (with_reducible repeat (first | apply Kd.R_alloc | apply Kd.R_drewN | apply Kd.R_drew)); exact HO7194.out) (Kd.R_base ho0) hb)
    have n1_ := Aside0.mk (Kd.V_elder' (by (with_reducible repeat (first | apply Kd.V_alloc | apply Kd.V_drewN | apply Kd.V_drew)); exact HO7202.out) (Kd.R_base ho0) hb)
    have n2_ := Aside0.mk (Kd.V_elder' (by (with_reducible repeat (first | apply Kd.V_alloc | apply Kd.V_drewN | apply Kd.V_drew)); exact HO7207.out) (Kd.R_base ho0) hb)
    have n3_ := Aside0.mk (Kd.N_elder' (by (with_reducible repeat (first | apply Kd.N_alloc | apply Kd.N_drewN | apply Kd.N_drew)); exact HO7210.out) (Kd.R_base ho0) hb)
    have n4_ := Aside0.mk (Kd.R_lower (Kd.R_new' ho0 (Kd.R_lt (by (with_reducible repeat (first | apply Kd.R_alloc | apply Kd.R_drewN | apply Kd.R_drew)); exact HO7194.out))) (below_size (by repeat (first | (with_reducible first | exact HB.out | apply below_alloc | apply pw_below_drewN | apply below_drew1) | exact HB.out))))
    have n5_ := Aside0.mk (below_step (by repeat (first | (with_reducible first | exact HB.out | apply below_alloc | apply pw_below_drewN | apply below_drew1) | exact HB.out)) hb)
    clear HO7194
    clear HO7202
    clear HO7207
    clear HO7210
    clear HB
    have HO7194 := n0_
    have HO7202 := n1_
    have HO7207 := n2_
    have HO7210 := n3_
    have HO7213 := n4_
    have HB := n5_
    clear n0_ n1_ n2_ n3_ n4_ n5_
    (try clear hb)
    (try clear hb2)
    (try clear hk)
    (try clear hi)
    (try clear ho0)
    refine hK.out _ _ trivial (fun hHeld => ?_)
    clear hK K
    refine norm_ (a' := ?_) ?_ ?_
    rotate_left
    ·show Act.put _ (some 33) _ = _
     simp only [Act.put, List.setIfInBounds_toArray, List.set_cons_zero, List.set_cons_succ, i64_w, i32_w]
     rfl
    refine pure_ (i := 8) (N := some 4) (v := ?_) (a' := ?_) #[true, true, true, true, true, true, true, true, true, false] rfl rfl (any_of HT_.out (by kernel_rfl)) (fun _ _ _ h => h) (Or.inl ⟨by rfl, ?_⟩) ?_ ?_
    rotate_left
    ·intro w'
     go_simp
     with_reducible rfl
    rotate_left
    ·simp only [Act.put, List.setIfInBounds_toArray, List.set_cons_zero, List.set_cons_succ, i64_w, i32_w]
     rfl
    refine pure_ (i := 9) (N := some 5) (v := ?_) (a' := ?_) #[true, true, true, true, true, true, true, true, true, true] rfl rfl (any_of HT_.out (by kernel_rfl)) (fun _ _ _ h => h) (Or.inl ⟨by rfl, ?_⟩) ?_ ?_
    rotate_left
    ·intro w'
     go_simp
     with_reducible rfl
    rotate_left
    ·simp only [Act.put, List.setIfInBounds_toArray, List.set_cons_zero, List.set_cons_succ, i64_w, i32_w]
     rfl
    refine done_ (done_of HT_.out (by kernel_rfl)) ?_
    try go_wp2
    go_ret2
    exact ⟨_, by first | rfl | (simp [errW_none, errW_some] <;> rfl) | (simp [*, errW_none, errW_some] <;> rfl), by (with_reducible repeat (first | apply Kd.R_alloc | apply Kd.R_drewN | apply Kd.R_drew)); exact Kd.R_mono HO7213.out (fun _ hk => trivial), by repeat (first | (with_reducible first | exact HB.out | apply below_alloc | apply pw_below_drewN | apply below_drew1) | exact HB.out)⟩
   ·rw [if_neg c9] at H
    exact absurd H (by simp)
  ·rw [if_neg c8] at H
   exact absurd H (by simp)
 ·rw [if_neg c4] at H
  have c4b0 : (t7191 == 0) = false := beq_eq_false_iff_ne.mpr c4
  have c4b1 : (t7191 != 0) = true := bne_iff_ne.mpr c4
  simp only [Option.some.injEq, Prod.mk.injEq] at H
  obtain ⟨rfl, rfl⟩ := H
  go_enter Try.func14, Try.ntmps14
  go_wp2_with (first | ((with_reducible refine HOpen.gate_append ?_); simp only [List.cons_append, List.nil_append]) | ((with_reducible refine gate_callee (f := 60) rfl ?_); refine goesL_ (some 12) rfl rfl Try.func60 (by kernel_rfl) rfl #[.int .i64 a0, .slice A1 l1.length c1] rfl (by (try simp only [List.map_toArray, List.map_cons, List.map_nil]); first | done | rfl | (simp only [List.length_drop, List.length_take]; rfl)) ?_; (with_reducible refine (elevator_ready.calls k a0 _ _ l1 t7191 _ ?side1 ?side2 A3.out).mono ?_); (case side1 => repeat (first | exact HR1.out | (with_reducible refine Kd.C_alloc ?_ _) | (with_reducible refine Kd.C_drewN ?_ _) | (with_reducible refine Kd.C_drew ?_))); (case side2 => exact HC1.out); rintro e w25 ⟨rfl, hb⟩; refine ⟨_, rfl, ?_⟩; have n0_ := Aside0.mk (below_step (by repeat (first | (with_reducible first | exact HB.out | apply below_alloc | apply pw_below_drewN | apply below_drew1) | exact HB.out)) hb); clear HB; have HB := n0_; clear n0_; (try clear hb); (try clear hb2); (try clear hk); (try clear hi)))
  go_ret2
  exact ⟨_, by first | rfl | (simp [errW_none, errW_some] <;> rfl) | (simp [*, errW_none, errW_some] <;> rfl), by first | exact Kd.R_nil _ _ _ _ _ | exact Kd.N_nil _ _ _ _ _ | exact Kd.V_nil _ _ _ _ _ | exact Kd.Q_nil _ _ _ _ _ | exact Kd.S_nil _ _ _ _ _, by repeat (first | (with_reducible first | exact HB.out | apply below_alloc | apply pw_below_drewN | apply below_drew1) | exact HB.out)⟩

section
open Go Go.Shelf Go.Proofs.Ytgahpdoiddhdaaa.Seq Go.Proofs.YtgahpdoiddhdaaaW.PrintLast
attribute [local go_sem] Oper.semAt_some
def hdK (h : Int) (xs : List S37) (k : Nat) : Int := if k = 0 then h else wrap64 ((rd_T37 xs ((k - 1 : Nat) : Int)).f0 + (rd_T37 xs ((k - 1 : Nat) : Int)).f1)
def servedN (h : Int) (xs : List S37) (k : Nat) : List (Int × S37) := (List.range k).map fun k => (hdK h xs k, rd_T37 xs (k : Int))
def servedL (h : Int) (xs : List S37) : List (Int × S37) := servedN h xs xs.length
theorem servedN_succ (h : Int) (xs : List S37) (k : Nat) : servedN h xs (k + 1) = servedN h xs k ++ [(hdK h xs k, rd_T37 xs (k : Int))] := by simp [servedN, List.range_succ]
theorem hdK_succ (h : Int) (xs : List S37) (k : Nat) : hdK h xs (k + 1) = wrap64 ((rd_T37 xs (k : Int)).f0 + (rd_T37 xs (k : Int)).f1) := by simp [hdK]
theorem servedN_pre (h : Int) (xs : List S37) (k : Nat) (hk : k ≤ xs.length) : servedN h xs k <+: servedL h xs := by
 obtain ⟨d, hd⟩ : ∃ d, xs.length = k + d := ⟨xs.length - k, by omega⟩
 exact ⟨_, by rw [servedL, hd, servedN, servedN, List.range_add, List.map_append]⟩

theorem served_in (a0 : Int) (A : Option Addr) (n c : Nat) (w : World) :
  CallsIn Fence.wide 3 Try.prog 70 #[.int .i64 a0, .slice A n c] w fun e w' => e = .returned (.func (.func 101) #[] #[.pointer (some ⟨w.heap.size + 1, 0, none⟩), .pointer (some ⟨w.heap.size, 0, none⟩)]) ∧ w' = (w.alloc (.cells #[.int .i64 a0] 3)).alloc (.cells #[.slice A n c] 22) := by
 refine callsIn_of_wp Try.func70 rfl trivial ?_ rfl
 simp only [Try.ntmps70, List.size_toArray, List.length_cons, List.length_nil, Nat.reduceAdd, Nat.reduceSub, Array.replicate_succ, Array.replicate_zero, List.push_toArray, List.append_toArray, List.nil_append, List.cons_append]
 gi_wp2
 go_ret
 exact ⟨rfl, rfl⟩

def encH (x : Int × S37) : Array Value := #[.int .i64 x.1, .agg #[.int .i64 x.2.f0, .int .i64 x.2.f1, .int .i64 x.2.f2]]
set_option maxRecDepth 100000 in
set_option maxHeartbeats 2000000 in
theorem served_seq (w0 w : World) (Bl Bh : Nat) (A : Option Addr) (c : Nat) (xs : List S37) (a0 : Int)
  (hw0 : Below w0.heap.size w0 w) (hBl : w0.heap.size ≤ Bl) (hBh : w0.heap.size ≤ Bh) (hne : Bl ≠ Bh)
  (hcl : Boxed w Bl 22 (.slice A xs.length c)) (hch : Boxed w Bh 3 (.int .i64 a0)) (hr : Kd.C k37 w0 A xs.length xs) (hlen : xs.length ≤ 4611686018427387904) :
  SeqO (fun r => r < w0.heap.size ∨ r = Bl ∨ r = Bh) (fun r => r = Bh) Try.prog 101 #[.pointer (some ⟨Bl, 0, none⟩), .pointer (some ⟨Bh, 0, none⟩)] encH (servedL a0 xs) w := by
 intro l J Jx O W hW hO hJ hY h0
 replace hcl := hW.boxed hcl (by simp)
 replace hch := hW.boxed hch (by simp)
 have hWB : Below w0.heap.size w0 W := hw0.trans (hW.below hw0.size (fun k hk => by simp at hk; omega))
 have hBls : Bl < W.heap.size := hcl.lt
 have hBhs : Bh < W.heap.size := hch.lt
 refine callsIn_of_wp Try.func101 rfl trivial ?_ rfl
 simp only [Try.ntmps101, List.size_toArray, List.length_cons, List.length_nil, Nat.reduceAdd, Nat.reduceSub, Array.replicate_succ, Array.replicate_zero, List.push_toArray, List.append_toArray, List.nil_append, List.cons_append]
 have hc1 := hcl.cell
 gi_wp2
 gi_loopw [8] (fun i wr => ∃ k : Nat, k ≤ xs.length ∧ i = .int .i64 k ∧ (∃ O, J O (servedN a0 xs k) wr ∧ (∀ k, O k → w0.heap.size ≤ k ∧ k ≠ Bl ∧ k ≠ Bh)) ∧ Below w0.heap.size w0 wr ∧ Boxed wr Bh 3 (.int .i64 (hdK a0 xs k)) ∧ W.heap.size ≤ wr.heap.size)
  (fun i _ => xs.length - (intOf i).toNat)
 case atStart => exact ⟨0, Nat.zero_le _, rfl, ⟨O, h0, fun k hk => by have := hO k hk; simp at this; omega⟩, hWB, by simpa [hdK] using hch, Nat.le_refl _⟩
 case round =>
  obtain ⟨k, hk, rfl, ⟨O1, hJs, hO1⟩, hB, hbh, hsz⟩ := hrel
  have hc2 := hbh.cell
  by_cases hlt : k < xs.length
  ·obtain ⟨ad, ea, hx0, hx1, hx2⟩ := at_T37 hr (k : Int) (by omega) (by omega)
   cases ea
   replace hx0 := (hB.cell (World.block_lt_of_cell? w0 _ hx0)).trans hx0
   replace hx1 := (hB.cell (World.block_lt_of_cell? w0 _ hx1)).trans hx1
   replace hx2 := (hB.cell (World.block_lt_of_cell? w0 _ hx2)).trans hx2
   simp only [Int.toNat_natCast] at hx0 hx1 hx2
   obtain ⟨xb, hxb⟩ : ∃ o, o = Obj.cells #[.int .i64 (rd_T37 xs (k : Int)).f0, .int .i64 (rd_T37 xs (k : Int)).f1, .int .i64 (rd_T37 xs (k : Int)).f2] 37 (0, 0) := ⟨_, rfl⟩
   have hs1 : Step (fun _ => False) wr (wr.alloc xb) := Step.alloc _ _ _
   have hc3 := (hs1.boxed hbh (fun h => h)).cell
   have hJ1 : J O1 (servedN a0 xs k) (wr.alloc xb) := hJ.step O1 _ wr _ _ hJs hs1 (fun _ h => h.elim)
   have hn1 : (wr.alloc xb).heap[wr.heap.size]? = some xb := World.alloc_heap_new _ _
   have hO2 := hJ.lt O1 _ wr hJs
   obtain ⟨fn, tmps, assign, body, hy, hR⟩ := hY O1 _ (hdK a0 xs k, rd_T37 xs (k : Int)) (wr.alloc xb) hJ1 (by rw [← servedN_succ]; exact servedN_pre _ _ _ hlt)
   subst hxb
   dsimp only [encH] at hy
   gi_wp2
   refine hR.mono ?_
   rintro e W' ⟨O3, hO3, hs3, ⟨rfl, hJ3⟩ | ⟨rfl, hJ3⟩⟩
   ·have hb4 := hs3.boxed (hs1.boxed hbh (fun h => h)) (fun h => (hO1 _ h).2.2 rfl)
    have hn4 := hs3.block hn1 (fun h => by have := hO2 _ h; omega)
    have hy0 : W'.cell? ⟨wr.heap.size, 0, none⟩ = some (.int .i64 (rd_T37 xs (k : Int)).f0) := by simp [World.cell?, hn4]
    have hy1 : W'.cell? ⟨wr.heap.size, 1, none⟩ = some (.int .i64 (rd_T37 xs (k : Int)).f1) := by simp [World.cell?, hn4]
    have hc4 := hb4.cell
    have hwk : wrap64 ((k : Int) + 1) = (k : Int) + 1 := by unfold wrap64; omega
    have hf4 := hb4.frozen
    gi_wp2
    go_roundw
    case rel =>
     have hst : Step (fun r => r = Bh) W' (W'.setCell ⟨Bh, 0, none⟩ (.int .i64 (wrap64 ((rd_T37 xs (k : Int)).f0 + (rd_T37 xs (k : Int)).f1)))) := Step.setCell (S := fun r => r = Bh) W' (p := ⟨Bh, 0, none⟩) rfl _
     have hO5 : ∀ q, O3 q → w0.heap.size ≤ q ∧ q ≠ Bl ∧ q ≠ Bh := fun q hq => (hO3 q hq).elim (hO1 q) (fun h => by have := hs1.size; omega)
     have hB4 : Below w0.heap.size w0 W' := (hB.trans (hs1.below hB.size (fun _ h => h.elim))).trans (hs3.below (Nat.le_trans hB.size hs1.size) (fun q hq => (hO1 q hq).1))
     refine ⟨k + 1, by omega, by simp [hwk], ⟨O3, ?_, hO5⟩, ?_, ?_, ?_⟩
     ·rw [servedN_succ]
      exact hJ.step O3 _ W' _ _ hJ3 hst (fun q hq => ⟨fun h => (hO5 q h).2.2 hq, Or.inl hq⟩)
     ·exact hB4.trans (hst.below hB4.size (fun q hq => by omega))
     ·rw [hdK_succ]
      exact hb4.set _
     ·have := hs1.size; have := hs3.size; have := hst.size; omega
    case measure => simp [intOf, hwk]; omega
   ·gi_wp2
    refine bodyPost_ret (results_none rfl _ _ _) rfl ?_
    exact ⟨⟨_, rfl⟩, O3, .inr ⟨_, by rw [← servedN_succ]; exact servedN_pre _ _ _ hlt, hJ3⟩⟩
  ·obtain rfl : k = xs.length := by omega
   gi_wp2
   go_end0
   exact ⟨⟨_, rfl⟩, O1, .inl hJs⟩
end

end Go.Proofs.Ytgahpdoiddhdaaa.HElev
