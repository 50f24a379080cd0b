-- WRITTEN BY wip/hyb.py, a program of this workplace (out of the kit's printer and this workplace's own contracts).
import Derived.Test.YtgahpdoiddhdaaaHBitmapx0
import Derived.Test.YtgahpdoiddhdaaaHBitmapx2
import Derived.Test.YtgahpdoiddhdaaaHBitmapx3
import Derived.Test.YtgahpdoiddhdaaaHBitmapx4
import Derived.Test.YtgahpdoiddhdaaaHBitmapx5
import Derived.Test.YtgahpdoiddhdaaaHBitmapx6
import Derived.Test.YtgahpdoiddhdaaaHBitmapx7
namespace Go.Proofs.Ytgahpdoiddhdaaa.HBitmap
open Go.RowKit Go.Proofs.YtgahpdoiddhdaaaW.PrintWords Go.Proofs.YtgahpdoiddhdaaaW.PrintLast Go.Proofs.YtgahpdoiddhdaaaW.PrintMore
attribute [local go_sem] max2_int min2_int max_two min_two max_three min_three max_four min_four   -- for this text's walks alone
set_option linter.unusedVariables false
set_option linter.unusedSimpArgs false

/-! ### caulklaw39_BitmapTells: function 10 -/
mutual
def caulklaw39_BitmapTells.j0 : Nat → List Bool → Int → ByteArray → List (S39) → Bool → Option (Bool)
  | 0, _, _, _, _, _ => none
  | k + 1, x0, x1, x2, x3, x38 => if x38 = true then ((caulklaw39_lives.f).bind fun t3304 => (some t3304)) else ((bitmap_Pack.f k x0).bind fun bt3305 => ((caulkref39_Pack.f k x0).bind fun bt3307 => ((bitmap_Unpack.f k x1 x2).bind fun bt3309 => ((caulkref39_Unpack.f k x1 x2).bind fun bt3313 => ((bitmap_Of.f k x1 x3).bind fun bt3317 => ((caulkref39_Of.f k x1 x3).bind fun bt3321 => (if (x0.length : Int) ≤ 300 then ((bitmap_Ranges.f k x0).bind fun t3325 => ((caulkref39_Ranges.f k x0).bind fun t3328 => ((caulkref19_SameRanges.f k t3325 t3328).bind fun t3331 => (caulklaw39_BitmapTells.j1 k bt3305.1 bt3305.2 bt3307.1 bt3307.2 bt3309.1 bt3309.2 bt3313.1 bt3313.2 bt3317.1 bt3317.2 bt3321.1 bt3321.2 (!t3331))))) else (caulklaw39_BitmapTells.j1 k bt3305.1 bt3305.2 bt3307.1 bt3307.2 bt3309.1 bt3309.2 bt3313.1 bt3313.2 bt3317.1 bt3317.2 bt3321.1 bt3321.2 false))))))))
def caulklaw39_BitmapTells.j1 : Nat → ByteArray → Int → ByteArray → Int → List Bool → Int → List Bool → Int → List Bool → Int → List Bool → Int → Bool → Option (Bool)
  | 0, _, _, _, _, _, _, _, _, _, _, _, _, _ => none
  | k + 1, x9, x10, x11, x12, x13, x14, x15, x16, x17, x18, x19, x20, x84 => if x84 = true then (some false) else ((caulklaw39_lives.f).bind fun t3332 => (if t3332 = true then (if x9.toList = x11.toList then (if x10 = x12 then ((caulkref12_Same.f k x13 x15).bind fun t3333 => (if t3333 = true then (if x14 = x16 then ((caulkref12_Same.f k x17 x19).bind fun t3334 => (if t3334 = true then (some (x18 == x20)) else (some false))) else (some false)) else (some false))) else (some false)) else (some false)) else (some false)))
end
def caulklaw39_BitmapTells.f (k : Nat) (l0 : List Bool) (a1 : Int) (a2 : ByteArray) (l3 : List (S39)) : Option (Bool) := if (l0.length : Int) > 300 then (if (l0.length : Int) ≤ 4096 then (caulklaw39_BitmapTells.j0 k l0 a1 a2 l3 true) else (if (a2.size : Int) > 1024 then (caulklaw39_BitmapTells.j0 k l0 a1 a2 l3 true) else (caulklaw39_BitmapTells.j0 k l0 a1 a2 l3 (decide ((l3.length : Int) > 60))))) else (if (a2.size : Int) > 1024 then (caulklaw39_BitmapTells.j0 k l0 a1 a2 l3 true) else (caulklaw39_BitmapTells.j0 k l0 a1 a2 l3 (decide ((l3.length : Int) > 60))))
theorem caulklaw39_BitmapTells.mono_l : ∀ k, (∀ y0 y1 y2 y3 y4, LeO (caulklaw39_BitmapTells.j0 k y0 y1 y2 y3 y4) (caulklaw39_BitmapTells.j0 (k + 1) y0 y1 y2 y3 y4)) ∧ (∀ y0 y1 y2 y3 y4 y5 y6 y7 y8 y9 y10 y11 y12, LeO (caulklaw39_BitmapTells.j1 k y0 y1 y2 y3 y4 y5 y6 y7 y8 y9 y10 y11 y12) (caulklaw39_BitmapTells.j1 (k + 1) y0 y1 y2 y3 y4 y5 y6 y7 y8 y9 y10 y11 y12))
  | 0 => ⟨fun _ _ _ _ _ r h => by simp [caulklaw39_BitmapTells.j0] at h, fun _ _ _ _ _ _ _ _ _ _ _ _ _ r h => by simp [caulklaw39_BitmapTells.j1] at h⟩
  | k + 1 => by
    obtain ⟨ih0, ih1⟩ := caulklaw39_BitmapTells.mono_l k
    refine ⟨?_, ?_⟩
    · intro y0 y1 y2 y3 y4
      unfold caulklaw39_BitmapTells.j0
      repeat' first
      | (with_reducible exact ih0 _ _ _ _ _)
      | (with_reducible exact ih1 _ _ _ _ _ _ _ _ _ _ _ _ _)
      | (with_reducible exact bitmap_Of.mono _ _ _)
      | (with_reducible exact bitmap_Pack.mono _ _)
      | (with_reducible exact bitmap_Ranges.mono _ _)
      | (with_reducible exact bitmap_Unpack.mono _ _ _)
      | (with_reducible exact caulkref12_Same.mono _ _ _)
      | (with_reducible exact caulkref19_SameRanges.mono _ _ _)
      | (with_reducible exact caulkref39_Of.mono _ _ _)
      | (with_reducible exact caulkref39_Pack.mono _ _)
      | (with_reducible exact caulkref39_Ranges.mono _ _)
      | (with_reducible exact caulkref39_Unpack.mono _ _ _)
      | (with_reducible exact LeO.refl _)
      | (with_reducible exact LeO.none _)
      | (with_reducible refine LeO.ite ?_ ?_)
      | (with_reducible refine LeO.bind ?_ (fun _ => ?_))
      | exact ih0 _ _ _ _ _
      | exact ih1 _ _ _ _ _ _ _ _ _ _ _ _ _
      | exact bitmap_Of.mono _ _ _
      | exact bitmap_Pack.mono _ _
      | exact bitmap_Ranges.mono _ _
      | exact bitmap_Unpack.mono _ _ _
      | exact caulkref12_Same.mono _ _ _
      | exact caulkref19_SameRanges.mono _ _ _
      | exact caulkref39_Of.mono _ _ _
      | exact caulkref39_Pack.mono _ _
      | exact caulkref39_Ranges.mono _ _
      | exact caulkref39_Unpack.mono _ _ _
      | exact LeO.none _
      | refine LeO.ite ?_ ?_
      | refine LeO.bind ?_ (fun _ => ?_)
    · intro y0 y1 y2 y3 y4 y5 y6 y7 y8 y9 y10 y11 y12
      unfold caulklaw39_BitmapTells.j1
      repeat' first
      | (with_reducible exact ih0 _ _ _ _ _)
      | (with_reducible exact ih1 _ _ _ _ _ _ _ _ _ _ _ _ _)
      | (with_reducible exact bitmap_Of.mono _ _ _)
      | (with_reducible exact bitmap_Pack.mono _ _)
      | (with_reducible exact bitmap_Ranges.mono _ _)
      | (with_reducible exact bitmap_Unpack.mono _ _ _)
      | (with_reducible exact caulkref12_Same.mono _ _ _)
      | (with_reducible exact caulkref19_SameRanges.mono _ _ _)
      | (with_reducible exact caulkref39_Of.mono _ _ _)
      | (with_reducible exact caulkref39_Pack.mono _ _)
      | (with_reducible exact caulkref39_Ranges.mono _ _)
      | (with_reducible exact caulkref39_Unpack.mono _ _ _)
      | (with_reducible exact LeO.refl _)
      | (with_reducible exact LeO.none _)
      | (with_reducible refine LeO.ite ?_ ?_)
      | (with_reducible refine LeO.bind ?_ (fun _ => ?_))
      | exact ih0 _ _ _ _ _
      | exact ih1 _ _ _ _ _ _ _ _ _ _ _ _ _
      | exact bitmap_Of.mono _ _ _
      | exact bitmap_Pack.mono _ _
      | exact bitmap_Ranges.mono _ _
      | exact bitmap_Unpack.mono _ _ _
      | exact caulkref12_Same.mono _ _ _
      | exact caulkref19_SameRanges.mono _ _ _
      | exact caulkref39_Of.mono _ _ _
      | exact caulkref39_Pack.mono _ _
      | exact caulkref39_Ranges.mono _ _
      | exact caulkref39_Unpack.mono _ _ _
      | exact LeO.none _
      | refine LeO.ite ?_ ?_
      | refine LeO.bind ?_ (fun _ => ?_)
theorem caulklaw39_BitmapTells.mono : ∀ a0 a1 a2 a3 k, LeO (caulklaw39_BitmapTells.f k a0 a1 a2 a3) (caulklaw39_BitmapTells.f (k + 1) a0 a1 a2 a3) := by
  intro a0 a1 a2 a3 k
  obtain ⟨ih0, ih1⟩ := caulklaw39_BitmapTells.mono_l k
  unfold caulklaw39_BitmapTells.f
  repeat' first
      | (with_reducible exact ih0 _ _ _ _ _)
      | (with_reducible exact ih1 _ _ _ _ _ _ _ _ _ _ _ _ _)
      | (with_reducible exact bitmap_Of.mono _ _ _)
      | (with_reducible exact bitmap_Pack.mono _ _)
      | (with_reducible exact bitmap_Ranges.mono _ _)
      | (with_reducible exact bitmap_Unpack.mono _ _ _)
      | (with_reducible exact caulkref12_Same.mono _ _ _)
      | (with_reducible exact caulkref19_SameRanges.mono _ _ _)
      | (with_reducible exact caulkref39_Of.mono _ _ _)
      | (with_reducible exact caulkref39_Pack.mono _ _)
      | (with_reducible exact caulkref39_Ranges.mono _ _)
      | (with_reducible exact caulkref39_Unpack.mono _ _ _)
      | (with_reducible exact LeO.refl _)
      | (with_reducible exact LeO.none _)
      | (with_reducible refine LeO.ite ?_ ?_)
      | (with_reducible refine LeO.bind ?_ (fun _ => ?_))
      | exact ih0 _ _ _ _ _
      | exact ih1 _ _ _ _ _ _ _ _ _ _ _ _ _
      | exact bitmap_Of.mono _ _ _
      | exact bitmap_Pack.mono _ _
      | exact bitmap_Ranges.mono _ _
      | exact bitmap_Unpack.mono _ _ _
      | exact caulkref12_Same.mono _ _ _
      | exact caulkref19_SameRanges.mono _ _ _
      | exact caulkref39_Of.mono _ _ _
      | exact caulkref39_Pack.mono _ _
      | exact caulkref39_Ranges.mono _ _
      | exact caulkref39_Unpack.mono _ _ _
      | exact LeO.none _
      | refine LeO.ite ?_ ?_
      | refine LeO.bind ?_ (fun _ => ?_)
set_option maxHeartbeats 8000000 in
set_option maxRecDepth 100000 in
theorem caulklaw39_BitmapTells.calls (k : Nat) (A0 : Option Addr) (c0 : Nat) (l0 : List Bool) (a1 : Int) (a2 : ByteArray) (A3 : Option Addr) (c3 : Nat) (l3 : List (S39)) (r : Bool) (w : World) (hr0 : Kd.C Kd.bool w A0 l0.length l0) (hc0 : l0.length ≤ c0) (hr3 : Kd.C k39 w A3 l3.length l3) (hc3 : l3.length ≤ c3) (hrt : Aside0 (r = true)) (h : caulklaw39_BitmapTells.f k l0 a1 a2 l3 = some r) :
    Calls Try.prog 10 #[.slice A0 l0.length c0, .int .i64 a1, .string a2, .slice A3 l3.length c3] w fun e w' => e = .returned (.bool r) ∧ Below w.heap.size w w' := by
  have HR0 := Aside0.mk hr0
  have HC0 := Aside0.mk hc0
  clear hr0 hc0
  have HR3 := Aside0.mk hr3
  have HC3 := Aside0.mk hc3
  clear hr3 hc3
  have HB := Aside0.mk (Below.refl w.heap.size w)
  have H : (if (l0.length : Int) > 300 then (if (l0.length : Int) ≤ 4096 then (caulklaw39_BitmapTells.j0 k l0 a1 a2 l3 true) else (if (a2.size : Int) > 1024 then (caulklaw39_BitmapTells.j0 k l0 a1 a2 l3 true) else (caulklaw39_BitmapTells.j0 k l0 a1 a2 l3 (decide ((l3.length : Int) > 60))))) else (if (a2.size : Int) > 1024 then (caulklaw39_BitmapTells.j0 k l0 a1 a2 l3 true) else (caulklaw39_BitmapTells.j0 k l0 a1 a2 l3 (decide ((l3.length : Int) > 60))))) = some r := h
  clear h
  have HC5 := Aside0.mk H
  clear H
  go_enter Try.func10, Try.ntmps10
  (try simp only [List.append_eq, List.cons_append, List.nil_append])
  go_upto_region 1 with (fail)
  go_cut [38] (fun v38 wc => ∃ (kq : Nat) (x38_4 : Bool), v38 = .bool x38_4 ∧ Aside0 (caulklaw39_BitmapTells.j0 kq l0 a1 a2 l3 x38_4 = some r) ∧ Aside0 (kq ≤ k) ∧ Aside0 (Below w.heap.size w wc))
  case first =>
    have H := HC5.out
    clear HC5
    by_cases c6 : (l0.length : Int) > 300
    · rw [if_pos c6] at H
      have c6b0 : decide (300 < (l0.length : Int)) = true := decide_eq_true c6
      have c6b1 : decide (300 < l0.length) = true := decide_eq_true (by omega)
      clear c6
      (first | rw [c6b0] | (simp only [i64_w, i32_w]; rw [c6b0]) | skip)
      by_cases c7 : (l0.length : Int) ≤ 4096
      · rw [if_pos c7] at H
        have c7b0 : decide ((l0.length : Int) ≤ 4096) = true := decide_eq_true c7
        have c7b1 : decide (l0.length ≤ 4096) = true := decide_eq_true (by omega)
        clear c7
        have H' := Aside0.mk H
        clear H
        go_wp2
        go_meet
        case rel => exact ⟨_, (true), (by first | rfl | (simp; done) | (simp [*]; done)), H', ⟨by first | omega | exact Nat.le_refl _⟩, ⟨by repeat (first | (with_reducible first | exact HB.out | apply below_alloc | apply pw_below_drewN | apply below_drew1) | exact HB.out)⟩⟩
      · rw [if_neg c7] at H
        have c7b0 : decide ((l0.length : Int) ≤ 4096) = false := decide_eq_false c7
        have c7b1 : decide (l0.length ≤ 4096) = false := decide_eq_false (by omega)
        clear c7
        by_cases c8 : (a2.size : Int) > 1024
        · rw [if_pos c8] at H
          have c8b0 : decide (1024 < (a2.size : Int)) = true := decide_eq_true c8
          have c8b1 : decide (1024 < a2.size) = true := decide_eq_true (by omega)
          clear c8
          have H' := Aside0.mk H
          clear H
          go_wp2
          go_meet
          case rel => exact ⟨_, (true), (by first | rfl | (simp; done) | (simp [*]; done)), H', ⟨by first | omega | exact Nat.le_refl _⟩, ⟨by repeat (first | (with_reducible first | exact HB.out | apply below_alloc | apply pw_below_drewN | apply below_drew1) | exact HB.out)⟩⟩
        · rw [if_neg c8] at H
          have c8b0 : decide (1024 < (a2.size : Int)) = false := decide_eq_false c8
          have c8b1 : decide (1024 < a2.size) = false := decide_eq_false (by omega)
          clear c8
          have H' := Aside0.mk H
          clear H
          go_wp2
          go_meet
          case rel => exact ⟨_, (decide ((l3.length : Int) > 60)), (by first | rfl | (simp; done) | (simp [*]; done)), H', ⟨by first | omega | exact Nat.le_refl _⟩, ⟨by repeat (first | (with_reducible first | exact HB.out | apply below_alloc | apply pw_below_drewN | apply below_drew1) | exact HB.out)⟩⟩
    · rw [if_neg c6] at H
      have c6b0 : decide (300 < (l0.length : Int)) = false := decide_eq_false c6
      have c6b1 : decide (300 < l0.length) = false := decide_eq_false (by omega)
      clear c6
      (first | rw [c6b0] | (simp only [i64_w, i32_w]; rw [c6b0]) | skip)
      by_cases c9 : (a2.size : Int) > 1024
      · rw [if_pos c9] at H
        have c9b0 : decide (1024 < (a2.size : Int)) = true := decide_eq_true c9
        have c9b1 : decide (1024 < a2.size) = true := decide_eq_true (by omega)
        clear c9
        have H' := Aside0.mk H
        clear H
        go_wp2
        go_meet
        case rel => exact ⟨_, (true), (by first | rfl | (simp; done) | (simp [*]; done)), H', ⟨by first | omega | exact Nat.le_refl _⟩, ⟨by repeat (first | (with_reducible first | exact HB.out | apply below_alloc | apply pw_below_drewN | apply below_drew1) | exact HB.out)⟩⟩
      · rw [if_neg c9] at H
        have c9b0 : decide (1024 < (a2.size : Int)) = false := decide_eq_false c9
        have c9b1 : decide (1024 < a2.size) = false := decide_eq_false (by omega)
        clear c9
        have H' := Aside0.mk H
        clear H
        go_wp2
        go_meet
        case rel => exact ⟨_, (decide ((l3.length : Int) > 60)), (by first | rfl | (simp; done) | (simp [*]; done)), H', ⟨by first | omega | exact Nat.le_refl _⟩, ⟨by repeat (first | (with_reducible first | exact HB.out | apply below_alloc | apply pw_below_drewN | apply below_drew1) | exact HB.out)⟩⟩
  case rest =>
    clear HC5
    try clear c1
    try clear p2
    try clear c3
    try clear c6
    try clear c6b0
    try clear c6b1
    try clear c7
    try clear c7b0
    try clear c7b1
    try clear c8
    try clear c8b0
    try clear c8b1
    try clear c9
    try clear c9b0
    try clear c9b1
    obtain ⟨kq, x38_4, rfl, HA, HJ4, HB⟩ := hcut
    cases kq with
    | zero => exact absurd HA.out (by simp [caulklaw39_BitmapTells.j0])
    | succ kj4 =>
      have H := HA.out
      clear HA
      simp only [caulklaw39_BitmapTells.j0] at H
      by_cases c10 : x38_4 = true
      · subst c10
        have H1 : ((caulklaw39_lives.f).bind fun t3304 => (some t3304)) = some r := by rw [if_pos rfl] at H; exact H
        clear H
        have H := H1
        clear H1
        replace H := Option.bind_eq_some_iff.mp H
        obtain ⟨t3304, A110, H⟩ := H
        replace H : (some t3304) = some r := H
        have A11 := Aside0.mk A110
        clear A110
        obtain rfl := Option.some.inj H
        go_wp2_with (first | ((with_reducible refine HOpen.gate_append ?_); simp only [List.cons_append, List.nil_append]) | ((with_reducible refine gate_callee (f := 46) rfl ?_); refine goesL_ (some 39) rfl rfl Try.func46 (by kernel_rfl) rfl #[] rfl (by (try simp only [List.map_toArray, List.map_cons, List.map_nil]); first | done | rfl | (simp only [List.length_drop, List.length_take]; rfl)) ?_; (with_reducible refine (caulklaw39_lives.calls  t3304 _ A11.out).mono ?_); rintro e w12 ⟨rfl, hb⟩; refine ⟨_, rfl, ?_⟩; have n0_ := Aside0.mk (below_step (by repeat (first | (with_reducible first | exact HB.out | apply below_alloc | apply pw_below_drewN | apply below_drew1) | exact HB.out)) hb); clear HB; have HB := n0_; clear n0_; (try clear hb); (try clear hb2); (try clear hk); (try clear hi)))
        go_ret
        exact ⟨by first | rfl | (simp [errW_none, errW_some] <;> rfl) | (simp [*, errW_none, errW_some] <;> rfl), by repeat (first | (with_reducible first | exact HB.out | apply below_alloc | apply pw_below_drewN | apply below_drew1) | exact HB.out)⟩
      · replace c10 := Bool.eq_false_iff.mpr c10
        subst c10
        have H1 : ((bitmap_Pack.f kj4 l0).bind fun bt3305 => ((caulkref39_Pack.f kj4 l0).bind fun bt3307 => ((bitmap_Unpack.f kj4 a1 a2).bind fun bt3309 => ((caulkref39_Unpack.f kj4 a1 a2).bind fun bt3313 => ((bitmap_Of.f kj4 a1 l3).bind fun bt3317 => ((caulkref39_Of.f kj4 a1 l3).bind fun bt3321 => (if (l0.length : Int) ≤ 300 then ((bitmap_Ranges.f kj4 l0).bind fun t3325 => ((caulkref39_Ranges.f kj4 l0).bind fun t3328 => ((caulkref19_SameRanges.f kj4 t3325 t3328).bind fun t3331 => (caulklaw39_BitmapTells.j1 kj4 bt3305.1 bt3305.2 bt3307.1 bt3307.2 bt3309.1 bt3309.2 bt3313.1 bt3313.2 bt3317.1 bt3317.2 bt3321.1 bt3321.2 (!t3331))))) else (caulklaw39_BitmapTells.j1 kj4 bt3305.1 bt3305.2 bt3307.1 bt3307.2 bt3309.1 bt3309.2 bt3313.1 bt3313.2 bt3317.1 bt3317.2 bt3321.1 bt3321.2 false)))))))) = some r := by rw [if_neg (show ¬ (false = true) by decide)] at H; exact H
        clear H
        have H := H1
        clear H1
        replace H := Option.bind_eq_some_iff.mp H
        obtain ⟨⟨t3305, t3306⟩, A130, H⟩ := H
        replace H : ((caulkref39_Pack.f kj4 l0).bind fun bt3307 => ((bitmap_Unpack.f kj4 a1 a2).bind fun bt3309 => ((caulkref39_Unpack.f kj4 a1 a2).bind fun bt3313 => ((bitmap_Of.f kj4 a1 l3).bind fun bt3317 => ((caulkref39_Of.f kj4 a1 l3).bind fun bt3321 => (if (l0.length : Int) ≤ 300 then ((bitmap_Ranges.f kj4 l0).bind fun t3325 => ((caulkref39_Ranges.f kj4 l0).bind fun t3328 => ((caulkref19_SameRanges.f kj4 t3325 t3328).bind fun t3331 => (caulklaw39_BitmapTells.j1 kj4 t3305 t3306 bt3307.1 bt3307.2 bt3309.1 bt3309.2 bt3313.1 bt3313.2 bt3317.1 bt3317.2 bt3321.1 bt3321.2 (!t3331))))) else (caulklaw39_BitmapTells.j1 kj4 t3305 t3306 bt3307.1 bt3307.2 bt3309.1 bt3309.2 bt3313.1 bt3313.2 bt3317.1 bt3317.2 bt3321.1 bt3321.2 false))))))) = some r := H
        have A13 := Aside0.mk A130
        clear A130
        replace H := Option.bind_eq_some_iff.mp H
        obtain ⟨⟨t3307, t3308⟩, A140, H⟩ := H
        replace H : ((bitmap_Unpack.f kj4 a1 a2).bind fun bt3309 => ((caulkref39_Unpack.f kj4 a1 a2).bind fun bt3313 => ((bitmap_Of.f kj4 a1 l3).bind fun bt3317 => ((caulkref39_Of.f kj4 a1 l3).bind fun bt3321 => (if (l0.length : Int) ≤ 300 then ((bitmap_Ranges.f kj4 l0).bind fun t3325 => ((caulkref39_Ranges.f kj4 l0).bind fun t3328 => ((caulkref19_SameRanges.f kj4 t3325 t3328).bind fun t3331 => (caulklaw39_BitmapTells.j1 kj4 t3305 t3306 t3307 t3308 bt3309.1 bt3309.2 bt3313.1 bt3313.2 bt3317.1 bt3317.2 bt3321.1 bt3321.2 (!t3331))))) else (caulklaw39_BitmapTells.j1 kj4 t3305 t3306 t3307 t3308 bt3309.1 bt3309.2 bt3313.1 bt3313.2 bt3317.1 bt3317.2 bt3321.1 bt3321.2 false)))))) = some r := H
        have A14 := Aside0.mk A140
        clear A140
        replace H := Option.bind_eq_some_iff.mp H
        obtain ⟨⟨t3309, t3310⟩, A150, H⟩ := H
        replace H : ((caulkref39_Unpack.f kj4 a1 a2).bind fun bt3313 => ((bitmap_Of.f kj4 a1 l3).bind fun bt3317 => ((caulkref39_Of.f kj4 a1 l3).bind fun bt3321 => (if (l0.length : Int) ≤ 300 then ((bitmap_Ranges.f kj4 l0).bind fun t3325 => ((caulkref39_Ranges.f kj4 l0).bind fun t3328 => ((caulkref19_SameRanges.f kj4 t3325 t3328).bind fun t3331 => (caulklaw39_BitmapTells.j1 kj4 t3305 t3306 t3307 t3308 t3309 t3310 bt3313.1 bt3313.2 bt3317.1 bt3317.2 bt3321.1 bt3321.2 (!t3331))))) else (caulklaw39_BitmapTells.j1 kj4 t3305 t3306 t3307 t3308 t3309 t3310 bt3313.1 bt3313.2 bt3317.1 bt3317.2 bt3321.1 bt3321.2 false))))) = some r := H
        have A15 := Aside0.mk A150
        clear A150
        replace H := Option.bind_eq_some_iff.mp H
        obtain ⟨⟨t3313, t3314⟩, A160, H⟩ := H
        replace H : ((bitmap_Of.f kj4 a1 l3).bind fun bt3317 => ((caulkref39_Of.f kj4 a1 l3).bind fun bt3321 => (if (l0.length : Int) ≤ 300 then ((bitmap_Ranges.f kj4 l0).bind fun t3325 => ((caulkref39_Ranges.f kj4 l0).bind fun t3328 => ((caulkref19_SameRanges.f kj4 t3325 t3328).bind fun t3331 => (caulklaw39_BitmapTells.j1 kj4 t3305 t3306 t3307 t3308 t3309 t3310 t3313 t3314 bt3317.1 bt3317.2 bt3321.1 bt3321.2 (!t3331))))) else (caulklaw39_BitmapTells.j1 kj4 t3305 t3306 t3307 t3308 t3309 t3310 t3313 t3314 bt3317.1 bt3317.2 bt3321.1 bt3321.2 false)))) = some r := H
        have A16 := Aside0.mk A160
        clear A160
        replace H := Option.bind_eq_some_iff.mp H
        obtain ⟨⟨t3317, t3318⟩, A170, H⟩ := H
        replace H : ((caulkref39_Of.f kj4 a1 l3).bind fun bt3321 => (if (l0.length : Int) ≤ 300 then ((bitmap_Ranges.f kj4 l0).bind fun t3325 => ((caulkref39_Ranges.f kj4 l0).bind fun t3328 => ((caulkref19_SameRanges.f kj4 t3325 t3328).bind fun t3331 => (caulklaw39_BitmapTells.j1 kj4 t3305 t3306 t3307 t3308 t3309 t3310 t3313 t3314 t3317 t3318 bt3321.1 bt3321.2 (!t3331))))) else (caulklaw39_BitmapTells.j1 kj4 t3305 t3306 t3307 t3308 t3309 t3310 t3313 t3314 t3317 t3318 bt3321.1 bt3321.2 false))) = some r := H
        have A17 := Aside0.mk A170
        clear A170
        replace H := Option.bind_eq_some_iff.mp H
        obtain ⟨⟨t3321, t3322⟩, A180, H⟩ := H
        replace H : (if (l0.length : Int) ≤ 300 then ((bitmap_Ranges.f kj4 l0).bind fun t3325 => ((caulkref39_Ranges.f kj4 l0).bind fun t3328 => ((caulkref19_SameRanges.f kj4 t3325 t3328).bind fun t3331 => (caulklaw39_BitmapTells.j1 kj4 t3305 t3306 t3307 t3308 t3309 t3310 t3313 t3314 t3317 t3318 t3321 t3322 (!t3331))))) else (caulklaw39_BitmapTells.j1 kj4 t3305 t3306 t3307 t3308 t3309 t3310 t3313 t3314 t3317 t3318 t3321 t3322 false)) = some r := H
        have A18 := Aside0.mk A180
        clear A180
        have HC19 := Aside0.mk H
        clear H
        go_upto_region 9 with (first | ((with_reducible refine gate_callee (f := 47) rfl ?_); refine goesL_ (some 42) rfl rfl Try.func47 (by kernel_rfl) rfl #[.slice A0 l0.length c0] rfl (by (try simp only [List.map_toArray, List.map_cons, List.map_nil]); first | done | rfl | (simp only [List.length_drop, List.length_take]; rfl)) ?_; (with_reducible refine (bitmap_Pack.calls kj4 _ _ l0 t3305 t3306 _ ?side1 ?side2 A13.out).mono ?_); (case side1 => repeat (first | exact (Kd.C_below HR0.out HB.out) | (with_reducible refine Kd.C_alloc ?_ _) | (with_reducible refine Kd.C_drewN ?_ _) | (with_reducible refine Kd.C_drew ?_))); (case side2 => exact HC0.out); rintro e w20 ⟨rfl, hb⟩; refine ⟨_, rfl, ?_⟩; have n0_ := Aside0.mk (below_step (by repeat (first | (with_reducible first | exact HB.out | apply below_alloc | apply pw_below_drewN | apply below_drew1) | exact HB.out)) hb); clear HB; have HB := n0_; clear n0_; (try clear hb); (try clear hb2); (try clear hk); (try clear hi)) | ((with_reducible refine gate_callee (f := 48) rfl ?_); refine goesL_ (some 47) rfl rfl Try.func48 (by kernel_rfl) rfl #[.slice A0 l0.length c0] rfl (by (try simp only [List.map_toArray, List.map_cons, List.map_nil]); first | done | rfl | (simp only [List.length_drop, List.length_take]; rfl)) ?_; (with_reducible refine (caulkref39_Pack.calls kj4 _ _ l0 t3307 t3308 _ ?side1 ?side2 A14.out).mono ?_); (case side1 => repeat (first | exact (Kd.C_below HR0.out HB.out) | (with_reducible refine Kd.C_alloc ?_ _) | (with_reducible refine Kd.C_drewN ?_ _) | (with_reducible refine Kd.C_drew ?_))); (case side2 => exact HC0.out); rintro e w21 ⟨rfl, hb⟩; refine ⟨_, rfl, ?_⟩; have n0_ := Aside0.mk (below_step (by repeat (first | (with_reducible first | exact HB.out | apply below_alloc | apply pw_below_drewN | apply below_drew1) | exact HB.out)) hb); clear HB; have HB := n0_; clear n0_; (try clear hb); (try clear hb2); (try clear hk); (try clear hi)) | ((with_reducible refine gate_callee (f := 49) rfl ?_); refine goesL_ (some 53) rfl rfl Try.func49 (by kernel_rfl) rfl #[.int .i64 a1, .string a2] rfl (by (try simp only [List.map_toArray, List.map_cons, List.map_nil]); first | done | rfl | (simp only [List.length_drop, List.length_take]; rfl)) ?_; (with_reducible refine (bitmap_Unpack.calls kj4 a1 a2 t3309 t3310 _ A15.out).mono ?_); rintro e w22 ⟨v3311, rfl, ho0, hb⟩; refine ⟨_, rfl, ?_⟩; have n0_ := Aside0.mk (Kd.R_lower ho0 (below_size (by repeat (first | (with_reducible first | exact HB.out | apply below_alloc | apply pw_below_drewN | apply below_drew1) | exact HB.out)))); have n1_ := Aside0.mk (below_step (by repeat (first | (with_reducible first | exact HB.out | apply below_alloc | apply pw_below_drewN | apply below_drew1) | exact HB.out)) hb); clear HB; have HO3312 := n0_; have HB := n1_; clear n0_ n1_; (try clear hb); (try clear hb2); (try clear hk); (try clear hi); (try clear ho0)) | ((with_reducible refine gate_callee (f := 50) rfl ?_); refine goesL_ (some 59) rfl rfl Try.func50 (by kernel_rfl) rfl #[.int .i64 a1, .string a2] rfl (by (try simp only [List.map_toArray, List.map_cons, List.map_nil]); first | done | rfl | (simp only [List.length_drop, List.length_take]; rfl)) ?_; (with_reducible refine (caulkref39_Unpack.calls kj4 a1 a2 t3313 t3314 _ A16.out).mono ?_); rintro e w23 ⟨v3315, rfl, ho0, hb⟩; refine ⟨_, rfl, ?_⟩; have n0_ := Aside0.mk (Kd.R_elder' (by (with_reducible repeat (first | apply Kd.R_alloc | apply Kd.R_drewN | apply Kd.R_drew)); exact HO3312.out) (Kd.R_base ho0) hb); have n1_ := Aside0.mk (Kd.R_lower (Kd.R_new' ho0 (Kd.R_lt (by (with_reducible repeat (first | apply Kd.R_alloc | apply Kd.R_drewN | apply Kd.R_drew)); exact HO3312.out))) (below_size (by repeat (first | (with_reducible first | exact HB.out | apply below_alloc | apply pw_below_drewN | apply below_drew1) | exact HB.out)))); have n2_ := Aside0.mk (below_step (by repeat (first | (with_reducible first | exact HB.out | apply below_alloc | apply pw_below_drewN | apply below_drew1) | exact HB.out)) hb); clear HO3312; clear HB; have HO3312 := n0_; have HO3316 := n1_; have HB := n2_; clear n0_ n1_ n2_; (try clear hb); (try clear hb2); (try clear hk); (try clear hi); (try clear ho0)) | ((with_reducible refine gate_callee (f := 51) rfl ?_); refine goesL_ (some 65) rfl rfl Try.func51 (by kernel_rfl) rfl #[.int .i64 a1, .slice A3 l3.length c3] rfl (by (try simp only [List.map_toArray, List.map_cons, List.map_nil]); first | done | rfl | (simp only [List.length_drop, List.length_take]; rfl)) ?_; (with_reducible refine (bitmap_Of.calls kj4 a1 _ _ l3 t3317 t3318 _ ?side1 ?side2 A17.out).mono ?_); (case side1 => repeat (first | exact (Kd.C_below HR3.out HB.out) | (with_reducible refine Kd.C_alloc ?_ _) | (with_reducible refine Kd.C_drewN ?_ _) | (with_reducible refine Kd.C_drew ?_))); (case side2 => exact HC3.out); rintro e w24 ⟨v3319, rfl, ho0, hb⟩; refine ⟨_, rfl, ?_⟩; have n0_ := Aside0.mk (Kd.R_elder' (by (with_reducible repeat (first | apply Kd.R_alloc | apply Kd.R_drewN | apply Kd.R_drew)); exact HO3312.out) (Kd.R_base ho0) hb); have n1_ := Aside0.mk (Kd.R_elder' (by (with_reducible repeat (first | apply Kd.R_alloc | apply Kd.R_drewN | apply Kd.R_drew)); exact HO3316.out) (Kd.R_base ho0) hb); have n2_ := Aside0.mk (Kd.R_lower (Kd.R_new' (Kd.R_new' ho0 (Kd.R_lt (by (with_reducible repeat (first | apply Kd.R_alloc | apply Kd.R_drewN | apply Kd.R_drew)); exact HO3312.out))) (Kd.R_lt (by (with_reducible repeat (first | apply Kd.R_alloc | apply Kd.R_drewN | apply Kd.R_drew)); exact HO3316.out))) (below_size (by repeat (first | (with_reducible first | exact HB.out | apply below_alloc | apply pw_below_drewN | apply below_drew1) | exact HB.out)))); have n3_ := Aside0.mk (below_step (by repeat (first | (with_reducible first | exact HB.out | apply below_alloc | apply pw_below_drewN | apply below_drew1) | exact HB.out)) hb); clear HO3312; clear HO3316; clear HB; have HO3312 := n0_; have HO3316 := n1_; have HO3320 := n2_; have HB := n3_; clear n0_ n1_ n2_ n3_; (try clear hb); (try clear hb2); (try clear hk); (try clear hi); (try clear ho0)) | ((with_reducible refine gate_callee (f := 52) rfl ?_); refine goesL_ (some 71) rfl rfl Try.func52 (by kernel_rfl) rfl #[.int .i64 a1, .slice A3 l3.length c3] rfl (by (try simp only [List.map_toArray, List.map_cons, List.map_nil]); first | done | rfl | (simp only [List.length_drop, List.length_take]; rfl)) ?_; (with_reducible refine (caulkref39_Of.calls kj4 a1 _ _ l3 t3321 t3322 _ ?side1 ?side2 A18.out).mono ?_); (case side1 => repeat (first | exact (Kd.C_below HR3.out HB.out) | (with_reducible refine Kd.C_alloc ?_ _) | (with_reducible refine Kd.C_drewN ?_ _) | (with_reducible refine Kd.C_drew ?_))); (case side2 => exact HC3.out); rintro e w25 ⟨v3323, rfl, ho0, hb⟩; refine ⟨_, rfl, ?_⟩; have n0_ := Aside0.mk (Kd.R_elder' (by (with_reducible repeat (first | apply Kd.R_alloc | apply Kd.R_drewN | apply Kd.R_drew)); exact HO3312.out) (Kd.R_base ho0) hb); have n1_ := Aside0.mk (Kd.R_elder' (by (with_reducible repeat (first | apply Kd.R_alloc | apply Kd.R_drewN | apply Kd.R_drew)); exact HO3316.out) (Kd.R_base ho0) hb); have n2_ := Aside0.mk (Kd.R_elder' (by (with_reducible repeat (first | apply Kd.R_alloc | apply Kd.R_drewN | apply Kd.R_drew)); exact HO3320.out) (Kd.R_base ho0) hb); have n3_ := Aside0.mk (Kd.R_lower (Kd.R_new' (Kd.R_new' (Kd.R_new' ho0 (Kd.R_lt (by (with_reducible repeat (first | apply Kd.R_alloc | apply Kd.R_drewN | apply Kd.R_drew)); exact HO3312.out))) (Kd.R_lt (by (with_reducible repeat (first | apply Kd.R_alloc | apply Kd.R_drewN | apply Kd.R_drew)); exact HO3316.out))) (Kd.R_lt (by (with_reducible repeat (first | apply Kd.R_alloc | apply Kd.R_drewN | apply Kd.R_drew)); exact HO3320.out))) (below_size (by repeat (first | (with_reducible first | exact HB.out | apply below_alloc | apply pw_below_drewN | apply below_drew1) | exact HB.out)))); have n4_ := Aside0.mk (below_step (by repeat (first | (with_reducible first | exact HB.out | apply below_alloc | apply pw_below_drewN | apply below_drew1) | exact HB.out)) hb); clear HO3312; clear HO3316; clear HO3320; clear HB; have HO3312 := n0_; have HO3316 := n1_; have HO3320 := n2_; have HO3324 := n3_; have HB := n4_; clear n0_ n1_ n2_ n3_ n4_; (try clear hb); (try clear hb2); (try clear hk); (try clear hi); (try clear ho0)))
        (try simp only [Act.put, List.setIfInBounds_toArray, List.set_cons_zero, List.set_cons_succ])
        go_cut [84] (fun v84 wc => ∃ (kq : Nat) (x84_18 : Bool), v84 = .bool x84_18 ∧ Aside0 (caulklaw39_BitmapTells.j1 kq t3305 t3306 t3307 t3308 t3309 t3310 t3313 t3314 t3317 t3318 t3321 t3322 x84_18 = some r) ∧ Aside0 (kq ≤ kj4) ∧ Aside0 (Kd.R Kd.bool 4 wc w.heap.size (fun k_ => some k_ ≠ (v3315 : Value).ownBlock ∧ some k_ ≠ (v3319 : Value).ownBlock ∧ some k_ ≠ (v3323 : Value).ownBlock) v3311 t3309) ∧ Aside0 (Kd.R Kd.bool 4 wc w.heap.size (fun k_ => some k_ ≠ (v3311 : Value).ownBlock ∧ some k_ ≠ (v3319 : Value).ownBlock ∧ some k_ ≠ (v3323 : Value).ownBlock) v3315 t3313) ∧ Aside0 (Kd.R Kd.bool 4 wc w.heap.size (fun k_ => some k_ ≠ (v3311 : Value).ownBlock ∧ some k_ ≠ (v3315 : Value).ownBlock ∧ some k_ ≠ (v3323 : Value).ownBlock) v3319 t3317) ∧ Aside0 (Kd.R Kd.bool 4 wc w.heap.size (fun k_ => some k_ ≠ (v3311 : Value).ownBlock ∧ some k_ ≠ (v3315 : Value).ownBlock ∧ some k_ ≠ (v3319 : Value).ownBlock) v3323 t3321) ∧ Aside0 (Below w.heap.size w wc))
        case first =>
          have H := HC19.out
          clear HC19
          by_cases c26 : (l0.length : Int) ≤ 300
          · rw [if_pos c26] at H
            have c26b0 : decide ((l0.length : Int) ≤ 300) = true := decide_eq_true c26
            have c26b1 : decide (l0.length ≤ 300) = true := decide_eq_true (by omega)
            clear c26
            (first | rw [c26b0] | (simp only [i64_w, i32_w]; rw [c26b0]) | skip)
            replace H := Option.bind_eq_some_iff.mp H
            obtain ⟨t3325, A270, H⟩ := H
            replace H : ((caulkref39_Ranges.f kj4 l0).bind fun t3328 => ((caulkref19_SameRanges.f kj4 t3325 t3328).bind fun t3331 => (caulklaw39_BitmapTells.j1 kj4 t3305 t3306 t3307 t3308 t3309 t3310 t3313 t3314 t3317 t3318 t3321 t3322 (!t3331)))) = some r := H
            have A27 := Aside0.mk A270
            clear A270
            replace H := Option.bind_eq_some_iff.mp H
            obtain ⟨t3328, A280, H⟩ := H
            replace H : ((caulkref19_SameRanges.f kj4 t3325 t3328).bind fun t3331 => (caulklaw39_BitmapTells.j1 kj4 t3305 t3306 t3307 t3308 t3309 t3310 t3313 t3314 t3317 t3318 t3321 t3322 (!t3331))) = some r := H
            have A28 := Aside0.mk A280
            clear A280
            replace H := Option.bind_eq_some_iff.mp H
            obtain ⟨t3331, A290, H⟩ := H
            replace H : (caulklaw39_BitmapTells.j1 kj4 t3305 t3306 t3307 t3308 t3309 t3310 t3313 t3314 t3317 t3318 t3321 t3322 (!t3331)) = some r := H
            have A29 := Aside0.mk A290
            clear A290
            have H' := Aside0.mk H
            clear H
            go_wp2_with (first | ((with_reducible refine HOpen.gate_append ?_); simp only [List.cons_append, List.nil_append]) | ((with_reducible refine gate_callee (f := 53) rfl ?_); (try (refine gate_guard (by rfl) ?_; dsimp only)); refine goesL_ (some 79) rfl rfl Try.func53 (by kernel_rfl) rfl #[.slice A0 l0.length c0] rfl (by (try simp only [List.map_toArray, List.map_cons, List.map_nil]); first | done | rfl | (simp only [List.length_drop, List.length_take]; rfl)) ?_; (with_reducible refine (bitmap_Ranges.calls kj4 _ _ l0 t3325 _ ?side1 ?side2 A27.out).mono ?_); (case side1 => repeat (first | exact (Kd.C_below HR0.out HB.out) | (with_reducible refine Kd.C_alloc ?_ _) | (with_reducible refine Kd.C_drewN ?_ _) | (with_reducible refine Kd.C_drew ?_))); (case side2 => exact HC0.out); rintro e w30 ⟨v3326, rfl, ho0, hb⟩; refine ⟨_, rfl, ?_⟩; have n0_ := Aside0.mk (Kd.R_below (by (with_reducible repeat (first | apply Kd.R_alloc | apply Kd.R_drewN | apply Kd.R_drew)); exact HO3312.out) hb); have n1_ := Aside0.mk (Kd.R_below (by (with_reducible repeat (first | apply Kd.R_alloc | apply Kd.R_drewN | apply Kd.R_drew)); exact HO3316.out) hb); have n2_ := Aside0.mk (Kd.R_below (by (with_reducible repeat (first | apply Kd.R_alloc | apply Kd.R_drewN | apply Kd.R_drew)); exact HO3320.out) hb); have n3_ := Aside0.mk (Kd.R_below (by (with_reducible repeat (first | apply Kd.R_alloc | apply Kd.R_drewN | apply Kd.R_drew)); exact HO3324.out) hb); have n4_ := Aside0.mk (Kd.R_lower ho0 (below_size (by repeat (first | (with_reducible first | exact HB.out | apply below_alloc | apply pw_below_drewN | apply below_drew1) | exact HB.out)))); have n5_ := Aside0.mk (below_step (by repeat (first | (with_reducible first | exact HB.out | apply below_alloc | apply pw_below_drewN | apply below_drew1) | exact HB.out)) hb); clear HO3312; clear HO3316; clear HO3320; clear HO3324; clear HB; have HO3312 := n0_; have HO3316 := n1_; have HO3320 := n2_; have HO3324 := n3_; have HO3327 := n4_; have HB := n5_; clear n0_ n1_ n2_ n3_ n4_ n5_; (try clear hb); (try clear hb2); (try clear hk); (try clear hi); (try clear ho0)) | ((with_reducible refine gate_callee (f := 54) rfl ?_); (try (refine gate_guard (by rfl) ?_; dsimp only)); refine goesL_ (some 81) rfl rfl Try.func54 (by kernel_rfl) rfl #[.slice A0 l0.length c0] rfl (by (try simp only [List.map_toArray, List.map_cons, List.map_nil]); first | done | rfl | (simp only [List.length_drop, List.length_take]; rfl)) ?_; (with_reducible refine (caulkref39_Ranges.calls kj4 _ _ l0 t3328 _ ?side1 ?side2 A28.out).mono ?_); (case side1 => repeat (first | exact (Kd.C_below HR0.out HB.out) | (with_reducible refine Kd.C_alloc ?_ _) | (with_reducible refine Kd.C_drewN ?_ _) | (with_reducible refine Kd.C_drew ?_))); (case side2 => exact HC0.out); rintro e w31 ⟨v3329, rfl, ho0, hb⟩; refine ⟨_, rfl, ?_⟩; have n0_ := Aside0.mk (Kd.R_below (by (with_reducible repeat (first | apply Kd.R_alloc | apply Kd.R_drewN | apply Kd.R_drew)); exact HO3312.out) hb); have n1_ := Aside0.mk (Kd.R_below (by (with_reducible repeat (first | apply Kd.R_alloc | apply Kd.R_drewN | apply Kd.R_drew)); exact HO3316.out) hb); have n2_ := Aside0.mk (Kd.R_below (by (with_reducible repeat (first | apply Kd.R_alloc | apply Kd.R_drewN | apply Kd.R_drew)); exact HO3320.out) hb); have n3_ := Aside0.mk (Kd.R_below (by (with_reducible repeat (first | apply Kd.R_alloc | apply Kd.R_drewN | apply Kd.R_drew)); exact HO3324.out) hb); have n4_ := Aside0.mk (Kd.R_elder' (by (with_reducible repeat (first | apply Kd.R_alloc | apply Kd.R_drewN | apply Kd.R_drew)); exact HO3327.out) (Kd.R_base ho0) hb); have n5_ := Aside0.mk (Kd.R_lower (Kd.R_new' ho0 (Kd.R_lt (by (with_reducible repeat (first | apply Kd.R_alloc | apply Kd.R_drewN | apply Kd.R_drew)); exact HO3327.out))) (below_size (by repeat (first | (with_reducible first | exact HB.out | apply below_alloc | apply pw_below_drewN | apply below_drew1) | exact HB.out)))); have n6_ := Aside0.mk (below_step (by repeat (first | (with_reducible first | exact HB.out | apply below_alloc | apply pw_below_drewN | apply below_drew1) | exact HB.out)) hb); clear HO3312; clear HO3316; clear HO3320; clear HO3324; clear HO3327; clear HB; have HO3312 := n0_; have HO3316 := n1_; have HO3320 := n2_; have HO3324 := n3_; have HO3327 := n4_; have HO3330 := n5_; have HB := n6_; clear n0_ n1_ n2_ n3_ n4_ n5_ n6_; (try clear hb); (try clear hb2); (try clear hk); (try clear hi); (try clear ho0); obtain ⟨Ao32, co32, eo32⟩ := Kd.R_slice HO3327.out; subst eo32; obtain ⟨Ao33, co33, eo33⟩ := Kd.R_slice HO3330.out; subst eo33) | ((with_reducible refine gate_callee (f := 23) rfl ?_); (try (refine gate_guard (by rfl) ?_; dsimp only)); refine goesL_ (some 82) rfl rfl Try.func23 (by kernel_rfl) rfl #[.slice Ao32 t3325.length co32, .slice Ao33 t3328.length co33] rfl (by (try simp only [List.map_toArray, List.map_cons, List.map_nil]); first | done | rfl | (simp only [List.length_drop, List.length_take]; rfl)) ?_; (with_reducible refine (caulkref19_SameRanges.calls kj4 _ _ t3325 _ _ t3328 t3331 _ ?side1 ?side2 ?side3 ?side4 A29.out).mono ?_); (case side1 => repeat (first | exact (Kd.R_reads' HO3327.out).2.2 | (with_reducible refine Kd.C_alloc ?_ _) | (with_reducible refine Kd.C_drewN ?_ _) | (with_reducible refine Kd.C_drew ?_))); (case side2 => exact (Kd.R_reads' HO3327.out).2.1); (case side3 => repeat (first | exact (Kd.R_reads' HO3330.out).2.2 | (with_reducible refine Kd.C_alloc ?_ _) | (with_reducible refine Kd.C_drewN ?_ _) | (with_reducible refine Kd.C_drew ?_))); (case side4 => exact (Kd.R_reads' HO3330.out).2.1); rintro e w' ⟨rfl, ⟨nd, rfl⟩⟩; refine ⟨_, rfl, ?_⟩))
            go_meet
            case rel => exact ⟨_, (!t3331), (by first | rfl | (simp; done) | (simp [*]; done)), H', ⟨by have := HJ4.out; first | omega | exact Nat.le_refl _⟩, ⟨by (with_reducible repeat (first | apply Kd.R_alloc | apply Kd.R_drewN | apply Kd.R_drew)); exact Kd.R_mono HO3312.out (fun _ hk => ⟨hk.1.1.2, ⟨hk.1.2, hk.2⟩⟩)⟩, ⟨by (with_reducible repeat (first | apply Kd.R_alloc | apply Kd.R_drewN | apply Kd.R_drew)); exact Kd.R_mono HO3316.out (fun _ hk => ⟨hk.1.1.2, ⟨hk.1.2, hk.2⟩⟩)⟩, ⟨by (with_reducible repeat (first | apply Kd.R_alloc | apply Kd.R_drewN | apply Kd.R_drew)); exact Kd.R_mono HO3320.out (fun _ hk => ⟨hk.1.1.2, ⟨hk.1.2, hk.2⟩⟩)⟩, ⟨by (with_reducible repeat (first | apply Kd.R_alloc | apply Kd.R_drewN | apply Kd.R_drew)); exact Kd.R_mono HO3324.out (fun _ hk => ⟨hk.1.1.2, ⟨hk.1.2, hk.2⟩⟩)⟩, ⟨by repeat (first | (with_reducible first | exact HB.out | apply below_alloc | apply pw_below_drewN | apply below_drew1) | exact HB.out)⟩⟩
          · rw [if_neg c26] at H
            have c26b0 : decide ((l0.length : Int) ≤ 300) = false := decide_eq_false c26
            have c26b1 : decide (l0.length ≤ 300) = false := decide_eq_false (by omega)
            clear c26
            (first | rw [c26b0] | (simp only [i64_w, i32_w]; rw [c26b0]) | skip)
            have H' := Aside0.mk H
            clear H
            go_wp2
            go_meet
            case rel => exact ⟨_, (false), (by first | rfl | (simp; done) | (simp [*]; done)), H', ⟨by have := HJ4.out; first | omega | exact Nat.le_refl _⟩, ⟨by (with_reducible repeat (first | apply Kd.R_alloc | apply Kd.R_drewN | apply Kd.R_drew)); exact Kd.R_mono HO3312.out (fun _ hk => ⟨hk.1.1.2, ⟨hk.1.2, hk.2⟩⟩)⟩, ⟨by (with_reducible repeat (first | apply Kd.R_alloc | apply Kd.R_drewN | apply Kd.R_drew)); exact Kd.R_mono HO3316.out (fun _ hk => ⟨hk.1.1.2, ⟨hk.1.2, hk.2⟩⟩)⟩, ⟨by (with_reducible repeat (first | apply Kd.R_alloc | apply Kd.R_drewN | apply Kd.R_drew)); exact Kd.R_mono HO3320.out (fun _ hk => ⟨hk.1.1.2, ⟨hk.1.2, hk.2⟩⟩)⟩, ⟨by (with_reducible repeat (first | apply Kd.R_alloc | apply Kd.R_drewN | apply Kd.R_drew)); exact Kd.R_mono HO3324.out (fun _ hk => ⟨hk.1.1.2, ⟨hk.1.2, hk.2⟩⟩)⟩, ⟨by repeat (first | (with_reducible first | exact HB.out | apply below_alloc | apply pw_below_drewN | apply below_drew1) | exact HB.out)⟩⟩
        case rest =>
          clear HC19
          try clear c1
          try clear c2
          try clear p2
          try clear c3
          try clear c4
          try clear c5
          try clear c6
          try clear c6b0
          try clear c6b1
          try clear c7
          try clear c7b0
          try clear c7b1
          try clear c8
          try clear c8b0
          try clear c8b1
          try clear c9
          try clear c9b0
          try clear c9b1
          try clear c10
          try clear c23
          try clear c26
          try clear c26b0
          try clear c26b1
          try clear p2
          obtain ⟨kq, x84_18, rfl, HA, HJ18, HO_13, HO_15, HO_17, HO_19, HB⟩ := hcut
          cases kq with
          | zero => exact absurd HA.out (by simp [caulklaw39_BitmapTells.j1])
          | succ kj18 =>
            have H := HA.out
            clear HA
            simp only [caulklaw39_BitmapTells.j1] at H
            by_cases c34 : x84_18 = true
            · subst c34
              have H1 : (some false) = some r := by rw [if_pos rfl] at H; exact H
              clear H
              have H := H1
              clear H1
              exact absurd ((Option.some.inj H).trans hrt.out) (by simp)
            · replace c34 := Bool.eq_false_iff.mpr c34
              subst c34
              have H1 : ((caulklaw39_lives.f).bind fun t3332 => (if t3332 = true then (if t3305.toList = t3307.toList then (if t3306 = t3308 then ((caulkref12_Same.f kj18 t3309 t3313).bind fun t3333 => (if t3333 = true then (if t3310 = t3314 then ((caulkref12_Same.f kj18 t3317 t3321).bind fun t3334 => (if t3334 = true then (some (t3318 == t3322)) else (some false))) else (some false)) else (some false))) else (some false)) else (some false)) else (some false))) = some r := by rw [if_neg (show ¬ (false = true) by decide)] at H; exact H
              clear H
              have H := H1
              clear H1
              replace H := Option.bind_eq_some_iff.mp H
              obtain ⟨t3332, A350, H⟩ := H
              replace H : (if t3332 = true then (if t3305.toList = t3307.toList then (if t3306 = t3308 then ((caulkref12_Same.f kj18 t3309 t3313).bind fun t3333 => (if t3333 = true then (if t3310 = t3314 then ((caulkref12_Same.f kj18 t3317 t3321).bind fun t3334 => (if t3334 = true then (some (t3318 == t3322)) else (some false))) else (some false)) else (some false))) else (some false)) else (some false)) else (some false)) = some r := H
              have A35 := Aside0.mk A350
              clear A350
              by_cases c36 : t3332 = true
              · subst c36
                have H1 : (if t3305.toList = t3307.toList then (if t3306 = t3308 then ((caulkref12_Same.f kj18 t3309 t3313).bind fun t3333 => (if t3333 = true then (if t3310 = t3314 then ((caulkref12_Same.f kj18 t3317 t3321).bind fun t3334 => (if t3334 = true then (some (t3318 == t3322)) else (some false))) else (some false)) else (some false))) else (some false)) else (some false)) = some r := by rw [if_pos rfl] at H; exact H
                clear H
                have H := H1
                clear H1
                by_cases c37 : t3305.toList = t3307.toList
                · rw [if_pos c37] at H
                  have c37b0 : (t3305.toList == t3307.toList) = true := beq_iff_eq.mpr c37
                  have c37b1 : (t3305.toList != t3307.toList) = false := bne_eq_false_iff_eq.mpr c37
                  clear c37
                  by_cases c38 : t3306 = t3308
                  · rw [if_pos c38] at H
                    have c38b0 : (t3306 == t3308) = true := beq_iff_eq.mpr c38
                    have c38b1 : (t3306 != t3308) = false := bne_eq_false_iff_eq.mpr c38
                    clear c38
                    replace H := Option.bind_eq_some_iff.mp H
                    obtain ⟨t3333, A390, H⟩ := H
                    replace H : (if t3333 = true then (if t3310 = t3314 then ((caulkref12_Same.f kj18 t3317 t3321).bind fun t3334 => (if t3334 = true then (some (t3318 == t3322)) else (some false))) else (some false)) else (some false)) = some r := H
                    have A39 := Aside0.mk A390
                    clear A390
                    by_cases c40 : t3333 = true
                    · subst c40
                      have H1 : (if t3310 = t3314 then ((caulkref12_Same.f kj18 t3317 t3321).bind fun t3334 => (if t3334 = true then (some (t3318 == t3322)) else (some false))) else (some false)) = some r := by rw [if_pos rfl] at H; exact H
                      clear H
                      have H := H1
                      clear H1
                      by_cases c41 : t3310 = t3314
                      · rw [if_pos c41] at H
                        have c41b0 : (t3310 == t3314) = true := beq_iff_eq.mpr c41
                        have c41b1 : (t3310 != t3314) = false := bne_eq_false_iff_eq.mpr c41
                        clear c41
                        replace H := Option.bind_eq_some_iff.mp H
                        obtain ⟨t3334, A420, H⟩ := H
                        replace H : (if t3334 = true then (some (t3318 == t3322)) else (some false)) = some r := H
                        have A42 := Aside0.mk A420
                        clear A420
                        by_cases c43 : t3334 = true
                        · subst c43
                          have H1 : (some (t3318 == t3322)) = some r := by rw [if_pos rfl] at H; exact H
                          clear H
                          have H := H1
                          clear H1
                          obtain rfl := Option.some.inj H
                          go_wp2_with (first | ((with_reducible refine HOpen.gate_append ?_); simp only [List.cons_append, List.nil_append]) | ((with_reducible refine gate_callee (f := 46) rfl ?_); refine goesL_ (some 85) rfl rfl Try.func46 (by kernel_rfl) rfl #[] rfl (by (try simp only [List.map_toArray, List.map_cons, List.map_nil]); first | done | rfl | (simp only [List.length_drop, List.length_take]; rfl)) ?_; (with_reducible refine (caulklaw39_lives.calls  true _ A35.out).mono ?_); rintro e w44 ⟨rfl, hb⟩; refine ⟨_, rfl, ?_⟩; have n0_ := Aside0.mk (Kd.R_below (by (with_reducible repeat (first | apply Kd.R_alloc | apply Kd.R_drewN | apply Kd.R_drew)); exact HO_13.out) hb); have n1_ := Aside0.mk (Kd.R_below (by (with_reducible repeat (first | apply Kd.R_alloc | apply Kd.R_drewN | apply Kd.R_drew)); exact HO_15.out) hb); have n2_ := Aside0.mk (Kd.R_below (by (with_reducible repeat (first | apply Kd.R_alloc | apply Kd.R_drewN | apply Kd.R_drew)); exact HO_17.out) hb); have n3_ := Aside0.mk (Kd.R_below (by (with_reducible repeat (first | apply Kd.R_alloc | apply Kd.R_drewN | apply Kd.R_drew)); exact HO_19.out) hb); have n4_ := Aside0.mk (below_step (by repeat (first | (with_reducible first | exact HB.out | apply below_alloc | apply pw_below_drewN | apply below_drew1) | exact HB.out)) hb); clear HO_13; clear HO_15; clear HO_17; clear HO_19; clear HB; have HO_13 := n0_; have HO_15 := n1_; have HO_17 := n2_; have HO_19 := n3_; have HB := n4_; clear n0_ n1_ n2_ n3_ n4_; (try clear hb); (try clear hb2); (try clear hk); (try clear hi); obtain ⟨Ao45, co45, eo45⟩ := Kd.R_slice HO_13.out; subst eo45; obtain ⟨Ao46, co46, eo46⟩ := Kd.R_slice HO_15.out; subst eo46) | ((with_reducible refine gate_callee (f := 55) rfl ?_); (try (refine gate_guard (by rfl) ?_; dsimp only)); refine goesL_ (some 99) rfl rfl Try.func55 (by kernel_rfl) rfl #[.slice Ao45 t3309.length co45, .slice Ao46 t3313.length co46] rfl (by (try simp only [List.map_toArray, List.map_cons, List.map_nil]); first | done | rfl | (simp only [List.length_drop, List.length_take]; rfl)) ?_; (with_reducible refine (caulkref12_Same.calls kj18 _ _ t3309 _ _ t3313 true _ ?side1 ?side2 ?side3 ?side4 A39.out).mono ?_); (case side1 => repeat (first | exact (Kd.R_reads' HO_13.out).2.2 | (with_reducible refine Kd.C_alloc ?_ _) | (with_reducible refine Kd.C_drewN ?_ _) | (with_reducible refine Kd.C_drew ?_))); (case side2 => exact (Kd.R_reads' HO_13.out).2.1); (case side3 => repeat (first | exact (Kd.R_reads' HO_15.out).2.2 | (with_reducible refine Kd.C_alloc ?_ _) | (with_reducible refine Kd.C_drewN ?_ _) | (with_reducible refine Kd.C_drew ?_))); (case side4 => exact (Kd.R_reads' HO_15.out).2.1); rintro e w' ⟨rfl, ⟨nd, rfl⟩⟩; refine ⟨_, rfl, ?_⟩; obtain ⟨Ao47, co47, eo47⟩ := Kd.R_slice HO_17.out; subst eo47; obtain ⟨Ao48, co48, eo48⟩ := Kd.R_slice HO_19.out; subst eo48) | ((with_reducible refine gate_callee (f := 55) rfl ?_); (try (refine gate_guard (by rfl) ?_; dsimp only)); refine goesL_ (some 109) rfl rfl Try.func55 (by kernel_rfl) rfl #[.slice Ao47 t3317.length co47, .slice Ao48 t3321.length co48] rfl (by (try simp only [List.map_toArray, List.map_cons, List.map_nil]); first | done | rfl | (simp only [List.length_drop, List.length_take]; rfl)) ?_; (with_reducible refine (caulkref12_Same.calls kj18 _ _ t3317 _ _ t3321 true _ ?side1 ?side2 ?side3 ?side4 A42.out).mono ?_); (case side1 => repeat (first | exact (Kd.R_reads' HO_17.out).2.2 | (with_reducible refine Kd.C_alloc ?_ _) | (with_reducible refine Kd.C_drewN ?_ _) | (with_reducible refine Kd.C_drew ?_))); (case side2 => exact (Kd.R_reads' HO_17.out).2.1); (case side3 => repeat (first | exact (Kd.R_reads' HO_19.out).2.2 | (with_reducible refine Kd.C_alloc ?_ _) | (with_reducible refine Kd.C_drewN ?_ _) | (with_reducible refine Kd.C_drew ?_))); (case side4 => exact (Kd.R_reads' HO_19.out).2.1); rintro e w' ⟨rfl, ⟨nd, rfl⟩⟩; refine ⟨_, rfl, ?_⟩))
                          go_ret
                          exact ⟨by first | rfl | (simp [errW_none, errW_some] <;> rfl) | (simp [*, errW_none, errW_some] <;> rfl), by repeat (first | (with_reducible first | exact HB.out | apply below_alloc | apply pw_below_drewN | apply below_drew1) | exact HB.out)⟩
                        · replace c43 := Bool.eq_false_iff.mpr c43
                          subst c43
                          have H1 : (some false) = some r := by rw [if_neg (show ¬ (false = true) by decide)] at H; exact H
                          clear H
                          have H := H1
                          clear H1
                          exact absurd ((Option.some.inj H).trans hrt.out) (by simp)
                      · rw [if_neg c41] at H
                        have c41b0 : (t3310 == t3314) = false := beq_eq_false_iff_ne.mpr c41
                        have c41b1 : (t3310 != t3314) = true := bne_iff_ne.mpr c41
                        exact absurd ((Option.some.inj H).trans hrt.out) (by simp)
                    · replace c40 := Bool.eq_false_iff.mpr c40
                      subst c40
                      have H1 : (some false) = some r := by rw [if_neg (show ¬ (false = true) by decide)] at H; exact H
                      clear H
                      have H := H1
                      clear H1
                      exact absurd ((Option.some.inj H).trans hrt.out) (by simp)
                  · rw [if_neg c38] at H
                    have c38b0 : (t3306 == t3308) = false := beq_eq_false_iff_ne.mpr c38
                    have c38b1 : (t3306 != t3308) = true := bne_iff_ne.mpr c38
                    exact absurd ((Option.some.inj H).trans hrt.out) (by simp)
                · rw [if_neg c37] at H
                  have c37b0 : (t3305.toList == t3307.toList) = false := beq_eq_false_iff_ne.mpr c37
                  have c37b1 : (t3305.toList != t3307.toList) = true := bne_iff_ne.mpr c37
                  exact absurd ((Option.some.inj H).trans hrt.out) (by simp)
              · replace c36 := Bool.eq_false_iff.mpr c36
                subst c36
                have H1 : (some false) = some r := by rw [if_neg (show ¬ (false = true) by decide)] at H; exact H
                clear H
                have H := H1
                clear H1
                exact absurd ((Option.some.inj H).trans hrt.out) (by simp)

/-- THE ONE PURE STATEMENT of caulklaw39_BitmapTells. -/
def caulklaw39_BitmapTells.Pure : Prop := ∀ (l0 : List Bool) (a1 : Int) (a2 : ByteArray) (l3 : List (S39)), (l0.length ≤ maxLen ∧ l0.length * 1 ≤ 140737488351232 ∧ ∀ z0 ∈ l0, True) → (Lit.int .i64 a1).wf = true → a2.size ≤ 140737488351232 → (l3.length ≤ maxLen ∧ l3.length * 16 ≤ 140737488351232 ∧ ∀ z0 ∈ l3, wf39 z0) → ∃ k, caulklaw39_BitmapTells.f k l0 a1 a2 l3 = some true
theorem caulklaw39_BitmapTells.walk (P : caulklaw39_BitmapTells.Pure) (A0 : Option Addr) (c0 : Nat) (l0 : List Bool) (a1 : Int) (a2 : ByteArray) (A3 : Option Addr) (c3 : Nat) (l3 : List (S39)) (w : World) (hr0 : Kd.C Kd.bool w A0 l0.length l0) (hc0 : l0.length ≤ c0) (hr3 : Kd.C k39 w A3 l3.length l3) (hc3 : l3.length ≤ c3) (hw0 : (l0.length ≤ maxLen ∧ l0.length * 1 ≤ 140737488351232 ∧ ∀ z0 ∈ l0, True)) (hw1 : (Lit.int .i64 a1).wf = true) (hw2 : a2.size ≤ 140737488351232) (hw3 : (l3.length ≤ maxLen ∧ l3.length * 16 ≤ 140737488351232 ∧ ∀ z0 ∈ l3, wf39 z0)) :
    Calls Try.prog 10 #[.slice A0 l0.length c0, .int .i64 a1, .string a2, .slice A3 l3.length c3] w fun e w' => e = .returned (.bool true) ∧ Below w.heap.size w w' := by
  obtain ⟨k, h⟩ := P l0 a1 a2 l3 hw0 hw1 hw2 hw3
  refine (caulklaw39_BitmapTells.calls k A0 c0 l0 a1 a2 A3 c3 l3 true w hr0 hc0 hr3 hc3 ⟨rfl⟩ h).mono ?_
  rintro e w' ⟨rfl, hd⟩
  exact ⟨rfl, hd⟩

/-! ### caulklaw39_BitmapBack: function 11 -/
def caulklaw39_BitmapBack.j0 : Nat → List Bool → Int → ByteArray → Bool → Option (Bool)
  | 0, _, _, _, _ => none
  | k + 1, x0, x1, x2, x26 => if x26 = true then (some true) else ((bitmap_Pack.f k x0).bind fun bt3336 => ((bitmap_Unpack.f k (x0.length : Int) bt3336.1).bind fun bt3338 => ((bitmap_Ranges.f k x0).bind fun t3342 => ((bitmap_Of.f k (x0.length : Int) t3342).bind fun bt3345 => ((bitmap_Unpack.f k x1 x2).bind fun bt3349 => ((bitmap_Pack.f k bt3349.1).bind fun bt3353 => (if bt3336.2 = 0 then (if bt3338.2 = 0 then ((caulkref12_Same.f k bt3338.1 x0).bind fun t3355 => (if t3355 = true then (if bt3345.2 = 0 then ((caulkref12_Same.f k bt3345.1 x0).bind fun t3356 => (if t3356 = true then (if bt3349.2 = 0 then (if bt3353.2 = 0 then (if bt3353.1.toList = x2.toList then (some ((bt3349.1.length : Int) == x1)) else (some false)) else (some false)) else (some true)) else (some false))) else (some false)) else (some false))) else (some false)) else (some false))))))))
def caulklaw39_BitmapBack.f (k : Nat) (l0 : List Bool) (a1 : Int) (a2 : ByteArray) : Option (Bool) := (caulklaw39_lives.f).bind fun t3335 => (if t3335 = true then (if (l0.length : Int) > 4096 then (caulklaw39_BitmapBack.j0 k l0 a1 a2 true) else (caulklaw39_BitmapBack.j0 k l0 a1 a2 (decide ((a2.size : Int) > 1024)))) else (some false))
theorem caulklaw39_BitmapBack.mono_l : ∀ k, (∀ y0 y1 y2 y3, LeO (caulklaw39_BitmapBack.j0 k y0 y1 y2 y3) (caulklaw39_BitmapBack.j0 (k + 1) y0 y1 y2 y3))
  | 0 => fun _ _ _ _ r h => by simp [caulklaw39_BitmapBack.j0] at h
  | k + 1 => by
    have ih0 := caulklaw39_BitmapBack.mono_l k
    · intro y0 y1 y2 y3
      unfold caulklaw39_BitmapBack.j0
      repeat' first
      | (with_reducible exact ih0 _ _ _ _)
      | (with_reducible exact bitmap_Of.mono _ _ _)
      | (with_reducible exact bitmap_Pack.mono _ _)
      | (with_reducible exact bitmap_Ranges.mono _ _)
      | (with_reducible exact bitmap_Unpack.mono _ _ _)
      | (with_reducible exact caulkref12_Same.mono _ _ _)
      | (with_reducible exact LeO.refl _)
      | (with_reducible exact LeO.none _)
      | (with_reducible refine LeO.ite ?_ ?_)
      | (with_reducible refine LeO.bind ?_ (fun _ => ?_))
      | exact ih0 _ _ _ _
      | exact bitmap_Of.mono _ _ _
      | exact bitmap_Pack.mono _ _
      | exact bitmap_Ranges.mono _ _
      | exact bitmap_Unpack.mono _ _ _
      | exact caulkref12_Same.mono _ _ _
      | exact LeO.none _
      | refine LeO.ite ?_ ?_
      | refine LeO.bind ?_ (fun _ => ?_)
theorem caulklaw39_BitmapBack.mono : ∀ a0 a1 a2 k, LeO (caulklaw39_BitmapBack.f k a0 a1 a2) (caulklaw39_BitmapBack.f (k + 1) a0 a1 a2) := by
  intro a0 a1 a2 k
  have ih0 := caulklaw39_BitmapBack.mono_l k
  unfold caulklaw39_BitmapBack.f
  repeat' first
      | (with_reducible exact ih0 _ _ _ _)
      | (with_reducible exact bitmap_Of.mono _ _ _)
      | (with_reducible exact bitmap_Pack.mono _ _)
      | (with_reducible exact bitmap_Ranges.mono _ _)
      | (with_reducible exact bitmap_Unpack.mono _ _ _)
      | (with_reducible exact caulkref12_Same.mono _ _ _)
      | (with_reducible exact LeO.refl _)
      | (with_reducible exact LeO.none _)
      | (with_reducible refine LeO.ite ?_ ?_)
      | (with_reducible refine LeO.bind ?_ (fun _ => ?_))
      | exact ih0 _ _ _ _
      | exact bitmap_Of.mono _ _ _
      | exact bitmap_Pack.mono _ _
      | exact bitmap_Ranges.mono _ _
      | exact bitmap_Unpack.mono _ _ _
      | exact caulkref12_Same.mono _ _ _
      | exact LeO.none _
      | refine LeO.ite ?_ ?_
      | refine LeO.bind ?_ (fun _ => ?_)
set_option maxHeartbeats 8000000 in
set_option maxRecDepth 100000 in
theorem caulklaw39_BitmapBack.calls (k : Nat) (A0 : Option Addr) (c0 : Nat) (l0 : List Bool) (a1 : Int) (a2 : ByteArray) (r : Bool) (w : World) (hr0 : Kd.C Kd.bool w A0 l0.length l0) (hc0 : l0.length ≤ c0) (hrt : Aside0 (r = true)) (h : caulklaw39_BitmapBack.f k l0 a1 a2 = some r) :
    Calls Try.prog 11 #[.slice A0 l0.length c0, .int .i64 a1, .string a2] w fun e w' => e = .returned (.bool r) ∧ Below w.heap.size w w' := by
  have HR0 := Aside0.mk hr0
  have HC0 := Aside0.mk hc0
  clear hr0 hc0
  have HB := Aside0.mk (Below.refl w.heap.size w)
  have H : ((caulklaw39_lives.f).bind fun t3335 => (if t3335 = true then (if (l0.length : Int) > 4096 then (caulklaw39_BitmapBack.j0 k l0 a1 a2 true) else (caulklaw39_BitmapBack.j0 k l0 a1 a2 (decide ((a2.size : Int) > 1024)))) else (some false))) = some r := h
  clear h
  replace H := Option.bind_eq_some_iff.mp H
  obtain ⟨t3335, A40, H⟩ := H
  replace H : (if t3335 = true then (if (l0.length : Int) > 4096 then (caulklaw39_BitmapBack.j0 k l0 a1 a2 true) else (caulklaw39_BitmapBack.j0 k l0 a1 a2 (decide ((a2.size : Int) > 1024)))) else (some false)) = some r := H
  have A4 := Aside0.mk A40
  clear A40
  by_cases c5 : t3335 = true
  · subst c5
    have H1 : (if (l0.length : Int) > 4096 then (caulklaw39_BitmapBack.j0 k l0 a1 a2 true) else (caulklaw39_BitmapBack.j0 k l0 a1 a2 (decide ((a2.size : Int) > 1024)))) = some r := by rw [if_pos rfl] at H; exact H
    clear H
    have H := H1
    clear H1
    have HC6 := Aside0.mk H
    clear H
    go_enter Try.func11, Try.ntmps11
    (try simp only [List.append_eq, List.cons_append, List.nil_append])
    go_upto_region 3 with (first | ((with_reducible refine gate_callee (f := 46) rfl ?_); refine goesL_ (some 17) rfl rfl Try.func46 (by kernel_rfl) rfl #[] rfl (by (try simp only [List.map_toArray, List.map_cons, List.map_nil]); first | done | rfl | (simp only [List.length_drop, List.length_take]; rfl)) ?_; (with_reducible refine (caulklaw39_lives.calls  true _ A4.out).mono ?_); rintro e w7 ⟨rfl, hb⟩; refine ⟨_, rfl, ?_⟩; have n0_ := Aside0.mk (below_step (by repeat (first | (with_reducible first | exact HB.out | apply below_alloc | apply pw_below_drewN | apply below_drew1) | exact HB.out)) hb); clear HB; have HB := n0_; clear n0_; (try clear hb); (try clear hb2); (try clear hk); (try clear hi)))
    (try simp only [Act.put, List.setIfInBounds_toArray, List.set_cons_zero, List.set_cons_succ])
    go_cut [26] (fun v26 wc => ∃ (kq : Nat) (x26_5 : Bool), v26 = .bool x26_5 ∧ Aside0 (caulklaw39_BitmapBack.j0 kq l0 a1 a2 x26_5 = some r) ∧ Aside0 (kq ≤ k) ∧ Aside0 (Below w.heap.size w wc))
    case first =>
      have H := HC6.out
      clear HC6
      by_cases c8 : (l0.length : Int) > 4096
      · rw [if_pos c8] at H
        have c8b0 : decide (4096 < (l0.length : Int)) = true := decide_eq_true c8
        have c8b1 : decide (4096 < l0.length) = true := decide_eq_true (by omega)
        clear c8
        (first | rw [c8b0] | (simp only [i64_w, i32_w]; rw [c8b0]) | skip)
        have H' := Aside0.mk H
        clear H
        go_wp2
        go_meet
        case rel => exact ⟨_, (true), (by first | rfl | (simp; done) | (simp [*]; done)), H', ⟨by first | omega | exact Nat.le_refl _⟩, ⟨by repeat (first | (with_reducible first | exact HB.out | apply below_alloc | apply pw_below_drewN | apply below_drew1) | exact HB.out)⟩⟩
      · rw [if_neg c8] at H
        have c8b0 : decide (4096 < (l0.length : Int)) = false := decide_eq_false c8
        have c8b1 : decide (4096 < l0.length) = false := decide_eq_false (by omega)
        clear c8
        (first | rw [c8b0] | (simp only [i64_w, i32_w]; rw [c8b0]) | skip)
        have H' := Aside0.mk H
        clear H
        go_wp2
        go_meet
        case rel => exact ⟨_, (decide ((a2.size : Int) > 1024)), (by first | rfl | (simp; done) | (simp [*]; done)), H', ⟨by first | omega | exact Nat.le_refl _⟩, ⟨by repeat (first | (with_reducible first | exact HB.out | apply below_alloc | apply pw_below_drewN | apply below_drew1) | exact HB.out)⟩⟩
    case rest =>
      clear HC6
      try clear c1
      try clear p2
      try clear c4
      try clear c5
      try clear c8
      try clear c8b0
      try clear c8b1
      obtain ⟨kq, x26_5, rfl, HA, HJ5, HB⟩ := hcut
      cases kq with
      | zero => exact absurd HA.out (by simp [caulklaw39_BitmapBack.j0])
      | succ kj5 =>
        have H := HA.out
        clear HA
        simp only [caulklaw39_BitmapBack.j0] at H
        by_cases c9 : x26_5 = true
        · subst c9
          have H1 : (some true) = some r := by rw [if_pos rfl] at H; exact H
          clear H
          have H := H1
          clear H1
          obtain rfl := Option.some.inj H
          go_wp2
          go_ret
          exact ⟨by first | rfl | (simp [errW_none, errW_some] <;> rfl) | (simp [*, errW_none, errW_some] <;> rfl), by repeat (first | (with_reducible first | exact HB.out | apply below_alloc | apply pw_below_drewN | apply below_drew1) | exact HB.out)⟩
        · replace c9 := Bool.eq_false_iff.mpr c9
          subst c9
          have H1 : ((bitmap_Pack.f kj5 l0).bind fun bt3336 => ((bitmap_Unpack.f kj5 (l0.length : Int) bt3336.1).bind fun bt3338 => ((bitmap_Ranges.f kj5 l0).bind fun t3342 => ((bitmap_Of.f kj5 (l0.length : Int) t3342).bind fun bt3345 => ((bitmap_Unpack.f kj5 a1 a2).bind fun bt3349 => ((bitmap_Pack.f kj5 bt3349.1).bind fun bt3353 => (if bt3336.2 = 0 then (if bt3338.2 = 0 then ((caulkref12_Same.f kj5 bt3338.1 l0).bind fun t3355 => (if t3355 = true then (if bt3345.2 = 0 then ((caulkref12_Same.f kj5 bt3345.1 l0).bind fun t3356 => (if t3356 = true then (if bt3349.2 = 0 then (if bt3353.2 = 0 then (if bt3353.1.toList = a2.toList then (some ((bt3349.1.length : Int) == a1)) else (some false)) else (some false)) else (some true)) else (some false))) else (some false)) else (some false))) else (some false)) else (some false)))))))) = some r := by rw [if_neg (show ¬ (false = true) by decide)] at H; exact H
          clear H
          have H := H1
          clear H1
          replace H := Option.bind_eq_some_iff.mp H
          obtain ⟨⟨t3336, t3337⟩, A100, H⟩ := H
          replace H : ((bitmap_Unpack.f kj5 (l0.length : Int) t3336).bind fun bt3338 => ((bitmap_Ranges.f kj5 l0).bind fun t3342 => ((bitmap_Of.f kj5 (l0.length : Int) t3342).bind fun bt3345 => ((bitmap_Unpack.f kj5 a1 a2).bind fun bt3349 => ((bitmap_Pack.f kj5 bt3349.1).bind fun bt3353 => (if t3337 = 0 then (if bt3338.2 = 0 then ((caulkref12_Same.f kj5 bt3338.1 l0).bind fun t3355 => (if t3355 = true then (if bt3345.2 = 0 then ((caulkref12_Same.f kj5 bt3345.1 l0).bind fun t3356 => (if t3356 = true then (if bt3349.2 = 0 then (if bt3353.2 = 0 then (if bt3353.1.toList = a2.toList then (some ((bt3349.1.length : Int) == a1)) else (some false)) else (some false)) else (some true)) else (some false))) else (some false)) else (some false))) else (some false)) else (some false))))))) = some r := H
          have A10 := Aside0.mk A100
          clear A100
          replace H := Option.bind_eq_some_iff.mp H
          obtain ⟨⟨t3338, t3339⟩, A110, H⟩ := H
          replace H : ((bitmap_Ranges.f kj5 l0).bind fun t3342 => ((bitmap_Of.f kj5 (l0.length : Int) t3342).bind fun bt3345 => ((bitmap_Unpack.f kj5 a1 a2).bind fun bt3349 => ((bitmap_Pack.f kj5 bt3349.1).bind fun bt3353 => (if t3337 = 0 then (if t3339 = 0 then ((caulkref12_Same.f kj5 t3338 l0).bind fun t3355 => (if t3355 = true then (if bt3345.2 = 0 then ((caulkref12_Same.f kj5 bt3345.1 l0).bind fun t3356 => (if t3356 = true then (if bt3349.2 = 0 then (if bt3353.2 = 0 then (if bt3353.1.toList = a2.toList then (some ((bt3349.1.length : Int) == a1)) else (some false)) else (some false)) else (some true)) else (some false))) else (some false)) else (some false))) else (some false)) else (some false)))))) = some r := H
          have A11 := Aside0.mk A110
          clear A110
          replace H := Option.bind_eq_some_iff.mp H
          obtain ⟨t3342, A120, H⟩ := H
          replace H : ((bitmap_Of.f kj5 (l0.length : Int) t3342).bind fun bt3345 => ((bitmap_Unpack.f kj5 a1 a2).bind fun bt3349 => ((bitmap_Pack.f kj5 bt3349.1).bind fun bt3353 => (if t3337 = 0 then (if t3339 = 0 then ((caulkref12_Same.f kj5 t3338 l0).bind fun t3355 => (if t3355 = true then (if bt3345.2 = 0 then ((caulkref12_Same.f kj5 bt3345.1 l0).bind fun t3356 => (if t3356 = true then (if bt3349.2 = 0 then (if bt3353.2 = 0 then (if bt3353.1.toList = a2.toList then (some ((bt3349.1.length : Int) == a1)) else (some false)) else (some false)) else (some true)) else (some false))) else (some false)) else (some false))) else (some false)) else (some false))))) = some r := H
          have A12 := Aside0.mk A120
          clear A120
          replace H := Option.bind_eq_some_iff.mp H
          obtain ⟨⟨t3345, t3346⟩, A130, H⟩ := H
          replace H : ((bitmap_Unpack.f kj5 a1 a2).bind fun bt3349 => ((bitmap_Pack.f kj5 bt3349.1).bind fun bt3353 => (if t3337 = 0 then (if t3339 = 0 then ((caulkref12_Same.f kj5 t3338 l0).bind fun t3355 => (if t3355 = true then (if t3346 = 0 then ((caulkref12_Same.f kj5 t3345 l0).bind fun t3356 => (if t3356 = true then (if bt3349.2 = 0 then (if bt3353.2 = 0 then (if bt3353.1.toList = a2.toList then (some ((bt3349.1.length : Int) == a1)) else (some false)) else (some false)) else (some true)) else (some false))) else (some false)) else (some false))) else (some false)) else (some false)))) = some r := H
          have A13 := Aside0.mk A130
          clear A130
          replace H := Option.bind_eq_some_iff.mp H
          obtain ⟨⟨t3349, t3350⟩, A140, H⟩ := H
          replace H : ((bitmap_Pack.f kj5 t3349).bind fun bt3353 => (if t3337 = 0 then (if t3339 = 0 then ((caulkref12_Same.f kj5 t3338 l0).bind fun t3355 => (if t3355 = true then (if t3346 = 0 then ((caulkref12_Same.f kj5 t3345 l0).bind fun t3356 => (if t3356 = true then (if t3350 = 0 then (if bt3353.2 = 0 then (if bt3353.1.toList = a2.toList then (some ((t3349.length : Int) == a1)) else (some false)) else (some false)) else (some true)) else (some false))) else (some false)) else (some false))) else (some false)) else (some false))) = some r := H
          have A14 := Aside0.mk A140
          clear A140
          replace H := Option.bind_eq_some_iff.mp H
          obtain ⟨⟨t3353, t3354⟩, A150, H⟩ := H
          replace H : (if t3337 = 0 then (if t3339 = 0 then ((caulkref12_Same.f kj5 t3338 l0).bind fun t3355 => (if t3355 = true then (if t3346 = 0 then ((caulkref12_Same.f kj5 t3345 l0).bind fun t3356 => (if t3356 = true then (if t3350 = 0 then (if t3354 = 0 then (if t3353.toList = a2.toList then (some ((t3349.length : Int) == a1)) else (some false)) else (some false)) else (some true)) else (some false))) else (some false)) else (some false))) else (some false)) else (some false)) = some r := H
          have A15 := Aside0.mk A150
          clear A150
          by_cases c16 : t3337 = 0
          · rw [if_pos c16] at H
            have c16b0 : (t3337 == 0) = true := beq_iff_eq.mpr c16
            have c16b1 : (t3337 != 0) = false := bne_eq_false_iff_eq.mpr c16
            clear c16
            by_cases c17 : t3339 = 0
            · rw [if_pos c17] at H
              have c17b0 : (t3339 == 0) = true := beq_iff_eq.mpr c17
              have c17b1 : (t3339 != 0) = false := bne_eq_false_iff_eq.mpr c17
              clear c17
              replace H := Option.bind_eq_some_iff.mp H
              obtain ⟨t3355, A180, H⟩ := H
              replace H : (if t3355 = true then (if t3346 = 0 then ((caulkref12_Same.f kj5 t3345 l0).bind fun t3356 => (if t3356 = true then (if t3350 = 0 then (if t3354 = 0 then (if t3353.toList = a2.toList then (some ((t3349.length : Int) == a1)) else (some false)) else (some false)) else (some true)) else (some false))) else (some false)) else (some false)) = some r := H
              have A18 := Aside0.mk A180
              clear A180
              by_cases c19 : t3355 = true
              · subst c19
                have H1 : (if t3346 = 0 then ((caulkref12_Same.f kj5 t3345 l0).bind fun t3356 => (if t3356 = true then (if t3350 = 0 then (if t3354 = 0 then (if t3353.toList = a2.toList then (some ((t3349.length : Int) == a1)) else (some false)) else (some false)) else (some true)) else (some false))) else (some false)) = some r := by rw [if_pos rfl] at H; exact H
                clear H
                have H := H1
                clear H1
                by_cases c20 : t3346 = 0
                · rw [if_pos c20] at H
                  have c20b0 : (t3346 == 0) = true := beq_iff_eq.mpr c20
                  have c20b1 : (t3346 != 0) = false := bne_eq_false_iff_eq.mpr c20
                  clear c20
                  replace H := Option.bind_eq_some_iff.mp H
                  obtain ⟨t3356, A210, H⟩ := H
                  replace H : (if t3356 = true then (if t3350 = 0 then (if t3354 = 0 then (if t3353.toList = a2.toList then (some ((t3349.length : Int) == a1)) else (some false)) else (some false)) else (some true)) else (some false)) = some r := H
                  have A21 := Aside0.mk A210
                  clear A210
                  by_cases c22 : t3356 = true
                  · subst c22
                    have H1 : (if t3350 = 0 then (if t3354 = 0 then (if t3353.toList = a2.toList then (some ((t3349.length : Int) == a1)) else (some false)) else (some false)) else (some true)) = some r := by rw [if_pos rfl] at H; exact H
                    clear H
                    have H := H1
                    clear H1
                    by_cases c23 : t3350 = 0
                    · rw [if_pos c23] at H
                      have c23b0 : (t3350 == 0) = true := beq_iff_eq.mpr c23
                      have c23b1 : (t3350 != 0) = false := bne_eq_false_iff_eq.mpr c23
                      clear c23
                      by_cases c24 : t3354 = 0
                      · rw [if_pos c24] at H
                        have c24b0 : (t3354 == 0) = true := beq_iff_eq.mpr c24
                        have c24b1 : (t3354 != 0) = false := bne_eq_false_iff_eq.mpr c24
                        clear c24
                        by_cases c25 : t3353.toList = a2.toList
                        · rw [if_pos c25] at H
                          have c25b0 : (t3353.toList == a2.toList) = true := beq_iff_eq.mpr c25
                          have c25b1 : (t3353.toList != a2.toList) = false := bne_eq_false_iff_eq.mpr c25
                          clear c25
                          obtain rfl := Option.some.inj H
                          go_wp2_with (first | ((with_reducible refine HOpen.gate_append ?_); simp only [List.cons_append, List.nil_append]) | ((with_reducible refine gate_callee (f := 47) rfl ?_); refine goesL_ (some 29) rfl rfl Try.func47 (by kernel_rfl) rfl #[.slice A0 l0.length c0] rfl (by (try simp only [List.map_toArray, List.map_cons, List.map_nil]); first | done | rfl | (simp only [List.length_drop, List.length_take]; rfl)) ?_; (with_reducible refine (bitmap_Pack.calls kj5 _ _ l0 t3336 t3337 _ ?side1 ?side2 A10.out).mono ?_); (case side1 => repeat (first | exact (Kd.C_below HR0.out HB.out) | (with_reducible refine Kd.C_alloc ?_ _) | (with_reducible refine Kd.C_drewN ?_ _) | (with_reducible refine Kd.C_drew ?_))); (case side2 => exact HC0.out); rintro e w26 ⟨rfl, hb⟩; refine ⟨_, rfl, ?_⟩; have n0_ := Aside0.mk (below_step (by repeat (first | (with_reducible first | exact HB.out | apply below_alloc | apply pw_below_drewN | apply below_drew1) | exact HB.out)) hb); clear HB; have HB := n0_; clear n0_; (try clear hb); (try clear hb2); (try clear hk); (try clear hi)) | ((with_reducible refine gate_callee (f := 49) rfl ?_); refine goesL_ (some 36) rfl rfl Try.func49 (by kernel_rfl) rfl #[.int .i64 (l0.length : Int), .string t3336] rfl (by (try simp only [List.map_toArray, List.map_cons, List.map_nil]); first | done | rfl | (simp only [List.length_drop, List.length_take]; rfl)) ?_; (with_reducible refine (bitmap_Unpack.calls kj5 (l0.length : Int) t3336 t3338 t3339 _ A11.out).mono ?_); rintro e w27 ⟨v3340, rfl, ho0, hb⟩; refine ⟨_, rfl, ?_⟩; have n0_ := Aside0.mk (Kd.R_lower ho0 (below_size (by repeat (first | (with_reducible first | exact HB.out | apply below_alloc | apply pw_below_drewN | apply below_drew1) | exact HB.out)))); have n1_ := Aside0.mk (below_step (by repeat (first | (with_reducible first | exact HB.out | apply below_alloc | apply pw_below_drewN | apply below_drew1) | exact HB.out)) hb); clear HB; have HO3341 := n0_; have HB := n1_; clear n0_ n1_; (try clear hb); (try clear hb2); (try clear hk); (try clear hi); (try clear ho0)) | ((with_reducible refine gate_callee (f := 53) rfl ?_); refine goesL_ (some 43) rfl rfl Try.func53 (by kernel_rfl) rfl #[.slice A0 l0.length c0] rfl (by (try simp only [List.map_toArray, List.map_cons, List.map_nil]); first | done | rfl | (simp only [List.length_drop, List.length_take]; rfl)) ?_; (with_reducible refine (bitmap_Ranges.calls kj5 _ _ l0 t3342 _ ?side1 ?side2 A12.out).mono ?_); (case side1 => repeat (first | exact (Kd.C_below HR0.out HB.out) | (with_reducible refine Kd.C_alloc ?_ _) | (with_reducible refine Kd.C_drewN ?_ _) | (with_reducible refine Kd.C_drew ?_))); (case side2 => exact HC0.out); rintro e w28 ⟨v3343, rfl, ho0, hb⟩; refine ⟨_, rfl, ?_⟩; have n0_ := Aside0.mk (Kd.R_below (by (with_reducible repeat (first | apply Kd.R_alloc | apply Kd.R_drewN | apply Kd.R_drew)); exact HO3341.out) hb); have n1_ := Aside0.mk (Kd.R_lower ho0 (below_size (by repeat (first | (with_reducible first | exact HB.out | apply below_alloc | apply pw_below_drewN | apply below_drew1) | exact HB.out)))); have n2_ := Aside0.mk (below_step (by repeat (first | (with_reducible first | exact HB.out | apply below_alloc | apply pw_below_drewN | apply below_drew1) | exact HB.out)) hb); clear HO3341; clear HB; have HO3341 := n0_; have HO3344 := n1_; have HB := n2_; clear n0_ n1_ n2_; (try clear hb); (try clear hb2); (try clear hk); (try clear hi); (try clear ho0); obtain ⟨Ao29, co29, eo29⟩ := Kd.R_slice HO3344.out; subst eo29) | ((with_reducible refine gate_callee (f := 51) rfl ?_); refine goesL_ (some 44) rfl rfl Try.func51 (by kernel_rfl) rfl #[.int .i64 (l0.length : Int), .slice Ao29 t3342.length co29] rfl (by (try simp only [List.map_toArray, List.map_cons, List.map_nil]); first | done | rfl | (simp only [List.length_drop, List.length_take]; rfl)) ?_; (with_reducible refine (bitmap_Of.calls kj5 (l0.length : Int) _ _ t3342 t3345 t3346 _ ?side1 ?side2 A13.out).mono ?_); (case side1 => repeat (first | exact (Kd.R_reads' HO3344.out).2.2 | (with_reducible refine Kd.C_alloc ?_ _) | (with_reducible refine Kd.C_drewN ?_ _) | (with_reducible refine Kd.C_drew ?_))); (case side2 => exact (Kd.R_reads' HO3344.out).2.1); rintro e w30 ⟨v3347, rfl, ho0, hb⟩; refine ⟨_, rfl, ?_⟩; have n0_ := Aside0.mk (Kd.R_elder' (by (with_reducible repeat (first | apply Kd.R_alloc | apply Kd.R_drewN | apply Kd.R_drew)); exact HO3341.out) (Kd.R_base ho0) hb); have n1_ := Aside0.mk (Kd.R_below (by (with_reducible repeat (first | apply Kd.R_alloc | apply Kd.R_drewN | apply Kd.R_drew)); exact HO3344.out) hb); have n2_ := Aside0.mk (Kd.R_lower (Kd.R_new' ho0 (Kd.R_lt (by (with_reducible repeat (first | apply Kd.R_alloc | apply Kd.R_drewN | apply Kd.R_drew)); exact HO3341.out))) (below_size (by repeat (first | (with_reducible first | exact HB.out | apply below_alloc | apply pw_below_drewN | apply below_drew1) | exact HB.out)))); have n3_ := Aside0.mk (below_step (by repeat (first | (with_reducible first | exact HB.out | apply below_alloc | apply pw_below_drewN | apply below_drew1) | exact HB.out)) hb); clear HO3341; clear HO3344; clear HB; have HO3341 := n0_; have HO3344 := n1_; have HO3348 := n2_; have HB := n3_; clear n0_ n1_ n2_ n3_; (try clear hb); (try clear hb2); (try clear hk); (try clear hi); (try clear ho0)) | ((with_reducible refine gate_callee (f := 49) rfl ?_); refine goesL_ (some 50) rfl rfl Try.func49 (by kernel_rfl) rfl #[.int .i64 a1, .string a2] rfl (by (try simp only [List.map_toArray, List.map_cons, List.map_nil]); first | done | rfl | (simp only [List.length_drop, List.length_take]; rfl)) ?_; (with_reducible refine (bitmap_Unpack.calls kj5 a1 a2 t3349 t3350 _ A14.out).mono ?_); rintro e w31 ⟨v3351, rfl, ho0, hb⟩; refine ⟨_, rfl, ?_⟩; have n0_ := Aside0.mk (Kd.R_elder' (by (with_reducible repeat (first | apply Kd.R_alloc | apply Kd.R_drewN | apply Kd.R_drew)); exact HO3341.out) (Kd.R_base ho0) hb); have n1_ := Aside0.mk (Kd.R_below (by (with_reducible repeat (first | apply Kd.R_alloc | apply Kd.R_drewN | apply Kd.R_drew)); exact HO3344.out) hb); have n2_ := Aside0.mk (Kd.R_elder' (by (with_reducible repeat (first | apply Kd.R_alloc | apply Kd.R_drewN | apply Kd.R_drew)); exact HO3348.out) (Kd.R_base ho0) hb); have n3_ := Aside0.mk (Kd.R_lower (Kd.R_new' (Kd.R_new' ho0 (Kd.R_lt (by (with_reducible repeat (first | apply Kd.R_alloc | apply Kd.R_drewN | apply Kd.R_drew)); exact HO3341.out))) (Kd.R_lt (by (with_reducible repeat (first | apply Kd.R_alloc | apply Kd.R_drewN | apply Kd.R_drew)); exact HO3348.out))) (below_size (by repeat (first | (with_reducible first | exact HB.out | apply below_alloc | apply pw_below_drewN | apply below_drew1) | exact HB.out)))); have n4_ := Aside0.mk (below_step (by repeat (first | (with_reducible first | exact HB.out | apply below_alloc | apply pw_below_drewN | apply below_drew1) | exact HB.out)) hb); clear HO3341; clear HO3344; clear HO3348; clear HB; have HO3341 := n0_; have HO3344 := n1_; have HO3348 := n2_; have HO3352 := n3_; have HB := n4_; clear n0_ n1_ n2_ n3_ n4_; (try clear hb); (try clear hb2); (try clear hk); (try clear hi); (try clear ho0); obtain ⟨Ao32, co32, eo32⟩ := Kd.R_slice HO3352.out; subst eo32) | ((with_reducible refine gate_callee (f := 47) rfl ?_); refine goesL_ (some 55) rfl rfl Try.func47 (by kernel_rfl) rfl #[.slice Ao32 t3349.length co32] rfl (by (try simp only [List.map_toArray, List.map_cons, List.map_nil]); first | done | rfl | (simp only [List.length_drop, List.length_take]; rfl)) ?_; (with_reducible refine (bitmap_Pack.calls kj5 _ _ t3349 t3353 t3354 _ ?side1 ?side2 A15.out).mono ?_); (case side1 => repeat (first | exact (Kd.R_reads' HO3352.out).2.2 | (with_reducible refine Kd.C_alloc ?_ _) | (with_reducible refine Kd.C_drewN ?_ _) | (with_reducible refine Kd.C_drew ?_))); (case side2 => exact (Kd.R_reads' HO3352.out).2.1); rintro e w33 ⟨rfl, hb⟩; refine ⟨_, rfl, ?_⟩; have n0_ := Aside0.mk (Kd.R_below (by (with_reducible repeat (first | apply Kd.R_alloc | apply Kd.R_drewN | apply Kd.R_drew)); exact HO3341.out) hb); have n1_ := Aside0.mk (Kd.R_below (by (with_reducible repeat (first | apply Kd.R_alloc | apply Kd.R_drewN | apply Kd.R_drew)); exact HO3344.out) hb); have n2_ := Aside0.mk (Kd.R_below (by (with_reducible repeat (first | apply Kd.R_alloc | apply Kd.R_drewN | apply Kd.R_drew)); exact HO3348.out) hb); have n3_ := Aside0.mk (Kd.R_below (by (with_reducible repeat (first | apply Kd.R_alloc | apply Kd.R_drewN | apply Kd.R_drew)); exact HO3352.out) hb); have n4_ := Aside0.mk (below_step (by repeat (first | (with_reducible first | exact HB.out | apply below_alloc | apply pw_below_drewN | apply below_drew1) | exact HB.out)) hb); clear HO3341; clear HO3344; clear HO3348; clear HO3352; clear HB; have HO3341 := n0_; have HO3344 := n1_; have HO3348 := n2_; have HO3352 := n3_; have HB := n4_; clear n0_ n1_ n2_ n3_ n4_; (try clear hb); (try clear hb2); (try clear hk); (try clear hi); obtain ⟨Ao34, co34, eo34⟩ := Kd.R_slice HO3341.out; subst eo34) | ((with_reducible refine gate_callee (f := 55) rfl ?_); (try (refine gate_guard (by rfl) ?_; dsimp only)); refine goesL_ (some 67) rfl rfl Try.func55 (by kernel_rfl) rfl #[.slice Ao34 t3338.length co34, .slice A0 l0.length c0] rfl (by (try simp only [List.map_toArray, List.map_cons, List.map_nil]); first | done | rfl | (simp only [List.length_drop, List.length_take]; rfl)) ?_; (with_reducible refine (caulkref12_Same.calls kj5 _ _ t3338 _ _ l0 true _ ?side1 ?side2 ?side3 ?side4 A18.out).mono ?_); (case side1 => repeat (first | exact (Kd.R_reads' HO3341.out).2.2 | (with_reducible refine Kd.C_alloc ?_ _) | (with_reducible refine Kd.C_drewN ?_ _) | (with_reducible refine Kd.C_drew ?_))); (case side2 => exact (Kd.R_reads' HO3341.out).2.1); (case side3 => repeat (first | exact (Kd.C_below HR0.out HB.out) | (with_reducible refine Kd.C_alloc ?_ _) | (with_reducible refine Kd.C_drewN ?_ _) | (with_reducible refine Kd.C_drew ?_))); (case side4 => exact HC0.out); rintro e w' ⟨rfl, ⟨nd, rfl⟩⟩; refine ⟨_, rfl, ?_⟩; obtain ⟨Ao35, co35, eo35⟩ := Kd.R_slice HO3348.out; subst eo35) | ((with_reducible refine gate_callee (f := 55) rfl ?_); (try (refine gate_guard (by rfl) ?_; dsimp only)); refine goesL_ (some 76) rfl rfl Try.func55 (by kernel_rfl) rfl #[.slice Ao35 t3345.length co35, .slice A0 l0.length c0] rfl (by (try simp only [List.map_toArray, List.map_cons, List.map_nil]); first | done | rfl | (simp only [List.length_drop, List.length_take]; rfl)) ?_; (with_reducible refine (caulkref12_Same.calls kj5 _ _ t3345 _ _ l0 true _ ?side1 ?side2 ?side3 ?side4 A21.out).mono ?_); (case side1 => repeat (first | exact (Kd.R_reads' HO3348.out).2.2 | (with_reducible refine Kd.C_alloc ?_ _) | (with_reducible refine Kd.C_drewN ?_ _) | (with_reducible refine Kd.C_drew ?_))); (case side2 => exact (Kd.R_reads' HO3348.out).2.1); (case side3 => repeat (first | exact (Kd.C_below HR0.out (by repeat (first | (with_reducible first | exact HB.out | apply below_alloc | apply pw_below_drewN | apply below_drew1) | exact HB.out))) | (with_reducible refine Kd.C_alloc ?_ _) | (with_reducible refine Kd.C_drewN ?_ _) | (with_reducible refine Kd.C_drew ?_))); (case side4 => exact HC0.out); rintro e w' ⟨rfl, ⟨nd, rfl⟩⟩; refine ⟨_, rfl, ?_⟩))
                          go_ret
                          exact ⟨by first | rfl | (simp [errW_none, errW_some] <;> rfl) | (simp [*, errW_none, errW_some] <;> rfl), by repeat (first | (with_reducible first | exact HB.out | apply below_alloc | apply pw_below_drewN | apply below_drew1) | exact HB.out)⟩
                        · rw [if_neg c25] at H
                          have c25b0 : (t3353.toList == a2.toList) = false := beq_eq_false_iff_ne.mpr c25
                          have c25b1 : (t3353.toList != a2.toList) = true := bne_iff_ne.mpr c25
                          exact absurd ((Option.some.inj H).trans hrt.out) (by simp)
                      · rw [if_neg c24] at H
                        have c24b0 : (t3354 == 0) = false := beq_eq_false_iff_ne.mpr c24
                        have c24b1 : (t3354 != 0) = true := bne_iff_ne.mpr c24
                        exact absurd ((Option.some.inj H).trans hrt.out) (by simp)
                    · rw [if_neg c23] at H
                      have c23b0 : (t3350 == 0) = false := beq_eq_false_iff_ne.mpr c23
                      have c23b1 : (t3350 != 0) = true := bne_iff_ne.mpr c23
                      obtain rfl := Option.some.inj H
                      go_wp2_with (first | ((with_reducible refine HOpen.gate_append ?_); simp only [List.cons_append, List.nil_append]) | ((with_reducible refine gate_callee (f := 47) rfl ?_); refine goesL_ (some 29) rfl rfl Try.func47 (by kernel_rfl) rfl #[.slice A0 l0.length c0] rfl (by (try simp only [List.map_toArray, List.map_cons, List.map_nil]); first | done | rfl | (simp only [List.length_drop, List.length_take]; rfl)) ?_; (with_reducible refine (bitmap_Pack.calls kj5 _ _ l0 t3336 t3337 _ ?side1 ?side2 A10.out).mono ?_); (case side1 => repeat (first | exact (Kd.C_below HR0.out HB.out) | (with_reducible refine Kd.C_alloc ?_ _) | (with_reducible refine Kd.C_drewN ?_ _) | (with_reducible refine Kd.C_drew ?_))); (case side2 => exact HC0.out); rintro e w36 ⟨rfl, hb⟩; refine ⟨_, rfl, ?_⟩; have n0_ := Aside0.mk (below_step (by repeat (first | (with_reducible first | exact HB.out | apply below_alloc | apply pw_below_drewN | apply below_drew1) | exact HB.out)) hb); clear HB; have HB := n0_; clear n0_; (try clear hb); (try clear hb2); (try clear hk); (try clear hi)) | ((with_reducible refine gate_callee (f := 49) rfl ?_); refine goesL_ (some 36) rfl rfl Try.func49 (by kernel_rfl) rfl #[.int .i64 (l0.length : Int), .string t3336] rfl (by (try simp only [List.map_toArray, List.map_cons, List.map_nil]); first | done | rfl | (simp only [List.length_drop, List.length_take]; rfl)) ?_; (with_reducible refine (bitmap_Unpack.calls kj5 (l0.length : Int) t3336 t3338 t3339 _ A11.out).mono ?_); rintro e w37 ⟨v3340, rfl, ho0, hb⟩; refine ⟨_, rfl, ?_⟩; have n0_ := Aside0.mk (Kd.R_lower ho0 (below_size (by repeat (first | (with_reducible first | exact HB.out | apply below_alloc | apply pw_below_drewN | apply below_drew1) | exact HB.out)))); have n1_ := Aside0.mk (below_step (by repeat (first | (with_reducible first | exact HB.out | apply below_alloc | apply pw_below_drewN | apply below_drew1) | exact HB.out)) hb); clear HB; have HO3341 := n0_; have HB := n1_; clear n0_ n1_; (try clear hb); (try clear hb2); (try clear hk); (try clear hi); (try clear ho0)) | ((with_reducible refine gate_callee (f := 53) rfl ?_); refine goesL_ (some 43) rfl rfl Try.func53 (by kernel_rfl) rfl #[.slice A0 l0.length c0] rfl (by (try simp only [List.map_toArray, List.map_cons, List.map_nil]); first | done | rfl | (simp only [List.length_drop, List.length_take]; rfl)) ?_; (with_reducible refine (bitmap_Ranges.calls kj5 _ _ l0 t3342 _ ?side1 ?side2 A12.out).mono ?_); (case side1 => repeat (first | exact (Kd.C_below HR0.out HB.out) | (with_reducible refine Kd.C_alloc ?_ _) | (with_reducible refine Kd.C_drewN ?_ _) | (with_reducible refine Kd.C_drew ?_))); (case side2 => exact HC0.out); rintro e w38 ⟨v3343, rfl, ho0, hb⟩; refine ⟨_, rfl, ?_⟩; have n0_ := Aside0.mk (Kd.R_below (by (with_reducible repeat (first | apply Kd.R_alloc | apply Kd.R_drewN | apply Kd.R_drew)); exact HO3341.out) hb); have n1_ := Aside0.mk (Kd.R_lower ho0 (below_size (by repeat (first | (with_reducible first | exact HB.out | apply below_alloc | apply pw_below_drewN | apply below_drew1) | exact HB.out)))); have n2_ := Aside0.mk (below_step (by repeat (first | (with_reducible first | exact HB.out | apply below_alloc | apply pw_below_drewN | apply below_drew1) | exact HB.out)) hb); clear HO3341; clear HB; have HO3341 := n0_; have HO3344 := n1_; have HB := n2_; clear n0_ n1_ n2_; (try clear hb); (try clear hb2); (try clear hk); (try clear hi); (try clear ho0); obtain ⟨Ao39, co39, eo39⟩ := Kd.R_slice HO3344.out; subst eo39) | ((with_reducible refine gate_callee (f := 51) rfl ?_); refine goesL_ (some 44) rfl rfl Try.func51 (by kernel_rfl) rfl #[.int .i64 (l0.length : Int), .slice Ao39 t3342.length co39] rfl (by (try simp only [List.map_toArray, List.map_cons, List.map_nil]); first | done | rfl | (simp only [List.length_drop, List.length_take]; rfl)) ?_; (with_reducible refine (bitmap_Of.calls kj5 (l0.length : Int) _ _ t3342 t3345 t3346 _ ?side1 ?side2 A13.out).mono ?_); (case side1 => repeat (first | exact (Kd.R_reads' HO3344.out).2.2 | (with_reducible refine Kd.C_alloc ?_ _) | (with_reducible refine Kd.C_drewN ?_ _) | (with_reducible refine Kd.C_drew ?_))); (case side2 => exact (Kd.R_reads' HO3344.out).2.1); rintro e w40 ⟨v3347, rfl, ho0, hb⟩; refine ⟨_, rfl, ?_⟩; have n0_ := Aside0.mk (Kd.R_elder' (by (with_reducible repeat (first | apply Kd.R_alloc | apply Kd.R_drewN | apply Kd.R_drew)); exact HO3341.out) (Kd.R_base ho0) hb); have n1_ := Aside0.mk (Kd.R_below (by (with_reducible repeat (first | apply Kd.R_alloc | apply Kd.R_drewN | apply Kd.R_drew)); exact HO3344.out) hb); have n2_ := Aside0.mk (Kd.R_lower (Kd.R_new' ho0 (Kd.R_lt (by (with_reducible repeat (first | apply Kd.R_alloc | apply Kd.R_drewN | apply Kd.R_drew)); exact HO3341.out))) (below_size (by repeat (first | (with_reducible first | exact HB.out | apply below_alloc | apply pw_below_drewN | apply below_drew1) | exact HB.out)))); have n3_ := Aside0.mk (below_step (by repeat (first | (with_reducible first | exact HB.out | apply below_alloc | apply pw_below_drewN | apply below_drew1) | exact HB.out)) hb); clear HO3341; clear HO3344; clear HB; have HO3341 := n0_; have HO3344 := n1_; have HO3348 := n2_; have HB := n3_; clear n0_ n1_ n2_ n3_; (try clear hb); (try clear hb2); (try clear hk); (try clear hi); (try clear ho0)) | ((with_reducible refine gate_callee (f := 49) rfl ?_); refine goesL_ (some 50) rfl rfl Try.func49 (by kernel_rfl) rfl #[.int .i64 a1, .string a2] rfl (by (try simp only [List.map_toArray, List.map_cons, List.map_nil]); first | done | rfl | (simp only [List.length_drop, List.length_take]; rfl)) ?_; (with_reducible refine (bitmap_Unpack.calls kj5 a1 a2 t3349 t3350 _ A14.out).mono ?_); rintro e w41 ⟨v3351, rfl, ho0, hb⟩; refine ⟨_, rfl, ?_⟩; have n0_ := Aside0.mk (Kd.R_elder' (by (with_reducible repeat (first | apply Kd.R_alloc | apply Kd.R_drewN | apply Kd.R_drew)); exact HO3341.out) (Kd.R_base ho0) hb); have n1_ := Aside0.mk (Kd.R_below (by (with_reducible repeat (first | apply Kd.R_alloc | apply Kd.R_drewN | apply Kd.R_drew)); exact HO3344.out) hb); have n2_ := Aside0.mk (Kd.R_elder' (by (with_reducible repeat (first | apply Kd.R_alloc | apply Kd.R_drewN | apply Kd.R_drew)); exact HO3348.out) (Kd.R_base ho0) hb); have n3_ := Aside0.mk (Kd.R_lower (Kd.R_new' (Kd.R_new' ho0 (Kd.R_lt (by (with_reducible repeat (first | apply Kd.R_alloc | apply Kd.R_drewN | apply Kd.R_drew)); exact HO3341.out))) (Kd.R_lt (by (with_reducible repeat (first | apply Kd.R_alloc | apply Kd.R_drewN | apply Kd.R_drew)); exact HO3348.out))) (below_size (by repeat (first | (with_reducible first | exact HB.out | apply below_alloc | apply pw_below_drewN | apply below_drew1) | exact HB.out)))); have n4_ := Aside0.mk (below_step (by repeat (first | (with_reducible first | exact HB.out | apply below_alloc | apply pw_below_drewN | apply below_drew1) | exact HB.out)) hb); clear HO3341; clear HO3344; clear HO3348; clear HB; have HO3341 := n0_; have HO3344 := n1_; have HO3348 := n2_; have HO3352 := n3_; have HB := n4_; clear n0_ n1_ n2_ n3_ n4_; (try clear hb); (try clear hb2); (try clear hk); (try clear hi); (try clear ho0); obtain ⟨Ao42, co42, eo42⟩ := Kd.R_slice HO3352.out; subst eo42) | ((with_reducible refine gate_callee (f := 47) rfl ?_); refine goesL_ (some 55) rfl rfl Try.func47 (by kernel_rfl) rfl #[.slice Ao42 t3349.length co42] rfl (by (try simp only [List.map_toArray, List.map_cons, List.map_nil]); first | done | rfl | (simp only [List.length_drop, List.length_take]; rfl)) ?_; (with_reducible refine (bitmap_Pack.calls kj5 _ _ t3349 t3353 t3354 _ ?side1 ?side2 A15.out).mono ?_); (case side1 => repeat (first | exact (Kd.R_reads' HO3352.out).2.2 | (with_reducible refine Kd.C_alloc ?_ _) | (with_reducible refine Kd.C_drewN ?_ _) | (with_reducible refine Kd.C_drew ?_))); (case side2 => exact (Kd.R_reads' HO3352.out).2.1); rintro e w43 ⟨rfl, hb⟩; refine ⟨_, rfl, ?_⟩; have n0_ := Aside0.mk (Kd.R_below (by (with_reducible repeat (first | apply Kd.R_alloc | apply Kd.R_drewN | apply Kd.R_drew)); exact HO3341.out) hb); have n1_ := Aside0.mk (Kd.R_below (by (with_reducible repeat (first | apply Kd.R_alloc | apply Kd.R_drewN | apply Kd.R_drew)); exact HO3344.out) hb); have n2_ := Aside0.mk (Kd.R_below (by (with_reducible repeat (first | apply Kd.R_alloc | apply Kd.R_drewN | apply Kd.R_drew)); exact HO3348.out) hb); have n3_ := Aside0.mk (Kd.R_below (by (with_reducible repeat (first | apply Kd.R_alloc | apply Kd.R_drewN | apply Kd.R_drew)); exact HO3352.out) hb); have n4_ := Aside0.mk (below_step (by repeat (first | (with_reducible first | exact HB.out | apply below_alloc | apply pw_below_drewN | apply below_drew1) | exact HB.out)) hb); clear HO3341; clear HO3344; clear HO3348; clear HO3352; clear HB; have HO3341 := n0_; have HO3344 := n1_; have HO3348 := n2_; have HO3352 := n3_; have HB := n4_; clear n0_ n1_ n2_ n3_ n4_; (try clear hb); (try clear hb2); (try clear hk); (try clear hi); obtain ⟨Ao44, co44, eo44⟩ := Kd.R_slice HO3341.out; subst eo44) | ((with_reducible refine gate_callee (f := 55) rfl ?_); (try (refine gate_guard (by rfl) ?_; dsimp only)); refine goesL_ (some 67) rfl rfl Try.func55 (by kernel_rfl) rfl #[.slice Ao44 t3338.length co44, .slice A0 l0.length c0] rfl (by (try simp only [List.map_toArray, List.map_cons, List.map_nil]); first | done | rfl | (simp only [List.length_drop, List.length_take]; rfl)) ?_; (with_reducible refine (caulkref12_Same.calls kj5 _ _ t3338 _ _ l0 true _ ?side1 ?side2 ?side3 ?side4 A18.out).mono ?_); (case side1 => repeat (first | exact (Kd.R_reads' HO3341.out).2.2 | (with_reducible refine Kd.C_alloc ?_ _) | (with_reducible refine Kd.C_drewN ?_ _) | (with_reducible refine Kd.C_drew ?_))); (case side2 => exact (Kd.R_reads' HO3341.out).2.1); (case side3 => repeat (first | exact (Kd.C_below HR0.out HB.out) | (with_reducible refine Kd.C_alloc ?_ _) | (with_reducible refine Kd.C_drewN ?_ _) | (with_reducible refine Kd.C_drew ?_))); (case side4 => exact HC0.out); rintro e w' ⟨rfl, ⟨nd, rfl⟩⟩; refine ⟨_, rfl, ?_⟩; obtain ⟨Ao45, co45, eo45⟩ := Kd.R_slice HO3348.out; subst eo45) | ((with_reducible refine gate_callee (f := 55) rfl ?_); (try (refine gate_guard (by rfl) ?_; dsimp only)); refine goesL_ (some 76) rfl rfl Try.func55 (by kernel_rfl) rfl #[.slice Ao45 t3345.length co45, .slice A0 l0.length c0] rfl (by (try simp only [List.map_toArray, List.map_cons, List.map_nil]); first | done | rfl | (simp only [List.length_drop, List.length_take]; rfl)) ?_; (with_reducible refine (caulkref12_Same.calls kj5 _ _ t3345 _ _ l0 true _ ?side1 ?side2 ?side3 ?side4 A21.out).mono ?_); (case side1 => repeat (first | exact (Kd.R_reads' HO3348.out).2.2 | (with_reducible refine Kd.C_alloc ?_ _) | (with_reducible refine Kd.C_drewN ?_ _) | (with_reducible refine Kd.C_drew ?_))); (case side2 => exact (Kd.R_reads' HO3348.out).2.1); (case side3 => repeat (first | exact (Kd.C_below HR0.out (by repeat (first | (with_reducible first | exact HB.out | apply below_alloc | apply pw_below_drewN | apply below_drew1) | exact HB.out))) | (with_reducible refine Kd.C_alloc ?_ _) | (with_reducible refine Kd.C_drewN ?_ _) | (with_reducible refine Kd.C_drew ?_))); (case side4 => exact HC0.out); rintro e w' ⟨rfl, ⟨nd, rfl⟩⟩; refine ⟨_, rfl, ?_⟩))
                      go_ret
                      exact ⟨by first | rfl | (simp [errW_none, errW_some] <;> rfl) | (simp [*, errW_none, errW_some] <;> rfl), by repeat (first | (with_reducible first | exact HB.out | apply below_alloc | apply pw_below_drewN | apply below_drew1) | exact HB.out)⟩
                  · replace c22 := Bool.eq_false_iff.mpr c22
                    subst c22
                    have H1 : (some false) = some r := by rw [if_neg (show ¬ (false = true) by decide)] at H; exact H
                    clear H
                    have H := H1
                    clear H1
                    exact absurd ((Option.some.inj H).trans hrt.out) (by simp)
                · rw [if_neg c20] at H
                  have c20b0 : (t3346 == 0) = false := beq_eq_false_iff_ne.mpr c20
                  have c20b1 : (t3346 != 0) = true := bne_iff_ne.mpr c20
                  exact absurd ((Option.some.inj H).trans hrt.out) (by simp)
              · replace c19 := Bool.eq_false_iff.mpr c19
                subst c19
                have H1 : (some false) = some r := by rw [if_neg (show ¬ (false = true) by decide)] at H; exact H
                clear H
                have H := H1
                clear H1
                exact absurd ((Option.some.inj H).trans hrt.out) (by simp)
            · rw [if_neg c17] at H
              have c17b0 : (t3339 == 0) = false := beq_eq_false_iff_ne.mpr c17
              have c17b1 : (t3339 != 0) = true := bne_iff_ne.mpr c17
              exact absurd ((Option.some.inj H).trans hrt.out) (by simp)
          · rw [if_neg c16] at H
            have c16b0 : (t3337 == 0) = false := beq_eq_false_iff_ne.mpr c16
            have c16b1 : (t3337 != 0) = true := bne_iff_ne.mpr c16
            exact absurd ((Option.some.inj H).trans hrt.out) (by simp)
  · replace c5 := Bool.eq_false_iff.mpr c5
    subst c5
    have H1 : (some false) = some r := by rw [if_neg (show ¬ (false = true) by decide)] at H; exact H
    clear H
    have H := H1
    clear H1
    exact absurd ((Option.some.inj H).trans hrt.out) (by simp)

/-- THE ONE PURE STATEMENT of caulklaw39_BitmapBack. -/
def caulklaw39_BitmapBack.Pure : Prop := ∀ (l0 : List Bool) (a1 : Int) (a2 : ByteArray), (l0.length ≤ maxLen ∧ l0.length * 1 ≤ 140737488351232 ∧ ∀ z0 ∈ l0, True) → (Lit.int .i64 a1).wf = true → a2.size ≤ 140737488351232 → ∃ k, caulklaw39_BitmapBack.f k l0 a1 a2 = some true
theorem caulklaw39_BitmapBack.walk (P : caulklaw39_BitmapBack.Pure) (A0 : Option Addr) (c0 : Nat) (l0 : List Bool) (a1 : Int) (a2 : ByteArray) (w : World) (hr0 : Kd.C Kd.bool w A0 l0.length l0) (hc0 : l0.length ≤ c0) (hw0 : (l0.length ≤ maxLen ∧ l0.length * 1 ≤ 140737488351232 ∧ ∀ z0 ∈ l0, True)) (hw1 : (Lit.int .i64 a1).wf = true) (hw2 : a2.size ≤ 140737488351232) :
    Calls Try.prog 11 #[.slice A0 l0.length c0, .int .i64 a1, .string a2] w fun e w' => e = .returned (.bool true) ∧ Below w.heap.size w w' := by
  obtain ⟨k, h⟩ := P l0 a1 a2 hw0 hw1 hw2
  refine (caulklaw39_BitmapBack.calls k A0 c0 l0 a1 a2 true w hr0 hc0 ⟨rfl⟩ h).mono ?_
  rintro e w' ⟨rfl, hd⟩
  exact ⟨rfl, hd⟩

end Go.Proofs.Ytgahpdoiddhdaaa.HBitmap
