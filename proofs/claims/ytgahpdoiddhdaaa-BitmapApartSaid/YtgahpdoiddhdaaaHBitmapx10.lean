-- WRITTEN BY wip/hyb.py, a program of this workplace (out of the kit's printer and this workplace's own contracts).
import Derived.Test.YtgahpdoiddhdaaaHBitmapx0
import Derived.Test.YtgahpdoiddhdaaaHBitmapx4
import Derived.Test.YtgahpdoiddhdaaaHBitmapx5
import Derived.Test.YtgahpdoiddhdaaaHBitmapx9
namespace Go.Proofs.Ytgahpdoiddhdaaa.HBitmap
open Go.RowKit Go.Proofs.YtgahpdoiddhdaaaW.PrintWords Go.Proofs.YtgahpdoiddhdaaaW.PrintLast Go.Proofs.YtgahpdoiddhdaaaW.PrintMore
attribute [local go_sem] max2_int min2_int max_two min_two max_three min_three max_four min_four   -- for this text's walks alone
set_option linter.unusedVariables false
set_option linter.unusedSimpArgs false

/-! ### caulklaw39_BitmapApart: function 12 -/
mutual
def caulklaw39_BitmapApart.j0 : Nat → List Bool → List Bool → Bool → Option (Bool)
  | 0, _, _, _ => none
  | k + 1, x0, x1, x28 => if x28 = true then (some true) else ((bitmap_And.f k x0 x1).bind fun bt3372 => ((bitmap_Only.f k x0 x1).bind fun bt3376 => ((bitmap_Only.f k x1 x0).bind fun bt3380 => ((caulkref39_And.f k x0 x1).bind fun bt3384 => ((caulkref39_Only.f k x0 x1).bind fun bt3388 => (if bt3372.2 = bt3384.2 then (if bt3376.2 = bt3388.2 then ((caulkref12_Same.f k bt3372.1 bt3384.1).bind fun t3392 => (if t3392 = true then ((caulkref12_Same.f k bt3376.1 bt3388.1).bind fun t3393 => (caulklaw39_BitmapApart.j1 k x0 x1 bt3372.1 bt3376.1 bt3380.1 bt3380.2 (!t3393))) else (caulklaw39_BitmapApart.j1 k x0 x1 bt3372.1 bt3376.1 bt3380.1 bt3380.2 true))) else (caulklaw39_BitmapApart.j1 k x0 x1 bt3372.1 bt3376.1 bt3380.1 bt3380.2 true)) else (caulklaw39_BitmapApart.j1 k x0 x1 bt3372.1 bt3376.1 bt3380.1 bt3380.2 true)))))))
def caulklaw39_BitmapApart.j1 : Nat → List Bool → List Bool → List Bool → List Bool → List Bool → Int → Bool → Option (Bool)
  | 0, _, _, _, _, _, _, _ => none
  | k + 1, x0, x1, x5, x7, x9, x10, x78 => if x78 = true then (some false) else (if (x0.length : Int) = (x1.length : Int) then (if x10 = 0 then (if (x5.length : Int) = (x0.length : Int) then (if (x7.length : Int) = (x0.length : Int) then (caulklaw39_BitmapApart.j2 k x0 x1 x5 x7 x9 ((x9.length : Int) != (x0.length : Int))) else (caulklaw39_BitmapApart.j2 k x0 x1 x5 x7 x9 true)) else (caulklaw39_BitmapApart.j2 k x0 x1 x5 x7 x9 true)) else (caulklaw39_BitmapApart.j2 k x0 x1 x5 x7 x9 true)) else (some (x10 == 2)))
def caulklaw39_BitmapApart.j2 : Nat → List Bool → List Bool → List Bool → List Bool → List Bool → Bool → Option (Bool)
  | 0, _, _, _, _, _, _ => none
  | k + 1, x0, x1, x5, x7, x9, x108 => if x108 = true then (some false) else (caulklaw39_BitmapApart.l0 k x0 x1 x5 x7 x9 (x0.length : Int) 0)
def caulklaw39_BitmapApart.l0 : Nat → List Bool → List Bool → List Bool → List Bool → List Bool → Int → Int → Option (Bool)
  | 0, _, _, _, _, _, _, _ => none
  | k + 1, x0, x1, x5, x7, x9, x110, x111 => if x111 < x110 then (if 0 ≤ x111 then (if x111 < (x5.length : Int) then (if x111 < (x7.length : Int) then (if x111 < (x9.length : Int) then ((some (([rdOf false x5 x111, rdOf false x7 x111, rdOf false x9 x111] : List Bool) : List Bool)).bind fun y3397 => (caulklaw39_BitmapApart.l1 k x0 x1 x5 x7 x9 x111 0 x110 x111 y3397 (y3397.length : Int) 0)) else (none)) else (none)) else (none)) else (none)) else (some true)
def caulklaw39_BitmapApart.l1 : Nat → List Bool → List Bool → List Bool → List Bool → List Bool → Int → Int → Int → Int → List Bool → Int → Int → Option (Bool)
  | 0, _, _, _, _, _, _, _, _, _, _, _, _ => none
  | k + 1, x0, x1, x5, x7, x9, x15, x16, x110, x111, x126, x127, x128 => if x128 < x127 then (if 0 ≤ x128 then (if x128 < (x126.length : Int) then (if rdOf false x126 x128 = true then (caulklaw39_BitmapApart.l1 k x0 x1 x5 x7 x9 x15 (wrap64 (x16 + 1)) x110 x111 x126 x127 (wrap64 (x128 + 1))) else (caulklaw39_BitmapApart.l1 k x0 x1 x5 x7 x9 x15 x16 x110 x111 x126 x127 (wrap64 (x128 + 1)))) else (none)) else (none)) else (if x16 > 1 then (some false) else (if 0 ≤ x15 then (if x15 < (x0.length : Int) then (if rdOf false x0 x15 = true then (if ((x16 == 1) != true) = true then (some false) else (caulklaw39_BitmapApart.l0 k x0 x1 x5 x7 x9 x110 (wrap64 (x111 + 1)))) else (if x15 < (x1.length : Int) then (if ((x16 == 1) != (rdOf false x1 x15)) = true then (some false) else (caulklaw39_BitmapApart.l0 k x0 x1 x5 x7 x9 x110 (wrap64 (x111 + 1)))) else (none))) else (none)) else (none)))
end
def caulklaw39_BitmapApart.f (k : Nat) (l0 : List Bool) (l1 : List Bool) : Option (Bool) := (caulklaw39_lives.f).bind fun t3371 => (if t3371 = true then (if (l0.length : Int) > 5000 then (caulklaw39_BitmapApart.j0 k l0 l1 true) else (caulklaw39_BitmapApart.j0 k l0 l1 (decide ((l1.length : Int) > 5000)))) else (some false))
theorem caulklaw39_BitmapApart.mono_l : ∀ k, (∀ y0 y1 y2, LeO (caulklaw39_BitmapApart.j0 k y0 y1 y2) (caulklaw39_BitmapApart.j0 (k + 1) y0 y1 y2)) ∧ (∀ y0 y1 y2 y3 y4 y5 y6, LeO (caulklaw39_BitmapApart.j1 k y0 y1 y2 y3 y4 y5 y6) (caulklaw39_BitmapApart.j1 (k + 1) y0 y1 y2 y3 y4 y5 y6)) ∧ (∀ y0 y1 y2 y3 y4 y5, LeO (caulklaw39_BitmapApart.j2 k y0 y1 y2 y3 y4 y5) (caulklaw39_BitmapApart.j2 (k + 1) y0 y1 y2 y3 y4 y5)) ∧ (∀ y0 y1 y2 y3 y4 y5 y6, LeO (caulklaw39_BitmapApart.l0 k y0 y1 y2 y3 y4 y5 y6) (caulklaw39_BitmapApart.l0 (k + 1) y0 y1 y2 y3 y4 y5 y6)) ∧ (∀ y0 y1 y2 y3 y4 y5 y6 y7 y8 y9 y10 y11, LeO (caulklaw39_BitmapApart.l1 k y0 y1 y2 y3 y4 y5 y6 y7 y8 y9 y10 y11) (caulklaw39_BitmapApart.l1 (k + 1) y0 y1 y2 y3 y4 y5 y6 y7 y8 y9 y10 y11))
  | 0 => ⟨fun _ _ _ r h => by simp [caulklaw39_BitmapApart.j0] at h, fun _ _ _ _ _ _ _ r h => by simp [caulklaw39_BitmapApart.j1] at h, fun _ _ _ _ _ _ r h => by simp [caulklaw39_BitmapApart.j2] at h, fun _ _ _ _ _ _ _ r h => by simp [caulklaw39_BitmapApart.l0] at h, fun _ _ _ _ _ _ _ _ _ _ _ _ r h => by simp [caulklaw39_BitmapApart.l1] at h⟩
  | k + 1 => by
    obtain ⟨ih0, ih1, ih2, ih3, ih4⟩ := caulklaw39_BitmapApart.mono_l k
    refine ⟨?_, ?_, ?_, ?_, ?_⟩
    · intro y0 y1 y2
      unfold caulklaw39_BitmapApart.j0
      repeat' first
      | (with_reducible exact ih0 _ _ _)
      | (with_reducible exact ih1 _ _ _ _ _ _ _)
      | (with_reducible exact ih2 _ _ _ _ _ _)
      | (with_reducible exact ih3 _ _ _ _ _ _ _)
      | (with_reducible exact ih4 _ _ _ _ _ _ _ _ _ _ _ _)
      | (with_reducible exact bitmap_And.mono _ _ _)
      | (with_reducible exact bitmap_Only.mono _ _ _)
      | (with_reducible exact caulkref12_Same.mono _ _ _)
      | (with_reducible exact caulkref39_And.mono _ _ _)
      | (with_reducible exact caulkref39_Only.mono _ _ _)
      | (with_reducible exact LeO.refl _)
      | (with_reducible exact LeO.none _)
      | (with_reducible refine LeO.ite ?_ ?_)
      | (with_reducible refine LeO.bind ?_ (fun _ => ?_))
      | exact ih0 _ _ _
      | exact ih1 _ _ _ _ _ _ _
      | exact ih2 _ _ _ _ _ _
      | exact ih3 _ _ _ _ _ _ _
      | exact ih4 _ _ _ _ _ _ _ _ _ _ _ _
      | exact bitmap_And.mono _ _ _
      | exact bitmap_Only.mono _ _ _
      | exact caulkref12_Same.mono _ _ _
      | exact caulkref39_And.mono _ _ _
      | exact caulkref39_Only.mono _ _ _
      | exact LeO.none _
      | refine LeO.ite ?_ ?_
      | refine LeO.bind ?_ (fun _ => ?_)
    · intro y0 y1 y2 y3 y4 y5 y6
      unfold caulklaw39_BitmapApart.j1
      repeat' first
      | (with_reducible exact ih0 _ _ _)
      | (with_reducible exact ih1 _ _ _ _ _ _ _)
      | (with_reducible exact ih2 _ _ _ _ _ _)
      | (with_reducible exact ih3 _ _ _ _ _ _ _)
      | (with_reducible exact ih4 _ _ _ _ _ _ _ _ _ _ _ _)
      | (with_reducible exact bitmap_And.mono _ _ _)
      | (with_reducible exact bitmap_Only.mono _ _ _)
      | (with_reducible exact caulkref12_Same.mono _ _ _)
      | (with_reducible exact caulkref39_And.mono _ _ _)
      | (with_reducible exact caulkref39_Only.mono _ _ _)
      | (with_reducible exact LeO.refl _)
      | (with_reducible exact LeO.none _)
      | (with_reducible refine LeO.ite ?_ ?_)
      | (with_reducible refine LeO.bind ?_ (fun _ => ?_))
      | exact ih0 _ _ _
      | exact ih1 _ _ _ _ _ _ _
      | exact ih2 _ _ _ _ _ _
      | exact ih3 _ _ _ _ _ _ _
      | exact ih4 _ _ _ _ _ _ _ _ _ _ _ _
      | exact bitmap_And.mono _ _ _
      | exact bitmap_Only.mono _ _ _
      | exact caulkref12_Same.mono _ _ _
      | exact caulkref39_And.mono _ _ _
      | exact caulkref39_Only.mono _ _ _
      | exact LeO.none _
      | refine LeO.ite ?_ ?_
      | refine LeO.bind ?_ (fun _ => ?_)
    · intro y0 y1 y2 y3 y4 y5
      unfold caulklaw39_BitmapApart.j2
      repeat' first
      | (with_reducible exact ih0 _ _ _)
      | (with_reducible exact ih1 _ _ _ _ _ _ _)
      | (with_reducible exact ih2 _ _ _ _ _ _)
      | (with_reducible exact ih3 _ _ _ _ _ _ _)
      | (with_reducible exact ih4 _ _ _ _ _ _ _ _ _ _ _ _)
      | (with_reducible exact bitmap_And.mono _ _ _)
      | (with_reducible exact bitmap_Only.mono _ _ _)
      | (with_reducible exact caulkref12_Same.mono _ _ _)
      | (with_reducible exact caulkref39_And.mono _ _ _)
      | (with_reducible exact caulkref39_Only.mono _ _ _)
      | (with_reducible exact LeO.refl _)
      | (with_reducible exact LeO.none _)
      | (with_reducible refine LeO.ite ?_ ?_)
      | (with_reducible refine LeO.bind ?_ (fun _ => ?_))
      | exact ih0 _ _ _
      | exact ih1 _ _ _ _ _ _ _
      | exact ih2 _ _ _ _ _ _
      | exact ih3 _ _ _ _ _ _ _
      | exact ih4 _ _ _ _ _ _ _ _ _ _ _ _
      | exact bitmap_And.mono _ _ _
      | exact bitmap_Only.mono _ _ _
      | exact caulkref12_Same.mono _ _ _
      | exact caulkref39_And.mono _ _ _
      | exact caulkref39_Only.mono _ _ _
      | exact LeO.none _
      | refine LeO.ite ?_ ?_
      | refine LeO.bind ?_ (fun _ => ?_)
    · intro y0 y1 y2 y3 y4 y5 y6
      unfold caulklaw39_BitmapApart.l0
      repeat' first
      | (with_reducible exact ih0 _ _ _)
      | (with_reducible exact ih1 _ _ _ _ _ _ _)
      | (with_reducible exact ih2 _ _ _ _ _ _)
      | (with_reducible exact ih3 _ _ _ _ _ _ _)
      | (with_reducible exact ih4 _ _ _ _ _ _ _ _ _ _ _ _)
      | (with_reducible exact bitmap_And.mono _ _ _)
      | (with_reducible exact bitmap_Only.mono _ _ _)
      | (with_reducible exact caulkref12_Same.mono _ _ _)
      | (with_reducible exact caulkref39_And.mono _ _ _)
      | (with_reducible exact caulkref39_Only.mono _ _ _)
      | (with_reducible exact LeO.refl _)
      | (with_reducible exact LeO.none _)
      | (with_reducible refine LeO.ite ?_ ?_)
      | (with_reducible refine LeO.bind ?_ (fun _ => ?_))
      | exact ih0 _ _ _
      | exact ih1 _ _ _ _ _ _ _
      | exact ih2 _ _ _ _ _ _
      | exact ih3 _ _ _ _ _ _ _
      | exact ih4 _ _ _ _ _ _ _ _ _ _ _ _
      | exact bitmap_And.mono _ _ _
      | exact bitmap_Only.mono _ _ _
      | exact caulkref12_Same.mono _ _ _
      | exact caulkref39_And.mono _ _ _
      | exact caulkref39_Only.mono _ _ _
      | exact LeO.none _
      | refine LeO.ite ?_ ?_
      | refine LeO.bind ?_ (fun _ => ?_)
    · intro y0 y1 y2 y3 y4 y5 y6 y7 y8 y9 y10 y11
      unfold caulklaw39_BitmapApart.l1
      repeat' first
      | (with_reducible exact ih0 _ _ _)
      | (with_reducible exact ih1 _ _ _ _ _ _ _)
      | (with_reducible exact ih2 _ _ _ _ _ _)
      | (with_reducible exact ih3 _ _ _ _ _ _ _)
      | (with_reducible exact ih4 _ _ _ _ _ _ _ _ _ _ _ _)
      | (with_reducible exact bitmap_And.mono _ _ _)
      | (with_reducible exact bitmap_Only.mono _ _ _)
      | (with_reducible exact caulkref12_Same.mono _ _ _)
      | (with_reducible exact caulkref39_And.mono _ _ _)
      | (with_reducible exact caulkref39_Only.mono _ _ _)
      | (with_reducible exact LeO.refl _)
      | (with_reducible exact LeO.none _)
      | (with_reducible refine LeO.ite ?_ ?_)
      | (with_reducible refine LeO.bind ?_ (fun _ => ?_))
      | exact ih0 _ _ _
      | exact ih1 _ _ _ _ _ _ _
      | exact ih2 _ _ _ _ _ _
      | exact ih3 _ _ _ _ _ _ _
      | exact ih4 _ _ _ _ _ _ _ _ _ _ _ _
      | exact bitmap_And.mono _ _ _
      | exact bitmap_Only.mono _ _ _
      | exact caulkref12_Same.mono _ _ _
      | exact caulkref39_And.mono _ _ _
      | exact caulkref39_Only.mono _ _ _
      | exact LeO.none _
      | refine LeO.ite ?_ ?_
      | refine LeO.bind ?_ (fun _ => ?_)
theorem caulklaw39_BitmapApart.mono : ∀ a0 a1 k, LeO (caulklaw39_BitmapApart.f k a0 a1) (caulklaw39_BitmapApart.f (k + 1) a0 a1) := by
  intro a0 a1 k
  obtain ⟨ih0, ih1, ih2, ih3, ih4⟩ := caulklaw39_BitmapApart.mono_l k
  unfold caulklaw39_BitmapApart.f
  repeat' first
      | (with_reducible exact ih0 _ _ _)
      | (with_reducible exact ih1 _ _ _ _ _ _ _)
      | (with_reducible exact ih2 _ _ _ _ _ _)
      | (with_reducible exact ih3 _ _ _ _ _ _ _)
      | (with_reducible exact ih4 _ _ _ _ _ _ _ _ _ _ _ _)
      | (with_reducible exact bitmap_And.mono _ _ _)
      | (with_reducible exact bitmap_Only.mono _ _ _)
      | (with_reducible exact caulkref12_Same.mono _ _ _)
      | (with_reducible exact caulkref39_And.mono _ _ _)
      | (with_reducible exact caulkref39_Only.mono _ _ _)
      | (with_reducible exact LeO.refl _)
      | (with_reducible exact LeO.none _)
      | (with_reducible refine LeO.ite ?_ ?_)
      | (with_reducible refine LeO.bind ?_ (fun _ => ?_))
      | exact ih0 _ _ _
      | exact ih1 _ _ _ _ _ _ _
      | exact ih2 _ _ _ _ _ _
      | exact ih3 _ _ _ _ _ _ _
      | exact ih4 _ _ _ _ _ _ _ _ _ _ _ _
      | exact bitmap_And.mono _ _ _
      | exact bitmap_Only.mono _ _ _
      | exact caulkref12_Same.mono _ _ _
      | exact caulkref39_And.mono _ _ _
      | exact caulkref39_Only.mono _ _ _
      | exact LeO.none _
      | refine LeO.ite ?_ ?_
      | refine LeO.bind ?_ (fun _ => ?_)
def caulklaw39_BitmapApart.T20 : Bool × List (List Nat × List Nat) := (true, [([], []), ([], []), ([0, 1], [0, 1]), ([2], [2]), ([], []), ([], []), ([4, 5], [4, 5]), ([6], [6]), ([], []), ([], []), ([8, 9], [8, 9]), ([10], [10]), ([3, 7, 11], [3, 7, 11]), ([12], [12]), ([], [])])
def caulklaw39_BitmapApart.B20 : List Nat := [0, 0, 3, 7, 0, 0, 48, 112, 0, 0, 768, 1792, 4095, 8191, 0]
theorem caulklaw39_BitmapApart.tab20 : rtab .any (opsOf Try.f12 20) = caulklaw39_BitmapApart.T20 := by kernel_rfl
theorem caulklaw39_BitmapApart.bits20 : waitsOk caulklaw39_BitmapApart.T20.2 caulklaw39_BitmapApart.B20 = true := by kernel_rfl
set_option maxHeartbeats 8000000 in
set_option maxRecDepth 100000 in
theorem caulklaw39_BitmapApart.calls (k : Nat) (A0 : Option Addr) (c0 : Nat) (l0 : List Bool) (A1 : Option Addr) (c1 : Nat) (l1 : List Bool) (r : Bool) (w : World) (hr0 : Kd.C Kd.bool w A0 l0.length l0) (hc0 : l0.length ≤ c0) (hr1 : Kd.C Kd.bool w A1 l1.length l1) (hc1 : l1.length ≤ c1) (hrt : Aside0 (r = true)) (h : caulklaw39_BitmapApart.f k l0 l1 = some r) :
    Calls Try.prog 12 #[.slice A0 l0.length c0, .slice A1 l1.length c1] w fun e w' => e = .returned (.bool r) ∧ Below w.heap.size w w' := by
  have HR0 := Aside0.mk hr0
  have HC0 := Aside0.mk hc0
  clear hr0 hc0
  have HR1 := Aside0.mk hr1
  have HC1 := Aside0.mk hc1
  clear hr1 hc1
  have HB := Aside0.mk (Below.refl w.heap.size w)
  have H : ((caulklaw39_lives.f).bind fun t3371 => (if t3371 = true then (if (l0.length : Int) > 5000 then (caulklaw39_BitmapApart.j0 k l0 l1 true) else (caulklaw39_BitmapApart.j0 k l0 l1 (decide ((l1.length : Int) > 5000)))) else (some false))) = some r := h
  clear h
  replace H := Option.bind_eq_some_iff.mp H
  obtain ⟨t3371, A30, H⟩ := H
  replace H : (if t3371 = true then (if (l0.length : Int) > 5000 then (caulklaw39_BitmapApart.j0 k l0 l1 true) else (caulklaw39_BitmapApart.j0 k l0 l1 (decide ((l1.length : Int) > 5000)))) else (some false)) = some r := H
  have A3 := Aside0.mk A30
  clear A30
  by_cases c4 : t3371 = true
  · subst c4
    have H1 : (if (l0.length : Int) > 5000 then (caulklaw39_BitmapApart.j0 k l0 l1 true) else (caulklaw39_BitmapApart.j0 k l0 l1 (decide ((l1.length : Int) > 5000)))) = some r := by rw [if_pos rfl] at H; exact H
    clear H
    have H := H1
    clear H1
    have HC5 := Aside0.mk H
    clear H
    go_enter Try.func12, Try.ntmps12
    (try simp only [List.append_eq, List.cons_append, List.nil_append])
    go_upto_region 3 with (first | ((with_reducible refine gate_callee (f := 46) rfl ?_); refine goesL_ (some 19) rfl rfl Try.func46 (by kernel_rfl) rfl #[] rfl (by (try simp only [List.map_toArray, List.map_cons, List.map_nil]); first | done | rfl | (simp only [List.length_drop, List.length_take]; rfl)) ?_; (with_reducible refine (caulklaw39_lives.calls  true _ A3.out).mono ?_); rintro e w6 ⟨rfl, hb⟩; refine ⟨_, rfl, ?_⟩; have n0_ := Aside0.mk (below_step (by repeat (first | (with_reducible first | exact HB.out | apply below_alloc | apply pw_below_drewN | apply below_drew1) | exact HB.out)) hb); clear HB; have HB := n0_; clear n0_; (try clear hb); (try clear hb2); (try clear hk); (try clear hi)))
    (try simp only [Act.put, List.setIfInBounds_toArray, List.set_cons_zero, List.set_cons_succ])
    go_cut [28] (fun v28 wc => ∃ (kq : Nat) (x28_4 : Bool), v28 = .bool x28_4 ∧ Aside0 (caulklaw39_BitmapApart.j0 kq l0 l1 x28_4 = some r) ∧ Aside0 (kq ≤ k) ∧ Aside0 (Below w.heap.size w wc))
    case first =>
      have H := HC5.out
      clear HC5
      by_cases c7 : (l0.length : Int) > 5000
      · rw [if_pos c7] at H
        have c7b0 : decide (5000 < (l0.length : Int)) = true := decide_eq_true c7
        have c7b1 : decide (5000 < l0.length) = true := decide_eq_true (by omega)
        clear c7
        (first | rw [c7b0] | (simp only [i64_w, i32_w]; rw [c7b0]) | skip)
        have H' := Aside0.mk H
        clear H
        go_wp2
        go_meet
        case rel => exact ⟨_, (true), (by first | rfl | (simp; done) | (simp [*]; done)), H', ⟨by first | omega | exact Nat.le_refl _⟩, ⟨by repeat (first | (with_reducible first | exact HB.out | apply below_alloc | apply pw_below_drewN | apply below_drew1) | exact HB.out)⟩⟩
      · rw [if_neg c7] at H
        have c7b0 : decide (5000 < (l0.length : Int)) = false := decide_eq_false c7
        have c7b1 : decide (5000 < l0.length) = false := decide_eq_false (by omega)
        clear c7
        (first | rw [c7b0] | (simp only [i64_w, i32_w]; rw [c7b0]) | skip)
        have H' := Aside0.mk H
        clear H
        go_wp2
        go_meet
        case rel => exact ⟨_, (decide ((l1.length : Int) > 5000)), (by first | rfl | (simp; done) | (simp [*]; done)), H', ⟨by first | omega | exact Nat.le_refl _⟩, ⟨by repeat (first | (with_reducible first | exact HB.out | apply below_alloc | apply pw_below_drewN | apply below_drew1) | exact HB.out)⟩⟩
    case rest =>
      clear HC5
      try clear c1
      try clear p2
      try clear c4
      try clear c7
      try clear c7b0
      try clear c7b1
      obtain ⟨kq, x28_4, rfl, HA, HJ4, HB⟩ := hcut
      cases kq with
      | zero => exact absurd HA.out (by simp [caulklaw39_BitmapApart.j0])
      | succ kj4 =>
        have H := HA.out
        clear HA
        simp only [caulklaw39_BitmapApart.j0] at H
        by_cases c8 : x28_4 = true
        · subst c8
          have H1 : (some true) = some r := by rw [if_pos rfl] at H; exact H
          clear H
          have H := H1
          clear H1
          obtain rfl := Option.some.inj H
          go_wp2
          go_ret
          exact ⟨by first | rfl | (simp [errW_none, errW_some] <;> rfl) | (simp [*, errW_none, errW_some] <;> rfl), by repeat (first | (with_reducible first | exact HB.out | apply below_alloc | apply pw_below_drewN | apply below_drew1) | exact HB.out)⟩
        · replace c8 := Bool.eq_false_iff.mpr c8
          subst c8
          have H1 : ((bitmap_And.f kj4 l0 l1).bind fun bt3372 => ((bitmap_Only.f kj4 l0 l1).bind fun bt3376 => ((bitmap_Only.f kj4 l1 l0).bind fun bt3380 => ((caulkref39_And.f kj4 l0 l1).bind fun bt3384 => ((caulkref39_Only.f kj4 l0 l1).bind fun bt3388 => (if bt3372.2 = bt3384.2 then (if bt3376.2 = bt3388.2 then ((caulkref12_Same.f kj4 bt3372.1 bt3384.1).bind fun t3392 => (if t3392 = true then ((caulkref12_Same.f kj4 bt3376.1 bt3388.1).bind fun t3393 => (caulklaw39_BitmapApart.j1 kj4 l0 l1 bt3372.1 bt3376.1 bt3380.1 bt3380.2 (!t3393))) else (caulklaw39_BitmapApart.j1 kj4 l0 l1 bt3372.1 bt3376.1 bt3380.1 bt3380.2 true))) else (caulklaw39_BitmapApart.j1 kj4 l0 l1 bt3372.1 bt3376.1 bt3380.1 bt3380.2 true)) else (caulklaw39_BitmapApart.j1 kj4 l0 l1 bt3372.1 bt3376.1 bt3380.1 bt3380.2 true))))))) = some r := by rw [if_neg (show ¬ (false = true) by decide)] at H; exact H
          clear H
          have H := H1
          clear H1
          replace H := Option.bind_eq_some_iff.mp H
          obtain ⟨⟨t3372, t3373⟩, A90, H⟩ := H
          replace H : ((bitmap_Only.f kj4 l0 l1).bind fun bt3376 => ((bitmap_Only.f kj4 l1 l0).bind fun bt3380 => ((caulkref39_And.f kj4 l0 l1).bind fun bt3384 => ((caulkref39_Only.f kj4 l0 l1).bind fun bt3388 => (if t3373 = bt3384.2 then (if bt3376.2 = bt3388.2 then ((caulkref12_Same.f kj4 t3372 bt3384.1).bind fun t3392 => (if t3392 = true then ((caulkref12_Same.f kj4 bt3376.1 bt3388.1).bind fun t3393 => (caulklaw39_BitmapApart.j1 kj4 l0 l1 t3372 bt3376.1 bt3380.1 bt3380.2 (!t3393))) else (caulklaw39_BitmapApart.j1 kj4 l0 l1 t3372 bt3376.1 bt3380.1 bt3380.2 true))) else (caulklaw39_BitmapApart.j1 kj4 l0 l1 t3372 bt3376.1 bt3380.1 bt3380.2 true)) else (caulklaw39_BitmapApart.j1 kj4 l0 l1 t3372 bt3376.1 bt3380.1 bt3380.2 true)))))) = some r := H
          have A9 := Aside0.mk A90
          clear A90
          replace H := Option.bind_eq_some_iff.mp H
          obtain ⟨⟨t3376, t3377⟩, A100, H⟩ := H
          replace H : ((bitmap_Only.f kj4 l1 l0).bind fun bt3380 => ((caulkref39_And.f kj4 l0 l1).bind fun bt3384 => ((caulkref39_Only.f kj4 l0 l1).bind fun bt3388 => (if t3373 = bt3384.2 then (if t3377 = bt3388.2 then ((caulkref12_Same.f kj4 t3372 bt3384.1).bind fun t3392 => (if t3392 = true then ((caulkref12_Same.f kj4 t3376 bt3388.1).bind fun t3393 => (caulklaw39_BitmapApart.j1 kj4 l0 l1 t3372 t3376 bt3380.1 bt3380.2 (!t3393))) else (caulklaw39_BitmapApart.j1 kj4 l0 l1 t3372 t3376 bt3380.1 bt3380.2 true))) else (caulklaw39_BitmapApart.j1 kj4 l0 l1 t3372 t3376 bt3380.1 bt3380.2 true)) else (caulklaw39_BitmapApart.j1 kj4 l0 l1 t3372 t3376 bt3380.1 bt3380.2 true))))) = some r := H
          have A10 := Aside0.mk A100
          clear A100
          replace H := Option.bind_eq_some_iff.mp H
          obtain ⟨⟨t3380, t3381⟩, A110, H⟩ := H
          replace H : ((caulkref39_And.f kj4 l0 l1).bind fun bt3384 => ((caulkref39_Only.f kj4 l0 l1).bind fun bt3388 => (if t3373 = bt3384.2 then (if t3377 = bt3388.2 then ((caulkref12_Same.f kj4 t3372 bt3384.1).bind fun t3392 => (if t3392 = true then ((caulkref12_Same.f kj4 t3376 bt3388.1).bind fun t3393 => (caulklaw39_BitmapApart.j1 kj4 l0 l1 t3372 t3376 t3380 t3381 (!t3393))) else (caulklaw39_BitmapApart.j1 kj4 l0 l1 t3372 t3376 t3380 t3381 true))) else (caulklaw39_BitmapApart.j1 kj4 l0 l1 t3372 t3376 t3380 t3381 true)) else (caulklaw39_BitmapApart.j1 kj4 l0 l1 t3372 t3376 t3380 t3381 true)))) = some r := H
          have A11 := Aside0.mk A110
          clear A110
          replace H := Option.bind_eq_some_iff.mp H
          obtain ⟨⟨t3384, t3385⟩, A120, H⟩ := H
          replace H : ((caulkref39_Only.f kj4 l0 l1).bind fun bt3388 => (if t3373 = t3385 then (if t3377 = bt3388.2 then ((caulkref12_Same.f kj4 t3372 t3384).bind fun t3392 => (if t3392 = true then ((caulkref12_Same.f kj4 t3376 bt3388.1).bind fun t3393 => (caulklaw39_BitmapApart.j1 kj4 l0 l1 t3372 t3376 t3380 t3381 (!t3393))) else (caulklaw39_BitmapApart.j1 kj4 l0 l1 t3372 t3376 t3380 t3381 true))) else (caulklaw39_BitmapApart.j1 kj4 l0 l1 t3372 t3376 t3380 t3381 true)) else (caulklaw39_BitmapApart.j1 kj4 l0 l1 t3372 t3376 t3380 t3381 true))) = some r := H
          have A12 := Aside0.mk A120
          clear A120
          replace H := Option.bind_eq_some_iff.mp H
          obtain ⟨⟨t3388, t3389⟩, A130, H⟩ := H
          replace H : (if t3373 = t3385 then (if t3377 = t3389 then ((caulkref12_Same.f kj4 t3372 t3384).bind fun t3392 => (if t3392 = true then ((caulkref12_Same.f kj4 t3376 t3388).bind fun t3393 => (caulklaw39_BitmapApart.j1 kj4 l0 l1 t3372 t3376 t3380 t3381 (!t3393))) else (caulklaw39_BitmapApart.j1 kj4 l0 l1 t3372 t3376 t3380 t3381 true))) else (caulklaw39_BitmapApart.j1 kj4 l0 l1 t3372 t3376 t3380 t3381 true)) else (caulklaw39_BitmapApart.j1 kj4 l0 l1 t3372 t3376 t3380 t3381 true)) = some r := H
          have A13 := Aside0.mk A130
          clear A130
          have HC14 := Aside0.mk H
          clear H
          go_upto_region 10 with (first | ((with_reducible refine gate_callee (f := 56) rfl ?_); refine goesL_ (some 32) rfl rfl Try.func56 (by kernel_rfl) rfl #[.slice A0 l0.length c0, .slice A1 l1.length c1] rfl (by (try simp only [List.map_toArray, List.map_cons, List.map_nil]); first | done | rfl | (simp only [List.length_drop, List.length_take]; rfl)) ?_; (with_reducible refine (bitmap_And.calls kj4 _ _ l0 _ _ l1 t3372 t3373 _ ?side1 ?side2 ?side3 ?side4 A9.out).mono ?_); (case side1 => repeat (first | exact (Kd.C_below HR0.out HB.out) | (with_reducible refine Kd.C_alloc ?_ _) | (with_reducible refine Kd.C_drewN ?_ _) | (with_reducible refine Kd.C_drew ?_))); (case side2 => exact HC0.out); (case side3 => repeat (first | exact (Kd.C_below HR1.out HB.out) | (with_reducible refine Kd.C_alloc ?_ _) | (with_reducible refine Kd.C_drewN ?_ _) | (with_reducible refine Kd.C_drew ?_))); (case side4 => exact HC1.out); rintro e w15 ⟨v3374, rfl, ho0, hb⟩; refine ⟨_, rfl, ?_⟩; have n0_ := Aside0.mk (Kd.R_lower ho0 (below_size (by repeat (first | (with_reducible first | exact HB.out | apply below_alloc | apply pw_below_drewN | apply below_drew1) | exact HB.out)))); have n1_ := Aside0.mk (below_step (by repeat (first | (with_reducible first | exact HB.out | apply below_alloc | apply pw_below_drewN | apply below_drew1) | exact HB.out)) hb); clear HB; have HO3375 := n0_; have HB := n1_; clear n0_ n1_; (try clear hb); (try clear hb2); (try clear hk); (try clear hi); (try clear ho0)) | ((with_reducible refine gate_callee (f := 57) rfl ?_); refine goesL_ (some 38) rfl rfl Try.func57 (by kernel_rfl) rfl #[.slice A0 l0.length c0, .slice A1 l1.length c1] rfl (by (try simp only [List.map_toArray, List.map_cons, List.map_nil]); first | done | rfl | (simp only [List.length_drop, List.length_take]; rfl)) ?_; (with_reducible refine (bitmap_Only.calls kj4 _ _ l0 _ _ l1 t3376 t3377 _ ?side1 ?side2 ?side3 ?side4 A10.out).mono ?_); (case side1 => repeat (first | exact (Kd.C_below HR0.out HB.out) | (with_reducible refine Kd.C_alloc ?_ _) | (with_reducible refine Kd.C_drewN ?_ _) | (with_reducible refine Kd.C_drew ?_))); (case side2 => exact HC0.out); (case side3 => repeat (first | exact (Kd.C_below HR1.out HB.out) | (with_reducible refine Kd.C_alloc ?_ _) | (with_reducible refine Kd.C_drewN ?_ _) | (with_reducible refine Kd.C_drew ?_))); (case side4 => exact HC1.out); rintro e w16 ⟨v3378, rfl, ho0, hb⟩; refine ⟨_, rfl, ?_⟩; have n0_ := Aside0.mk (Kd.R_elder' (by (with_reducible repeat (first | apply Kd.R_alloc | apply Kd.R_drewN | apply Kd.R_drew)); exact HO3375.out) (Kd.R_base ho0) hb); have n1_ := Aside0.mk (Kd.R_lower (Kd.R_new' ho0 (Kd.R_lt (by (with_reducible repeat (first | apply Kd.R_alloc | apply Kd.R_drewN | apply Kd.R_drew)); exact HO3375.out))) (below_size (by repeat (first | (with_reducible first | exact HB.out | apply below_alloc | apply pw_below_drewN | apply below_drew1) | exact HB.out)))); have n2_ := Aside0.mk (below_step (by repeat (first | (with_reducible first | exact HB.out | apply below_alloc | apply pw_below_drewN | apply below_drew1) | exact HB.out)) hb); clear HO3375; clear HB; have HO3375 := n0_; have HO3379 := n1_; have HB := n2_; clear n0_ n1_ n2_; (try clear hb); (try clear hb2); (try clear hk); (try clear hi); (try clear ho0)) | ((with_reducible refine gate_callee (f := 57) rfl ?_); refine goesL_ (some 44) rfl rfl Try.func57 (by kernel_rfl) rfl #[.slice A1 l1.length c1, .slice A0 l0.length c0] rfl (by (try simp only [List.map_toArray, List.map_cons, List.map_nil]); first | done | rfl | (simp only [List.length_drop, List.length_take]; rfl)) ?_; (with_reducible refine (bitmap_Only.calls kj4 _ _ l1 _ _ l0 t3380 t3381 _ ?side1 ?side2 ?side3 ?side4 A11.out).mono ?_); (case side1 => repeat (first | exact (Kd.C_below HR1.out HB.out) | (with_reducible refine Kd.C_alloc ?_ _) | (with_reducible refine Kd.C_drewN ?_ _) | (with_reducible refine Kd.C_drew ?_))); (case side2 => exact HC1.out); (case side3 => repeat (first | exact (Kd.C_below HR0.out HB.out) | (with_reducible refine Kd.C_alloc ?_ _) | (with_reducible refine Kd.C_drewN ?_ _) | (with_reducible refine Kd.C_drew ?_))); (case side4 => exact HC0.out); rintro e w17 ⟨v3382, rfl, ho0, hb⟩; refine ⟨_, rfl, ?_⟩; have n0_ := Aside0.mk (Kd.R_elder' (by (with_reducible repeat (first | apply Kd.R_alloc | apply Kd.R_drewN | apply Kd.R_drew)); exact HO3375.out) (Kd.R_base ho0) hb); have n1_ := Aside0.mk (Kd.R_elder' (by (with_reducible repeat (first | apply Kd.R_alloc | apply Kd.R_drewN | apply Kd.R_drew)); exact HO3379.out) (Kd.R_base ho0) hb); have n2_ := Aside0.mk (Kd.R_lower (Kd.R_new' (Kd.R_new' ho0 (Kd.R_lt (by (with_reducible repeat (first | apply Kd.R_alloc | apply Kd.R_drewN | apply Kd.R_drew)); exact HO3375.out))) (Kd.R_lt (by (with_reducible repeat (first | apply Kd.R_alloc | apply Kd.R_drewN | apply Kd.R_drew)); exact HO3379.out))) (below_size (by repeat (first | (with_reducible first | exact HB.out | apply below_alloc | apply pw_below_drewN | apply below_drew1) | exact HB.out)))); have n3_ := Aside0.mk (below_step (by repeat (first | (with_reducible first | exact HB.out | apply below_alloc | apply pw_below_drewN | apply below_drew1) | exact HB.out)) hb); clear HO3375; clear HO3379; clear HB; have HO3375 := n0_; have HO3379 := n1_; have HO3383 := n2_; have HB := n3_; clear n0_ n1_ n2_ n3_; (try clear hb); (try clear hb2); (try clear hk); (try clear hi); (try clear ho0)) | ((with_reducible refine gate_callee (f := 58) rfl ?_); refine goesL_ (some 50) rfl rfl Try.func58 (by kernel_rfl) rfl #[.slice A0 l0.length c0, .slice A1 l1.length c1] rfl (by (try simp only [List.map_toArray, List.map_cons, List.map_nil]); first | done | rfl | (simp only [List.length_drop, List.length_take]; rfl)) ?_; (with_reducible refine (caulkref39_And.calls kj4 _ _ l0 _ _ l1 t3384 t3385 _ ?side1 ?side2 ?side3 ?side4 A12.out).mono ?_); (case side1 => repeat (first | exact (Kd.C_below HR0.out HB.out) | (with_reducible refine Kd.C_alloc ?_ _) | (with_reducible refine Kd.C_drewN ?_ _) | (with_reducible refine Kd.C_drew ?_))); (case side2 => exact HC0.out); (case side3 => repeat (first | exact (Kd.C_below HR1.out HB.out) | (with_reducible refine Kd.C_alloc ?_ _) | (with_reducible refine Kd.C_drewN ?_ _) | (with_reducible refine Kd.C_drew ?_))); (case side4 => exact HC1.out); rintro e w18 ⟨v3386, rfl, ho0, hb⟩; refine ⟨_, rfl, ?_⟩; have n0_ := Aside0.mk (Kd.R_elder' (by (with_reducible repeat (first | apply Kd.R_alloc | apply Kd.R_drewN | apply Kd.R_drew)); exact HO3375.out) (Kd.R_base ho0) hb); have n1_ := Aside0.mk (Kd.R_elder' (by (with_reducible repeat (first | apply Kd.R_alloc | apply Kd.R_drewN | apply Kd.R_drew)); exact HO3379.out) (Kd.R_base ho0) hb); have n2_ := Aside0.mk (Kd.R_elder' (by (with_reducible repeat (first | apply Kd.R_alloc | apply Kd.R_drewN | apply Kd.R_drew)); exact HO3383.out) (Kd.R_base ho0) hb); have n3_ := Aside0.mk (Kd.R_lower (Kd.R_new' (Kd.R_new' (Kd.R_new' ho0 (Kd.R_lt (by (with_reducible repeat (first | apply Kd.R_alloc | apply Kd.R_drewN | apply Kd.R_drew)); exact HO3375.out))) (Kd.R_lt (by (with_reducible repeat (first | apply Kd.R_alloc | apply Kd.R_drewN | apply Kd.R_drew)); exact HO3379.out))) (Kd.R_lt (by (with_reducible repeat (first | apply Kd.R_alloc | apply Kd.R_drewN | apply Kd.R_drew)); exact HO3383.out))) (below_size (by repeat (first | (with_reducible first | exact HB.out | apply below_alloc | apply pw_below_drewN | apply below_drew1) | exact HB.out)))); have n4_ := Aside0.mk (below_step (by repeat (first | (with_reducible first | exact HB.out | apply below_alloc | apply pw_below_drewN | apply below_drew1) | exact HB.out)) hb); clear HO3375; clear HO3379; clear HO3383; clear HB; have HO3375 := n0_; have HO3379 := n1_; have HO3383 := n2_; have HO3387 := n3_; have HB := n4_; clear n0_ n1_ n2_ n3_ n4_; (try clear hb); (try clear hb2); (try clear hk); (try clear hi); (try clear ho0)) | ((with_reducible refine gate_callee (f := 59) rfl ?_); refine goesL_ (some 56) rfl rfl Try.func59 (by kernel_rfl) rfl #[.slice A0 l0.length c0, .slice A1 l1.length c1] rfl (by (try simp only [List.map_toArray, List.map_cons, List.map_nil]); first | done | rfl | (simp only [List.length_drop, List.length_take]; rfl)) ?_; (with_reducible refine (caulkref39_Only.calls kj4 _ _ l0 _ _ l1 t3388 t3389 _ ?side1 ?side2 ?side3 ?side4 A13.out).mono ?_); (case side1 => repeat (first | exact (Kd.C_below HR0.out HB.out) | (with_reducible refine Kd.C_alloc ?_ _) | (with_reducible refine Kd.C_drewN ?_ _) | (with_reducible refine Kd.C_drew ?_))); (case side2 => exact HC0.out); (case side3 => repeat (first | exact (Kd.C_below HR1.out HB.out) | (with_reducible refine Kd.C_alloc ?_ _) | (with_reducible refine Kd.C_drewN ?_ _) | (with_reducible refine Kd.C_drew ?_))); (case side4 => exact HC1.out); rintro e w19 ⟨v3390, rfl, ho0, hb⟩; refine ⟨_, rfl, ?_⟩; have n0_ := Aside0.mk (Kd.R_elder' (by (with_reducible repeat (first | apply Kd.R_alloc | apply Kd.R_drewN | apply Kd.R_drew)); exact HO3375.out) (Kd.R_base ho0) hb); have n1_ := Aside0.mk (Kd.R_elder' (by (with_reducible repeat (first | apply Kd.R_alloc | apply Kd.R_drewN | apply Kd.R_drew)); exact HO3379.out) (Kd.R_base ho0) hb); have n2_ := Aside0.mk (Kd.R_elder' (by (with_reducible repeat (first | apply Kd.R_alloc | apply Kd.R_drewN | apply Kd.R_drew)); exact HO3383.out) (Kd.R_base ho0) hb); have n3_ := Aside0.mk (Kd.R_elder' (by (with_reducible repeat (first | apply Kd.R_alloc | apply Kd.R_drewN | apply Kd.R_drew)); exact HO3387.out) (Kd.R_base ho0) hb); have n4_ := Aside0.mk (Kd.R_lower (Kd.R_new' (Kd.R_new' (Kd.R_new' (Kd.R_new' ho0 (Kd.R_lt (by (with_reducible repeat (first | apply Kd.R_alloc | apply Kd.R_drewN | apply Kd.R_drew)); exact HO3375.out))) (Kd.R_lt (by (with_reducible repeat (first | apply Kd.R_alloc | apply Kd.R_drewN | apply Kd.R_drew)); exact HO3379.out))) (Kd.R_lt (by (with_reducible repeat (first | apply Kd.R_alloc | apply Kd.R_drewN | apply Kd.R_drew)); exact HO3383.out))) (Kd.R_lt (by (with_reducible repeat (first | apply Kd.R_alloc | apply Kd.R_drewN | apply Kd.R_drew)); exact HO3387.out))) (below_size (by repeat (first | (with_reducible first | exact HB.out | apply below_alloc | apply pw_below_drewN | apply below_drew1) | exact HB.out)))); have n5_ := Aside0.mk (below_step (by repeat (first | (with_reducible first | exact HB.out | apply below_alloc | apply pw_below_drewN | apply below_drew1) | exact HB.out)) hb); clear HO3375; clear HO3379; clear HO3383; clear HO3387; clear HB; have HO3375 := n0_; have HO3379 := n1_; have HO3383 := n2_; have HO3387 := n3_; have HO3391 := n4_; have HB := n5_; clear n0_ n1_ n2_ n3_ n4_ n5_; (try clear hb); (try clear hb2); (try clear hk); (try clear hi); (try clear ho0)))
          (try simp only [Act.put, List.setIfInBounds_toArray, List.set_cons_zero, List.set_cons_succ])
          go_cut [78] (fun v78 wc => ∃ (kq : Nat) (x78_13 : Bool), v78 = .bool x78_13 ∧ Aside0 (caulklaw39_BitmapApart.j1 kq l0 l1 t3372 t3376 t3380 t3381 x78_13 = some r) ∧ Aside0 (kq ≤ kj4) ∧ Aside0 (Kd.R Kd.bool 4 wc w.heap.size (fun k_ => some k_ ≠ (v3378 : Value).ownBlock ∧ some k_ ≠ (v3382 : Value).ownBlock) v3374 t3372) ∧ Aside0 (Kd.R Kd.bool 4 wc w.heap.size (fun k_ => some k_ ≠ (v3374 : Value).ownBlock ∧ some k_ ≠ (v3382 : Value).ownBlock) v3378 t3376) ∧ Aside0 (Kd.R Kd.bool 4 wc w.heap.size (fun k_ => some k_ ≠ (v3374 : Value).ownBlock ∧ some k_ ≠ (v3378 : Value).ownBlock) v3382 t3380) ∧ Aside0 (Below w.heap.size w wc))
          case first =>
            have H := HC14.out
            clear HC14
            by_cases c20 : t3373 = t3385
            · rw [if_pos c20] at H
              have c20b0 : (t3373 == t3385) = true := beq_iff_eq.mpr c20
              have c20b1 : (t3373 != t3385) = false := bne_eq_false_iff_eq.mpr c20
              clear c20
              (first | rw [c20b0] | (simp only [i64_w, i32_w]; rw [c20b0]) | skip)
              by_cases c21 : t3377 = t3389
              · rw [if_pos c21] at H
                have c21b0 : (t3377 == t3389) = true := beq_iff_eq.mpr c21
                have c21b1 : (t3377 != t3389) = false := bne_eq_false_iff_eq.mpr c21
                clear c21
                replace H := Option.bind_eq_some_iff.mp H
                obtain ⟨t3392, A220, H⟩ := H
                replace H : (if t3392 = true then ((caulkref12_Same.f kj4 t3376 t3388).bind fun t3393 => (caulklaw39_BitmapApart.j1 kj4 l0 l1 t3372 t3376 t3380 t3381 (!t3393))) else (caulklaw39_BitmapApart.j1 kj4 l0 l1 t3372 t3376 t3380 t3381 true)) = some r := H
                have A22 := Aside0.mk A220
                clear A220
                by_cases c23 : t3392 = true
                · subst c23
                  have H1 : ((caulkref12_Same.f kj4 t3376 t3388).bind fun t3393 => (caulklaw39_BitmapApart.j1 kj4 l0 l1 t3372 t3376 t3380 t3381 (!t3393))) = some r := by rw [if_pos rfl] at H; exact H
                  clear H
                  have H := H1
                  clear H1
                  replace H := Option.bind_eq_some_iff.mp H
                  obtain ⟨t3393, A240, H⟩ := H
                  replace H : (caulklaw39_BitmapApart.j1 kj4 l0 l1 t3372 t3376 t3380 t3381 (!t3393)) = some r := H
                  have A24 := Aside0.mk A240
                  clear A240
                  have H' := Aside0.mk H
                  clear H
                  obtain ⟨Ao25, co25, eo25⟩ := Kd.R_slice HO3375.out
                  subst eo25
                  obtain ⟨Ao26, co26, eo26⟩ := Kd.R_slice HO3387.out
                  subst eo26
                  go_wp2_with (first | ((with_reducible refine HOpen.gate_append ?_); simp only [List.cons_append, List.nil_append]) | ((with_reducible refine gate_callee (f := 55) rfl ?_); (try (refine gate_guard (by rfl) ?_; dsimp only)); refine goesL_ (some 70) rfl rfl Try.func55 (by kernel_rfl) rfl #[.slice Ao25 t3372.length co25, .slice Ao26 t3384.length co26] rfl (by (try simp only [List.map_toArray, List.map_cons, List.map_nil]); first | done | rfl | (simp only [List.length_drop, List.length_take]; rfl)) ?_; (with_reducible refine (caulkref12_Same.calls kj4 _ _ t3372 _ _ t3384 true _ ?side1 ?side2 ?side3 ?side4 A22.out).mono ?_); (case side1 => repeat (first | exact (Kd.R_reads' HO3375.out).2.2 | (with_reducible refine Kd.C_alloc ?_ _) | (with_reducible refine Kd.C_drewN ?_ _) | (with_reducible refine Kd.C_drew ?_))); (case side2 => exact (Kd.R_reads' HO3375.out).2.1); (case side3 => repeat (first | exact (Kd.R_reads' HO3387.out).2.2 | (with_reducible refine Kd.C_alloc ?_ _) | (with_reducible refine Kd.C_drewN ?_ _) | (with_reducible refine Kd.C_drew ?_))); (case side4 => exact (Kd.R_reads' HO3387.out).2.1); rintro e w' ⟨rfl, ⟨nd, rfl⟩⟩; refine ⟨_, rfl, ?_⟩; obtain ⟨Ao27, co27, eo27⟩ := Kd.R_slice HO3379.out; subst eo27; obtain ⟨Ao28, co28, eo28⟩ := Kd.R_slice HO3391.out; subst eo28) | ((with_reducible refine gate_callee (f := 55) rfl ?_); (try (refine gate_guard (by rfl) ?_; dsimp only)); refine goesL_ (some 76) rfl rfl Try.func55 (by kernel_rfl) rfl #[.slice Ao27 t3376.length co27, .slice Ao28 t3388.length co28] rfl (by (try simp only [List.map_toArray, List.map_cons, List.map_nil]); first | done | rfl | (simp only [List.length_drop, List.length_take]; rfl)) ?_; (with_reducible refine (caulkref12_Same.calls kj4 _ _ t3376 _ _ t3388 t3393 _ ?side1 ?side2 ?side3 ?side4 A24.out).mono ?_); (case side1 => repeat (first | exact (Kd.R_reads' HO3379.out).2.2 | (with_reducible refine Kd.C_alloc ?_ _) | (with_reducible refine Kd.C_drewN ?_ _) | (with_reducible refine Kd.C_drew ?_))); (case side2 => exact (Kd.R_reads' HO3379.out).2.1); (case side3 => repeat (first | exact (Kd.R_reads' HO3391.out).2.2 | (with_reducible refine Kd.C_alloc ?_ _) | (with_reducible refine Kd.C_drewN ?_ _) | (with_reducible refine Kd.C_drew ?_))); (case side4 => exact (Kd.R_reads' HO3391.out).2.1); rintro e w' ⟨rfl, ⟨nd, rfl⟩⟩; refine ⟨_, rfl, ?_⟩))
                  go_meet
                  case rel => exact ⟨_, (!t3393), (by first | rfl | (simp; done) | (simp [*]; done)), H', ⟨by have := HJ4.out; first | omega | exact Nat.le_refl _⟩, ⟨by (with_reducible repeat (first | apply Kd.R_alloc | apply Kd.R_drewN | apply Kd.R_drew)); exact Kd.R_mono HO3375.out (fun _ hk => ⟨hk.1.1.1.2, hk.1.1.2⟩)⟩, ⟨by (with_reducible repeat (first | apply Kd.R_alloc | apply Kd.R_drewN | apply Kd.R_drew)); exact Kd.R_mono HO3379.out (fun _ hk => ⟨hk.1.1.1.2, hk.1.1.2⟩)⟩, ⟨by (with_reducible repeat (first | apply Kd.R_alloc | apply Kd.R_drewN | apply Kd.R_drew)); exact Kd.R_mono HO3383.out (fun _ hk => ⟨hk.1.1.1.2, hk.1.1.2⟩)⟩, ⟨by repeat (first | (with_reducible first | exact HB.out | apply below_alloc | apply pw_below_drewN | apply below_drew1) | exact HB.out)⟩⟩
                · replace c23 := Bool.eq_false_iff.mpr c23
                  subst c23
                  have H1 : (caulklaw39_BitmapApart.j1 kj4 l0 l1 t3372 t3376 t3380 t3381 true) = some r := by rw [if_neg (show ¬ (false = true) by decide)] at H; exact H
                  clear H
                  have H := H1
                  clear H1
                  have H' := Aside0.mk H
                  clear H
                  obtain ⟨Ao29, co29, eo29⟩ := Kd.R_slice HO3375.out
                  subst eo29
                  obtain ⟨Ao30, co30, eo30⟩ := Kd.R_slice HO3387.out
                  subst eo30
                  go_wp2_with (first | ((with_reducible refine HOpen.gate_append ?_); simp only [List.cons_append, List.nil_append]) | ((with_reducible refine gate_callee (f := 55) rfl ?_); (try (refine gate_guard (by rfl) ?_; dsimp only)); refine goesL_ (some 70) rfl rfl Try.func55 (by kernel_rfl) rfl #[.slice Ao29 t3372.length co29, .slice Ao30 t3384.length co30] rfl (by (try simp only [List.map_toArray, List.map_cons, List.map_nil]); first | done | rfl | (simp only [List.length_drop, List.length_take]; rfl)) ?_; (with_reducible refine (caulkref12_Same.calls kj4 _ _ t3372 _ _ t3384 false _ ?side1 ?side2 ?side3 ?side4 A22.out).mono ?_); (case side1 => repeat (first | exact (Kd.R_reads' HO3375.out).2.2 | (with_reducible refine Kd.C_alloc ?_ _) | (with_reducible refine Kd.C_drewN ?_ _) | (with_reducible refine Kd.C_drew ?_))); (case side2 => exact (Kd.R_reads' HO3375.out).2.1); (case side3 => repeat (first | exact (Kd.R_reads' HO3387.out).2.2 | (with_reducible refine Kd.C_alloc ?_ _) | (with_reducible refine Kd.C_drewN ?_ _) | (with_reducible refine Kd.C_drew ?_))); (case side4 => exact (Kd.R_reads' HO3387.out).2.1); rintro e w' ⟨rfl, ⟨nd, rfl⟩⟩; refine ⟨_, rfl, ?_⟩))
                  go_meet
                  case rel => exact ⟨_, (true), (by first | rfl | (simp; done) | (simp [*]; done)), H', ⟨by have := HJ4.out; first | omega | exact Nat.le_refl _⟩, ⟨by (with_reducible repeat (first | apply Kd.R_alloc | apply Kd.R_drewN | apply Kd.R_drew)); exact Kd.R_mono HO3375.out (fun _ hk => ⟨hk.1.1.1.2, hk.1.1.2⟩)⟩, ⟨by (with_reducible repeat (first | apply Kd.R_alloc | apply Kd.R_drewN | apply Kd.R_drew)); exact Kd.R_mono HO3379.out (fun _ hk => ⟨hk.1.1.1.2, hk.1.1.2⟩)⟩, ⟨by (with_reducible repeat (first | apply Kd.R_alloc | apply Kd.R_drewN | apply Kd.R_drew)); exact Kd.R_mono HO3383.out (fun _ hk => ⟨hk.1.1.1.2, hk.1.1.2⟩)⟩, ⟨by repeat (first | (with_reducible first | exact HB.out | apply below_alloc | apply pw_below_drewN | apply below_drew1) | exact HB.out)⟩⟩
              · rw [if_neg c21] at H
                have c21b0 : (t3377 == t3389) = false := beq_eq_false_iff_ne.mpr c21
                have c21b1 : (t3377 != t3389) = true := bne_iff_ne.mpr c21
                have H' := Aside0.mk H
                clear H
                go_wp2
                go_meet
                case rel => exact ⟨_, (true), (by first | rfl | (simp; done) | (simp [*]; done)), H', ⟨by have := HJ4.out; first | omega | exact Nat.le_refl _⟩, ⟨by (with_reducible repeat (first | apply Kd.R_alloc | apply Kd.R_drewN | apply Kd.R_drew)); exact Kd.R_mono HO3375.out (fun _ hk => ⟨hk.1.1.1.2, hk.1.1.2⟩)⟩, ⟨by (with_reducible repeat (first | apply Kd.R_alloc | apply Kd.R_drewN | apply Kd.R_drew)); exact Kd.R_mono HO3379.out (fun _ hk => ⟨hk.1.1.1.2, hk.1.1.2⟩)⟩, ⟨by (with_reducible repeat (first | apply Kd.R_alloc | apply Kd.R_drewN | apply Kd.R_drew)); exact Kd.R_mono HO3383.out (fun _ hk => ⟨hk.1.1.1.2, hk.1.1.2⟩)⟩, ⟨by repeat (first | (with_reducible first | exact HB.out | apply below_alloc | apply pw_below_drewN | apply below_drew1) | exact HB.out)⟩⟩
            · rw [if_neg c20] at H
              have c20b0 : (t3373 == t3385) = false := beq_eq_false_iff_ne.mpr c20
              have c20b1 : (t3373 != t3385) = true := bne_iff_ne.mpr c20
              (first | rw [c20b0] | (simp only [i64_w, i32_w]; rw [c20b0]) | skip)
              have H' := Aside0.mk H
              clear H
              go_wp2
              go_meet
              case rel => exact ⟨_, (true), (by first | rfl | (simp; done) | (simp [*]; done)), H', ⟨by have := HJ4.out; first | omega | exact Nat.le_refl _⟩, ⟨by (with_reducible repeat (first | apply Kd.R_alloc | apply Kd.R_drewN | apply Kd.R_drew)); exact Kd.R_mono HO3375.out (fun _ hk => ⟨hk.1.1.1.2, hk.1.1.2⟩)⟩, ⟨by (with_reducible repeat (first | apply Kd.R_alloc | apply Kd.R_drewN | apply Kd.R_drew)); exact Kd.R_mono HO3379.out (fun _ hk => ⟨hk.1.1.1.2, hk.1.1.2⟩)⟩, ⟨by (with_reducible repeat (first | apply Kd.R_alloc | apply Kd.R_drewN | apply Kd.R_drew)); exact Kd.R_mono HO3383.out (fun _ hk => ⟨hk.1.1.1.2, hk.1.1.2⟩)⟩, ⟨by repeat (first | (with_reducible first | exact HB.out | apply below_alloc | apply pw_below_drewN | apply below_drew1) | exact HB.out)⟩⟩
          case rest =>
            clear HC14
            try clear c1
            try clear c2
            try clear p2
            try clear c4
            try clear c5
            try clear c7
            try clear c7b0
            try clear c7b1
            try clear c8
            try clear c12
            try clear c20
            try clear c20b0
            try clear c20b1
            try clear c21
            try clear c21b0
            try clear c21b1
            try clear c23
            try clear p2
            obtain ⟨kq, x78_13, rfl, HA, HJ13, HO_5, HO_7, HO_9, HB⟩ := hcut
            cases kq with
            | zero => exact absurd HA.out (by simp [caulklaw39_BitmapApart.j1])
            | succ kj13 =>
              have H := HA.out
              clear HA
              simp only [caulklaw39_BitmapApart.j1] at H
              by_cases c31 : x78_13 = true
              · subst c31
                have H1 : (some false) = some r := by rw [if_pos rfl] at H; exact H
                clear H
                have H := H1
                clear H1
                exact absurd ((Option.some.inj H).trans hrt.out) (by simp)
              · replace c31 := Bool.eq_false_iff.mpr c31
                subst c31
                have H1 : (if (l0.length : Int) = (l1.length : Int) then (if t3381 = 0 then (if (t3372.length : Int) = (l0.length : Int) then (if (t3376.length : Int) = (l0.length : Int) then (caulklaw39_BitmapApart.j2 kj13 l0 l1 t3372 t3376 t3380 ((t3380.length : Int) != (l0.length : Int))) else (caulklaw39_BitmapApart.j2 kj13 l0 l1 t3372 t3376 t3380 true)) else (caulklaw39_BitmapApart.j2 kj13 l0 l1 t3372 t3376 t3380 true)) else (caulklaw39_BitmapApart.j2 kj13 l0 l1 t3372 t3376 t3380 true)) else (some (t3381 == 2))) = some r := by rw [if_neg (show ¬ (false = true) by decide)] at H; exact H
                clear H
                have H := H1
                clear H1
                by_cases c32 : (l0.length : Int) = (l1.length : Int)
                · rw [if_pos c32] at H
                  have c32b0 : ((l0.length : Int) == (l1.length : Int)) = true := beq_iff_eq.mpr c32
                  have c32b1 : ((l0.length : Int) != (l1.length : Int)) = false := bne_eq_false_iff_eq.mpr c32
                  have c32b2 : (l0.length == l1.length) = true := by first | simpa using c32 | (simp at c32 ⊢; omega)
                  clear c32
                  have HC33 := Aside0.mk H
                  clear H
                  go_upto_region 14 with (fail)
                  go_cut [108] (fun v108 wc => ∃ (kq : Nat) (x108_32 : Bool), v108 = .bool x108_32 ∧ Aside0 (caulklaw39_BitmapApart.j2 kq l0 l1 t3372 t3376 t3380 x108_32 = some r) ∧ Aside0 (kq ≤ kj13) ∧ Aside0 (Kd.R Kd.bool 4 wc w.heap.size (fun k_ => some k_ ≠ (v3378 : Value).ownBlock ∧ some k_ ≠ (v3382 : Value).ownBlock) v3374 t3372) ∧ Aside0 (Kd.R Kd.bool 4 wc w.heap.size (fun k_ => some k_ ≠ (v3374 : Value).ownBlock ∧ some k_ ≠ (v3382 : Value).ownBlock) v3378 t3376) ∧ Aside0 (Kd.R Kd.bool 4 wc w.heap.size (fun k_ => some k_ ≠ (v3374 : Value).ownBlock ∧ some k_ ≠ (v3378 : Value).ownBlock) v3382 t3380) ∧ Aside0 (Below w.heap.size w wc))
                  case first =>
                    have H := HC33.out
                    clear HC33
                    by_cases c34 : t3381 = 0
                    · rw [if_pos c34] at H
                      have c34b0 : (t3381 == 0) = true := beq_iff_eq.mpr c34
                      have c34b1 : (t3381 != 0) = false := bne_eq_false_iff_eq.mpr c34
                      clear c34
                      (first | rw [c34b0] | (simp only [i64_w, i32_w]; rw [c34b0]) | skip)
                      by_cases c35 : (t3372.length : Int) = (l0.length : Int)
                      · rw [if_pos c35] at H
                        have c35b0 : ((t3372.length : Int) == (l0.length : Int)) = true := beq_iff_eq.mpr c35
                        have c35b1 : ((t3372.length : Int) != (l0.length : Int)) = false := bne_eq_false_iff_eq.mpr c35
                        have c35b2 : (t3372.length == l0.length) = true := by first | simpa using c35 | (simp at c35 ⊢; omega)
                        clear c35
                        by_cases c36 : (t3376.length : Int) = (l0.length : Int)
                        · rw [if_pos c36] at H
                          have c36b0 : ((t3376.length : Int) == (l0.length : Int)) = true := beq_iff_eq.mpr c36
                          have c36b1 : ((t3376.length : Int) != (l0.length : Int)) = false := bne_eq_false_iff_eq.mpr c36
                          have c36b2 : (t3376.length == l0.length) = true := by first | simpa using c36 | (simp at c36 ⊢; omega)
                          clear c36
                          have H' := Aside0.mk H
                          clear H
                          obtain ⟨Ao37, co37, eo37⟩ := Kd.R_slice HO_5.out
                          subst eo37
                          obtain ⟨Ao38, co38, eo38⟩ := Kd.R_slice HO_7.out
                          subst eo38
                          obtain ⟨Ao39, co39, eo39⟩ := Kd.R_slice HO_9.out
                          subst eo39
                          go_wp2
                          go_meet
                          case rel => exact ⟨_, (((t3380.length : Int) != (l0.length : Int))), (by first | rfl | (simp; done) | (simp [*]; done)), H', ⟨by have := HJ4.out; have := HJ13.out; first | omega | exact Nat.le_refl _⟩, ⟨by (with_reducible repeat (first | apply Kd.R_alloc | apply Kd.R_drewN | apply Kd.R_drew)); exact HO_5.out⟩, ⟨by (with_reducible repeat (first | apply Kd.R_alloc | apply Kd.R_drewN | apply Kd.R_drew)); exact HO_7.out⟩, ⟨by (with_reducible repeat (first | apply Kd.R_alloc | apply Kd.R_drewN | apply Kd.R_drew)); exact HO_9.out⟩, ⟨by repeat (first | (with_reducible first | exact HB.out | apply below_alloc | apply pw_below_drewN | apply below_drew1) | exact HB.out)⟩⟩
                        · rw [if_neg c36] at H
                          have c36b0 : ((t3376.length : Int) == (l0.length : Int)) = false := beq_eq_false_iff_ne.mpr c36
                          have c36b1 : ((t3376.length : Int) != (l0.length : Int)) = true := bne_iff_ne.mpr c36
                          have c36b2 : (t3376.length == l0.length) = false := by first | simpa using c36 | (simp at c36 ⊢; omega)
                          have H' := Aside0.mk H
                          clear H
                          obtain ⟨Ao40, co40, eo40⟩ := Kd.R_slice HO_5.out
                          subst eo40
                          obtain ⟨Ao41, co41, eo41⟩ := Kd.R_slice HO_7.out
                          subst eo41
                          go_wp2
                          go_meet
                          case rel => exact ⟨_, (true), (by first | rfl | (simp; done) | (simp [*]; done)), H', ⟨by have := HJ4.out; have := HJ13.out; first | omega | exact Nat.le_refl _⟩, ⟨by (with_reducible repeat (first | apply Kd.R_alloc | apply Kd.R_drewN | apply Kd.R_drew)); exact HO_5.out⟩, ⟨by (with_reducible repeat (first | apply Kd.R_alloc | apply Kd.R_drewN | apply Kd.R_drew)); exact HO_7.out⟩, ⟨by (with_reducible repeat (first | apply Kd.R_alloc | apply Kd.R_drewN | apply Kd.R_drew)); exact HO_9.out⟩, ⟨by repeat (first | (with_reducible first | exact HB.out | apply below_alloc | apply pw_below_drewN | apply below_drew1) | exact HB.out)⟩⟩
                      · rw [if_neg c35] at H
                        have c35b0 : ((t3372.length : Int) == (l0.length : Int)) = false := beq_eq_false_iff_ne.mpr c35
                        have c35b1 : ((t3372.length : Int) != (l0.length : Int)) = true := bne_iff_ne.mpr c35
                        have c35b2 : (t3372.length == l0.length) = false := by first | simpa using c35 | (simp at c35 ⊢; omega)
                        have H' := Aside0.mk H
                        clear H
                        obtain ⟨Ao42, co42, eo42⟩ := Kd.R_slice HO_5.out
                        subst eo42
                        go_wp2
                        go_meet
                        case rel => exact ⟨_, (true), (by first | rfl | (simp; done) | (simp [*]; done)), H', ⟨by have := HJ4.out; have := HJ13.out; first | omega | exact Nat.le_refl _⟩, ⟨by (with_reducible repeat (first | apply Kd.R_alloc | apply Kd.R_drewN | apply Kd.R_drew)); exact HO_5.out⟩, ⟨by (with_reducible repeat (first | apply Kd.R_alloc | apply Kd.R_drewN | apply Kd.R_drew)); exact HO_7.out⟩, ⟨by (with_reducible repeat (first | apply Kd.R_alloc | apply Kd.R_drewN | apply Kd.R_drew)); exact HO_9.out⟩, ⟨by repeat (first | (with_reducible first | exact HB.out | apply below_alloc | apply pw_below_drewN | apply below_drew1) | exact HB.out)⟩⟩
                    · rw [if_neg c34] at H
                      have c34b0 : (t3381 == 0) = false := beq_eq_false_iff_ne.mpr c34
                      have c34b1 : (t3381 != 0) = true := bne_iff_ne.mpr c34
                      (first | rw [c34b0] | (simp only [i64_w, i32_w]; rw [c34b0]) | skip)
                      have H' := Aside0.mk H
                      clear H
                      go_wp2
                      go_meet
                      case rel => exact ⟨_, (true), (by first | rfl | (simp; done) | (simp [*]; done)), H', ⟨by have := HJ4.out; have := HJ13.out; first | omega | exact Nat.le_refl _⟩, ⟨by (with_reducible repeat (first | apply Kd.R_alloc | apply Kd.R_drewN | apply Kd.R_drew)); exact HO_5.out⟩, ⟨by (with_reducible repeat (first | apply Kd.R_alloc | apply Kd.R_drewN | apply Kd.R_drew)); exact HO_7.out⟩, ⟨by (with_reducible repeat (first | apply Kd.R_alloc | apply Kd.R_drewN | apply Kd.R_drew)); exact HO_9.out⟩, ⟨by repeat (first | (with_reducible first | exact HB.out | apply below_alloc | apply pw_below_drewN | apply below_drew1) | exact HB.out)⟩⟩
                  case rest =>
                    clear HC33
                    try clear c1
                    try clear c2
                    try clear p2
                    try clear c3
                    try clear c4
                    try clear c5
                    try clear c7
                    try clear c7b0
                    try clear c7b1
                    try clear c8
                    try clear c12
                    try clear c20
                    try clear c20b0
                    try clear c20b1
                    try clear c21
                    try clear c21b0
                    try clear c21b1
                    try clear c23
                    try clear c31
                    try clear c32
                    try clear c32b0
                    try clear c32b1
                    try clear c32b2
                    try clear c34
                    try clear c34b0
                    try clear c34b1
                    try clear c35
                    try clear c35b0
                    try clear c35b1
                    try clear c35b2
                    try clear c36
                    try clear c36b0
                    try clear c36b1
                    try clear c36b2
                    try clear p2
                    obtain ⟨kq, x108_32, rfl, HA, HJ32, HO_5, HO_7, HO_9, HB⟩ := hcut
                    cases kq with
                    | zero => exact absurd HA.out (by simp [caulklaw39_BitmapApart.j2])
                    | succ kj32 =>
                      have H := HA.out
                      clear HA
                      simp only [caulklaw39_BitmapApart.j2] at H
                      by_cases c43 : x108_32 = true
                      · subst c43
                        have H1 : (some false) = some r := by rw [if_pos rfl] at H; exact H
                        clear H
                        have H := H1
                        clear H1
                        exact absurd ((Option.some.inj H).trans hrt.out) (by simp)
                      · replace c43 := Bool.eq_false_iff.mpr c43
                        subst c43
                        have H1 : (caulklaw39_BitmapApart.l0 kj32 l0 l1 t3372 t3376 t3380 (l0.length : Int) 0) = some r := by rw [if_neg (show ¬ (false = true) by decide)] at H; exact H
                        clear H
                        have H := H1
                        clear H1
                        have H' := Aside0.mk H
                        clear H
                        go_wp2
                        go_loopg [111] kj32 (fun kq v111 w' => ∃ (x111_4 : Int), v111 = .int .i64 x111_4 ∧ Aside0 (caulklaw39_BitmapApart.l0 kq l0 l1 t3372 t3376 t3380 (l0.length : Int) x111_4 = some r) ∧ Aside0 (kq ≤ kj32) ∧ Aside0 (Kd.R Kd.bool 4 w' w.heap.size (fun k_ => some k_ ≠ (v3378 : Value).ownBlock ∧ some k_ ≠ (v3382 : Value).ownBlock) v3374 t3372) ∧ Aside0 (Kd.R Kd.bool 4 w' w.heap.size (fun k_ => some k_ ≠ (v3374 : Value).ownBlock ∧ some k_ ≠ (v3382 : Value).ownBlock) v3378 t3376) ∧ Aside0 (Kd.R Kd.bool 4 w' w.heap.size (fun k_ => some k_ ≠ (v3374 : Value).ownBlock ∧ some k_ ≠ (v3378 : Value).ownBlock) v3382 t3380) ∧ Aside0 (Below w.heap.size w w'))
                        case atStart => exact ⟨(0), (by first | rfl | (simp; done) | (simp [*]; done)), H', ⟨Nat.le_refl _⟩, ⟨by (with_reducible repeat (first | apply Kd.R_alloc | apply Kd.R_drewN | apply Kd.R_drew)); exact HO_5.out⟩, ⟨by (with_reducible repeat (first | apply Kd.R_alloc | apply Kd.R_drewN | apply Kd.R_drew)); exact HO_7.out⟩, ⟨by (with_reducible repeat (first | apply Kd.R_alloc | apply Kd.R_drewN | apply Kd.R_drew)); exact HO_9.out⟩, ⟨by repeat (first | (with_reducible first | exact HB.out | apply below_alloc | apply pw_below_drewN | apply below_drew1) | exact HB.out)⟩⟩
                        case round =>
                          clear H'
                          try clear c1
                          try clear c2
                          try clear p2
                          try clear c3
                          try clear c4
                          try clear c5
                          try clear c7
                          try clear c7b0
                          try clear c7b1
                          try clear c8
                          try clear c12
                          try clear c20
                          try clear c20b0
                          try clear c20b1
                          try clear c21
                          try clear c21b0
                          try clear c21b1
                          try clear c23
                          try clear c31
                          try clear c32
                          try clear c32b0
                          try clear c32b1
                          try clear c32b2
                          try clear c34
                          try clear c34b0
                          try clear c34b1
                          try clear c35
                          try clear c35b0
                          try clear c35b1
                          try clear c35b2
                          try clear c36
                          try clear c36b0
                          try clear c36b1
                          try clear c36b2
                          try clear c43
                          try clear p2
                          obtain ⟨x111_4, rfl, HA, HK4, HO_5, HO_7, HO_9, HB⟩ := hrel
                          cases gk with
                          | zero => exact absurd HA.out (by simp [caulklaw39_BitmapApart.l0])
                          | succ k4 =>
                            have H := HA.out
                            clear HA
                            simp only [caulklaw39_BitmapApart.l0] at H
                            by_cases c44 : x111_4 < (l0.length : Int)
                            · rw [if_pos c44] at H
                              have c44b0 : decide (x111_4 < (l0.length : Int)) = true := decide_eq_true c44
                              clear c44
                              by_cases c45 : 0 ≤ x111_4
                              · rw [if_pos c45] at H
                                have c45b0 : decide (0 ≤ x111_4) = true := decide_eq_true c45
                                clear c45
                                by_cases c46 : x111_4 < (t3372.length : Int)
                                · rw [if_pos c46] at H
                                  have c46b0 : decide (x111_4 < (t3372.length : Int)) = true := decide_eq_true c46
                                  clear c46
                                  by_cases c47 : x111_4 < (t3376.length : Int)
                                  · rw [if_pos c47] at H
                                    have c47b0 : decide (x111_4 < (t3376.length : Int)) = true := decide_eq_true c47
                                    clear c47
                                    by_cases c48 : x111_4 < (t3380.length : Int)
                                    · rw [if_pos c48] at H
                                      have c48b0 : decide (x111_4 < (t3380.length : Int)) = true := decide_eq_true c48
                                      clear c48
                                      obtain ⟨y3397, hy3397⟩ : ∃ y_ : List Bool, y_ = (([rdOf false t3372 x111_4, rdOf false t3376 x111_4, rdOf false t3380 x111_4] : List Bool)) := ⟨_, rfl⟩
                                      replace H : (caulklaw39_BitmapApart.l1 k4 l0 l1 t3372 t3376 t3380 x111_4 0 (l0.length : Int) x111_4 y3397 (y3397.length : Int) 0) = some r := by first | (rw [hy3397]; with_reducible exact H) | (have H2_ := (Option.bind_some _ _).symm.trans H; rw [hy3397]; with_reducible exact H2_) | (have H2_ := (Option.bind_some _ _).symm.trans H; with_reducible exact H2_) | with_reducible exact H | (rw [hy3397]; exact H) | exact H
                                      have Ny3397 := Aside0.mk hy3397
                                      clear hy3397
                                      have H' := Aside0.mk H
                                      clear H
                                      try go_wp2
                                      have n0_ := Aside0.mk (Kd.R_drew HO_5.out)
                                      have n1_ := Aside0.mk (Kd.R_drew HO_7.out)
                                      have n2_ := Aside0.mk (Kd.R_drew HO_9.out)
                                      have n3_ := Aside0.mk (below_drew1 HB.out)
                                      clear HO_5
                                      clear HO_7
                                      clear HO_9
                                      clear HB
                                      have HO_5 := n0_
                                      have HO_7 := n1_
                                      have HO_9 := n2_
                                      have HB := n3_
                                      clear n0_ n1_ n2_ n3_
                                      obtain ⟨Ao50, co50, eo50⟩ := Kd.R_slice HO_5.out
                                      (first | subst eo50 | (injection eo50 with f1_ f2_ f3_; have f4_ := f1_.symm; have f5_ := f3_.symm; clear f1_ f2_ f3_; subst f4_; subst f5_))
                                      have p3394 : 0 ≤ (x111_4 : Int) := of_decide_eq_true (by first | (with_reducible assumption) | assumption)
                                      have q3394 : x111_4 < (t3372.length : Int) := of_decide_eq_true (by first | (with_reducible assumption) | assumption)
                                      obtain ⟨ad3394, e3394, hx3394_0⟩ := Kd.at_bool (Kd.R_reads' HO_5.out).2.2 x111_4 p3394 q3394
                                      cases e3394
                                      replace p3394 := eq_true p3394
                                      replace q3394 := eq_true q3394
                                      obtain ⟨Ao51, co51, eo51⟩ := Kd.R_slice HO_7.out
                                      (first | subst eo51 | (injection eo51 with f1_ f2_ f3_; have f4_ := f1_.symm; have f5_ := f3_.symm; clear f1_ f2_ f3_; subst f4_; subst f5_))
                                      have p3395 : 0 ≤ (x111_4 : Int) := of_decide_eq_true (by first | (with_reducible assumption) | assumption)
                                      have q3395 : x111_4 < (t3376.length : Int) := of_decide_eq_true (by first | (with_reducible assumption) | assumption)
                                      obtain ⟨ad3395, e3395, hx3395_0⟩ := Kd.at_bool (Kd.R_reads' HO_7.out).2.2 x111_4 p3395 q3395
                                      cases e3395
                                      replace p3395 := eq_true p3395
                                      replace q3395 := eq_true q3395
                                      obtain ⟨Ao52, co52, eo52⟩ := Kd.R_slice HO_9.out
                                      (first | subst eo52 | (injection eo52 with f1_ f2_ f3_; have f4_ := f1_.symm; have f5_ := f3_.symm; clear f1_ f2_ f3_; subst f4_; subst f5_))
                                      have p3396 : 0 ≤ (x111_4 : Int) := of_decide_eq_true (by first | (with_reducible assumption) | assumption)
                                      have q3396 : x111_4 < (t3380.length : Int) := of_decide_eq_true (by first | (with_reducible assumption) | assumption)
                                      obtain ⟨ad3396, e3396, hx3396_0⟩ := Kd.at_bool (Kd.R_reads' HO_9.out).2.2 x111_4 p3396 q3396
                                      cases e3396
                                      replace p3396 := eq_true p3396
                                      replace q3396 := eq_true q3396
                                      refine start_ (n := 15) (S := fun w' => w'.cell? (ad3394.add (x111_4).toNat) = some (.bool (rdOf false t3372 x111_4)) ∧ w'.cell? (ad3395.add (x111_4).toNat) = some (.bool (rdOf false t3376 x111_4)) ∧ w'.cell? (ad3396.add (x111_4).toNat) = some (.bool (rdOf false t3380 x111_4))) (ds := []) #[false, false, false, false, false, false, false, false, false, false, false, false, false, false, false] (by kernel_rfl) rfl rfl ⟨hx3394_0, hx3395_0, hx3396_0⟩ (fun hHeld => ?_); refine with_tabW caulklaw39_BitmapApart.tab20 caulklaw39_BitmapApart.bits20 (fun HT_ HW_ => ?_)
                                      generalize wr.drew = w49 at HO_5 HO_7 HO_9 HB hx3394_0 hx3395_0 hx3396_0 hHeld ⊢
                                      refine pure_ (i := 0) (N := some 114) (v := ?_) (a' := ?_) #[true, false, false, false, false, false, false, false, false, false, false, false, false, false, false] rfl rfl (any_of HT_.out (by kernel_rfl)) (fun _ _ _ h => h) (Or.inl ⟨by rfl, ?_⟩) ?_ ?_
                                      rotate_left
                                      · intro w'
                                        go_simp
                                        with_reducible rfl
                                      rotate_left
                                      · simp only [Act.put, List.setIfInBounds_toArray, List.set_cons_zero, List.set_cons_succ, i64_w, i32_w]
                                        rfl
                                      refine pure_ (i := 1) (N := some 115) (v := ?_) (a' := ?_) #[true, true, false, false, false, false, false, false, false, false, false, false, false, false, false] rfl rfl (any_of HT_.out (by kernel_rfl)) (fun _ _ _ h => h) (Or.inl ⟨by rfl, ?_⟩) ?_ ?_
                                      rotate_left
                                      · intro w'
                                        go_simp
                                        with_reducible rfl
                                      rotate_left
                                      · simp only [Act.put, List.setIfInBounds_toArray, List.set_cons_zero, List.set_cons_succ, i64_w, i32_w]
                                        rfl
                                      refine pure_ (i := 2) (N := some 116) (v := ?_) (a' := ?_) #[true, true, true, false, false, false, false, false, false, false, false, false, false, false, false] rfl rfl (any_of HT_.out (by kernel_rfl)) (fun _ _ _ h => h) (Or.inl ⟨by rfl, ?_⟩) ?_ ?_
                                      rotate_left
                                      · intro w'
                                        go_simp
                                        with_reducible rfl
                                      rotate_left
                                      · simp only [Act.put, List.setIfInBounds_toArray, List.set_cons_zero, List.set_cons_succ, i64_w, i32_w]
                                        rfl
                                      refine pure_ (i := 4) (N := some 118) (v := ?_) (a' := ?_) #[true, true, true, false, true, false, false, false, false, false, false, false, false, false, false] rfl rfl (any_of HT_.out (by kernel_rfl)) (fun _ _ _ h => h) (Or.inl ⟨by rfl, ?_⟩) ?_ ?_
                                      rotate_left
                                      · intro w'
                                        go_simp
                                        with_reducible rfl
                                      rotate_left
                                      · simp only [Act.put, List.setIfInBounds_toArray, List.set_cons_zero, List.set_cons_succ, i64_w, i32_w]
                                        rfl
                                      refine pure_ (i := 5) (N := some 119) (v := ?_) (a' := ?_) #[true, true, true, false, true, true, false, false, false, false, false, false, false, false, false] rfl rfl (any_of HT_.out (by kernel_rfl)) (fun _ _ _ h => h) (Or.inl ⟨by rfl, ?_⟩) ?_ ?_
                                      rotate_left
                                      · intro w'
                                        go_simp
                                        with_reducible rfl
                                      rotate_left
                                      · simp only [Act.put, List.setIfInBounds_toArray, List.set_cons_zero, List.set_cons_succ, i64_w, i32_w]
                                        rfl
                                      refine pure_ (i := 6) (N := some 120) (v := ?_) (a' := ?_) #[true, true, true, false, true, true, true, false, false, false, false, false, false, false, false] rfl rfl (any_of HT_.out (by kernel_rfl)) (fun _ _ _ h => h) (Or.inl ⟨by rfl, ?_⟩) ?_ ?_
                                      rotate_left
                                      · intro w'
                                        go_simp
                                        with_reducible rfl
                                      rotate_left
                                      · simp only [Act.put, List.setIfInBounds_toArray, List.set_cons_zero, List.set_cons_succ, i64_w, i32_w]
                                        rfl
                                      refine pure_ (i := 8) (N := some 122) (v := ?_) (a' := ?_) #[true, true, true, false, true, true, true, false, true, false, false, false, false, false, false] rfl rfl (any_of HT_.out (by kernel_rfl)) (fun _ _ _ h => h) (Or.inl ⟨by rfl, ?_⟩) ?_ ?_
                                      rotate_left
                                      · intro w'
                                        go_simp
                                        with_reducible rfl
                                      rotate_left
                                      · simp only [Act.put, List.setIfInBounds_toArray, List.set_cons_zero, List.set_cons_succ, i64_w, i32_w]
                                        rfl
                                      refine pure_ (i := 9) (N := some 123) (v := ?_) (a' := ?_) #[true, true, true, false, true, true, true, false, true, true, false, false, false, false, false] rfl rfl (any_of HT_.out (by kernel_rfl)) (fun _ _ _ h => h) (Or.inl ⟨by rfl, ?_⟩) ?_ ?_
                                      rotate_left
                                      · intro w'
                                        go_simp
                                        with_reducible rfl
                                      rotate_left
                                      · simp only [Act.put, List.setIfInBounds_toArray, List.set_cons_zero, List.set_cons_succ, i64_w, i32_w]
                                        rfl
                                      refine pure_ (i := 10) (N := some 124) (v := ?_) (a' := ?_) #[true, true, true, false, true, true, true, false, true, true, true, false, false, false, false] rfl rfl (any_of HT_.out (by kernel_rfl)) (fun _ _ _ h => h) (Or.inl ⟨by rfl, ?_⟩) ?_ ?_
                                      rotate_left
                                      · intro w'
                                        go_simp
                                        with_reducible rfl
                                      rotate_left
                                      · simp only [Act.put, List.setIfInBounds_toArray, List.set_cons_zero, List.set_cons_succ, i64_w, i32_w]
                                        rfl
                                      refine pure_ (i := 14) (N := some 128) (v := ?_) (a' := ?_) #[true, true, true, false, true, true, true, false, true, true, true, false, false, false, true] rfl rfl (any_of HT_.out (by kernel_rfl)) (fun _ _ _ h => h) (Or.inl ⟨by rfl, ?_⟩) ?_ ?_
                                      rotate_left
                                      · intro w'
                                        go_simp
                                        with_reducible rfl
                                      rotate_left
                                      · simp only [Act.put, List.setIfInBounds_toArray, List.set_cons_zero, List.set_cons_succ, i64_w, i32_w]
                                        rfl
                                      refine take_ (i := 3) (N := some 117) (v := ?_) (a' := ?_) #[true, true, true, true, true, true, true, false, true, true, true, false, false, false, true] rfl rfl (take_ofW HT_.out HW_.out (by kernel_rfl)) (fun _ _ _ h => h) (Or.inl ⟨by rfl, ?_⟩) hHeld ?_ ?_
                                      rotate_left
                                      · rintro w' ⟨s0, s1, s2⟩
                                        go_simp
                                        with_reducible rfl
                                      rotate_left
                                      · simp only [Act.put, List.setIfInBounds_toArray, List.set_cons_zero, List.set_cons_succ, i64_w, i32_w]
                                        rfl
                                      refine take_ (i := 7) (N := some 121) (v := ?_) (a' := ?_) #[true, true, true, true, true, true, true, true, true, true, true, false, false, false, true] rfl rfl (take_ofW HT_.out HW_.out (by kernel_rfl)) (fun _ _ _ h => h) (Or.inl ⟨by rfl, ?_⟩) hHeld ?_ ?_
                                      rotate_left
                                      · rintro w' ⟨s0, s1, s2⟩
                                        go_simp
                                        with_reducible rfl
                                      rotate_left
                                      · simp only [Act.put, List.setIfInBounds_toArray, List.set_cons_zero, List.set_cons_succ, i64_w, i32_w]
                                        rfl
                                      refine take_ (i := 11) (N := some 125) (v := ?_) (a' := ?_) #[true, true, true, true, true, true, true, true, true, true, true, true, false, false, true] rfl rfl (take_ofW HT_.out HW_.out (by kernel_rfl)) (fun _ _ _ h => h) (Or.inl ⟨by rfl, ?_⟩) hHeld ?_ ?_
                                      rotate_left
                                      · rintro w' ⟨s0, s1, s2⟩
                                        go_simp
                                        with_reducible rfl
                                      rotate_left
                                      · simp only [Act.put, List.setIfInBounds_toArray, List.set_cons_zero, List.set_cons_succ, i64_w, i32_w]
                                        rfl
                                      refine one_ (i := 12) (N := some 126) #[true, true, true, true, true, true, true, true, true, true, true, true, true, false, true] rfl rfl (one_of HT_.out (by kernel_rfl)) (by decide) (fun K hK => ?_)
                                      refine Kd.R_lit_step Kd.bool _ 4 ?hg (N := 126) ?hd (xs := ([rdOf false t3372 x111_4, rdOf false t3376 x111_4, rdOf false t3380 x111_4] : List Bool)) (inner := [.bool (rdOf false t3372 x111_4), .bool (rdOf false t3376 x111_4), .bool (rdOf false t3380 x111_4)]) (ok := fun _ => True) (okp := fun _ => True) ?hr ?hp (fun _ hk => hk) trivial (Below.refl _ _) (Nat.le_refl _) (by simp) ?_; (case hd => rfl); (case hg => rfl); (case hr => first | (go_simp; done) | (go_simp; rfl)); (case hp => exact (Reps.one (show Kd.M Kd.bool _ _ _ (rdOf false t3372 x111_4) [.bool (rdOf false t3372 x111_4)] from rfl) (Reps.one (show Kd.M Kd.bool _ _ _ (rdOf false t3376 x111_4) [.bool (rdOf false t3376 x111_4)] from rfl) (Reps.one (show Kd.M Kd.bool _ _ _ (rdOf false t3380 x111_4) [.bool (rdOf false t3380 x111_4)] from rfl) (Reps.none _ _)))))
                                      intro v3398 w53 ho54 hb hg_ hnew_
                                      have HS0_ := (hb.cell (World.block_lt_of_cell? _ _ (hHeld.1))).trans (hHeld.1)
                                      have HS1_ := (hb.cell (World.block_lt_of_cell? _ _ (hHeld.2.1))).trans (hHeld.2.1)
                                      have HS2_ := (hb.cell (World.block_lt_of_cell? _ _ (hHeld.2.2))).trans (hHeld.2.2)
                                      clear hg_ hnew_
                                      (first | rw [← Ny3397.out] at ho54 | (simp only [Int.reduceToNat] at ho54; rw [← Ny3397.out] at ho54))
                                      have n0_ := Aside0.mk (Kd.R_elder' (by (with_reducible repeat (first | apply Kd.R_alloc | apply Kd.R_drewN | apply Kd.R_drew)); exact HO_5.out) (Kd.R_base ho54) hb)
                                      have n1_ := Aside0.mk (Kd.R_elder' (by (with_reducible repeat (first | apply Kd.R_alloc | apply Kd.R_drewN | apply Kd.R_drew)); exact HO_7.out) (Kd.R_base ho54) hb)
                                      have n2_ := Aside0.mk (Kd.R_elder' (by (with_reducible repeat (first | apply Kd.R_alloc | apply Kd.R_drewN | apply Kd.R_drew)); exact HO_9.out) (Kd.R_base ho54) hb)
                                      have n3_ := Aside0.mk (Kd.R_lower (Kd.R_new' (Kd.R_new' (Kd.R_new' ho54 (Kd.R_lt (by (with_reducible repeat (first | apply Kd.R_alloc | apply Kd.R_drewN | apply Kd.R_drew)); exact HO_5.out))) (Kd.R_lt (by (with_reducible repeat (first | apply Kd.R_alloc | apply Kd.R_drewN | apply Kd.R_drew)); exact HO_7.out))) (Kd.R_lt (by (with_reducible repeat (first | apply Kd.R_alloc | apply Kd.R_drewN | apply Kd.R_drew)); exact HO_9.out))) (below_size (by repeat (first | (with_reducible first | exact HB.out | apply below_alloc | apply pw_below_drewN | apply below_drew1) | exact HB.out))))
                                      have n4_ := Aside0.mk (below_step (by repeat (first | (with_reducible first | exact HB.out | apply below_alloc | apply pw_below_drewN | apply below_drew1) | exact HB.out)) hb)
                                      clear HO_5
                                      clear HO_7
                                      clear HO_9
                                      clear HB
                                      have HO_5 := n0_
                                      have HO_7 := n1_
                                      have HO_9 := n2_
                                      have HO3399 := n3_
                                      have HB := n4_
                                      clear n0_ n1_ n2_ n3_ n4_
                                      clear hb ho54
                                      obtain ⟨Ao55, co55, eo55⟩ := Kd.R_slice HO3399.out
                                      (first | subst eo55 | (injection eo55 with f1_ f2_ f3_; have f4_ := f1_.symm; have f5_ := f3_.symm; clear f1_ f2_ f3_; subst f4_; subst f5_))
                                      refine hK.out _ _ ⟨HS0_, HS1_, HS2_⟩ (fun hHeld => ?_)
                                      clear hK K
                                      refine norm_ (a' := ?_) ?_ ?_
                                      rotate_left
                                      · show Act.put _ (some 126) _ = _
                                        simp only [Act.put, List.setIfInBounds_toArray, List.set_cons_zero, List.set_cons_succ, i64_w, i32_w]
                                        rfl
                                      refine pure_ (i := 13) (N := some 127) (v := ?_) (a' := ?_) #[true, true, true, true, true, true, true, true, true, true, true, true, true, true, true] rfl rfl (any_of HT_.out (by kernel_rfl)) (fun _ _ _ h => h) (Or.inl ⟨by rfl, ?_⟩) ?_ ?_
                                      rotate_left
                                      · intro w'
                                        go_simp
                                        with_reducible rfl
                                      rotate_left
                                      · simp only [Act.put, List.setIfInBounds_toArray, List.set_cons_zero, List.set_cons_succ, i64_w, i32_w]
                                        rfl
                                      refine done_ (done_of HT_.out (by kernel_rfl)) ?_
                                      try go_wp2
                                      go_loopg [16, 128] k4 (fun kq v16 v128 w' => ∃ (x16_5 : Int) (x128_5 : Int), v16 = .int .i64 x16_5 ∧ v128 = .int .i64 x128_5 ∧ Aside0 (caulklaw39_BitmapApart.l1 kq l0 l1 t3372 t3376 t3380 x111_4 x16_5 (l0.length : Int) x111_4 y3397 (y3397.length : Int) x128_5 = some r) ∧ Aside0 (kq ≤ k4) ∧ Aside0 (Kd.R Kd.bool 4 w' w.heap.size (fun k_ => some k_ ≠ ((.slice (some ad3395) t3376.length co51) : Value).ownBlock ∧ some k_ ≠ ((.slice (some ad3396) t3380.length co52) : Value).ownBlock ∧ some k_ ≠ ((.slice Ao55 y3397.length co55) : Value).ownBlock) (.slice (some ad3394) t3372.length co50) t3372) ∧ Aside0 (Kd.R Kd.bool 4 w' w.heap.size (fun k_ => some k_ ≠ ((.slice (some ad3394) t3372.length co50) : Value).ownBlock ∧ some k_ ≠ ((.slice (some ad3396) t3380.length co52) : Value).ownBlock ∧ some k_ ≠ ((.slice Ao55 y3397.length co55) : Value).ownBlock) (.slice (some ad3395) t3376.length co51) t3376) ∧ Aside0 (Kd.R Kd.bool 4 w' w.heap.size (fun k_ => some k_ ≠ ((.slice (some ad3394) t3372.length co50) : Value).ownBlock ∧ some k_ ≠ ((.slice (some ad3395) t3376.length co51) : Value).ownBlock ∧ some k_ ≠ ((.slice Ao55 y3397.length co55) : Value).ownBlock) (.slice (some ad3396) t3380.length co52) t3380) ∧ Aside0 (Kd.R Kd.bool 4 w' w.heap.size (fun k_ => some k_ ≠ ((.slice (some ad3394) t3372.length co50) : Value).ownBlock ∧ some k_ ≠ ((.slice (some ad3395) t3376.length co51) : Value).ownBlock ∧ some k_ ≠ ((.slice (some ad3396) t3380.length co52) : Value).ownBlock) (.slice Ao55 y3397.length co55) y3397) ∧ Aside0 (Below w.heap.size w w'))
                                      case atStart => exact ⟨(0), (0), (by first | rfl | (simp; done) | (simp [*]; done)), (by first | rfl | (simp; done) | (simp [*]; done)), H', ⟨Nat.le_refl _⟩, ⟨by (with_reducible repeat (first | apply Kd.R_alloc | apply Kd.R_drewN | apply Kd.R_drew)); exact Kd.R_mono HO_5.out (fun _ hk => ⟨hk.1.1, ⟨hk.1.2, hk.2⟩⟩)⟩, ⟨by (with_reducible repeat (first | apply Kd.R_alloc | apply Kd.R_drewN | apply Kd.R_drew)); exact Kd.R_mono HO_7.out (fun _ hk => ⟨hk.1.1, ⟨hk.1.2, hk.2⟩⟩)⟩, ⟨by (with_reducible repeat (first | apply Kd.R_alloc | apply Kd.R_drewN | apply Kd.R_drew)); exact Kd.R_mono HO_9.out (fun _ hk => ⟨hk.1.1, ⟨hk.1.2, hk.2⟩⟩)⟩, ⟨by (with_reducible repeat (first | apply Kd.R_alloc | apply Kd.R_drewN | apply Kd.R_drew)); exact Kd.R_mono HO3399.out (fun _ hk => ⟨hk.1.1.2, ⟨hk.1.2, hk.2⟩⟩)⟩, ⟨by repeat (first | (with_reducible first | exact HB.out | apply below_alloc | apply pw_below_drewN | apply below_drew1) | exact HB.out)⟩⟩
                                      case round =>
                                        clear H'
                                        try clear c1
                                        try clear c2
                                        try clear p2
                                        try clear c3
                                        try clear p3
                                        try clear q3
                                        try clear hx3
                                        try clear c4
                                        try clear c5
                                        try clear c7
                                        try clear c7b0
                                        try clear c7b1
                                        try clear c8
                                        try clear c12
                                        try clear c20
                                        try clear c20b0
                                        try clear c20b1
                                        try clear c21
                                        try clear c21b0
                                        try clear c21b1
                                        try clear c23
                                        try clear c31
                                        try clear c32
                                        try clear c32b0
                                        try clear c32b1
                                        try clear c32b2
                                        try clear p33
                                        try clear q33
                                        try clear hx33
                                        try clear c34
                                        try clear c34b0
                                        try clear c34b1
                                        try clear c35
                                        try clear c35b0
                                        try clear c35b1
                                        try clear c35b2
                                        try clear c36
                                        try clear c36b0
                                        try clear c36b1
                                        try clear c36b2
                                        try clear c43
                                        try clear c44
                                        try clear c44b0
                                        try clear c45
                                        try clear c45b0
                                        try clear c46
                                        try clear c46b0
                                        try clear c47
                                        try clear c47b0
                                        try clear c48
                                        try clear c48b0
                                        try clear c55
                                        try clear hx3394_0
                                        try clear hx3395_0
                                        try clear hx3396_0
                                        try clear p2
                                        try clear p3394
                                        try clear p3395
                                        try clear p3396
                                        try clear q3394
                                        try clear q3395
                                        try clear q3396
                                        obtain ⟨x16_5, x128_5, rfl, rfl, HA, HK5, HO_5, HO_7, HO_9, HO_126, HB⟩ := hrel
                                        cases gk with
                                        | zero => exact absurd HA.out (by simp [caulklaw39_BitmapApart.l1])
                                        | succ k5 =>
                                          have H := HA.out
                                          clear HA
                                          simp only [caulklaw39_BitmapApart.l1] at H
                                          by_cases c56 : x128_5 < (y3397.length : Int)
                                          · rw [if_pos c56] at H
                                            have c56b0 : decide (x128_5 < (y3397.length : Int)) = true := decide_eq_true c56
                                            clear c56
                                            by_cases c57 : 0 ≤ x128_5
                                            · rw [if_pos c57] at H
                                              have c57b0 : decide (0 ≤ x128_5) = true := decide_eq_true c57
                                              clear c57
                                              by_cases c58 : x128_5 < (y3397.length : Int)
                                              · rw [if_pos c58] at H
                                                have c58b0 : decide (x128_5 < (y3397.length : Int)) = true := decide_eq_true c58
                                                clear c58
                                                obtain ⟨bq59, hbq59⟩ : ∃ b_ : Bool, b_ = (rdOf false y3397 x128_5) := ⟨_, rfl⟩
                                                replace H : (if bq59 = true then (caulklaw39_BitmapApart.l1 k5 l0 l1 t3372 t3376 t3380 x111_4 (wrap64 (x16_5 + 1)) (l0.length : Int) x111_4 y3397 (y3397.length : Int) (wrap64 (x128_5 + 1))) else (caulklaw39_BitmapApart.l1 k5 l0 l1 t3372 t3376 t3380 x111_4 x16_5 (l0.length : Int) x111_4 y3397 (y3397.length : Int) (wrap64 (x128_5 + 1)))) = some r := by rw [← hbq59] at H; exact H
                                                have Nbq59 := Aside0.mk hbq59
                                                clear hbq59
                                                by_cases c60 : bq59 = true
                                                · subst c60
                                                  have H1 : (caulklaw39_BitmapApart.l1 k5 l0 l1 t3372 t3376 t3380 x111_4 (wrap64 (x16_5 + 1)) (l0.length : Int) x111_4 y3397 (y3397.length : Int) (wrap64 (x128_5 + 1))) = some r := by rw [if_pos rfl] at H; exact H
                                                  clear H
                                                  have H := H1
                                                  clear H1
                                                  have H' := Aside0.mk H
                                                  clear H
                                                  have p3400 : 0 ≤ (x128_5 : Int) := of_decide_eq_true (by first | (with_reducible assumption) | assumption)
                                                  have q3400 : x128_5 < (y3397.length : Int) := of_decide_eq_true (by first | (with_reducible assumption) | assumption)
                                                  obtain ⟨ad3400, e3400, hx3400_0⟩ := Kd.at_bool (Kd.R_reads' HO_126.out).2.2 x128_5 p3400 q3400
                                                  (try rw [← Nbq59.out] at hx3400_0)
                                                  cases e3400
                                                  replace p3400 := eq_true p3400
                                                  replace q3400 := eq_true q3400
                                                  go_wp2
                                                  go_roundg k5
                                                  case measure => have := HJ4.out; have := HJ13.out; have := HJ32.out; have := HK4.out; have := HK5.out; omega
                                                  case rel => exact ⟨(wrap64 (x16_5 + 1)), (wrap64 (x128_5 + 1)), (by first | rfl | (simp; done) | (simp [*]; done)), (by first | rfl | (simp; done) | (simp [*]; done)), H', ⟨by have := HJ4.out; have := HJ13.out; have := HJ32.out; have := HK4.out; have := HK5.out; omega⟩, ⟨by (with_reducible repeat (first | apply Kd.R_alloc | apply Kd.R_drewN | apply Kd.R_drew)); exact HO_5.out⟩, ⟨by (with_reducible repeat (first | apply Kd.R_alloc | apply Kd.R_drewN | apply Kd.R_drew)); exact HO_7.out⟩, ⟨by (with_reducible repeat (first | apply Kd.R_alloc | apply Kd.R_drewN | apply Kd.R_drew)); exact HO_9.out⟩, ⟨by (with_reducible repeat (first | apply Kd.R_alloc | apply Kd.R_drewN | apply Kd.R_drew)); exact HO_126.out⟩, ⟨by repeat (first | (with_reducible first | exact HB.out | apply below_alloc | apply pw_below_drewN | apply below_drew1) | exact HB.out)⟩⟩
                                                · replace c60 := Bool.eq_false_iff.mpr c60
                                                  subst c60
                                                  have H1 : (caulklaw39_BitmapApart.l1 k5 l0 l1 t3372 t3376 t3380 x111_4 x16_5 (l0.length : Int) x111_4 y3397 (y3397.length : Int) (wrap64 (x128_5 + 1))) = some r := by rw [if_neg (show ¬ (false = true) by decide)] at H; exact H
                                                  clear H
                                                  have H := H1
                                                  clear H1
                                                  have H' := Aside0.mk H
                                                  clear H
                                                  have p3400 : 0 ≤ (x128_5 : Int) := of_decide_eq_true (by first | (with_reducible assumption) | assumption)
                                                  have q3400 : x128_5 < (y3397.length : Int) := of_decide_eq_true (by first | (with_reducible assumption) | assumption)
                                                  obtain ⟨ad3400, e3400, hx3400_0⟩ := Kd.at_bool (Kd.R_reads' HO_126.out).2.2 x128_5 p3400 q3400
                                                  (try rw [← Nbq59.out] at hx3400_0)
                                                  cases e3400
                                                  replace p3400 := eq_true p3400
                                                  replace q3400 := eq_true q3400
                                                  go_wp2
                                                  go_roundg k5
                                                  case measure => have := HJ4.out; have := HJ13.out; have := HJ32.out; have := HK4.out; have := HK5.out; omega
                                                  case rel => exact ⟨(x16_5), (wrap64 (x128_5 + 1)), (by first | rfl | (simp; done) | (simp [*]; done)), (by first | rfl | (simp; done) | (simp [*]; done)), H', ⟨by have := HJ4.out; have := HJ13.out; have := HJ32.out; have := HK4.out; have := HK5.out; omega⟩, ⟨by (with_reducible repeat (first | apply Kd.R_alloc | apply Kd.R_drewN | apply Kd.R_drew)); exact HO_5.out⟩, ⟨by (with_reducible repeat (first | apply Kd.R_alloc | apply Kd.R_drewN | apply Kd.R_drew)); exact HO_7.out⟩, ⟨by (with_reducible repeat (first | apply Kd.R_alloc | apply Kd.R_drewN | apply Kd.R_drew)); exact HO_9.out⟩, ⟨by (with_reducible repeat (first | apply Kd.R_alloc | apply Kd.R_drewN | apply Kd.R_drew)); exact HO_126.out⟩, ⟨by repeat (first | (with_reducible first | exact HB.out | apply below_alloc | apply pw_below_drewN | apply below_drew1) | exact HB.out)⟩⟩
                                              · rw [if_neg c58] at H
                                                exact absurd H (by simp)
                                            · rw [if_neg c57] at H
                                              exact absurd H (by simp)
                                          · rw [if_neg c56] at H
                                            have c56b0 : decide (x128_5 < (y3397.length : Int)) = false := decide_eq_false c56
                                            clear c56
                                            by_cases c61 : x16_5 > 1
                                            · rw [if_pos c61] at H
                                              have c61b0 : decide (1 < x16_5) = true := decide_eq_true c61
                                              clear c61
                                              exact absurd ((Option.some.inj H).trans hrt.out) (by simp)
                                            · rw [if_neg c61] at H
                                              have c61b0 : decide (1 < x16_5) = false := decide_eq_false c61
                                              clear c61
                                              by_cases c62 : 0 ≤ x111_4
                                              · rw [if_pos c62] at H
                                                have c62b0 : decide (0 ≤ x111_4) = true := decide_eq_true c62
                                                clear c62
                                                by_cases c63 : x111_4 < (l0.length : Int)
                                                · rw [if_pos c63] at H
                                                  have c63b0 : decide (x111_4 < (l0.length : Int)) = true := decide_eq_true c63
                                                  clear c63
                                                  obtain ⟨bq64, hbq64⟩ : ∃ b_ : Bool, b_ = (rdOf false l0 x111_4) := ⟨_, rfl⟩
                                                  replace H : (if bq64 = true then (if ((x16_5 == 1) != true) = true then (some false) else (caulklaw39_BitmapApart.l0 k5 l0 l1 t3372 t3376 t3380 (l0.length : Int) (wrap64 (x111_4 + 1)))) else (if x111_4 < (l1.length : Int) then (if ((x16_5 == 1) != (rdOf false l1 x111_4)) = true then (some false) else (caulklaw39_BitmapApart.l0 k5 l0 l1 t3372 t3376 t3380 (l0.length : Int) (wrap64 (x111_4 + 1)))) else (none))) = some r := by rw [← hbq64] at H; exact H
                                                  have Nbq64 := Aside0.mk hbq64
                                                  clear hbq64
                                                  by_cases c65 : bq64 = true
                                                  · subst c65
                                                    have H1 : (if ((x16_5 == 1) != true) = true then (some false) else (caulklaw39_BitmapApart.l0 k5 l0 l1 t3372 t3376 t3380 (l0.length : Int) (wrap64 (x111_4 + 1)))) = some r := by rw [if_pos rfl] at H; exact H
                                                    clear H
                                                    have H := H1
                                                    clear H1
                                                    by_cases c66 : ((x16_5 == 1) != true) = true
                                                    · rw [if_pos c66] at H
                                                      have c66b0 : ((x16_5 == 1) != true) = true := c66
                                                      (try (have c66b1 : decide ((x16_5 == 1) = true) = false := by simpa using c66))
                                                      (try (have c66b2 : ((x16_5 == 1) == true) = false := by simpa using c66))
                                                      (try (have c66b3 : ¬ ((x16_5 == 1) = true) := by simpa using c66))
                                                      clear c66
                                                      exact absurd ((Option.some.inj H).trans hrt.out) (by simp)
                                                    · rw [if_neg c66] at H
                                                      have c66b0 : ((x16_5 == 1) != true) = false := by simpa using c66
                                                      (try (have c66b1 : decide ((x16_5 == 1) = true) = true := by simpa using c66))
                                                      (try (have c66b2 : ((x16_5 == 1) == true) = true := by simpa using c66))
                                                      clear c66
                                                      have H' := Aside0.mk H
                                                      clear H
                                                      have p3401 : 0 ≤ (x111_4 : Int) := of_decide_eq_true (by first | (with_reducible assumption) | assumption)
                                                      have q3401 : x111_4 < (l0.length : Int) := of_decide_eq_true (by first | (with_reducible assumption) | assumption)
                                                      obtain ⟨ad3401, e3401, hx3401_0⟩ := Kd.at_bool HR0.out x111_4 p3401 q3401
                                                      (try rw [← Nbq64.out] at hx3401_0)
                                                      cases e3401
                                                      replace hx3401_0 := (HB.out.cell (World.block_lt_of_cell? w _ hx3401_0)).trans hx3401_0
                                                      replace p3401 := eq_true p3401
                                                      replace q3401 := eq_true q3401
                                                      go_wp2
                                                      go_roundg k5
                                                      case measure => have := HJ4.out; have := HJ13.out; have := HJ32.out; have := HK4.out; have := HK5.out; omega
                                                      case rel => exact ⟨(wrap64 (x111_4 + 1)), (by first | rfl | (simp; done) | (simp [*]; done)), H', ⟨by have := HJ4.out; have := HJ13.out; have := HJ32.out; have := HK4.out; have := HK5.out; omega⟩, ⟨by (with_reducible repeat (first | apply Kd.R_alloc | apply Kd.R_drewN | apply Kd.R_drew)); exact Kd.R_mono HO_5.out (fun _ hk => ⟨hk.1, hk.2.1⟩)⟩, ⟨by (with_reducible repeat (first | apply Kd.R_alloc | apply Kd.R_drewN | apply Kd.R_drew)); exact Kd.R_mono HO_7.out (fun _ hk => ⟨hk.1, hk.2.1⟩)⟩, ⟨by (with_reducible repeat (first | apply Kd.R_alloc | apply Kd.R_drewN | apply Kd.R_drew)); exact Kd.R_mono HO_9.out (fun _ hk => ⟨hk.1, hk.2.1⟩)⟩, ⟨by repeat (first | (with_reducible first | exact HB.out | apply below_alloc | apply pw_below_drewN | apply below_drew1) | exact HB.out)⟩⟩
                                                  · replace c65 := Bool.eq_false_iff.mpr c65
                                                    subst c65
                                                    have H1 : (if x111_4 < (l1.length : Int) then (if ((x16_5 == 1) != (rdOf false l1 x111_4)) = true then (some false) else (caulklaw39_BitmapApart.l0 k5 l0 l1 t3372 t3376 t3380 (l0.length : Int) (wrap64 (x111_4 + 1)))) else (none)) = some r := by rw [if_neg (show ¬ (false = true) by decide)] at H; exact H
                                                    clear H
                                                    have H := H1
                                                    clear H1
                                                    by_cases c67 : x111_4 < (l1.length : Int)
                                                    · rw [if_pos c67] at H
                                                      have c67b0 : decide (x111_4 < (l1.length : Int)) = true := decide_eq_true c67
                                                      clear c67
                                                      by_cases c68 : ((x16_5 == 1) != (rdOf false l1 x111_4)) = true
                                                      · rw [if_pos c68] at H
                                                        have c68b0 : ((x16_5 == 1) != (rdOf false l1 x111_4)) = true := c68
                                                        (try (have c68b1 : decide ((x16_5 == 1) = (rdOf false l1 x111_4)) = false := by simpa using c68))
                                                        (try (have c68b2 : ((x16_5 == 1) == (rdOf false l1 x111_4)) = false := by simpa using c68))
                                                        (try (have c68b3 : ¬ ((x16_5 == 1) = (rdOf false l1 x111_4)) := by simpa using c68))
                                                        clear c68
                                                        exact absurd ((Option.some.inj H).trans hrt.out) (by simp)
                                                      · rw [if_neg c68] at H
                                                        have c68b0 : ((x16_5 == 1) != (rdOf false l1 x111_4)) = false := by simpa using c68
                                                        (try (have c68b1 : decide ((x16_5 == 1) = (rdOf false l1 x111_4)) = true := by simpa using c68))
                                                        (try (have c68b2 : ((x16_5 == 1) == (rdOf false l1 x111_4)) = true := by simpa using c68))
                                                        clear c68
                                                        have H' := Aside0.mk H
                                                        clear H
                                                        have p3401 : 0 ≤ (x111_4 : Int) := of_decide_eq_true (by first | (with_reducible assumption) | assumption)
                                                        have q3401 : x111_4 < (l0.length : Int) := of_decide_eq_true (by first | (with_reducible assumption) | assumption)
                                                        obtain ⟨ad3401, e3401, hx3401_0⟩ := Kd.at_bool HR0.out x111_4 p3401 q3401
                                                        (try rw [← Nbq64.out] at hx3401_0)
                                                        cases e3401
                                                        replace hx3401_0 := (HB.out.cell (World.block_lt_of_cell? w _ hx3401_0)).trans hx3401_0
                                                        replace p3401 := eq_true p3401
                                                        replace q3401 := eq_true q3401
                                                        have p3402 : 0 ≤ (x111_4 : Int) := of_decide_eq_true (by first | (with_reducible assumption) | assumption)
                                                        have q3402 : x111_4 < (l1.length : Int) := of_decide_eq_true (by first | (with_reducible assumption) | assumption)
                                                        obtain ⟨ad3402, e3402, hx3402_0⟩ := Kd.at_bool HR1.out x111_4 p3402 q3402
                                                        (try rw [← Nbq64.out] at hx3402_0)
                                                        cases e3402
                                                        replace hx3402_0 := (HB.out.cell (World.block_lt_of_cell? w _ hx3402_0)).trans hx3402_0
                                                        replace p3402 := eq_true p3402
                                                        replace q3402 := eq_true q3402
                                                        go_wp2
                                                        go_roundg k5
                                                        case measure => have := HJ4.out; have := HJ13.out; have := HJ32.out; have := HK4.out; have := HK5.out; omega
                                                        case rel => exact ⟨(wrap64 (x111_4 + 1)), (by first | rfl | (simp; done) | (simp [*]; done)), H', ⟨by have := HJ4.out; have := HJ13.out; have := HJ32.out; have := HK4.out; have := HK5.out; omega⟩, ⟨by (with_reducible repeat (first | apply Kd.R_alloc | apply Kd.R_drewN | apply Kd.R_drew)); exact Kd.R_mono HO_5.out (fun _ hk => ⟨hk.1, hk.2.1⟩)⟩, ⟨by (with_reducible repeat (first | apply Kd.R_alloc | apply Kd.R_drewN | apply Kd.R_drew)); exact Kd.R_mono HO_7.out (fun _ hk => ⟨hk.1, hk.2.1⟩)⟩, ⟨by (with_reducible repeat (first | apply Kd.R_alloc | apply Kd.R_drewN | apply Kd.R_drew)); exact Kd.R_mono HO_9.out (fun _ hk => ⟨hk.1, hk.2.1⟩)⟩, ⟨by repeat (first | (with_reducible first | exact HB.out | apply below_alloc | apply pw_below_drewN | apply below_drew1) | exact HB.out)⟩⟩
                                                    · rw [if_neg c67] at H
                                                      exact absurd H (by simp)
                                                · rw [if_neg c63] at H
                                                  exact absurd H (by simp)
                                              · rw [if_neg c62] at H
                                                exact absurd H (by simp)
                                    · rw [if_neg c48] at H
                                      exact absurd H (by simp)
                                  · rw [if_neg c47] at H
                                    exact absurd H (by simp)
                                · rw [if_neg c46] at H
                                  exact absurd H (by simp)
                              · rw [if_neg c45] at H
                                exact absurd H (by simp)
                            · rw [if_neg c44] at H
                              have c44b0 : decide (x111_4 < (l0.length : Int)) = false := decide_eq_false c44
                              clear c44
                              obtain rfl := Option.some.inj H
                              go_wp2
                              go_ret
                              exact ⟨by first | rfl | (simp [errW_none, errW_some] <;> rfl) | (simp [*, errW_none, errW_some] <;> rfl), by repeat (first | (with_reducible first | exact HB.out | apply below_alloc | apply pw_below_drewN | apply below_drew1) | exact HB.out)⟩
                · rw [if_neg c32] at H
                  have c32b0 : ((l0.length : Int) == (l1.length : Int)) = false := beq_eq_false_iff_ne.mpr c32
                  have c32b1 : ((l0.length : Int) != (l1.length : Int)) = true := bne_iff_ne.mpr c32
                  have c32b2 : (l0.length == l1.length) = false := by first | simpa using c32 | (simp at c32 ⊢; omega)
                  obtain rfl := Option.some.inj H
                  go_wp2
                  go_ret
                  exact ⟨by first | rfl | (simp [errW_none, errW_some] <;> rfl) | (simp [*, errW_none, errW_some] <;> rfl), by repeat (first | (with_reducible first | exact HB.out | apply below_alloc | apply pw_below_drewN | apply below_drew1) | exact HB.out)⟩
  · replace c4 := Bool.eq_false_iff.mpr c4
    subst c4
    have H1 : (some false) = some r := by rw [if_neg (show ¬ (false = true) by decide)] at H; exact H
    clear H
    have H := H1
    clear H1
    exact absurd ((Option.some.inj H).trans hrt.out) (by simp)

/-- THE ONE PURE STATEMENT of caulklaw39_BitmapApart. -/
def caulklaw39_BitmapApart.Pure : Prop := ∀ (l0 : List Bool) (l1 : List Bool), (l0.length ≤ maxLen ∧ l0.length * 1 ≤ 140737488351232 ∧ ∀ z0 ∈ l0, True) → (l1.length ≤ maxLen ∧ l1.length * 1 ≤ 140737488351232 ∧ ∀ z0 ∈ l1, True) → ∃ k, caulklaw39_BitmapApart.f k l0 l1 = some true
theorem caulklaw39_BitmapApart.walk (P : caulklaw39_BitmapApart.Pure) (A0 : Option Addr) (c0 : Nat) (l0 : List Bool) (A1 : Option Addr) (c1 : Nat) (l1 : List Bool) (w : World) (hr0 : Kd.C Kd.bool w A0 l0.length l0) (hc0 : l0.length ≤ c0) (hr1 : Kd.C Kd.bool w A1 l1.length l1) (hc1 : l1.length ≤ c1) (hw0 : (l0.length ≤ maxLen ∧ l0.length * 1 ≤ 140737488351232 ∧ ∀ z0 ∈ l0, True)) (hw1 : (l1.length ≤ maxLen ∧ l1.length * 1 ≤ 140737488351232 ∧ ∀ z0 ∈ l1, True)) :
    Calls Try.prog 12 #[.slice A0 l0.length c0, .slice A1 l1.length c1] w fun e w' => e = .returned (.bool true) ∧ Below w.heap.size w w' := by
  obtain ⟨k, h⟩ := P l0 l1 hw0 hw1
  refine (caulklaw39_BitmapApart.calls k A0 c0 l0 A1 c1 l1 true w hr0 hc0 hr1 hc1 ⟨rfl⟩ h).mono ?_
  rintro e w' ⟨rfl, hd⟩
  exact ⟨rfl, hd⟩

end Go.Proofs.Ytgahpdoiddhdaaa.HBitmap
