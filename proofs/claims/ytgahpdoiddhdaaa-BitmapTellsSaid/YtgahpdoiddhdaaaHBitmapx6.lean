-- WRITTEN BY wip/hyb.py, a program of this workplace (out of the kit's printer and this workplace's own contracts).
import Derived.Test.YtgahpdoiddhdaaaHBitmapx0
import Derived.Test.YtgahpdoiddhdaaaHBitmapx5
namespace Go.Proofs.Ytgahpdoiddhdaaa.HBitmap
open Go.RowKit Go.Proofs.YtgahpdoiddhdaaaW.PrintWords Go.Proofs.YtgahpdoiddhdaaaW.PrintLast Go.Proofs.YtgahpdoiddhdaaaW.PrintMore
attribute [local go_sem] max2_int min2_int max_two min_two max_three min_three max_four min_four   -- for this text's walks alone
set_option linter.unusedVariables false
set_option linter.unusedSimpArgs false

/-! ### caulkref39_Unpack: function 50 -/
mutual
def caulkref39_Unpack.j0 : Nat → Int → ByteArray → Bool → Option (List Bool × Int)
  | 0, _, _, _ => none
  | k + 1, x0, x1, x15 => if x15 = true then (some (([] : List Bool), 1)) else (if (x1.size : Int) = (wrap64 (Int.tdiv (wrap64 (x0 + 7)) 8)) then (if 0 ≤ x0 then (if (x0 : Int).toNat ≤ 281474976710656 then ((some (List.replicate (x0 : Int).toNat false : List Bool)).bind fun y3227 => (caulkref39_Unpack.l0 k x1 y3227 (y3227.length : Int) 0)) else (none)) else (none)) else (some (([] : List Bool), 6)))
def caulkref39_Unpack.l0 : Nat → ByteArray → List Bool → Int → Int → Option (List Bool × Int)
  | 0, _, _, _, _ => none
  | k + 1, x1, x6, x25, x26 => if x26 < x25 then (if 0 ≤ (wrap64 (Int.tdiv x26 8)) then (if (wrap64 (Int.tdiv x26 8)) < (x1.size : Int) then (if 0 ≤ (Int.tmod x26 8) then (if 0 ≤ x26 then (if x26 < (x6.length : Int) then (caulkref39_Unpack.l0 k x1 (x6.set (x26 : Int).toNat ((Go.bits .and .u8 (shr .u8 (bt x1 (wrap64 (Int.tdiv x26 8))) (Int.tmod x26 8)) 1) == 1)) x25 (wrap64 (x26 + 1))) else (none)) else (none)) else (none)) else (none)) else (none)) else ((caulkref39_Pack.f k x6).bind fun bt3231 => (if bt3231.1.toList = x1.toList then (some (x6, 0)) else (some (([] : List Bool), 6))))
end
def caulkref39_Unpack.f (k : Nat) (a0 : Int) (a1 : ByteArray) : Option (List Bool × Int) := if a0 < 0 then (caulkref39_Unpack.j0 k a0 a1 true) else (caulkref39_Unpack.j0 k a0 a1 (decide (a0 > 4096)))
theorem caulkref39_Unpack.mono_l : ∀ k, (∀ y0 y1 y2, LeO (caulkref39_Unpack.j0 k y0 y1 y2) (caulkref39_Unpack.j0 (k + 1) y0 y1 y2)) ∧ (∀ y0 y1 y2 y3, LeO (caulkref39_Unpack.l0 k y0 y1 y2 y3) (caulkref39_Unpack.l0 (k + 1) y0 y1 y2 y3))
  | 0 => ⟨fun _ _ _ r h => by simp [caulkref39_Unpack.j0] at h, fun _ _ _ _ r h => by simp [caulkref39_Unpack.l0] at h⟩
  | k + 1 => by
    obtain ⟨ih0, ih1⟩ := caulkref39_Unpack.mono_l k
    refine ⟨?_, ?_⟩
    · intro y0 y1 y2
      unfold caulkref39_Unpack.j0
      repeat' first
      | (with_reducible exact ih0 _ _ _)
      | (with_reducible exact ih1 _ _ _ _)
      | (with_reducible exact caulkref39_Pack.mono _ _)
      | (with_reducible exact LeO.refl _)
      | (with_reducible exact LeO.none _)
      | (with_reducible refine LeO.ite ?_ ?_)
      | (with_reducible refine LeO.bind ?_ (fun _ => ?_))
      | exact ih0 _ _ _
      | exact ih1 _ _ _ _
      | exact caulkref39_Pack.mono _ _
      | exact LeO.none _
      | refine LeO.ite ?_ ?_
      | refine LeO.bind ?_ (fun _ => ?_)
    · intro y0 y1 y2 y3
      unfold caulkref39_Unpack.l0
      repeat' first
      | (with_reducible exact ih0 _ _ _)
      | (with_reducible exact ih1 _ _ _ _)
      | (with_reducible exact caulkref39_Pack.mono _ _)
      | (with_reducible exact LeO.refl _)
      | (with_reducible exact LeO.none _)
      | (with_reducible refine LeO.ite ?_ ?_)
      | (with_reducible refine LeO.bind ?_ (fun _ => ?_))
      | exact ih0 _ _ _
      | exact ih1 _ _ _ _
      | exact caulkref39_Pack.mono _ _
      | exact LeO.none _
      | refine LeO.ite ?_ ?_
      | refine LeO.bind ?_ (fun _ => ?_)
theorem caulkref39_Unpack.mono : ∀ a0 a1 k, LeO (caulkref39_Unpack.f k a0 a1) (caulkref39_Unpack.f (k + 1) a0 a1) := by
  intro a0 a1 k
  obtain ⟨ih0, ih1⟩ := caulkref39_Unpack.mono_l k
  unfold caulkref39_Unpack.f
  repeat' first
      | (with_reducible exact ih0 _ _ _)
      | (with_reducible exact ih1 _ _ _ _)
      | (with_reducible exact caulkref39_Pack.mono _ _)
      | (with_reducible exact LeO.refl _)
      | (with_reducible exact LeO.none _)
      | (with_reducible refine LeO.ite ?_ ?_)
      | (with_reducible refine LeO.bind ?_ (fun _ => ?_))
      | exact ih0 _ _ _
      | exact ih1 _ _ _ _
      | exact caulkref39_Pack.mono _ _
      | exact LeO.none _
      | refine LeO.ite ?_ ?_
      | refine LeO.bind ?_ (fun _ => ?_)
set_option maxHeartbeats 8000000 in
set_option maxRecDepth 100000 in
theorem caulkref39_Unpack.calls (k : Nat) (a0 : Int) (a1 : ByteArray) (r1 : List Bool) (r2 : Int) (w : World) (h : caulkref39_Unpack.f k a0 a1 = some (r1, r2)) :
    Calls Try.prog 50 #[.int .i64 a0, .string a1] w fun e w' => ∃ v0_ : Value, e = .returned (.tuple #[v0_, .int .i64 r2]) ∧ Kd.R Kd.bool 4 w' w.heap.size (fun _ => True) v0_ r1 ∧ Below w.heap.size w w' := by
  have HB := Aside0.mk (Below.refl w.heap.size w)
  have H : (if a0 < 0 then (caulkref39_Unpack.j0 k a0 a1 true) else (caulkref39_Unpack.j0 k a0 a1 (decide (a0 > 4096)))) = some (r1, r2) := h
  clear h
  have HC3 := Aside0.mk H
  clear H
  go_enter Try.func50, Try.ntmps50
  go_upto_region 1 with (fail)
  go_cut [15] (fun v15 wc => ∃ (kq : Nat) (x15_2 : Bool), v15 = .bool x15_2 ∧ Aside0 (caulkref39_Unpack.j0 kq a0 a1 x15_2 = some (r1, r2)) ∧ Aside0 (kq ≤ k) ∧ Aside0 (Below w.heap.size w wc))
  case first =>
    have H := HC3.out
    clear HC3
    by_cases c4 : a0 < 0
    · rw [if_pos c4] at H
      have c4b0 : decide (a0 < 0) = true := decide_eq_true c4
      clear c4
      (first | rw [c4b0] | (simp only [i64_w, i32_w]; rw [c4b0]) | skip)
      have H' := Aside0.mk H
      clear H
      go_wp2
      go_meet
      case rel => exact ⟨_, (true), (by first | rfl | (simp; done) | (simp [*]; done)), H', ⟨by first | omega | exact Nat.le_refl _⟩, ⟨by repeat (first | (with_reducible first | exact HB.out | apply below_alloc | apply pw_below_drewN | apply below_drew1) | exact HB.out)⟩⟩
    · rw [if_neg c4] at H
      have c4b0 : decide (a0 < 0) = false := decide_eq_false c4
      clear c4
      (first | rw [c4b0] | (simp only [i64_w, i32_w]; rw [c4b0]) | skip)
      have H' := Aside0.mk H
      clear H
      go_wp2
      go_meet
      case rel => exact ⟨_, (decide (a0 > 4096)), (by first | rfl | (simp; done) | (simp [*]; done)), H', ⟨by first | omega | exact Nat.le_refl _⟩, ⟨by repeat (first | (with_reducible first | exact HB.out | apply below_alloc | apply pw_below_drewN | apply below_drew1) | exact HB.out)⟩⟩
  case rest =>
    clear HC3
    try clear p2
    try clear c4
    try clear c4b0
    obtain ⟨kq, x15_2, rfl, HA, HJ2, HB⟩ := hcut
    cases kq with
    | zero => exact absurd HA.out (by simp [caulkref39_Unpack.j0])
    | succ kj2 =>
      have H := HA.out
      clear HA
      simp only [caulkref39_Unpack.j0] at H
      by_cases c5 : x15_2 = true
      · subst c5
        have H1 : (some (([] : List Bool), 1)) = some (r1, r2) := by rw [if_pos rfl] at H; exact H
        clear H
        have H := H1
        clear H1
        simp only [Option.some.injEq, Prod.mk.injEq] at H
        obtain ⟨rfl, rfl⟩ := H
        go_wp2
        go_ret2
        exact ⟨_, by first | rfl | (simp [errW_none, errW_some] <;> rfl) | (simp [*, errW_none, errW_some] <;> rfl), by first | exact Kd.R_nil _ _ _ _ _ | exact Kd.N_nil _ _ _ _ _ | exact Kd.V_nil _ _ _ _ _ | exact Kd.Q_nil _ _ _ _ _ | exact Kd.S_nil _ _ _ _ _, by repeat (first | (with_reducible first | exact HB.out | apply below_alloc | apply pw_below_drewN | apply below_drew1) | exact HB.out)⟩
      · replace c5 := Bool.eq_false_iff.mpr c5
        subst c5
        have H1 : (if (a1.size : Int) = (wrap64 (Int.tdiv (wrap64 (a0 + 7)) 8)) then (if 0 ≤ a0 then (if (a0 : Int).toNat ≤ 281474976710656 then ((some (List.replicate (a0 : Int).toNat false : List Bool)).bind fun y3227 => (caulkref39_Unpack.l0 kj2 a1 y3227 (y3227.length : Int) 0)) else (none)) else (none)) else (some (([] : List Bool), 6))) = some (r1, r2) := by rw [if_neg (show ¬ (false = true) by decide)] at H; exact H
        clear H
        have H := H1
        clear H1
        by_cases c6 : (a1.size : Int) = (wrap64 (Int.tdiv (wrap64 (a0 + 7)) 8))
        · rw [if_pos c6] at H
          have c6b0 : ((a1.size : Int) == (wrap64 (Int.tdiv (wrap64 (a0 + 7)) 8))) = true := beq_iff_eq.mpr c6
          have c6b1 : ((a1.size : Int) != (wrap64 (Int.tdiv (wrap64 (a0 + 7)) 8))) = false := bne_eq_false_iff_eq.mpr c6
          clear c6
          by_cases c7 : 0 ≤ a0
          · rw [if_pos c7] at H
            have c7b0 := eq_true c7
            have c7b1 : decide (0 ≤ a0) = true := decide_eq_true c7
            clear c7
            by_cases c8 : (a0 : Int).toNat ≤ 281474976710656
            · rw [if_pos c8] at H
              have c8b0 := eq_true c8
              have c8b1 : decide ((a0 : Int).toNat ≤ 281474976710656) = true := decide_eq_true c8
              clear c8
              obtain ⟨y3227, hy3227⟩ : ∃ y_ : List Bool, y_ = (List.replicate (a0 : Int).toNat false) := ⟨_, rfl⟩
              replace H : (caulkref39_Unpack.l0 kj2 a1 y3227 (y3227.length : Int) 0) = some (r1, r2) := by first | (rw [hy3227]; with_reducible exact H) | (have H2_ := (Option.bind_some _ _).symm.trans H; rw [hy3227]; with_reducible exact H2_) | (have H2_ := (Option.bind_some _ _).symm.trans H; with_reducible exact H2_) | with_reducible exact H | (rw [hy3227]; exact H) | exact H
              have Ny3227 := Aside0.mk hy3227
              clear hy3227
              have H' := Aside0.mk H
              clear H
              go_wp2_with (first | ((with_reducible refine HOpen.gate_append ?_); simp only [List.cons_append, List.nil_append]) | ((with_reducible refine gate_dst (N := 23) rfl ?_); refine Kd.R_make Kd.bool _ 4 rfl (N := 23) rfl 49 _ _ rfl a0 rfl rfl Try.underlying49 (.bool false) 1 info4 rfl (by decide) (by omega) false (ok := fun _ => True) (okp := fun _ => True) rfl (fun _ hk => hk) trivial (of_decide_eq_true (by first | (with_reducible assumption) | assumption)) (Nat.le_trans (Nat.mul_le_mul_right _ (of_decide_eq_true (by first | (with_reducible assumption) | assumption) : a0.toNat ≤ 281474976710656)) (by omega)) (Below.refl _ _) (Nat.le_refl _) ?_; intro v3228 w9 ho10 hb hg_ hnew_; clear hg_ hnew_; (first | rw [← Ny3227.out] at ho10 | (simp only [Int.reduceToNat] at ho10; rw [← Ny3227.out] at ho10)); have n0_ := Aside0.mk (Kd.R_lower ho10 (below_size (by repeat (first | (with_reducible first | exact HB.out | apply below_alloc | apply pw_below_drewN | apply below_drew1) | exact HB.out)))); have n1_ := Aside0.mk (below_step (by repeat (first | (with_reducible first | exact HB.out | apply below_alloc | apply pw_below_drewN | apply below_drew1) | exact HB.out)) hb); clear HB; have HO3229 := n0_; have HB := n1_; clear n0_ n1_; clear hb ho10; obtain ⟨Ao11, co11, eo11⟩ := Kd.R_slice HO3229.out; subst eo11))
              go_loopg [26] kj2 (fun kq v26 w' => ∃ (x6_2 : List Bool) (x26_2 : Int), v26 = .int .i64 x26_2 ∧ Aside0 (caulkref39_Unpack.l0 kq a1 x6_2 (y3227.length : Int) x26_2 = some (r1, r2)) ∧ Aside0 (kq ≤ kj2) ∧ Aside0 (Kd.R Kd.bool 4 w' w.heap.size (fun _ => True) (.slice Ao11 y3227.length co11) x6_2) ∧ Aside0 (Below w.heap.size w w'))
              case atStart => exact ⟨(y3227), (0), (by first | rfl | (simp; done) | (simp [*]; done)), H', ⟨Nat.le_refl _⟩, ⟨by (with_reducible repeat (first | apply Kd.R_alloc | apply Kd.R_drewN | apply Kd.R_drew)); exact HO3229.out⟩, ⟨by repeat (first | (with_reducible first | exact HB.out | apply below_alloc | apply pw_below_drewN | apply below_drew1) | exact HB.out)⟩⟩
              case round =>
                clear H'
                try clear p2
                try clear c4
                try clear c4b0
                try clear c5
                try clear c6
                try clear c6b0
                try clear c6b1
                try clear p6
                try clear c7
                try clear c7b0
                try clear c7b1
                try clear c8
                try clear c8b0
                try clear c8b1
                try clear p2
                obtain ⟨x6_2, x26_2, rfl, HA, HK2, HO_6, HB⟩ := hrel
                have hl6_2 := (Kd.R_reads' HO_6.out).1
                rw [hl6_2] at HO_6
                (try simp only [hl6_2])
                cases gk with
                | zero => exact absurd HA.out (by simp [caulkref39_Unpack.l0])
                | succ k2 =>
                  have H := HA.out
                  clear HA
                  simp only [caulkref39_Unpack.l0] at H
                  by_cases c12 : x26_2 < (y3227.length : Int)
                  · rw [if_pos c12] at H
                    have c12b0 : decide (x26_2 < (y3227.length : Int)) = true := decide_eq_true c12
                    (try rw [hl6_2] at c12b0)
                    clear c12
                    obtain ⟨ji13, hji13⟩ : ∃ j_ : Int, (wrap64 (Int.tdiv x26_2 8)) = j_ := ⟨_, rfl⟩
                    replace H : (if 0 ≤ (ji13) then (if (ji13) < (a1.size : Int) then (if 0 ≤ (Int.tmod x26_2 8) then (if 0 ≤ x26_2 then (if x26_2 < (x6_2.length : Int) then (caulkref39_Unpack.l0 k2 a1 (x6_2.set (x26_2 : Int).toNat ((Go.bits .and .u8 (shr .u8 (bt a1 (ji13)) (Int.tmod x26_2 8)) 1) == 1)) (y3227.length : Int) (wrap64 (x26_2 + 1))) else (none)) else (none)) else (none)) else (none)) else (none)) = some (r1, r2) := by first | (rw [hji13] at H; exact H) | (simp only [hji13] at H ⊢; exact H)
                    have hji13w : (IntKind.i64.wrap (Int.tdiv x26_2 8)) = ji13 := (i64_w _).trans hji13
                    by_cases c14 : 0 ≤ (ji13)
                    · rw [if_pos c14] at H
                      have c14b0 : decide (0 ≤ (ji13)) = true := decide_eq_true c14
                      clear c14
                      by_cases c15 : (ji13) < (a1.size : Int)
                      · rw [if_pos c15] at H
                        have c15b0 : decide ((ji13) < (a1.size : Int)) = true := decide_eq_true c15
                        clear c15
                        obtain ⟨ji17, hji17⟩ : ∃ j_ : Int, (Int.tmod x26_2 8) = j_ := ⟨_, rfl⟩
                        replace H : (if 0 ≤ (ji17) then (if 0 ≤ x26_2 then (if x26_2 < (x6_2.length : Int) then (caulkref39_Unpack.l0 k2 a1 (x6_2.set (x26_2 : Int).toNat ((Go.bits .and .u8 (shr .u8 (bt a1 (ji13)) (ji17)) 1) == 1)) (y3227.length : Int) (wrap64 (x26_2 + 1))) else (none)) else (none)) else (none)) = some (r1, r2) := by first | (rw [hji17] at H; exact H) | (simp only [hji17] at H ⊢; exact H)
                        by_cases c18 : 0 ≤ (ji17)
                        · rw [if_pos c18] at H
                          have c18b0 := eq_true c18
                          have c18b1 : decide (0 ≤ (ji17)) = true := decide_eq_true c18
                          clear c18
                          obtain ⟨ji19, hji19⟩ : ∃ j_ : Int, (shr .u8 (bt a1 (ji13)) (ji17)) = j_ := ⟨_, rfl⟩
                          replace H : (if 0 ≤ x26_2 then (if x26_2 < (x6_2.length : Int) then (caulkref39_Unpack.l0 k2 a1 (x6_2.set (x26_2 : Int).toNat ((Go.bits .and .u8 (ji19) 1) == 1)) (y3227.length : Int) (wrap64 (x26_2 + 1))) else (none)) else (none)) = some (r1, r2) := by first | (rw [hji19] at H; exact H) | (simp only [hji19] at H ⊢; exact H)
                          have hji19_ : ((bt a1 (ji13)) / 2 ^ min (ji17).toNat 8) = ji19 := hji19
                          have hji19z : (ji17) ≤ 8 → ((bt a1 (ji13)) / 2 ^ (ji17).toNat) = ji19 := shr_small hji19
                          by_cases c20 : 0 ≤ x26_2
                          · rw [if_pos c20] at H
                            have c20b0 : decide (0 ≤ x26_2) = true := decide_eq_true c20
                            clear c20
                            by_cases c21 : x26_2 < (x6_2.length : Int)
                            · rw [if_pos c21] at H
                              have c21b0 : decide (x26_2 < (x6_2.length : Int)) = true := decide_eq_true c21
                              (try rw [hl6_2] at c21b0)
                              clear c21
                              obtain ⟨y3230, hy3230⟩ : ∃ y_ : List Bool, y_ = (x6_2.set (x26_2 : Int).toNat ((Go.bits .and .u8 (ji19) 1) == 1)) := ⟨_, rfl⟩
                              replace H : (caulkref39_Unpack.l0 k2 a1 y3230 (y3227.length : Int) (wrap64 (x26_2 + 1))) = some (r1, r2) := by first | (rw [hy3230]; with_reducible exact H) | (have H2_ := (Option.bind_some _ _).symm.trans H; rw [hy3230]; with_reducible exact H2_) | (have H2_ := (Option.bind_some _ _).symm.trans H; with_reducible exact H2_) | with_reducible exact H | (rw [hy3230]; exact H) | exact H
                              have Ny3230 := Aside0.mk hy3230
                              clear hy3230
                              have H' := Aside0.mk H
                              clear H
                              have p16 : 0 ≤ ((ji13) : Int) := of_decide_eq_true (by first | (with_reducible assumption) | assumption)
                              have q16 : (ji13) < (a1.size : Int) := of_decide_eq_true (by first | (with_reducible assumption) | assumption)
                              have hx16 := bt_at a1 (ji13)
                              replace p16 := eq_true p16
                              replace q16 := eq_true q16
                              have p22 : 0 ≤ (x26_2 : Int) := of_decide_eq_true (by first | (with_reducible assumption) | assumption)
                              have q22 : (x26_2 : Int) < ((x6_2.length : Int) : Int) := of_decide_eq_true (by first | (with_reducible assumption) | assumption)
                              obtain ⟨go22, co22, eo22, gb22, gl22, cl22, HG22⟩ := Kd.R_form HO_6.out (by omega)
                              (first | cases eo22 | (injection eo22 with ea_ en_ ec_; (first | subst ea_ | (injection ea_ with ea_; subst ea_)); subst ec_; clear en_))
                              have GB22 := Aside0.mk gb22
                              have GG22 := Aside0.mk HG22
                              clear gb22 gl22 HG22
                              obtain ⟨hx22_0, hf22_0⟩ := Kd.R_celln false HO_6.out (x26_2 : Int) p22 q22
                              replace p22 := eq_true p22
                              replace q22 := eq_true q22
                              have HP23 := Kd.R_putg HO_6.out (x26_2 : Int) ((Go.bits .and .u8 (ji19) 1) == 1)
                              go_wp2_with (first | ((with_reducible refine HOpen.gate_append ?_); simp only [List.cons_append, List.nil_append]) | ((with_reducible refine gate_store (t := 4) (p := 40) rfl ?_); refine store_event (t := 4) (p := 40) (v := ?vo_w24) (w1 := (wr.setCell ⟨go22, (x26_2 : Int).toNat, none⟩ (.bool ((Go.bits .and .u8 (ji19) 1) == 1)))) ?hg ?ho ?hn ?hr ?_; (case ho => rfl); (case hg => rfl); (case hn => rfl); (case hr => first | (go_simp; done) | (go_simp; rfl)); intro w24 hw; have hg : wr.grownBy w24 (some go22) := (by rw [hw]; exact HP23.2); have hp_ : Kd.R Kd.bool 4 w24 w.heap.size (fun _ => True) (.slice (some ⟨go22, 0, none⟩) x6_2.length co11) y3230 := (by rw [hw, Ny3230.out]; exact HP23.1); clear HP23; have n0_ := Aside0.mk (hp_); have n1_ := Aside0.mk ((by rw [hw]; exact below_set (HB.out) GB22.out : Below w.heap.size w w24)); clear HO_6; clear HB; have HO_6 := n0_; have HB := n1_; clear n0_ n1_; clear hg hw hp_))
                              (try simp only [← hl6_2])
                              go_roundg k2
                              case measure => have := HJ2.out; have := HK2.out; omega
                              case rel => exact ⟨(y3230), (wrap64 (x26_2 + 1)), (by first | rfl | (simp; done) | (simp [*]; done)), H', ⟨by have := HJ2.out; have := HK2.out; omega⟩, ⟨by (try simp only [hl6_2]); (with_reducible repeat (first | apply Kd.R_alloc | apply Kd.R_drewN | apply Kd.R_drew)); exact HO_6.out⟩, ⟨by repeat (first | (with_reducible first | exact HB.out | apply below_alloc | apply pw_below_drewN | apply below_drew1) | exact HB.out)⟩⟩
                            · rw [if_neg c21] at H
                              exact absurd H (by simp)
                          · rw [if_neg c20] at H
                            exact absurd H (by simp)
                        · rw [if_neg c18] at H
                          exact absurd H (by simp)
                      · rw [if_neg c15] at H
                        exact absurd H (by simp)
                    · rw [if_neg c14] at H
                      exact absurd H (by simp)
                  · rw [if_neg c12] at H
                    have c12b0 : decide (x26_2 < (y3227.length : Int)) = false := decide_eq_false c12
                    (try rw [hl6_2] at c12b0)
                    clear c12
                    replace H := Option.bind_eq_some_iff.mp H
                    obtain ⟨⟨t3231, t3232⟩, A250, H⟩ := H
                    replace H : (if t3231.toList = a1.toList then (some (x6_2, 0)) else (some (([] : List Bool), 6))) = some (r1, r2) := H
                    have A25 := Aside0.mk A250
                    clear A250
                    by_cases c26 : t3231.toList = a1.toList
                    · rw [if_pos c26] at H
                      have c26b0 : (t3231.toList == a1.toList) = true := beq_iff_eq.mpr c26
                      have c26b1 : (t3231.toList != a1.toList) = false := bne_eq_false_iff_eq.mpr c26
                      clear c26
                      simp only [Option.some.injEq, Prod.mk.injEq] at H
                      obtain ⟨rfl, rfl⟩ := H
                      go_wp2_with (first | ((with_reducible refine HOpen.gate_append ?_); simp only [List.cons_append, List.nil_append]) | ((with_reducible refine gate_callee (f := 48) rfl ?_); refine goesL_ (some 44) rfl rfl Try.func48 (by kernel_rfl) rfl #[.slice Ao11 x6_2.length co11] rfl (by (try simp only [List.map_toArray, List.map_cons, List.map_nil]); first | done | rfl | (simp only [List.length_drop, List.length_take]; rfl)) ?_; (with_reducible refine (caulkref39_Pack.calls k2 _ _ x6_2 t3231 t3232 _ ?side1 ?side2 A25.out).mono ?_); (case side1 => repeat (first | exact (Kd.R_reads' HO_6.out).2.2 | (with_reducible refine Kd.C_alloc ?_ _) | (with_reducible refine Kd.C_drewN ?_ _) | (with_reducible refine Kd.C_drew ?_))); (case side2 => exact (Kd.R_reads' HO_6.out).2.1); rintro e w27 ⟨rfl, hb⟩; refine ⟨_, rfl, ?_⟩; have n0_ := Aside0.mk (Kd.R_below (by (with_reducible repeat (first | apply Kd.R_alloc | apply Kd.R_drewN | apply Kd.R_drew)); exact HO_6.out) hb); have n1_ := Aside0.mk (below_step (by repeat (first | (with_reducible first | exact HB.out | apply below_alloc | apply pw_below_drewN | apply below_drew1) | exact HB.out)) hb); clear HO_6; clear HB; have HO_6 := n0_; have HB := n1_; clear n0_ n1_; (try clear hb); (try clear hb2); (try clear hk); (try clear hi)))
                      go_ret2
                      exact ⟨_, by first | rfl | (simp [errW_none, errW_some] <;> rfl) | (simp [*, errW_none, errW_some] <;> rfl), by (with_reducible repeat (first | apply Kd.R_alloc | apply Kd.R_drewN | apply Kd.R_drew)); exact HO_6.out, by repeat (first | (with_reducible first | exact HB.out | apply below_alloc | apply pw_below_drewN | apply below_drew1) | exact HB.out)⟩
                    · rw [if_neg c26] at H
                      have c26b0 : (t3231.toList == a1.toList) = false := beq_eq_false_iff_ne.mpr c26
                      have c26b1 : (t3231.toList != a1.toList) = true := bne_iff_ne.mpr c26
                      simp only [Option.some.injEq, Prod.mk.injEq] at H
                      obtain ⟨rfl, rfl⟩ := H
                      go_wp2_with (first | ((with_reducible refine HOpen.gate_append ?_); simp only [List.cons_append, List.nil_append]) | ((with_reducible refine gate_callee (f := 48) rfl ?_); refine goesL_ (some 44) rfl rfl Try.func48 (by kernel_rfl) rfl #[.slice Ao11 x6_2.length co11] rfl (by (try simp only [List.map_toArray, List.map_cons, List.map_nil]); first | done | rfl | (simp only [List.length_drop, List.length_take]; rfl)) ?_; (with_reducible refine (caulkref39_Pack.calls k2 _ _ x6_2 t3231 t3232 _ ?side1 ?side2 A25.out).mono ?_); (case side1 => repeat (first | exact (Kd.R_reads' HO_6.out).2.2 | (with_reducible refine Kd.C_alloc ?_ _) | (with_reducible refine Kd.C_drewN ?_ _) | (with_reducible refine Kd.C_drew ?_))); (case side2 => exact (Kd.R_reads' HO_6.out).2.1); rintro e w28 ⟨rfl, hb⟩; refine ⟨_, rfl, ?_⟩; have n0_ := Aside0.mk (Kd.R_below (by (with_reducible repeat (first | apply Kd.R_alloc | apply Kd.R_drewN | apply Kd.R_drew)); exact HO_6.out) hb); have n1_ := Aside0.mk (below_step (by repeat (first | (with_reducible first | exact HB.out | apply below_alloc | apply pw_below_drewN | apply below_drew1) | exact HB.out)) hb); clear HO_6; clear HB; have HO_6 := n0_; have HB := n1_; clear n0_ n1_; (try clear hb); (try clear hb2); (try clear hk); (try clear hi)))
                      go_ret2
                      exact ⟨_, by first | rfl | (simp [errW_none, errW_some] <;> rfl) | (simp [*, errW_none, errW_some] <;> rfl), by first | exact Kd.R_nil _ _ _ _ _ | exact Kd.N_nil _ _ _ _ _ | exact Kd.V_nil _ _ _ _ _ | exact Kd.Q_nil _ _ _ _ _ | exact Kd.S_nil _ _ _ _ _, by repeat (first | (with_reducible first | exact HB.out | apply below_alloc | apply pw_below_drewN | apply below_drew1) | exact HB.out)⟩
            · rw [if_neg c8] at H
              exact absurd H (by simp)
          · rw [if_neg c7] at H
            exact absurd H (by simp)
        · rw [if_neg c6] at H
          have c6b0 : ((a1.size : Int) == (wrap64 (Int.tdiv (wrap64 (a0 + 7)) 8))) = false := beq_eq_false_iff_ne.mpr c6
          have c6b1 : ((a1.size : Int) != (wrap64 (Int.tdiv (wrap64 (a0 + 7)) 8))) = true := bne_iff_ne.mpr c6
          simp only [Option.some.injEq, Prod.mk.injEq] at H
          obtain ⟨rfl, rfl⟩ := H
          go_wp2
          go_ret2
          exact ⟨_, by first | rfl | (simp [errW_none, errW_some] <;> rfl) | (simp [*, errW_none, errW_some] <;> rfl), by first | exact Kd.R_nil _ _ _ _ _ | exact Kd.N_nil _ _ _ _ _ | exact Kd.V_nil _ _ _ _ _ | exact Kd.Q_nil _ _ _ _ _ | exact Kd.S_nil _ _ _ _ _, by repeat (first | (with_reducible first | exact HB.out | apply below_alloc | apply pw_below_drewN | apply below_drew1) | exact HB.out)⟩

/-! ### caulkref39_Of: function 52 -/
mutual
def caulkref39_Of.j0 : Nat → Int → List (S39) → Bool → Option (List Bool × Int)
  | 0, _, _, _ => none
  | k + 1, x0, x1, x15 => if x15 = true then (some (([] : List Bool), 1)) else (if 0 ≤ x0 then (if (x0 : Int).toNat ≤ 281474976710656 then (caulkref39_Of.l0 k x0 (List.replicate (x0 : Int).toNat false) x1 (x1.length : Int) 0) else (none)) else (none))
def caulkref39_Of.l0 : Nat → Int → List Bool → List (S39) → Int → Int → Option (List Bool × Int)
  | 0, _, _, _, _, _ => none
  | k + 1, x0, x6, x18, x19, x20 => if x20 < x19 then (if 0 ≤ x20 then (if x20 < (x18.length : Int) then (if ((rd_T39 x18 x20).f0) < 0 then (caulkref39_Of.j2 k x0 x6 x18 x19 x20 true ((rd_T39 x18 x20).f0) ((rd_T39 x18 x20).f1)) else (if ((rd_T39 x18 x20).f1) < ((rd_T39 x18 x20).f0) then (caulkref39_Of.j2 k x0 x6 x18 x19 x20 true ((rd_T39 x18 x20).f0) ((rd_T39 x18 x20).f1)) else (caulkref39_Of.j2 k x0 x6 x18 x19 x20 (decide (((rd_T39 x18 x20).f1) > x0)) ((rd_T39 x18 x20).f0) ((rd_T39 x18 x20).f1)))) else (none)) else (none)) else (some (x6, 0))
def caulkref39_Of.j2 : Nat → Int → List Bool → List (S39) → Int → Int → Bool → Int → Int → Option (List Bool × Int)
  | 0, _, _, _, _, _, _, _, _ => none
  | k + 1, x0, x6, x18, x19, x20, x39, x3238000, x3238001 => if x39 = true then (some (([] : List Bool), 1)) else (caulkref39_Of.l1 k x0 x6 x3238000 x18 x19 x20 x3238000 x3238001)
def caulkref39_Of.l1 : Nat → Int → List Bool → Int → List (S39) → Int → Int → Int → Int → Option (List Bool × Int)
  | 0, _, _, _, _, _, _, _, _ => none
  | k + 1, x0, x6, x9, x18, x19, x20, x3238000, x3238001 => if x9 < x3238001 then (if 0 ≤ x9 then (if x9 < (x6.length : Int) then (caulkref39_Of.l1 k x0 (x6.set (x9 : Int).toNat true) (wrap64 (x9 + 1)) x18 x19 x20 x3238000 x3238001) else (none)) else (none)) else (caulkref39_Of.l0 k x0 x6 x18 x19 (wrap64 (x20 + 1)))
end
def caulkref39_Of.f (k : Nat) (a0 : Int) (l1 : List (S39)) : Option (List Bool × Int) := if a0 < 0 then (caulkref39_Of.j0 k a0 l1 true) else (caulkref39_Of.j0 k a0 l1 (decide (a0 > 4096)))
theorem caulkref39_Of.mono_l : ∀ k, (∀ y0 y1 y2, LeO (caulkref39_Of.j0 k y0 y1 y2) (caulkref39_Of.j0 (k + 1) y0 y1 y2)) ∧ (∀ y0 y1 y2 y3 y4, LeO (caulkref39_Of.l0 k y0 y1 y2 y3 y4) (caulkref39_Of.l0 (k + 1) y0 y1 y2 y3 y4)) ∧ (∀ y0 y1 y2 y3 y4 y5 y6 y7, LeO (caulkref39_Of.j2 k y0 y1 y2 y3 y4 y5 y6 y7) (caulkref39_Of.j2 (k + 1) y0 y1 y2 y3 y4 y5 y6 y7)) ∧ (∀ y0 y1 y2 y3 y4 y5 y6 y7, LeO (caulkref39_Of.l1 k y0 y1 y2 y3 y4 y5 y6 y7) (caulkref39_Of.l1 (k + 1) y0 y1 y2 y3 y4 y5 y6 y7))
  | 0 => ⟨fun _ _ _ r h => by simp [caulkref39_Of.j0] at h, fun _ _ _ _ _ r h => by simp [caulkref39_Of.l0] at h, fun _ _ _ _ _ _ _ _ r h => by simp [caulkref39_Of.j2] at h, fun _ _ _ _ _ _ _ _ r h => by simp [caulkref39_Of.l1] at h⟩
  | k + 1 => by
    obtain ⟨ih0, ih1, ih2, ih3⟩ := caulkref39_Of.mono_l k
    refine ⟨?_, ?_, ?_, ?_⟩
    · intro y0 y1 y2
      unfold caulkref39_Of.j0
      repeat' first
      | (with_reducible exact ih0 _ _ _)
      | (with_reducible exact ih1 _ _ _ _ _)
      | (with_reducible exact ih2 _ _ _ _ _ _ _ _)
      | (with_reducible exact ih3 _ _ _ _ _ _ _ _)
      | (with_reducible exact LeO.refl _)
      | (with_reducible exact LeO.none _)
      | (with_reducible refine LeO.ite ?_ ?_)
      | (with_reducible refine LeO.bind ?_ (fun _ => ?_))
      | exact ih0 _ _ _
      | exact ih1 _ _ _ _ _
      | exact ih2 _ _ _ _ _ _ _ _
      | exact ih3 _ _ _ _ _ _ _ _
      | exact LeO.none _
      | refine LeO.ite ?_ ?_
      | refine LeO.bind ?_ (fun _ => ?_)
    · intro y0 y1 y2 y3 y4
      unfold caulkref39_Of.l0
      repeat' first
      | (with_reducible exact ih0 _ _ _)
      | (with_reducible exact ih1 _ _ _ _ _)
      | (with_reducible exact ih2 _ _ _ _ _ _ _ _)
      | (with_reducible exact ih3 _ _ _ _ _ _ _ _)
      | (with_reducible exact LeO.refl _)
      | (with_reducible exact LeO.none _)
      | (with_reducible refine LeO.ite ?_ ?_)
      | (with_reducible refine LeO.bind ?_ (fun _ => ?_))
      | exact ih0 _ _ _
      | exact ih1 _ _ _ _ _
      | exact ih2 _ _ _ _ _ _ _ _
      | exact ih3 _ _ _ _ _ _ _ _
      | exact LeO.none _
      | refine LeO.ite ?_ ?_
      | refine LeO.bind ?_ (fun _ => ?_)
    · intro y0 y1 y2 y3 y4 y5 y6 y7
      unfold caulkref39_Of.j2
      repeat' first
      | (with_reducible exact ih0 _ _ _)
      | (with_reducible exact ih1 _ _ _ _ _)
      | (with_reducible exact ih2 _ _ _ _ _ _ _ _)
      | (with_reducible exact ih3 _ _ _ _ _ _ _ _)
      | (with_reducible exact LeO.refl _)
      | (with_reducible exact LeO.none _)
      | (with_reducible refine LeO.ite ?_ ?_)
      | (with_reducible refine LeO.bind ?_ (fun _ => ?_))
      | exact ih0 _ _ _
      | exact ih1 _ _ _ _ _
      | exact ih2 _ _ _ _ _ _ _ _
      | exact ih3 _ _ _ _ _ _ _ _
      | exact LeO.none _
      | refine LeO.ite ?_ ?_
      | refine LeO.bind ?_ (fun _ => ?_)
    · intro y0 y1 y2 y3 y4 y5 y6 y7
      unfold caulkref39_Of.l1
      repeat' first
      | (with_reducible exact ih0 _ _ _)
      | (with_reducible exact ih1 _ _ _ _ _)
      | (with_reducible exact ih2 _ _ _ _ _ _ _ _)
      | (with_reducible exact ih3 _ _ _ _ _ _ _ _)
      | (with_reducible exact LeO.refl _)
      | (with_reducible exact LeO.none _)
      | (with_reducible refine LeO.ite ?_ ?_)
      | (with_reducible refine LeO.bind ?_ (fun _ => ?_))
      | exact ih0 _ _ _
      | exact ih1 _ _ _ _ _
      | exact ih2 _ _ _ _ _ _ _ _
      | exact ih3 _ _ _ _ _ _ _ _
      | exact LeO.none _
      | refine LeO.ite ?_ ?_
      | refine LeO.bind ?_ (fun _ => ?_)
theorem caulkref39_Of.mono : ∀ a0 a1 k, LeO (caulkref39_Of.f k a0 a1) (caulkref39_Of.f (k + 1) a0 a1) := by
  intro a0 a1 k
  obtain ⟨ih0, ih1, ih2, ih3⟩ := caulkref39_Of.mono_l k
  unfold caulkref39_Of.f
  repeat' first
      | (with_reducible exact ih0 _ _ _)
      | (with_reducible exact ih1 _ _ _ _ _)
      | (with_reducible exact ih2 _ _ _ _ _ _ _ _)
      | (with_reducible exact ih3 _ _ _ _ _ _ _ _)
      | (with_reducible exact LeO.refl _)
      | (with_reducible exact LeO.none _)
      | (with_reducible refine LeO.ite ?_ ?_)
      | (with_reducible refine LeO.bind ?_ (fun _ => ?_))
      | exact ih0 _ _ _
      | exact ih1 _ _ _ _ _
      | exact ih2 _ _ _ _ _ _ _ _
      | exact ih3 _ _ _ _ _ _ _ _
      | exact LeO.none _
      | refine LeO.ite ?_ ?_
      | refine LeO.bind ?_ (fun _ => ?_)
set_option maxHeartbeats 8000000 in
set_option maxRecDepth 100000 in
theorem caulkref39_Of.calls (k : Nat) (a0 : Int) (A1 : Option Addr) (c1 : Nat) (l1 : List (S39)) (r1 : List Bool) (r2 : Int) (w : World) (hr1 : Kd.C k39 w A1 l1.length l1) (hc1 : l1.length ≤ c1) (h : caulkref39_Of.f k a0 l1 = some (r1, r2)) :
    Calls Try.prog 52 #[.int .i64 a0, .slice A1 l1.length c1] w fun e w' => ∃ v0_ : Value, e = .returned (.tuple #[v0_, .int .i64 r2]) ∧ Kd.R Kd.bool 4 w' w.heap.size (fun _ => True) v0_ r1 ∧ Below w.heap.size w w' := by
  have hu39 := Try.underlying39
  have HR1 := Aside0.mk hr1
  have HC1 := Aside0.mk hc1
  clear hr1 hc1
  have HB := Aside0.mk (Below.refl w.heap.size w)
  have H : (if a0 < 0 then (caulkref39_Of.j0 k a0 l1 true) else (caulkref39_Of.j0 k a0 l1 (decide (a0 > 4096)))) = some (r1, r2) := h
  clear h
  have HC3 := Aside0.mk H
  clear H
  go_enter Try.func52, Try.ntmps52
  go_upto_region 1 with (fail)
  go_cut [15] (fun v15 wc => ∃ (kq : Nat) (x15_2 : Bool), v15 = .bool x15_2 ∧ Aside0 (caulkref39_Of.j0 kq a0 l1 x15_2 = some (r1, r2)) ∧ Aside0 (kq ≤ k) ∧ Aside0 (Below w.heap.size w wc))
  case first =>
    have H := HC3.out
    clear HC3
    by_cases c4 : a0 < 0
    · rw [if_pos c4] at H
      have c4b0 : decide (a0 < 0) = true := decide_eq_true c4
      clear c4
      (first | rw [c4b0] | (simp only [i64_w, i32_w]; rw [c4b0]) | skip)
      have H' := Aside0.mk H
      clear H
      go_wp2
      go_meet
      case rel => exact ⟨_, (true), (by first | rfl | (simp; done) | (simp [*]; done)), H', ⟨by first | omega | exact Nat.le_refl _⟩, ⟨by repeat (first | (with_reducible first | exact HB.out | apply below_alloc | apply pw_below_drewN | apply below_drew1) | exact HB.out)⟩⟩
    · rw [if_neg c4] at H
      have c4b0 : decide (a0 < 0) = false := decide_eq_false c4
      clear c4
      (first | rw [c4b0] | (simp only [i64_w, i32_w]; rw [c4b0]) | skip)
      have H' := Aside0.mk H
      clear H
      go_wp2
      go_meet
      case rel => exact ⟨_, (decide (a0 > 4096)), (by first | rfl | (simp; done) | (simp [*]; done)), H', ⟨by first | omega | exact Nat.le_refl _⟩, ⟨by repeat (first | (with_reducible first | exact HB.out | apply below_alloc | apply pw_below_drewN | apply below_drew1) | exact HB.out)⟩⟩
  case rest =>
    clear HC3
    try clear c1
    try clear p2
    try clear c4
    try clear c4b0
    obtain ⟨kq, x15_2, rfl, HA, HJ2, HB⟩ := hcut
    cases kq with
    | zero => exact absurd HA.out (by simp [caulkref39_Of.j0])
    | succ kj2 =>
      have H := HA.out
      clear HA
      simp only [caulkref39_Of.j0] at H
      by_cases c5 : x15_2 = true
      · subst c5
        have H1 : (some (([] : List Bool), 1)) = some (r1, r2) := by rw [if_pos rfl] at H; exact H
        clear H
        have H := H1
        clear H1
        simp only [Option.some.injEq, Prod.mk.injEq] at H
        obtain ⟨rfl, rfl⟩ := H
        go_wp2
        go_ret2
        exact ⟨_, by first | rfl | (simp [errW_none, errW_some] <;> rfl) | (simp [*, errW_none, errW_some] <;> rfl), by first | exact Kd.R_nil _ _ _ _ _ | exact Kd.N_nil _ _ _ _ _ | exact Kd.V_nil _ _ _ _ _ | exact Kd.Q_nil _ _ _ _ _ | exact Kd.S_nil _ _ _ _ _, by repeat (first | (with_reducible first | exact HB.out | apply below_alloc | apply pw_below_drewN | apply below_drew1) | exact HB.out)⟩
      · replace c5 := Bool.eq_false_iff.mpr c5
        subst c5
        have H1 : (if 0 ≤ a0 then (if (a0 : Int).toNat ≤ 281474976710656 then (caulkref39_Of.l0 kj2 a0 (List.replicate (a0 : Int).toNat false) l1 (l1.length : Int) 0) else (none)) else (none)) = some (r1, r2) := by rw [if_neg (show ¬ (false = true) by decide)] at H; exact H
        clear H
        have H := H1
        clear H1
        by_cases c6 : 0 ≤ a0
        · rw [if_pos c6] at H
          have c6b0 := eq_true c6
          have c6b1 : decide (0 ≤ a0) = true := decide_eq_true c6
          clear c6
          by_cases c7 : (a0 : Int).toNat ≤ 281474976710656
          · rw [if_pos c7] at H
            have c7b0 := eq_true c7
            have c7b1 : decide ((a0 : Int).toNat ≤ 281474976710656) = true := decide_eq_true c7
            clear c7
            obtain ⟨y3233, hy3233⟩ : ∃ y_ : List Bool, y_ = (List.replicate (a0 : Int).toNat false) := ⟨_, rfl⟩
            replace H : (caulkref39_Of.l0 kj2 a0 y3233 l1 (l1.length : Int) 0) = some (r1, r2) := by first | (rw [hy3233]; with_reducible exact H) | (have H2_ := (Option.bind_some _ _).symm.trans H; rw [hy3233]; with_reducible exact H2_) | (have H2_ := (Option.bind_some _ _).symm.trans H; with_reducible exact H2_) | with_reducible exact H | (rw [hy3233]; exact H) | exact H
            have Ny3233 := Aside0.mk hy3233
            clear hy3233
            have H' := Aside0.mk H
            clear H
            go_wp2_with (first | ((with_reducible refine HOpen.gate_append ?_); simp only [List.cons_append, List.nil_append]) | ((with_reducible refine gate_dst (N := 17) rfl ?_); refine Kd.R_make Kd.bool _ 4 rfl (N := 17) rfl 49 _ _ rfl a0 rfl rfl Try.underlying49 (.bool false) 1 info4 rfl (by decide) (by omega) false (ok := fun _ => True) (okp := fun _ => True) rfl (fun _ hk => hk) trivial (of_decide_eq_true (by first | (with_reducible assumption) | assumption)) (Nat.le_trans (Nat.mul_le_mul_right _ (of_decide_eq_true (by first | (with_reducible assumption) | assumption) : a0.toNat ≤ 281474976710656)) (by omega)) (Below.refl _ _) (Nat.le_refl _) ?_; intro v3234 w8 ho9 hb hg_ hnew_; clear hg_ hnew_; (first | rw [← Ny3233.out] at ho9 | (simp only [Int.reduceToNat] at ho9; rw [← Ny3233.out] at ho9)); have n0_ := Aside0.mk (Kd.R_lower ho9 (below_size (by repeat (first | (with_reducible first | exact HB.out | apply below_alloc | apply pw_below_drewN | apply below_drew1) | exact HB.out)))); have n1_ := Aside0.mk (below_step (by repeat (first | (with_reducible first | exact HB.out | apply below_alloc | apply pw_below_drewN | apply below_drew1) | exact HB.out)) hb); clear HB; have HO3235 := n0_; have HB := n1_; clear n0_ n1_; clear hb ho9))
            go_loopg [20] kj2 (fun kq v20 w' => ∃ (x6_2 : List Bool) (x20_2 : Int), v20 = .int .i64 x20_2 ∧ Aside0 (caulkref39_Of.l0 kq a0 x6_2 l1 (l1.length : Int) x20_2 = some (r1, r2)) ∧ Aside0 (kq ≤ kj2) ∧ Aside0 (Kd.R Kd.bool 4 w' w.heap.size (fun _ => True) v3234 x6_2) ∧ Aside0 (Below w.heap.size w w'))
            case atStart => exact ⟨(y3233), (0), (by first | rfl | (simp; done) | (simp [*]; done)), H', ⟨Nat.le_refl _⟩, ⟨by (with_reducible repeat (first | apply Kd.R_alloc | apply Kd.R_drewN | apply Kd.R_drew)); exact HO3235.out⟩, ⟨by repeat (first | (with_reducible first | exact HB.out | apply below_alloc | apply pw_below_drewN | apply below_drew1) | exact HB.out)⟩⟩
            case round =>
              clear H'
              try clear c1
              try clear p2
              try clear c4
              try clear c4b0
              try clear c5
              try clear c6
              try clear c6b0
              try clear c6b1
              try clear c7
              try clear c7b0
              try clear c7b1
              try clear p2
              obtain ⟨x6_2, x20_2, rfl, HA, HK2, HO_6, HB⟩ := hrel
              cases gk with
              | zero => exact absurd HA.out (by simp [caulkref39_Of.l0])
              | succ k2 =>
                have H := HA.out
                clear HA
                simp only [caulkref39_Of.l0] at H
                by_cases c10 : x20_2 < (l1.length : Int)
                · rw [if_pos c10] at H
                  have c10b0 : decide (x20_2 < (l1.length : Int)) = true := decide_eq_true c10
                  clear c10
                  by_cases c11 : 0 ≤ x20_2
                  · rw [if_pos c11] at H
                    have c11b0 : decide (0 ≤ x20_2) = true := decide_eq_true c11
                    clear c11
                    by_cases c12 : x20_2 < (l1.length : Int)
                    · rw [if_pos c12] at H
                      have c12b0 : decide (x20_2 < (l1.length : Int)) = true := decide_eq_true c12
                      clear c12
                      have HC13 := Aside0.mk H
                      clear H
                      have p3236 : 0 ≤ (x20_2 : Int) := of_decide_eq_true (by first | (with_reducible assumption) | assumption)
                      have q3236 : x20_2 < (l1.length : Int) := of_decide_eq_true (by first | (with_reducible assumption) | assumption)
                      obtain ⟨ad3236, e3236, hx3236_0, hx3236_1⟩ := at_T39 HR1.out x20_2 p3236 q3236
                      cases e3236
                      replace hx3236_0 := (HB.out.cell (World.block_lt_of_cell? w _ hx3236_0)).trans hx3236_0
                      replace hx3236_1 := (HB.out.cell (World.block_lt_of_cell? w _ hx3236_1)).trans hx3236_1
                      replace p3236 := eq_true p3236
                      replace q3236 := eq_true q3236
                      go_upto_region 7 with (first | ((with_reducible refine gate_dst (N := 8) rfl ?_); refine box_event ?hg (N := 8) ?hd (cs := #[.int .i64 0, .int .i64 0]) (t := 39) ?hr ?_; (case hd => rfl); (case hg => rfl); (case hr => first | (go_simp; done) | (go_simp; rfl)); intro gb3237 hg w14 hbox hb; have n0_ := Aside0.mk (Kd.R_below (by (with_reducible repeat (first | apply Kd.R_alloc | apply Kd.R_drewN | apply Kd.R_drew)); exact HO_6.out) hb); have n1_ := Aside0.mk (below_step (by repeat (first | (with_reducible first | exact HB.out | apply below_alloc | apply pw_below_drewN | apply below_drew1) | exact HB.out)) hb); have n2_ := Aside0.mk (hbox); have n3_ := Aside0.mk ((by rw [hg]; exact (below_size (by repeat (first | (with_reducible first | exact HB.out | apply below_alloc | apply pw_below_drewN | apply below_drew1) | exact HB.out))) : w.heap.size ≤ gb3237)); have n4_ := Aside0.mk ((by rw [hg]; exact (below_size (by repeat (first | (with_reducible first | exact HB.out | apply below_alloc | apply pw_below_drewN | apply below_drew1) | exact HB.out))) : w.heap.size ≤ gb3237)); clear HO_6; clear HB; have HO_6 := n0_; have HB := n1_; have BK3237 := n2_; have GW3237 := n3_; have GE3237 := n4_; clear n0_ n1_ n2_ n3_ n4_; clear hb hbox hg; have hcz15_0 : w14.cell? ⟨gb3237, 0, none⟩ = some (.int .i64 0) := (blk_cell BK3237.out 0).trans rfl; have hcz15_1 : w14.cell? ⟨gb3237, 1, none⟩ = some (.int .i64 0) := (blk_cell BK3237.out 1).trans rfl; have hfz15_0 := blk_frozen BK3237.out 0; have hfz15_1 := blk_frozen BK3237.out 1))
                      (try simp only [Act.put, List.setIfInBounds_toArray, List.set_cons_zero, List.set_cons_succ])
                      go_cut [39] (fun v39 wc => ∃ (kq : Nat) (x39_12 : Bool), v39 = .bool x39_12 ∧ Aside0 (caulkref39_Of.j2 kq a0 x6_2 l1 (l1.length : Int) x20_2 x39_12 ((rd_T39 l1 x20_2).f0) ((rd_T39 l1 x20_2).f1) = some (r1, r2)) ∧ Aside0 (kq ≤ k2) ∧ Aside0 (Kd.R Kd.bool 4 wc w.heap.size (fun _ => True) v3234 x6_2) ∧ Aside0 (wc.heap[gb3237]? = some (.cells #[.int .i64 ((rd_T39 l1 x20_2).f0), .int .i64 ((rd_T39 l1 x20_2).f1)] 39 (0, 0))) ∧ Aside0 (Below w.heap.size w wc))
                      case first =>
                        have H := HC13.out
                        clear HC13
                        by_cases c16 : ((rd_T39 l1 x20_2).f0) < 0
                        · rw [if_pos c16] at H
                          have c16b0 : decide (((rd_T39 l1 x20_2).f0) < 0) = true := decide_eq_true c16
                          clear c16
                          (first | rw [c16b0] | (simp only [i64_w, i32_w]; rw [c16b0]) | skip)
                          have H' := Aside0.mk H
                          clear H
                          have hcz17_0 : w14.cell? ⟨gb3237, 0, none⟩ = some (.int .i64 0) := (blk_cell BK3237.out 0).trans rfl
                          have hcz17_1 : w14.cell? ⟨gb3237, 1, none⟩ = some (.int .i64 0) := (blk_cell BK3237.out 1).trans rfl
                          have hfz17_0 := blk_frozen BK3237.out 0
                          have hfz17_1 := blk_frozen BK3237.out 1
                          go_wp2
                          go_meet
                          case rel => exact ⟨_, (true), (by first | rfl | (simp; done) | (simp [*]; done)), H', ⟨by have := HJ2.out; have := HK2.out; first | omega | exact Nat.le_refl _⟩, ⟨by (with_reducible repeat (first | apply Kd.R_alloc | apply Kd.R_drewN | apply Kd.R_drew)); exact Kd.R_mono (Kd.R_far (p := ⟨gb3237, 1, none⟩) (Kd.R_far (p := ⟨gb3237, 0, none⟩) (Kd.R_types HO_6.out BK3237.out (by decide)) (fun _ hk => hk.2) (.int .i64 ((rd_T39 l1 x20_2).f0))) (fun _ hk => hk.2) (.int .i64 ((rd_T39 l1 x20_2).f1))) (fun _ hk => trivial)⟩, ⟨by (with_reducible repeat (first | refine blk_drewN ?_ _ | refine blk_drew ?_ | refine blk_alloc ?_ _)); refine blk_put (cs := #[.int .i64 ((rd_T39 l1 x20_2).f0), .int .i64 0]) ?_ 1 _ rfl; (with_reducible repeat (first | refine blk_drewN ?_ _ | refine blk_drew ?_ | refine blk_alloc ?_ _)); refine blk_put (cs := #[.int .i64 0, .int .i64 0]) ?_ 0 _ rfl; (with_reducible repeat (first | refine blk_drewN ?_ _ | refine blk_drew ?_ | refine blk_alloc ?_ _)); exact BK3237.out⟩, ⟨by repeat (first | (with_reducible first | exact HB.out | apply below_alloc | apply pw_below_drewN | apply below_drew1 | refine below_set ?_ GE3237.out) | exact HB.out)⟩⟩
                        · rw [if_neg c16] at H
                          have c16b0 : decide (((rd_T39 l1 x20_2).f0) < 0) = false := decide_eq_false c16
                          clear c16
                          (first | rw [c16b0] | (simp only [i64_w, i32_w]; rw [c16b0]) | skip)
                          by_cases c18 : ((rd_T39 l1 x20_2).f1) < ((rd_T39 l1 x20_2).f0)
                          · rw [if_pos c18] at H
                            have c18b0 : decide (((rd_T39 l1 x20_2).f1) < ((rd_T39 l1 x20_2).f0)) = true := decide_eq_true c18
                            clear c18
                            have H' := Aside0.mk H
                            clear H
                            have hcz19_0 : w14.cell? ⟨gb3237, 0, none⟩ = some (.int .i64 0) := (blk_cell BK3237.out 0).trans rfl
                            have hcz19_1 : w14.cell? ⟨gb3237, 1, none⟩ = some (.int .i64 0) := (blk_cell BK3237.out 1).trans rfl
                            have hfz19_0 := blk_frozen BK3237.out 0
                            have hfz19_1 := blk_frozen BK3237.out 1
                            go_wp2
                            go_meet
                            case rel => exact ⟨_, (true), (by first | rfl | (simp; done) | (simp [*]; done)), H', ⟨by have := HJ2.out; have := HK2.out; first | omega | exact Nat.le_refl _⟩, ⟨by (with_reducible repeat (first | apply Kd.R_alloc | apply Kd.R_drewN | apply Kd.R_drew)); exact Kd.R_mono (Kd.R_far (p := ⟨gb3237, 1, none⟩) (Kd.R_far (p := ⟨gb3237, 0, none⟩) (Kd.R_types HO_6.out BK3237.out (by decide)) (fun _ hk => hk.2) (.int .i64 ((rd_T39 l1 x20_2).f0))) (fun _ hk => hk.2) (.int .i64 ((rd_T39 l1 x20_2).f1))) (fun _ hk => trivial)⟩, ⟨by (with_reducible repeat (first | refine blk_drewN ?_ _ | refine blk_drew ?_ | refine blk_alloc ?_ _)); refine blk_put (cs := #[.int .i64 ((rd_T39 l1 x20_2).f0), .int .i64 0]) ?_ 1 _ rfl; (with_reducible repeat (first | refine blk_drewN ?_ _ | refine blk_drew ?_ | refine blk_alloc ?_ _)); refine blk_put (cs := #[.int .i64 0, .int .i64 0]) ?_ 0 _ rfl; (with_reducible repeat (first | refine blk_drewN ?_ _ | refine blk_drew ?_ | refine blk_alloc ?_ _)); exact BK3237.out⟩, ⟨by repeat (first | (with_reducible first | exact HB.out | apply below_alloc | apply pw_below_drewN | apply below_drew1 | refine below_set ?_ GE3237.out) | exact HB.out)⟩⟩
                          · rw [if_neg c18] at H
                            have c18b0 : decide (((rd_T39 l1 x20_2).f1) < ((rd_T39 l1 x20_2).f0)) = false := decide_eq_false c18
                            clear c18
                            have H' := Aside0.mk H
                            clear H
                            have hcz20_0 : w14.cell? ⟨gb3237, 0, none⟩ = some (.int .i64 0) := (blk_cell BK3237.out 0).trans rfl
                            have hcz20_1 : w14.cell? ⟨gb3237, 1, none⟩ = some (.int .i64 0) := (blk_cell BK3237.out 1).trans rfl
                            have hfz20_0 := blk_frozen BK3237.out 0
                            have hfz20_1 := blk_frozen BK3237.out 1
                            go_wp2
                            go_meet
                            case rel => exact ⟨_, (decide (((rd_T39 l1 x20_2).f1) > a0)), (by first | rfl | (simp; done) | (simp [*]; done)), H', ⟨by have := HJ2.out; have := HK2.out; first | omega | exact Nat.le_refl _⟩, ⟨by (with_reducible repeat (first | apply Kd.R_alloc | apply Kd.R_drewN | apply Kd.R_drew)); exact Kd.R_mono (Kd.R_far (p := ⟨gb3237, 1, none⟩) (Kd.R_far (p := ⟨gb3237, 0, none⟩) (Kd.R_types HO_6.out BK3237.out (by decide)) (fun _ hk => hk.2) (.int .i64 ((rd_T39 l1 x20_2).f0))) (fun _ hk => hk.2) (.int .i64 ((rd_T39 l1 x20_2).f1))) (fun _ hk => trivial)⟩, ⟨by (with_reducible repeat (first | refine blk_drewN ?_ _ | refine blk_drew ?_ | refine blk_alloc ?_ _)); refine blk_put (cs := #[.int .i64 ((rd_T39 l1 x20_2).f0), .int .i64 0]) ?_ 1 _ rfl; (with_reducible repeat (first | refine blk_drewN ?_ _ | refine blk_drew ?_ | refine blk_alloc ?_ _)); refine blk_put (cs := #[.int .i64 0, .int .i64 0]) ?_ 0 _ rfl; (with_reducible repeat (first | refine blk_drewN ?_ _ | refine blk_drew ?_ | refine blk_alloc ?_ _)); exact BK3237.out⟩, ⟨by repeat (first | (with_reducible first | exact HB.out | apply below_alloc | apply pw_below_drewN | apply below_drew1 | refine below_set ?_ GE3237.out) | exact HB.out)⟩⟩
                      case rest =>
                        clear HC13
                        try clear c1
                        try clear p2
                        try clear p3
                        try clear q3
                        try clear hx3
                        try clear c4
                        try clear c4b0
                        try clear c5
                        try clear c6
                        try clear c6b0
                        try clear c6b1
                        try clear c7
                        try clear c7b0
                        try clear c7b1
                        try clear c10
                        try clear c10b0
                        try clear c11
                        try clear c11b0
                        try clear c12
                        try clear c12b0
                        try clear c16
                        try clear c16b0
                        try clear c18
                        try clear c18b0
                        try clear hcz15_0
                        try clear hcz15_1
                        try clear hcz17_0
                        try clear hcz17_1
                        try clear hcz19_0
                        try clear hcz19_1
                        try clear hcz20_0
                        try clear hcz20_1
                        try clear hfz15_0
                        try clear hfz15_1
                        try clear hfz17_0
                        try clear hfz17_1
                        try clear hfz19_0
                        try clear hfz19_1
                        try clear hfz20_0
                        try clear hfz20_1
                        try clear hx3236_0
                        try clear hx3236_1
                        try clear p2
                        try clear p3236
                        try clear q3236
                        obtain ⟨kq, x39_12, rfl, HA, HJ12, HO_6, BK3237, HB⟩ := hcut
                        cases kq with
                        | zero => exact absurd HA.out (by simp [caulkref39_Of.j2])
                        | succ kj12 =>
                          have H := HA.out
                          clear HA
                          simp only [caulkref39_Of.j2] at H
                          by_cases c21 : x39_12 = true
                          · subst c21
                            have H1 : (some (([] : List Bool), 1)) = some (r1, r2) := by rw [if_pos rfl] at H; exact H
                            clear H
                            have H := H1
                            clear H1
                            simp only [Option.some.injEq, Prod.mk.injEq] at H
                            obtain ⟨rfl, rfl⟩ := H
                            go_wp2
                            go_ret2
                            exact ⟨_, by first | rfl | (simp [errW_none, errW_some] <;> rfl) | (simp [*, errW_none, errW_some] <;> rfl), by first | exact Kd.R_nil _ _ _ _ _ | exact Kd.N_nil _ _ _ _ _ | exact Kd.V_nil _ _ _ _ _ | exact Kd.Q_nil _ _ _ _ _ | exact Kd.S_nil _ _ _ _ _, by repeat (first | (with_reducible first | exact HB.out | apply below_alloc | apply pw_below_drewN | apply below_drew1 | refine below_set ?_ GE3237.out) | exact HB.out)⟩
                          · replace c21 := Bool.eq_false_iff.mpr c21
                            subst c21
                            have H1 : (caulkref39_Of.l1 kj12 a0 x6_2 ((rd_T39 l1 x20_2).f0) l1 (l1.length : Int) x20_2 ((rd_T39 l1 x20_2).f0) ((rd_T39 l1 x20_2).f1)) = some (r1, r2) := by rw [if_neg (show ¬ (false = true) by decide)] at H; exact H
                            clear H
                            have H := H1
                            clear H1
                            have H' := Aside0.mk H
                            clear H
                            have hcz22_0 : wc.cell? ⟨gb3237, 0, none⟩ = some (.int .i64 ((rd_T39 l1 x20_2).f0)) := (blk_cell BK3237.out 0).trans rfl
                            have hcz22_1 : wc.cell? ⟨gb3237, 1, none⟩ = some (.int .i64 ((rd_T39 l1 x20_2).f1)) := (blk_cell BK3237.out 1).trans rfl
                            have hfz22_0 := blk_frozen BK3237.out 0
                            have hfz22_1 := blk_frozen BK3237.out 1
                            go_wp2
                            go_loopg [9] kj12 (fun kq v9 w' => ∃ (x6_4 : List Bool) (x9_4 : Int), v9 = .int .i64 x9_4 ∧ Aside0 (caulkref39_Of.l1 kq a0 x6_4 x9_4 l1 (l1.length : Int) x20_2 ((rd_T39 l1 x20_2).f0) ((rd_T39 l1 x20_2).f1) = some (r1, r2)) ∧ Aside0 (kq ≤ kj12) ∧ Aside0 (Kd.R Kd.bool 4 w' w.heap.size (fun _ => True) v3234 x6_4) ∧ Aside0 (w'.heap[gb3237]? = some (.cells #[.int .i64 ((rd_T39 l1 x20_2).f0), .int .i64 ((rd_T39 l1 x20_2).f1)] 39 (0, 0))) ∧ Aside0 (Below w.heap.size w w'))
                            case atStart => exact ⟨(x6_2), (((rd_T39 l1 x20_2).f0)), (by first | rfl | (simp; done) | (simp [*]; done)), H', ⟨Nat.le_refl _⟩, ⟨by (with_reducible repeat (first | apply Kd.R_alloc | apply Kd.R_drewN | apply Kd.R_drew)); exact HO_6.out⟩, ⟨by (with_reducible repeat (first | refine blk_drewN ?_ _ | refine blk_drew ?_ | refine blk_alloc ?_ _)); exact BK3237.out⟩, ⟨by repeat (first | (with_reducible first | exact HB.out | apply below_alloc | apply pw_below_drewN | apply below_drew1 | refine below_set ?_ GE3237.out) | exact HB.out)⟩⟩
                            case round =>
                              clear H'
                              try clear c1
                              try clear c2
                              try clear p2
                              try clear p3
                              try clear q3
                              try clear hx3
                              try clear c4
                              try clear c4b0
                              try clear c5
                              try clear c6
                              try clear c6b0
                              try clear c6b1
                              try clear c7
                              try clear c7b0
                              try clear c7b1
                              try clear c10
                              try clear c10b0
                              try clear c11
                              try clear c11b0
                              try clear c12
                              try clear c12b0
                              try clear c16
                              try clear c16b0
                              try clear c18
                              try clear c18b0
                              try clear c21
                              try clear hcz15_0
                              try clear hcz15_1
                              try clear hcz17_0
                              try clear hcz17_1
                              try clear hcz19_0
                              try clear hcz19_1
                              try clear hcz20_0
                              try clear hcz20_1
                              try clear hcz22_0
                              try clear hcz22_1
                              try clear hfz15_0
                              try clear hfz15_1
                              try clear hfz17_0
                              try clear hfz17_1
                              try clear hfz19_0
                              try clear hfz19_1
                              try clear hfz20_0
                              try clear hfz20_1
                              try clear hfz22_0
                              try clear hfz22_1
                              try clear hx3236_0
                              try clear hx3236_1
                              try clear p2
                              try clear p3
                              try clear p3236
                              try clear q3
                              try clear q3236
                              obtain ⟨x6_4, x9_4, rfl, HA, HK4, HO_6, BK3237, HB⟩ := hrel
                              cases gk with
                              | zero => exact absurd HA.out (by simp [caulkref39_Of.l1])
                              | succ k4 =>
                                have H := HA.out
                                clear HA
                                simp only [caulkref39_Of.l1] at H
                                by_cases c23 : x9_4 < ((rd_T39 l1 x20_2).f1)
                                · rw [if_pos c23] at H
                                  have c23b0 : decide (x9_4 < ((rd_T39 l1 x20_2).f1)) = true := decide_eq_true c23
                                  clear c23
                                  by_cases c24 : 0 ≤ x9_4
                                  · rw [if_pos c24] at H
                                    have c24b0 : decide (0 ≤ x9_4) = true := decide_eq_true c24
                                    clear c24
                                    by_cases c25 : x9_4 < (x6_4.length : Int)
                                    · rw [if_pos c25] at H
                                      have c25b0 : decide (x9_4 < (x6_4.length : Int)) = true := decide_eq_true c25
                                      clear c25
                                      obtain ⟨y3238, hy3238⟩ : ∃ y_ : List Bool, y_ = (x6_4.set (x9_4 : Int).toNat true) := ⟨_, rfl⟩
                                      replace H : (caulkref39_Of.l1 k4 a0 y3238 (wrap64 (x9_4 + 1)) l1 (l1.length : Int) x20_2 ((rd_T39 l1 x20_2).f0) ((rd_T39 l1 x20_2).f1)) = some (r1, r2) := by first | (rw [hy3238]; with_reducible exact H) | (have H2_ := (Option.bind_some _ _).symm.trans H; rw [hy3238]; with_reducible exact H2_) | (have H2_ := (Option.bind_some _ _).symm.trans H; with_reducible exact H2_) | with_reducible exact H | (rw [hy3238]; exact H) | exact H
                                      have Ny3238 := Aside0.mk hy3238
                                      clear hy3238
                                      have H' := Aside0.mk H
                                      clear H
                                      have hcz27_0 : wr.cell? ⟨gb3237, 0, none⟩ = some (.int .i64 ((rd_T39 l1 x20_2).f0)) := (blk_cell BK3237.out 0).trans rfl
                                      have hcz27_1 : wr.cell? ⟨gb3237, 1, none⟩ = some (.int .i64 ((rd_T39 l1 x20_2).f1)) := (blk_cell BK3237.out 1).trans rfl
                                      have hfz27_0 := blk_frozen BK3237.out 0
                                      have hfz27_1 := blk_frozen BK3237.out 1
                                      have p26 : 0 ≤ (x9_4 : Int) := of_decide_eq_true (by first | (with_reducible assumption) | assumption)
                                      have q26 : (x9_4 : Int) < ((x6_4.length : Int) : Int) := of_decide_eq_true (by first | (with_reducible assumption) | assumption)
                                      obtain ⟨go26, co26, eo26, gb26, gl26, cl26, HG26⟩ := Kd.R_form HO_6.out (by omega)
                                      (first | cases eo26 | (injection eo26 with ea_ en_ ec_; (first | subst ea_ | (injection ea_ with ea_; subst ea_)); subst ec_; clear en_))
                                      have GB26 := Aside0.mk gb26
                                      have GG26 := Aside0.mk HG26
                                      clear gb26 gl26 HG26
                                      obtain ⟨hx26_0, hf26_0⟩ := Kd.R_celln false HO_6.out (x9_4 : Int) p26 q26
                                      replace p26 := eq_true p26
                                      replace q26 := eq_true q26
                                      have HP28 := Kd.R_putg HO_6.out (x9_4 : Int) true
                                      go_wp2_with (first | ((with_reducible refine HOpen.gate_append ?_); simp only [List.cons_append, List.nil_append]) | ((with_reducible refine gate_store (t := 4) (p := 50) rfl ?_); refine store_event (t := 4) (p := 50) (v := ?vo_w29) (w1 := (wr.setCell ⟨go26, (x9_4 : Int).toNat, none⟩ (.bool true))) ?hg ?ho ?hn ?hr ?_; (case ho => rfl); (case hg => rfl); (case hn => rfl); (case hr => first | (go_simp; done) | (go_simp; rfl)); intro w29 hw; have hg : wr.grownBy w29 (some go26) := (by rw [hw]; exact HP28.2); have hp_ : Kd.R Kd.bool 4 w29 w.heap.size (fun _ => True) (.slice (some ⟨go26, 0, none⟩) x6_4.length co26) y3238 := (by rw [hw, Ny3238.out]; exact HP28.1); clear HP28; have n0_ := Aside0.mk (hp_); have n1_ := Aside0.mk (blk_grown (g := gb3237) (o := .cells #[.int .i64 ((rd_T39 l1 x20_2).f0), .int .i64 ((rd_T39 l1 x20_2).f1)] 39 (0, 0)) (by (with_reducible repeat (first | refine blk_drewN ?_ _ | refine blk_drew ?_ | refine blk_alloc ?_ _)); exact BK3237.out) hg (Kd.R_ne HO_6.out BK3237.out (by decide))); have n2_ := Aside0.mk ((by rw [hw]; exact below_set (HB.out) GB26.out : Below w.heap.size w w29)); clear HO_6; clear BK3237; clear HB; have HO_6 := n0_; have BK3237 := n1_; have HB := n2_; clear n0_ n1_ n2_; clear hg hw hp_))
                                      go_roundg k4
                                      case measure => have := HJ2.out; have := HK2.out; have := HJ12.out; have := HK4.out; omega
                                      case rel => exact ⟨(y3238), (wrap64 (x9_4 + 1)), (by first | rfl | (simp; done) | (simp [*]; done)), H', ⟨by have := HJ2.out; have := HK2.out; have := HJ12.out; have := HK4.out; omega⟩, ⟨by (with_reducible repeat (first | apply Kd.R_alloc | apply Kd.R_drewN | apply Kd.R_drew)); exact HO_6.out⟩, ⟨by (with_reducible repeat (first | refine blk_drewN ?_ _ | refine blk_drew ?_ | refine blk_alloc ?_ _)); exact BK3237.out⟩, ⟨by repeat (first | (with_reducible first | exact HB.out | apply below_alloc | apply pw_below_drewN | apply below_drew1 | refine below_set ?_ GE3237.out) | exact HB.out)⟩⟩
                                    · rw [if_neg c25] at H
                                      exact absurd H (by simp)
                                  · rw [if_neg c24] at H
                                    exact absurd H (by simp)
                                · rw [if_neg c23] at H
                                  have c23b0 : decide (x9_4 < ((rd_T39 l1 x20_2).f1)) = false := decide_eq_false c23
                                  clear c23
                                  have H' := Aside0.mk H
                                  clear H
                                  have hcz30_0 : wr.cell? ⟨gb3237, 0, none⟩ = some (.int .i64 ((rd_T39 l1 x20_2).f0)) := (blk_cell BK3237.out 0).trans rfl
                                  have hcz30_1 : wr.cell? ⟨gb3237, 1, none⟩ = some (.int .i64 ((rd_T39 l1 x20_2).f1)) := (blk_cell BK3237.out 1).trans rfl
                                  have hfz30_0 := blk_frozen BK3237.out 0
                                  have hfz30_1 := blk_frozen BK3237.out 1
                                  go_wp2
                                  go_roundg k4
                                  case measure => have := HJ2.out; have := HK2.out; have := HJ12.out; have := HK4.out; omega
                                  case rel => exact ⟨(x6_4), (wrap64 (x20_2 + 1)), (by first | rfl | (simp; done) | (simp [*]; done)), H', ⟨by have := HJ2.out; have := HK2.out; have := HJ12.out; have := HK4.out; omega⟩, ⟨by (with_reducible repeat (first | apply Kd.R_alloc | apply Kd.R_drewN | apply Kd.R_drew)); exact HO_6.out⟩, ⟨by repeat (first | (with_reducible first | exact HB.out | apply below_alloc | apply pw_below_drewN | apply below_drew1 | refine below_set ?_ GE3237.out) | exact HB.out)⟩⟩
                    · rw [if_neg c12] at H
                      exact absurd H (by simp)
                  · rw [if_neg c11] at H
                    exact absurd H (by simp)
                · rw [if_neg c10] at H
                  have c10b0 : decide (x20_2 < (l1.length : Int)) = false := decide_eq_false c10
                  clear c10
                  simp only [Option.some.injEq, Prod.mk.injEq] at H
                  obtain ⟨rfl, rfl⟩ := H
                  go_wp2
                  go_ret2
                  exact ⟨_, by first | rfl | (simp [errW_none, errW_some] <;> rfl) | (simp [*, errW_none, errW_some] <;> rfl), by (with_reducible repeat (first | apply Kd.R_alloc | apply Kd.R_drewN | apply Kd.R_drew)); exact HO_6.out, by repeat (first | (with_reducible first | exact HB.out | apply below_alloc | apply pw_below_drewN | apply below_drew1) | exact HB.out)⟩
          · rw [if_neg c7] at H
            exact absurd H (by simp)
        · rw [if_neg c6] at H
          exact absurd H (by simp)

end Go.Proofs.Ytgahpdoiddhdaaa.HBitmap
