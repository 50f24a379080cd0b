-- WRITTEN BY wip/hyb.py, a program of this workplace (out of the kit's printer and this workplace's own contracts).
import Derived.Test.YtgahpdoiddhdaaaHBitmapx0
import Derived.Test.YtgahpdoiddhdaaaHBitmapx2
import Derived.Test.YtgahpdoiddhdaaaHBitmapx3
import Derived.Test.YtgahpdoiddhdaaaHBitmapx4
namespace Go.Proofs.Ytgahpdoiddhdaaa.HBitmap
open Go.RowKit Go.Proofs.YtgahpdoiddhdaaaW.PrintWords Go.Proofs.YtgahpdoiddhdaaaW.PrintLast Go.Proofs.YtgahpdoiddhdaaaW.PrintMore
attribute [local go_sem] max2_int min2_int max_two min_two max_three min_three max_four min_four   -- for this text's walks alone
set_option linter.unusedVariables false
set_option linter.unusedSimpArgs false

/-! ### bitmap_both__bitmap_Only_1: function 95 -/
def bitmap_both__bitmap_Only_1.l0 : Nat → List Bool → List Bool → List Bool → Int → Int → Option (List Bool × Int)
  | 0, _, _, _, _, _ => none
  | k + 1, x1, x8, x19, x20, x21 => if x21 < x20 then (if 0 ≤ x21 then (if x21 < (x19.length : Int) then (if x21 < (x1.length : Int) then ((bitmap_Only_1.f (rdOf false x19 x21) (rdOf false x1 x21)).bind fun t2171 => (if x21 < (x8.length : Int) then (bitmap_both__bitmap_Only_1.l0 k x1 (x8.set (x21 : Int).toNat t2171) x19 x20 (wrap64 (x21 + 1))) else (none))) else (none)) else (none)) else (none)) else (some (x8, 0))
def bitmap_both__bitmap_Only_1.f (k : Nat) (l0 : List Bool) (l1 : List Bool)  : Option (List Bool × Int) := if (l0.length : Int) = (l1.length : Int) then (if 0 ≤ (l0.length : Int) then (if ((l0.length : Int) : Int).toNat ≤ 281474976710656 then (bitmap_both__bitmap_Only_1.l0 k l1 (List.replicate ((l0.length : Int) : Int).toNat false) l0 (l0.length : Int) 0) else (none)) else (none)) else (some (([] : List Bool), 2))
theorem bitmap_both__bitmap_Only_1.mono_l : ∀ k, (∀ y0 y1 y2 y3 y4, LeO (bitmap_both__bitmap_Only_1.l0 k y0 y1 y2 y3 y4) (bitmap_both__bitmap_Only_1.l0 (k + 1) y0 y1 y2 y3 y4))
  | 0 => fun _ _ _ _ _ r h => by simp [bitmap_both__bitmap_Only_1.l0] at h
  | k + 1 => by
    have ih0 := bitmap_both__bitmap_Only_1.mono_l k
    · intro y0 y1 y2 y3 y4
      unfold bitmap_both__bitmap_Only_1.l0
      repeat' first
      | (with_reducible exact ih0 _ _ _ _ _)
      | (with_reducible exact LeO.refl _)
      | (with_reducible exact LeO.none _)
      | (with_reducible refine LeO.ite ?_ ?_)
      | (with_reducible refine LeO.bind ?_ (fun _ => ?_))
      | exact ih0 _ _ _ _ _
      | exact LeO.none _
      | refine LeO.ite ?_ ?_
      | refine LeO.bind ?_ (fun _ => ?_)
theorem bitmap_both__bitmap_Only_1.mono : ∀ a0 a1 k, LeO (bitmap_both__bitmap_Only_1.f k a0 a1) (bitmap_both__bitmap_Only_1.f (k + 1) a0 a1) := by
  intro a0 a1 k
  have ih0 := bitmap_both__bitmap_Only_1.mono_l k
  unfold bitmap_both__bitmap_Only_1.f
  repeat' first
      | (with_reducible exact ih0 _ _ _ _ _)
      | (with_reducible exact LeO.refl _)
      | (with_reducible exact LeO.none _)
      | (with_reducible refine LeO.ite ?_ ?_)
      | (with_reducible refine LeO.bind ?_ (fun _ => ?_))
      | exact ih0 _ _ _ _ _
      | exact LeO.none _
      | refine LeO.ite ?_ ?_
      | refine LeO.bind ?_ (fun _ => ?_)
set_option maxHeartbeats 8000000 in
set_option maxRecDepth 100000 in
theorem bitmap_both__bitmap_Only_1.calls (k : Nat) (A0 : Option Addr) (c0 : Nat) (l0 : List Bool) (A1 : Option Addr) (c1 : Nat) (l1 : List Bool)  (r1 : List Bool) (r2 : Int) (w : World) (hr0 : Kd.C Kd.bool w A0 l0.length l0) (hc0 : l0.length ≤ c0) (hr1 : Kd.C Kd.bool w A1 l1.length l1) (hc1 : l1.length ≤ c1) (h : bitmap_both__bitmap_Only_1.f k l0 l1 = some (r1, r2)) :
    Calls Try.prog 95 #[.slice A0 l0.length c0, .slice A1 l1.length c1, .func (.func 97) #[] #[]] w fun e w' => ∃ v0_ : Value, e = .returned (.tuple #[v0_, .int .i64 r2]) ∧ Kd.R Kd.bool 4 w' w.heap.size (fun _ => True) v0_ r1 ∧ Below w.heap.size w w' := by
  have HR0 := Aside0.mk hr0
  have HC0 := Aside0.mk hc0
  clear hr0 hc0
  have HR1 := Aside0.mk hr1
  have HC1 := Aside0.mk hc1
  clear hr1 hc1
  have HB := Aside0.mk (Below.refl w.heap.size w)
  have H : (if (l0.length : Int) = (l1.length : Int) then (if 0 ≤ (l0.length : Int) then (if ((l0.length : Int) : Int).toNat ≤ 281474976710656 then (bitmap_both__bitmap_Only_1.l0 k l1 (List.replicate ((l0.length : Int) : Int).toNat false) l0 (l0.length : Int) 0) else (none)) else (none)) else (some (([] : List Bool), 2))) = some (r1, r2) := h
  clear h
  by_cases c4 : (l0.length : Int) = (l1.length : Int)
  · rw [if_pos c4] at H
    have c4b0 : ((l0.length : Int) == (l1.length : Int)) = true := beq_iff_eq.mpr c4
    have c4b1 : ((l0.length : Int) != (l1.length : Int)) = false := bne_eq_false_iff_eq.mpr c4
    have c4b2 : (l0.length == l1.length) = true := by first | simpa using c4 | (simp at c4 ⊢; omega)
    clear c4
    by_cases c5 : 0 ≤ (l0.length : Int)
    · rw [if_pos c5] at H
      have c5b0 := eq_true c5
      have c5b1 : decide (0 ≤ (l0.length : Int)) = true := decide_eq_true c5
      clear c5
      by_cases c6 : ((l0.length : Int) : Int).toNat ≤ 281474976710656
      · rw [if_pos c6] at H
        have c6b0 := eq_true c6
        have c6b1 : decide (((l0.length : Int) : Int).toNat ≤ 281474976710656) = true := decide_eq_true c6
        clear c6
        obtain ⟨y2166, hy2166⟩ : ∃ y_ : List Bool, y_ = (List.replicate ((l0.length : Int) : Int).toNat false) := ⟨_, rfl⟩
        replace H : (bitmap_both__bitmap_Only_1.l0 k l1 y2166 l0 (l0.length : Int) 0) = some (r1, r2) := by first | (rw [hy2166]; with_reducible exact H) | (have H2_ := (Option.bind_some _ _).symm.trans H; rw [hy2166]; with_reducible exact H2_) | (have H2_ := (Option.bind_some _ _).symm.trans H; with_reducible exact H2_) | with_reducible exact H | (rw [hy2166]; exact H) | exact H
        have Ny2166 := Aside0.mk hy2166
        clear hy2166
        have H' := Aside0.mk H
        clear H
        go_enter Try.func95, Try.ntmps95
        go_wp2_with (first | ((with_reducible refine HOpen.gate_append ?_); simp only [List.cons_append, List.nil_append]) | ((with_reducible refine gate_dst (N := 18) rfl ?_); refine Kd.R_make Kd.bool _ 4 rfl (N := 18) rfl 49 _ _ rfl (l0.length : Int) rfl rfl Try.underlying49 (.bool false) 1 info4 rfl (by decide) (by omega) false (ok := fun _ => True) (okp := fun _ => True) rfl (fun _ hk => hk) trivial (of_decide_eq_true (by first | (with_reducible assumption) | assumption)) (Nat.le_trans (Nat.mul_le_mul_right _ (of_decide_eq_true (by first | (with_reducible assumption) | assumption) : (l0.length : Int).toNat ≤ 281474976710656)) (by omega)) (Below.refl _ _) (Nat.le_refl _) ?_; intro v2167 w7 ho8 hb hg_ hnew_; clear hg_ hnew_; (first | rw [← Ny2166.out] at ho8 | (simp only [Int.reduceToNat] at ho8; rw [← Ny2166.out] at ho8)); have n0_ := Aside0.mk (Kd.R_lower ho8 (below_size (by repeat (first | (with_reducible first | exact HB.out | apply below_alloc | apply pw_below_drewN | apply below_drew1) | exact HB.out)))); have n1_ := Aside0.mk (below_step (by repeat (first | (with_reducible first | exact HB.out | apply below_alloc | apply pw_below_drewN | apply below_drew1) | exact HB.out)) hb); clear HB; have HO2168 := n0_; have HB := n1_; clear n0_ n1_; clear hb ho8))
        go_loopg [21] k (fun kq v21 w' => ∃ (x8_1 : List Bool) (x21_1 : Int), v21 = .int .i64 x21_1 ∧ Aside0 (bitmap_both__bitmap_Only_1.l0 kq l1 x8_1 l0 (l0.length : Int) x21_1 = some (r1, r2)) ∧ Aside0 (kq ≤ k) ∧ Aside0 (Kd.R Kd.bool 4 w' w.heap.size (fun _ => True) v2167 x8_1) ∧ Aside0 (Below w.heap.size w w'))
        case atStart => exact ⟨(y2166), (0), (by first | rfl | (simp; done) | (simp [*]; done)), H', ⟨Nat.le_refl _⟩, ⟨by (with_reducible repeat (first | apply Kd.R_alloc | apply Kd.R_drewN | apply Kd.R_drew)); exact HO2168.out⟩, ⟨by repeat (first | (with_reducible first | exact HB.out | apply below_alloc | apply pw_below_drewN | apply below_drew1) | exact HB.out)⟩⟩
        case round =>
          clear H'
          try clear c1
          try clear p2
          try clear c4
          try clear c4b0
          try clear c4b1
          try clear c4b2
          try clear c5
          try clear c5b0
          try clear c5b1
          try clear c6
          try clear c6b0
          try clear c6b1
          obtain ⟨x8_1, x21_1, rfl, HA, HK1, HO_8, HB⟩ := hrel
          cases gk with
          | zero => exact absurd HA.out (by simp [bitmap_both__bitmap_Only_1.l0])
          | succ k1 =>
            have H := HA.out
            clear HA
            simp only [bitmap_both__bitmap_Only_1.l0] at H
            by_cases c9 : x21_1 < (l0.length : Int)
            · rw [if_pos c9] at H
              have c9b0 : decide (x21_1 < (l0.length : Int)) = true := decide_eq_true c9
              clear c9
              by_cases c10 : 0 ≤ x21_1
              · rw [if_pos c10] at H
                have c10b0 : decide (0 ≤ x21_1) = true := decide_eq_true c10
                clear c10
                by_cases c11 : x21_1 < (l0.length : Int)
                · rw [if_pos c11] at H
                  have c11b0 : decide (x21_1 < (l0.length : Int)) = true := decide_eq_true c11
                  clear c11
                  by_cases c12 : x21_1 < (l1.length : Int)
                  · rw [if_pos c12] at H
                    have c12b0 : decide (x21_1 < (l1.length : Int)) = true := decide_eq_true c12
                    clear c12
                    replace H := Option.bind_eq_some_iff.mp H
                    obtain ⟨t2171, A130, H⟩ := H
                    replace H : (if x21_1 < (x8_1.length : Int) then (bitmap_both__bitmap_Only_1.l0 k1 l1 (x8_1.set (x21_1 : Int).toNat t2171) l0 (l0.length : Int) (wrap64 (x21_1 + 1))) else (none)) = some (r1, r2) := H
                    have A13 := Aside0.mk A130
                    clear A130
                    by_cases c14 : x21_1 < (x8_1.length : Int)
                    · rw [if_pos c14] at H
                      have c14b0 : decide (x21_1 < (x8_1.length : Int)) = true := decide_eq_true c14
                      clear c14
                      obtain ⟨y2172, hy2172⟩ : ∃ y_ : List Bool, y_ = (x8_1.set (x21_1 : Int).toNat t2171) := ⟨_, rfl⟩
                      replace H : (bitmap_both__bitmap_Only_1.l0 k1 l1 y2172 l0 (l0.length : Int) (wrap64 (x21_1 + 1))) = some (r1, r2) := by first | (rw [hy2172]; with_reducible exact H) | (have H2_ := (Option.bind_some _ _).symm.trans H; rw [hy2172]; with_reducible exact H2_) | (have H2_ := (Option.bind_some _ _).symm.trans H; with_reducible exact H2_) | with_reducible exact H | (rw [hy2172]; exact H) | exact H
                      have Ny2172 := Aside0.mk hy2172
                      clear hy2172
                      have H' := Aside0.mk H
                      clear H
                      have p2169 : 0 ≤ (x21_1 : Int) := of_decide_eq_true (by first | (with_reducible assumption) | assumption)
                      have q2169 : x21_1 < (l0.length : Int) := of_decide_eq_true (by first | (with_reducible assumption) | assumption)
                      obtain ⟨ad2169, e2169, hx2169_0⟩ := Kd.at_bool HR0.out x21_1 p2169 q2169
                      cases e2169
                      replace hx2169_0 := (HB.out.cell (World.block_lt_of_cell? w _ hx2169_0)).trans hx2169_0
                      replace p2169 := eq_true p2169
                      replace q2169 := eq_true q2169
                      have p2170 : 0 ≤ (x21_1 : Int) := of_decide_eq_true (by first | (with_reducible assumption) | assumption)
                      have q2170 : x21_1 < (l1.length : Int) := of_decide_eq_true (by first | (with_reducible assumption) | assumption)
                      obtain ⟨ad2170, e2170, hx2170_0⟩ := Kd.at_bool HR1.out x21_1 p2170 q2170
                      cases e2170
                      replace hx2170_0 := (HB.out.cell (World.block_lt_of_cell? w _ hx2170_0)).trans hx2170_0
                      replace p2170 := eq_true p2170
                      replace q2170 := eq_true q2170
                      go_wp2_with (first | ((with_reducible refine HOpen.gate_append ?_); simp only [List.cons_append, List.nil_append]) | ((with_reducible refine HOpen.gate_calleev (t := 28) rfl ?_); refine HOpen.goesLv_ (some 34) rfl rfl Try.func97 (by kernel_rfl) rfl #[.bool (rdOf false l0 x21_1), .bool (rdOf false l1 x21_1)] rfl rfl (by (try simp only [List.map_toArray, List.map_cons, List.map_nil]); first | done | rfl | (simp only [List.length_drop, List.length_take]; rfl)) ?_; (with_reducible refine (bitmap_Only_1.calls (rdOf false l0 x21_1) (rdOf false l1 x21_1) t2171 _ A13.out).mono ?_); rintro e w' ⟨rfl, ⟨nd, rfl⟩⟩; refine ⟨_, rfl, ?_⟩; (try (rw [drewN_self wr]; generalize hq_ : World.drewN wr _ = wr; have n0_ : Aside0 (Kd.R Kd.bool 4 wr w.heap.size (fun _ => True) v2167 x8_1) := ⟨by rw [← hq_]; exact (by (with_reducible repeat (first | apply Kd.R_alloc | apply Kd.R_drewN | apply Kd.R_drew)); exact HO_8.out)⟩; have n1_ : Aside0 (Below w.heap.size w wr) := ⟨by rw [← hq_]; exact (by repeat (first | (with_reducible first | exact HB.out | apply below_alloc | apply pw_below_drewN | apply below_drew1) | exact HB.out))⟩; clear HO_8 HB hq_; have HO_8 := n0_; have HB := n1_; clear n0_ n1_)); have p15 : 0 ≤ (x21_1 : Int) := of_decide_eq_true (by first | (with_reducible assumption) | assumption); have q15 : (x21_1 : Int) < ((x8_1.length : Int) : Int) := of_decide_eq_true (by first | (with_reducible assumption) | assumption); obtain ⟨go15, co15, eo15, gb15, gl15, cl15, HG15⟩ := Kd.R_form HO_8.out (by omega); (first | cases eo15 | (injection eo15 with ea_ en_ ec_; (first | subst ea_ | (injection ea_ with ea_; subst ea_)); subst ec_; clear en_)); have GB15 := Aside0.mk gb15; have GG15 := Aside0.mk HG15; clear gb15 gl15 HG15; obtain ⟨hx15_0, hf15_0⟩ := Kd.R_celln false HO_8.out (x21_1 : Int) p15 q15; replace p15 := eq_true p15; replace q15 := eq_true q15; obtain ⟨hy16_, hz16_⟩ := Kd.R_celln false HO_8.out (x21_1 : Int) (of_decide_eq_true (by first | (with_reducible assumption) | assumption)) (of_decide_eq_true (by first | (with_reducible assumption) | assumption)); have HP16 := Kd.R_putg HO_8.out (x21_1 : Int) t2171) | ((with_reducible refine gate_store (t := 4) (p := 35) rfl ?_); refine store_event (t := 4) (p := 35) (v := ?vo_w17) (w1 := (wr.setCell ⟨go15, (x21_1 : Int).toNat, none⟩ (.bool t2171))) ?hg ?ho ?hn ?hr ?_; (case ho => rfl); (case hg => rfl); (case hn => rfl); (case hr => first | (go_simp; done) | (go_simp; rfl)); intro w17 hw; have hg : wr.grownBy w17 (some go15) := (by rw [hw]; exact HP16.2); have hp_ : Kd.R Kd.bool 4 w17 w.heap.size (fun _ => True) (.slice (some ⟨go15, 0, none⟩) x8_1.length co15) y2172 := (by rw [hw, Ny2172.out]; exact HP16.1); clear HP16; have n0_ := Aside0.mk (hp_); have n1_ := Aside0.mk ((by rw [hw]; exact below_set (HB.out) GB15.out : Below w.heap.size w w17)); clear HO_8; clear HB; have HO_8 := n0_; have HB := n1_; clear n0_ n1_; clear hg hw hp_))
                      go_roundg k1
                      case measure => have := HK1.out; omega
                      case rel => exact ⟨(y2172), (wrap64 (x21_1 + 1)), (by first | rfl | (simp; done) | (simp [*]; done)), H', ⟨by have := HK1.out; omega⟩, ⟨by (with_reducible repeat (first | apply Kd.R_alloc | apply Kd.R_drewN | apply Kd.R_drew)); exact HO_8.out⟩, ⟨by repeat (first | (with_reducible first | exact HB.out | apply below_alloc | apply pw_below_drewN | apply below_drew1) | exact HB.out)⟩⟩
                    · rw [if_neg c14] at H
                      exact absurd H (by simp)
                  · rw [if_neg c12] at H
                    exact absurd H (by simp)
                · rw [if_neg c11] at H
                  exact absurd H (by simp)
              · rw [if_neg c10] at H
                exact absurd H (by simp)
            · rw [if_neg c9] at H
              have c9b0 : decide (x21_1 < (l0.length : Int)) = false := decide_eq_false c9
              clear c9
              simp only [Option.some.injEq, Prod.mk.injEq] at H
              obtain ⟨rfl, rfl⟩ := H
              go_wp2
              go_ret2
              exact ⟨_, by first | rfl | (simp [errW_none, errW_some] <;> rfl) | (simp [*, errW_none, errW_some] <;> rfl), by (with_reducible repeat (first | apply Kd.R_alloc | apply Kd.R_drewN | apply Kd.R_drew)); exact HO_8.out, by repeat (first | (with_reducible first | exact HB.out | apply below_alloc | apply pw_below_drewN | apply below_drew1) | exact HB.out)⟩
      · rw [if_neg c6] at H
        exact absurd H (by simp)
    · rw [if_neg c5] at H
      exact absurd H (by simp)
  · rw [if_neg c4] at H
    have c4b0 : ((l0.length : Int) == (l1.length : Int)) = false := beq_eq_false_iff_ne.mpr c4
    have c4b1 : ((l0.length : Int) != (l1.length : Int)) = true := bne_iff_ne.mpr c4
    have c4b2 : (l0.length == l1.length) = false := by first | simpa using c4 | (simp at c4 ⊢; omega)
    simp only [Option.some.injEq, Prod.mk.injEq] at H
    obtain ⟨rfl, rfl⟩ := H
    go_enter Try.func95, Try.ntmps95
    go_wp2
    go_ret2
    exact ⟨_, by first | rfl | (simp [errW_none, errW_some] <;> rfl) | (simp [*, errW_none, errW_some] <;> rfl), by first | exact Kd.R_nil _ _ _ _ _ | exact Kd.N_nil _ _ _ _ _ | exact Kd.V_nil _ _ _ _ _ | exact Kd.Q_nil _ _ _ _ _ | exact Kd.S_nil _ _ _ _ _, by repeat (first | (with_reducible first | exact HB.out | apply below_alloc | apply pw_below_drewN | apply below_drew1) | exact HB.out)⟩

/-! ### bitmap_Only: function 57 -/
def bitmap_Only.f (k : Nat) (l0 : List Bool) (l1 : List Bool) : Option (List Bool × Int) := (bitmap_both__bitmap_Only_1.f k l0 l1).bind fun bt3173 => (some (bt3173.1, bt3173.2))
theorem bitmap_Only.mono : ∀ a0 a1 k, LeO (bitmap_Only.f k a0 a1) (bitmap_Only.f (k + 1) a0 a1) := by
  intro a0 a1 k
  unfold bitmap_Only.f
  repeat' first
      | (with_reducible exact bitmap_both__bitmap_Only_1.mono _ _ _)
      | (with_reducible exact LeO.refl _)
      | (with_reducible exact LeO.none _)
      | (with_reducible refine LeO.ite ?_ ?_)
      | (with_reducible refine LeO.bind ?_ (fun _ => ?_))
      | exact bitmap_both__bitmap_Only_1.mono _ _ _
      | exact LeO.none _
      | refine LeO.ite ?_ ?_
      | refine LeO.bind ?_ (fun _ => ?_)
set_option maxHeartbeats 8000000 in
set_option maxRecDepth 100000 in
theorem bitmap_Only.calls (k : Nat) (A0 : Option Addr) (c0 : Nat) (l0 : List Bool) (A1 : Option Addr) (c1 : Nat) (l1 : List Bool) (r1 : List Bool) (r2 : Int) (w : World) (hr0 : Kd.C Kd.bool w A0 l0.length l0) (hc0 : l0.length ≤ c0) (hr1 : Kd.C Kd.bool w A1 l1.length l1) (hc1 : l1.length ≤ c1) (h : bitmap_Only.f k l0 l1 = some (r1, r2)) :
    Calls Try.prog 57 #[.slice A0 l0.length c0, .slice A1 l1.length c1] w fun e w' => ∃ v0_ : Value, e = .returned (.tuple #[v0_, .int .i64 r2]) ∧ Kd.R Kd.bool 4 w' w.heap.size (fun _ => True) v0_ r1 ∧ Below w.heap.size w w' := by
  have HR0 := Aside0.mk hr0
  have HC0 := Aside0.mk hc0
  clear hr0 hc0
  have HR1 := Aside0.mk hr1
  have HC1 := Aside0.mk hc1
  clear hr1 hc1
  have HB := Aside0.mk (Below.refl w.heap.size w)
  have H : ((bitmap_both__bitmap_Only_1.f k l0 l1).bind fun bt3173 => (some (bt3173.1, bt3173.2))) = some (r1, r2) := h
  clear h
  replace H := Option.bind_eq_some_iff.mp H
  obtain ⟨⟨t3173, t3174⟩, A30, H⟩ := H
  replace H : (some (t3173, t3174)) = some (r1, r2) := H
  have A3 := Aside0.mk A30
  clear A30
  simp only [Option.some.injEq, Prod.mk.injEq] at H
  obtain ⟨rfl, rfl⟩ := H
  go_enter Try.func57, Try.ntmps57
  go_wp2_with (first | ((with_reducible refine HOpen.gate_append ?_); simp only [List.cons_append, List.nil_append]) | ((with_reducible refine gate_callee (f := 95) rfl ?_); refine goesL_ (some 8) rfl rfl Try.func95 (by kernel_rfl) rfl #[.slice A0 l0.length c0, .slice A1 l1.length c1, .func (.func 97) #[] #[]] rfl (by (try simp only [List.map_toArray, List.map_cons, List.map_nil]); first | done | rfl | (simp only [List.length_drop, List.length_take]; rfl)) ?_; (with_reducible refine (bitmap_both__bitmap_Only_1.calls k _ _ l0 _ _ l1  t3173 t3174 _ ?side1 ?side2 ?side3 ?side4 A3.out).mono ?_); (case side1 => repeat (first | exact HR0.out | (with_reducible refine Kd.C_alloc ?_ _) | (with_reducible refine Kd.C_drewN ?_ _) | (with_reducible refine Kd.C_drew ?_))); (case side2 => exact HC0.out); (case side3 => repeat (first | exact HR1.out | (with_reducible refine Kd.C_alloc ?_ _) | (with_reducible refine Kd.C_drewN ?_ _) | (with_reducible refine Kd.C_drew ?_))); (case side4 => exact HC1.out); rintro e w4 ⟨v3175, rfl, ho0, hb⟩; refine ⟨_, rfl, ?_⟩; have n0_ := Aside0.mk (Kd.R_lower ho0 (below_size (by repeat (first | (with_reducible first | exact HB.out | apply below_alloc | apply pw_below_drewN | apply below_drew1) | exact HB.out)))); have n1_ := Aside0.mk (below_step (by repeat (first | (with_reducible first | exact HB.out | apply below_alloc | apply pw_below_drewN | apply below_drew1) | exact HB.out)) hb); clear HB; have HO3176 := n0_; have HB := n1_; clear n0_ n1_; (try clear hb); (try clear hb2); (try clear hk); (try clear hi); (try clear ho0)))
  go_ret2
  exact ⟨_, by first | rfl | (simp [errW_none, errW_some] <;> rfl) | (simp [*, errW_none, errW_some] <;> rfl), by (with_reducible repeat (first | apply Kd.R_alloc | apply Kd.R_drewN | apply Kd.R_drew)); exact HO3176.out, by repeat (first | (with_reducible first | exact HB.out | apply below_alloc | apply pw_below_drewN | apply below_drew1) | exact HB.out)⟩

/-! ### caulklaw39_lives_t: function 46 -/
def caulklaw39_lives_t.f (k : Nat)  : Option (Bool) := (some (([true, false, true, true, false, false, false, false, true] : List Bool) : List Bool)).bind fun y3177 => ((bitmap_Pack.f k y3177).bind fun bt3180 => ((bitmap_Unpack.f k 9 bt3180.1).bind fun bt3182 => ((bitmap_Unpack.f k 9 (⟨#[0, 2]⟩ : ByteArray)).bind fun bt3186 => ((bitmap_Ranges.f k y3177).bind fun t3190 => ((bitmap_Of.f k 9 t3190).bind fun bt3193 => ((bitmap_Of.f k 8 t3190).bind fun bt3197 => ((bitmap_And.f k y3177 (([true, true, false, true, false, false, false, false, false] : List Bool))).bind fun bt3204 => ((bitmap_Only.f k y3177 ([] : List Bool)).bind fun bt3208 => (if bt3180.1.toList = ([13, 1] : List UInt8) then (if bt3180.2 = 0 then ((caulkref12_Same.f k bt3182.1 y3177).bind fun t3212 => (if t3212 = true then (if bt3182.2 = 0 then (if bt3186.2 = 6 then ((caulkref19_SameRanges.f k t3190 (([(⟨0, 1⟩ : S39), (⟨2, 4⟩ : S39), (⟨8, 9⟩ : S39)] : List (S39)))).bind fun t3216 => (if t3216 = true then ((caulkref12_Same.f k bt3193.1 y3177).bind fun t3217 => (if t3217 = true then (if bt3193.2 = 0 then (if bt3197.2 = 1 then (if (bt3204.1.length : Int) = 9 then (if 0 < (bt3204.1.length : Int) then (if rdOf false bt3204.1 0 = true then (if 2 < (bt3204.1.length : Int) then (if rdOf false bt3204.1 2 = true then (some false) else (if 3 < (bt3204.1.length : Int) then (if rdOf false bt3204.1 3 = true then (if bt3204.2 = 0 then (some (bt3208.2 == 2)) else (some false)) else (some false)) else (none))) else (none)) else (some false)) else (none)) else (some false)) else (some false)) else (some false)) else (some false))) else (some false))) else (some false)) else (some false)) else (some false))) else (some false)) else (some false))))))))))
theorem caulklaw39_lives_t.mono : ∀ k, LeO (caulklaw39_lives_t.f k ) (caulklaw39_lives_t.f (k + 1) ) := by
  intro  k
  unfold caulklaw39_lives_t.f
  repeat' first
      | (with_reducible exact bitmap_And.mono _ _ _)
      | (with_reducible exact bitmap_Of.mono _ _ _)
      | (with_reducible exact bitmap_Only.mono _ _ _)
      | (with_reducible exact bitmap_Pack.mono _ _)
      | (with_reducible exact bitmap_Ranges.mono _ _)
      | (with_reducible exact bitmap_Unpack.mono _ _ _)
      | (with_reducible exact caulkref12_Same.mono _ _ _)
      | (with_reducible exact caulkref19_SameRanges.mono _ _ _)
      | (with_reducible exact LeO.refl _)
      | (with_reducible exact LeO.none _)
      | (with_reducible refine LeO.ite ?_ ?_)
      | (with_reducible refine LeO.bind ?_ (fun _ => ?_))
      | exact bitmap_And.mono _ _ _
      | exact bitmap_Of.mono _ _ _
      | exact bitmap_Only.mono _ _ _
      | exact bitmap_Pack.mono _ _
      | exact bitmap_Ranges.mono _ _
      | exact bitmap_Unpack.mono _ _ _
      | exact caulkref12_Same.mono _ _ _
      | exact caulkref19_SameRanges.mono _ _ _
      | exact LeO.none _
      | refine LeO.ite ?_ ?_
      | refine LeO.bind ?_ (fun _ => ?_)
set_option maxHeartbeats 8000000 in
set_option maxRecDepth 100000 in
theorem caulklaw39_lives_t.calls (k : Nat)  (r : Bool) (w : World) (hrt : Aside0 (r = true)) (h : caulklaw39_lives_t.f k  = some r) :
    Calls Try.prog 46 #[] w fun e w' => e = .returned (.bool r) ∧ Below w.heap.size w w' := by
  have hu39 := Try.underlying39
  have HB := Aside0.mk (Below.refl w.heap.size w)
  have H : ((some (([true, false, true, true, false, false, false, false, true] : List Bool) : List Bool)).bind fun y3177 => ((bitmap_Pack.f k y3177).bind fun bt3180 => ((bitmap_Unpack.f k 9 bt3180.1).bind fun bt3182 => ((bitmap_Unpack.f k 9 (⟨#[0, 2]⟩ : ByteArray)).bind fun bt3186 => ((bitmap_Ranges.f k y3177).bind fun t3190 => ((bitmap_Of.f k 9 t3190).bind fun bt3193 => ((bitmap_Of.f k 8 t3190).bind fun bt3197 => ((bitmap_And.f k y3177 (([true, true, false, true, false, false, false, false, false] : List Bool))).bind fun bt3204 => ((bitmap_Only.f k y3177 ([] : List Bool)).bind fun bt3208 => (if bt3180.1.toList = ([13, 1] : List UInt8) then (if bt3180.2 = 0 then ((caulkref12_Same.f k bt3182.1 y3177).bind fun t3212 => (if t3212 = true then (if bt3182.2 = 0 then (if bt3186.2 = 6 then ((caulkref19_SameRanges.f k t3190 (([(⟨0, 1⟩ : S39), (⟨2, 4⟩ : S39), (⟨8, 9⟩ : S39)] : List (S39)))).bind fun t3216 => (if t3216 = true then ((caulkref12_Same.f k bt3193.1 y3177).bind fun t3217 => (if t3217 = true then (if bt3193.2 = 0 then (if bt3197.2 = 1 then (if (bt3204.1.length : Int) = 9 then (if 0 < (bt3204.1.length : Int) then (if rdOf false bt3204.1 0 = true then (if 2 < (bt3204.1.length : Int) then (if rdOf false bt3204.1 2 = true then (some false) else (if 3 < (bt3204.1.length : Int) then (if rdOf false bt3204.1 3 = true then (if bt3204.2 = 0 then (some (bt3208.2 == 2)) else (some false)) else (some false)) else (none))) else (none)) else (some false)) else (none)) else (some false)) else (some false)) else (some false)) else (some false))) else (some false))) else (some false)) else (some false)) else (some false))) else (some false)) else (some false))))))))))) = some r := h
  clear h
  obtain ⟨y3177, hy3177⟩ : ∃ y_ : List Bool, y_ = (([true, false, true, true, false, false, false, false, true] : List Bool)) := ⟨_, rfl⟩
  replace H : ((bitmap_Pack.f k y3177).bind fun bt3180 => ((bitmap_Unpack.f k 9 bt3180.1).bind fun bt3182 => ((bitmap_Unpack.f k 9 (⟨#[0, 2]⟩ : ByteArray)).bind fun bt3186 => ((bitmap_Ranges.f k y3177).bind fun t3190 => ((bitmap_Of.f k 9 t3190).bind fun bt3193 => ((bitmap_Of.f k 8 t3190).bind fun bt3197 => ((bitmap_And.f k y3177 (([true, true, false, true, false, false, false, false, false] : List Bool))).bind fun bt3204 => ((bitmap_Only.f k y3177 ([] : List Bool)).bind fun bt3208 => (if bt3180.1.toList = ([13, 1] : List UInt8) then (if bt3180.2 = 0 then ((caulkref12_Same.f k bt3182.1 y3177).bind fun t3212 => (if t3212 = true then (if bt3182.2 = 0 then (if bt3186.2 = 6 then ((caulkref19_SameRanges.f k t3190 (([(⟨0, 1⟩ : S39), (⟨2, 4⟩ : S39), (⟨8, 9⟩ : S39)] : List (S39)))).bind fun t3216 => (if t3216 = true then ((caulkref12_Same.f k bt3193.1 y3177).bind fun t3217 => (if t3217 = true then (if bt3193.2 = 0 then (if bt3197.2 = 1 then (if (bt3204.1.length : Int) = 9 then (if 0 < (bt3204.1.length : Int) then (if rdOf false bt3204.1 0 = true then (if 2 < (bt3204.1.length : Int) then (if rdOf false bt3204.1 2 = true then (some false) else (if 3 < (bt3204.1.length : Int) then (if rdOf false bt3204.1 3 = true then (if bt3204.2 = 0 then (some (bt3208.2 == 2)) else (some false)) else (some false)) else (none))) else (none)) else (some false)) else (none)) else (some false)) else (some false)) else (some false)) else (some false))) else (some false))) else (some false)) else (some false)) else (some false))) else (some false)) else (some false)))))))))) = some r := by first | (rw [hy3177]; with_reducible exact H) | (have H2_ := (Option.bind_some _ _).symm.trans H; rw [hy3177]; with_reducible exact H2_) | (have H2_ := (Option.bind_some _ _).symm.trans H; with_reducible exact H2_) | with_reducible exact H | (rw [hy3177]; exact H) | exact H
  have Ny3177 := Aside0.mk hy3177
  clear hy3177
  replace H := Option.bind_eq_some_iff.mp H
  obtain ⟨⟨t3180, t3181⟩, A10, H⟩ := H
  replace H : ((bitmap_Unpack.f k 9 t3180).bind fun bt3182 => ((bitmap_Unpack.f k 9 (⟨#[0, 2]⟩ : ByteArray)).bind fun bt3186 => ((bitmap_Ranges.f k y3177).bind fun t3190 => ((bitmap_Of.f k 9 t3190).bind fun bt3193 => ((bitmap_Of.f k 8 t3190).bind fun bt3197 => ((bitmap_And.f k y3177 (([true, true, false, true, false, false, false, false, false] : List Bool))).bind fun bt3204 => ((bitmap_Only.f k y3177 ([] : List Bool)).bind fun bt3208 => (if t3180.toList = ([13, 1] : List UInt8) then (if t3181 = 0 then ((caulkref12_Same.f k bt3182.1 y3177).bind fun t3212 => (if t3212 = true then (if bt3182.2 = 0 then (if bt3186.2 = 6 then ((caulkref19_SameRanges.f k t3190 (([(⟨0, 1⟩ : S39), (⟨2, 4⟩ : S39), (⟨8, 9⟩ : S39)] : List (S39)))).bind fun t3216 => (if t3216 = true then ((caulkref12_Same.f k bt3193.1 y3177).bind fun t3217 => (if t3217 = true then (if bt3193.2 = 0 then (if bt3197.2 = 1 then (if (bt3204.1.length : Int) = 9 then (if 0 < (bt3204.1.length : Int) then (if rdOf false bt3204.1 0 = true then (if 2 < (bt3204.1.length : Int) then (if rdOf false bt3204.1 2 = true then (some false) else (if 3 < (bt3204.1.length : Int) then (if rdOf false bt3204.1 3 = true then (if bt3204.2 = 0 then (some (bt3208.2 == 2)) else (some false)) else (some false)) else (none))) else (none)) else (some false)) else (none)) else (some false)) else (some false)) else (some false)) else (some false))) else (some false))) else (some false)) else (some false)) else (some false))) else (some false)) else (some false))))))))) = some r := H
  have A1 := Aside0.mk A10
  clear A10
  replace H := Option.bind_eq_some_iff.mp H
  obtain ⟨⟨t3182, t3183⟩, A20, H⟩ := H
  replace H : ((bitmap_Unpack.f k 9 (⟨#[0, 2]⟩ : ByteArray)).bind fun bt3186 => ((bitmap_Ranges.f k y3177).bind fun t3190 => ((bitmap_Of.f k 9 t3190).bind fun bt3193 => ((bitmap_Of.f k 8 t3190).bind fun bt3197 => ((bitmap_And.f k y3177 (([true, true, false, true, false, false, false, false, false] : List Bool))).bind fun bt3204 => ((bitmap_Only.f k y3177 ([] : List Bool)).bind fun bt3208 => (if t3180.toList = ([13, 1] : List UInt8) then (if t3181 = 0 then ((caulkref12_Same.f k t3182 y3177).bind fun t3212 => (if t3212 = true then (if t3183 = 0 then (if bt3186.2 = 6 then ((caulkref19_SameRanges.f k t3190 (([(⟨0, 1⟩ : S39), (⟨2, 4⟩ : S39), (⟨8, 9⟩ : S39)] : List (S39)))).bind fun t3216 => (if t3216 = true then ((caulkref12_Same.f k bt3193.1 y3177).bind fun t3217 => (if t3217 = true then (if bt3193.2 = 0 then (if bt3197.2 = 1 then (if (bt3204.1.length : Int) = 9 then (if 0 < (bt3204.1.length : Int) then (if rdOf false bt3204.1 0 = true then (if 2 < (bt3204.1.length : Int) then (if rdOf false bt3204.1 2 = true then (some false) else (if 3 < (bt3204.1.length : Int) then (if rdOf false bt3204.1 3 = true then (if bt3204.2 = 0 then (some (bt3208.2 == 2)) else (some false)) else (some false)) else (none))) else (none)) else (some false)) else (none)) else (some false)) else (some false)) else (some false)) else (some false))) else (some false))) else (some false)) else (some false)) else (some false))) else (some false)) else (some false)))))))) = some r := H
  have A2 := Aside0.mk A20
  clear A20
  replace H := Option.bind_eq_some_iff.mp H
  obtain ⟨⟨t3186, t3187⟩, A30, H⟩ := H
  replace H : ((bitmap_Ranges.f k y3177).bind fun t3190 => ((bitmap_Of.f k 9 t3190).bind fun bt3193 => ((bitmap_Of.f k 8 t3190).bind fun bt3197 => ((bitmap_And.f k y3177 (([true, true, false, true, false, false, false, false, false] : List Bool))).bind fun bt3204 => ((bitmap_Only.f k y3177 ([] : List Bool)).bind fun bt3208 => (if t3180.toList = ([13, 1] : List UInt8) then (if t3181 = 0 then ((caulkref12_Same.f k t3182 y3177).bind fun t3212 => (if t3212 = true then (if t3183 = 0 then (if t3187 = 6 then ((caulkref19_SameRanges.f k t3190 (([(⟨0, 1⟩ : S39), (⟨2, 4⟩ : S39), (⟨8, 9⟩ : S39)] : List (S39)))).bind fun t3216 => (if t3216 = true then ((caulkref12_Same.f k bt3193.1 y3177).bind fun t3217 => (if t3217 = true then (if bt3193.2 = 0 then (if bt3197.2 = 1 then (if (bt3204.1.length : Int) = 9 then (if 0 < (bt3204.1.length : Int) then (if rdOf false bt3204.1 0 = true then (if 2 < (bt3204.1.length : Int) then (if rdOf false bt3204.1 2 = true then (some false) else (if 3 < (bt3204.1.length : Int) then (if rdOf false bt3204.1 3 = true then (if bt3204.2 = 0 then (some (bt3208.2 == 2)) else (some false)) else (some false)) else (none))) else (none)) else (some false)) else (none)) else (some false)) else (some false)) else (some false)) else (some false))) else (some false))) else (some false)) else (some false)) else (some false))) else (some false)) else (some false))))))) = some r := H
  have A3 := Aside0.mk A30
  clear A30
  replace H := Option.bind_eq_some_iff.mp H
  obtain ⟨t3190, A40, H⟩ := H
  replace H : ((bitmap_Of.f k 9 t3190).bind fun bt3193 => ((bitmap_Of.f k 8 t3190).bind fun bt3197 => ((bitmap_And.f k y3177 (([true, true, false, true, false, false, false, false, false] : List Bool))).bind fun bt3204 => ((bitmap_Only.f k y3177 ([] : List Bool)).bind fun bt3208 => (if t3180.toList = ([13, 1] : List UInt8) then (if t3181 = 0 then ((caulkref12_Same.f k t3182 y3177).bind fun t3212 => (if t3212 = true then (if t3183 = 0 then (if t3187 = 6 then ((caulkref19_SameRanges.f k t3190 (([(⟨0, 1⟩ : S39), (⟨2, 4⟩ : S39), (⟨8, 9⟩ : S39)] : List (S39)))).bind fun t3216 => (if t3216 = true then ((caulkref12_Same.f k bt3193.1 y3177).bind fun t3217 => (if t3217 = true then (if bt3193.2 = 0 then (if bt3197.2 = 1 then (if (bt3204.1.length : Int) = 9 then (if 0 < (bt3204.1.length : Int) then (if rdOf false bt3204.1 0 = true then (if 2 < (bt3204.1.length : Int) then (if rdOf false bt3204.1 2 = true then (some false) else (if 3 < (bt3204.1.length : Int) then (if rdOf false bt3204.1 3 = true then (if bt3204.2 = 0 then (some (bt3208.2 == 2)) else (some false)) else (some false)) else (none))) else (none)) else (some false)) else (none)) else (some false)) else (some false)) else (some false)) else (some false))) else (some false))) else (some false)) else (some false)) else (some false))) else (some false)) else (some false)))))) = some r := H
  have A4 := Aside0.mk A40
  clear A40
  replace H := Option.bind_eq_some_iff.mp H
  obtain ⟨⟨t3193, t3194⟩, A50, H⟩ := H
  replace H : ((bitmap_Of.f k 8 t3190).bind fun bt3197 => ((bitmap_And.f k y3177 (([true, true, false, true, false, false, false, false, false] : List Bool))).bind fun bt3204 => ((bitmap_Only.f k y3177 ([] : List Bool)).bind fun bt3208 => (if t3180.toList = ([13, 1] : List UInt8) then (if t3181 = 0 then ((caulkref12_Same.f k t3182 y3177).bind fun t3212 => (if t3212 = true then (if t3183 = 0 then (if t3187 = 6 then ((caulkref19_SameRanges.f k t3190 (([(⟨0, 1⟩ : S39), (⟨2, 4⟩ : S39), (⟨8, 9⟩ : S39)] : List (S39)))).bind fun t3216 => (if t3216 = true then ((caulkref12_Same.f k t3193 y3177).bind fun t3217 => (if t3217 = true then (if t3194 = 0 then (if bt3197.2 = 1 then (if (bt3204.1.length : Int) = 9 then (if 0 < (bt3204.1.length : Int) then (if rdOf false bt3204.1 0 = true then (if 2 < (bt3204.1.length : Int) then (if rdOf false bt3204.1 2 = true then (some false) else (if 3 < (bt3204.1.length : Int) then (if rdOf false bt3204.1 3 = true then (if bt3204.2 = 0 then (some (bt3208.2 == 2)) else (some false)) else (some false)) else (none))) else (none)) else (some false)) else (none)) else (some false)) else (some false)) else (some false)) else (some false))) else (some false))) else (some false)) else (some false)) else (some false))) else (some false)) else (some false))))) = some r := H
  have A5 := Aside0.mk A50
  clear A50
  replace H := Option.bind_eq_some_iff.mp H
  obtain ⟨⟨t3197, t3198⟩, A60, H⟩ := H
  replace H : ((bitmap_And.f k y3177 (([true, true, false, true, false, false, false, false, false] : List Bool))).bind fun bt3204 => ((bitmap_Only.f k y3177 ([] : List Bool)).bind fun bt3208 => (if t3180.toList = ([13, 1] : List UInt8) then (if t3181 = 0 then ((caulkref12_Same.f k t3182 y3177).bind fun t3212 => (if t3212 = true then (if t3183 = 0 then (if t3187 = 6 then ((caulkref19_SameRanges.f k t3190 (([(⟨0, 1⟩ : S39), (⟨2, 4⟩ : S39), (⟨8, 9⟩ : S39)] : List (S39)))).bind fun t3216 => (if t3216 = true then ((caulkref12_Same.f k t3193 y3177).bind fun t3217 => (if t3217 = true then (if t3194 = 0 then (if t3198 = 1 then (if (bt3204.1.length : Int) = 9 then (if 0 < (bt3204.1.length : Int) then (if rdOf false bt3204.1 0 = true then (if 2 < (bt3204.1.length : Int) then (if rdOf false bt3204.1 2 = true then (some false) else (if 3 < (bt3204.1.length : Int) then (if rdOf false bt3204.1 3 = true then (if bt3204.2 = 0 then (some (bt3208.2 == 2)) else (some false)) else (some false)) else (none))) else (none)) else (some false)) else (none)) else (some false)) else (some false)) else (some false)) else (some false))) else (some false))) else (some false)) else (some false)) else (some false))) else (some false)) else (some false)))) = some r := H
  have A6 := Aside0.mk A60
  clear A60
  obtain ⟨y3201, hy3201⟩ : ∃ y_ : List Bool, y_ = (([true, true, false, true, false, false, false, false, false] : List Bool)) := ⟨_, rfl⟩
  replace H : ((bitmap_And.f k y3177 y3201).bind fun bt3204 => ((bitmap_Only.f k y3177 ([] : List Bool)).bind fun bt3208 => (if t3180.toList = ([13, 1] : List UInt8) then (if t3181 = 0 then ((caulkref12_Same.f k t3182 y3177).bind fun t3212 => (if t3212 = true then (if t3183 = 0 then (if t3187 = 6 then ((caulkref19_SameRanges.f k t3190 (([(⟨0, 1⟩ : S39), (⟨2, 4⟩ : S39), (⟨8, 9⟩ : S39)] : List (S39)))).bind fun t3216 => (if t3216 = true then ((caulkref12_Same.f k t3193 y3177).bind fun t3217 => (if t3217 = true then (if t3194 = 0 then (if t3198 = 1 then (if (bt3204.1.length : Int) = 9 then (if 0 < (bt3204.1.length : Int) then (if rdOf false bt3204.1 0 = true then (if 2 < (bt3204.1.length : Int) then (if rdOf false bt3204.1 2 = true then (some false) else (if 3 < (bt3204.1.length : Int) then (if rdOf false bt3204.1 3 = true then (if bt3204.2 = 0 then (some (bt3208.2 == 2)) else (some false)) else (some false)) else (none))) else (none)) else (some false)) else (none)) else (some false)) else (some false)) else (some false)) else (some false))) else (some false))) else (some false)) else (some false)) else (some false))) else (some false)) else (some false)))) = some r := by first | (rw [hy3201]; with_reducible exact H) | (have H2_ := (Option.bind_some _ _).symm.trans H; rw [hy3201]; with_reducible exact H2_) | (have H2_ := (Option.bind_some _ _).symm.trans H; with_reducible exact H2_) | with_reducible exact H | (rw [hy3201]; exact H) | exact H
  have Ny3201 := Aside0.mk hy3201
  clear hy3201
  replace H := Option.bind_eq_some_iff.mp H
  obtain ⟨⟨t3204, t3205⟩, A70, H⟩ := H
  replace H : ((bitmap_Only.f k y3177 ([] : List Bool)).bind fun bt3208 => (if t3180.toList = ([13, 1] : List UInt8) then (if t3181 = 0 then ((caulkref12_Same.f k t3182 y3177).bind fun t3212 => (if t3212 = true then (if t3183 = 0 then (if t3187 = 6 then ((caulkref19_SameRanges.f k t3190 (([(⟨0, 1⟩ : S39), (⟨2, 4⟩ : S39), (⟨8, 9⟩ : S39)] : List (S39)))).bind fun t3216 => (if t3216 = true then ((caulkref12_Same.f k t3193 y3177).bind fun t3217 => (if t3217 = true then (if t3194 = 0 then (if t3198 = 1 then (if (t3204.length : Int) = 9 then (if 0 < (t3204.length : Int) then (if rdOf false t3204 0 = true then (if 2 < (t3204.length : Int) then (if rdOf false t3204 2 = true then (some false) else (if 3 < (t3204.length : Int) then (if rdOf false t3204 3 = true then (if t3205 = 0 then (some (bt3208.2 == 2)) else (some false)) else (some false)) else (none))) else (none)) else (some false)) else (none)) else (some false)) else (some false)) else (some false)) else (some false))) else (some false))) else (some false)) else (some false)) else (some false))) else (some false)) else (some false))) = some r := H
  have A7 := Aside0.mk A70
  clear A70
  replace H := Option.bind_eq_some_iff.mp H
  obtain ⟨⟨t3208, t3209⟩, A80, H⟩ := H
  replace H : (if t3180.toList = ([13, 1] : List UInt8) then (if t3181 = 0 then ((caulkref12_Same.f k t3182 y3177).bind fun t3212 => (if t3212 = true then (if t3183 = 0 then (if t3187 = 6 then ((caulkref19_SameRanges.f k t3190 (([(⟨0, 1⟩ : S39), (⟨2, 4⟩ : S39), (⟨8, 9⟩ : S39)] : List (S39)))).bind fun t3216 => (if t3216 = true then ((caulkref12_Same.f k t3193 y3177).bind fun t3217 => (if t3217 = true then (if t3194 = 0 then (if t3198 = 1 then (if (t3204.length : Int) = 9 then (if 0 < (t3204.length : Int) then (if rdOf false t3204 0 = true then (if 2 < (t3204.length : Int) then (if rdOf false t3204 2 = true then (some false) else (if 3 < (t3204.length : Int) then (if rdOf false t3204 3 = true then (if t3205 = 0 then (some (t3209 == 2)) else (some false)) else (some false)) else (none))) else (none)) else (some false)) else (none)) else (some false)) else (some false)) else (some false)) else (some false))) else (some false))) else (some false)) else (some false)) else (some false))) else (some false)) else (some false)) = some r := H
  have A8 := Aside0.mk A80
  clear A80
  by_cases c9 : t3180.toList = ([13, 1] : List UInt8)
  · rw [if_pos c9] at H
    have c9b0 : (t3180.toList == ([13, 1] : List UInt8)) = true := beq_iff_eq.mpr c9
    have c9b1 : (t3180.toList != ([13, 1] : List UInt8)) = false := bne_eq_false_iff_eq.mpr c9
    clear c9
    by_cases c10 : t3181 = 0
    · rw [if_pos c10] at H
      have c10b0 : (t3181 == 0) = true := beq_iff_eq.mpr c10
      have c10b1 : (t3181 != 0) = false := bne_eq_false_iff_eq.mpr c10
      clear c10
      replace H := Option.bind_eq_some_iff.mp H
      obtain ⟨t3212, A110, H⟩ := H
      replace H : (if t3212 = true then (if t3183 = 0 then (if t3187 = 6 then ((caulkref19_SameRanges.f k t3190 (([(⟨0, 1⟩ : S39), (⟨2, 4⟩ : S39), (⟨8, 9⟩ : S39)] : List (S39)))).bind fun t3216 => (if t3216 = true then ((caulkref12_Same.f k t3193 y3177).bind fun t3217 => (if t3217 = true then (if t3194 = 0 then (if t3198 = 1 then (if (t3204.length : Int) = 9 then (if 0 < (t3204.length : Int) then (if rdOf false t3204 0 = true then (if 2 < (t3204.length : Int) then (if rdOf false t3204 2 = true then (some false) else (if 3 < (t3204.length : Int) then (if rdOf false t3204 3 = true then (if t3205 = 0 then (some (t3209 == 2)) else (some false)) else (some false)) else (none))) else (none)) else (some false)) else (none)) else (some false)) else (some false)) else (some false)) else (some false))) else (some false))) else (some false)) else (some false)) else (some false)) = some r := H
      have A11 := Aside0.mk A110
      clear A110
      by_cases c12 : t3212 = true
      · subst c12
        have H1 : (if t3183 = 0 then (if t3187 = 6 then ((caulkref19_SameRanges.f k t3190 (([(⟨0, 1⟩ : S39), (⟨2, 4⟩ : S39), (⟨8, 9⟩ : S39)] : List (S39)))).bind fun t3216 => (if t3216 = true then ((caulkref12_Same.f k t3193 y3177).bind fun t3217 => (if t3217 = true then (if t3194 = 0 then (if t3198 = 1 then (if (t3204.length : Int) = 9 then (if 0 < (t3204.length : Int) then (if rdOf false t3204 0 = true then (if 2 < (t3204.length : Int) then (if rdOf false t3204 2 = true then (some false) else (if 3 < (t3204.length : Int) then (if rdOf false t3204 3 = true then (if t3205 = 0 then (some (t3209 == 2)) else (some false)) else (some false)) else (none))) else (none)) else (some false)) else (none)) else (some false)) else (some false)) else (some false)) else (some false))) else (some false))) else (some false)) else (some false)) = some r := by rw [if_pos rfl] at H; exact H
        clear H
        have H := H1
        clear H1
        by_cases c13 : t3183 = 0
        · rw [if_pos c13] at H
          have c13b0 : (t3183 == 0) = true := beq_iff_eq.mpr c13
          have c13b1 : (t3183 != 0) = false := bne_eq_false_iff_eq.mpr c13
          clear c13
          by_cases c14 : t3187 = 6
          · rw [if_pos c14] at H
            have c14b0 : (t3187 == 6) = true := beq_iff_eq.mpr c14
            have c14b1 : (t3187 != 6) = false := bne_eq_false_iff_eq.mpr c14
            clear c14
            obtain ⟨y3213, hy3213⟩ : ∃ y_ : List (S39), y_ = (([(⟨0, 1⟩ : S39), (⟨2, 4⟩ : S39), (⟨8, 9⟩ : S39)] : List (S39))) := ⟨_, rfl⟩
            replace H : ((caulkref19_SameRanges.f k t3190 y3213).bind fun t3216 => (if t3216 = true then ((caulkref12_Same.f k t3193 y3177).bind fun t3217 => (if t3217 = true then (if t3194 = 0 then (if t3198 = 1 then (if (t3204.length : Int) = 9 then (if 0 < (t3204.length : Int) then (if rdOf false t3204 0 = true then (if 2 < (t3204.length : Int) then (if rdOf false t3204 2 = true then (some false) else (if 3 < (t3204.length : Int) then (if rdOf false t3204 3 = true then (if t3205 = 0 then (some (t3209 == 2)) else (some false)) else (some false)) else (none))) else (none)) else (some false)) else (none)) else (some false)) else (some false)) else (some false)) else (some false))) else (some false))) = some r := by first | (rw [hy3213]; with_reducible exact H) | (have H2_ := (Option.bind_some _ _).symm.trans H; rw [hy3213]; with_reducible exact H2_) | (have H2_ := (Option.bind_some _ _).symm.trans H; with_reducible exact H2_) | with_reducible exact H | (rw [hy3213]; exact H) | exact H
            have Ny3213 := Aside0.mk hy3213
            clear hy3213
            replace H := Option.bind_eq_some_iff.mp H
            obtain ⟨t3216, A150, H⟩ := H
            replace H : (if t3216 = true then ((caulkref12_Same.f k t3193 y3177).bind fun t3217 => (if t3217 = true then (if t3194 = 0 then (if t3198 = 1 then (if (t3204.length : Int) = 9 then (if 0 < (t3204.length : Int) then (if rdOf false t3204 0 = true then (if 2 < (t3204.length : Int) then (if rdOf false t3204 2 = true then (some false) else (if 3 < (t3204.length : Int) then (if rdOf false t3204 3 = true then (if t3205 = 0 then (some (t3209 == 2)) else (some false)) else (some false)) else (none))) else (none)) else (some false)) else (none)) else (some false)) else (some false)) else (some false)) else (some false))) else (some false)) = some r := H
            have A15 := Aside0.mk A150
            clear A150
            by_cases c16 : t3216 = true
            · subst c16
              have H1 : ((caulkref12_Same.f k t3193 y3177).bind fun t3217 => (if t3217 = true then (if t3194 = 0 then (if t3198 = 1 then (if (t3204.length : Int) = 9 then (if 0 < (t3204.length : Int) then (if rdOf false t3204 0 = true then (if 2 < (t3204.length : Int) then (if rdOf false t3204 2 = true then (some false) else (if 3 < (t3204.length : Int) then (if rdOf false t3204 3 = true then (if t3205 = 0 then (some (t3209 == 2)) else (some false)) else (some false)) else (none))) else (none)) else (some false)) else (none)) else (some false)) else (some false)) else (some false)) else (some false))) = some r := by rw [if_pos rfl] at H; exact H
              clear H
              have H := H1
              clear H1
              replace H := Option.bind_eq_some_iff.mp H
              obtain ⟨t3217, A170, H⟩ := H
              replace H : (if t3217 = true then (if t3194 = 0 then (if t3198 = 1 then (if (t3204.length : Int) = 9 then (if 0 < (t3204.length : Int) then (if rdOf false t3204 0 = true then (if 2 < (t3204.length : Int) then (if rdOf false t3204 2 = true then (some false) else (if 3 < (t3204.length : Int) then (if rdOf false t3204 3 = true then (if t3205 = 0 then (some (t3209 == 2)) else (some false)) else (some false)) else (none))) else (none)) else (some false)) else (none)) else (some false)) else (some false)) else (some false)) else (some false)) = some r := H
              have A17 := Aside0.mk A170
              clear A170
              by_cases c18 : t3217 = true
              · subst c18
                have H1 : (if t3194 = 0 then (if t3198 = 1 then (if (t3204.length : Int) = 9 then (if 0 < (t3204.length : Int) then (if rdOf false t3204 0 = true then (if 2 < (t3204.length : Int) then (if rdOf false t3204 2 = true then (some false) else (if 3 < (t3204.length : Int) then (if rdOf false t3204 3 = true then (if t3205 = 0 then (some (t3209 == 2)) else (some false)) else (some false)) else (none))) else (none)) else (some false)) else (none)) else (some false)) else (some false)) else (some false)) = some r := by rw [if_pos rfl] at H; exact H
                clear H
                have H := H1
                clear H1
                by_cases c19 : t3194 = 0
                · rw [if_pos c19] at H
                  have c19b0 : (t3194 == 0) = true := beq_iff_eq.mpr c19
                  have c19b1 : (t3194 != 0) = false := bne_eq_false_iff_eq.mpr c19
                  clear c19
                  by_cases c20 : t3198 = 1
                  · rw [if_pos c20] at H
                    have c20b0 : (t3198 == 1) = true := beq_iff_eq.mpr c20
                    have c20b1 : (t3198 != 1) = false := bne_eq_false_iff_eq.mpr c20
                    clear c20
                    by_cases c21 : (t3204.length : Int) = 9
                    · rw [if_pos c21] at H
                      have c21b0 : ((t3204.length : Int) == 9) = true := beq_iff_eq.mpr c21
                      have c21b1 : ((t3204.length : Int) != 9) = false := bne_eq_false_iff_eq.mpr c21
                      clear c21
                      by_cases c22 : 0 < (t3204.length : Int)
                      · rw [if_pos c22] at H
                        have c22b0 : decide (0 < (t3204.length : Int)) = true := decide_eq_true c22
                        have c22b1 : decide (0 < t3204.length) = true := decide_eq_true (by omega)
                        clear c22
                        obtain ⟨bq23, hbq23⟩ : ∃ b_ : Bool, b_ = (rdOf false t3204 0) := ⟨_, rfl⟩
                        replace H : (if bq23 = true then (if 2 < (t3204.length : Int) then (if rdOf false t3204 2 = true then (some false) else (if 3 < (t3204.length : Int) then (if rdOf false t3204 3 = true then (if t3205 = 0 then (some (t3209 == 2)) else (some false)) else (some false)) else (none))) else (none)) else (some false)) = some r := by rw [← hbq23] at H; exact H
                        have Nbq23 := Aside0.mk hbq23
                        clear hbq23
                        by_cases c24 : bq23 = true
                        · subst c24
                          have H1 : (if 2 < (t3204.length : Int) then (if rdOf false t3204 2 = true then (some false) else (if 3 < (t3204.length : Int) then (if rdOf false t3204 3 = true then (if t3205 = 0 then (some (t3209 == 2)) else (some false)) else (some false)) else (none))) else (none)) = some r := by rw [if_pos rfl] at H; exact H
                          clear H
                          have H := H1
                          clear H1
                          by_cases c25 : 2 < (t3204.length : Int)
                          · rw [if_pos c25] at H
                            have c25b0 : decide (2 < (t3204.length : Int)) = true := decide_eq_true c25
                            have c25b1 : decide (2 < t3204.length) = true := decide_eq_true (by omega)
                            clear c25
                            obtain ⟨bq26, hbq26⟩ : ∃ b_ : Bool, b_ = (rdOf false t3204 2) := ⟨_, rfl⟩
                            replace H : (if bq26 = true then (some false) else (if 3 < (t3204.length : Int) then (if rdOf false t3204 3 = true then (if t3205 = 0 then (some (t3209 == 2)) else (some false)) else (some false)) else (none))) = some r := by rw [← hbq26] at H; exact H
                            have Nbq26 := Aside0.mk hbq26
                            clear hbq26
                            by_cases c27 : bq26 = true
                            · subst c27
                              have H1 : (some false) = some r := by rw [if_pos rfl] at H; exact H
                              clear H
                              have H := H1
                              clear H1
                              exact absurd ((Option.some.inj H).trans hrt.out) (by simp)
                            · replace c27 := Bool.eq_false_iff.mpr c27
                              subst c27
                              have H1 : (if 3 < (t3204.length : Int) then (if rdOf false t3204 3 = true then (if t3205 = 0 then (some (t3209 == 2)) else (some false)) else (some false)) else (none)) = some r := by rw [if_neg (show ¬ (false = true) by decide)] at H; exact H
                              clear H
                              have H := H1
                              clear H1
                              by_cases c28 : 3 < (t3204.length : Int)
                              · rw [if_pos c28] at H
                                have c28b0 : decide (3 < (t3204.length : Int)) = true := decide_eq_true c28
                                have c28b1 : decide (3 < t3204.length) = true := decide_eq_true (by omega)
                                clear c28
                                obtain ⟨bq29, hbq29⟩ : ∃ b_ : Bool, b_ = (rdOf false t3204 3) := ⟨_, rfl⟩
                                replace H : (if bq29 = true then (if t3205 = 0 then (some (t3209 == 2)) else (some false)) else (some false)) = some r := by rw [← hbq29] at H; exact H
                                have Nbq29 := Aside0.mk hbq29
                                clear hbq29
                                by_cases c30 : bq29 = true
                                · subst c30
                                  have H1 : (if t3205 = 0 then (some (t3209 == 2)) else (some false)) = some r := by rw [if_pos rfl] at H; exact H
                                  clear H
                                  have H := H1
                                  clear H1
                                  by_cases c31 : t3205 = 0
                                  · rw [if_pos c31] at H
                                    have c31b0 : (t3205 == 0) = true := beq_iff_eq.mpr c31
                                    have c31b1 : (t3205 != 0) = false := bne_eq_false_iff_eq.mpr c31
                                    clear c31
                                    obtain rfl := Option.some.inj H
                                    go_enter Try.func46, Try.ntmps46
                                    (try simp only [List.append_eq, List.cons_append, List.nil_append])
                                    go_wp2_with (first | ((with_reducible refine HOpen.gate_append ?_); simp only [List.cons_append, List.nil_append]) | ((with_reducible refine gate_dst (N := 17) rfl ?_); (try (refine gate_guard (by rfl) ?_; dsimp only)); refine Kd.R_lit Kd.bool _ 4 ?hg (N := 17) ?hd (xs := ([true, false, true, true, false, false, false, false, true] : List Bool)) (inner := [.bool true, .bool false, .bool true, .bool true, .bool false, .bool false, .bool false, .bool false, .bool true]) (ok := fun _ => True) (okp := fun _ => True) ?hr ?hp (fun _ hk => hk) trivial (Below.refl _ _) (Nat.le_refl _) (by simp) ?_; (case hd => rfl); (case hg => rfl); (case hr => first | (go_simp; done) | (go_simp; rfl)); (case hp => exact (Reps.one (show Kd.M Kd.bool _ _ _ true [.bool true] from rfl) (Reps.one (show Kd.M Kd.bool _ _ _ false [.bool false] from rfl) (Reps.one (show Kd.M Kd.bool _ _ _ true [.bool true] from rfl) (Reps.one (show Kd.M Kd.bool _ _ _ true [.bool true] from rfl) (Reps.one (show Kd.M Kd.bool _ _ _ false [.bool false] from rfl) (Reps.one (show Kd.M Kd.bool _ _ _ false [.bool false] from rfl) (Reps.one (show Kd.M Kd.bool _ _ _ false [.bool false] from rfl) (Reps.one (show Kd.M Kd.bool _ _ _ false [.bool false] from rfl) (Reps.one (show Kd.M Kd.bool _ _ _ true [.bool true] from rfl) (Reps.none _ _))))))))))); intro v3178 w32 ho33 hb hg_ hnew_; clear hg_ hnew_; (first | rw [← Ny3177.out] at ho33 | (simp only [Int.reduceToNat] at ho33; rw [← Ny3177.out] at ho33)); have n0_ := Aside0.mk (Kd.R_lower ho33 (below_size (by repeat (first | (with_reducible first | exact HB.out | apply below_alloc | apply pw_below_drewN | apply below_drew1) | exact HB.out)))); have n1_ := Aside0.mk (below_step (by repeat (first | (with_reducible first | exact HB.out | apply below_alloc | apply pw_below_drewN | apply below_drew1) | exact HB.out)) hb); clear HB; have HO3179 := n0_; have HB := n1_; clear n0_ n1_; clear hb ho33; obtain ⟨Ao34, co34, eo34⟩ := Kd.R_slice HO3179.out; subst eo34) | ((with_reducible refine gate_callee (f := 47) rfl ?_); refine goesL_ (some 20) rfl rfl Try.func47 (by kernel_rfl) rfl #[.slice Ao34 y3177.length co34] rfl (by (try simp only [List.map_toArray, List.map_cons, List.map_nil]); first | done | rfl | (simp only [List.length_drop, List.length_take]; rfl)) ?_; (with_reducible refine (bitmap_Pack.calls k _ _ y3177 t3180 t3181 _ ?side1 ?side2 A1.out).mono ?_); (case side1 => repeat (first | exact (Kd.R_reads' HO3179.out).2.2 | (with_reducible refine Kd.C_alloc ?_ _) | (with_reducible refine Kd.C_drewN ?_ _) | (with_reducible refine Kd.C_drew ?_))); (case side2 => exact (Kd.R_reads' HO3179.out).2.1); rintro e w35 ⟨rfl, hb⟩; refine ⟨_, rfl, ?_⟩; have n0_ := Aside0.mk (Kd.R_below (by (with_reducible repeat (first | apply Kd.R_alloc | apply Kd.R_drewN | apply Kd.R_drew)); exact HO3179.out) hb); have n1_ := Aside0.mk (below_step (by repeat (first | (with_reducible first | exact HB.out | apply below_alloc | apply pw_below_drewN | apply below_drew1) | exact HB.out)) hb); clear HO3179; clear HB; have HO3179 := n0_; have HB := n1_; clear n0_ n1_; (try clear hb); (try clear hb2); (try clear hk); (try clear hi)) | ((with_reducible refine gate_callee (f := 49) rfl ?_); refine goesL_ (some 25) rfl rfl Try.func49 (by kernel_rfl) rfl #[.int .i64 9, .string t3180] rfl (by (try simp only [List.map_toArray, List.map_cons, List.map_nil]); first | done | rfl | (simp only [List.length_drop, List.length_take]; rfl)) ?_; (with_reducible refine (bitmap_Unpack.calls k 9 t3180 t3182 t3183 _ A2.out).mono ?_); rintro e w36 ⟨v3184, rfl, ho0, hb⟩; refine ⟨_, rfl, ?_⟩; have n0_ := Aside0.mk (Kd.R_elder' (by (with_reducible repeat (first | apply Kd.R_alloc | apply Kd.R_drewN | apply Kd.R_drew)); exact HO3179.out) (Kd.R_base ho0) hb); have n1_ := Aside0.mk (Kd.R_lower (Kd.R_new' ho0 (Kd.R_lt (by (with_reducible repeat (first | apply Kd.R_alloc | apply Kd.R_drewN | apply Kd.R_drew)); exact HO3179.out))) (below_size (by repeat (first | (with_reducible first | exact HB.out | apply below_alloc | apply pw_below_drewN | apply below_drew1) | exact HB.out)))); have n2_ := Aside0.mk (below_step (by repeat (first | (with_reducible first | exact HB.out | apply below_alloc | apply pw_below_drewN | apply below_drew1) | exact HB.out)) hb); clear HO3179; clear HB; have HO3179 := n0_; have HO3185 := n1_; have HB := n2_; clear n0_ n1_ n2_; (try clear hb); (try clear hb2); (try clear hk); (try clear hi); (try clear ho0)) | ((with_reducible refine gate_callee (f := 49) rfl ?_); refine goesL_ (some 29) rfl rfl Try.func49 (by kernel_rfl) rfl #[.int .i64 9, .string (⟨#[0, 2]⟩ : ByteArray)] rfl (by (try simp only [List.map_toArray, List.map_cons, List.map_nil]); first | done | rfl | (simp only [List.length_drop, List.length_take]; rfl)) ?_; (with_reducible refine (bitmap_Unpack.calls k 9 (⟨#[0, 2]⟩ : ByteArray) t3186 t3187 _ A3.out).mono ?_); rintro e w37 ⟨v3188, rfl, ho0, hb⟩; refine ⟨_, rfl, ?_⟩; have n0_ := Aside0.mk (Kd.R_elder' (by (with_reducible repeat (first | apply Kd.R_alloc | apply Kd.R_drewN | apply Kd.R_drew)); exact HO3179.out) (Kd.R_base ho0) hb); have n1_ := Aside0.mk (Kd.R_elder' (by (with_reducible repeat (first | apply Kd.R_alloc | apply Kd.R_drewN | apply Kd.R_drew)); exact HO3185.out) (Kd.R_base ho0) hb); have n2_ := Aside0.mk (Kd.R_lower (Kd.R_new' (Kd.R_new' ho0 (Kd.R_lt (by (with_reducible repeat (first | apply Kd.R_alloc | apply Kd.R_drewN | apply Kd.R_drew)); exact HO3179.out))) (Kd.R_lt (by (with_reducible repeat (first | apply Kd.R_alloc | apply Kd.R_drewN | apply Kd.R_drew)); exact HO3185.out))) (below_size (by repeat (first | (with_reducible first | exact HB.out | apply below_alloc | apply pw_below_drewN | apply below_drew1) | exact HB.out)))); have n3_ := Aside0.mk (below_step (by repeat (first | (with_reducible first | exact HB.out | apply below_alloc | apply pw_below_drewN | apply below_drew1) | exact HB.out)) hb); clear HO3179; clear HO3185; clear HB; have HO3179 := n0_; have HO3185 := n1_; have HO3189 := n2_; have HB := n3_; clear n0_ n1_ n2_ n3_; (try clear hb); (try clear hb2); (try clear hk); (try clear hi); (try clear ho0)) | ((with_reducible refine gate_callee (f := 53) rfl ?_); refine goesL_ (some 33) rfl rfl Try.func53 (by kernel_rfl) rfl #[.slice Ao34 y3177.length co34] rfl (by (try simp only [List.map_toArray, List.map_cons, List.map_nil]); first | done | rfl | (simp only [List.length_drop, List.length_take]; rfl)) ?_; (with_reducible refine (bitmap_Ranges.calls k _ _ y3177 t3190 _ ?side1 ?side2 A4.out).mono ?_); (case side1 => repeat (first | exact (Kd.R_reads' HO3179.out).2.2 | (with_reducible refine Kd.C_alloc ?_ _) | (with_reducible refine Kd.C_drewN ?_ _) | (with_reducible refine Kd.C_drew ?_))); (case side2 => exact (Kd.R_reads' HO3179.out).2.1); rintro e w38 ⟨v3191, rfl, ho0, hb⟩; refine ⟨_, rfl, ?_⟩; have n0_ := Aside0.mk (Kd.R_below (by (with_reducible repeat (first | apply Kd.R_alloc | apply Kd.R_drewN | apply Kd.R_drew)); exact HO3179.out) hb); have n1_ := Aside0.mk (Kd.R_below (by (with_reducible repeat (first | apply Kd.R_alloc | apply Kd.R_drewN | apply Kd.R_drew)); exact HO3185.out) hb); have n2_ := Aside0.mk (Kd.R_below (by (with_reducible repeat (first | apply Kd.R_alloc | apply Kd.R_drewN | apply Kd.R_drew)); exact HO3189.out) hb); have n3_ := Aside0.mk (Kd.R_lower ho0 (below_size (by repeat (first | (with_reducible first | exact HB.out | apply below_alloc | apply pw_below_drewN | apply below_drew1) | exact HB.out)))); have n4_ := Aside0.mk (below_step (by repeat (first | (with_reducible first | exact HB.out | apply below_alloc | apply pw_below_drewN | apply below_drew1) | exact HB.out)) hb); clear HO3179; clear HO3185; clear HO3189; clear HB; have HO3179 := n0_; have HO3185 := n1_; have HO3189 := n2_; have HO3192 := n3_; have HB := n4_; clear n0_ n1_ n2_ n3_ n4_; (try clear hb); (try clear hb2); (try clear hk); (try clear hi); (try clear ho0); obtain ⟨Ao39, co39, eo39⟩ := Kd.R_slice HO3192.out; subst eo39) | ((with_reducible refine gate_callee (f := 51) rfl ?_); refine goesL_ (some 36) rfl rfl Try.func51 (by kernel_rfl) rfl #[.int .i64 9, .slice Ao39 t3190.length co39] rfl (by (try simp only [List.map_toArray, List.map_cons, List.map_nil]); first | done | rfl | (simp only [List.length_drop, List.length_take]; rfl)) ?_; (with_reducible refine (bitmap_Of.calls k 9 _ _ t3190 t3193 t3194 _ ?side1 ?side2 A5.out).mono ?_); (case side1 => repeat (first | exact (Kd.R_reads' HO3192.out).2.2 | (with_reducible refine Kd.C_alloc ?_ _) | (with_reducible refine Kd.C_drewN ?_ _) | (with_reducible refine Kd.C_drew ?_))); (case side2 => exact (Kd.R_reads' HO3192.out).2.1); rintro e w40 ⟨v3195, rfl, ho0, hb⟩; refine ⟨_, rfl, ?_⟩; have n0_ := Aside0.mk (Kd.R_elder' (by (with_reducible repeat (first | apply Kd.R_alloc | apply Kd.R_drewN | apply Kd.R_drew)); exact HO3179.out) (Kd.R_base ho0) hb); have n1_ := Aside0.mk (Kd.R_elder' (by (with_reducible repeat (first | apply Kd.R_alloc | apply Kd.R_drewN | apply Kd.R_drew)); exact HO3185.out) (Kd.R_base ho0) hb); have n2_ := Aside0.mk (Kd.R_elder' (by (with_reducible repeat (first | apply Kd.R_alloc | apply Kd.R_drewN | apply Kd.R_drew)); exact HO3189.out) (Kd.R_base ho0) hb); have n3_ := Aside0.mk (Kd.R_below (by (with_reducible repeat (first | apply Kd.R_alloc | apply Kd.R_drewN | apply Kd.R_drew)); exact HO3192.out) hb); have n4_ := Aside0.mk (Kd.R_lower (Kd.R_new' (Kd.R_new' (Kd.R_new' ho0 (Kd.R_lt (by (with_reducible repeat (first | apply Kd.R_alloc | apply Kd.R_drewN | apply Kd.R_drew)); exact HO3179.out))) (Kd.R_lt (by (with_reducible repeat (first | apply Kd.R_alloc | apply Kd.R_drewN | apply Kd.R_drew)); exact HO3185.out))) (Kd.R_lt (by (with_reducible repeat (first | apply Kd.R_alloc | apply Kd.R_drewN | apply Kd.R_drew)); exact HO3189.out))) (below_size (by repeat (first | (with_reducible first | exact HB.out | apply below_alloc | apply pw_below_drewN | apply below_drew1) | exact HB.out)))); have n5_ := Aside0.mk (below_step (by repeat (first | (with_reducible first | exact HB.out | apply below_alloc | apply pw_below_drewN | apply below_drew1) | exact HB.out)) hb); clear HO3179; clear HO3185; clear HO3189; clear HO3192; clear HB; have HO3179 := n0_; have HO3185 := n1_; have HO3189 := n2_; have HO3192 := n3_; have HO3196 := n4_; have HB := n5_; clear n0_ n1_ n2_ n3_ n4_ n5_; (try clear hb); (try clear hb2); (try clear hk); (try clear hi); (try clear ho0)) | ((with_reducible refine gate_callee (f := 51) rfl ?_); refine goesL_ (some 41) rfl rfl Try.func51 (by kernel_rfl) rfl #[.int .i64 8, .slice Ao39 t3190.length co39] rfl (by (try simp only [List.map_toArray, List.map_cons, List.map_nil]); first | done | rfl | (simp only [List.length_drop, List.length_take]; rfl)) ?_; (with_reducible refine (bitmap_Of.calls k 8 _ _ t3190 t3197 t3198 _ ?side1 ?side2 A6.out).mono ?_); (case side1 => repeat (first | exact (Kd.R_reads' HO3192.out).2.2 | (with_reducible refine Kd.C_alloc ?_ _) | (with_reducible refine Kd.C_drewN ?_ _) | (with_reducible refine Kd.C_drew ?_))); (case side2 => exact (Kd.R_reads' HO3192.out).2.1); rintro e w41 ⟨v3199, rfl, ho0, hb⟩; refine ⟨_, rfl, ?_⟩; have n0_ := Aside0.mk (Kd.R_elder' (by (with_reducible repeat (first | apply Kd.R_alloc | apply Kd.R_drewN | apply Kd.R_drew)); exact HO3179.out) (Kd.R_base ho0) hb); have n1_ := Aside0.mk (Kd.R_elder' (by (with_reducible repeat (first | apply Kd.R_alloc | apply Kd.R_drewN | apply Kd.R_drew)); exact HO3185.out) (Kd.R_base ho0) hb); have n2_ := Aside0.mk (Kd.R_elder' (by (with_reducible repeat (first | apply Kd.R_alloc | apply Kd.R_drewN | apply Kd.R_drew)); exact HO3189.out) (Kd.R_base ho0) hb); have n3_ := Aside0.mk (Kd.R_below (by (with_reducible repeat (first | apply Kd.R_alloc | apply Kd.R_drewN | apply Kd.R_drew)); exact HO3192.out) hb); have n4_ := Aside0.mk (Kd.R_elder' (by (with_reducible repeat (first | apply Kd.R_alloc | apply Kd.R_drewN | apply Kd.R_drew)); exact HO3196.out) (Kd.R_base ho0) hb); have n5_ := Aside0.mk (Kd.R_lower (Kd.R_new' (Kd.R_new' (Kd.R_new' (Kd.R_new' ho0 (Kd.R_lt (by (with_reducible repeat (first | apply Kd.R_alloc | apply Kd.R_drewN | apply Kd.R_drew)); exact HO3179.out))) (Kd.R_lt (by (with_reducible repeat (first | apply Kd.R_alloc | apply Kd.R_drewN | apply Kd.R_drew)); exact HO3185.out))) (Kd.R_lt (by (with_reducible repeat (first | apply Kd.R_alloc | apply Kd.R_drewN | apply Kd.R_drew)); exact HO3189.out))) (Kd.R_lt (by (with_reducible repeat (first | apply Kd.R_alloc | apply Kd.R_drewN | apply Kd.R_drew)); exact HO3196.out))) (below_size (by repeat (first | (with_reducible first | exact HB.out | apply below_alloc | apply pw_below_drewN | apply below_drew1) | exact HB.out)))); have n6_ := Aside0.mk (below_step (by repeat (first | (with_reducible first | exact HB.out | apply below_alloc | apply pw_below_drewN | apply below_drew1) | exact HB.out)) hb); clear HO3179; clear HO3185; clear HO3189; clear HO3192; clear HO3196; clear HB; have HO3179 := n0_; have HO3185 := n1_; have HO3189 := n2_; have HO3192 := n3_; have HO3196 := n4_; have HO3200 := n5_; have HB := n6_; clear n0_ n1_ n2_ n3_ n4_ n5_ n6_; (try clear hb); (try clear hb2); (try clear hk); (try clear hi); (try clear ho0)) | ((with_reducible refine gate_dst (N := 46) rfl ?_); (try (refine gate_guard (by rfl) ?_; dsimp only)); refine Kd.R_lit Kd.bool _ 4 ?hg (N := 46) ?hd (xs := ([true, true, false, true, false, false, false, false, false] : List Bool)) (inner := [.bool true, .bool true, .bool false, .bool true, .bool false, .bool false, .bool false, .bool false, .bool false]) (ok := fun _ => True) (okp := fun _ => True) ?hr ?hp (fun _ hk => hk) trivial (Below.refl _ _) (Nat.le_refl _) (by simp) ?_; (case hd => rfl); (case hg => rfl); (case hr => first | (go_simp; done) | (go_simp; rfl)); (case hp => exact (Reps.one (show Kd.M Kd.bool _ _ _ true [.bool true] from rfl) (Reps.one (show Kd.M Kd.bool _ _ _ true [.bool true] from rfl) (Reps.one (show Kd.M Kd.bool _ _ _ false [.bool false] from rfl) (Reps.one (show Kd.M Kd.bool _ _ _ true [.bool true] from rfl) (Reps.one (show Kd.M Kd.bool _ _ _ false [.bool false] from rfl) (Reps.one (show Kd.M Kd.bool _ _ _ false [.bool false] from rfl) (Reps.one (show Kd.M Kd.bool _ _ _ false [.bool false] from rfl) (Reps.one (show Kd.M Kd.bool _ _ _ false [.bool false] from rfl) (Reps.one (show Kd.M Kd.bool _ _ _ false [.bool false] from rfl) (Reps.none _ _))))))))))); intro v3202 w42 ho43 hb hg_ hnew_; clear hg_ hnew_; (first | rw [← Ny3201.out] at ho43 | (simp only [Int.reduceToNat] at ho43; rw [← Ny3201.out] at ho43)); have n0_ := Aside0.mk (Kd.R_elder' (by (with_reducible repeat (first | apply Kd.R_alloc | apply Kd.R_drewN | apply Kd.R_drew)); exact HO3179.out) (Kd.R_base ho43) hb); have n1_ := Aside0.mk (Kd.R_elder' (by (with_reducible repeat (first | apply Kd.R_alloc | apply Kd.R_drewN | apply Kd.R_drew)); exact HO3185.out) (Kd.R_base ho43) hb); have n2_ := Aside0.mk (Kd.R_elder' (by (with_reducible repeat (first | apply Kd.R_alloc | apply Kd.R_drewN | apply Kd.R_drew)); exact HO3189.out) (Kd.R_base ho43) hb); have n3_ := Aside0.mk (Kd.R_below (by (with_reducible repeat (first | apply Kd.R_alloc | apply Kd.R_drewN | apply Kd.R_drew)); exact HO3192.out) hb); have n4_ := Aside0.mk (Kd.R_elder' (by (with_reducible repeat (first | apply Kd.R_alloc | apply Kd.R_drewN | apply Kd.R_drew)); exact HO3196.out) (Kd.R_base ho43) hb); have n5_ := Aside0.mk (Kd.R_elder' (by (with_reducible repeat (first | apply Kd.R_alloc | apply Kd.R_drewN | apply Kd.R_drew)); exact HO3200.out) (Kd.R_base ho43) hb); have n6_ := Aside0.mk (Kd.R_lower (Kd.R_new' (Kd.R_new' (Kd.R_new' (Kd.R_new' (Kd.R_new' ho43 (Kd.R_lt (by (with_reducible repeat (first | apply Kd.R_alloc | apply Kd.R_drewN | apply Kd.R_drew)); exact HO3179.out))) (Kd.R_lt (by (with_reducible repeat (first | apply Kd.R_alloc | apply Kd.R_drewN | apply Kd.R_drew)); exact HO3185.out))) (Kd.R_lt (by (with_reducible repeat (first | apply Kd.R_alloc | apply Kd.R_drewN | apply Kd.R_drew)); exact HO3189.out))) (Kd.R_lt (by (with_reducible repeat (first | apply Kd.R_alloc | apply Kd.R_drewN | apply Kd.R_drew)); exact HO3196.out))) (Kd.R_lt (by (with_reducible repeat (first | apply Kd.R_alloc | apply Kd.R_drewN | apply Kd.R_drew)); exact HO3200.out))) (below_size (by repeat (first | (with_reducible first | exact HB.out | apply below_alloc | apply pw_below_drewN | apply below_drew1) | exact HB.out)))); have n7_ := Aside0.mk (below_step (by repeat (first | (with_reducible first | exact HB.out | apply below_alloc | apply pw_below_drewN | apply below_drew1) | exact HB.out)) hb); clear HO3179; clear HO3185; clear HO3189; clear HO3192; clear HO3196; clear HO3200; clear HB; have HO3179 := n0_; have HO3185 := n1_; have HO3189 := n2_; have HO3192 := n3_; have HO3196 := n4_; have HO3200 := n5_; have HO3203 := n6_; have HB := n7_; clear n0_ n1_ n2_ n3_ n4_ n5_ n6_ n7_; clear hb ho43; obtain ⟨Ao44, co44, eo44⟩ := Kd.R_slice HO3203.out; subst eo44) | ((with_reducible refine gate_callee (f := 56) rfl ?_); refine goesL_ (some 47) rfl rfl Try.func56 (by kernel_rfl) rfl #[.slice Ao34 y3177.length co34, .slice Ao44 y3201.length co44] rfl (by (try simp only [List.map_toArray, List.map_cons, List.map_nil]); first | done | rfl | (simp only [List.length_drop, List.length_take]; rfl)) ?_; (with_reducible refine (bitmap_And.calls k _ _ y3177 _ _ y3201 t3204 t3205 _ ?side1 ?side2 ?side3 ?side4 A7.out).mono ?_); (case side1 => repeat (first | exact (Kd.R_reads' HO3179.out).2.2 | (with_reducible refine Kd.C_alloc ?_ _) | (with_reducible refine Kd.C_drewN ?_ _) | (with_reducible refine Kd.C_drew ?_))); (case side2 => exact (Kd.R_reads' HO3179.out).2.1); (case side3 => repeat (first | exact (Kd.R_reads' HO3203.out).2.2 | (with_reducible refine Kd.C_alloc ?_ _) | (with_reducible refine Kd.C_drewN ?_ _) | (with_reducible refine Kd.C_drew ?_))); (case side4 => exact (Kd.R_reads' HO3203.out).2.1); rintro e w45 ⟨v3206, rfl, ho0, hb⟩; refine ⟨_, rfl, ?_⟩; have n0_ := Aside0.mk (Kd.R_elder' (by (with_reducible repeat (first | apply Kd.R_alloc | apply Kd.R_drewN | apply Kd.R_drew)); exact HO3179.out) (Kd.R_base ho0) hb); have n1_ := Aside0.mk (Kd.R_elder' (by (with_reducible repeat (first | apply Kd.R_alloc | apply Kd.R_drewN | apply Kd.R_drew)); exact HO3185.out) (Kd.R_base ho0) hb); have n2_ := Aside0.mk (Kd.R_elder' (by (with_reducible repeat (first | apply Kd.R_alloc | apply Kd.R_drewN | apply Kd.R_drew)); exact HO3189.out) (Kd.R_base ho0) hb); have n3_ := Aside0.mk (Kd.R_below (by (with_reducible repeat (first | apply Kd.R_alloc | apply Kd.R_drewN | apply Kd.R_drew)); exact HO3192.out) hb); have n4_ := Aside0.mk (Kd.R_elder' (by (with_reducible repeat (first | apply Kd.R_alloc | apply Kd.R_drewN | apply Kd.R_drew)); exact HO3196.out) (Kd.R_base ho0) hb); have n5_ := Aside0.mk (Kd.R_elder' (by (with_reducible repeat (first | apply Kd.R_alloc | apply Kd.R_drewN | apply Kd.R_drew)); exact HO3200.out) (Kd.R_base ho0) hb); have n6_ := Aside0.mk (Kd.R_elder' (by (with_reducible repeat (first | apply Kd.R_alloc | apply Kd.R_drewN | apply Kd.R_drew)); exact HO3203.out) (Kd.R_base ho0) hb); have n7_ := Aside0.mk (Kd.R_lower (Kd.R_new' (Kd.R_new' (Kd.R_new' (Kd.R_new' (Kd.R_new' (Kd.R_new' ho0 (Kd.R_lt (by (with_reducible repeat (first | apply Kd.R_alloc | apply Kd.R_drewN | apply Kd.R_drew)); exact HO3179.out))) (Kd.R_lt (by (with_reducible repeat (first | apply Kd.R_alloc | apply Kd.R_drewN | apply Kd.R_drew)); exact HO3185.out))) (Kd.R_lt (by (with_reducible repeat (first | apply Kd.R_alloc | apply Kd.R_drewN | apply Kd.R_drew)); exact HO3189.out))) (Kd.R_lt (by (with_reducible repeat (first | apply Kd.R_alloc | apply Kd.R_drewN | apply Kd.R_drew)); exact HO3196.out))) (Kd.R_lt (by (with_reducible repeat (first | apply Kd.R_alloc | apply Kd.R_drewN | apply Kd.R_drew)); exact HO3200.out))) (Kd.R_lt (by (with_reducible repeat (first | apply Kd.R_alloc | apply Kd.R_drewN | apply Kd.R_drew)); exact HO3203.out))) (below_size (by repeat (first | (with_reducible first | exact HB.out | apply below_alloc | apply pw_below_drewN | apply below_drew1) | exact HB.out)))); have n8_ := Aside0.mk (below_step (by repeat (first | (with_reducible first | exact HB.out | apply below_alloc | apply pw_below_drewN | apply below_drew1) | exact HB.out)) hb); clear HO3179; clear HO3185; clear HO3189; clear HO3192; clear HO3196; clear HO3200; clear HO3203; clear HB; have HO3179 := n0_; have HO3185 := n1_; have HO3189 := n2_; have HO3192 := n3_; have HO3196 := n4_; have HO3200 := n5_; have HO3203 := n6_; have HO3207 := n7_; have HB := n8_; clear n0_ n1_ n2_ n3_ n4_ n5_ n6_ n7_ n8_; (try clear hb); (try clear hb2); (try clear hk); (try clear hi); (try clear ho0)) | ((with_reducible refine gate_callee (f := 57) rfl ?_); refine goesL_ (some 52) rfl rfl Try.func57 (by kernel_rfl) rfl #[.slice Ao34 y3177.length co34, .slice none 0 0] rfl (by (try simp only [List.map_toArray, List.map_cons, List.map_nil]); first | done | rfl | (simp only [List.length_drop, List.length_take]; rfl)) ?_; (refine (bitmap_Only.calls k _ _ y3177 _ _ ([] : List Bool) t3208 t3209 _ ?side1 ?side2 ?side3 ?side4 A8.out).mono ?_); (case side1 => repeat (first | exact (Kd.R_reads' HO3179.out).2.2 | (with_reducible refine Kd.C_alloc ?_ _) | (with_reducible refine Kd.C_drewN ?_ _) | (with_reducible refine Kd.C_drew ?_))); (case side2 => exact (Kd.R_reads' HO3179.out).2.1); (case side3 => exact Kd.C_nil _ _); (case side4 => exact Nat.le_refl _); rintro e w46 ⟨v3210, rfl, ho0, hb⟩; refine ⟨_, rfl, ?_⟩; have n0_ := Aside0.mk (Kd.R_elder' (by (with_reducible repeat (first | apply Kd.R_alloc | apply Kd.R_drewN | apply Kd.R_drew)); exact HO3179.out) (Kd.R_base ho0) hb); have n1_ := Aside0.mk (Kd.R_elder' (by (with_reducible repeat (first | apply Kd.R_alloc | apply Kd.R_drewN | apply Kd.R_drew)); exact HO3185.out) (Kd.R_base ho0) hb); have n2_ := Aside0.mk (Kd.R_elder' (by (with_reducible repeat (first | apply Kd.R_alloc | apply Kd.R_drewN | apply Kd.R_drew)); exact HO3189.out) (Kd.R_base ho0) hb); have n3_ := Aside0.mk (Kd.R_below (by (with_reducible repeat (first | apply Kd.R_alloc | apply Kd.R_drewN | apply Kd.R_drew)); exact HO3192.out) hb); have n4_ := Aside0.mk (Kd.R_elder' (by (with_reducible repeat (first | apply Kd.R_alloc | apply Kd.R_drewN | apply Kd.R_drew)); exact HO3196.out) (Kd.R_base ho0) hb); have n5_ := Aside0.mk (Kd.R_elder' (by (with_reducible repeat (first | apply Kd.R_alloc | apply Kd.R_drewN | apply Kd.R_drew)); exact HO3200.out) (Kd.R_base ho0) hb); have n6_ := Aside0.mk (Kd.R_elder' (by (with_reducible repeat (first | apply Kd.R_alloc | apply Kd.R_drewN | apply Kd.R_drew)); exact HO3203.out) (Kd.R_base ho0) hb); have n7_ := Aside0.mk (Kd.R_elder' (by (with_reducible repeat (first | apply Kd.R_alloc | apply Kd.R_drewN | apply Kd.R_drew)); exact HO3207.out) (Kd.R_base ho0) hb); have n8_ := Aside0.mk (Kd.R_lower (Kd.R_new' (Kd.R_new' (Kd.R_new' (Kd.R_new' (Kd.R_new' (Kd.R_new' (Kd.R_new' ho0 (Kd.R_lt (by (with_reducible repeat (first | apply Kd.R_alloc | apply Kd.R_drewN | apply Kd.R_drew)); exact HO3179.out))) (Kd.R_lt (by (with_reducible repeat (first | apply Kd.R_alloc | apply Kd.R_drewN | apply Kd.R_drew)); exact HO3185.out))) (Kd.R_lt (by (with_reducible repeat (first | apply Kd.R_alloc | apply Kd.R_drewN | apply Kd.R_drew)); exact HO3189.out))) (Kd.R_lt (by (with_reducible repeat (first | apply Kd.R_alloc | apply Kd.R_drewN | apply Kd.R_drew)); exact HO3196.out))) (Kd.R_lt (by (with_reducible repeat (first | apply Kd.R_alloc | apply Kd.R_drewN | apply Kd.R_drew)); exact HO3200.out))) (Kd.R_lt (by (with_reducible repeat (first | apply Kd.R_alloc | apply Kd.R_drewN | apply Kd.R_drew)); exact HO3203.out))) (Kd.R_lt (by (with_reducible repeat (first | apply Kd.R_alloc | apply Kd.R_drewN | apply Kd.R_drew)); exact HO3207.out))) (below_size (by repeat (first | (with_reducible first | exact HB.out | apply below_alloc | apply pw_below_drewN | apply below_drew1) | exact HB.out)))); have n9_ := Aside0.mk (below_step (by repeat (first | (with_reducible first | exact HB.out | apply below_alloc | apply pw_below_drewN | apply below_drew1) | exact HB.out)) hb); clear HO3179; clear HO3185; clear HO3189; clear HO3192; clear HO3196; clear HO3200; clear HO3203; clear HO3207; clear HB; have HO3179 := n0_; have HO3185 := n1_; have HO3189 := n2_; have HO3192 := n3_; have HO3196 := n4_; have HO3200 := n5_; have HO3203 := n6_; have HO3207 := n7_; have HO3211 := n8_; have HB := n9_; clear n0_ n1_ n2_ n3_ n4_ n5_ n6_ n7_ n8_ n9_; (try clear hb); (try clear hb2); (try clear hk); (try clear hi); (try clear ho0); obtain ⟨Ao47, co47, eo47⟩ := Kd.R_slice HO3185.out; subst eo47) | ((with_reducible refine gate_callee (f := 55) rfl ?_); (try (refine gate_guard (by rfl) ?_; dsimp only)); refine goesL_ (some 64) rfl rfl Try.func55 (by kernel_rfl) rfl #[.slice Ao47 t3182.length co47, .slice Ao34 y3177.length co34] rfl (by (try simp only [List.map_toArray, List.map_cons, List.map_nil]); first | done | rfl | (simp only [List.length_drop, List.length_take]; rfl)) ?_; (with_reducible refine (caulkref12_Same.calls k _ _ t3182 _ _ y3177 true _ ?side1 ?side2 ?side3 ?side4 A11.out).mono ?_); (case side1 => repeat (first | exact (Kd.R_reads' HO3185.out).2.2 | (with_reducible refine Kd.C_alloc ?_ _) | (with_reducible refine Kd.C_drewN ?_ _) | (with_reducible refine Kd.C_drew ?_))); (case side2 => exact (Kd.R_reads' HO3185.out).2.1); (case side3 => repeat (first | exact (Kd.R_reads' HO3179.out).2.2 | (with_reducible refine Kd.C_alloc ?_ _) | (with_reducible refine Kd.C_drewN ?_ _) | (with_reducible refine Kd.C_drew ?_))); (case side4 => exact (Kd.R_reads' HO3179.out).2.1); rintro e w' ⟨rfl, ⟨nd, rfl⟩⟩; refine ⟨_, rfl, ?_⟩) | ((with_reducible refine gate_dst (N := 79) rfl ?_); (try (refine gate_guard (by rfl) ?_; dsimp only)); refine Kd.R_lit k39 _ 39 ?hg (N := 79) ?hd (xs := ([(⟨0, 1⟩ : S39), (⟨2, 4⟩ : S39), (⟨8, 9⟩ : S39)] : List (S39))) (inner := [.int .i64 0, .int .i64 1, .int .i64 2, .int .i64 4, .int .i64 8, .int .i64 9]) (ok := fun _ => True) (okp := fun _ => True) ?hr ?hp (fun _ hk => hk) trivial (Below.refl _ _) (Nat.le_refl _) (by simp) ?_; (case hd => rfl); (case hg => rfl); (case hr => first | (go_simp; done) | (go_simp; rfl)); (case hp => exact (Reps.c2 (show Kd.M k39 _ _ _ (⟨0, 1⟩ : S39) [.int .i64 0, .int .i64 1] from (k39_mkM _ _ _ (⟨0, 1⟩ : S39) )) (Reps.c2 (show Kd.M k39 _ _ _ (⟨2, 4⟩ : S39) [.int .i64 2, .int .i64 4] from (k39_mkM _ _ _ (⟨2, 4⟩ : S39) )) (Reps.c2 (show Kd.M k39 _ _ _ (⟨8, 9⟩ : S39) [.int .i64 8, .int .i64 9] from (k39_mkM _ _ _ (⟨8, 9⟩ : S39) )) (Reps.none _ _))))); intro v3214 w48 ho49 hb hg_ hnew_; clear hg_ hnew_; (first | rw [← Ny3213.out] at ho49 | (simp only [Int.reduceToNat] at ho49; rw [← Ny3213.out] at ho49)); have n0_ := Aside0.mk (Kd.R_below (by (with_reducible repeat (first | apply Kd.R_alloc | apply Kd.R_drewN | apply Kd.R_drew)); exact HO3179.out) hb); have n1_ := Aside0.mk (Kd.R_below (by (with_reducible repeat (first | apply Kd.R_alloc | apply Kd.R_drewN | apply Kd.R_drew)); exact HO3185.out) hb); have n2_ := Aside0.mk (Kd.R_below (by (with_reducible repeat (first | apply Kd.R_alloc | apply Kd.R_drewN | apply Kd.R_drew)); exact HO3189.out) hb); have n3_ := Aside0.mk (Kd.R_elder' (by (with_reducible repeat (first | apply Kd.R_alloc | apply Kd.R_drewN | apply Kd.R_drew)); exact HO3192.out) (Kd.R_base ho49) hb); have n4_ := Aside0.mk (Kd.R_below (by (with_reducible repeat (first | apply Kd.R_alloc | apply Kd.R_drewN | apply Kd.R_drew)); exact HO3196.out) hb); have n5_ := Aside0.mk (Kd.R_below (by (with_reducible repeat (first | apply Kd.R_alloc | apply Kd.R_drewN | apply Kd.R_drew)); exact HO3200.out) hb); have n6_ := Aside0.mk (Kd.R_below (by (with_reducible repeat (first | apply Kd.R_alloc | apply Kd.R_drewN | apply Kd.R_drew)); exact HO3203.out) hb); have n7_ := Aside0.mk (Kd.R_below (by (with_reducible repeat (first | apply Kd.R_alloc | apply Kd.R_drewN | apply Kd.R_drew)); exact HO3207.out) hb); have n8_ := Aside0.mk (Kd.R_below (by (with_reducible repeat (first | apply Kd.R_alloc | apply Kd.R_drewN | apply Kd.R_drew)); exact HO3211.out) hb); have n9_ := Aside0.mk (Kd.R_lower (Kd.R_new' ho49 (Kd.R_lt (by (with_reducible repeat (first | apply Kd.R_alloc | apply Kd.R_drewN | apply Kd.R_drew)); exact HO3192.out))) (below_size (by repeat (first | (with_reducible first | exact HB.out | apply below_alloc | apply pw_below_drewN | apply below_drew1) | exact HB.out)))); have n10_ := Aside0.mk (below_step (by repeat (first | (with_reducible first | exact HB.out | apply below_alloc | apply pw_below_drewN | apply below_drew1) | exact HB.out)) hb); clear HO3179; clear HO3185; clear HO3189; clear HO3192; clear HO3196; clear HO3200; clear HO3203; clear HO3207; clear HO3211; clear HB; have HO3179 := n0_; have HO3185 := n1_; have HO3189 := n2_; have HO3192 := n3_; have HO3196 := n4_; have HO3200 := n5_; have HO3203 := n6_; have HO3207 := n7_; have HO3211 := n8_; have HO3215 := n9_; have HB := n10_; clear n0_ n1_ n2_ n3_ n4_ n5_ n6_ n7_ n8_ n9_ n10_; clear hb ho49; obtain ⟨Ao50, co50, eo50⟩ := Kd.R_slice HO3215.out; subst eo50) | ((with_reducible refine gate_callee (f := 23) rfl ?_); (try (refine gate_guard (by rfl) ?_; dsimp only)); refine goesL_ (some 80) rfl rfl Try.func23 (by kernel_rfl) rfl #[.slice Ao39 t3190.length co39, .slice Ao50 y3213.length co50] rfl (by (try simp only [List.map_toArray, List.map_cons, List.map_nil]); first | done | rfl | (simp only [List.length_drop, List.length_take]; rfl)) ?_; (with_reducible refine (caulkref19_SameRanges.calls k _ _ t3190 _ _ y3213 true _ ?side1 ?side2 ?side3 ?side4 A15.out).mono ?_); (case side1 => repeat (first | exact (Kd.R_reads' HO3192.out).2.2 | (with_reducible refine Kd.C_alloc ?_ _) | (with_reducible refine Kd.C_drewN ?_ _) | (with_reducible refine Kd.C_drew ?_))); (case side2 => exact (Kd.R_reads' HO3192.out).2.1); (case side3 => repeat (first | exact (Kd.R_reads' HO3215.out).2.2 | (with_reducible refine Kd.C_alloc ?_ _) | (with_reducible refine Kd.C_drewN ?_ _) | (with_reducible refine Kd.C_drew ?_))); (case side4 => exact (Kd.R_reads' HO3215.out).2.1); rintro e w' ⟨rfl, ⟨nd, rfl⟩⟩; refine ⟨_, rfl, ?_⟩; obtain ⟨Ao51, co51, eo51⟩ := Kd.R_slice HO3196.out; subst eo51) | ((with_reducible refine gate_callee (f := 55) rfl ?_); (try (refine gate_guard (by rfl) ?_; dsimp only)); refine goesL_ (some 85) rfl rfl Try.func55 (by kernel_rfl) rfl #[.slice Ao51 t3193.length co51, .slice Ao34 y3177.length co34] rfl (by (try simp only [List.map_toArray, List.map_cons, List.map_nil]); first | done | rfl | (simp only [List.length_drop, List.length_take]; rfl)) ?_; (with_reducible refine (caulkref12_Same.calls k _ _ t3193 _ _ y3177 true _ ?side1 ?side2 ?side3 ?side4 A17.out).mono ?_); (case side1 => repeat (first | exact (Kd.R_reads' HO3196.out).2.2 | (with_reducible refine Kd.C_alloc ?_ _) | (with_reducible refine Kd.C_drewN ?_ _) | (with_reducible refine Kd.C_drew ?_))); (case side2 => exact (Kd.R_reads' HO3196.out).2.1); (case side3 => repeat (first | exact (Kd.R_reads' HO3179.out).2.2 | (with_reducible refine Kd.C_alloc ?_ _) | (with_reducible refine Kd.C_drewN ?_ _) | (with_reducible refine Kd.C_drew ?_))); (case side4 => exact (Kd.R_reads' HO3179.out).2.1); rintro e w' ⟨rfl, ⟨nd, rfl⟩⟩; refine ⟨_, rfl, ?_⟩; obtain ⟨Ao52, co52, eo52⟩ := Kd.R_slice HO3207.out; subst eo52; have p3218 : 0 ≤ (0 : Int) := (by omega); have q3218 : 0 < (t3204.length : Int) := of_decide_eq_true (by first | (with_reducible assumption) | assumption); obtain ⟨ad3218, e3218, hx3218_0⟩ := Kd.at_bool (Kd.R_reads' HO3207.out).2.2 0 p3218 q3218; (try rw [← Nbq23.out] at hx3218_0); (try rw [← Nbq26.out] at hx3218_0); (try rw [← Nbq29.out] at hx3218_0); cases e3218; have qi3218 : (0 < t3204.length) = True := eq_true (by omega); (try rw [show ((0 : Int)).toNat = 0 from rfl] at hx3218_0); (try rw [Addr.add_zero'] at hx3218_0); replace p3218 := eq_true p3218; replace q3218 := eq_true q3218; have p3219 : 0 ≤ (2 : Int) := (by omega); have q3219 : 2 < (t3204.length : Int) := of_decide_eq_true (by first | (with_reducible assumption) | assumption); obtain ⟨ad3219, e3219, hx3219_0⟩ := Kd.at_bool (Kd.R_reads' HO3207.out).2.2 2 p3219 q3219; (try rw [← Nbq23.out] at hx3219_0); (try rw [← Nbq26.out] at hx3219_0); (try rw [← Nbq29.out] at hx3219_0); obtain rfl : ad3218 = ad3219 := (by injection e3219); (try simp only [show (2 : Int).toNat = 2 from rfl, Nat.reduceMul, Nat.reduceEqDiff, Go.Addr.add, ↓reduceIte] at hx3219_0); have qi3219 : (2 < t3204.length) = True := eq_true (by omega); (try rw [show ((2 : Int)).toNat = 2 from rfl] at hx3219_0); replace p3219 := eq_true p3219; replace q3219 := eq_true q3219; have p3220 : 0 ≤ (3 : Int) := (by omega); have q3220 : 3 < (t3204.length : Int) := of_decide_eq_true (by first | (with_reducible assumption) | assumption); obtain ⟨ad3220, e3220, hx3220_0⟩ := Kd.at_bool (Kd.R_reads' HO3207.out).2.2 3 p3220 q3220; (try rw [← Nbq23.out] at hx3220_0); (try rw [← Nbq26.out] at hx3220_0); (try rw [← Nbq29.out] at hx3220_0); obtain rfl : ad3218 = ad3220 := (by injection e3220); (try simp only [show (3 : Int).toNat = 3 from rfl, Nat.reduceMul, Nat.reduceEqDiff, Go.Addr.add, ↓reduceIte] at hx3220_0); have qi3220 : (3 < t3204.length) = True := eq_true (by omega); (try rw [show ((3 : Int)).toNat = 3 from rfl] at hx3220_0); replace p3220 := eq_true p3220; replace q3220 := eq_true q3220))
                                    go_ret
                                    exact ⟨by first | rfl | (simp [errW_none, errW_some] <;> rfl) | (simp [*, errW_none, errW_some] <;> rfl), by repeat (first | (with_reducible first | exact HB.out | apply below_alloc | apply pw_below_drewN | apply below_drew1) | exact HB.out)⟩
                                  · rw [if_neg c31] at H
                                    have c31b0 : (t3205 == 0) = false := beq_eq_false_iff_ne.mpr c31
                                    have c31b1 : (t3205 != 0) = true := bne_iff_ne.mpr c31
                                    exact absurd ((Option.some.inj H).trans hrt.out) (by simp)
                                · replace c30 := Bool.eq_false_iff.mpr c30
                                  subst c30
                                  have H1 : (some false) = some r := by rw [if_neg (show ¬ (false = true) by decide)] at H; exact H
                                  clear H
                                  have H := H1
                                  clear H1
                                  exact absurd ((Option.some.inj H).trans hrt.out) (by simp)
                              · rw [if_neg c28] at H
                                exact absurd H (by simp)
                          · rw [if_neg c25] at H
                            exact absurd H (by simp)
                        · replace c24 := Bool.eq_false_iff.mpr c24
                          subst c24
                          have H1 : (some false) = some r := by rw [if_neg (show ¬ (false = true) by decide)] at H; exact H
                          clear H
                          have H := H1
                          clear H1
                          exact absurd ((Option.some.inj H).trans hrt.out) (by simp)
                      · rw [if_neg c22] at H
                        exact absurd H (by simp)
                    · rw [if_neg c21] at H
                      have c21b0 : ((t3204.length : Int) == 9) = false := beq_eq_false_iff_ne.mpr c21
                      have c21b1 : ((t3204.length : Int) != 9) = true := bne_iff_ne.mpr c21
                      exact absurd ((Option.some.inj H).trans hrt.out) (by simp)
                  · rw [if_neg c20] at H
                    have c20b0 : (t3198 == 1) = false := beq_eq_false_iff_ne.mpr c20
                    have c20b1 : (t3198 != 1) = true := bne_iff_ne.mpr c20
                    exact absurd ((Option.some.inj H).trans hrt.out) (by simp)
                · rw [if_neg c19] at H
                  have c19b0 : (t3194 == 0) = false := beq_eq_false_iff_ne.mpr c19
                  have c19b1 : (t3194 != 0) = true := bne_iff_ne.mpr c19
                  exact absurd ((Option.some.inj H).trans hrt.out) (by simp)
              · replace c18 := Bool.eq_false_iff.mpr c18
                subst c18
                have H1 : (some false) = some r := by rw [if_neg (show ¬ (false = true) by decide)] at H; exact H
                clear H
                have H := H1
                clear H1
                exact absurd ((Option.some.inj H).trans hrt.out) (by simp)
            · replace c16 := Bool.eq_false_iff.mpr c16
              subst c16
              have H1 : (some false) = some r := by rw [if_neg (show ¬ (false = true) by decide)] at H; exact H
              clear H
              have H := H1
              clear H1
              exact absurd ((Option.some.inj H).trans hrt.out) (by simp)
          · rw [if_neg c14] at H
            have c14b0 : (t3187 == 6) = false := beq_eq_false_iff_ne.mpr c14
            have c14b1 : (t3187 != 6) = true := bne_iff_ne.mpr c14
            exact absurd ((Option.some.inj H).trans hrt.out) (by simp)
        · rw [if_neg c13] at H
          have c13b0 : (t3183 == 0) = false := beq_eq_false_iff_ne.mpr c13
          have c13b1 : (t3183 != 0) = true := bne_iff_ne.mpr c13
          exact absurd ((Option.some.inj H).trans hrt.out) (by simp)
      · replace c12 := Bool.eq_false_iff.mpr c12
        subst c12
        have H1 : (some false) = some r := by rw [if_neg (show ¬ (false = true) by decide)] at H; exact H
        clear H
        have H := H1
        clear H1
        exact absurd ((Option.some.inj H).trans hrt.out) (by simp)
    · rw [if_neg c10] at H
      have c10b0 : (t3181 == 0) = false := beq_eq_false_iff_ne.mpr c10
      have c10b1 : (t3181 != 0) = true := bne_iff_ne.mpr c10
      exact absurd ((Option.some.inj H).trans hrt.out) (by simp)
  · rw [if_neg c9] at H
    have c9b0 : (t3180.toList == ([13, 1] : List UInt8)) = false := beq_eq_false_iff_ne.mpr c9
    have c9b1 : (t3180.toList != ([13, 1] : List UInt8)) = true := bne_iff_ne.mpr c9
    exact absurd ((Option.some.inj H).trans hrt.out) (by simp)
theorem caulklaw39_lives_t.true : ∃ k, caulklaw39_lives_t.f k = some true := ⟨1000, by kernel_rfl⟩
def caulklaw39_lives.f : Option (Bool) := some true
theorem caulklaw39_lives.calls (r : Bool) (w : World) (h : caulklaw39_lives.f = some r) :
    Calls Try.prog 46 #[] w fun e w' => e = .returned (.bool r) ∧ Below w.heap.size w w' := by
  cases h
  obtain ⟨k, hk⟩ := caulklaw39_lives_t.true; exact caulklaw39_lives_t.calls k true w ⟨rfl⟩ hk

/-! ### caulkref39_Pack: function 48 -/
def caulkref39_Pack.l0 : Nat → List Int → List Bool → Int → Int → Option (ByteArray × Int)
  | 0, _, _, _, _ => none
  | k + 1, x4, x15, x16, x17 => if x17 < x16 then (if 0 ≤ x17 then (if x17 < (x15.length : Int) then (if rdOf false x15 x17 = true then (if 0 ≤ (wrap64 (Int.tdiv x17 8)) then (if (wrap64 (Int.tdiv x17 8)) < (x4.length : Int) then (if 0 ≤ (Int.tmod x17 8) then (caulkref39_Pack.l0 k (x4.set ((wrap64 (Int.tdiv x17 8)) : Int).toNat (Go.bits .or .u8 (rd x4 (wrap64 (Int.tdiv x17 8))) (shl .u8 1 (Int.tmod x17 8)))) x15 x16 (wrap64 (x17 + 1))) else (none)) else (none)) else (none)) else (caulkref39_Pack.l0 k x4 x15 x16 (wrap64 (x17 + 1)))) else (none)) else (none)) else (some (strOfNums x4, 0))
def caulkref39_Pack.f (k : Nat) (l0 : List Bool) : Option (ByteArray × Int) := if (l0.length : Int) > 4096 then (some ((⟨#[]⟩ : ByteArray), 7)) else (if 0 ≤ (wrap64 (Int.tdiv (wrap64 ((l0.length : Int) + 7)) 8)) then (if (wrap64 (Int.tdiv (wrap64 ((l0.length : Int) + 7)) 8) : Int).toNat ≤ 281474976710656 then (caulkref39_Pack.l0 k (List.replicate (wrap64 (Int.tdiv (wrap64 ((l0.length : Int) + 7)) 8) : Int).toNat 0) l0 (l0.length : Int) 0) else (none)) else (none))
theorem caulkref39_Pack.mono_l : ∀ k, (∀ y0 y1 y2 y3, LeO (caulkref39_Pack.l0 k y0 y1 y2 y3) (caulkref39_Pack.l0 (k + 1) y0 y1 y2 y3))
  | 0 => fun _ _ _ _ r h => by simp [caulkref39_Pack.l0] at h
  | k + 1 => by
    have ih0 := caulkref39_Pack.mono_l k
    · intro y0 y1 y2 y3
      unfold caulkref39_Pack.l0
      repeat' first
      | (with_reducible exact ih0 _ _ _ _)
      | (with_reducible exact LeO.refl _)
      | (with_reducible exact LeO.none _)
      | (with_reducible refine LeO.ite ?_ ?_)
      | (with_reducible refine LeO.bind ?_ (fun _ => ?_))
      | exact ih0 _ _ _ _
      | exact LeO.none _
      | refine LeO.ite ?_ ?_
      | refine LeO.bind ?_ (fun _ => ?_)
theorem caulkref39_Pack.mono : ∀ a0 k, LeO (caulkref39_Pack.f k a0) (caulkref39_Pack.f (k + 1) a0) := by
  intro a0 k
  have ih0 := caulkref39_Pack.mono_l k
  unfold caulkref39_Pack.f
  repeat' first
      | (with_reducible exact ih0 _ _ _ _)
      | (with_reducible exact LeO.refl _)
      | (with_reducible exact LeO.none _)
      | (with_reducible refine LeO.ite ?_ ?_)
      | (with_reducible refine LeO.bind ?_ (fun _ => ?_))
      | exact ih0 _ _ _ _
      | exact LeO.none _
      | refine LeO.ite ?_ ?_
      | refine LeO.bind ?_ (fun _ => ?_)
def caulkref39_Pack.T8 : Bool × List (List Nat × List Nat) := (true, [([], []), ([], []), ([1], [1]), ([0, 2], [0, 2]), ([3], [3]), ([], []), ([5], [5]), ([6], [6]), ([4, 7], [4, 7]), ([0, 2, 0, 1, 2, 3, 4, 5, 6, 7, 8], [0, 2]), ([9, 8, 0, 1, 2, 3, 4, 5, 6, 7, 8], [8, 9])])
def caulkref39_Pack.B8 : List Nat := [0, 0, 2, 7, 15, 0, 32, 96, 255, 511, 1023]
theorem caulkref39_Pack.tab8 : rtab .any (opsOf Try.f48 8) = caulkref39_Pack.T8 := by kernel_rfl
theorem caulkref39_Pack.bits8 : waitsOk caulkref39_Pack.T8.2 caulkref39_Pack.B8 = true := by kernel_rfl
set_option maxHeartbeats 8000000 in
set_option maxRecDepth 100000 in
theorem caulkref39_Pack.calls (k : Nat) (A0 : Option Addr) (c0 : Nat) (l0 : List Bool) (r1 : ByteArray) (r2 : Int) (w : World) (hr0 : Kd.C Kd.bool w A0 l0.length l0) (hc0 : l0.length ≤ c0) (h : caulkref39_Pack.f k l0 = some (r1, r2)) :
    Calls Try.prog 48 #[.slice A0 l0.length c0] w fun e w' => e = .returned (.tuple #[.string r1, .int .i64 r2]) ∧ Below w.heap.size w w' := by
  have HR0 := Aside0.mk hr0
  have HC0 := Aside0.mk hc0
  clear hr0 hc0
  have HB := Aside0.mk (Below.refl w.heap.size w)
  have H : (if (l0.length : Int) > 4096 then (some ((⟨#[]⟩ : ByteArray), 7)) else (if 0 ≤ (wrap64 (Int.tdiv (wrap64 ((l0.length : Int) + 7)) 8)) then (if (wrap64 (Int.tdiv (wrap64 ((l0.length : Int) + 7)) 8) : Int).toNat ≤ 281474976710656 then (caulkref39_Pack.l0 k (List.replicate (wrap64 (Int.tdiv (wrap64 ((l0.length : Int) + 7)) 8) : Int).toNat 0) l0 (l0.length : Int) 0) else (none)) else (none))) = some (r1, r2) := h
  clear h
  by_cases c2 : (l0.length : Int) > 4096
  · rw [if_pos c2] at H
    have c2b0 : decide (4096 < (l0.length : Int)) = true := decide_eq_true c2
    have c2b1 : decide (4096 < l0.length) = true := decide_eq_true (by omega)
    clear c2
    simp only [Option.some.injEq, Prod.mk.injEq] at H
    obtain ⟨rfl, rfl⟩ := H
    go_enter Try.func48, Try.ntmps48
    go_wp2
    go_ret2
    exact ⟨by first | rfl | (simp [errW_none, errW_some] <;> rfl) | (simp [*, errW_none, errW_some] <;> rfl), by repeat (first | (with_reducible first | exact HB.out | apply below_alloc | apply pw_below_drewN | apply below_drew1) | exact HB.out)⟩
  · rw [if_neg c2] at H
    have c2b0 : decide (4096 < (l0.length : Int)) = false := decide_eq_false c2
    have c2b1 : decide (4096 < l0.length) = false := decide_eq_false (by omega)
    clear c2
    obtain ⟨ji3, hji3⟩ : ∃ j_ : Int, (wrap64 (Int.tdiv (wrap64 ((l0.length : Int) + 7)) 8)) = j_ := ⟨_, rfl⟩
    replace H : (if 0 ≤ (ji3) then (if (ji3 : Int).toNat ≤ 281474976710656 then (caulkref39_Pack.l0 k (List.replicate (ji3 : Int).toNat 0) l0 (l0.length : Int) 0) else (none)) else (none)) = some (r1, r2) := by first | (rw [hji3] at H; exact H) | (simp only [hji3] at H ⊢; exact H)
    have hji3w : (IntKind.i64.wrap (Int.tdiv (wrap64 ((l0.length : Int) + 7)) 8)) = ji3 := (i64_w _).trans hji3
    by_cases c4 : 0 ≤ (ji3)
    · rw [if_pos c4] at H
      have c4b0 := eq_true c4
      have c4b1 : decide (0 ≤ (ji3)) = true := decide_eq_true c4
      clear c4
      by_cases c5 : (ji3 : Int).toNat ≤ 281474976710656
      · rw [if_pos c5] at H
        have c5b0 := eq_true c5
        have c5b1 : decide ((ji3 : Int).toNat ≤ 281474976710656) = true := decide_eq_true c5
        clear c5
        obtain ⟨y3221, hy3221⟩ : ∃ y_ : List Int, y_ = (List.replicate (ji3 : Int).toNat 0) := ⟨_, rfl⟩
        replace H : (caulkref39_Pack.l0 k y3221 l0 (l0.length : Int) 0) = some (r1, r2) := by first | (rw [hy3221]; with_reducible exact H) | (have H2_ := (Option.bind_some _ _).symm.trans H; rw [hy3221]; with_reducible exact H2_) | (have H2_ := (Option.bind_some _ _).symm.trans H; with_reducible exact H2_) | with_reducible exact H | (rw [hy3221]; exact H) | exact H
        have Ny3221 := Aside0.mk hy3221
        clear hy3221
        have H' := Aside0.mk H
        clear H
        go_enter Try.func48, Try.ntmps48
        go_wp2_with (first | ((with_reducible refine HOpen.gate_append ?_); simp only [List.cons_append, List.nil_append]) | ((with_reducible refine gate_dst (N := 14) rfl ?_); refine Kd.R_make (Kd.int .u8) _ 5 rfl (N := 14) rfl 119 _ _ rfl ji3 rfl rfl Try.underlying119 (.int .u8 0) 1 info5 rfl (by decide) (by omega) 0 (ok := fun _ => True) (okp := fun _ => True) rfl (fun _ hk => hk) trivial (of_decide_eq_true (by first | (with_reducible assumption) | assumption)) (Nat.le_trans (Nat.mul_le_mul_right _ (of_decide_eq_true (by first | (with_reducible assumption) | assumption) : ji3.toNat ≤ 281474976710656)) (by omega)) (Below.refl _ _) (Nat.le_refl _) ?_; intro v3222 w6 ho7 hb hg_ hnew_; clear hg_ hnew_; (first | rw [← Ny3221.out] at ho7 | (simp only [Int.reduceToNat] at ho7; rw [← Ny3221.out] at ho7)); have n0_ := Aside0.mk (Kd.R_lower ho7 (below_size (by repeat (first | (with_reducible first | exact HB.out | apply below_alloc | apply pw_below_drewN | apply below_drew1) | exact HB.out)))); have n1_ := Aside0.mk (below_step (by repeat (first | (with_reducible first | exact HB.out | apply below_alloc | apply pw_below_drewN | apply below_drew1) | exact HB.out)) hb); clear HB; have HO3223 := n0_; have HB := n1_; clear n0_ n1_; clear hb ho7))
        go_loopg [17] k (fun kq v17 w' => ∃ (x4_1 : List Int) (x17_1 : Int), v17 = .int .i64 x17_1 ∧ Aside0 (caulkref39_Pack.l0 kq x4_1 l0 (l0.length : Int) x17_1 = some (r1, r2)) ∧ Aside0 (kq ≤ k) ∧ Aside0 (Kd.R (Kd.int .u8) 5 w' w.heap.size (fun _ => True) v3222 x4_1) ∧ Aside0 (Below w.heap.size w w'))
        case atStart => exact ⟨(y3221), (0), (by first | rfl | (simp; done) | (simp [*]; done)), H', ⟨Nat.le_refl _⟩, ⟨by (with_reducible repeat (first | apply Kd.R_alloc | apply Kd.R_drewN | apply Kd.R_drew)); exact HO3223.out⟩, ⟨by repeat (first | (with_reducible first | exact HB.out | apply below_alloc | apply pw_below_drewN | apply below_drew1) | exact HB.out)⟩⟩
        case round =>
          clear H'
          try clear c2
          try clear c2b0
          try clear c2b1
          try clear p2
          try clear c4
          try clear c4b0
          try clear c4b1
          try clear c5
          try clear c5b0
          try clear c5b1
          try clear p6
          obtain ⟨x4_1, x17_1, rfl, HA, HK1, HO_4, HB⟩ := hrel
          cases gk with
          | zero => exact absurd HA.out (by simp [caulkref39_Pack.l0])
          | succ k1 =>
            have H := HA.out
            clear HA
            simp only [caulkref39_Pack.l0] at H
            by_cases c8 : x17_1 < (l0.length : Int)
            · rw [if_pos c8] at H
              have c8b0 : decide (x17_1 < (l0.length : Int)) = true := decide_eq_true c8
              clear c8
              by_cases c9 : 0 ≤ x17_1
              · rw [if_pos c9] at H
                have c9b0 : decide (0 ≤ x17_1) = true := decide_eq_true c9
                clear c9
                by_cases c10 : x17_1 < (l0.length : Int)
                · rw [if_pos c10] at H
                  have c10b0 : decide (x17_1 < (l0.length : Int)) = true := decide_eq_true c10
                  clear c10
                  obtain ⟨bq11, hbq11⟩ : ∃ b_ : Bool, b_ = (rdOf false l0 x17_1) := ⟨_, rfl⟩
                  replace H : (if bq11 = true then (if 0 ≤ (wrap64 (Int.tdiv x17_1 8)) then (if (wrap64 (Int.tdiv x17_1 8)) < (x4_1.length : Int) then (if 0 ≤ (Int.tmod x17_1 8) then (caulkref39_Pack.l0 k1 (x4_1.set ((wrap64 (Int.tdiv x17_1 8)) : Int).toNat (Go.bits .or .u8 (rd x4_1 (wrap64 (Int.tdiv x17_1 8))) (shl .u8 1 (Int.tmod x17_1 8)))) l0 (l0.length : Int) (wrap64 (x17_1 + 1))) else (none)) else (none)) else (none)) else (caulkref39_Pack.l0 k1 x4_1 l0 (l0.length : Int) (wrap64 (x17_1 + 1)))) = some (r1, r2) := by rw [← hbq11] at H; exact H
                  have Nbq11 := Aside0.mk hbq11
                  clear hbq11
                  by_cases c12 : bq11 = true
                  · subst c12
                    have H1 : (if 0 ≤ (wrap64 (Int.tdiv x17_1 8)) then (if (wrap64 (Int.tdiv x17_1 8)) < (x4_1.length : Int) then (if 0 ≤ (Int.tmod x17_1 8) then (caulkref39_Pack.l0 k1 (x4_1.set ((wrap64 (Int.tdiv x17_1 8)) : Int).toNat (Go.bits .or .u8 (rd x4_1 (wrap64 (Int.tdiv x17_1 8))) (shl .u8 1 (Int.tmod x17_1 8)))) l0 (l0.length : Int) (wrap64 (x17_1 + 1))) else (none)) else (none)) else (none)) = some (r1, r2) := by rw [if_pos rfl] at H; exact H
                    clear H
                    have H := H1
                    clear H1
                    obtain ⟨ji13, hji13⟩ : ∃ j_ : Int, (wrap64 (Int.tdiv x17_1 8)) = j_ := ⟨_, rfl⟩
                    replace H : (if 0 ≤ (ji13) then (if (ji13) < (x4_1.length : Int) then (if 0 ≤ (Int.tmod x17_1 8) then (caulkref39_Pack.l0 k1 (x4_1.set ((ji13) : Int).toNat (Go.bits .or .u8 (rd x4_1 (ji13)) (shl .u8 1 (Int.tmod x17_1 8)))) l0 (l0.length : Int) (wrap64 (x17_1 + 1))) else (none)) else (none)) else (none)) = some (r1, r2) := by first | (rw [hji13] at H; exact H) | (simp only [hji13] at H ⊢; exact H)
                    have hji13w : (IntKind.i64.wrap (Int.tdiv x17_1 8)) = ji13 := (i64_w _).trans hji13
                    by_cases c14 : 0 ≤ (ji13)
                    · rw [if_pos c14] at H
                      have c14b0 : decide (0 ≤ (ji13)) = true := decide_eq_true c14
                      clear c14
                      by_cases c15 : (ji13) < (x4_1.length : Int)
                      · rw [if_pos c15] at H
                        have c15b0 : decide ((ji13) < (x4_1.length : Int)) = true := decide_eq_true c15
                        clear c15
                        obtain ⟨ji16, hji16⟩ : ∃ j_ : Int, (Int.tmod x17_1 8) = j_ := ⟨_, rfl⟩
                        replace H : (if 0 ≤ (ji16) then (caulkref39_Pack.l0 k1 (x4_1.set ((ji13) : Int).toNat (Go.bits .or .u8 (rd x4_1 (ji13)) (shl .u8 1 (ji16)))) l0 (l0.length : Int) (wrap64 (x17_1 + 1))) else (none)) = some (r1, r2) := by first | (rw [hji16] at H; exact H) | (simp only [hji16] at H ⊢; exact H)
                        by_cases c17 : 0 ≤ (ji16)
                        · rw [if_pos c17] at H
                          have c17b0 := eq_true c17
                          have c17b1 : decide (0 ≤ (ji16)) = true := decide_eq_true c17
                          clear c17
                          obtain ⟨ji18, hji18⟩ : ∃ j_ : Int, (shl .u8 1 (ji16)) = j_ := ⟨_, rfl⟩
                          replace H : (caulkref39_Pack.l0 k1 (x4_1.set ((ji13) : Int).toNat (Go.bits .or .u8 (rd x4_1 (ji13)) (ji18))) l0 (l0.length : Int) (wrap64 (x17_1 + 1))) = some (r1, r2) := by first | (rw [hji18] at H; exact H) | (simp only [hji18] at H ⊢; exact H)
                          have hji18_ : (IntKind.u8.wrap (1 * 2 ^ min (ji16).toNat 8)) = ji18 := hji18
                          have hji18z : (ji16) ≤ 8 → (IntKind.u8.wrap (1 * 2 ^ (ji16).toNat)) = ji18 := shl_small hji18
                          have hji18u : (IntKind.u8.wrap (2 ^ min (ji16).toNat 8)) = ji18 := by have h_ := hji18_; rw [Int.one_mul] at h_; exact h_
                          have hji18v : (ji16) ≤ 8 → (IntKind.u8.wrap (2 ^ (ji16).toNat)) = ji18 := fun hle_ => by have h_ := hji18z hle_; rw [Int.one_mul] at h_; exact h_
                          obtain ⟨y3226, hy3226⟩ : ∃ y_ : List Int, y_ = (x4_1.set ((ji13) : Int).toNat (Go.bits .or .u8 (rd x4_1 (ji13)) (ji18))) := ⟨_, rfl⟩
                          replace H : (caulkref39_Pack.l0 k1 y3226 l0 (l0.length : Int) (wrap64 (x17_1 + 1))) = some (r1, r2) := by first | (rw [hy3226]; with_reducible exact H) | (have H2_ := (Option.bind_some _ _).symm.trans H; rw [hy3226]; with_reducible exact H2_) | (have H2_ := (Option.bind_some _ _).symm.trans H; with_reducible exact H2_) | with_reducible exact H | (rw [hy3226]; exact H) | exact H
                          have Ny3226 := Aside0.mk hy3226
                          clear hy3226
                          have H' := Aside0.mk H
                          clear H
                          have p3224 : 0 ≤ (x17_1 : Int) := of_decide_eq_true (by first | (with_reducible assumption) | assumption)
                          have q3224 : x17_1 < (l0.length : Int) := of_decide_eq_true (by first | (with_reducible assumption) | assumption)
                          obtain ⟨ad3224, e3224, hx3224_0⟩ := Kd.at_bool HR0.out x17_1 p3224 q3224
                          (try rw [← Nbq11.out] at hx3224_0)
                          cases e3224
                          replace hx3224_0 := (HB.out.cell (World.block_lt_of_cell? w _ hx3224_0)).trans hx3224_0
                          replace p3224 := eq_true p3224
                          replace q3224 := eq_true q3224
                          try go_wp2
                          have n0_ := Aside0.mk (Kd.R_drew HO_4.out)
                          have n1_ := Aside0.mk (below_drew1 HB.out)
                          clear HO_4
                          clear HB
                          have HO_4 := n0_
                          have HB := n1_
                          clear n0_ n1_
                          obtain ⟨Ao21, co21, eo21⟩ := Kd.R_slice HO_4.out
                          (first | subst eo21 | (injection eo21 with f1_ f2_ f3_; have f4_ := f1_.symm; have f5_ := f3_.symm; clear f1_ f2_ f3_; subst f4_; subst f5_))
                          have p3225 : 0 ≤ ((ji13) : Int) := of_decide_eq_true (by first | (with_reducible assumption) | assumption)
                          have q3225 : (ji13) < (x4_1.length : Int) := of_decide_eq_true (by first | (with_reducible assumption) | assumption)
                          obtain ⟨ad3225, e3225, hx3225_0⟩ := Kd.at_int (Kd.R_reads' HO_4.out).2.2 (ji13) p3225 q3225
                          cases e3225
                          replace p3225 := eq_true p3225
                          replace q3225 := eq_true q3225
                          have p19 : 0 ≤ ((ji13) : Int) := of_decide_eq_true (by first | (with_reducible assumption) | assumption)
                          have q19 : ((ji13) : Int) < ((x4_1.length : Int) : Int) := of_decide_eq_true (by first | (with_reducible assumption) | assumption)
                          obtain ⟨go19, co19, eo19, gb19, gl19, cl19, HG19⟩ := Kd.R_form HO_4.out (by omega)
                          (first | cases eo19 | (injection eo19 with ea_ en_ ec_; (first | subst ea_ | (injection ea_ with ea_; subst ea_)); subst ec_; clear en_))
                          have GB19 := Aside0.mk gb19
                          have GG19 := Aside0.mk HG19
                          clear gb19 gl19 HG19
                          (first | simp only [add_plain] at hx3225_0 | skip)
                          obtain ⟨hx19_0, hf19_0⟩ := Kd.R_celln 0 HO_4.out ((ji13) : Int) p19 q19
                          replace p19 := eq_true p19
                          replace q19 := eq_true q19
                          have HP22 := Kd.R_putn HO_4.out ((ji13) : Int) (Go.bits .or .u8 (rd x4_1 (ji13)) (ji18))
                          rw [← Ny3226.out] at HP22
                          have HQ22 := Aside0.mk HP22
                          clear HP22
                          refine start_ (n := 11) (S := fun w' => w'.cell? ⟨go19, ((ji13)).toNat, none⟩ = some (.int .u8 (rd x4_1 (ji13)))) (ds := [10]) #[false, false, false, false, false, false, false, false, false, false, false] (by kernel_rfl) rfl rfl (hx3225_0) (fun hHeld => ?_); refine with_tabW caulkref39_Pack.tab8 caulkref39_Pack.bits8 (fun HT_ HW_ => ?_)
                          generalize wr.drew = w20 at HO_4 HB GG19 HQ22 hf19_0 hx19_0 hx3225_0 hHeld ⊢
                          refine pure_ (i := 0) (N := some 23) (v := ?_) (a' := ?_) #[true, false, false, false, false, false, false, false, false, false, false] rfl rfl (any_of HT_.out (by kernel_rfl)) (fun _ _ _ h => h) (Or.inl ⟨by rfl, ?_⟩) ?_ ?_
                          rotate_left
                          · intro w'
                            go_simp
                            with_reducible rfl
                          rotate_left
                          · simp only [Act.put, List.setIfInBounds_toArray, List.set_cons_zero, List.set_cons_succ, i64_w, i32_w]
                            rfl
                          refine pure_ (i := 1) (N := some 24) (v := ?_) (a' := ?_) #[true, true, false, false, false, false, false, false, false, false, false] rfl rfl (any_of HT_.out (by kernel_rfl)) (fun _ _ _ h => h) (Or.inl ⟨by rfl, ?_⟩) ?_ ?_
                          rotate_left
                          · intro w'
                            go_simp
                            with_reducible rfl
                          rotate_left
                          · simp only [Act.put, List.setIfInBounds_toArray, List.set_cons_zero, List.set_cons_succ, i64_w, i32_w]
                            rfl
                          refine pure_ (i := 2) (N := some 25) (v := ?_) (a' := ?_) #[true, true, true, false, false, false, false, false, false, false, false] rfl rfl (any_of HT_.out (by kernel_rfl)) (fun _ _ _ h => h) (Or.inl ⟨by rfl, ?_⟩) ?_ ?_
                          rotate_left
                          · intro w'
                            go_simp
                            with_reducible rfl
                          rotate_left
                          · simp only [Act.put, List.setIfInBounds_toArray, List.set_cons_zero, List.set_cons_succ, i64_w, i32_w]
                            rfl
                          refine pure_ (i := 3) (N := some 26) (v := ?_) (a' := ?_) #[true, true, true, true, false, false, false, false, false, false, false] rfl rfl (any_of HT_.out (by kernel_rfl)) (fun _ _ _ h => h) (Or.inl ⟨by rfl, ?_⟩) ?_ ?_
                          rotate_left
                          · intro w'
                            go_simp
                            with_reducible rfl
                          rotate_left
                          · simp only [Act.put, List.setIfInBounds_toArray, List.set_cons_zero, List.set_cons_succ, i64_w, i32_w]
                            rfl
                          refine pure_ (i := 5) (N := some 28) (v := ?_) (a' := ?_) #[true, true, true, true, false, true, false, false, false, false, false] rfl rfl (any_of HT_.out (by kernel_rfl)) (fun _ _ _ h => h) (Or.inl ⟨by rfl, ?_⟩) ?_ ?_
                          rotate_left
                          · intro w'
                            go_simp
                            with_reducible rfl
                          rotate_left
                          · simp only [Act.put, List.setIfInBounds_toArray, List.set_cons_zero, List.set_cons_succ, i64_w, i32_w]
                            rfl
                          refine pure_ (i := 6) (N := some 29) (v := ?_) (a' := ?_) #[true, true, true, true, false, true, true, false, false, false, false] rfl rfl (any_of HT_.out (by kernel_rfl)) (fun _ _ _ h => h) (Or.inl ⟨by rfl, ?_⟩) ?_ ?_
                          rotate_left
                          · intro w'
                            go_simp
                            with_reducible rfl
                          rotate_left
                          · simp only [Act.put, List.setIfInBounds_toArray, List.set_cons_zero, List.set_cons_succ, i64_w, i32_w]
                            rfl
                          refine pure_ (i := 7) (N := some 30) (v := ?_) (a' := ?_) #[true, true, true, true, false, true, true, true, false, false, false] rfl rfl (any_of HT_.out (by kernel_rfl)) (fun _ _ _ h => h) (Or.inl ⟨by rfl, ?_⟩) ?_ ?_
                          rotate_left
                          · intro w'
                            go_simp
                            with_reducible rfl
                          rotate_left
                          · simp only [Act.put, List.setIfInBounds_toArray, List.set_cons_zero, List.set_cons_succ, i64_w, i32_w]
                            rfl
                          refine take_ (i := 4) (N := some 27) (v := ?_) (a' := ?_) #[true, true, true, true, true, true, true, true, false, false, false] rfl rfl (take_ofW HT_.out HW_.out (by kernel_rfl)) (fun _ _ _ h => h) (Or.inl ⟨by rfl, ?_⟩) hHeld ?_ ?_
                          rotate_left
                          · intro w' s0
                            go_simp
                            with_reducible rfl
                          rotate_left
                          · simp only [Act.put, List.setIfInBounds_toArray, List.set_cons_zero, List.set_cons_succ, i64_w, i32_w]
                            rfl
                          refine pure_ (i := 8) (N := some 31) (v := ?_) (a' := ?_) #[true, true, true, true, true, true, true, true, true, false, false] rfl rfl (any_of HT_.out (by kernel_rfl)) (fun _ _ _ h => h) (Or.inl ⟨by rfl, ?_⟩) ?_ ?_
                          rotate_left
                          · intro w'
                            go_simp
                            with_reducible rfl
                          rotate_left
                          · simp only [Act.put, List.setIfInBounds_toArray, List.set_cons_zero, List.set_cons_succ, i64_w, i32_w]
                            rfl
                          refine pure_ (i := 9) (N := some 32) (v := ?_) (a' := ?_) #[true, true, true, true, true, true, true, true, true, true, false] rfl rfl (any_of HT_.out (by kernel_rfl)) (fun _ _ _ h => h) (Or.inl ⟨by rfl, ?_⟩) ?_ ?_
                          rotate_left
                          · intro w'
                            go_simp
                            with_reducible rfl
                          rotate_left
                          · simp only [Act.put, List.setIfInBounds_toArray, List.set_cons_zero, List.set_cons_succ, i64_w, i32_w]
                            rfl
                          refine last_ (i := 10) (N := none) #[true, true, true, true, true, true, true, true, true, true, true] rfl rfl (one_of HT_.out (by kernel_rfl)) (by decide) (fun K hK => ?_)
                          refine skip_ (w1 := ?_) (by rfl) rfl ?_ ?_
                          rotate_left
                          · go_simp
                            rfl
                          refine hK.out _ _ ?_
                          clear hK K
                          refine done_ (done_of HT_.out (by kernel_rfl)) ?_
                          try go_wp2
                          go_roundg k1
                          case measure => have := HK1.out; omega
                          case rel => exact ⟨(y3226), (wrap64 (x17_1 + 1)), (by first | rfl | (simp; done) | (simp [*]; done)), H', ⟨by have := HK1.out; omega⟩, ⟨by (with_reducible repeat (first | apply Kd.R_alloc | apply Kd.R_drewN | apply Kd.R_drew)); exact HQ22.out⟩, ⟨by repeat (first | (with_reducible first | exact HB.out | apply below_alloc | apply pw_below_drewN | apply below_drew1 | refine below_set ?_ GB19.out) | exact HB.out)⟩⟩
                        · rw [if_neg c17] at H
                          exact absurd H (by simp)
                      · rw [if_neg c15] at H
                        exact absurd H (by simp)
                    · rw [if_neg c14] at H
                      exact absurd H (by simp)
                  · replace c12 := Bool.eq_false_iff.mpr c12
                    subst c12
                    have H1 : (caulkref39_Pack.l0 k1 x4_1 l0 (l0.length : Int) (wrap64 (x17_1 + 1))) = some (r1, r2) := by rw [if_neg (show ¬ (false = true) by decide)] at H; exact H
                    clear H
                    have H := H1
                    clear H1
                    have H' := Aside0.mk H
                    clear H
                    have p3224 : 0 ≤ (x17_1 : Int) := of_decide_eq_true (by first | (with_reducible assumption) | assumption)
                    have q3224 : x17_1 < (l0.length : Int) := of_decide_eq_true (by first | (with_reducible assumption) | assumption)
                    obtain ⟨ad3224, e3224, hx3224_0⟩ := Kd.at_bool HR0.out x17_1 p3224 q3224
                    (try rw [← Nbq11.out] at hx3224_0)
                    cases e3224
                    replace hx3224_0 := (HB.out.cell (World.block_lt_of_cell? w _ hx3224_0)).trans hx3224_0
                    replace p3224 := eq_true p3224
                    replace q3224 := eq_true q3224
                    go_wp2
                    go_roundg k1
                    case measure => have := HK1.out; omega
                    case rel => exact ⟨(x4_1), (wrap64 (x17_1 + 1)), (by first | rfl | (simp; done) | (simp [*]; done)), H', ⟨by have := HK1.out; omega⟩, ⟨by (with_reducible repeat (first | apply Kd.R_alloc | apply Kd.R_drewN | apply Kd.R_drew)); exact HO_4.out⟩, ⟨by repeat (first | (with_reducible first | exact HB.out | apply below_alloc | apply pw_below_drewN | apply below_drew1) | exact HB.out)⟩⟩
                · rw [if_neg c10] at H
                  exact absurd H (by simp)
              · rw [if_neg c9] at H
                exact absurd H (by simp)
            · rw [if_neg c8] at H
              have c8b0 : decide (x17_1 < (l0.length : Int)) = false := decide_eq_false c8
              clear c8
              simp only [Option.some.injEq, Prod.mk.injEq] at H
              obtain ⟨rfl, rfl⟩ := H
              have hcv23 := own_string (P := Try.prog) Try.underlying119 Try.underlying5 Try.underlying9 (Kd.own_of_R HO_4.out)
              go_wp2
              go_ret2
              exact ⟨by first | rfl | (simp [errW_none, errW_some] <;> rfl) | (simp only [← hji3]; first | rfl | (simp [errW_none, errW_some] <;> rfl)) | (simp [*, errW_none, errW_some] <;> rfl), by repeat (first | (with_reducible first | exact HB.out | apply below_alloc | apply pw_below_drewN | apply below_drew1) | exact HB.out)⟩
      · rw [if_neg c5] at H
        exact absurd H (by simp)
    · rw [if_neg c4] at H
      exact absurd H (by simp)

end Go.Proofs.Ytgahpdoiddhdaaa.HBitmap
