/- a text of this claim -/
import Derived.Test.YtmmfplogkikbjaaDoorGPBx0
import Derived.Test.YtmmfplogkikbjaaDoorGPBx4
import Derived.Test.YtmmfplogkikbjaaDoorGPBx9
import Derived.Test.YtmmfplogkikbjaaDoorGPBx12
import Derived.Test.YtmmfplogkikbjaaDoorGPBx13
import Derived.Test.YtmmfplogkikbjaaDoorGPBx14
namespace Go.Proofs.YtmmfplogkikbjaaDoor.HPB
open Go.RowKit Go.Proofs.YtmmfplogkikbjaaDoorW.PrintWords Go.Proofs.YtmmfplogkikbjaaDoorW.PrintLast Go.Proofs.YtmmfplogkikbjaaDoorW.PrintMore
attribute [local go_sem] max2_int min2_int max_two min_two max_three min_three max_four min_four
set_option linter.unusedVariables false
set_option linter.unusedSimpArgs false
section
open Go Go.Shelf Go.Maps Go.Proofs.YtmmfplogkikbjaaDoor.Seq Go.Proofs.YtmmfplogkikbjaaDoor.MapL Go.Proofs.YtmmfplogkikbjaaDoorW.PrintLast
attribute [local go_sem] Oper.semAt_some max2_int min2_int max_two min_two
attribute [local go_sem] max2_int min2_int max_two min_two max_three min_three max_four min_four
def slices_IndexFunc_int_int__pages_Build_1.l0 : Nat → List Int → Int → Int → Option (Int)
 | 0, _, _, _ => none
 | k + 1, x0, x7, x8 => if x8 < x7 then (if 0 ≤ x8 then (if x8 < (x0.length : Int) then ((pages_Build_1.f (rd x0 x8)).bind fun t153 => (if t153 = true then (some x8) else (slices_IndexFunc_int_int__pages_Build_1.l0 k x0 x7 (wrap64 (x8 + 1))))) else (none)) else (none)) else (some (-1))
def slices_IndexFunc_int_int__pages_Build_1.f (k : Nat) (l0 : List Int)  : Option (Int) := slices_IndexFunc_int_int__pages_Build_1.l0 k l0 (l0.length : Int) 0
set_option maxHeartbeats 8000000 in
set_option maxRecDepth 100000 in
theorem slices_IndexFunc_int_int__pages_Build_1.calls (k : Nat) (A0 : Option Addr) (c0 : Nat) (l0 : List Int)  (r : Int) (w : World) (hr0 : Kd.C (Kd.int .i64) w A0 l0.length l0) (hc0 : l0.length ≤ c0) (h : slices_IndexFunc_int_int__pages_Build_1.f k l0 = some r) :
  Calls Tryd.prog 116 #[.slice A0 l0.length c0, .func (.func 71) #[] #[]] w fun e w' => e = .returned (.int .i64 r) ∧ Drawn0 w w' := by
 have HR0 := Aside0.mk hr0
 have HC0 := Aside0.mk hc0
 clear hr0 hc0
 have H : (slices_IndexFunc_int_int__pages_Build_1.l0 k l0 (l0.length : Int) 0) = some r := h
 clear h
 have H' := Aside0.mk H
 clear H
 go_enter Tryd.func116, Tryd.ntmps116
 go_wp2
 go_loopg [8] k (fun kq v8 w' => ∃ (x8_1 : Int), v8 = .int .i64 x8_1 ∧ Aside0 (slices_IndexFunc_int_int__pages_Build_1.l0 kq l0 (l0.length : Int) x8_1 = some r) ∧ Aside0 (kq ≤ k) ∧ Drawn0 w w')
 case atStart => exact ⟨(0), (by first | rfl | (simp; done) | (simp [*]; done)), H', ⟨Nat.le_refl _⟩, by repeat (first | exact Drawn0.refl _ | apply Drawn0.step)⟩
 case round =>
  as_aux_lemma =>
   clear H'
   (try clear p2)
   obtain ⟨x8_1, rfl, HA, HK1, ⟨m1, rfl⟩⟩ := hrel
   cases gk with
   | zero => exact absurd HA.out (by simp [slices_IndexFunc_int_int__pages_Build_1.l0])
   | succ k1 =>
    have H := HA.out
    clear HA
    simp only [slices_IndexFunc_int_int__pages_Build_1.l0] at H
    by_cases c3 : x8_1 < (l0.length : Int)
    ·rw [if_pos c3] at H
     have c3b0 : decide (x8_1 < (l0.length : Int)) = true := decide_eq_true c3
     clear c3
     by_cases c4 : 0 ≤ x8_1
     ·rw [if_pos c4] at H
      have c4b0 : decide (0 ≤ x8_1) = true := decide_eq_true c4
      clear c4
      by_cases c5 : x8_1 < (l0.length : Int)
      ·rw [if_pos c5] at H
       have c5b0 : decide (x8_1 < (l0.length : Int)) = true := decide_eq_true c5
       clear c5
       replace H := Option.bind_eq_some_iff.mp H
       obtain ⟨t153, A60, H⟩ := H
       replace H : (if t153 = true then (some x8_1) else (slices_IndexFunc_int_int__pages_Build_1.l0 k1 l0 (l0.length : Int) (wrap64 (x8_1 + 1)))) = some r := H
       have A6 := Aside0.mk A60
       clear A60
       by_cases c7 : t153 = true
       ·subst c7
        have H1 : (some x8_1) = some r := by rw [if_pos rfl] at H; exact H
        clear H
        have H := H1
        clear H1
        obtain rfl := Option.some.inj H
        have p152 : 0 ≤ (x8_1 : Int) := of_decide_eq_true (by first | (with_reducible assumption) | assumption)
        have q152 : x8_1 < (l0.length : Int) := of_decide_eq_true (by first | (with_reducible assumption) | assumption)
        obtain ⟨ad152, e152, hx152_0⟩ := Kd.at_int HR0.out x8_1 p152 q152
        cases e152
        replace p152 := eq_true p152
        replace q152 := eq_true q152
        go_wp2_with (first | ((with_reducible refine HOpen.gate_append ?_); simp only [List.cons_append, List.nil_append]) | ((with_reducible refine HOpen.gate_append ?_); simp only [List.cons_append, List.nil_append]) | ((with_reducible refine HOpen.gate_calleev (t := 11) rfl ?_); refine HOpen.goesLv_ (some 16) rfl rfl Tryd.func71 (by kernel_rfl) rfl #[.int .i64 (rd l0 x8_1)] rfl rfl (by (try simp only [List.map_toArray, List.map_cons, List.map_nil]); first | done | rfl | (simp only [List.length_drop, List.length_take]; rfl)) ?_; (with_reducible refine (pages_Build_1.calls (rd l0 x8_1) true _ A6.out).mono ?_); rintro e w' ⟨rfl, ⟨nd, rfl⟩⟩; refine ⟨_, rfl, ?_⟩))
        go_ret
        exact ⟨by first | rfl | (simp; done) | (simp [*]; done), by repeat (first | exact Drawn0.refl _ | apply Drawn0.step)⟩
       ·replace c7 := Bool.eq_false_iff.mpr c7
        subst c7
        have H1 : (slices_IndexFunc_int_int__pages_Build_1.l0 k1 l0 (l0.length : Int) (wrap64 (x8_1 + 1))) = some r := by rw [if_neg (show ¬ (false = true) by decide)] at H; exact H
        clear H
        have H := H1
        clear H1
        have H' := Aside0.mk H
        clear H
        have p152 : 0 ≤ (x8_1 : Int) := of_decide_eq_true (by first | (with_reducible assumption) | assumption)
        have q152 : x8_1 < (l0.length : Int) := of_decide_eq_true (by first | (with_reducible assumption) | assumption)
        obtain ⟨ad152, e152, hx152_0⟩ := Kd.at_int HR0.out x8_1 p152 q152
        cases e152
        replace p152 := eq_true p152
        replace q152 := eq_true q152
        go_wp2_with (first | ((with_reducible refine HOpen.gate_append ?_); simp only [List.cons_append, List.nil_append]) | ((with_reducible refine HOpen.gate_append ?_); simp only [List.cons_append, List.nil_append]) | ((with_reducible refine HOpen.gate_calleev (t := 11) rfl ?_); refine HOpen.goesLv_ (some 16) rfl rfl Tryd.func71 (by kernel_rfl) rfl #[.int .i64 (rd l0 x8_1)] rfl rfl (by (try simp only [List.map_toArray, List.map_cons, List.map_nil]); first | done | rfl | (simp only [List.length_drop, List.length_take]; rfl)) ?_; (with_reducible refine (pages_Build_1.calls (rd l0 x8_1) false _ A6.out).mono ?_); rintro e w' ⟨rfl, ⟨nd, rfl⟩⟩; refine ⟨_, rfl, ?_⟩))
        go_roundg k1
        case measure => have := HK1.out; omega
        case rel => exact ⟨(wrap64 (x8_1 + 1)), (by first | rfl | (simp; done) | (simp [*]; done)), H', ⟨by have := HK1.out; omega⟩, by repeat (first | exact Drawn0.refl _ | apply Drawn0.step)⟩
      ·rw [if_neg c5] at H
       exact absurd H (by simp)
     ·rw [if_neg c4] at H
      exact absurd H (by simp)
    ·rw [if_neg c3] at H
     have c3b0 : decide (x8_1 < (l0.length : Int)) = false := decide_eq_false c3
     clear c3
     obtain rfl := Option.some.inj H
     go_wp2
     go_ret
     exact ⟨by first | rfl | (simp; done) | (simp [*]; done), by repeat (first | exact Drawn0.refl _ | apply Drawn0.step)⟩
attribute [local go_sem] max2_int min2_int max_two min_two max_three min_three max_four min_four
def slices_ContainsFunc_int_int__pages_Build_1.f (k : Nat) (l0 : List Int)  : Option (Bool) := (slices_IndexFunc_int_int__pages_Build_1.f k l0).bind fun t1154 => (some (decide (t1154 ≥ 0)))
set_option maxHeartbeats 8000000 in
set_option maxRecDepth 100000 in
theorem slices_ContainsFunc_int_int__pages_Build_1.calls (k : Nat) (A0 : Option Addr) (c0 : Nat) (l0 : List Int)  (r : Bool) (w : World) (hr0 : Kd.C (Kd.int .i64) w A0 l0.length l0) (hc0 : l0.length ≤ c0) (h : slices_ContainsFunc_int_int__pages_Build_1.f k l0 = some r) :
  Calls Tryd.prog 70 #[.slice A0 l0.length c0, .func (.func 71) #[] #[]] w fun e w' => e = .returned (.bool r) ∧ Drawn0 w w' := by
 have HR0 := Aside0.mk hr0
 have HC0 := Aside0.mk hc0
 clear hr0 hc0
 have H : ((slices_IndexFunc_int_int__pages_Build_1.f k l0).bind fun t1154 => (some (decide (t1154 ≥ 0)))) = some r := h
 clear h
 replace H := Option.bind_eq_some_iff.mp H
 obtain ⟨t1154, A30, H⟩ := H
 replace H : (some (decide (t1154 ≥ 0))) = some r := H
 have A3 := Aside0.mk A30
 clear A30
 obtain rfl := Option.some.inj H
 go_enter Tryd.func70, Tryd.ntmps70
 go_wp2_with (first | ((with_reducible refine HOpen.gate_append ?_); simp only [List.cons_append, List.nil_append]) | ((with_reducible refine HOpen.gate_append ?_); simp only [List.cons_append, List.nil_append]) | ((with_reducible refine gate_callee (f := 116) rfl ?_); refine goesL_ (some 7) rfl rfl Tryd.func116 (by kernel_rfl) rfl #[.slice A0 l0.length c0, .func (.func 71) #[] #[]] rfl (by (try simp only [List.map_toArray, List.map_cons, List.map_nil]); first | done | rfl | (simp only [List.length_drop, List.length_take]; rfl)) ?_; (with_reducible refine (slices_IndexFunc_int_int__pages_Build_1.calls k _ _ l0  t1154 _ ?side1 ?side2 A3.out).mono ?_); (case side1 => repeat (first | exact HR0.out | (with_reducible refine Kd.C_alloc ?_ _) | (with_reducible refine Kd.C_drewN ?_ _) | (with_reducible refine Kd.C_drew ?_))); (case side2 => exact HC0.out); rintro e w' ⟨rfl, ⟨nd, rfl⟩⟩; refine ⟨_, rfl, ?_⟩))
 go_ret
 exact ⟨by first | rfl | (simp; done) | (simp [*]; done), by repeat (first | exact Drawn0.refl _ | apply Drawn0.step)⟩
def cutN (Z z : Nat) : Nat → ByteArray → List ByteArray
 | 0, s => [fillG Z s]
 | q + 1, s => if s.size ≤ z then [fillG Z s] else fillG Z (s.extract 0 z) :: cutN Z z q (s.extract z s.size)
def cutS (Z z : Nat) (s : ByteArray) : List ByteArray := cutN Z z s.size s
theorem cutN_enough {Z z : Nat} (hz : 1 ≤ z) : ∀ (q p : Nat) (s : ByteArray), s.size ≤ q → s.size ≤ p → cutN Z z q s = cutN Z z p s
 | 0, 0, s, _, _ => rfl
 | 0, p + 1, s, h, _ => by
  rw [cutN, cutN, if_pos (by omega)]
 | q + 1, 0, s, _, h => by
  rw [cutN, cutN, if_pos (by omega)]
 | q + 1, p + 1, s, h, h2 => by
  rw [cutN, cutN]
  split
  ·rfl
  ·rw [cutN_enough hz q p (s.extract z s.size) (by rw [ByteArray.size_extract]; omega) (by rw [ByteArray.size_extract]; omega)]
theorem cutS_last {Z z : Nat} {s : ByteArray} (h : s.size ≤ z) : cutS Z z s = [fillG Z s] := by
 unfold cutS
 rcases s.size.eq_zero_or_pos with e | e
 ·rw [e]; rfl
 ·obtain ⟨q, hq⟩ : ∃ q, s.size = q + 1 := ⟨s.size - 1, by omega⟩
  rw [hq, cutN, if_pos h]
theorem cutS_more {Z z : Nat} (hz : 1 ≤ z) {s : ByteArray} (h : z < s.size) : cutS Z z s = fillG Z (s.extract 0 z) :: cutS Z z (s.extract z s.size) := by
 have h2 : (s.extract z s.size).size = s.size - z := by rw [ByteArray.size_extract]; omega
 obtain ⟨q, hq⟩ : ∃ q, s.size = q + 1 := ⟨s.size - 1, by omega⟩
 unfold cutS
 rw [h2]
 conv => lhs; rw [hq]
 rw [cutN, if_neg (by omega), cutN_enough hz q (s.size - z) (s.extract z s.size) (by omega) (by omega)]
def strLen : Value → Nat
 | .string s => s.size
 | _ => 0
set_option maxRecDepth 100000 in
set_option maxHeartbeats 8000000 in
theorem tree_cut_any (w : World) (T : Nat) (v1 v2 : Value) (sh gk gm gc : Int) (hg : GeoOk sh gk gm gc) (hT : w.heap[T]? = some (.cells #[.int .i64 sh, .int .i64 gk, .int .i64 gm, .int .i64 gc, v1, v2] 126 (0, 0))) (s : ByteArray) (z : Nat) (hz1 : 1 ≤ z) (hz2 : z ≤ 512 * nS sh) (hs : s.size ≤ 1000000000) :
  Calls Tryd.prog 72 #[.pointer (some ⟨T, 0, none⟩), .string s, .int .i64 z] w fun e w' => ∃ v, e = .returned v ∧ Kd.R Kd.string 9 w' w.heap.size (fun _ => True) v (cutS (512 * nS sh) z s) ∧ Below w.heap.size w w' := by
 have hu126 := Tryd.underlying126
 have hu23 := Tryd.underlying23
 obtain ⟨R, hR⟩ : ∃ R, R = cutS (512 * nS sh) z s := ⟨_, rfl⟩
 rw [← hR]
 go_enter Tryd.func72, Tryd.ntmps72
 go_wp2
 go_loopw [1, 7] (fun t1 t7 wr => ∃ (r : ByteArray) (pre : List ByteArray) (v7 : Value), v7 = t7 ∧ t1 = .string r ∧ R = pre ++ cutS (512 * nS sh) z r ∧ pre.length + r.size ≤ s.size ∧ Kd.R Kd.string 9 wr w.heap.size (fun _ => True) t7 pre ∧ Below w.heap.size w wr) (fun t1 t7 _ => strLen t1)
 case atStart => exact ⟨s, [], _, rfl, rfl, hR, by simp, Kd.R_nil _ _ _ _ _, Below.refl _ _⟩
 case round =>
  as_aux_lemma =>
   obtain ⟨r, pre, v7, rfl, rfl, hRr, hlen, hR3, hB3⟩ := hrel
   have hTr := Stepb hB3 hT
   obtain ⟨t0, t1, t2, t3⟩ : wr.cell? ⟨T, 0, none⟩ = some (.int .i64 sh) ∧ wr.cell? ⟨T, 1, none⟩ = some (.int .i64 gk) ∧ wr.cell? ⟨T, 2, none⟩ = some (.int .i64 gm) ∧ wr.cell? ⟨T, 3, none⟩ = some (.int .i64 gc) := ⟨by rw [Lib.cell_of_heap hTr]; rfl, by rw [Lib.cell_of_heap hTr]; rfl, by rw [Lib.cell_of_heap hTr]; rfl, by rw [Lib.cell_of_heap hTr]; rfl⟩
   obtain ⟨m, hm, hm2⟩ : ∃ m : Nat, (if r.size < z then (r.size : Int) else (z : Int)) = (m : Int) ∧ ((r.size ≤ z ∧ m = r.size) ∨ (z < r.size ∧ m = z)) := by
    by_cases hc : r.size ≤ z
    ·refine ⟨r.size, ?_, Or.inl ⟨hc, rfl⟩⟩
     by_cases he : r.size < z
     ·rw [if_pos (by omega)]
     ·rw [if_neg (by omega)]; omega
    ·exact ⟨z, if_neg (by omega), Or.inr ⟨by omega, rfl⟩⟩
   have hmr : m ≤ r.size ∧ m ≤ z := by omega
   have hsl : ∀ W : World, (Instr.slice 9 (.string r) none (some (.int .i64 (m : Int))) none).run Tryd.prog W = .ok (.string (r.extract 0 m)) W := fun W => by
    have := slice_hi W r (m : Int) (by omega) (by omega)
    rwa [Int.toNat_natCast] at this
   have hFl : ∀ W, Calls Tryd.prog 117 #[.agg #[.int .i64 sh, .int .i64 gk, .int .i64 gm, .int .i64 gc], .string (r.extract 0 m)] W fun e w' => e = .returned (.tuple #[.string (fillG (512 * nS sh) (r.extract 0 m)), .int .i64 0]) ∧ Below W.heap.size W w' := fun W => by
    have hx : (r.extract 0 m).size = m := by rw [ByteArray.size_extract]; omega
    have := cluster_Fill_any sh gk gm gc (r.extract 0 m) W (by rw [hx]; omega)
    rw [fillP, if_pos hg, if_pos (by rw [hx]; omega)] at this
    exact this
   have hrest : ∀ W : World, z < r.size → (Instr.slice 9 (.string r) (some (.int .i64 (z : Int))) none none).run Tryd.prog W = .ok (.string (r.extract z r.size)) W := fun W h => by
    have := slice_lo W r (z : Int) (by omega) (by omega)
    rwa [Int.toNat_natCast] at this
   generalize hpg : fillG (512 * nS sh) (r.extract 0 m) = pg at hFl
   have hb3 := below_drew1 (Below.refl wr.heap.size wr)
   have hpl : (pre.length + 1) * 16 ≤ 140737488355328 := by omega
   clear hmr
   go_upto_region 2 with (fail)
   try simp only [List.append_eq, List.cons_append, List.nil_append]
   replace hR3 := Kd.R_below hR3 hb3
   replace hB3 := hB3.trans (hb3.mono hB3.size)
   clear hb3 hTr
   refine start_ (n := 16) (S := fun w' => w'.cell? ⟨T, 0, none⟩ = some (.int .i64 sh) ∧ w'.cell? ⟨T, 1, none⟩ = some (.int .i64 gk) ∧ w'.cell? ⟨T, 2, none⟩ = some (.int .i64 gm) ∧ w'.cell? ⟨T, 3, none⟩ = some (.int .i64 gc)) (ds := []) #[G,G,G,G,G,G,G,G,G,G,G,G,G,G,G,G] (by kernel_rfl) rfl rfl ⟨t0, t1, t2, t3⟩ (fun hHeld => ?_)
   generalize wr.drew = w3 at hHeld hR3 hB3 ⊢
   refine pu_ 0 11 ?_ #[Y,G,G,G,G,G,G,G,G,G,G,G,G,G,G,G] rfl rfl (by kernel_rfl) (fun _ _ _ h => h) (Or.inl ⟨by rfl, ?_⟩) ?_ ?_ ?_;rotate_left
   ·intro w';go_simp;with_reducible rfl
   rotate_left;·simp only [Act.put, sA_];rfl
   refine pu_ 1 12 ?_ #[Y,Y,G,G,G,G,G,G,G,G,G,G,G,G,G,G] rfl rfl (by kernel_rfl) (fun _ _ _ h => h) (Or.inl ⟨by rfl, ?_⟩) ?_ ?_ ?_;rotate_left
   ·intro w';go_simp;with_reducible rfl
   rotate_left;·simp only [Act.put, sA_];rfl
   refine pu_ 2 13 ?_ #[Y,Y,Y,G,G,G,G,G,G,G,G,G,G,G,G,G] rfl rfl (by kernel_rfl) (fun _ _ _ h => h) (Or.inl ⟨by rfl, ?_⟩) ?_ ?_ ?_;rotate_left
   ·intro w';go_simp;with_reducible rfl
   rotate_left;·simp only [Act.put, sA_];rfl
   refine pu_ 4 15 ?_ #[Y,Y,Y,G,Y,G,G,G,G,G,G,G,G,G,G,G] rfl rfl (by kernel_rfl) (fun _ _ _ h => h) (Or.inl ⟨by rfl, ?_⟩) ?_ ?_ ?_;rotate_left
   ·intro w';go_simp;with_reducible rfl
   rotate_left;·simp only [Act.put, sA_];rfl
   refine pu_ 5 16 ?_ #[Y,Y,Y,G,Y,Y,G,G,G,G,G,G,G,G,G,G] rfl rfl (by kernel_rfl) (fun _ _ _ h => h) (Or.inl ⟨by rfl, ?_⟩) ?_ ?_ ?_;rotate_left
   ·intro w';go_simp;with_reducible rfl
   rotate_left;·simp only [Act.put, sA_];rfl
   refine pu_ 6 17 ?_ #[Y,Y,Y,G,Y,Y,Y,G,G,G,G,G,G,G,G,G] rfl rfl (by kernel_rfl) (fun _ _ _ h => h) (Or.inl ⟨by rfl, ?_⟩) ?_ ?_ ?_;rotate_left
   ·intro w';go_simp;with_reducible rfl
   rotate_left;·simp only [Act.put, sA_];rfl
   refine pu_ 7 18 ?_ #[Y,Y,Y,G,Y,Y,Y,Y,G,G,G,G,G,G,G,G] rfl rfl (by kernel_rfl) (fun _ _ _ h => h) (Or.inl ⟨by rfl, ?_⟩) ?_ ?_ ?_;rotate_left
   ·intro w';go_simp;with_reducible rfl
   rotate_left;·simp only [Act.put, sA_];rfl
   refine pu_ 8 19 ?_ #[Y,Y,Y,G,Y,Y,Y,Y,Y,G,G,G,G,G,G,G] rfl rfl (by kernel_rfl) (fun _ _ _ h => h) (Or.inl ⟨by rfl, ?_⟩) ?_ ?_ ?_;rotate_left
   ·intro w';go_simp;with_reducible rfl
   rotate_left;·simp only [Act.put, sA_];rfl
   refine pu_ 9 20 ?_ #[Y,Y,Y,G,Y,Y,Y,Y,Y,Y,G,G,G,G,G,G] rfl rfl (by kernel_rfl) (fun _ _ _ h => h) (Or.inl ⟨by rfl, ?_⟩) ?_ ?_ ?_;rotate_left
   ·intro w';go_simp;with_reducible rfl
   rotate_left;·simp only [Act.put, sA_];rfl
   refine tk_ 3 14 ?_ #[Y,Y,Y,Y,Y,Y,Y,Y,Y,Y,G,G,G,G,G,G] rfl rfl (by kernel_rfl) (fun _ _ _ h => h) (Or.inl ⟨by rfl, ?_⟩) hHeld ?_ ?_ ?_;rotate_left
   ·rintro w' ⟨s0, s1, s2, s3⟩
    go_simp
    with_reducible rfl
   rotate_left;·simp only [Act.put, sA_];rfl
   refine one_ (i := 10) (N := some 21) #[Y,Y,Y,Y,Y,Y,Y,Y,Y,Y,Y,G,G,G,G,G] rfl rfl (by kernel_rfl) (by decide) (fun K hK => ?_)
   refine goes_ Tryd.func117 (by kernel_rfl) rfl #[.agg #[.int .i64 sh, .int .i64 gk, .int .i64 gm, .int .i64 gc], .string (r.extract 0 m)] (by rfl) rfl rfl (by simp only [List.map_toArray, List.map_cons, List.map_nil]; rfl) ?_
   with_reducible refine (hFl _).mono ?_
   rintro e w3 ⟨rfl, hb3⟩
   refine ⟨_, rfl, ?_⟩
   replace hR3 := Kd.R_below hR3 hb3
   replace hB3 := hB3.trans (hb3.mono hB3.size)
   refine hK.out _ _ ⟨pw_cell_below hb3 hHeld.1, pw_cell_below hb3 hHeld.2.1, pw_cell_below hb3 hHeld.2.2.1, pw_cell_below hb3 hHeld.2.2.2⟩ (fun hHeld => ?_)
   clear hK K
   refine norm_ (a' := ?_) ?_ ?_;rotate_left
   ·show Act.put _ (some 21) _ = _
    simp only [Act.put, sA_]
    rfl
   refine pu_ 11 10 ?_ #[Y,Y,Y,Y,Y,Y,Y,Y,Y,Y,Y,Y,G,G,G,G] rfl rfl (by kernel_rfl) (fun _ _ _ h => h) (Or.inl ⟨by rfl, ?_⟩) ?_ ?_ ?_;rotate_left
   ·intro w';go_simp;with_reducible rfl
   rotate_left;·simp only [Act.put, sA_];rfl
   refine pu_ 12 22 ?_ #[Y,Y,Y,Y,Y,Y,Y,Y,Y,Y,Y,Y,Y,G,G,G] rfl rfl (by kernel_rfl) (fun _ _ _ h => h) (Or.inl ⟨by rfl, ?_⟩) ?_ ?_ ?_;rotate_left
   ·intro w';go_simp;with_reducible rfl
   rotate_left;·simp only [Act.put, sA_];rfl
   refine pu_ 13 23 ?_ #[Y,Y,Y,Y,Y,Y,Y,Y,Y,Y,Y,Y,Y,Y,G,G] rfl rfl (by kernel_rfl) (fun _ _ _ h => h) (Or.inl ⟨by rfl, ?_⟩) ?_ ?_ ?_;rotate_left
   ·intro w';go_simp;with_reducible rfl
   rotate_left;·simp only [Act.put, sA_];rfl
   refine pu_ 14 8 ?_ #[Y,Y,Y,Y,Y,Y,Y,Y,Y,Y,Y,Y,Y,Y,Y,G] rfl rfl (by kernel_rfl) (fun _ _ _ h => h) (Or.inl ⟨by rfl, ?_⟩) ?_ ?_ ?_;rotate_left
   ·intro w';go_simp;with_reducible rfl
   rotate_left;·simp only [Act.put, sA_];rfl
   refine pu_ 15 9 ?_ #[Y,Y,Y,Y,Y,Y,Y,Y,Y,Y,Y,Y,Y,Y,Y,Y] rfl rfl (by kernel_rfl) (fun _ _ _ h => h) (Or.inl ⟨by rfl, ?_⟩) ?_ ?_ ?_;rotate_left
   ·intro w';go_simp;with_reducible rfl
   rotate_left;·simp only [Act.put, sA_];rfl
   refine done_ (by kernel_rfl) ?_
   clear hHeld t0 t1 t2 t3 hm hsl hFl
   go_wp2_with (at_builtin; refine Kd.R_append Kd.string (w0 := w) w.heap.size rfl (.tmp 24) (.tmp 26) 104 9 (.string ⟨#[]⟩) 16 rfl Tryd.underlying104 info9 rfl (by decide) (by omega) _ pre pg [.string pg] (fun _ => True) (fun _ => False) rfl rfl ?aP (fun _ hk => hk.elim) (fun _ _ => trivial) hR3 hB3 hB3.size ?aL ?_; (case aP => exact rfl); (case aL => exact hpl))
   rintro v8 w5 hR5 hB5 - -
   rcases hm2 with ⟨hle, rfl⟩ | ⟨hlt, rfl⟩
   ·have dl : decide ((r.size : Int) ≤ (z : Int)) = true := decide_eq_true (by omega)
    rw [cutS_last hle] at hRr
    have hxe : r.extract 0 r.size = r := by
     apply ByteArray.ext
     rw [ByteArray.data_extract]
     exact Array.extract_size ..
    rw [hxe] at hpg
    rw [hpg] at hRr
    rw [← hRr] at hR5
    clear hRr
    go_wp2
    go_ret
    exact ⟨_, rfl, hR5, hB5⟩
   ·have dl : decide ((r.size : Int) ≤ (m : Int)) = false := decide_eq_false (by omega)
    have hrs := fun W => hrest W hlt
    rw [cutS_more hz1 hlt, hpg] at hRr
    have hx2 : (r.extract m r.size).size = r.size - m := by rw [ByteArray.size_extract]; omega
    clear hrest
    have dl2 : ¬ r.size ≤ m := by omega
    go_wp2
    refine ⟨⟨r.extract m r.size, pre ++ [pg], _, rfl, rfl, ?_, ?_, hR5, hB5⟩, ?_⟩
    ·rw [hRr, List.append_assoc]; rfl
    ·rw [List.length_append, List.length_singleton, hx2]; omega
    ·simp [strLen]; omega
theorem frz3 {w : World} {g : Nat} {cs : Array Value} {t : TypeId} (h : w.heap[g]? = some (.cells cs t (0, 0))) : w.frozen? ⟨g, 0, none⟩ = false ∧ w.frozen? ⟨g, 1, none⟩ = false ∧ w.frozen? ⟨g, 2, none⟩ = false := ⟨blk_frozen h 0, blk_frozen h 1, blk_frozen h 2⟩
def ptrS (p : S130) : ByteArray := strOfNums (rootL p.f0.f0 p.f0.f1 p.f0.f2)
def upL (ps : List S130) : List UInt8 := ps.flatMap fun p => (ptrS p).data.toList
def layP : List ByteArray → List Int → List S130
 | s :: l, a :: b :: t => ⟨⟨a, b, sumC s⟩, s⟩ :: layP l t
 | _, _ => []
theorem layP_len : ∀ (l : List ByteArray) (t : List Int), 2 * l.length ≤ t.length → (layP l t).length = l.length
 | [], _, _ => rfl
 | s :: l, [], h => by simp at h
 | s :: l, [_], h => by simp at h; omega
 | s :: l, a :: b :: t, h => by
  rw [layP, List.length_cons, List.length_cons, layP_len l t (by simp at h; omega)]
theorem layP_snoc : ∀ (l : List ByteArray) (t : List Int) (j : Nat) (hj : j < l.length) (h : 2 * l.length ≤ t.length), layP (l.take (j + 1)) t = layP (l.take j) t ++ [⟨⟨t[2 * j]'(by omega), t[2 * j + 1]'(by omega), sumC l[j]⟩, l[j]⟩]
 | [], _, j, hj, _ => by simp at hj
 | s :: l, [], _, _, h => by simp at h
 | s :: l, [_], _, _, h => by simp at h; omega
 | s :: l, a :: b :: t, 0, _, _ => by simp [layP]
 | s :: l, a :: b :: t, j + 1, hj, h => by
  have ih := layP_snoc l t j (by simpa using hj) (by simp at h; omega)
  have e1 : 2 * (j + 1) = 2 * j + 1 + 1 := by omega
  rw [List.take_succ_cons, List.take_succ_cons, layP, layP, ih, List.cons_append]
  simp only [e1, List.getElem_cons_succ]
theorem upL_len (ps : List S130) : (upL ps).length = 12 * ps.length := by
 induction ps with
 | nil => rfl
 | cons p ps ih =>
  have h1 : (ptrS p).data.toList.length = 12 := by
   have h2 := strOfNums_size (rootL p.f0.f0 p.f0.f1 p.f0.f2)
   rw [rootL_len] at h2
   exact h2
  show ((ptrS p).data.toList ++ upL ps).length = _
  rw [List.length_append, h1, ih, List.length_cons]
  omega
theorem upL_snoc (ps : List S130) (p : S130) : upL (ps ++ [p]) = upL ps ++ (ptrS p).data.toList := by
 unfold upL
 rw [List.flatMap_append, List.flatMap_singleton]
theorem info3P : (Tryd.prog.info? 3).map (fun i => (i.zero, i.size, i.bytes)) = some (some (.int .i64 0), 1, 8) := by kernel_rfl
theorem R130_move {w w' : World} {base : Nat} {v : Value} {xs : List S130} (h : Kd.R k130 130 w base (fun _ => True) v xs) (hs : w.heap.size ≤ w'.heap.size) (hn : ∀ g o, v.ownBlock = some g → w.heap[g]? = some o → w'.heap[g]? = some o) : Kd.R k130 130 w' base (fun _ => True) v xs := by
 obtain ⟨h0, inner, ho, hr⟩ := h
 refine ⟨fun _ _ => trivial, inner, own_move ho (fun k hk => ?_), hr.1, fun j p hj => by have := k130_openM (hr.2 j p hj); rw [this]; exact k130_mkM _ _ _ _⟩
 have hlt := own_lt ho k hk
 rw [hn k _ hk (Array.getElem?_eq_getElem hlt), Array.getElem?_eq_getElem hlt]
theorem R130_step {S : Nat → Prop} {w w' : World} {base : Nat} {v : Value} {xs : List S130} (h : Kd.R k130 130 w base (fun _ => True) v xs) (hs : Step S w w') (hn : ∀ g, v.ownBlock = some g → ¬ S g) : Kd.R k130 130 w' base (fun _ => True) v xs :=
 R130_move h hs.size (fun g o hg ho => hs.block ho (hn g hg))
structure LayI (w W : World) (T b base : Nat) (sh gk gm gc : Int) (ats : List Int) (vp0 : Value) (j n : Nat) (ps : List S130) (us : List UInt8) (A : Option Addr) (c : Nat) (vp p vb : Value) : Prop where
 hT : W.heap[T]? = some (.cells #[.int .i64 sh, .int .i64 gk, .int .i64 gm, .int .i64 gc, .slice A n c, vp] 126 (0, 0))
 hn : n + 2 * j = ats.length
 hc : n ≤ c
 hA : ∀ w', Below base w w' → Kd.C (Kd.int .i64) w' A n (ats.drop (2 * j))
 hP : Kd.R k130 130 W base (fun _ => True) vp ps
 hv : ∀ q, vp.ownBlock = some q → vp0.ownBlock = some q ∨ w.heap.size ≤ q
 hne : ∀ q, vp.ownBlock = some q → q ≠ T ∧ q ≠ b ∧ vb.ownBlock ≠ some q
 hp : p = .pointer none ∨ p = .pointer (some ⟨b, 0, none⟩)
 hb : W.heap[b]? = some (.cells #[p, vb] 158 (0, 0))
 ho : W.ownsRowF (b + 1) 5 1 vb us.length (Lib.byteCells us)
 hs : Step (fun k => k = T ∨ vp0.ownBlock = some k) w W
 hB : Below base w W
 hw : base ≤ w.heap.size
 hz : b + 1 ≤ W.heap.size
 hTb : T < b
section
variable {w W W' : World} {T b base : Nat} {sh gk gm gc : Int} {ats : List Int} {vp0 : Value} {j n : Nat} {ps : List S130} {us : List UInt8} {A : Option Addr} {c : Nat} {vp p vb : Value}
theorem LayI.step {S : Nat → Prop} (h : LayI w W T b base sh gk gm gc ats vp0 j n ps us A c vp p vb) (hS : Step S W W') (h1 : ¬ S T) (h2 : ¬ S b) (h3 : ∀ q, vb.ownBlock = some q → ¬ S q) (h4 : ∀ q, vp.ownBlock = some q → ¬ S q) (h5 : ∀ q, S q → w.heap.size ≤ q) : LayI w W' T b base sh gk gm gc ats vp0 j n ps us A c vp p vb :=
 ⟨hS.block h.hT h1, h.hn, h.hc, h.hA, R130_step h.hP hS h4, h.hv, h.hne, h.hp, hS.block h.hb h2, ownsRowF_step hS h.ho h3, h.hs.trans hS (fun _ h => h) (fun q hq => Or.inr (h5 q hq)), h.hB.trans (hS.below (Nat.le_trans h.hw h.hB.size) (fun q hq => Nat.le_trans h.hw (h5 q hq))), h.hw, Nat.le_trans h.hz hS.size, h.hTb⟩
theorem LayI.below (h : LayI w W T b base sh gk gm gc ats vp0 j n ps us A c vp p vb) (hb : Below W.heap.size W W') : LayI w W' T b base sh gk gm gc ats vp0 j n ps us A c vp p vb :=
 h.step (Step.of_below (S := fun _ => False) hb) (fun h => h) (fun h => h) (fun _ _ h => h) (fun _ _ h => h) (fun _ h => h.elim)
theorem LayI.tab (h : LayI w W T b base sh gk gm gc ats vp0 j n ps us A c vp p vb) (hT0 : TabAt w) (hb0 : 0 < base) : TabAt W := fun k hk => by
 have h1 := hT0 k hk
 simp only [World.cell?] at h1 ⊢
 rw [h.hB.block 0 hb0]
 exact h1
theorem LayI.lts (h : LayI w W T b base sh gk gm gc ats vp0 j n ps us A c vp p vb) : b + 1 ≤ W.heap.size ∧ (∀ q, vb.ownBlock = some q → q < W.heap.size) ∧ (∀ q, vp.ownBlock = some q → q < W.heap.size) :=
 ⟨h.hz, fun q hq => (h.ho.lt q hq).2, Kd.R_lt h.hP⟩
end
theorem at_str {w : World} {A : Option Addr} {n : Nat} {xs : List ByteArray} (h : Kd.C Kd.string w A n xs) (j : Nat) (hj : j < xs.length) : ∃ ad, A = some ad ∧ w.cell? (ad.add j) = some (.string xs[j]) := by
 obtain ⟨ad, rfl, hc⟩ := h.2.2 (by have := h.1; omega)
 obtain ⟨cs, h1, h2, h3⟩ := hc j xs[j] (List.getElem?_eq_getElem hj)
 refine ⟨ad, rfl, ?_⟩
 have e : cs = [.string xs[j]] := h2
 have := h3 0 (.string xs[j]) (by rw [e]; rfl)
 simpa [show Kd.string.sz = 1 from rfl] using this
set_option maxRecDepth 100000 in
set_option maxHeartbeats 16000000 in
theorem tree_lay_any (w : World) (T base : Nat) (hbase : base ≤ T) (hb0 : 0 < base) (hT0 : TabAt w) (sh gk gm gc : Int) (A : Option Addr) (c : Nat) (vp : Value) (ats : List Int) (pre : List S130) (Al : Option Addr) (cl : Nat) (level : List ByteArray)
  (hT : w.heap[T]? = some (.cells #[.int .i64 sh, .int .i64 gk, .int .i64 gm, .int .i64 gc, .slice A ats.length c, vp] 126 (0, 0))) (hc : ats.length ≤ c) (hA : ∀ w', Below base w w' → Kd.C (Kd.int .i64) w' A ats.length ats) (har : ∀ z ∈ ats, 0 ≤ z ∧ z < 4294967296) (hal : ats.length ≤ 1000000)
  (hP : Kd.R k130 130 w base (fun _ => True) vp pre) (hPn : vp.ownBlock ≠ some T) (hpl : pre.length ≤ 1000000) (hlev : ∀ w', Step (fun k => k = T ∨ vp.ownBlock = some k) w w' → Kd.C Kd.string w' Al level.length level) (hcl : level.length ≤ cl) (hls : ∀ x ∈ level, x.size ≤ 1000000) (h2 : 2 * level.length ≤ ats.length) :
  Calls Tryd.prog 74 #[.pointer (some ⟨T, 0, none⟩), .slice Al level.length cl] w fun e w' => ∃ A' c' vp' n', e = .returned (.string ⟨(upL (layP level ats)).toArray⟩) ∧ n' + 2 * level.length = ats.length ∧ w'.heap[T]? = some (.cells #[.int .i64 sh, .int .i64 gk, .int .i64 gm, .int .i64 gc, .slice A' n' c', vp'] 126 (0, 0)) ∧ n' ≤ c' ∧
   (∀ w2, Below base w w2 → Kd.C (Kd.int .i64) w2 A' n' (ats.drop (2 * level.length))) ∧ Kd.R k130 130 w' base (fun _ => True) vp' (pre ++ layP level ats) ∧ (∀ q, vp'.ownBlock = some q → vp.ownBlock = some q ∨ w.heap.size ≤ q) ∧ vp'.ownBlock ≠ some T ∧ Step (fun k => k = T ∨ vp.ownBlock = some k) w w' := by
 have hu126 := Tryd.underlying126
 have hu23 := Tryd.underlying23
 have hu26 := Tryd.underlying26
 have hu130 := Tryd.underlying130
 have hu158 := Tryd.underlying158
 have hTlt := blk_lt hT
 have hwb : base ≤ w.heap.size := by omega
 have hPlt := Kd.R_lt hP
 obtain ⟨b, hb⟩ : ∃ b, b = w.heap.size := ⟨_, rfl⟩
 have hB0 : Below w.heap.size w (w.alloc (.cells #[.pointer none, .slice none 0 0] 158)) := (Below.refl _ _).alloc (Nat.le_refl _) _
 have kb := World.alloc_heap_new w (.cells #[.pointer none, .slice none 0 0] 158)
 have hzb : w.heap.size + 1 ≤ (w.alloc (.cells #[.pointer none, .slice none 0 0] 158)).heap.size := by simp
 have hI0 : LayI w (w.alloc (.cells #[.pointer none, .slice none 0 0] 158)) T b base sh gk gm gc ats vp 0 ats.length pre [] A c vp (.pointer none) (.slice none 0 0) :=
  ⟨Stepb hB0 hT, by omega, hc, fun w' h => hA w' h, Kd.R_below hP hB0, fun q h => Or.inl h, fun q hq => ⟨fun e => hPn (e ▸ hq), by have := hPlt q hq; omega, by simp [Value.ownBlock]⟩, Or.inl rfl, by rw [hb]; exact kb, World.ownsRowF_nil _ _ _ _, Step.of_below hB0, hB0.mono hwb, hwb, by omega, by omega⟩
 have hbw : b ≤ w.heap.size := by omega
 have hbw2 : w.heap.size ≤ b := by omega
 go_enter Tryd.func74, Tryd.ntmps74
 go_wp2
 rw [← hb]
 generalize w.alloc (.cells #[.pointer none, .slice none 0 0] 158) = W0 at hI0 ⊢
 clear hB0 kb hzb hP hA hb
 go_loopw [13] (fun t13 wr => ∃ (j n : Nat) (A : Option Addr) (c : Nat) (vq p vb : Value), j ≤ level.length ∧ t13 = .int .i64 j ∧ LayI w wr T b base sh gk gm gc ats vp j n (pre ++ layP (level.take j) ats) (upL (layP (level.take j) ats)) A c vq p vb) (fun t13 _ => level.length - (intOf t13).toNat)
 case atStart => exact ⟨0, ats.length, A, c, vp, _, _, Nat.zero_le _, rfl, by rw [List.take_zero, show layP [] ats = [] from rfl, List.append_nil]; exact hI0⟩
 case round =>
  as_aux_lemma =>
   clear hI0
   obtain ⟨j, n, A, c, vq, p, vb, hj, rfl, hI⟩ := hrel
   by_cases hjl : j < level.length
   ·have hjI : (j : Int) < (level.length : Int) := by omega
    have hj0 : (0 : Int) ≤ (j : Int) := by omega
    have hn := hI.hn
    obtain ⟨adL, rfl, hx⟩ := at_str (hlev _ hI.hs) j hjl
    have hxs := hls level[j] (List.getElem_mem hjl)
    have hAC := hI.hA wr hI.hB
    obtain ⟨ad, rfl⟩ : ∃ ad, A = some ad := by
     obtain ⟨ad, e, _⟩ := hAC.2.2 (by omega)
     exact ⟨ad, e⟩
    have u0 := C_at hAC 0 (by omega)
    have u1 := C_at hAC 1 (by omega)
    have e0 : (ats.drop (2 * j)).getD 0 0 = ats[2 * j]'(by omega) := by rw [List.getD_eq_getElem?_getD, List.getElem?_drop, Nat.add_zero, List.getElem?_eq_getElem (by omega)]; rfl
    have e1 : (ats.drop (2 * j)).getD 1 0 = ats[2 * j + 1]'(by omega) := by rw [List.getD_eq_getElem?_getD, List.getElem?_drop, List.getElem?_eq_getElem (by omega)]; rfl
    rw [e0] at u0
    rw [e1] at u1
    simp only [↓reduceIte, Nat.reduceEqDiff, Nat.one_ne_zero] at u0 u1
    have hr0 := har (ats[2 * j]'(by omega)) (List.getElem_mem _)
    have hr1 := har (ats[2 * j + 1]'(by omega)) (List.getElem_mem _)
    have hlay := layP_snoc level ats j hjl h2
    have hln := layP_len (level.take j) ats (by rw [List.length_take]; omega)
    rw [List.length_take] at hln
    clear e0 e1
    generalize ats[2 * j]'(by omega) = x0 at u0 hr0 hlay
    generalize ats[2 * j + 1]'(by omega) = x1 at u1 hr1 hlay
    generalize level[j] = x at hx hxs hlay
    have hSum := fun W (hW : TabAt W) => crc_Sum_any x W hW hxs
    have hyr := sumC_in x
    generalize sumC x = y at hSum hyr hlay
    generalize layP (level.take j) ats = ps at hI hlay hln
    have k4 : wr.cell? ⟨T, 4, none⟩ = some (.slice (some ad) n c) := by rw [Lib.cell_of_heap hI.hT]; rfl
    have hn2 : 1 < n := by omega
    have hn1 : 0 < n := by omega
    have hnI : (1 : Int) < (n : Int) := by omega
    have hnJ : (0 : Int) < (n : Int) := by omega
    have hpn : (pre.length + ps.length + 1) * 40 ≤ 140737488355328 := by omega
    have hb3 := below_drew1 (Below.refl wr.heap.size wr)
    go_upto_region 5 with (fail)
    try simp only [List.append_eq, List.cons_append, List.nil_append]
    have hI0 := hI
    replace hI := hI.below hb3
    clear hx hAC hb3
    refine start_ (n := 17) (S := fun w' => w'.cell? ⟨T, 4, none⟩ = some (.slice (some ad) n c) ∧ w'.cell? ad = some (.int .i64 x0) ∧ w'.cell? ⟨ad.block, ad.off + 1, none⟩ = some (.int .i64 x1)) (ds := [16]) #[G,G,G,G,G,G,G,G,G,G,G,G,G,G,G,G,G] (by kernel_rfl) rfl rfl ⟨k4, u0, u1⟩ (fun hHeld => ?_)
    generalize wr.drew = w3 at hHeld hI ⊢
    refine pu_ 0 17 ?_ #[Y,G,G,G,G,G,G,G,G,G,G,G,G,G,G,G,G] rfl rfl (by kernel_rfl) (fun _ _ _ h => h) (Or.inl ⟨by rfl, ?_⟩) ?_ ?_ ?_;rotate_left
    ·intro w';go_simp;with_reducible rfl
    rotate_left;·simp only [Act.put, sA_];rfl
    refine pu_ 1 18 ?_ #[Y,Y,G,G,G,G,G,G,G,G,G,G,G,G,G,G,G] rfl rfl (by kernel_rfl) (fun _ _ _ h => h) (Or.inl ⟨by rfl, ?_⟩) ?_ ?_ ?_;rotate_left
    ·intro w';go_simp;with_reducible rfl
    rotate_left;·simp only [Act.put, sA_];rfl
    refine pu_ 2 19 ?_ #[Y,Y,Y,G,G,G,G,G,G,G,G,G,G,G,G,G,G] rfl rfl (by kernel_rfl) (fun _ _ _ h => h) (Or.inl ⟨by rfl, ?_⟩) ?_ ?_ ?_;rotate_left
    ·intro w';go_simp;with_reducible rfl
    rotate_left;·simp only [Act.put, sA_];rfl
    refine pu_ 6 23 ?_ #[Y,Y,Y,G,G,G,Y,G,G,G,G,G,G,G,G,G,G] rfl rfl (by kernel_rfl) (fun _ _ _ h => h) (Or.inl ⟨by rfl, ?_⟩) ?_ ?_ ?_;rotate_left
    ·intro w';go_simp;with_reducible rfl
    rotate_left;·simp only [Act.put, sA_];rfl
    refine pu_ 7 24 ?_ #[Y,Y,Y,G,G,G,Y,Y,G,G,G,G,G,G,G,G,G] rfl rfl (by kernel_rfl) (fun _ _ _ h => h) (Or.inl ⟨by rfl, ?_⟩) ?_ ?_ ?_;rotate_left
    ·intro w';go_simp;with_reducible rfl
    rotate_left;·simp only [Act.put, sA_];rfl
    refine pu_ 8 25 ?_ #[Y,Y,Y,G,G,G,Y,Y,Y,G,G,G,G,G,G,G,G] rfl rfl (by kernel_rfl) (fun _ _ _ h => h) (Or.inl ⟨by rfl, ?_⟩) ?_ ?_ ?_;rotate_left
    ·intro w';go_simp;with_reducible rfl
    rotate_left;·simp only [Act.put, sA_];rfl
    refine pu_ 12 29 ?_ #[Y,Y,Y,G,G,G,Y,Y,Y,G,G,G,Y,G,G,G,G] rfl rfl (by kernel_rfl) (fun _ _ _ h => h) (Or.inl ⟨by rfl, ?_⟩) ?_ ?_ ?_;rotate_left
    ·intro w';go_simp;with_reducible rfl
    rotate_left;·simp only [Act.put, sA_];rfl
    refine tk_ 3 20 ?_ #[Y,Y,Y,Y,G,G,Y,Y,Y,G,G,G,Y,G,G,G,G] rfl rfl (by kernel_rfl) (fun _ _ _ h => h) (Or.inl ⟨by rfl, ?_⟩) hHeld ?_ ?_ ?_;rotate_left
    ·rintro w' ⟨s0, s1, s2⟩
     go_simp
     with_reducible rfl
    rotate_left;·simp only [Act.put, sA_];rfl
    refine pu_ 4 21 ?_ #[Y,Y,Y,Y,Y,G,Y,Y,Y,G,G,G,Y,G,G,G,G] rfl rfl (by kernel_rfl) (fun _ _ _ h => h) (Or.inl ⟨by rfl, ?_⟩) ?_ ?_ ?_;rotate_left
    ·intro w';go_simp;with_reducible rfl
    rotate_left;·simp only [Act.put, sA_];rfl
    refine tk_ 5 22 ?_ #[Y,Y,Y,Y,Y,Y,Y,Y,Y,G,G,G,Y,G,G,G,G] rfl rfl (by kernel_rfl) (fun _ _ _ h => h) (Or.inl ⟨by rfl, ?_⟩) hHeld ?_ ?_ ?_;rotate_left
    ·rintro w' ⟨s0, s1, s2⟩
     go_simp
     with_reducible rfl
    rotate_left;·simp only [Act.put, sA_];rfl
    refine tk_ 9 26 ?_ #[Y,Y,Y,Y,Y,Y,Y,Y,Y,Y,G,G,Y,G,G,G,G] rfl rfl (by kernel_rfl) (fun _ _ _ h => h) (Or.inl ⟨by rfl, ?_⟩) hHeld ?_ ?_ ?_;rotate_left
    ·rintro w' ⟨s0, s1, s2⟩
     go_simp
     with_reducible rfl
    rotate_left;·simp only [Act.put, sA_];rfl
    refine pu_ 10 27 ?_ #[Y,Y,Y,Y,Y,Y,Y,Y,Y,Y,Y,G,Y,G,G,G,G] rfl rfl (by kernel_rfl) (fun _ _ _ h => h) (Or.inl ⟨by rfl, ?_⟩) ?_ ?_ ?_;rotate_left
    ·intro w';go_simp;with_reducible rfl
    rotate_left;·simp only [Act.put, sA_];rfl
    refine tk_ 11 28 ?_ #[Y,Y,Y,Y,Y,Y,Y,Y,Y,Y,Y,Y,Y,G,G,G,G] rfl rfl (by kernel_rfl) (fun _ _ _ h => h) (Or.inl ⟨by rfl, ?_⟩) hHeld ?_ ?_ ?_;rotate_left
    ·rintro w' ⟨s0, s1, s2⟩
     go_simp
     with_reducible rfl
    rotate_left;·simp only [Act.put, sA_];rfl
    refine join_ (σ := Nat) 1 #[Y,Y,Y,Y,Y,Y,Y,Y,Y,Y,Y,Y,Y,Y,Y,Y,G] (fun s => [(30, .int .u32 y), (31, .agg #[.int .i64 x0, .int .i64 x1, .int .u32 y]), (8, .pointer (some ⟨s, 0, none⟩))]) (fun s w' => (w'.cell? ⟨T, 4, none⟩ = some (.slice (some ad) n c) ∧ w'.cell? ad = some (.int .i64 x0) ∧ w'.cell? ⟨ad.block, ad.off + 1, none⟩ = some (.int .i64 x1)) ∧ LayI w w' T b base sh gk gm gc ats vp j n (pre ++ ps) (upL ps) (some ad) c vq p vb ∧ w'.heap[s]? = some (.cells #[.int .i64 0, .int .i64 0, .int .u32 0] 26 (0, 0)) ∧ (b + 1 ≤ s ∧ (∀ q, vb.ownBlock = some q → q < s) ∧ (∀ q, vq.ownBlock = some q → q < s))) ?_ ?_;rotate_left
    ·intro hCont
     refine two_ (i := 13) (j := 15) (Ni := some 30) (Nj := some 8) #[Y,Y,Y,Y,Y,Y,Y,Y,Y,Y,Y,Y,Y,Y,G,G,G] #[Y,Y,Y,Y,Y,Y,Y,Y,Y,Y,Y,Y,Y,G,G,Y,G] rfl rfl rfl rfl (by kernel_rfl) (by decide) (by decide) (fun K hK => ?_) (fun K hK => ?_)
     ·skip
      refine goes_ Tryd.func101 (by kernel_rfl) rfl #[.string x] (by rfl) rfl rfl (by simp only [List.map_toArray, List.map_cons, List.map_nil]; rfl) ?_
      with_reducible refine (hSum _ (hI.tab hT0 hb0)).mono ?_
      rintro e w3 ⟨rfl, hb3⟩
      refine ⟨_, rfl, ?_⟩
      replace hI := hI.below hb3
      refine hK.out _ _ ⟨pw_cell_below hb3 hHeld.1, pw_cell_below hb3 hHeld.2.1, pw_cell_below hb3 hHeld.2.2⟩ (fun hHeld => ?_)
      clear hK K
      refine norm_ (a' := ?_) ?_ ?_;rotate_left
      ·show Act.put _ (some 30) _ = _
       simp only [Act.put, sA_]
       rfl
      refine pu_ 14 31 ?_ #[Y,Y,Y,Y,Y,Y,Y,Y,Y,Y,Y,Y,Y,Y,Y,G,G] rfl rfl (by kernel_rfl) (fun _ _ _ h => h) (Or.inl ⟨by rfl, ?_⟩) ?_ ?_ ?_;rotate_left
      ·intro w';go_simp;with_reducible rfl
      rotate_left;·simp only [Act.put, sA_];rfl
      refine one_ (i := 15) (N := some 8) #[Y,Y,Y,Y,Y,Y,Y,Y,Y,Y,Y,Y,Y,Y,Y,Y,G] rfl rfl (by kernel_rfl) (by decide) (fun K hK => ?_)
      refine value_ (w1 := ?_) (v := ?_) (by rfl) rfl ?_ ?_
      rotate_left 2
      ·go_simp
       constructor
       ·rfl
       ·rfl
      have hb3 : Below w3.heap.size w3 (w3.alloc (.cells #[.int .i64 0, .int .i64 0, .int .u32 0] 26)) := (Below.refl _ _).alloc (Nat.le_refl _) _
      have hz8 := World.alloc_heap_new w3 (.cells #[.int .i64 0, .int .i64 0, .int .u32 0] 26)
      have hg8 := hI.lts
      generalize w3.heap.size = g8 at hz8 hg8 ⊢
      generalize w3.alloc (.cells #[.int .i64 0, .int .i64 0, .int .u32 0] 26) = w4 at hb3 hz8 ⊢
      replace hI := hI.below hb3
      refine hK.out _ _ ⟨pw_cell_below hb3 hHeld.1, pw_cell_below hb3 hHeld.2.1, pw_cell_below hb3 hHeld.2.2⟩ (fun hHeld => ?_)
      clear hK K
      refine norm_ (a' := ?_) ?_ ?_;rotate_left
      ·show Act.put _ (some 8) _ = _
       simp only [Act.put, sA_]
       rfl
      exact norm_ (by first | (simp only [putAll, Act.put, List.setIfInBounds_toArray, List.set_cons_zero, List.set_cons_succ]; done) | (simp only [putAll, Act.put, List.setIfInBounds_toArray, List.set_cons_zero, List.set_cons_succ]; rfl)) (hCont g8 _ ⟨hHeld, hI, hz8, hg8⟩)
     ·skip
      refine value_ (w1 := ?_) (v := ?_) (by rfl) rfl ?_ ?_
      rotate_left 2
      ·go_simp
       constructor
       ·rfl
       ·rfl
      have hb3 : Below w3.heap.size w3 (w3.alloc (.cells #[.int .i64 0, .int .i64 0, .int .u32 0] 26)) := (Below.refl _ _).alloc (Nat.le_refl _) _
      have hz8 := World.alloc_heap_new w3 (.cells #[.int .i64 0, .int .i64 0, .int .u32 0] 26)
      have hg8 := hI.lts
      generalize w3.heap.size = g8 at hz8 hg8 ⊢
      generalize w3.alloc (.cells #[.int .i64 0, .int .i64 0, .int .u32 0] 26) = w4 at hb3 hz8 ⊢
      replace hI := hI.below hb3
      refine hK.out _ _ ⟨pw_cell_below hb3 hHeld.1, pw_cell_below hb3 hHeld.2.1, pw_cell_below hb3 hHeld.2.2⟩ (fun hHeld => ?_)
      clear hK K
      refine norm_ (a' := ?_) ?_ ?_;rotate_left
      ·show Act.put _ (some 8) _ = _
       simp only [Act.put, sA_]
       rfl
      refine one_ (i := 13) (N := some 30) #[Y,Y,Y,Y,Y,Y,Y,Y,Y,Y,Y,Y,Y,Y,G,Y,G] rfl rfl (by kernel_rfl) (by decide) (fun K hK => ?_)
      refine goes_ Tryd.func101 (by kernel_rfl) rfl #[.string x] (by rfl) rfl rfl (by simp only [List.map_toArray, List.map_cons, List.map_nil]; rfl) ?_
      with_reducible refine (hSum _ (hI.tab hT0 hb0)).mono ?_
      rintro e w3 ⟨rfl, hb3⟩
      refine ⟨_, rfl, ?_⟩
      replace hI := hI.below hb3
      replace hz8 := Stepb hb3 hz8
      refine hK.out _ _ ⟨pw_cell_below hb3 hHeld.1, pw_cell_below hb3 hHeld.2.1, pw_cell_below hb3 hHeld.2.2⟩ (fun hHeld => ?_)
      clear hK K
      refine norm_ (a' := ?_) ?_ ?_;rotate_left
      ·show Act.put _ (some 30) _ = _
       simp only [Act.put, sA_]
       rfl
      refine pu_ 14 31 ?_ #[Y,Y,Y,Y,Y,Y,Y,Y,Y,Y,Y,Y,Y,Y,Y,Y,G] rfl rfl (by kernel_rfl) (fun _ _ _ h => h) (Or.inl ⟨by rfl, ?_⟩) ?_ ?_ ?_;rotate_left
      ·intro w';go_simp;with_reducible rfl
      rotate_left;·simp only [Act.put, sA_];rfl
      exact norm_ (by first | (simp only [putAll, Act.put, List.setIfInBounds_toArray, List.set_cons_zero, List.set_cons_succ]; done) | (simp only [putAll, Act.put, List.setIfInBounds_toArray, List.set_cons_zero, List.set_cons_succ]; rfl)) (hCont g8 _ ⟨hHeld, hI, hz8, hg8⟩)
    rintro g8 w3 ⟨hHeld, hI, hz8, hg8⟩
    try dsimp only at hz8 hg8
    refine norm_ (a' := ?_) ?_ ?_;rotate_left
    ·simp only [putAll, Act.put, List.setIfInBounds_toArray, List.set_cons_zero, List.set_cons_succ]
     rfl
    refine last_ (i := 16) (N := none) #[Y,Y,Y,Y,Y,Y,Y,Y,Y,Y,Y,Y,Y,Y,Y,Y,Y] rfl rfl (by kernel_rfl) (by decide) (fun K hK => ?_)
    obtain ⟨z0, z1, z2⟩ := blk3 hz8
    obtain ⟨q0, q1, q2⟩ := frz3 hz8
    refine skip_ (w1 := ?_) (by rfl) rfl ?_ ?_;rotate_left
    ·go_simp
     rfl
    refine hK.out _ _ ?_
    clear hK K
    refine done_ (by kernel_rfl) ?_
    clear hHeld
    have hs8 : Step (fun k => k = g8) w3 (((w3.setCell ⟨g8, 0, none⟩ (.int .i64 x0)).setCell ⟨g8, 1, none⟩ (.int .i64 x1)).setCell ⟨g8, 2, none⟩ (.int .u32 y)) :=
     ((Step.setCell w3 (p := ⟨g8, 0, none⟩) (S := fun k => k = g8) rfl _).trans (Step.setCell _ (p := ⟨g8, 1, none⟩) (S := fun k => k = g8) rfl _) (fun _ h => h) (fun _ h => Or.inl h)).trans (Step.setCell _ (p := ⟨g8, 2, none⟩) (S := fun k => k = g8) rfl _) (fun _ h => h) (fun _ h => Or.inl h)
    have hz9 : (((w3.setCell ⟨g8, 0, none⟩ (.int .i64 x0)).setCell ⟨g8, 1, none⟩ (.int .i64 x1)).setCell ⟨g8, 2, none⟩ (.int .u32 y)).heap[g8]? = some (.cells #[.int .i64 x0, .int .i64 x1, .int .u32 y] 26 (0, 0)) := by
     simpa using blk_set (blk_set (blk_set hz8 0 (.int .i64 x0)) 1 (.int .i64 x1)) 2 (.int .u32 y)
    obtain ⟨hg1, hg2, hg3⟩ := hg8
    have hTb := hI.hTb
    have hI5 := hI.step hs8 (fun e => by omega) (fun e => by omega) (fun q hq e => by have := hg2 q hq; omega) (fun q hq e => by have := hg3 q hq; omega) (fun q hq => by omega)
    clear hs8 hz8 hI
    generalize (((w3.setCell ⟨g8, 0, none⟩ (.int .i64 x0)).setCell ⟨g8, 1, none⟩ (.int .i64 x1)).setCell ⟨g8, 2, none⟩ (.int .u32 y)) = W5 at hz9 hI5 ⊢
    have hcut : ∀ W : World, (Instr.slice 50 (.slice (some ad) n c) (some (.int .i64 2)) none none).run Tryd.prog W = .ok (.slice (if c = 2 then some ad else (some ad : Option Addr).map (·.add (2 * 1))) (n - 2) (c - 2)) W := by
     intro W
     obtain ⟨i0, hi0, _, hsz0, _⟩ := info_parts info3P
     exact cut_from (P := Tryd.prog) 50 3 .i64 Tryd.underlying50 hi0 1 hsz0 (some ad) n c 2 (by omega) (by omega) W
    have hA2 : ∀ w', Below base w w' → Kd.C (Kd.int .i64) w' (if c = 2 then some ad else (some ad : Option Addr).map (·.add (2 * 1))) (n - 2) (ats.drop (2 * (j + 1))) := by
     intro w' hw'
     have h3 := hI5.hA w' hw'
     have hdl : (ats.drop (2 * j)).length = n := h3.1
     have h4 := Kd.C_drop (m := 2) (c := c) (by rw [hdl]; exact h3) (by omega) (by have := hI5.hc; omega)
     rw [List.drop_drop, List.length_drop] at h4
     rw [show 2 * (j + 1) = 2 * j + 2 by omega, show n - 2 = ats.length - (2 * j + 2) by omega]
     exact h4
    obtain ⟨A2, hA2e⟩ : ∃ A2, A2 = (if c = 2 then some ad else (some ad : Option Addr).map (·.add (2 * 1))) := ⟨_, rfl⟩
    rw [← hA2e] at hcut hA2
    clear hA2e
    obtain ⟨n2, hn2e⟩ : ∃ n2, n2 = n - 2 := ⟨_, rfl⟩
    rw [← hn2e] at hcut hA2
    have hc5 := hI5.hc
    obtain ⟨c2, hc2⟩ : ∃ c2, c2 = c - 2 := ⟨_, rfl⟩
    rw [← hc2] at hcut
    have k4' : W5.cell? ⟨T, 4, none⟩ = some (.slice (some ad) n c) := by rw [Lib.cell_of_heap hI5.hT]; rfl
    have k5 : W5.cell? ⟨T, 5, none⟩ = some vq := by rw [Lib.cell_of_heap hI5.hT]; rfl
    have f4 := blk_frozen hI5.hT 4
    have hst4 := Step.setCell W5 (p := ⟨T, 4, none⟩) (S := fun k => k = T) rfl (.slice A2 n2 c2)
    have hT4 := blk_set hI5.hT 4 (.slice A2 n2 c2)
    simp only [List.setIfInBounds_toArray, List.set_cons_zero, List.set_cons_succ] at hT4
    have hz4 := hst4.block hz9 (fun e => by omega)
    have hI4 : LayI w (W5.setCell ⟨T, 4, none⟩ (.slice A2 n2 c2)) T b base sh gk gm gc ats vp (j + 1) n2 (pre ++ ps) (upL ps) A2 c2 vq p vb :=
     ⟨hT4, by omega, by omega, hA2, R130_step hI5.hP hst4 (fun q hq e => (hI5.hne q hq).1 e), hI5.hv, hI5.hne, hI5.hp, hst4.block hI5.hb (fun e => by omega), ownsRowF_step hst4 hI5.ho (fun q hq e => by have := (hI5.ho.lt q hq).1; omega), hI5.hs.trans hst4 (fun _ h => h) (fun q hq => Or.inl (Or.inl hq)), hI5.hB.trans (hst4.below (Nat.le_trans hI5.hw hI5.hB.size) (fun q hq => hq ▸ hbase)), hI5.hw, Nat.le_trans hI5.hz hst4.size, hI5.hTb⟩
    clear hn2e hc2
    have hpl2 : ((pre ++ ps).length + 1) * 40 ≤ 140737488355328 := by rw [List.length_append]; exact hpn
    go_upto_region 7 with (fail)
    clear k4' k5 f4 hst4 hT4 hz9 hI5 hA2 hcut
    generalize W5.setCell ⟨T, 4, none⟩ (.slice A2 n2 c2) = W6 at hz4 hI4 ⊢
    have hI := hI4.below (below_drew1 (Below.refl W6.heap.size W6))
    have hz8 := Stepb (below_drew1 (Below.refl W6.heap.size W6)) hz4
    have k5 : W6.cell? ⟨T, 5, none⟩ = some vq := by rw [Lib.cell_of_heap hI4.hT]; rfl
    obtain ⟨z0, z1, z2⟩ := blk3 hz4
    try simp only [List.append_eq, List.cons_append, List.nil_append]
    clear hI4 hz4
    refine start_ (n := 13) (S := fun w' => w'.cell? ⟨T, 5, none⟩ = some (vq) ∧ w'.cell? ⟨g8, 0, none⟩ = some (.int .i64 x0) ∧ w'.cell? ⟨g8, 1, none⟩ = some (.int .i64 x1) ∧ w'.cell? ⟨g8, 2, none⟩ = some (.int .u32 y)) (ds := [12]) #[G,G,G,G,G,G,G,G,G,G,G,G,G] (by kernel_rfl) rfl rfl ⟨k5, z0, z1, z2⟩ (fun hHeld => ?_)
    generalize W6.drew = w3 at hHeld hI hz8 ⊢
    refine pu_ 0 40 ?_ #[Y,G,G,G,G,G,G,G,G,G,G,G,G] rfl rfl (by kernel_rfl) (fun _ _ _ h => h) (Or.inl ⟨by rfl, ?_⟩) ?_ ?_ ?_;rotate_left
    ·intro w';go_simp;with_reducible rfl
    rotate_left;·simp only [Act.put, sA_];rfl
    refine pu_ 1 41 ?_ #[Y,Y,G,G,G,G,G,G,G,G,G,G,G] rfl rfl (by kernel_rfl) (fun _ _ _ h => h) (Or.inl ⟨by rfl, ?_⟩) ?_ ?_ ?_;rotate_left
    ·intro w';go_simp;with_reducible rfl
    rotate_left;·simp only [Act.put, sA_];rfl
    refine pu_ 2 42 ?_ #[Y,Y,Y,G,G,G,G,G,G,G,G,G,G] rfl rfl (by kernel_rfl) (fun _ _ _ h => h) (Or.inl ⟨by rfl, ?_⟩) ?_ ?_ ?_;rotate_left
    ·intro w';go_simp;with_reducible rfl
    rotate_left;·simp only [Act.put, sA_];rfl
    refine pu_ 3 43 ?_ #[Y,Y,Y,Y,G,G,G,G,G,G,G,G,G] rfl rfl (by kernel_rfl) (fun _ _ _ h => h) (Or.inl ⟨by rfl, ?_⟩) ?_ ?_ ?_;rotate_left
    ·intro w';go_simp;with_reducible rfl
    rotate_left;·simp only [Act.put, sA_];rfl
    refine pu_ 6 46 ?_ #[Y,Y,Y,Y,G,G,Y,G,G,G,G,G,G] rfl rfl (by kernel_rfl) (fun _ _ _ h => h) (Or.inl ⟨by rfl, ?_⟩) ?_ ?_ ?_;rotate_left
    ·intro w';go_simp;with_reducible rfl
    rotate_left;·simp only [Act.put, sA_];rfl
    refine tk_ 4 44 ?_ #[Y,Y,Y,Y,Y,G,Y,G,G,G,G,G,G] rfl rfl (by kernel_rfl) (fun _ _ _ h => h) (Or.inl ⟨by rfl, ?_⟩) hHeld ?_ ?_ ?_;rotate_left
    ·rintro w' ⟨s0, s1, s2, s3⟩
     go_simp
     with_reducible rfl
    rotate_left;·simp only [Act.put, sA_];rfl
    refine tk_ 5 45 ?_ #[Y,Y,Y,Y,Y,Y,Y,G,G,G,G,G,G] rfl rfl (by kernel_rfl) (fun _ _ _ h => h) (Or.inl ⟨by rfl, ?_⟩) hHeld ?_ ?_ ?_;rotate_left
    ·rintro w' ⟨s0, s1, s2, s3⟩
     go_simp
     with_reducible rfl
    rotate_left;·simp only [Act.put, sA_];rfl
    refine pu_ 7 47 ?_ #[Y,Y,Y,Y,Y,Y,Y,Y,G,G,G,G,G] rfl rfl (by kernel_rfl) (fun _ _ _ h => h) (Or.inl ⟨by rfl, ?_⟩) ?_ ?_ ?_;rotate_left
    ·intro w';go_simp;with_reducible rfl
    rotate_left;·simp only [Act.put, sA_];rfl
    refine one_ (i := 8) (N := some 48) #[Y,Y,Y,Y,Y,Y,Y,Y,Y,G,G,G,G] rfl rfl (by kernel_rfl) (by decide) (fun K hK => ?_)
    have hH0 := hHeld
    refine value_ (w1 := ?_) (v := ?_) (by rfl) rfl ?_ ?_
    rotate_left 2
    ·go_simp
     constructor
     ·rfl
     ·rfl
    refine hK.out _ _ ⟨(pw_cell_below (w := w3) ((Below.refl _ _).alloc (Nat.le_refl _) _) hHeld.1), (pw_cell_below (w := w3) ((Below.refl _ _).alloc (Nat.le_refl _) _) hHeld.2.1), (pw_cell_below (w := w3) ((Below.refl _ _).alloc (Nat.le_refl _) _) hHeld.2.2.1), (pw_cell_below (w := w3) ((Below.refl _ _).alloc (Nat.le_refl _) _) hHeld.2.2.2)⟩ (fun hHeld => ?_)
    clear hK K
    refine norm_ (a' := ?_) ?_ ?_;rotate_left
    ·show Act.put _ (some 48) _ = _
     simp only [Act.put, sA_]
     rfl
    refine one_ (i := 9) (N := some 49) #[Y,Y,Y,Y,Y,Y,Y,Y,Y,Y,G,G,G] rfl rfl (by kernel_rfl) (by decide) (fun K hK => ?_)
    refine Kd.R_append_step k130 (w0 := w) base ?aW (.tmp 44) (.tmp 48) 53 130 (.agg #[(.int .i64 0), (.int .i64 0), (.int .u32 0), (.string ⟨#[]⟩)]) 40 rfl Tryd.underlying53 info130 rfl (by decide) (by omega) vq (pre ++ ps) (⟨⟨x0, x1, y⟩, x⟩ : S130) [.int .i64 x0, .int .i64 x1, .int .u32 y, .string x] (fun _ => True) (fun _ => False) rfl rfl (k130_mkM _ _ _ (⟨⟨x0, x1, y⟩, x⟩ : S130)) (fun _ hk => hk.elim) ?aF hI.hP hI.hB (Nat.le_trans hI.hw hI.hB.size) ?aL ?_
    case aW => rfl
    case aF => exact fun _ _ => trivial
    case aL => exact hpl2
    intro vn w4 hPq hBq hgq hatq
    obtain ⟨Bn, mn_, cn, rfl⟩ : ∃ A m c, vn = .slice A m c := by obtain ⟨A, c, e, _⟩ := Kd.R_reads hPq; exact ⟨A, _, c, e⟩
    have hst := Step.grown hgq (S := fun q => vq.ownBlock = some q) (fun q hq => hq)
    refine hK.out _ _ ⟨hst.cell hH0.1 (fun e => (hI.hne _ e).1 rfl), hst.cell hH0.2.1 (fun e => Nat.lt_irrefl _ (hg3 _ e)), hst.cell hH0.2.2.1 (fun e => Nat.lt_irrefl _ (hg3 _ e)), hst.cell hH0.2.2.2 (fun e => Nat.lt_irrefl _ (hg3 _ e))⟩ (fun hHeld => ?_)
    clear hK K
    refine norm_ (a' := ?_) ?_ ?_;rotate_left
    ·show Act.put _ (some 49) _ = _
     simp only [Act.put, sA_]
     rfl
    refine pu_ 10 50 ?_ #[Y,Y,Y,Y,Y,Y,Y,Y,Y,Y,Y,G,G] rfl rfl (by kernel_rfl) (fun _ _ _ h => h) (Or.inl ⟨by rfl, ?_⟩) ?_ ?_ ?_;rotate_left
    ·intro w';go_simp;with_reducible rfl
    rotate_left;·simp only [Act.put, sA_];rfl
    refine pu_ 11 51 ?_ #[Y,Y,Y,Y,Y,Y,Y,Y,Y,Y,Y,Y,G] rfl rfl (by kernel_rfl) (fun _ _ _ h => h) (Or.inl ⟨by rfl, ?_⟩) ?_ ?_ ?_;rotate_left
    ·intro w';go_simp;with_reducible rfl
    rotate_left;·simp only [Act.put, sA_];rfl
    refine last_ (i := 12) (N := none) #[Y,Y,Y,Y,Y,Y,Y,Y,Y,Y,Y,Y,Y] rfl rfl (by kernel_rfl) (by decide) (fun K hK => ?_)
    have hTq := hst.block hI.hT (fun e => (hI.hne _ e).1 rfl)
    have f5 := blk_frozen hTq 5
    have c5 : w4.cell? ⟨T, 5, none⟩ = some vq := by rw [Lib.cell_of_heap hTq]; rfl
    refine skip_ (w1 := ?_) (by rfl) rfl ?_ ?_;rotate_left
    ·go_simp
     rfl
    refine hK.out _ _ ?_
    clear hK K
    refine done_ (by kernel_rfl) ?_
    clear hHeld
    generalize Value.slice Bn mn_ cn = vn at hPq hatq ⊢
    have hvn : ∀ q, vn.ownBlock = some q → vq.ownBlock = some q ∨ w3.heap.size ≤ q := fun q hq => by
     rcases hatq with e | ⟨q', e, hle⟩
     ·exact Or.inl (e ▸ hq)
     ·rw [hq] at e; injection e with e; exact Or.inr (e ▸ hle)
    have hls3 := hI.lts
    have hvne : ∀ q, vn.ownBlock = some q → q ≠ T ∧ q ≠ b ∧ vb.ownBlock ≠ some q := fun q hq => by
     rcases hvn q hq with h | h
     ·exact hI.hne q h
     ·exact ⟨by omega, by omega, fun e => by have := hls3.2.1 q e; omega⟩
    have hst5 := Step.setCell w4 (p := ⟨T, 5, none⟩) (S := fun k => k = T) rfl vn
    have hT7 := blk_set hTq 5 vn
    simp only [List.setIfInBounds_toArray, List.set_cons_zero, List.set_cons_succ] at hT7
    have hz7 := hst5.block (hst.block hz8 (fun e => by have := hg3 _ e; omega)) (fun e => by omega)
    have hI7 : LayI w (w4.setCell ⟨T, 5, none⟩ vn) T b base sh gk gm gc ats vp (j + 1) n2 (pre ++ ps ++ [⟨⟨x0, x1, y⟩, x⟩]) (upL ps) A2 c2 vn p vb :=
     ⟨hT7, hI.hn, hI.hc, hI.hA, R130_step hPq hst5 (fun q hq e => (hvne q hq).1 e), fun q hq => (hvn q hq).elim (hI.hv q) (fun h => Or.inr (Nat.le_trans hI.hs.size h)), hvne, hI.hp, hst5.block (hst.block hI.hb (fun e => (hI.hne _ e).2.1 rfl)) (fun e => by omega), ownsRowF_step hst5 (ownsRowF_step hst hI.ho (fun q hq e => (hI.hne q e).2.2 hq)) (fun q hq e => by have := (hI.ho.lt q hq).1; omega), (hI.hs.trans hst (fun _ h => h) (fun q hq => (hI.hv q hq).imp Or.inr id)).trans hst5 (fun _ h => h) (fun q hq => Or.inl (Or.inl hq)), hBq.trans (hst5.below (Nat.le_trans hI.hw hBq.size) (fun q hq => hq ▸ hbase)), hI.hw, Nat.le_trans hI.hz (Nat.le_trans hst.size hst5.size), hI.hTb⟩
    clear hst5 hT7 hst hTq c5 f5 hPq hBq hgq hatq hI hz8 hvn hvne hls3
    generalize w4.setCell ⟨T, 5, none⟩ vn = W7 at hz7 hI7 ⊢
    obtain ⟨q0, q1, q2⟩ := blk3 hz7
    go_wp2_with (go_at_call 44; with_reducible refine (field_Ptr_any _ x0 x1 y hr0 hr1 hyr).mono ?_)
    rintro e w8 ⟨rfl, hb8⟩
    have hI8 := hI7.below hb8
    have hsz := strOfNums_size (rootL x0 x1 y)
    rw [rootL_len] at hsz
    have hW := writeString_s (b + 1) b p vb _ _ (strOfNums (rootL x0 x1 y)) w8 hI8.hp hI8.hb hI8.ho (fun e => by have := (hI8.ho.lt b e).1; omega) (by rw [upL_len, hsz]; omega) hI8.hz
    clear q0 q1 q2 hz7 hI7 hb8
    go_wp2_with (go_at_call 98; with_reducible refine hW.mono ?_)
    rintro e w9 ⟨rfl, v9, g1, g2, g3, g4, g5⟩
    have hTne : ∀ q, q = b ∨ vb.ownBlock = some q → q ≠ T := fun q hq => by
     rcases hq with rfl | hq
     ·omega
     ·have := (hI8.ho.lt q hq).1; omega
    have hI9 : LayI w w9 T b base sh gk gm gc ats vp (j + 1) n2 (pre ++ layP (level.take (j + 1)) ats) (upL (layP (level.take (j + 1)) ats)) A2 c2 vn (.pointer (some ⟨b, 0, none⟩)) v9 := by
     rw [hlay, upL_snoc, ← List.append_assoc]
     refine ⟨g5.block hI8.hT (fun e => hTne _ e rfl), hI8.hn, hI8.hc, hI8.hA, R130_step hI8.hP g5 (fun q hq e => ?_), hI8.hv, fun q hq => ⟨(hI8.hne q hq).1, (hI8.hne q hq).2.1, fun e => ?_⟩, Or.inr rfl, g1, ?_, hI8.hs.trans g5 (fun _ h => h) (fun q hq => Or.inr ?_), hI8.hB.trans (g5.below (Nat.le_trans hI8.hw hI8.hB.size) (fun q hq => ?_)), hI8.hw, Nat.le_trans hI8.hz g5.size, hI8.hTb⟩
     ·rcases e with e | e
      ·exact (hI8.hne q hq).2.1 e
      ·exact (hI8.hne q hq).2.2 e
     ·rcases g4 q e with h | h
      ·exact (hI8.hne q hq).2.2 h
      ·have := hI8.lts.2.2 q hq; omega
     ·rw [Lib.byteCells_append, List.length_append]
      show w9.ownsRowF (b + 1) 5 1 v9 ((upL ps).length + (strOfNums (rootL x0 x1 y)).data.toList.length) _
      rw [data_length, ← Lib.strCells_eq]
      exact g2
     ·rcases hq with rfl | hq
      ·exact hbw2
      ·have := (hI8.ho.lt q hq).1; omega
     ·rcases hq with rfl | hq
      ·omega
      ·have := (hI8.ho.lt q hq).1; omega
    go_wp2
    exact ⟨⟨j + 1, n2, A2, c2, vn, _, v9, by omega, by simp, hI9⟩, by simp [intOf]; omega⟩
   ·have ej : j = level.length := by omega
    have dj : ¬ (j : Int) < (level.length : Int) := by omega
    rw [ej, List.take_length] at hI
    have h3 := hI.ho
    have hne : vb.ownBlock ≠ some b := fun e => by have := (h3.lt b e).1; omega
    have hIs : Lib.IsBuilderF 158 5 b b (Lib.byteCells (upL (layP level ats))) wr := by
     rw [← Lib.byteCells_length (upL (layP level ats))] at h3
     have hbk := hI.hb
     rcases hI.hp with rfl | rfl
     ·exact Or.inl ⟨Nat.le_refl _, vb, hbk, ownsRowF_less h3 (by omega), hne⟩
     ·exact Or.inr ⟨Nat.le_refl _, vb, hbk, ownsRowF_less h3 (by omega), hne⟩
    have hzz := hI.hz
    have hS := Tryd.Builder_String_any_k b b _ wr hIs (by omega)
    clear ej
    go_wp2_with (go_at_call 99; with_reducible refine hS.mono ?_)
    rintro e w3 rfl - hB3 hO3
    have hT3 := hB3.block T hI.hTb
    rw [hI.hT] at hT3
    have hsE : Step (fun k => k = T ∨ vp.ownBlock = some k) w w3 := hI.hs.trans (⟨hB3.mono (Nat.zero_le _), fun q hq hn => hB3.block q (Nat.lt_of_not_ge hn)⟩ : Step (fun q => b ≤ q) wr w3) (fun _ h => h) (fun q hq => Or.inr (Nat.le_trans hbw2 hq))
    have hPE := R130_move hI.hP hB3.size (fun g o hg ho => hO3 g o ho (fun e => (hI.hne g hg).2.1 (Option.some.inj e)) (fun cs fz e => by
     obtain ⟨inner, hor⟩ := Kd.R_own hI.hP
     obtain ⟨cells, hcl9⟩ := own_typed hor g hg
     rw [hcl9] at ho
     rw [e] at ho
     cases ho))
    go_wp2
    go_ret
    exact ⟨_, _, _, _, rfl, hI.hn, hT3, hI.hc, hI.hA, hPE, hI.hv, fun e => (hI.hne T e).1 rfl, hsE⟩
theorem ix0 (W : World) (a b : Int) : (Instr.index 200 (.agg #[.int .i64 a, .int .i64 b]) (.int .i64 0)).run Tryd.prog W = .ok (.int .i64 a) W := by
 have h := Tryd.underlying200
 simp [Instr.index, run_underlying h, asIntOf, go_sem]
theorem ix1 (W : World) (a b : Int) : (Instr.index 200 (.agg #[.int .i64 a, .int .i64 b]) (.int .i64 1)).run Tryd.prog W = .ok (.int .i64 b) W := by
 have h := Tryd.underlying200
 simp [Instr.index, run_underlying h, asIntOf, go_sem]
def pageA (xs : List ByteArray) (F : FL) (B : BL) (off : Bool) (sh gk gm gc a b sm : Int) : ByteArray × Int :=
 if (readA xs F B off sh gk gm gc a sm).2 = 0 ∨ (readA xs F B off sh gk gm gc a sm).2 = 12 then readA xs F B off sh gk gm gc a sm else
 if (readA xs F B off sh gk gm gc b sm).2 = 0 ∨ (readA xs F B off sh gk gm gc b sm).2 = 12 then readA xs F B off sh gk gm gc b sm else (⟨#[]⟩, 10)
set_option maxRecDepth 100000 in
set_option maxHeartbeats 8000000 in
theorem page_any (w : World) (hT : TabAt w) (i : DevIds) (xs : List ByteArray) (F : FL) (B : BL) (off : Bool) (fuse nw : Int) (hD : DevAt w i xs F B off fuse nw) (sh gk gm gc a b sm : Int) :
  Calls Tryd.prog 123 #[.pointer (some ⟨i.d, 0, none⟩), .agg #[.int .i64 sh, .int .i64 gk, .int .i64 gm, .int .i64 gc], .agg #[.int .i64 a, .int .i64 b, .int .u32 sm]] w fun e w' => e = .returned (.tuple #[.string (pageA xs F B off sh gk gm gc a b sm).1, .int .i64 (pageA xs F B off sh gk gm gc a b sm).2]) ∧ Step (fun _ => False) w w' := by
 have hu23 := Tryd.underlying23
 have hu26 := Tryd.underlying26
 have hu200 := Tryd.underlying200
 have hRA : ∀ W, Step (fun _ => False) w W → Calls Tryd.prog 125 #[.pointer (some ⟨i.d, 0, none⟩), .agg #[.int .i64 sh, .int .i64 gk, .int .i64 gm, .int .i64 gc], .int .i64 a, .int .u32 sm] W fun e w' => e = .returned (.tuple #[.string (readA xs F B off sh gk gm gc a sm).1, .int .i64 (readA xs F B off sh gk gm gc a sm).2]) ∧ Step (fun _ => False) W w' := fun W hW => cluster_Read_all W i xs F B off fuse nw sh gk gm gc a sm (hT.step hW (fun h => h)) (hD.step hW (fun _ _ h => h))
 have hRB : ∀ W, Step (fun _ => False) w W → Calls Tryd.prog 125 #[.pointer (some ⟨i.d, 0, none⟩), .agg #[.int .i64 sh, .int .i64 gk, .int .i64 gm, .int .i64 gc], .int .i64 b, .int .u32 sm] W fun e w' => e = .returned (.tuple #[.string (readA xs F B off sh gk gm gc b sm).1, .int .i64 (readA xs F B off sh gk gm gc b sm).2]) ∧ Step (fun _ => False) W w' := fun W hW => cluster_Read_all W i xs F B off fuse nw sh gk gm gc b sm (hT.step hW (fun h => h)) (hD.step hW (fun _ _ h => h))
 obtain ⟨R, hR⟩ : ∃ R, R = pageA xs F B off sh gk gm gc a b sm := ⟨_, rfl⟩
 rw [← hR]
 unfold pageA at hR
 generalize readA xs F B off sh gk gm gc a sm = r1 at hRA hR
 generalize readA xs F B off sh gk gm gc b sm = r2 at hRB hR
 obtain ⟨s1, y1⟩ := r1
 obtain ⟨s2, y2⟩ := r2
 dsimp only at hRA hRB hR
 have hb0 : Step (fun _ => False) w ((w.alloc (.cells #[.int .i64 sh, .int .i64 gk, .int .i64 gm, .int .i64 gc] 23)).alloc (.cells #[.int .i64 a, .int .i64 b, .int .u32 sm] 26)) := Step.of_below (below2 w _ _)
 have p0 := new1of2 w (.cells #[.int .i64 sh, .int .i64 gk, .int .i64 gm, .int .i64 gc] 23) (.cells #[.int .i64 a, .int .i64 b, .int .u32 sm] 26)
 have p1 := new2 w (.cells #[.int .i64 sh, .int .i64 gk, .int .i64 gm, .int .i64 gc] 23) (.cells #[.int .i64 a, .int .i64 b, .int .u32 sm] 26)
 go_enter Tryd.func123, Tryd.ntmps123
 go_upto_region 1 with (fail)
 generalize (w.alloc (.cells #[.int .i64 sh, .int .i64 gk, .int .i64 gm, .int .i64 gc] 23)).alloc (.cells #[.int .i64 a, .int .i64 b, .int .u32 sm] 26) = W0 at hb0 p0 p1 ⊢
 obtain ⟨z0, z1, z2⟩ := blk3 p1
 go_wp2
 go_loopw [17] (fun t17 wr => ∃ j : Nat, j ≤ 2 ∧ t17 = .int .i64 j ∧ (1 ≤ j → ¬ (y1 = 0 ∨ y1 = 12)) ∧ (2 ≤ j → ¬ (y2 = 0 ∨ y2 = 12)) ∧ wr.heap[w.heap.size]? = some (.cells #[.int .i64 sh, .int .i64 gk, .int .i64 gm, .int .i64 gc] 23 (0, 0)) ∧ wr.heap[w.heap.size + 1]? = some (.cells #[.int .i64 a, .int .i64 b, .int .u32 sm] 26 (0, 0)) ∧ Step (fun _ => False) w wr) (fun t17 _ => 2 - (intOf t17).toNat)
 case atStart => exact ⟨0, by omega, rfl, fun h => absurd h (by decide), fun h => absurd h (by decide), p0, p1, hb0⟩
 case round =>
  as_aux_lemma =>
   clear z0 z1 z2 p0 p1 hb0
   obtain ⟨j, hj, rfl, h1, h2, p0, p1, hs⟩ := hrel
   obtain ⟨⟨a0, a1, a2, a3⟩, _⟩ := blk4 p0
   obtain ⟨z0, z1, z2⟩ := blk3 p1
   have i0 := fun W => ix0 W a b
   have i1 := fun W => ix1 W a b
   rcases (show j = 0 ∨ j = 1 ∨ j = 2 by omega) with rfl | rfl | rfl
   ·clear h1 h2
    go_wp2_with (go_at_call 125; with_reducible refine (hRA _ hs).mono ?_)
    rintro e w2 ⟨rfl, hs2⟩
    have q0 := hs2.block p0 (fun h => h)
    have q1 := hs2.block p1 (fun h => h)
    have hs3 := step2 hs hs2
    clear a0 a1 a2 a3 z0 z1 z2 p0 p1 hs hs2 hRA hRB
    by_cases c0 : y1 = 0
    ·have d0 : (y1 == 0) = true := by simpa using c0
     rw [if_pos (Or.inl c0)] at hR
     subst hR
     clear c0
     go_wp2
     go_ret2
     exact ⟨rfl, hs3⟩
    ·have d0 : (y1 == 0) = false := by simpa using c0
     by_cases c1 : y1 = 12
     ·have d1 : (y1 == 12) = true := by simpa using c1
      rw [if_pos (Or.inr c1)] at hR
      subst hR
      clear c0 c1
      go_wp2
      go_ret2
      exact ⟨rfl, hs3⟩
     ·have d1 : (y1 == 12) = false := by simpa using c1
      have hn : ¬ (y1 = 0 ∨ y1 = 12) := fun h => h.elim c0 c1
      clear hR c0 c1
      go_wp2
      exact ⟨⟨1, by omega, by simp, fun _ => hn, fun h => absurd h (by decide), q0, q1, hs3⟩, by simp [intOf]⟩
   ·have hn1 := h1 (by decide)
    rw [if_neg hn1] at hR
    clear h1 h2
    have hk1 : True → ¬ (y1 = 0 ∨ y1 = 12) := fun _ => hn1
    clear hn1
    go_wp2_with (go_at_call 125; with_reducible refine (hRB _ hs).mono ?_)
    rintro e w2 ⟨rfl, hs2⟩
    have q0 := hs2.block p0 (fun h => h)
    have q1 := hs2.block p1 (fun h => h)
    have hs3 := step2 hs hs2
    clear a0 a1 a2 a3 z0 z1 z2 p0 p1 hs hs2 hRA hRB
    by_cases c0 : y2 = 0
    ·have d0 : (y2 == 0) = true := by simpa using c0
     rw [if_pos (Or.inl c0)] at hR
     subst hR
     clear c0
     go_wp2
     go_ret2
     exact ⟨rfl, hs3⟩
    ·have d0 : (y2 == 0) = false := by simpa using c0
     by_cases c1 : y2 = 12
     ·have d1 : (y2 == 12) = true := by simpa using c1
      rw [if_pos (Or.inr c1)] at hR
      subst hR
      clear c0 c1
      go_wp2
      go_ret2
      exact ⟨rfl, hs3⟩
     ·have d1 : (y2 == 12) = false := by simpa using c1
      have hn : ¬ (y2 = 0 ∨ y2 = 12) := fun h => h.elim c0 c1
      clear hR c0 c1
      go_wp2
      exact ⟨⟨2, by omega, by simp, fun _ => hk1 trivial, fun _ => hn, q0, q1, hs3⟩, by simp [intOf]⟩
   ·have hn1 := h1 (by decide)
    have hn2 := h2 (by decide)
    rw [if_neg hn1, if_neg hn2] at hR
    subst hR
    clear h1 h2 hn1 hn2
    go_wp2
    go_ret2
    exact ⟨rfl, hs⟩
theorem DevAt.kept {w w' : World} {i : DevIds} {xs : List ByteArray} {F : FL} {B : BL} {off : Bool} {fuse nw : Int} (h : DevAt w i xs F B off fuse nw) (hb : Below w.heap.size w w') : DevAt w' i xs F B off fuse nw := h.step (Step.of_below (S := fun _ => False) hb) (fun _ _ h => h)
def pgW (n : Nat) (sh gk gm gc : Int) (p : S130) (r : WrS) : WrS :=
 if (writeA n ⟨r.F, r.off, r.fuse, r.nw, 0⟩ sh gk gm gc p.f0.f0 p.f1).e ≠ 0 then writeA n ⟨r.F, r.off, r.fuse, r.nw, 0⟩ sh gk gm gc p.f0.f0 p.f1 else
 writeA n ⟨(writeA n ⟨r.F, r.off, r.fuse, r.nw, 0⟩ sh gk gm gc p.f0.f0 p.f1).F, (writeA n ⟨r.F, r.off, r.fuse, r.nw, 0⟩ sh gk gm gc p.f0.f0 p.f1).off, (writeA n ⟨r.F, r.off, r.fuse, r.nw, 0⟩ sh gk gm gc p.f0.f0 p.f1).fuse, (writeA n ⟨r.F, r.off, r.fuse, r.nw, 0⟩ sh gk gm gc p.f0.f0 p.f1).nw, 0⟩ sh gk gm gc p.f0.f1 p.f1
def pgK (n : Nat) (sh gk gm gc : Int) : List S130 → WrS → WrS
 | [], r => r
 | p :: l, r => if (pgW n sh gk gm gc p r).e = 0 then pgK n sh gk gm gc l (pgW n sh gk gm gc p r) else pgW n sh gk gm gc p r
theorem drop_at {l : List S130} {j : Nat} (hj : j < l.length) : l.drop j = rd_T130 l (j : Int) :: l.drop (j + 1) := by
 rw [List.drop_eq_getElem_cons hj, rd_T130, Int.toNat_natCast, List.getD_eq_getElem?_getD, List.getElem?_eq_getElem hj, Option.getD_some]
set_option maxRecDepth 100000 in
set_option maxHeartbeats 8000000 in
theorem pages_Write_any (w : World) (i : DevIds) (xs : List ByteArray) (F : FL) (B : BL) (off : Bool) (fuse nw : Int) (hD : DevAt w i xs F B off fuse nw) (sh gk gm gc : Int) (A : Option Addr) (c : Nat) (l : List S130) (hll : l.length ≤ 1000000) (hcl : l.length ≤ c) (hC : ∀ w', Step i.In w w' → Kd.C k130 w' A l.length l) (R : WrS) (hR : R = pgK xs.length sh gk gm gc l ⟨F, off, fuse, nw, 0⟩) :
  Calls Tryd.prog 28 #[.pointer (some ⟨i.d, 0, none⟩), .agg #[.int .i64 sh, .int .i64 gk, .int .i64 gm, .int .i64 gc], .slice A l.length c] w fun e w' => e = .returned (.int .i64 R.e) ∧ DevAt w' i xs R.F B R.off R.fuse R.nw ∧ Step i.In w w' := by
 have hu23 := Tryd.underlying23
 have hu26 := Tryd.underlying26
 have hu130 := Tryd.underlying130
 have hlt := hD.lt
 have hb0 : Below w.heap.size w (w.alloc (.cells #[.int .i64 sh, .int .i64 gk, .int .i64 gm, .int .i64 gc] 23)) := (Below.refl _ _).alloc (Nat.le_refl _) _
 have p0 := World.alloc_heap_new w (.cells #[.int .i64 sh, .int .i64 gk, .int .i64 gm, .int .i64 gc] 23)
 have hD0 := hD.kept hb0
 have hs0 : Step i.In w (w.alloc (.cells #[.int .i64 sh, .int .i64 gk, .int .i64 gm, .int .i64 gc] 23)) := Step.of_below hb0
 go_enter Tryd.func28, Tryd.ntmps28
 go_upto_region 1 with (fail)
 generalize w.alloc (.cells #[.int .i64 sh, .int .i64 gk, .int .i64 gm, .int .i64 gc] 23) = W0 at p0 hD0 hs0 ⊢
 clear hb0 hD
 go_wp2
 go_loopw [13] (fun t13 wr => ∃ (j : Nat) (F : FL) (off : Bool) (fuse nw : Int), j ≤ l.length ∧ t13 = .int .i64 j ∧ R = pgK xs.length sh gk gm gc (l.drop j) ⟨F, off, fuse, nw, 0⟩ ∧ wr.heap[w.heap.size]? = some (.cells #[.int .i64 sh, .int .i64 gk, .int .i64 gm, .int .i64 gc] 23 (0, 0)) ∧ DevAt wr i xs F B off fuse nw ∧ Step i.In w wr) (fun t13 _ => l.length - (intOf t13).toNat)
 case atStart => exact ⟨0, F, off, fuse, nw, Nat.zero_le _, rfl, hR, p0, hD0, hs0⟩
 case round =>
  as_aux_lemma =>
   clear p0 hD0 hs0 hR
   obtain ⟨j, F, off, fuse, nw, hj, rfl, hR, p0, hD, hs⟩ := hrel
   by_cases hjl : j < l.length
   ·have hjI : (j : Int) < (l.length : Int) := by omega
    have hj0 : (0 : Int) ≤ (j : Int) := by omega
    obtain ⟨adL, rfl, u0, u1, u2, u3⟩ := at_T130 (hC wr hs) (j : Int) (by omega) hjI
    simp only [Int.toNat_natCast] at u0 u1 u2 u3
    rw [drop_at hjl, pgK] at hR
    generalize rd_T130 l (j : Int) = X at u0 u1 u2 u3 hR
    have hzw : w.heap.size < wr.heap.size := (Array.getElem?_eq_some_iff.1 p0).1
    have hb3 : Below wr.heap.size wr (wr.alloc (.cells #[.int .i64 X.f0.f0, .int .i64 X.f0.f1, .int .u32 X.f0.f2, .string X.f1] 130)) := (Below.refl _ _).alloc (Nat.le_refl _) _
    have zX := World.alloc_heap_new wr (.cells #[.int .i64 X.f0.f0, .int .i64 X.f0.f1, .int .u32 X.f0.f2, .string X.f1] 130)
    have hgx : ∀ q, i.In q → q < wr.heap.size := hD.lt
    replace p0 := Stepb hb3 p0
    replace hs := hs.trans (Step.of_below (S := i.In) hb3) (fun _ h => h) (fun _ h => Or.inl h)
    replace hD := hD.kept hb3
    clear hb3
    go_upto_region 4 with (fail)
    generalize wr.heap.size = gx at zX hgx hzw ⊢
    generalize wr.alloc (.cells #[.int .i64 X.f0.f0, .int .i64 X.f0.f1, .int .u32 X.f0.f2, .string X.f1] 130) = wa at zX p0 hs hD ⊢
    clear u0 u1 u2 u3
    have hWa := cluster_Write_all wa i xs F B off fuse nw sh gk gm gc X.f0.f0 X.f1 hD _ rfl
    generalize hP : pgW xs.length sh gk gm gc X ⟨F, off, fuse, nw, 0⟩ = P at hR
    unfold pgW at hP
    dsimp only at hP
    generalize writeA xs.length ⟨F, off, fuse, nw, 0⟩ sh gk gm gc X.f0.f0 X.f1 = r1 at hWa hP
    obtain ⟨⟨a0, a1, a2, a3⟩, _⟩ := blk4 p0
    obtain ⟨⟨z0, z1, z2, z3⟩, _⟩ := blk4 zX
    go_wp2_with (go_at_call 81; with_reducible refine hWa.mono ?_)
    rintro e w5 ⟨rfl, hD5, hs5⟩
    have q0 := hs5.block p0 (fun h => by have := hlt _ h; omega)
    have zX5 := hs5.block zX (fun h => by have := hgx _ h; omega)
    have hs5' := hs.trans hs5 (fun _ h => h) (fun _ h => Or.inl h)
    clear a0 a1 a2 a3 z0 z1 z2 z3 p0 zX hs hs5 hD hWa
    by_cases h1 : r1.e = 0
    case neg =>
     have d1 : (r1.e != 0) = true := by simpa using h1
     rw [if_pos h1] at hP
     subst hP
     rw [if_neg h1] at hR
     subst hR
     clear h1
     go_wp2
     go_ret
     exact ⟨rfl, hD5, hs5'⟩
    have d1 : (r1.e != 0) = false := by simpa using h1
    have hWb := cluster_Write_all w5 i xs r1.F B r1.off r1.fuse r1.nw sh gk gm gc X.f0.f1 X.f1 hD5 _ rfl
    rw [if_neg (fun h => h h1)] at hP
    generalize writeA xs.length ⟨r1.F, r1.off, r1.fuse, r1.nw, 0⟩ sh gk gm gc X.f0.f1 X.f1 = r2 at hWb hP
    subst hP
    clear h1
    obtain ⟨⟨a0, a1, a2, a3⟩, _⟩ := blk4 q0
    obtain ⟨⟨z0, z1, z2, z3⟩, _⟩ := blk4 zX5
    go_wp2_with (go_at_call 81; with_reducible refine hWb.mono ?_)
    rintro e w6 ⟨rfl, hD6, hs6⟩
    have q6 := hs6.block q0 (fun h => by have := hlt _ h; omega)
    have hs6' := hs5'.trans hs6 (fun _ h => h) (fun _ h => Or.inl h)
    clear a0 a1 a2 a3 z0 z1 z2 z3 q0 zX5 hs5' hs6 hD5 hWb
    by_cases h2 : r2.e = 0
    ·have d2 : (r2.e != 0) = false := by simpa using h2
     rw [if_pos h2] at hR
     have hr2 : r2 = ⟨r2.F, r2.off, r2.fuse, r2.nw, 0⟩ := by rw [← h2]
     rw [hr2] at hR
     clear h2 hr2
     go_wp2
     exact ⟨⟨j + 1, r2.F, r2.off, r2.fuse, r2.nw, by omega, by simp, hR, q6, hD6, hs6'⟩, by simp [intOf]; omega⟩
    ·have d2 : (r2.e != 0) = true := by simpa using h2
     rw [if_neg h2] at hR
     subst hR
     clear h2
     go_wp2
     go_ret
     exact ⟨rfl, hD6, hs6'⟩
   ·have dj : ¬ (j : Int) < (l.length : Int) := by omega
    have hRr : R = ⟨F, off, fuse, nw, 0⟩ := by
     have ej : l.drop j = [] := List.drop_of_length_le (by omega)
     rw [ej] at hR
     exact hR
    clear hR hjl hj
    subst hRr
    go_wp2
    go_ret
    exact ⟨rfl, hD, hs⟩
theorem readA_size {xs : List ByteArray} {F : FL} {B : BL} {fuse : Int} {off : Bool} (h : DevOk xs F B fuse) {sh gk gm gc a sm : Int} (h0 : (readA xs F B off sh gk gm gc a sm).2 = 0) : (readA xs F B off sh gk gm gc a sm).1.size = 512 * nS sh := by
 unfold readA at h0 ⊢
 by_cases c1 : (rawA xs F B off sh gk gm gc a).2 ≠ 0
 ·rw [if_pos c1] at h0; exact absurd h0 c1
 rw [if_neg c1] at h0 ⊢
 by_cases c2 : sumC (rawA xs F B off sh gk gm gc a).1 = sm
 ·rw [if_pos c2]
  have c3 : (rawA xs F B off sh gk gm gc a).2 = 0 := by simpa using c1
  unfold rawA at c3 ⊢
  by_cases c4 : (firstP sh gk gm gc a).2 ≠ 0
  ·rw [if_pos c4] at c3; exact absurd c3 c4
  rw [if_neg c4] at c3 ⊢
  have := rawG_len h (f0 := a * (nS sh : Int)) (nS sh) c3
  show (rawG xs F B off (a * (nS sh : Int)) (nS sh)).1.toArray.size = _
  rw [List.size_toArray]
  exact this
 ·rw [if_neg c2] at h0; exact absurd h0 (by decide)
theorem pageA_size {xs : List ByteArray} {F : FL} {B : BL} {fuse : Int} {off : Bool} (h : DevOk xs F B fuse) {sh gk gm gc a b sm : Int} (h0 : (pageA xs F B off sh gk gm gc a b sm).2 = 0) : (pageA xs F B off sh gk gm gc a b sm).1.size = 512 * nS sh := by
 unfold pageA at h0 ⊢
 split at h0
 ·rename_i c; rw [if_pos c]; exact readA_size h h0
 ·rename_i c
  rw [if_neg c]
  split at h0
  ·rename_i c2; rw [if_pos c2]; exact readA_size h h0
  ·exact absurd h0 (by decide)
def belA (xs : List ByteArray) (F : FL) (B : BL) (off : Bool) (sh gk gm gc : Int) (each : Nat) : List S26 → List UInt8 × Int
 | [] => ([], 0)
 | p :: l => if (pageA xs F B off sh gk gm gc p.f0 p.f1 p.f2).2 ≠ 0 then ([], (pageA xs F B off sh gk gm gc p.f0 p.f1 p.f2).2) else
  if (belA xs F B off sh gk gm gc each l).2 ≠ 0 then ([], (belA xs F B off sh gk gm gc each l).2) else (((pageA xs F B off sh gk gm gc p.f0 p.f1 p.f2).1.extract 0 each).data.toList ++ (belA xs F B off sh gk gm gc each l).1, 0)
theorem bel_err {xs : List ByteArray} {F : FL} {B : BL} {off : Bool} {sh gk gm gc : Int} {each : Nat} : ∀ l : List S26, (belA xs F B off sh gk gm gc each l).2 ≠ 0 → (belA xs F B off sh gk gm gc each l).1 = []
 | [], _ => rfl
 | p :: l, h => by
  rw [belA] at h ⊢
  split
  ·rfl
  ·rename_i c1
   rw [if_neg c1] at h
   split
   ·rfl
   ·rename_i c2
    rw [if_neg c2] at h
    exact absurd rfl h
theorem drop26 {l : List S26} {j : Nat} (hj : j < l.length) : l.drop j = rd_T26 l (j : Int) :: l.drop (j + 1) := by
 rw [List.drop_eq_getElem_cons hj, rd_T26, Int.toNat_natCast, List.getD_eq_getElem?_getD, List.getElem?_eq_getElem hj, Option.getD_some]
set_option maxRecDepth 100000 in
set_option maxHeartbeats 8000000 in
theorem below_any (w : World) (hT : TabAt w) (i : DevIds) (xs : List ByteArray) (F : FL) (B : BL) (off : Bool) (fuse nw : Int) (hD : DevAt w i xs F B off fuse nw) (sh gk gm gc : Int) (A : Option Addr) (c : Nat) (l : List S26) (hll : l.length ≤ 1000000) (hcl : l.length ≤ c) (hC : Kd.C k26 w A l.length l) (each : Nat) (he : each ≤ 512 * nS sh) (he2 : each ≤ 65536) (R : List UInt8 × Int) (hR : R = belA xs F B off sh gk gm gc each l) :
  Calls Tryd.prog 84 #[.pointer (some ⟨i.d, 0, none⟩), .agg #[.int .i64 sh, .int .i64 gk, .int .i64 gm, .int .i64 gc], .slice A l.length c, .int .i64 each] w fun e w' => e = .returned (.tuple #[.string ⟨R.1.toArray⟩, .int .i64 R.2]) ∧ Step (fun _ => False) w w' := by
 have hu23 := Tryd.underlying23
 have hu26 := Tryd.underlying26
 have hu158 := Tryd.underlying158
 have hRe : R.2 ≠ 0 → R.1 = [] := by rw [hR]; exact bel_err l
 obtain ⟨b, hb⟩ : ∃ b, b = w.heap.size + 1 := ⟨_, rfl⟩
 have hb0 : Step (fun _ => False) w ((w.alloc (.cells #[.int .i64 sh, .int .i64 gk, .int .i64 gm, .int .i64 gc] 23)).alloc (.cells #[.pointer none, .slice none 0 0] 158)) := Step.of_below (below2 w _ _)
 have p0 := new1of2 w (.cells #[.int .i64 sh, .int .i64 gk, .int .i64 gm, .int .i64 gc] 23) (.cells #[.pointer none, .slice none 0 0] 158)
 have p1 := new2 w (.cells #[.int .i64 sh, .int .i64 gk, .int .i64 gm, .int .i64 gc] 23) (.cells #[.pointer none, .slice none 0 0] 158)
 have hz0 : b + 1 ≤ ((w.alloc (.cells #[.int .i64 sh, .int .i64 gk, .int .i64 gm, .int .i64 gc] 23)).alloc (.cells #[.pointer none, .slice none 0 0] 158)).heap.size := by rw [hb]; simp
 rw [← hb] at p1
 have hbw : w.heap.size < b := by omega
 have hbw2 : b ≤ w.heap.size + 1 := by omega
 go_enter Tryd.func84, Tryd.ntmps84
 go_upto_region 2 with (fail)
 rw [← hb]
 generalize (w.alloc (.cells #[.int .i64 sh, .int .i64 gk, .int .i64 gm, .int .i64 gc] 23)).alloc (.cells #[.pointer none, .slice none 0 0] 158) = W0 at hb0 p0 p1 hz0 ⊢
 clear hb
 go_wp2
 go_loopw [17] (fun t17 wr => ∃ (j : Nat) (us : List UInt8) (p vb : Value), j ≤ l.length ∧ t17 = .int .i64 j ∧ us.length ≤ 65536 * j ∧ R.2 = (belA xs F B off sh gk gm gc each (l.drop j)).2 ∧ (R.2 = 0 → R.1 = us ++ (belA xs F B off sh gk gm gc each (l.drop j)).1) ∧ wr.heap[w.heap.size]? = some (.cells #[.int .i64 sh, .int .i64 gk, .int .i64 gm, .int .i64 gc] 23 (0, 0)) ∧ (p = .pointer none ∨ p = .pointer (some ⟨b, 0, none⟩)) ∧ wr.heap[b]? = some (.cells #[p, vb] 158 (0, 0)) ∧ wr.ownsRowF (b + 1) 5 1 vb us.length (Lib.byteCells us) ∧ b + 1 ≤ wr.heap.size ∧ Step (fun _ => False) w wr) (fun t17 _ => l.length - (intOf t17).toNat)
 case atStart => exact ⟨0, [], _, _, Nat.zero_le _, rfl, by simp, by rw [hR]; rfl, fun _ => by rw [hR]; rfl, p0, Or.inl rfl, p1, World.ownsRowF_nil _ _ _ _, hz0, hb0⟩
 case round =>
  as_aux_lemma =>
   clear p0 p1 hz0 hb0
   obtain ⟨j, us, p, vb, hj, rfl, hul, hR2, hR1, p0, hp, hbk, ho, hz, hs⟩ := hrel
   by_cases hjl : j < l.length
   ·have hjI : (j : Int) < (l.length : Int) := by omega
    have hj0 : (0 : Int) ≤ (j : Int) := by omega
    obtain ⟨adL, rfl, u0, u1, u2⟩ := at_T26 (Kd.C_below hC (hs.below (Nat.le_refl _) (fun _ h => h.elim))) (j : Int) (by omega) hjI
    simp only [Int.toNat_natCast] at u0 u1 u2
    rw [drop26 hjl, belA] at hR2 hR1
    generalize rd_T26 l (j : Int) = X at u0 u1 u2 hR2 hR1
    have hb3 : Below wr.heap.size wr (wr.alloc (.cells #[.int .i64 X.f0, .int .i64 X.f1, .int .u32 X.f2] 26)) := (Below.refl _ _).alloc (Nat.le_refl _) _
    have zX := World.alloc_heap_new wr (.cells #[.int .i64 X.f0, .int .i64 X.f1, .int .u32 X.f2] 26)
    have hs3 : Step (fun _ => False) wr (wr.alloc (.cells #[.int .i64 X.f0, .int .i64 X.f1, .int .u32 X.f2] 26)) := Step.of_below hb3
    have hsa := step2 hs hs3
    have hPg := page_any _ (hT.step hsa (fun h => h)) i xs F B off fuse nw (hD.step hsa (fun _ _ h => h)) sh gk gm gc X.f0 X.f1 X.f2
    have hpz := pageA_size (off := off) hD.ok (sh := sh) (gk := gk) (gm := gm) (gc := gc) (a := X.f0) (b := X.f1) (sm := X.f2)
    generalize pageA xs F B off sh gk gm gc X.f0 X.f1 X.f2 = r at hPg hpz hR2 hR1
    obtain ⟨s, y⟩ := r
    dsimp only at hPg hpz hR2 hR1
    replace p0 := hs3.block p0 (fun h => h)
    replace hbk := hs3.block hbk (fun h => h)
    replace ho := ownsRowF_step hs3 ho (fun _ _ h => h)
    replace hz := Nat.le_trans hz hs3.size
    clear hb3 hs hs3
    go_upto_region 5 with (fail)
    generalize wr.heap.size = gx at zX ⊢
    generalize wr.alloc (.cells #[.int .i64 X.f0, .int .i64 X.f1, .int .u32 X.f2] 26) = wa at zX p0 hbk ho hz hsa hPg ⊢
    clear u0 u1 u2
    obtain ⟨⟨a0, a1, a2, a3⟩, _⟩ := blk4 p0
    obtain ⟨z0, z1, z2⟩ := blk3 zX
    go_wp2_with (go_at_call 123; with_reducible refine hPg.mono ?_)
    rintro e w5 ⟨rfl, hs5⟩
    replace p0 := hs5.block p0 (fun h => h)
    replace hbk := hs5.block hbk (fun h => h)
    replace ho := ownsRowF_step hs5 ho (fun _ _ h => h)
    replace hz := Nat.le_trans hz hs5.size
    replace hsa := step2 hsa hs5
    clear a0 a1 a2 a3 z0 z1 z2 zX hs5 hPg
    by_cases hy : y = 0
    case neg =>
     have d1 : (y != 0) = true := by simpa using hy
     rw [if_pos hy] at hR2
     have hR2' : R.2 = y := hR2
     have hR1' := hRe (by rw [hR2']; exact hy)
     clear hR1 hR2 hRe hR
     go_wp2
     go_ret2
     exact ⟨by rw [hR1', hR2']; rfl, hsa⟩
    have d1 : (y != 0) = false := by simpa using hy
    have hss := hpz hy
    rw [if_neg (fun h => h hy)] at hR2 hR1
    have hsl : ∀ W : World, (Instr.slice 9 (.string s) none (some (.int .i64 (each : Int))) none).run Tryd.prog W = .ok (.string (s.extract 0 each)) W := fun W => by
     have := slice_hi W s (each : Int) (by omega) (by omega)
     rwa [Int.toNat_natCast] at this
    have hex : (s.extract 0 each).size = each := by rw [ByteArray.size_extract]; omega
    have hW := writeString_s (b + 1) b p vb _ _ (s.extract 0 each) w5 hp hbk ho (fun e => by have := (ho.lt b e).1; omega) (by rw [hex]; omega) hz
    clear hpz hss hy
    go_wp2_with (go_at_call 98; with_reducible refine hW.mono ?_)
    rintro e w9 ⟨rfl, v9, g1, g2, g3, g4, g5⟩
    have hge : ∀ q, q = b ∨ vb.ownBlock = some q → w.heap.size + 1 ≤ q := fun q hq => by
     rcases hq with rfl | hq
     ·omega
     ·have := (ho.lt q hq).1; omega
    have hs9 := hsa.trans g5 (fun _ h => h) (fun q hq => Or.inr (by have := hge q hq; omega))
    have q0 := g5.block p0 (fun h => by have := hge _ h; omega)
    have hz9 := Nat.le_trans hz g5.size
    go_wp2
    refine ⟨⟨j + 1, us ++ (s.extract 0 each).data.toList, _, v9, by omega, by simp, ?_, ?_, ?_, q0, Or.inr rfl, g1, ?_, hz9, hs9⟩, by simp [intOf]; omega⟩
    ·rw [List.length_append, data_length, hex]; omega
    ·rw [hR2]
     by_cases hc2 : (belA xs F B off sh gk gm gc each (l.drop (j + 1))).2 ≠ 0
     ·rw [if_pos hc2]
     ·rw [if_neg hc2]
      have : (belA xs F B off sh gk gm gc each (l.drop (j + 1))).2 = 0 := by simpa using hc2
      rw [this]
    ·intro h0
     have h1 := hR1 h0
     by_cases hc2 : (belA xs F B off sh gk gm gc each (l.drop (j + 1))).2 ≠ 0
     ·rw [if_pos hc2] at hR2
      exact absurd (hR2.symm.trans h0) hc2
     ·rw [if_neg hc2] at h1
      rw [h1, List.append_assoc]
    ·rw [Lib.byteCells_append, List.length_append, data_length, ← Lib.strCells_eq]
     exact g2
   ·have dj : ¬ (j : Int) < (l.length : Int) := by omega
    have ed : l.drop j = [] := List.drop_of_length_le (by omega)
    rw [ed] at hR2 hR1
    have hR2' : R.2 = 0 := hR2
    have hR1' : R.1 = us := by rw [hR1 hR2']; exact List.append_nil us
    have hne : vb.ownBlock ≠ some b := fun e => by have := (ho.lt b e).1; omega
    have hIs : Lib.IsBuilderF 158 5 b b (Lib.byteCells us) wr := by
     rw [← Lib.byteCells_length us] at ho
     rcases hp with rfl | rfl
     ·exact Or.inl ⟨Nat.le_refl _, vb, hbk, ownsRowF_less ho (by omega), hne⟩
     ·exact Or.inr ⟨Nat.le_refl _, vb, hbk, ownsRowF_less ho (by omega), hne⟩
    have hS := Tryd.Builder_String_any_k b b _ wr hIs (by omega)
    clear hR1 hR2 hRe hR ed hj hjl hul
    go_wp2_with (go_at_call 99; with_reducible refine hS.mono ?_)
    rintro e w3 rfl - hB3 -
    have hsE : Step (fun _ => False) w w3 := hs.trans (⟨hB3.mono (Nat.zero_le _), fun q hq hn => hB3.block q (Nat.lt_of_not_ge hn)⟩ : Step (fun q => b ≤ q) wr w3) (fun _ h => h) (fun q hq => Or.inr (by omega))
    go_wp2
    go_ret2
    exact ⟨by rw [hR1', hR2']; rfl, hsE⟩
structure HpS where
 F : FL
 off : Bool
 fuse : Int
 nw : Int
 out : List S88
 e : Int
def hpW (r : WrS) (at_ : Int) : HpS := if r.e = 12 then ⟨r.F, r.off, r.fuse, r.nw, [], 12⟩ else ⟨r.F, r.off, r.fuse, r.nw, [⟨at_, (r.e == 0)⟩], 0⟩
def hpA (xs : List ByteArray) (F : FL) (B : BL) (off : Bool) (fuse nw : Int) (sh gk gm gc a b sm : Int) : HpS :=
 if (readA xs F B off sh gk gm gc a sm).2 = 12 ∨ (readA xs F B off sh gk gm gc b sm).2 = 12 then ⟨F, off, fuse, nw, [], 12⟩ else
 if (readA xs F B off sh gk gm gc a sm).2 = 0 then (if (readA xs F B off sh gk gm gc b sm).2 = 0 then ⟨F, off, fuse, nw, [], 0⟩ else hpW (writeA xs.length ⟨F, off, fuse, nw, 0⟩ sh gk gm gc b (readA xs F B off sh gk gm gc a sm).1) b) else
 if (readA xs F B off sh gk gm gc b sm).2 = 0 then hpW (writeA xs.length ⟨F, off, fuse, nw, 0⟩ sh gk gm gc a (readA xs F B off sh gk gm gc b sm).1) a else
 ⟨F, off, fuse, nw, [⟨a, false⟩, ⟨b, false⟩], 0⟩
set_option maxRecDepth 100000 in
set_option maxHeartbeats 8000000 in
theorem heal_any (w : World) (hT : TabAt w) (i : DevIds) (xs : List ByteArray) (F : FL) (B : BL) (off : Bool) (fuse nw : Int) (hD : DevAt w i xs F B off fuse nw) (sh gk gm gc a b sm : Int) (R : HpS) (hR : R = hpA xs F B off fuse nw sh gk gm gc a b sm) :
  Calls Tryd.prog 87 #[.pointer (some ⟨i.d, 0, none⟩), .agg #[.int .i64 sh, .int .i64 gk, .int .i64 gm, .int .i64 gc], .agg #[.int .i64 a, .int .i64 b, .int .u32 sm]] w fun e w' => ∃ v, e = .returned (.tuple #[v, .int .i64 R.e]) ∧ DevAt w' i xs R.F B R.off R.fuse R.nw ∧ Kd.R k88 88 w' w.heap.size (fun _ => True) v R.out ∧ Step i.In w w' := by
 have hu23 := Tryd.underlying23
 have hu26 := Tryd.underlying26
 have hu88 := Tryd.underlying88
 have hlt := hD.lt
 have hRA : ∀ W, Step (fun _ => False) w W → Calls Tryd.prog 125 #[.pointer (some ⟨i.d, 0, none⟩), .agg #[.int .i64 sh, .int .i64 gk, .int .i64 gm, .int .i64 gc], .int .i64 a, .int .u32 sm] W fun e w' => e = .returned (.tuple #[.string (readA xs F B off sh gk gm gc a sm).1, .int .i64 (readA xs F B off sh gk gm gc a sm).2]) ∧ Step (fun _ => False) W w' := fun W hW => cluster_Read_all W i xs F B off fuse nw sh gk gm gc a sm (hT.step hW (fun h => h)) (hD.step hW (fun _ _ h => h))
 have hRB : ∀ W, Step (fun _ => False) w W → Calls Tryd.prog 125 #[.pointer (some ⟨i.d, 0, none⟩), .agg #[.int .i64 sh, .int .i64 gk, .int .i64 gm, .int .i64 gc], .int .i64 b, .int .u32 sm] W fun e w' => e = .returned (.tuple #[.string (readA xs F B off sh gk gm gc b sm).1, .int .i64 (readA xs F B off sh gk gm gc b sm).2]) ∧ Step (fun _ => False) W w' := fun W hW => cluster_Read_all W i xs F B off fuse nw sh gk gm gc b sm (hT.step hW (fun h => h)) (hD.step hW (fun _ _ h => h))
 unfold hpA at hR
 generalize readA xs F B off sh gk gm gc a sm = r1 at hRA hR
 generalize readA xs F B off sh gk gm gc b sm = r2 at hRB hR
 obtain ⟨s1, y1⟩ := r1
 obtain ⟨s2, y2⟩ := r2
 dsimp only at hRA hRB hR
 have hb0 : Step (fun _ => False) w ((w.alloc (.cells #[.int .i64 sh, .int .i64 gk, .int .i64 gm, .int .i64 gc] 23)).alloc (.cells #[.int .i64 a, .int .i64 b, .int .u32 sm] 26)) := Step.of_below (below2 w _ _)
 have p0 := new1of2 w (.cells #[.int .i64 sh, .int .i64 gk, .int .i64 gm, .int .i64 gc] 23) (.cells #[.int .i64 a, .int .i64 b, .int .u32 sm] 26)
 have p1 := new2 w (.cells #[.int .i64 sh, .int .i64 gk, .int .i64 gm, .int .i64 gc] 23) (.cells #[.int .i64 a, .int .i64 b, .int .u32 sm] 26)
 go_enter Tryd.func87, Tryd.ntmps87
 go_upto_region 1 with (fail)
 generalize (w.alloc (.cells #[.int .i64 sh, .int .i64 gk, .int .i64 gm, .int .i64 gc] 23)).alloc (.cells #[.int .i64 a, .int .i64 b, .int .u32 sm] 26) = W0 at hb0 p0 p1 ⊢
 obtain ⟨⟨a0, a1, a2, a3⟩, _⟩ := blk4 p0
 obtain ⟨z0, z1, z2⟩ := blk3 p1
 go_wp2_with (go_at_call 125; with_reducible refine (hRA _ hb0).mono ?_)
 rintro e w1 rfl hs1
 replace p0 := hs1.block p0 (fun h => h)
 replace p1 := hs1.block p1 (fun h => h)
 have hs1' := step2 hb0 hs1
 clear a0 a1 a2 a3 z0 z1 z2 hb0 hs1 hRA
 obtain ⟨⟨a0, a1, a2, a3⟩, _⟩ := blk4 p0
 obtain ⟨z0, z1, z2⟩ := blk3 p1
 go_wp2_with (go_at_call 125; with_reducible refine (hRB _ hs1').mono ?_)
 rintro e w2 ⟨rfl, hs2⟩
 replace p0 := hs2.block p0 (fun h => h)
 replace p1 := hs2.block p1 (fun h => h)
 have hs := step2 hs1' hs2
 have hDn := hD.step hs (fun _ _ h => h)
 have hz2 := hs.size
 have hp1l := (Array.getElem?_eq_some_iff.1 p1).1
 clear a0 a1 a2 a3 z0 z1 z2 hs1' hs2 hRB
 go_upto_region 4 with (fail)
 have hsI : Step i.In w w2 := hs.mono (fun _ h => h.elim)
 have hB2 : Below w.heap.size w w2 := hs.below (Nat.le_refl _) (fun _ h => h.elim)
 obtain ⟨⟨a0, a1, a2, a3⟩, _⟩ := blk4 p0
 obtain ⟨z0, z1, z2⟩ := blk3 p1
 by_cases c1 : y1 = 12
 ·have d1 : (y1 == 12) = true := by simpa using c1
  rw [if_pos (Or.inl c1)] at hR
  subst hR
  clear c1
  go_wp2
  go_ret2
  exact ⟨_, rfl, hDn, Kd.R_nil _ _ _ _ _, hsI⟩
 have d1 : (y1 == 12) = false := by simpa using c1
 by_cases c2 : y2 = 12
 ·have d2 : (y2 == 12) = true := by simpa using c2
  rw [if_pos (Or.inr c2)] at hR
  subst hR
  clear c1 c2
  go_wp2
  go_ret2
  exact ⟨_, rfl, hDn, Kd.R_nil _ _ _ _ _, hsI⟩
 have d2 : (y2 == 12) = false := by simpa using c2
 rw [if_neg (fun h => h.elim c1 c2)] at hR
 clear c1 c2
 by_cases e1 : y1 = 0
 ·have f1 : (y1 == 0) = true := by simpa using e1
  have g1 : (y1 != 0) = false := by simpa using e1
  rw [if_pos e1] at hR
  by_cases e2 : y2 = 0
  ·have f2 : (y2 == 0) = true := by simpa using e2
   rw [if_pos e2] at hR
   subst hR
   clear e1 e2
   go_wp2
   go_ret2
   exact ⟨_, rfl, hDn, Kd.R_nil _ _ _ _ _, hsI⟩
  have f2 : (y2 == 0) = false := by simpa using e2
  have g2 : (y2 != 0) = true := by simpa using e2
  rw [if_neg e2] at hR
  clear e1 e2
  have hWr := cluster_Write_all w2 i xs F B off fuse nw sh gk gm gc b s1 hDn _ rfl
  generalize writeA xs.length ⟨F, off, fuse, nw, 0⟩ sh gk gm gc b s1 = r at hWr hR
  unfold hpW at hR
  go_wp2_with (go_at_call 81; with_reducible refine hWr.mono ?_)
  rintro e w3 ⟨rfl, hD3, hs3⟩
  have q1 := hs3.block p1 (fun h => by have := hlt _ h; omega)
  have hs3' := hsI.trans hs3 (fun _ h => h) (fun _ h => Or.inl h)
  have hz3 := Nat.le_trans hz2 hs3.size
  clear a0 a1 a2 a3 z0 z1 z2
  obtain ⟨z0, z1, z2⟩ := blk3 q1
  by_cases k1 : r.e = 12
  ·have l1 : (r.e == 12) = true := by simpa using k1
   rw [if_pos k1] at hR
   subst hR
   dsimp only
   go_wp2
   go_ret2
   exact ⟨_, rfl, hD3, Kd.R_nil _ _ _ _ _, hs3'⟩
  have l1 : (r.e == 12) = false := by simpa using k1
  rw [if_neg k1] at hR
  subst hR
  clear k1
  go_wp2_with (at_builtin; refine Kd.R_append k88 (w0 := w3) w.heap.size rfl (.tmp 81) (.tmp 87) 63 88 (.agg #[(.int .i64 0), (.bool false)]) 16 rfl Tryd.underlying63 infoS88 rfl (by decide) (by omega) _ ([]) (⟨b, (r.e == 0)⟩ : S88) [.int .i64 b, .bool (r.e == 0)] (fun _ => True) (fun _ => False) rfl rfl (k88_mkM _ _ _ (⟨b, (r.e == 0)⟩ : S88)) (fun _ hk => hk.elim) (fun _ _ => trivial) (Kd.R_nil _ _ _ _ _) (Below.refl _ _) hz3 ?aL ?_; (case aL => simp))
  rintro v4 w4 hR4 - hg4 -
  have hst := Step.grown hg4 (S := fun _ => False) (fun q hq => by simp [Value.ownBlock] at hq)
  go_wp2
  go_ret2
  exact ⟨_, rfl, hD3.step hst (fun _ _ h => h), hR4, hs3'.trans hst (fun _ h => h) (fun _ h => h.elim)⟩
 have f1 : (y1 == 0) = false := by simpa using e1
 have g1 : (y1 != 0) = true := by simpa using e1
 rw [if_neg e1] at hR
 by_cases e2 : y2 = 0
 ·have f2 : (y2 == 0) = true := by simpa using e2
  have g2 : (y2 != 0) = false := by simpa using e2
  rw [if_pos e2] at hR
  clear e1 e2
  have hWr := cluster_Write_all w2 i xs F B off fuse nw sh gk gm gc a s2 hDn _ rfl
  generalize writeA xs.length ⟨F, off, fuse, nw, 0⟩ sh gk gm gc a s2 = r at hWr hR
  unfold hpW at hR
  go_wp2_with (go_at_call 81; with_reducible refine hWr.mono ?_)
  rintro e w3 ⟨rfl, hD3, hs3⟩
  have q1 := hs3.block p1 (fun h => by have := hlt _ h; omega)
  have hs3' := hsI.trans hs3 (fun _ h => h) (fun _ h => Or.inl h)
  have hz3 := Nat.le_trans hz2 hs3.size
  clear a0 a1 a2 a3 z0 z1 z2
  obtain ⟨z0, z1, z2⟩ := blk3 q1
  by_cases k1 : r.e = 12
  ·have l1 : (r.e == 12) = true := by simpa using k1
   rw [if_pos k1] at hR
   subst hR
   dsimp only
   go_wp2
   go_ret2
   exact ⟨_, rfl, hD3, Kd.R_nil _ _ _ _ _, hs3'⟩
  have l1 : (r.e == 12) = false := by simpa using k1
  rw [if_neg k1] at hR
  subst hR
  clear k1
  go_wp2_with (at_builtin; refine Kd.R_append k88 (w0 := w3) w.heap.size rfl (.tmp 71) (.tmp 77) 63 88 (.agg #[(.int .i64 0), (.bool false)]) 16 rfl Tryd.underlying63 infoS88 rfl (by decide) (by omega) _ ([]) (⟨a, (r.e == 0)⟩ : S88) [.int .i64 a, .bool (r.e == 0)] (fun _ => True) (fun _ => False) rfl rfl (k88_mkM _ _ _ (⟨a, (r.e == 0)⟩ : S88)) (fun _ hk => hk.elim) (fun _ _ => trivial) (Kd.R_nil _ _ _ _ _) (Below.refl _ _) hz3 ?aL ?_; (case aL => simp))
  rintro v4 w4 hR4 - hg4 -
  have hst := Step.grown hg4 (S := fun _ => False) (fun q hq => by simp [Value.ownBlock] at hq)
  go_wp2
  go_ret2
  exact ⟨_, rfl, hD3.step hst (fun _ _ h => h), hR4, hs3'.trans hst (fun _ h => h) (fun _ h => h.elim)⟩
 have f2 : (y2 == 0) = false := by simpa using e2
 have g2 : (y2 != 0) = true := by simpa using e2
 rw [if_neg e2] at hR
 subst hR
 clear e1 e2
 go_wp2_with (at_builtin; refine Kd.R_append k88 (w0 := w2) w.heap.size rfl (.tmp 71) (.tmp 77) 63 88 (.agg #[(.int .i64 0), (.bool false)]) 16 rfl Tryd.underlying63 infoS88 rfl (by decide) (by omega) _ ([]) (⟨a, false⟩ : S88) [.int .i64 a, .bool false] (fun _ => True) (fun _ => False) rfl rfl (k88_mkM _ _ _ (⟨a, false⟩ : S88)) (fun _ hk => hk.elim) (fun _ _ => trivial) (Kd.R_nil _ _ _ _ _) (Below.refl _ _) hz2 ?aL ?_; (case aL => simp))
 rintro v3 w3 hR3 - hg3 -
 have hst3 := Step.grown hg3 (S := fun _ => False) (fun q hq => by simp [Value.ownBlock] at hq)
 have q1 := hst3.block p1 (fun h => h)
 have hz3 := Nat.le_trans hz2 hst3.size
 clear a0 a1 a2 a3 z0 z1 z2
 obtain ⟨z0, z1, z2⟩ := blk3 q1
 go_wp2_with (at_builtin; refine Kd.R_append k88 (w0 := w3) w.heap.size rfl (.tmp 81) (.tmp 87) 63 88 (.agg #[(.int .i64 0), (.bool false)]) 16 rfl Tryd.underlying63 infoS88 rfl (by decide) (by omega) _ ([⟨a, false⟩]) (⟨b, false⟩ : S88) [.int .i64 b, .bool false] (fun _ => True) (fun _ => False) rfl rfl (k88_mkM _ _ _ (⟨b, false⟩ : S88)) (fun _ hk => hk.elim) (fun _ _ => trivial) hR3 (Below.refl _ _) hz3 ?aL ?_; (case aL => simp))
 rintro v6 w6 hR6 - hg6 -
 have hb6 := Kd.R_base hR3
 have hst6 := Step.grown hg6 (S := fun q => v3.ownBlock = some q) (fun q hq => hq)
 have hst36 := hst3.trans hst6 (U := fun q => v3.ownBlock = some q) (fun _ h => h.elim) (fun q hq => Or.inl hq)
 go_wp2
 go_ret2
 exact ⟨_, rfl, (hDn.step hst36 (fun k hk h => by have := hlt k hk; have := hb6 k h; omega)), hR6, hsI.trans hst36 (fun _ h => h) (fun k h => Or.inr (hb6 k h))⟩
theorem R88_step {S : Nat → Prop} {w w' : World} {base : Nat} {v : Value} {xs : List S88} (h : Kd.R k88 88 w base (fun _ => True) v xs) (hs : Step S w w') (hn : ∀ g, v.ownBlock = some g → ¬ S g) : Kd.R k88 88 w' base (fun _ => True) v xs := by
 obtain ⟨h0, inner, ho, hr⟩ := h
 refine ⟨fun _ _ => trivial, inner, own_move ho (fun k hk => ?_), hr.1, fun j p hj => by have := k88_openM (hr.2 j p hj); rw [this]; exact k88_mkM _ _ _ _⟩
 have hlt := own_lt ho k hk
 rw [hs.block (Array.getElem?_eq_getElem hlt) (hn k hk), Array.getElem?_eq_getElem hlt]
theorem hpW_out (r : WrS) (a : Int) : (hpW r a).out.length ≤ 2 := by
 unfold hpW
 split <;> simp
theorem hpA_out {xs : List ByteArray} {F : FL} {B : BL} {off : Bool} {fuse nw sh gk gm gc a b sm : Int} : (hpA xs F B off fuse nw sh gk gm gc a b sm).out.length ≤ 2 := by
 unfold hpA
 split
 ·simp
 ·split
  ·split
   ·simp
   ·exact hpW_out _ _
  ·split
   ·exact hpW_out _ _
   ·simp
def hlA (xs : List ByteArray) (B : BL) (sh gk gm gc : Int) : List S26 → HpS → HpS
 | [], r => r
 | p :: l, r => if (hpA xs r.F B r.off r.fuse r.nw sh gk gm gc p.f0 p.f1 p.f2).e ≠ 0 then ⟨(hpA xs r.F B r.off r.fuse r.nw sh gk gm gc p.f0 p.f1 p.f2).F, (hpA xs r.F B r.off r.fuse r.nw sh gk gm gc p.f0 p.f1 p.f2).off, (hpA xs r.F B r.off r.fuse r.nw sh gk gm gc p.f0 p.f1 p.f2).fuse, (hpA xs r.F B r.off r.fuse r.nw sh gk gm gc p.f0 p.f1 p.f2).nw, [], (hpA xs r.F B r.off r.fuse r.nw sh gk gm gc p.f0 p.f1 p.f2).e⟩
  else hlA xs B sh gk gm gc l ⟨(hpA xs r.F B r.off r.fuse r.nw sh gk gm gc p.f0 p.f1 p.f2).F, (hpA xs r.F B r.off r.fuse r.nw sh gk gm gc p.f0 p.f1 p.f2).off, (hpA xs r.F B r.off r.fuse r.nw sh gk gm gc p.f0 p.f1 p.f2).fuse, (hpA xs r.F B r.off r.fuse r.nw sh gk gm gc p.f0 p.f1 p.f2).nw, r.out ++ (hpA xs r.F B r.off r.fuse r.nw sh gk gm gc p.f0 p.f1 p.f2).out, 0⟩
set_option maxRecDepth 100000 in
set_option maxHeartbeats 8000000 in
theorem pages_Heal_any (w : World) (hT : TabAt w) (i : DevIds) (hi0 : ¬ i.In 0) (xs : List ByteArray) (F : FL) (B : BL) (off : Bool) (fuse nw : Int) (hD : DevAt w i xs F B off fuse nw) (sh gk gm gc : Int) (A : Option Addr) (c : Nat) (l : List S26) (hll : l.length ≤ 1000000) (hcl : l.length ≤ c) (hC : ∀ w', Step i.In w w' → Kd.C k26 w' A l.length l) (R : HpS) (hR : R = hlA xs B sh gk gm gc l ⟨F, off, fuse, nw, [], 0⟩) :
  Calls Tryd.prog 31 #[.pointer (some ⟨i.d, 0, none⟩), .agg #[.int .i64 sh, .int .i64 gk, .int .i64 gm, .int .i64 gc], .slice A l.length c] w fun e w' => ∃ v, e = .returned (.tuple #[v, .int .i64 R.e]) ∧ DevAt w' i xs R.F B R.off R.fuse R.nw ∧ Kd.R k88 88 w' w.heap.size (fun _ => True) v R.out ∧ Step i.In w w' := by
 have hu23 := Tryd.underlying23
 have hu26 := Tryd.underlying26
 have hlt := hD.lt
 have hb0 : Below w.heap.size w (w.alloc (.cells #[.int .i64 sh, .int .i64 gk, .int .i64 gm, .int .i64 gc] 23)) := (Below.refl _ _).alloc (Nat.le_refl _) _
 have p0 := World.alloc_heap_new w (.cells #[.int .i64 sh, .int .i64 gk, .int .i64 gm, .int .i64 gc] 23)
 have hD0 := hD.kept hb0
 have hs0 : Step i.In w (w.alloc (.cells #[.int .i64 sh, .int .i64 gk, .int .i64 gm, .int .i64 gc] 23)) := Step.of_below hb0
 go_enter Tryd.func31, Tryd.ntmps31
 go_upto_region 1 with (fail)
 generalize w.alloc (.cells #[.int .i64 sh, .int .i64 gk, .int .i64 gm, .int .i64 gc] 23) = W0 at p0 hD0 hs0 ⊢
 clear hb0 hD
 go_wp2
 go_loopw [8, 15] (fun t8 t15 wr => ∃ (j : Nat) (F : FL) (off : Bool) (fuse nw : Int) (out : List S88) (v8 : Value), v8 = t8 ∧ j ≤ l.length ∧ t15 = .int .i64 j ∧ out.length ≤ 2 * j ∧ R = hlA xs B sh gk gm gc (l.drop j) ⟨F, off, fuse, nw, out, 0⟩ ∧ wr.heap[w.heap.size]? = some (.cells #[.int .i64 sh, .int .i64 gk, .int .i64 gm, .int .i64 gc] 23 (0, 0)) ∧ DevAt wr i xs F B off fuse nw ∧ Kd.R k88 88 wr w.heap.size (fun _ => True) t8 out ∧ Step i.In w wr) (fun _ t15 _ => l.length - (intOf t15).toNat)
 case atStart => exact ⟨0, F, off, fuse, nw, [], _, rfl, Nat.zero_le _, rfl, by simp, hR, p0, hD0, Kd.R_nil _ _ _ _ _, hs0⟩
 case round =>
  as_aux_lemma =>
   clear p0 hD0 hs0 hR
   obtain ⟨j, F, off, fuse, nw, out, v8, rfl, hj, rfl, hol, hR, p0, hD, hRo, hs⟩ := hrel
   by_cases hjl : j < l.length
   ·have hjI : (j : Int) < (l.length : Int) := by omega
    have hj0 : (0 : Int) ≤ (j : Int) := by omega
    obtain ⟨adL, rfl, u0, u1, u2⟩ := at_T26 (hC wr hs) (j : Int) (by omega) hjI
    simp only [Int.toNat_natCast] at u0 u1 u2
    rw [drop26 hjl, hlA] at hR
    generalize rd_T26 l (j : Int) = X at u0 u1 u2 hR
    dsimp only at hR
    have hb3 : Below wr.heap.size wr (wr.alloc (.cells #[.int .i64 X.f0, .int .i64 X.f1, .int .u32 X.f2] 26)) := (Below.refl _ _).alloc (Nat.le_refl _) _
    have zX := World.alloc_heap_new wr (.cells #[.int .i64 X.f0, .int .i64 X.f1, .int .u32 X.f2] 26)
    replace p0 := Stepb hb3 p0
    replace hs := hs.trans (Step.of_below (S := i.In) hb3) (fun _ h => h) (fun _ h => Or.inl h)
    replace hD := hD.kept hb3
    replace hRo := Kd.R_below hRo hb3
    clear hb3
    have hT5 := hT.step hs hi0
    go_upto_region 5 with (fail)
    generalize wr.heap.size = gx at zX ⊢
    generalize wr.alloc (.cells #[.int .i64 X.f0, .int .i64 X.f1, .int .u32 X.f2] 26) = wa at zX p0 hs hD hRo hT5 ⊢
    clear u0 u1 u2
    have hHe := heal_any wa hT5 i xs F B off fuse nw hD sh gk gm gc X.f0 X.f1 X.f2 _ rfl
    have hqo := hpA_out (xs := xs) (F := F) (B := B) (off := off) (fuse := fuse) (nw := nw) (sh := sh) (gk := gk) (gm := gm) (gc := gc) (a := X.f0) (b := X.f1) (sm := X.f2)
    generalize hpA xs F B off fuse nw sh gk gm gc X.f0 X.f1 X.f2 = q at hHe hqo hR
    obtain ⟨⟨a0, a1, a2, a3⟩, _⟩ := blk4 p0
    obtain ⟨z0, z1, z2⟩ := blk3 zX
    have hzw : w.heap.size ≤ wa.heap.size := hs.size
    go_wp2_with (go_at_call 87; with_reducible refine hHe.mono ?_)
    rintro e w5 ⟨vq, rfl, hD5, hRq, hs5⟩
    have q0 := hs5.block p0 (fun h => by have := hlt _ h; omega)
    have hRo5 := R88_step hRo hs5 (fun g hg h => by have := Kd.R_base hRo g hg; have := hlt g h; omega)
    have hs5' := hs.trans hs5 (fun _ h => h) (fun _ h => Or.inl h)
    have hz5 := hs5'.size
    clear a0 a1 a2 a3 z0 z1 z2 zX p0 hs hs5 hD hRo hT5 hHe
    by_cases hq : q.e ≠ 0
    ·have d1 : (q.e != 0) = true := by simpa using hq
     rw [if_pos hq] at hR
     subst hR
     clear hq
     go_wp2
     go_ret2
     exact ⟨_, rfl, hD5, Kd.R_nil _ _ _ _ _, hs5'⟩
    have d1 : (q.e != 0) = false := by simpa using hq
    rw [if_neg hq] at hR
    obtain ⟨Aq, cq, rfl, hcq, hCq⟩ := Kd.R_reads hRq
    clear hq
    go_wp2_with (at_builtin; refine Kd.R_append_rows k88 (w0 := w5) w.heap.size rfl (.tmp 29) (.tmp 30) 63 88 (.agg #[(.int .i64 0), (.bool false)]) 16 rfl Tryd.underlying63 infoS88 rfl (by decide) (by omega) _ out q.out _ _ _ (fun _ => True) (fun _ => False) rfl rfl hRo5 hCq (fun _ _ h => h) (fun _ h => h.elim) (fun _ _ => trivial) (Below.refl _ _) hz5 ?aL ?_; (case aL => omega))
    rintro v6 w6 hR6 - hg6 -
    have hst := Step.grown hg6 (S := fun g => v8.ownBlock = some g) (fun g hg => hg)
    have hb8 := Kd.R_base hRo5
    have q6 := hst.block q0 (fun h => (Kd.R_ne hRo5 q0 (by decide)) h.symm)
    have hD6 := hD5.step hst (fun g hg h => by have := hb8 g h; have := hlt g hg; omega)
    have hs6 := hs5'.trans hst (fun _ h => h) (fun g h => Or.inr (hb8 g h))
    go_wp2
    refine ⟨⟨j + 1, q.F, q.off, q.fuse, q.nw, out ++ q.out, _, rfl, by omega, by simp, ?_, hR, q6, hD6, hR6, hs6⟩, by simp [intOf]; omega⟩
    rw [List.length_append]
    omega
   ·have dj : ¬ (j : Int) < (l.length : Int) := by omega
    have hRr : R = ⟨F, off, fuse, nw, out, 0⟩ := by
     have ej : l.drop j = [] := List.drop_of_length_le (by omega)
     rw [ej] at hR
     exact hR
    clear hR hjl hj
    subst hRr
    go_wp2
    go_ret2
    exact ⟨_, rfl, hD, hRo, hs⟩
theorem RS_step {S : Nat → Prop} {w w' : World} {base : Nat} {v : Value} {xs : List ByteArray} (h : Kd.R Kd.string 9 w base (fun _ => True) v xs) (hs : Step S w w') (hn : ∀ g, v.ownBlock = some g → ¬ S g) : Kd.R Kd.string 9 w' base (fun _ => True) v xs := by
 obtain ⟨h0, inner, ho, hr⟩ := h
 refine ⟨fun _ _ => trivial, inner, own_move ho (fun k hk => ?_), hr.1, fun j p hj => hr.2 j p hj⟩
 have hlt := own_lt ho k hk
 rw [hs.block (Array.getElem?_eq_getElem hlt) (hn k hk), Array.getElem?_eq_getElem hlt]
def bldP (Z f : Nat) : Nat → List ByteArray → List Int → List S130 → List S130
 | 0, level, ats, pre => pre ++ layP level ats
 | q + 1, level, ats, pre => if level.length = 1 then pre ++ layP level ats else bldP Z f q (cutS Z (12 * f) ⟨(upL (layP level ats)).toArray⟩) (ats.drop (2 * level.length)) (pre ++ layP level ats)
def okB (Z f : Nat) : Nat → List ByteArray → List Int → Prop
 | 0, _, _ => False
 | q + 1, level, ats => 2 * level.length ≤ ats.length ∧ (∀ x ∈ level, x.size ≤ 1000000) ∧ (level.length ≠ 1 → (cutS Z (12 * f) ⟨(upL (layP level ats)).toArray⟩).length < level.length ∧ okB Z f q (cutS Z (12 * f) ⟨(upL (layP level ats)).toArray⟩) (ats.drop (2 * level.length)))
def slLen : Value → Nat
 | .slice _ n _ => n
 | _ => 0
set_option maxRecDepth 100000 in
set_option maxHeartbeats 16000000 in
theorem build_ok (w : World) (hT : TabAt w) (sh gk gm gc : Int) (hg : GeoOk sh gk gm gc) (blob : ByteArray) (hbs : blob.size ≤ 1000000000) (A : Option Addr) (c : Nat) (ats : List Int) (hC : Kd.C (Kd.int .i64) w A ats.length ats) (hcl : ats.length ≤ c) (har : ∀ z ∈ ats, 0 ≤ z ∧ z < 4294967296) (hal : ats.length ≤ 1000000) (n m : Nat) (hnm : n = m + 1) (hm : ats.length = 2 * n)
  (hCnt : ∀ W, Calls Tryd.prog 22 #[.agg #[.int .i64 sh, .int .i64 gk, .int .i64 gm, .int .i64 gc], .int .i64 blob.size] W fun e w' => e = .returned (.tuple #[.int .i64 (n : Int), .int .i64 0]) ∧ Below W.heap.size W w')
  (hCo : ∀ W, Kd.C (Kd.int .i64) W A ats.length ats → Calls Tryd.prog 70 #[.slice A ats.length c, .func (.func 71) #[] #[]] W fun e w' => e = .returned (.bool false) ∧ Below W.heap.size W w')
  (f : Nat) (hf1 : 1 ≤ 12 * f) (hf2 : 12 * f ≤ 512 * nS sh) (hFan : ∀ W, Calls Tryd.prog 75 #[.agg #[.int .i64 sh, .int .i64 gk, .int .i64 gm, .int .i64 gc]] W fun e w' => e = .returned (.int .i64 f) ∧ Below W.heap.size W w')
  (q : Nat) (hok : okB (512 * nS sh) f q (cutS (512 * nS sh) (512 * nS sh) blob) ats) (R : List S130) (hR : R = bldP (512 * nS sh) f q (cutS (512 * nS sh) (512 * nS sh) blob) ats []) (hRl : R.length = n) :
  Calls Tryd.prog 24 #[.agg #[.int .i64 sh, .int .i64 gk, .int .i64 gm, .int .i64 gc], .string blob, .slice A ats.length c] w fun e w' => ∃ v, e = .returned (.tuple #[v, .agg #[.int .i64 (rd_T130 R (m : Int)).f0.f0, .int .i64 (rd_T130 R (m : Int)).f0.f1, .int .u32 (rd_T130 R (m : Int)).f0.f2], .int .i64 0]) ∧ Kd.R k130 130 w' w.heap.size (fun _ => True) v R ∧ Below w.heap.size w w' := by
 have hu23 := Tryd.underlying23
 have hu26 := Tryd.underlying26
 have hu126 := Tryd.underlying126
 have hu130 := Tryd.underlying130
 have hSz : ∀ W, Calls Tryd.prog 73 #[.agg #[.int .i64 sh, .int .i64 gk, .int .i64 gm, .int .i64 gc]] W fun e w' => e = .returned (.int .i64 ((512 * nS sh : Nat) : Int)) ∧ Below W.heap.size W w' := fun W => by
  have := geom_Size_any sh gk gm gc W
  rw [sizeP, if_pos hg] at this
  exact this
 have hn1 := nS_pos sh
 have hn7 := nS_le hg.2.1
 obtain ⟨Z, hZ⟩ : ∃ Z, Z = 512 * nS sh := ⟨_, rfl⟩
 have hcut := fun W T v1 v2 (hTT : W.heap[T]? = some (.cells #[.int .i64 sh, .int .i64 gk, .int .i64 gm, .int .i64 gc, v1, v2] 126 (0, 0))) s z h1 h2 h3 => tree_cut_any W T v1 v2 sh gk gm gc hg hTT s z h1 h2 h3
 rw [← hZ] at hcut hSz hf2 hok hR
 have hZ1 : 512 ≤ Z := by omega
 have hZ2 : Z ≤ 65536 := by omega
 have hb0 := below2 w (.cells #[.int .i64 sh, .int .i64 gk, .int .i64 gm, .int .i64 gc] 23) (.cells #[.int .i64 0, .int .i64 0, .int .u32 0] 26)
 have p0 := new1of2 w (.cells #[.int .i64 sh, .int .i64 gk, .int .i64 gm, .int .i64 gc] 23) (.cells #[.int .i64 0, .int .i64 0, .int .u32 0] 26)
 have p1 := new2 w (.cells #[.int .i64 sh, .int .i64 gk, .int .i64 gm, .int .i64 gc] 23) (.cells #[.int .i64 0, .int .i64 0, .int .u32 0] 26)
 clear hZ hn1 hn7
 have hmi : ((ats.length : Int) != wrap64 (2 * (n : Int))) = false := by
  rw [wrap64_id (by omega) (by omega), hm]
  simp
 have hidx : wrap64 ((n : Int) - 1) = (m : Int) := by rw [wrap64_id (by omega) (by omega)]; omega
 have hm1 : ats.length ≤ 2 * n := by omega
 have hm2 : 2 * n ≤ ats.length := by omega
 have hn1 : n ≤ m + 1 := by omega
 have hn2 : m + 1 ≤ n := by omega
 have hR1 : R.length ≤ n := by omega
 have hR2 : n ≤ R.length := by omega
 clear hm hnm hRl
 go_enter Tryd.func24, Tryd.ntmps24
 go_upto_region 1 with (fail)
 generalize (w.alloc (.cells #[.int .i64 sh, .int .i64 gk, .int .i64 gm, .int .i64 gc] 23)).alloc (.cells #[.int .i64 0, .int .i64 0, .int .u32 0] 26) = W0 at hb0 p0 p1 ⊢
 obtain ⟨⟨a0, a1, a2, a3⟩, _⟩ := blk4 p0
 go_wp2_with (go_at_call 22; with_reducible refine (hCnt _).mono ?_)
 rintro e w1 ⟨rfl, hb1⟩
 replace p0 := Stepb hb1 p0
 replace p1 := Stepb hb1 p1
 have hB1 := hb0.trans (hb1.mono hb0.size)
 have hC1 := Kd.C_below hC hB1
 clear a0 a1 a2 a3 hb0 hb1 hCnt
 have hCo1 := hCo w1 hC1
 go_wp2_with (go_at_call 70; with_reducible refine hCo1.mono ?_)
 rintro e w2 ⟨rfl, hb2⟩
 replace p0 := Stepb hb2 p0
 replace p1 := Stepb hb2 p1
 have hB2 := hB1.trans (hb2.mono hB1.size)
 clear hCo hCo1 hC1 hB1 hb2 hmi
 obtain ⟨⟨a0, a1, a2, a3⟩, _⟩ := blk4 p0
 have hTl : w.heap.size + 1 < w2.heap.size := (Array.getElem?_eq_some_iff.1 p1).1
 have hb3 : Below w2.heap.size w2 (w2.alloc (.cells #[.int .i64 sh, .int .i64 gk, .int .i64 gm, .int .i64 gc, .slice A ats.length c, .slice none 0 0] 126)) := (Below.refl _ _).alloc (Nat.le_refl _) _
 have hTt := World.alloc_heap_new w2 (.cells #[.int .i64 sh, .int .i64 gk, .int .i64 gm, .int .i64 gc, .slice A ats.length c, .slice none 0 0] 126)
 replace p0 := Stepb hb3 p0
 replace p1 := Stepb hb3 p1
 have hB3 := hB2.trans (hb3.mono hB2.size)
 clear hb3
 go_upto_region 7 with (fail)
 clear a0 a1 a2 a3
 generalize w2.heap.size = T at hTt hTl ⊢
 generalize w2.alloc (.cells #[.int .i64 sh, .int .i64 gk, .int .i64 gm, .int .i64 gc, .slice A ats.length c, .slice none 0 0] 126) = w3 at hTt p0 p1 hB3 ⊢
 obtain ⟨⟨a0, a1, a2, a3⟩, _⟩ := blk4 p0
 go_wp2_with (go_at_call 73; with_reducible refine (hSz _).mono ?_)
 rintro e w4 ⟨rfl, hb4⟩
 replace p0 := Stepb hb4 p0
 replace p1 := Stepb hb4 p1
 replace hTt := Stepb hb4 hTt
 have hB4 := hB3.trans (hb4.mono hB3.size)
 have hTl4 := (Array.getElem?_eq_some_iff.1 hTt).1
 clear a0 a1 a2 a3 hB3 hb4 hB2
 go_wp2_with (go_at_call 72; with_reducible refine (hcut _ T _ _ hTt blob Z (by omega) (Nat.le_refl _) hbs).mono ?_)
 rintro e w5 ⟨vl, rfl, hRl5, hb5⟩
 replace p0 := Stepb hb5 p0
 replace p1 := Stepb hb5 p1
 replace hTt := Stepb hb5 hTt
 have hB5 := hB4.trans (hb5.mono hB4.size)
 have hTw : w.heap.size ≤ T := by omega
 have hPL : 0 < T := by omega
 have hA5 : ∀ w', Below T w5 w' → Kd.C (Kd.int .i64) w' A ats.length ats := fun w' h => Kd.C_below hC (hB5.trans (h.mono hTw))
 have hRl5' := Kd.R_lower hRl5 (Nat.le_of_lt hTl4)
 clear hTl4 hB4 hb5 hRl5 hC
 go_wp2
 go_loopw [12] (fun t12 wr => ∃ (q : Nat) (level : List ByteArray) (at_ : List Int) (pre : List S130) (A' : Option Addr) (c' : Nat) (vp vl : Value), vl = t12 ∧ okB Z f q level at_ ∧ R = bldP Z f q level at_ pre ∧ (∀ z ∈ at_, 0 ≤ z ∧ z < 4294967296) ∧ at_.length + 2 * pre.length ≤ ats.length ∧ wr.heap[w.heap.size]? = some (.cells #[.int .i64 sh, .int .i64 gk, .int .i64 gm, .int .i64 gc] 23 (0, 0)) ∧ wr.heap[w.heap.size + 1]? = some (.cells #[.int .i64 0, .int .i64 0, .int .u32 0] 26 (0, 0)) ∧ wr.heap[T]? = some (.cells #[.int .i64 sh, .int .i64 gk, .int .i64 gm, .int .i64 gc, .slice A' at_.length c', vp] 126 (0, 0)) ∧ at_.length ≤ c' ∧ (∀ w', Below T wr w' → Kd.C (Kd.int .i64) w' A' at_.length at_) ∧ Kd.R k130 130 wr T (fun _ => True) vp pre ∧ vp.ownBlock ≠ some T ∧ Kd.R Kd.string 9 wr T (fun _ => True) vl level ∧ Below w.heap.size w wr) (fun t12 _ => slLen t12)
 case atStart => exact ⟨q, _, ats, [], A, c, .slice none 0 0, _, rfl, hok, hR, har, by simp, p0, p1, hTt, hcl, hA5, Kd.R_nil _ _ _ _ _, by simp [Value.ownBlock], hRl5', hB5⟩
 case round =>
  as_aux_lemma =>
   clear p0 p1 hTt hA5 hRl5' hB5 hok hR har hcl
   obtain ⟨q, level, at_, pre, A', c', vp, vl, rfl, hok, hR, har, hlen, p0, p1, hTt, hcl, hA, hP, hvT, hRl, hB⟩ := hrel
   rcases q with _ | q
   ·exact hok.elim
   obtain ⟨hk1, hk2, hk3⟩ := hok
   rw [bldP] at hR
   obtain ⟨Al, cl, rfl, hcl2, _⟩ := Kd.R_reads hRl
   have hTlr := (Array.getElem?_eq_some_iff.1 hTt).1
   have hlev : ∀ w', Step (fun k => k = T ∨ vp.ownBlock = some k) wr w' → Kd.C Kd.string w' Al level.length level := fun w' h => (Kd.R_reads' (RS_step hRl h (fun g hg e => by
    rcases e with e | e
    ·exact Kd.R_ne hRl hTt (by decide) (by rw [hg, e])
    ·obtain ⟨inner, hor⟩ := Kd.R_own hP
     obtain ⟨cells, hcg⟩ := own_typed hor g e
     exact Kd.R_ne hRl hcg (by decide) hg.symm))).2.2
   have hLay := tree_lay_any wr T T (Nat.le_refl _) hPL (hT.step (Step.of_below (S := fun _ => False) (hB)) (fun h => h)) sh gk gm gc A' c' vp at_ pre Al cl level hTt hcl hA har (by omega) hP hvT (by omega) hlev hcl2 hk2 hk1
   have hll := layP_len level at_ hk1
   generalize hps : layP level at_ = ps at hLay hR hk3 hll
   generalize hup : (⟨(upL ps).toArray⟩ : ByteArray) = up at hLay hR hk3
   have hus : up.size = 12 * ps.length := by rw [← hup, ← upL_len]; exact List.size_toArray
   clear hps hup
   have hge := Kd.R_base hP
   have hS : ∀ q, (q = T ∨ vp.ownBlock = some q) → T ≤ q := fun q hq => hq.elim (fun e => Nat.le_of_eq e.symm) (fun e => hge q e)
   go_wp2_with (go_at_call 74; with_reducible refine hLay.mono ?_)
   rintro e W9 ⟨A6, c6, v6, n6, rfl, hn6, hT6, hc6, hA6, hP6, hv6, hvT6, hS6⟩
   replace p0 := hS6.block p0 (fun e => by have := hS _ e; omega)
   replace p1 := hS6.block p1 (fun e => by have := hS _ e; omega)
   have hB6 : Below w.heap.size w W9 := hB.trans (hS6.below hB.size (fun q hq => by have := hS _ hq; omega))
   have hBT : Below T wr W9 := hS6.below (Nat.le_of_lt hTlr) hS
   clear hLay hlev hP hRl hcl2 hS6 hv6 hB hT
   by_cases h1 : level.length = 1
   ·rw [if_pos h1] at hR
    rw [← hR] at hP6
    have d1 : ((level.length : Int) == 1) = true := by rw [h1]; rfl
    obtain ⟨A9, c9, rfl, hc9, hC9⟩ := Kd.R_reads hP6
    obtain ⟨ap, rfl, x0, x1, x2, _⟩ := at_T130 hC9 (m : Int) (by omega) (by omega)
    rw [Int.toNat_natCast] at x0 x1 x2
    generalize hX : rd_T130 R (m : Int) = X at x0 x1 x2 ⊢
    have k5 : W9.cell? ⟨T, 5, none⟩ = some (.slice (some ap) R.length c9) := by rw [Lib.cell_of_heap hT6]; rfl
    have hmI : (m : Int) < (R.length : Int) := by omega
    have hmJ : (0 : Int) ≤ (m : Int) := by omega
    generalize R.length = nn at hmI k5 hP6 hC9 hc9 ⊢
    clear hk1 hk2 hk3 hR hA hA6 hC9
    have hz8 := Stepb (below_drew1 (Below.refl W9.heap.size W9)) p1
    have hP9 := Kd.R_below hP6 (below_drew1 (Below.refl W9.heap.size W9))
    have hB9 := hB6.trans ((below_drew1 (Below.refl W9.heap.size W9)).mono hB6.size)
    have hl9 : w.heap.size + 1 < W9.drew.heap.size := (Array.getElem?_eq_some_iff.1 hz8).1
    clear hT6 hP6 hB6 hBT p0 hTt hTlr h1 p1
    go_upto_region 10 with (fail)
    try simp only [List.append_eq, List.cons_append, List.nil_append]
    refine start_ (n := 16) (S := fun w' => w'.cell? ⟨T, 5, none⟩ = some (.slice (some ap) nn c9) ∧ w'.cell? (ap.add (m * 4)) = some (.int .i64 X.f0.f0) ∧ w'.cell? ⟨(ap.add (m * 4)).block, (ap.add (m * 4)).off + 1, none⟩ = some (.int .i64 X.f0.f1) ∧ w'.cell? ⟨(ap.add (m * 4)).block, (ap.add (m * 4)).off + 2, none⟩ = some (.int .u32 X.f0.f2)) (ds := [14]) #[G,G,G,G,G,G,G,G,G,G,G,G,G,G,G,G] (by kernel_rfl) rfl rfl ⟨k5, x0, x1, x2⟩ (fun hHeld => ?_)
    generalize W9.drew = w3 at hHeld hz8 hP9 hB9 hl9 ⊢
    refine pu_ 0 50 ?_ #[Y,G,G,G,G,G,G,G,G,G,G,G,G,G,G,G] rfl rfl (by kernel_rfl) (fun _ _ _ h => h) (Or.inl ⟨by rfl, ?_⟩) ?_ ?_ ?_;rotate_left
    ·intro w';go_simp;with_reducible rfl
    rotate_left;·simp only [Act.put, sA_];rfl
    refine pu_ 1 51 ?_ #[Y,Y,G,G,G,G,G,G,G,G,G,G,G,G,G,G] rfl rfl (by kernel_rfl) (fun _ _ _ h => h) (Or.inl ⟨by rfl, ?_⟩) ?_ ?_ ?_;rotate_left
    ·intro w';go_simp;with_reducible rfl
    rotate_left;·simp only [Act.put, sA_];rfl
    refine pu_ 2 52 ?_ #[Y,Y,Y,G,G,G,G,G,G,G,G,G,G,G,G,G] rfl rfl (by kernel_rfl) (fun _ _ _ h => h) (Or.inl ⟨by rfl, ?_⟩) ?_ ?_ ?_;rotate_left
    ·intro w';go_simp;with_reducible rfl
    rotate_left;·simp only [Act.put, sA_];rfl
    refine pu_ 4 54 ?_ #[Y,Y,Y,G,Y,G,G,G,G,G,G,G,G,G,G,G] rfl rfl (by kernel_rfl) (fun _ _ _ h => h) (Or.inl ⟨by rfl, ?_⟩) ?_ ?_ ?_;rotate_left
    ·intro w';go_simp;with_reducible rfl
    rotate_left;·simp only [Act.put, sA_];rfl
    refine pu_ 5 55 ?_ #[Y,Y,Y,G,Y,Y,G,G,G,G,G,G,G,G,G,G] rfl rfl (by kernel_rfl) (fun _ _ _ h => h) (Or.inl ⟨by rfl, ?_⟩) ?_ ?_ ?_;rotate_left
    ·intro w';go_simp;with_reducible rfl
    rotate_left;·simp only [Act.put, sA_];rfl
    refine pu_ 6 56 ?_ #[Y,Y,Y,G,Y,Y,Y,G,G,G,G,G,G,G,G,G] rfl rfl (by kernel_rfl) (fun _ _ _ h => h) (Or.inl ⟨by rfl, ?_⟩) ?_ ?_ ?_;rotate_left
    ·intro w';go_simp;with_reducible rfl
    rotate_left;·simp only [Act.put, sA_];rfl
    refine pu_ 8 58 ?_ #[Y,Y,Y,G,Y,Y,Y,G,Y,G,G,G,G,G,G,G] rfl rfl (by kernel_rfl) (fun _ _ _ h => h) (Or.inl ⟨by rfl, ?_⟩) ?_ ?_ ?_;rotate_left
    ·intro w';go_simp;with_reducible rfl
    rotate_left;·simp only [Act.put, sA_];rfl
    refine pu_ 9 59 ?_ #[Y,Y,Y,G,Y,Y,Y,G,Y,Y,G,G,G,G,G,G] rfl rfl (by kernel_rfl) (fun _ _ _ h => h) (Or.inl ⟨by rfl, ?_⟩) ?_ ?_ ?_;rotate_left
    ·intro w';go_simp;with_reducible rfl
    rotate_left;·simp only [Act.put, sA_];rfl
    refine tk_ 3 53 ?_ #[Y,Y,Y,Y,Y,Y,Y,G,Y,Y,G,G,G,G,G,G] rfl rfl (by kernel_rfl) (fun _ _ _ h => h) (Or.inl ⟨by rfl, ?_⟩) hHeld ?_ ?_ ?_;rotate_left
    ·rintro w' ⟨s0, s1, s2, s3⟩
     go_simp
     with_reducible rfl
    rotate_left;·simp only [Act.put, sA_];rfl
    refine pu_ 13 6 ?_ #[Y,Y,Y,Y,Y,Y,Y,G,Y,Y,G,G,G,Y,G,G] rfl rfl (by kernel_rfl) (fun _ _ _ h => h) (Or.inl ⟨by rfl, ?_⟩) ?_ ?_ ?_;rotate_left
    ·intro w';go_simp;with_reducible rfl
    rotate_left;·simp only [Act.put, sA_];rfl
    refine tk_ 7 57 ?_ #[Y,Y,Y,Y,Y,Y,Y,Y,Y,Y,G,G,G,Y,G,G] rfl rfl (by kernel_rfl) (fun _ _ _ h => h) (Or.inl ⟨by rfl, ?_⟩) hHeld ?_ ?_ ?_;rotate_left
    ·rintro w' ⟨s0, s1, s2, s3⟩
     go_simp
     with_reducible rfl
    rotate_left;·simp only [Act.put, sA_];rfl
    refine pu_ 10 60 ?_ #[Y,Y,Y,Y,Y,Y,Y,Y,Y,Y,Y,G,G,Y,G,G] rfl rfl (by kernel_rfl) (fun _ _ _ h => h) (Or.inl ⟨by rfl, ?_⟩) ?_ ?_ ?_;rotate_left
    ·intro w';go_simp;with_reducible rfl
    rotate_left;·simp only [Act.put, sA_];rfl
    refine pu_ 11 61 ?_ #[Y,Y,Y,Y,Y,Y,Y,Y,Y,Y,Y,Y,G,Y,G,G] rfl rfl (by kernel_rfl) (fun _ _ _ h => h) (Or.inl ⟨by rfl, ?_⟩) ?_ ?_ ?_;rotate_left
    ·intro w';go_simp;with_reducible rfl
    rotate_left;·simp only [Act.put, sA_];rfl
    refine tk_ 12 62 ?_ #[Y,Y,Y,Y,Y,Y,Y,Y,Y,Y,Y,Y,Y,Y,G,G] rfl rfl (by kernel_rfl) (fun _ _ _ h => h) (Or.inl ⟨by rfl, ?_⟩) hHeld ?_ ?_ ?_;rotate_left
    ·rintro w' ⟨s0, s1, s2, s3⟩
     go_simp
     with_reducible rfl
    rotate_left;·simp only [Act.put, sA_];rfl
    refine last_ (i := 14) (N := none) #[Y,Y,Y,Y,Y,Y,Y,Y,Y,Y,Y,Y,Y,Y,Y,G] rfl rfl (by kernel_rfl) (by decide) (fun K hK => ?_)
    obtain ⟨z0, z1, z2⟩ := blk3 hz8
    obtain ⟨q0, q1, q2⟩ := frz3 hz8
    refine skip_ (w1 := ?_) (by rfl) rfl ?_ ?_;rotate_left
    ·go_simp
     rfl
    refine hK.out _ _ ?_
    clear hK K
    refine pu_ 15 8 ?_ #[Y,Y,Y,Y,Y,Y,Y,Y,Y,Y,Y,Y,Y,Y,Y,Y] rfl rfl (by kernel_rfl) (fun _ _ _ h => h) (Or.inl ⟨by rfl, ?_⟩) ?_ ?_ ?_;rotate_left
    ·intro w';go_simp;with_reducible rfl
    rotate_left;·simp only [Act.put, sA_];rfl
    refine done_ (by kernel_rfl) ?_
    clear hHeld
    have hge9 := Kd.R_base hP9
    have hs8 : Step (fun k => k = w.heap.size + 1) w3 (((w3.setCell ⟨w.heap.size + 1, 0, none⟩ (.int .i64 X.f0.f0)).setCell ⟨w.heap.size + 1, 1, none⟩ (.int .i64 X.f0.f1)).setCell ⟨w.heap.size + 1, 2, none⟩ (.int .u32 X.f0.f2)) :=
     ((Step.setCell w3 (p := ⟨w.heap.size + 1, 0, none⟩) (S := fun k => k = w.heap.size + 1) rfl _).trans (Step.setCell _ (p := ⟨w.heap.size + 1, 1, none⟩) (S := fun k => k = w.heap.size + 1) rfl _) (fun _ h => h) (fun _ h => Or.inl h)).trans (Step.setCell _ (p := ⟨w.heap.size + 1, 2, none⟩) (S := fun k => k = w.heap.size + 1) rfl _) (fun _ h => h) (fun _ h => Or.inl h)
    have hz9 : (((w3.setCell ⟨w.heap.size + 1, 0, none⟩ (.int .i64 X.f0.f0)).setCell ⟨w.heap.size + 1, 1, none⟩ (.int .i64 X.f0.f1)).setCell ⟨w.heap.size + 1, 2, none⟩ (.int .u32 X.f0.f2)).heap[w.heap.size + 1]? = some (.cells #[.int .i64 X.f0.f0, .int .i64 X.f0.f1, .int .u32 X.f0.f2] 26 (0, 0)) := by
     simpa using blk_set (blk_set (blk_set hz8 0 (.int .i64 X.f0.f0)) 1 (.int .i64 X.f0.f1)) 2 (.int .u32 X.f0.f2)
    have hPE := Kd.R_lower (R130_step hP9 hs8 (fun q hq e => by have := hge9 q hq; omega)) hTw
    have hBE := hB9.trans (hs8.below hB9.size (fun q hq => by omega))
    try go_wp2
    try simp only [Exit.inBlock, Exit.then]
    refine bodyPost_ret (results_list (rs := [.tmp 6, .cell 7 26, .tmp 8]) rfl (by simp) (.tmp (.cell (w.heap.size + 1) 26 #[.int .i64 X.f0.f0, .int .i64 X.f0.f1, .int .u32 X.f0.f2] (0, 0) _ rfl hz9 Tryd.underlying26 rfl (by kernel_rfl) (.tmp .nil)))) rfl ?_
    refine ⟨.slice (some ap) nn c9, ?_, hPE, hBE⟩
    subst hX
    first | rfl | (simp; done) | (simp; rfl)
   ·rw [if_neg h1] at hR
    obtain ⟨hk4, hk5⟩ := hk3 h1
    have d1 : ((level.length : Int) == 1) = false := by
     rw [beq_eq_false_iff_ne]; intro e; exact h1 (by omega)
    have h12 : wrap64 (12 * (f : Int)) = ((12 * f : Nat) : Int) := by rw [wrap64_id (by omega) (by omega)]; omega
    obtain ⟨⟨a0, a1, a2, a3⟩, _⟩ := blk4 p0
    clear hk3 h1 hTt hA hk1 hk2
    go_wp2_with (go_at_call 75; with_reducible refine (hFan _).mono ?_)
    rintro e W10 ⟨rfl, hb⟩
    replace p0 := Stepb hb p0
    replace p1 := Stepb hb p1
    replace hT6 := Stepb hb hT6
    have hP7 := Kd.R_below hP6 hb
    have hB7 := hB6.trans (hb.mono hB6.size)
    have hA7 : ∀ w', Below T W10 w' → Kd.C (Kd.int .i64) w' A6 n6 (at_.drop (2 * level.length)) := fun w' h => hA6 w' (hBT.trans ((hb.mono (Nat.le_trans (Nat.le_of_lt hTlr) hBT.size)).trans h))
    clear a0 a1 a2 a3 hb hP6 hB6 hA6
    have hcut2 := hcut W10 T _ _ hT6 up (12 * f) hf1 hf2 (by omega)
    rw [show ((12 * f : Nat) : Int) = 12 * (f : Int) by omega] at hcut2
    have hTl10 := (Array.getElem?_eq_some_iff.1 hT6).1
    go_wp2_with (go_at_call 72; with_reducible refine hcut2.mono ?_)
    rintro e W11 ⟨v11, rfl, hRl11, hb⟩
    replace p0 := Stepb hb p0
    replace p1 := Stepb hb p1
    replace hT6 := Stepb hb hT6
    have hP8 := Kd.R_below hP7 hb
    have hB8 := hB7.trans (hb.mono hB7.size)
    have hA8 : ∀ w', Below T W11 w' → Kd.C (Kd.int .i64) w' A6 n6 (at_.drop (2 * level.length)) := fun w' h => hA7 w' ((hb.mono (Nat.le_of_lt hTl10)).trans h)
    have hRl12 := Kd.R_lower hRl11 (Nat.le_of_lt hTl10)
    clear hb hP7 hB7 hA7 hcut2 hRl11
    go_wp2
    obtain ⟨A12, c12, rfl, hc12, hC12⟩ := Kd.R_reads hRl12
    refine ⟨⟨q, cutS Z (12 * f) up, at_.drop (2 * level.length), pre ++ ps, A6, c6, v6, _, rfl, hk5, hR, fun z hz => har z (List.mem_of_mem_drop hz), ?_, p0, p1, ?_, ?_, ?_, hP8, hvT6, hRl12, hB8⟩, ?_⟩
    ·rw [List.length_drop, List.length_append, hll]; omega
    ·rw [hT6, List.length_drop, show at_.length - 2 * level.length = n6 by omega]
    ·rw [List.length_drop]; omega
    ·rw [List.length_drop, show at_.length - 2 * level.length = n6 by omega]; exact hA8
    ·simp only [slLen]
     try simp [slLen]
     omega
end
end Go.Proofs.YtmmfplogkikbjaaDoor.HPB
