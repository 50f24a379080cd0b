/- a text of this claim -/
import Derived.Test.YtmmfplogkikbjaaDoorGPBx0
import Derived.Test.YtmmfplogkikbjaaDoorGPBx7
import Derived.Test.YtmmfplogkikbjaaDoorGPBx19
import Derived.Test.YtmmfplogkikbjaaDoorGPBx20
namespace Go.Proofs.YtmmfplogkikbjaaDoor.HPB
open Go.RowKit Go.Proofs.YtmmfplogkikbjaaDoorW.PrintWords Go.Proofs.YtmmfplogkikbjaaDoorW.PrintLast Go.Proofs.YtmmfplogkikbjaaDoorW.PrintMore
attribute [local go_sem] max2_int min2_int max_two min_two max_three min_three max_four min_four
set_option linter.unusedVariables false
set_option linter.unusedSimpArgs false
mutual
def caulkref09_Build.l0 : Nat → ByteArray → List Int → List Int → Int → Int → Int → Int → Int → Int → Option ((List (S130)) × Int × Int × Int × Int)
 | 0, _, _, _, _, _, _, _, _, _ => none
 | k + 1, x1, x2, x46, x47, x48, x267000, x267001, x267002, x267003 => if x48 < x47 then (if 0 ≤ x48 then (if x48 < (x46.length : Int) then (if (rd x46 x48) < 0 then (some (([] : List (S130)), 0, 0, 0, 2)) else (if (rd x46 x48) > 4294967295 then (some (([] : List (S130)), 0, 0, 0, 2)) else (caulkref09_Build.l0 k x1 x2 x46 x47 (wrap64 (x48 + 1)) x267000 x267001 x267002 x267003))) else (none)) else (none)) else ((caulkref09_cut.f k x267000 x267001 x267002 x267003 x1).bind fun t271 => (caulkref09_Build.l1 k x2 ([] : List (S130)) t271 x267000 x267001 x267002 x267003))
def caulkref09_Build.l1 : Nat → List Int → List (S130) → List ByteArray → Int → Int → Int → Int → Option ((List (S130)) × Int × Int × Int × Int)
 | 0, _, _, _, _, _, _, _ => none
 | k + 1, x2, x13, x14, x267000, x267001, x267002, x267003 => caulkref09_Build.l2 k x2 x13 x14 ([] : List ByteArray) x14 (x14.length : Int) 0 x267000 x267001 x267002 x267003
def caulkref09_Build.l2 : Nat → List Int → List (S130) → List ByteArray → List ByteArray → List ByteArray → Int → Int → Int → Int → Int → Int → Option ((List (S130)) × Int × Int × Int × Int)
 | 0, _, _, _, _, _, _, _, _, _, _, _ => none
 | k + 1, x2, x13, x14, x15, x63, x64, x65, x267000, x267001, x267002, x267003 => if x65 < x64 then (if 0 ≤ x65 then (if x65 < (x63.length : Int) then (if 0 ≤ (wrap64 (2 * (x13.length : Int))) then (if (wrap64 (2 * (x13.length : Int))) < (x2.length : Int) then (if 0 ≤ (wrap64 ((wrap64 (2 * (x13.length : Int))) + 1)) then (if (wrap64 ((wrap64 (2 * (x13.length : Int))) + 1)) < (x2.length : Int) then ((caulkref01_Sum.f k (rdOf ByteArray.empty x63 x65)).bind fun t277 => (if x13.length < 3518437208883 then ((caulkref07_Ptr.f k (rd x2 (wrap64 (2 * (x13.length : Int)))) (rd x2 (wrap64 ((wrap64 (2 * (x13.length : Int))) + 1))) t277).bind fun bt282 => (if x15.length < 8796093022208 then (caulkref09_Build.l2 k x2 (x13 ++ [(⟨(⟨rd x2 (wrap64 (2 * (x13.length : Int))), rd x2 (wrap64 ((wrap64 (2 * (x13.length : Int))) + 1)), t277⟩ : S26), rdOf ByteArray.empty x63 x65⟩ : S130)]) x14 (x15 ++ [bt282.1]) x63 x64 (wrap64 (x65 + 1)) x267000 x267001 x267002 x267003) else (none))) else (none))) else (none)) else (none)) else (none)) else (none)) else (none)) else (none)) else (if (x14.length : Int) = 1 then (if 0 ≤ (wrap64 ((x13.length : Int) - 1)) then (if (wrap64 ((x13.length : Int) - 1)) < (x13.length : Int) then (some (x13, (rd_T130 x13 (wrap64 ((x13.length : Int) - 1))).f0.f0, (rd_T130 x13 (wrap64 ((x13.length : Int) - 1))).f0.f1, (rd_T130 x13 (wrap64 ((x13.length : Int) - 1))).f0.f2, 0)) else (none)) else (none)) else (caulkref09_Build.l3 k x2 x13 x15 ([] : List ByteArray) 0 x267000 x267001 x267002 x267003))
def caulkref09_Build.l3 : Nat → List Int → List (S130) → List ByteArray → List ByteArray → Int → Int → Int → Int → Int → Option ((List (S130)) × Int × Int × Int × Int)
 | 0, _, _, _, _, _, _, _, _, _ => none
 | k + 1, x2, x13, x15, x22, x23, x267000, x267001, x267002, x267003 => if x23 < (x15.length : Int) then ((caulkref06_Fan.f k x267000 x267001 x267002 x267003).bind fun t288 => (if 0 ≤ x23 then (if x23 ≤ (mn (wrap64 (x23 + t288)) (x15.length : Int)) then (if (mn (wrap64 (x23 + t288)) (x15.length : Int)) ≤ (x15.length : Int) then ((some ((x15.take ((mn (wrap64 (x23 + t288)) (x15.length : Int)) : Int).toNat).drop (x23 : Int).toNat : List ByteArray)).bind fun y289 => (caulkref09_Build.l4 k x2 x13 x15 x22 x23 (⟨#[]⟩ : ByteArray) y289 (y289.length : Int) 0 x267000 x267001 x267002 x267003)) else (none)) else (none)) else (none))) else (caulkref09_Build.l1 k x2 x13 x22 x267000 x267001 x267002 x267003)
def caulkref09_Build.l4 : Nat → List Int → List (S130) → List ByteArray → List ByteArray → Int → ByteArray → List ByteArray → Int → Int → Int → Int → Int → Int → Option ((List (S130)) × Int × Int × Int × Int)
 | 0, _, _, _, _, _, _, _, _, _, _, _, _, _ => none
 | k + 1, x2, x13, x15, x22, x23, x24, x129, x130, x131, x267000, x267001, x267002, x267003 => if x131 < x130 then (if 0 ≤ x131 then (if x131 < (x129.length : Int) then (if x24.size + (rdOf ByteArray.empty x129 x131).size ≤ 9223372036854775807 then (caulkref09_Build.l4 k x2 x13 x15 x22 x23 (x24 ++ (rdOf ByteArray.empty x129 x131)) x129 x130 (wrap64 (x131 + 1)) x267000 x267001 x267002 x267003) else (none)) else (none)) else (none)) else ((caulkref08_Fill.f k x267000 x267001 x267002 x267003 x24).bind fun bt294 => (if x22.length < 8796093022208 then ((caulkref06_Fan.f k x267000 x267001 x267002 x267003).bind fun t299 => (caulkref09_Build.l3 k x2 x13 x15 (x22 ++ [bt294.1]) (wrap64 (x23 + t299)) x267000 x267001 x267002 x267003)) else (none)))
end
def caulkref09_Build.f (k : Nat) (a0_0 : Int) (a0_1 : Int) (a0_2 : Int) (a0_3 : Int) (a1 : ByteArray) (l2 : List Int) : Option ((List (S130)) × Int × Int × Int × Int) := (caulkref09_Count.f k a0_0 a0_1 a0_2 a0_3 (a1.size : Int)).bind fun bt268 => (if bt268.2 = 0 then (if (l2.length : Int) = (wrap64 (2 * bt268.1)) then (caulkref09_Build.l0 k a1 l2 l2 (l2.length : Int) 0 a0_0 a0_1 a0_2 a0_3) else (some (([] : List (S130)), 0, 0, 0, 2))) else (some (([] : List (S130)), 0, 0, 0, bt268.2)))
def caulkref09_Build.T19 : Bool × List (List Nat × List Nat) := (true, [([], []), ([], []), ([1], [1]), ([0, 2], [0, 2]), ([3], [3]), ([], []), ([], []), ([6], [6]), ([7], [7]), ([5, 8], [5, 8]), ([9], [9]), ([], []), ([11], [11]), ([4, 10, 12], [4, 10, 12]), ([], []), ([14, 13, 12, 0, 1, 2, 3, 4, 5, 6, 7, 8, 9, 10, 11, 12, 13, 14], [13, 14])])
def caulkref09_Build.B19 : List Nat := [0, 0, 2, 7, 15, 0, 0, 64, 192, 480, 992, 0, 2048, 8191, 0, 32767]
theorem caulkref09_Build.tab19 : rtab .any (opsOf Tryd.f25 19) = caulkref09_Build.T19 := by kernel_rfl
theorem caulkref09_Build.bits19 : waitsOk caulkref09_Build.T19.2 caulkref09_Build.B19 = true := by kernel_rfl
def caulkref09_Build.T25 : Bool × List (List Nat × List Nat) := (true, [([], []), ([], []), ([], []), ([2], [2]), ([3], [3]), ([1, 4], [1, 4]), ([5], [5]), ([6], [6]), ([0, 0], [0]), ([7, 8, 0, 1, 2, 3, 4, 5, 6, 7, 8], [7]), ([9, 0, 1, 2, 3, 4, 5, 6, 7, 8, 9], [])])
def caulkref09_Build.B25 : List Nat := [0, 0, 0, 4, 12, 30, 62, 126, 1, 511, 1023]
theorem caulkref09_Build.tab25 : rtab .any (opsOf Tryd.f25 25) = caulkref09_Build.T25 := by kernel_rfl
theorem caulkref09_Build.bits25 : waitsOk caulkref09_Build.T25.2 caulkref09_Build.B25 = true := by kernel_rfl
set_option maxHeartbeats 8000000 in
set_option maxRecDepth 100000 in
theorem caulkref09_Build.calls (k : Nat) (a0_0 : Int) (a0_1 : Int) (a0_2 : Int) (a0_3 : Int) (a1 : ByteArray) (A2 : Option Addr) (c2 : Nat) (l2 : List Int) (r1 : List (S130)) (r2 : Int) (r3 : Int) (r4 : Int) (r5 : Int) (w : World) (hr2 : Kd.C (Kd.int .i64) w A2 l2.length l2) (hc2 : l2.length ≤ c2) (h : caulkref09_Build.f k a0_0 a0_1 a0_2 a0_3 a1 l2 = some (r1, r2, r3, r4, r5)) :
  Calls Tryd.prog 25 #[.agg #[.int .i64 a0_0, .int .i64 a0_1, .int .i64 a0_2, .int .i64 a0_3], .string a1, .slice A2 l2.length c2] w fun e w' => ∃ v0_ : Value, e = .returned (.tuple #[v0_, .agg #[.int .i64 r2, .int .i64 r3, .int .u32 r4], .int .i64 r5]) ∧ Kd.R k130 130 w' w.heap.size (fun _ => True) v0_ r1 ∧ Below w.heap.size w w' := by
 have hu23 := Tryd.underlying23
 have hu26 := Tryd.underlying26
 have hu130 := Tryd.underlying130
 have HR2 := Aside0.mk hr2
 have HC2 := Aside0.mk hc2
 clear hr2 hc2
 have HB := Aside0.mk (Below.refl w.heap.size w)
 have H : ((caulkref09_Count.f k a0_0 a0_1 a0_2 a0_3 (a1.size : Int)).bind fun bt268 => (if bt268.2 = 0 then (if (l2.length : Int) = (wrap64 (2 * bt268.1)) then (caulkref09_Build.l0 k a1 l2 l2 (l2.length : Int) 0 a0_0 a0_1 a0_2 a0_3) else (some (([] : List (S130)), 0, 0, 0, 2))) else (some (([] : List (S130)), 0, 0, 0, bt268.2)))) = some (r1, r2, r3, r4, r5) := h
 clear h
 replace H := Option.bind_eq_some_iff.mp H
 obtain ⟨⟨t268, t269⟩, A40, H⟩ := H
 replace H : (if t269 = 0 then (if (l2.length : Int) = (wrap64 (2 * t268)) then (caulkref09_Build.l0 k a1 l2 l2 (l2.length : Int) 0 a0_0 a0_1 a0_2 a0_3) else (some (([] : List (S130)), 0, 0, 0, 2))) else (some (([] : List (S130)), 0, 0, 0, t269))) = some (r1, r2, r3, r4, r5) := H
 have A4 := Aside0.mk A40
 clear A40
 by_cases c5 : t269 = 0
 ·rw [if_pos c5] at H
  have c5b0 : (t269 == 0) = true := beq_iff_eq.mpr c5
  have c5b1 : (t269 != 0) = false := bne_eq_false_iff_eq.mpr c5
  clear c5
  by_cases c6 : (l2.length : Int) = (wrap64 (2 * t268))
  ·rw [if_pos c6] at H
   have c6b0 : ((l2.length : Int) == (wrap64 (2 * t268))) = true := beq_iff_eq.mpr c6
   have c6b1 : ((l2.length : Int) != (wrap64 (2 * t268))) = false := bne_eq_false_iff_eq.mpr c6
   clear c6
   have H' := Aside0.mk H
   clear H
   go_enter Tryd.func25, Tryd.ntmps25
   (try simp only [List.append_eq, List.cons_append, List.nil_append])
   go_wp2_with (first | ((with_reducible refine HOpen.gate_append ?_); simp only [List.cons_append, List.nil_append]) | ((with_reducible refine gate_dst (N := 3) rfl ?_); refine box_event ?hg (N := 3) ?hd (cs := #[.int .i64 a0_0, .int .i64 a0_1, .int .i64 a0_2, .int .i64 a0_3]) (t := 23) ?hr ?_; (case hd => rfl); (case hg => rfl); (case hr => first | (go_simp; done) | (go_simp; rfl)); intro gb266 hg w7 hbox hb; have n0_ := Aside0.mk (below_step (by repeat (first | (with_reducible first | exact HB.out | apply below_alloc | apply pw_below_drewN | apply below_drew1) | exact HB.out)) hb); have n1_ := Aside0.mk (hbox); have n2_ := Aside0.mk ((by rw [hg]; exact (below_size (by repeat (first | (with_reducible first | exact HB.out | apply below_alloc | apply pw_below_drewN | apply below_drew1) | exact HB.out))) : w.heap.size ≤ gb266)); have n3_ := Aside0.mk ((by rw [hg]; exact (below_size (by repeat (first | (with_reducible first | exact HB.out | apply below_alloc | apply pw_below_drewN | apply below_drew1) | exact HB.out))) : w.heap.size ≤ gb266)); clear HB; have HB := n0_; have BK266 := n1_; have GW266 := n2_; have GE266 := n3_; clear n0_ n1_ n2_ n3_; clear hb hbox hg) | ((with_reducible refine gate_dst (N := 7) rfl ?_); refine box_event ?hg (N := 7) ?hd (cs := #[.int .i64 0, .int .i64 0, .int .u32 0]) (t := 26) ?hr ?_; (case hd => rfl); (case hg => rfl); (case hr => first | (go_simp; done) | (go_simp; rfl)); intro gb267 hg w8 hbox hb; have n0_ := Aside0.mk (blk_below (g := gb266) (o := .cells #[.int .i64 a0_0, .int .i64 a0_1, .int .i64 a0_2, .int .i64 a0_3] 23 (0, 0)) (by (with_reducible repeat (first | refine blk_drewN ?_ _ | refine blk_drew ?_ | refine blk_alloc ?_ _)); exact BK266.out) hb); have n1_ := Aside0.mk (below_step (by repeat (first | (with_reducible first | exact HB.out | apply below_alloc | apply pw_below_drewN | apply below_drew1 | refine below_set ?_ GE266.out) | exact HB.out)) hb); have n2_ := Aside0.mk (hbox); have n3_ := Aside0.mk ((by rw [hg]; exact (below_size (by repeat (first | (with_reducible first | exact HB.out | apply below_alloc | apply pw_below_drewN | apply below_drew1 | refine below_set ?_ GE266.out) | exact HB.out))) : w.heap.size ≤ gb267)); have n4_ := Aside0.mk ((by rw [hg]; exact (below_size (by repeat (first | (with_reducible first | exact HB.out | apply below_alloc | apply pw_below_drewN | apply below_drew1 | refine below_set ?_ GE266.out) | exact HB.out))) : w.heap.size ≤ gb267)); have n5_ := Aside0.mk ((by rw [hg]; exact Nat.ne_of_lt (blk_lt (g := gb266) (o := .cells #[.int .i64 a0_0, .int .i64 a0_1, .int .i64 a0_2, .int .i64 a0_3] 23 (0, 0)) (by (with_reducible repeat (first | refine blk_drewN ?_ _ | refine blk_drew ?_ | refine blk_alloc ?_ _)); exact BK266.out)) : gb266 ≠ gb267)); have n6_ := Aside0.mk ((by rw [hg]; exact Nat.ne_of_gt (blk_lt (g := gb266) (o := .cells #[.int .i64 a0_0, .int .i64 a0_1, .int .i64 a0_2, .int .i64 a0_3] 23 (0, 0)) (by (with_reducible repeat (first | refine blk_drewN ?_ _ | refine blk_drew ?_ | refine blk_alloc ?_ _)); exact BK266.out)) : gb267 ≠ gb266)); clear BK266; clear HB; have BK266 := n0_; have HB := n1_; have BK267 := n2_; have GW267 := n3_; have GE267 := n4_; have NB266_267 := n5_; have NB267_266 := n6_; clear n0_ n1_ n2_ n3_ n4_ n5_ n6_; clear hb hbox hg; have hnb9 := NB266_267.out; have hnc9 := NB267_266.out; have hcz10_0 : w8.cell? ⟨gb266, 0, none⟩ = some (.int .i64 a0_0) := (blk_cell BK266.out 0).trans rfl; have hcz10_1 : w8.cell? ⟨gb266, 1, none⟩ = some (.int .i64 a0_1) := (blk_cell BK266.out 1).trans rfl; have hcz10_2 : w8.cell? ⟨gb266, 2, none⟩ = some (.int .i64 a0_2) := (blk_cell BK266.out 2).trans rfl; have hcz10_3 : w8.cell? ⟨gb266, 3, none⟩ = some (.int .i64 a0_3) := (blk_cell BK266.out 3).trans rfl; have hfz10_0 := blk_frozen BK266.out 0; have hfz10_1 := blk_frozen BK266.out 1; have hfz10_2 := blk_frozen BK266.out 2; have hfz10_3 := blk_frozen BK266.out 3) | ((with_reducible refine gate_callee (f := 23) rfl ?_); refine goesL_ (some 33) rfl rfl Tryd.func23 (by kernel_rfl) rfl #[.agg #[.int .i64 a0_0, .int .i64 a0_1, .int .i64 a0_2, .int .i64 a0_3], .int .i64 (a1.size : Int)] rfl (by (try simp only [List.map_toArray, List.map_cons, List.map_nil]); first | done | rfl | (simp only [List.length_drop, List.length_take]; rfl)) ?_; (with_reducible refine (caulkref09_Count.calls k a0_0 a0_1 a0_2 a0_3 (a1.size : Int) t268 t269 _ A4.out).mono ?_); rintro e w11 ⟨rfl, hb⟩; refine ⟨_, rfl, ?_⟩; have n0_ := Aside0.mk (blk_below (g := gb266) (o := .cells #[.int .i64 a0_0, .int .i64 a0_1, .int .i64 a0_2, .int .i64 a0_3] 23 (0, 0)) (by (with_reducible repeat (first | refine blk_drewN ?_ _ | refine blk_drew ?_ | refine blk_alloc ?_ _)); exact BK266.out) hb); have n1_ := Aside0.mk (blk_below (g := gb267) (o := .cells #[.int .i64 0, .int .i64 0, .int .u32 0] 26 (0, 0)) (by (with_reducible repeat (first | refine blk_drewN ?_ _ | refine blk_drew ?_ | refine blk_alloc ?_ _)); exact BK267.out) hb); have n2_ := Aside0.mk (below_step (by repeat (first | (with_reducible first | exact HB.out | apply below_alloc | apply pw_below_drewN | apply below_drew1 | refine below_set ?_ GE266.out | refine below_set ?_ GE267.out) | exact HB.out)) hb); clear BK266; clear BK267; clear HB; have BK266 := n0_; have BK267 := n1_; have HB := n2_; clear n0_ n1_ n2_; (try clear hb); (try clear hb2); (try clear hk); (try clear hi)))
   (try simp only [Act.put, List.setIfInBounds_toArray, List.set_cons_zero, List.set_cons_succ])
   go_loopg [48] k (fun kq v48 w' => ∃ (x48_1 : Int) (x268000_1 : Int) (x268001_1 : Int) (x268002_1 : Int), v48 = .int .i64 x48_1 ∧ Aside0 (caulkref09_Build.l0 kq a1 l2 l2 (l2.length : Int) x48_1 a0_0 a0_1 a0_2 a0_3 = some (r1, r2, r3, r4, r5)) ∧ Aside0 (kq ≤ k) ∧ Aside0 (w'.heap[gb266]? = some (.cells #[.int .i64 a0_0, .int .i64 a0_1, .int .i64 a0_2, .int .i64 a0_3] 23 (0, 0))) ∧ Aside0 (w'.heap[gb267]? = some (.cells #[.int .i64 x268000_1, .int .i64 x268001_1, .int .u32 x268002_1] 26 (0, 0))) ∧ Aside0 (Below w.heap.size w w'))
   case atStart => exact ⟨(0), (0), (0), (0), (by first | rfl | (simp; done) | (simp [*]; done)), H', ⟨Nat.le_refl _⟩, ⟨by (with_reducible repeat (first | refine blk_drewN ?_ _ | refine blk_drew ?_ | refine blk_alloc ?_ _)); exact BK266.out⟩, ⟨by (with_reducible repeat (first | refine blk_drewN ?_ _ | refine blk_drew ?_ | refine blk_alloc ?_ _)); exact BK267.out⟩, ⟨by repeat (first | (with_reducible first | exact HB.out | apply below_alloc | apply pw_below_drewN | apply below_drew1 | refine below_set ?_ GE266.out | refine below_set ?_ GE267.out) | exact HB.out)⟩⟩
   case round =>
    as_aux_lemma =>
     clear H'
     (try clear c2);(try clear p2);(try clear c5);(try clear c5b0);(try clear c5b1);(try clear c6);(try clear c6b0);(try clear c6b1);(try clear p6);(try clear c9);(try clear hcz10_0);(try clear hcz10_1);(try clear hcz10_2);(try clear hcz10_3);(try clear hfz10_0);(try clear hfz10_1);(try clear hfz10_2);(try clear hfz10_3)
     obtain ⟨x48_1, x268000_1, x268001_1, x268002_1, rfl, HA, HK1, BK266, BK267, HB⟩ := hrel
     cases gk with
     | zero => exact absurd HA.out (by simp [caulkref09_Build.l0])
     | succ k1 =>
      have H := HA.out
      clear HA
      simp only [caulkref09_Build.l0] at H
      by_cases c12 : x48_1 < (l2.length : Int)
      ·rw [if_pos c12] at H
       have c12b0 : decide (x48_1 < (l2.length : Int)) = true := decide_eq_true c12
       clear c12
       by_cases c13 : 0 ≤ x48_1
       ·rw [if_pos c13] at H
        have c13b0 : decide (0 ≤ x48_1) = true := decide_eq_true c13
        clear c13
        by_cases c14 : x48_1 < (l2.length : Int)
        ·rw [if_pos c14] at H
         have c14b0 : decide (x48_1 < (l2.length : Int)) = true := decide_eq_true c14
         clear c14
         by_cases c15 : (rd l2 x48_1) < 0
         ·rw [if_pos c15] at H
          have c15b0 : decide ((rd l2 x48_1) < 0) = true := decide_eq_true c15
          clear c15
          simp only [Option.some.injEq, Prod.mk.injEq] at H
          obtain ⟨rfl, rfl, rfl, rfl, rfl⟩ := H
          have p270 : 0 ≤ (x48_1 : Int) := of_decide_eq_true (by first | (with_reducible assumption) | assumption)
          have q270 : x48_1 < (l2.length : Int) := of_decide_eq_true (by first | (with_reducible assumption) | assumption)
          obtain ⟨ad270, e270, hx270_0⟩ := Kd.at_int HR2.out x48_1 p270 q270
          cases e270
          replace hx270_0 := (HB.out.cell (World.block_lt_of_cell? w _ hx270_0)).trans hx270_0
          replace p270 := eq_true p270
          replace q270 := eq_true q270
          have hnb16 := NB267_266.out
          have hnc16 := NB266_267.out
          have hcz17_0 : wr.cell? ⟨gb267, 0, none⟩ = some (.int .i64 x268000_1) := (blk_cell BK267.out 0).trans rfl
          have hcz17_1 : wr.cell? ⟨gb267, 1, none⟩ = some (.int .i64 x268001_1) := (blk_cell BK267.out 1).trans rfl
          have hcz17_2 : wr.cell? ⟨gb267, 2, none⟩ = some (.int .u32 x268002_1) := (blk_cell BK267.out 2).trans rfl
          have hfz17_0 := blk_frozen BK267.out 0
          have hfz17_1 := blk_frozen BK267.out 1
          have hfz17_2 := blk_frozen BK267.out 2
          go_wp2
          refine bodyPost_ret (results_list (rs := [.tmp 6, .cell 7 26, .tmp 8]) rfl (by simp) (.tmp (.cell gb267 26 #[.int .i64 0, .int .i64 0, .int .u32 0] (0, 0) _ rfl (by (with_reducible repeat (first | refine blk_drewN ?_ _ | refine blk_drew ?_ | refine blk_alloc ?_ _)); refine blk_put (cs := #[.int .i64 0, .int .i64 0, .int .u32 x268002_1]) ?_ 2 _ rfl; (with_reducible repeat (first | refine blk_drewN ?_ _ | refine blk_drew ?_ | refine blk_alloc ?_ _)); refine blk_put (cs := #[.int .i64 0, .int .i64 x268001_1, .int .u32 x268002_1]) ?_ 1 _ rfl; (with_reducible repeat (first | refine blk_drewN ?_ _ | refine blk_drew ?_ | refine blk_alloc ?_ _)); refine blk_put (cs := #[.int .i64 x268000_1, .int .i64 x268001_1, .int .u32 x268002_1]) ?_ 0 _ rfl; (with_reducible repeat (first | refine blk_drewN ?_ _ | refine blk_drew ?_ | refine blk_alloc ?_ _)); exact BK267.out) Tryd.underlying26 rfl (by kernel_rfl) (.tmp .nil)))) rfl ?_
          exact ⟨_, by first | rfl | (simp [errW_none, errW_some] <;> rfl) | (simp [*, errW_none, errW_some] <;> rfl), by first | exact Kd.R_nil _ _ _ _ _ | exact Kd.N_nil _ _ _ _ _ | exact Kd.V_nil _ _ _ _ _ | exact Kd.Q_nil _ _ _ _ _ | exact Kd.S_nil _ _ _ _ _, by repeat (first | (with_reducible first | exact HB.out | apply below_alloc | apply pw_below_drewN | apply below_drew1 | refine below_set ?_ GE266.out | refine below_set ?_ GE267.out) | exact HB.out)⟩
         ·rw [if_neg c15] at H
          have c15b0 : decide ((rd l2 x48_1) < 0) = false := decide_eq_false c15
          clear c15
          by_cases c18 : (rd l2 x48_1) > 4294967295
          ·rw [if_pos c18] at H
           have c18b0 : decide (4294967295 < (rd l2 x48_1)) = true := decide_eq_true c18
           clear c18
           simp only [Option.some.injEq, Prod.mk.injEq] at H
           obtain ⟨rfl, rfl, rfl, rfl, rfl⟩ := H
           have p270 : 0 ≤ (x48_1 : Int) := of_decide_eq_true (by first | (with_reducible assumption) | assumption)
           have q270 : x48_1 < (l2.length : Int) := of_decide_eq_true (by first | (with_reducible assumption) | assumption)
           obtain ⟨ad270, e270, hx270_0⟩ := Kd.at_int HR2.out x48_1 p270 q270
           cases e270
           replace hx270_0 := (HB.out.cell (World.block_lt_of_cell? w _ hx270_0)).trans hx270_0
           replace p270 := eq_true p270
           replace q270 := eq_true q270
           have hnb19 := NB267_266.out
           have hnc19 := NB266_267.out
           have hcz20_0 : wr.cell? ⟨gb267, 0, none⟩ = some (.int .i64 x268000_1) := (blk_cell BK267.out 0).trans rfl
           have hcz20_1 : wr.cell? ⟨gb267, 1, none⟩ = some (.int .i64 x268001_1) := (blk_cell BK267.out 1).trans rfl
           have hcz20_2 : wr.cell? ⟨gb267, 2, none⟩ = some (.int .u32 x268002_1) := (blk_cell BK267.out 2).trans rfl
           have hfz20_0 := blk_frozen BK267.out 0
           have hfz20_1 := blk_frozen BK267.out 1
           have hfz20_2 := blk_frozen BK267.out 2
           go_wp2
           refine bodyPost_ret (results_list (rs := [.tmp 6, .cell 7 26, .tmp 8]) rfl (by simp) (.tmp (.cell gb267 26 #[.int .i64 0, .int .i64 0, .int .u32 0] (0, 0) _ rfl (by (with_reducible repeat (first | refine blk_drewN ?_ _ | refine blk_drew ?_ | refine blk_alloc ?_ _)); refine blk_put (cs := #[.int .i64 0, .int .i64 0, .int .u32 x268002_1]) ?_ 2 _ rfl; (with_reducible repeat (first | refine blk_drewN ?_ _ | refine blk_drew ?_ | refine blk_alloc ?_ _)); refine blk_put (cs := #[.int .i64 0, .int .i64 x268001_1, .int .u32 x268002_1]) ?_ 1 _ rfl; (with_reducible repeat (first | refine blk_drewN ?_ _ | refine blk_drew ?_ | refine blk_alloc ?_ _)); refine blk_put (cs := #[.int .i64 x268000_1, .int .i64 x268001_1, .int .u32 x268002_1]) ?_ 0 _ rfl; (with_reducible repeat (first | refine blk_drewN ?_ _ | refine blk_drew ?_ | refine blk_alloc ?_ _)); exact BK267.out) Tryd.underlying26 rfl (by kernel_rfl) (.tmp .nil)))) rfl ?_
           exact ⟨_, by first | rfl | (simp [errW_none, errW_some] <;> rfl) | (simp [*, errW_none, errW_some] <;> rfl), by first | exact Kd.R_nil _ _ _ _ _ | exact Kd.N_nil _ _ _ _ _ | exact Kd.V_nil _ _ _ _ _ | exact Kd.Q_nil _ _ _ _ _ | exact Kd.S_nil _ _ _ _ _, by repeat (first | (with_reducible first | exact HB.out | apply below_alloc | apply pw_below_drewN | apply below_drew1 | refine below_set ?_ GE266.out | refine below_set ?_ GE267.out) | exact HB.out)⟩
          ·rw [if_neg c18] at H
           have c18b0 : decide (4294967295 < (rd l2 x48_1)) = false := decide_eq_false c18
           clear c18
           have H' := Aside0.mk H
           clear H
           have p270 : 0 ≤ (x48_1 : Int) := of_decide_eq_true (by first | (with_reducible assumption) | assumption)
           have q270 : x48_1 < (l2.length : Int) := of_decide_eq_true (by first | (with_reducible assumption) | assumption)
           obtain ⟨ad270, e270, hx270_0⟩ := Kd.at_int HR2.out x48_1 p270 q270
           cases e270
           replace hx270_0 := (HB.out.cell (World.block_lt_of_cell? w _ hx270_0)).trans hx270_0
           replace p270 := eq_true p270
           replace q270 := eq_true q270
           go_wp2
           go_roundg k1
           case measure => have := HK1.out; omega
           case rel => exact ⟨(wrap64 (x48_1 + 1)), (x268000_1), (x268001_1), (x268002_1), (by first | rfl | (simp; done) | (simp [*]; done)), H', ⟨by have := HK1.out; omega⟩, ⟨by (with_reducible repeat (first | refine blk_drewN ?_ _ | refine blk_drew ?_ | refine blk_alloc ?_ _)); exact BK266.out⟩, ⟨by (with_reducible repeat (first | refine blk_drewN ?_ _ | refine blk_drew ?_ | refine blk_alloc ?_ _)); exact BK267.out⟩, ⟨by repeat (first | (with_reducible first | exact HB.out | apply below_alloc | apply pw_below_drewN | apply below_drew1 | refine below_set ?_ GE266.out | refine below_set ?_ GE267.out) | exact HB.out)⟩⟩
        ·rw [if_neg c14] at H
         exact absurd H (by simp)
       ·rw [if_neg c13] at H
        exact absurd H (by simp)
      ·rw [if_neg c12] at H
       have c12b0 : decide (x48_1 < (l2.length : Int)) = false := decide_eq_false c12
       clear c12
       replace H := Option.bind_eq_some_iff.mp H
       obtain ⟨t271, A210, H⟩ := H
       replace H : (caulkref09_Build.l1 k1 l2 ([] : List (S130)) t271 a0_0 a0_1 a0_2 a0_3) = some (r1, r2, r3, r4, r5) := H
       have A21 := Aside0.mk A210
       clear A210
       have H' := Aside0.mk H
       clear H
       have hnb22 := NB266_267.out
       have hnc22 := NB267_266.out
       have hcz23_0 : wr.cell? ⟨gb266, 0, none⟩ = some (.int .i64 a0_0) := (blk_cell BK266.out 0).trans rfl
       have hcz23_1 : wr.cell? ⟨gb266, 1, none⟩ = some (.int .i64 a0_1) := (blk_cell BK266.out 1).trans rfl
       have hcz23_2 : wr.cell? ⟨gb266, 2, none⟩ = some (.int .i64 a0_2) := (blk_cell BK266.out 2).trans rfl
       have hcz23_3 : wr.cell? ⟨gb266, 3, none⟩ = some (.int .i64 a0_3) := (blk_cell BK266.out 3).trans rfl
       have hfz23_0 := blk_frozen BK266.out 0
       have hfz23_1 := blk_frozen BK266.out 1
       have hfz23_2 := blk_frozen BK266.out 2
       have hfz23_3 := blk_frozen BK266.out 3
       go_wp2_with (first | ((with_reducible refine HOpen.gate_append ?_); simp only [List.cons_append, List.nil_append]) | ((with_reducible refine gate_callee (f := 76) rfl ?_); refine goesL_ (some 62) rfl rfl Tryd.func76 (by kernel_rfl) rfl #[.agg #[.int .i64 a0_0, .int .i64 a0_1, .int .i64 a0_2, .int .i64 a0_3], .string a1] rfl (by (try simp only [List.map_toArray, List.map_cons, List.map_nil]); first | done | rfl | (simp only [List.length_drop, List.length_take]; rfl)) ?_; (with_reducible refine (caulkref09_cut.calls k1 a0_0 a0_1 a0_2 a0_3 a1 t271 _ A21.out).mono ?_); rintro e w24 ⟨v272, rfl, ho0, hb⟩; refine ⟨_, rfl, ?_⟩; have n0_ := Aside0.mk (Kd.R_lower ho0 (below_size (by repeat (first | (with_reducible first | exact HB.out | apply below_alloc | apply pw_below_drewN | apply below_drew1 | refine below_set ?_ GE266.out | refine below_set ?_ GE267.out) | exact HB.out)))); have n1_ := Aside0.mk (blk_below (g := gb266) (o := .cells #[.int .i64 a0_0, .int .i64 a0_1, .int .i64 a0_2, .int .i64 a0_3] 23 (0, 0)) (by (with_reducible repeat (first | refine blk_drewN ?_ _ | refine blk_drew ?_ | refine blk_alloc ?_ _)); exact BK266.out) hb); have n2_ := Aside0.mk (blk_below (g := gb267) (o := .cells #[.int .i64 x268000_1, .int .i64 x268001_1, .int .u32 x268002_1] 26 (0, 0)) (by (with_reducible repeat (first | refine blk_drewN ?_ _ | refine blk_drew ?_ | refine blk_alloc ?_ _)); exact BK267.out) hb); have n3_ := Aside0.mk (below_step (by repeat (first | (with_reducible first | exact HB.out | apply below_alloc | apply pw_below_drewN | apply below_drew1 | refine below_set ?_ GE266.out | refine below_set ?_ GE267.out) | exact HB.out)) hb); clear BK266; clear BK267; clear HB; have HO273 := n0_; have BK266 := n1_; have BK267 := n2_; have HB := n3_; clear n0_ n1_ n2_ n3_; (try clear hb); (try clear hb2); (try clear hk); (try clear hi); (try clear ho0)))
       (try simp only [Act.put, List.setIfInBounds_toArray, List.set_cons_zero, List.set_cons_succ])
       go_loopg [13, 14] k1 (fun kq v13 v14 w' => ∃ (x13_2 : List (S130)) (x14_2 : List ByteArray) (x268000_2 : Int) (x268001_2 : Int) (x268002_2 : Int), Aside0 (caulkref09_Build.l1 kq l2 x13_2 x14_2 a0_0 a0_1 a0_2 a0_3 = some (r1, r2, r3, r4, r5)) ∧ Aside0 (kq ≤ k1) ∧ Aside0 (Kd.R k130 130 w' w.heap.size (fun _ => True) v13 x13_2) ∧ Aside0 (Kd.R Kd.string 9 w' w.heap.size (fun _ => True) v14 x14_2) ∧ Aside0 (w'.heap[gb266]? = some (.cells #[.int .i64 a0_0, .int .i64 a0_1, .int .i64 a0_2, .int .i64 a0_3] 23 (0, 0))) ∧ Aside0 (w'.heap[gb267]? = some (.cells #[.int .i64 x268000_2, .int .i64 x268001_2, .int .u32 x268002_2] 26 (0, 0))) ∧ Aside0 (Below w.heap.size w w'))
       case atStart => exact ⟨(([] : List (S130))), (t271), (x268000_1), (x268001_1), (x268002_1), H', ⟨Nat.le_refl _⟩, ⟨by first | exact Kd.R_nil _ _ _ _ _ | exact Kd.N_nil _ _ _ _ _ | exact Kd.V_nil _ _ _ _ _ | exact Kd.Q_nil _ _ _ _ _ | exact Kd.S_nil _ _ _ _ _⟩, ⟨by (with_reducible repeat (first | apply Kd.R_alloc | apply Kd.R_drewN | apply Kd.R_drew)); exact HO273.out⟩, ⟨by (with_reducible repeat (first | refine blk_drewN ?_ _ | refine blk_drew ?_ | refine blk_alloc ?_ _)); exact BK266.out⟩, ⟨by (with_reducible repeat (first | refine blk_drewN ?_ _ | refine blk_drew ?_ | refine blk_alloc ?_ _)); exact BK267.out⟩, ⟨by repeat (first | (with_reducible first | exact HB.out | apply below_alloc | apply pw_below_drewN | apply below_drew1 | refine below_set ?_ GE266.out | refine below_set ?_ GE267.out) | exact HB.out)⟩⟩
       case round =>
        as_aux_lemma =>
         clear H'
         (try clear c1);(try clear c2);(try clear p2);(try clear q2);(try clear hx2);(try clear c5);(try clear c5b0);(try clear c5b1);(try clear c6);(try clear c6b0);(try clear c6b1);(try clear p6);(try clear c7);(try clear c9);(try clear c12);(try clear c12b0);(try clear c13);(try clear c13b0);(try clear c14);(try clear c14b0);(try clear c15);(try clear c15b0);(try clear c16);(try clear c18);(try clear c18b0);(try clear c19);(try clear c22);(try clear c23);(try clear hcz10_0);(try clear hcz10_1);(try clear hcz10_2);(try clear hcz10_3);(try clear hcz17_0);(try clear hcz17_1);(try clear hcz17_2);(try clear hcz20_0);(try clear hcz20_1);(try clear hcz20_2);(try clear hcz23_0);(try clear hcz23_1);(try clear hcz23_2);(try clear hcz23_3);(try clear hfz10_0);(try clear hfz10_1);(try clear hfz10_2);(try clear hfz10_3);(try clear hfz17_0);(try clear hfz17_1);(try clear hfz17_2);(try clear hfz20_0);(try clear hfz20_1);(try clear hfz20_2);(try clear hfz23_0);(try clear hfz23_1);(try clear hfz23_2);(try clear hfz23_3);(try clear hx270_0);(try clear p2);(try clear p270);(try clear p6);(try clear q270)
         obtain ⟨x13_2, x14_2, x268000_2, x268001_2, x268002_2, HA, HK2, HO_13, HO_14, BK266, BK267, HB⟩ := hrel
         cases gk with
         | zero => exact absurd HA.out (by simp [caulkref09_Build.l1])
         | succ k2 =>
          have H := HA.out
          clear HA
          simp only [caulkref09_Build.l1] at H
          have H' := Aside0.mk H
          clear H
          obtain ⟨Ao25, co25, eo25⟩ := Kd.R_slice HO_14.out
          subst eo25
          go_wp2
          go_loopg [13, 15, 65] k2 (fun kq v13 v15 v65 w' => ∃ (x13_3 : List (S130)) (x15_3 : List ByteArray) (x65_3 : Int), v65 = .int .i64 x65_3 ∧ Aside0 (caulkref09_Build.l2 kq l2 x13_3 x14_2 x15_3 x14_2 (x14_2.length : Int) x65_3 a0_0 a0_1 a0_2 a0_3 = some (r1, r2, r3, r4, r5)) ∧ Aside0 (kq ≤ k2) ∧ Aside0 (Kd.R k130 130 w' w.heap.size (fun _ => True) v13 x13_3) ∧ Aside0 (Kd.R Kd.string 9 w' w.heap.size (fun k_ => some k_ ≠ (v15 : Value).ownBlock) (.slice Ao25 x14_2.length co25) x14_2) ∧ Aside0 (Kd.R Kd.string 9 w' w.heap.size (fun k_ => some k_ ≠ ((.slice Ao25 x14_2.length co25) : Value).ownBlock ∧ some k_ ≠ ((.slice Ao25 x14_2.length co25) : Value).ownBlock) v15 x15_3) ∧ Aside0 (Kd.R Kd.string 9 w' w.heap.size (fun k_ => some k_ ≠ (v15 : Value).ownBlock) (.slice Ao25 x14_2.length co25) x14_2) ∧ Aside0 (w'.heap[gb266]? = some (.cells #[.int .i64 a0_0, .int .i64 a0_1, .int .i64 a0_2, .int .i64 a0_3] 23 (0, 0))) ∧ Aside0 (w'.heap[gb267]? = some (.cells #[.int .i64 x268000_2, .int .i64 x268001_2, .int .u32 x268002_2] 26 (0, 0))) ∧ Aside0 (Below w.heap.size w w'))
          case atStart => exact ⟨(x13_2), (([] : List ByteArray)), (0), (by first | rfl | (simp; done) | (simp [*]; done)), H', ⟨Nat.le_refl _⟩, ⟨by (with_reducible repeat (first | apply Kd.R_alloc | apply Kd.R_drewN | apply Kd.R_drew)); exact HO_13.out⟩, ⟨by (with_reducible repeat (first | apply Kd.R_alloc | apply Kd.R_drewN | apply Kd.R_drew)); exact Kd.R_mono HO_14.out (fun _ hk => (by simp [Value.ownBlock]))⟩, ⟨by first | exact Kd.R_nil _ _ _ _ _ | exact Kd.N_nil _ _ _ _ _ | exact Kd.V_nil _ _ _ _ _ | exact Kd.Q_nil _ _ _ _ _ | exact Kd.S_nil _ _ _ _ _⟩, ⟨by (with_reducible repeat (first | apply Kd.R_alloc | apply Kd.R_drewN | apply Kd.R_drew)); exact Kd.R_mono HO_14.out (fun _ hk => (by simp [Value.ownBlock]))⟩, ⟨by (with_reducible repeat (first | refine blk_drewN ?_ _ | refine blk_drew ?_ | refine blk_alloc ?_ _)); exact BK266.out⟩, ⟨by (with_reducible repeat (first | refine blk_drewN ?_ _ | refine blk_drew ?_ | refine blk_alloc ?_ _)); exact BK267.out⟩, ⟨by repeat (first | (with_reducible first | exact HB.out | apply below_alloc | apply pw_below_drewN | apply below_drew1 | refine below_set ?_ GE266.out | refine below_set ?_ GE267.out) | exact HB.out)⟩⟩
          case round =>
           as_aux_lemma =>
            clear H'
            (try clear c1);(try clear c2);(try clear p2);(try clear q2);(try clear hx2);(try clear c5);(try clear c5b0);(try clear c5b1);(try clear c6);(try clear c6b0);(try clear c6b1);(try clear p6);(try clear c7);(try clear c9);(try clear c12);(try clear c12b0);(try clear c13);(try clear c13b0);(try clear c14);(try clear c14b0);(try clear c15);(try clear c15b0);(try clear c16);(try clear c18);(try clear c18b0);(try clear c19);(try clear c22);(try clear c23);(try clear c25);(try clear hcz10_0);(try clear hcz10_1);(try clear hcz10_2);(try clear hcz10_3);(try clear hcz17_0);(try clear hcz17_1);(try clear hcz17_2);(try clear hcz20_0);(try clear hcz20_1);(try clear hcz20_2);(try clear hcz23_0);(try clear hcz23_1);(try clear hcz23_2);(try clear hcz23_3);(try clear hfz10_0);(try clear hfz10_1);(try clear hfz10_2);(try clear hfz10_3);(try clear hfz17_0);(try clear hfz17_1);(try clear hfz17_2);(try clear hfz20_0);(try clear hfz20_1);(try clear hfz20_2);(try clear hfz23_0);(try clear hfz23_1);(try clear hfz23_2);(try clear hfz23_3);(try clear hx270_0);(try clear p2);(try clear p270);(try clear p6);(try clear q2);(try clear q270)
            obtain ⟨x13_3, x15_3, x65_3, rfl, HA, HK3, HO_13, HO_14, HO_15, HO_63, BK266, BK267, HB⟩ := hrel
            cases gk with
            | zero => exact absurd HA.out (by simp [caulkref09_Build.l2])
            | succ k3 =>
             have H := HA.out
             clear HA
             simp only [caulkref09_Build.l2] at H
             by_cases c26 : x65_3 < (x14_2.length : Int)
             ·rw [if_pos c26] at H
              have c26b0 : decide (x65_3 < (x14_2.length : Int)) = true := decide_eq_true c26
              clear c26
              by_cases c27 : 0 ≤ x65_3
              ·rw [if_pos c27] at H
               have c27b0 : decide (0 ≤ x65_3) = true := decide_eq_true c27
               clear c27
               by_cases c28 : x65_3 < (x14_2.length : Int)
               ·rw [if_pos c28] at H
                have c28b0 : decide (x65_3 < (x14_2.length : Int)) = true := decide_eq_true c28
                clear c28
                obtain ⟨ji29, hji29⟩ : ∃ j_ : Int, (wrap64 (2 * (x13_3.length : Int))) = j_ := ⟨_, rfl⟩
                replace H : (if 0 ≤ (ji29) then (if (ji29) < (l2.length : Int) then (if 0 ≤ (wrap64 ((ji29) + 1)) then (if (wrap64 ((ji29) + 1)) < (l2.length : Int) then ((caulkref01_Sum.f k3 (rdOf ByteArray.empty x14_2 x65_3)).bind fun t277 => (if x13_3.length < 3518437208883 then ((caulkref07_Ptr.f k3 (rd l2 (ji29)) (rd l2 (wrap64 ((ji29) + 1))) t277).bind fun bt282 => (if x15_3.length < 8796093022208 then (caulkref09_Build.l2 k3 l2 (x13_3 ++ [(⟨(⟨rd l2 (ji29), rd l2 (wrap64 ((ji29) + 1)), t277⟩ : S26), rdOf ByteArray.empty x14_2 x65_3⟩ : S130)]) x14_2 (x15_3 ++ [bt282.1]) x14_2 (x14_2.length : Int) (wrap64 (x65_3 + 1)) a0_0 a0_1 a0_2 a0_3) else (none))) else (none))) else (none)) else (none)) else (none)) else (none)) = some (r1, r2, r3, r4, r5) := by first | (rw [hji29] at H; exact H) | (simp only [hji29] at H ⊢; exact H)
                have hji29w : (IntKind.i64.wrap (2 * (x13_3.length : Int))) = ji29 := (i64_w _).trans hji29
                by_cases c30 : 0 ≤ (ji29)
                ·rw [if_pos c30] at H
                 have c30b0 : decide (0 ≤ (ji29)) = true := decide_eq_true c30
                 clear c30
                 by_cases c31 : (ji29) < (l2.length : Int)
                 ·rw [if_pos c31] at H
                  have c31b0 : decide ((ji29) < (l2.length : Int)) = true := decide_eq_true c31
                  clear c31
                  obtain ⟨ji32, hji32⟩ : ∃ j_ : Int, (wrap64 ((ji29) + 1)) = j_ := ⟨_, rfl⟩
                  replace H : (if 0 ≤ (ji32) then (if (ji32) < (l2.length : Int) then ((caulkref01_Sum.f k3 (rdOf ByteArray.empty x14_2 x65_3)).bind fun t277 => (if x13_3.length < 3518437208883 then ((caulkref07_Ptr.f k3 (rd l2 (ji29)) (rd l2 (ji32)) t277).bind fun bt282 => (if x15_3.length < 8796093022208 then (caulkref09_Build.l2 k3 l2 (x13_3 ++ [(⟨(⟨rd l2 (ji29), rd l2 (ji32), t277⟩ : S26), rdOf ByteArray.empty x14_2 x65_3⟩ : S130)]) x14_2 (x15_3 ++ [bt282.1]) x14_2 (x14_2.length : Int) (wrap64 (x65_3 + 1)) a0_0 a0_1 a0_2 a0_3) else (none))) else (none))) else (none)) else (none)) = some (r1, r2, r3, r4, r5) := by first | (rw [hji32] at H; exact H) | (simp only [hji32] at H ⊢; exact H)
                  have hji32w : (IntKind.i64.wrap ((ji29) + 1)) = ji32 := (i64_w _).trans hji32
                  by_cases c33 : 0 ≤ (ji32)
                  ·rw [if_pos c33] at H
                   have c33b0 : decide (0 ≤ (ji32)) = true := decide_eq_true c33
                   clear c33
                   by_cases c34 : (ji32) < (l2.length : Int)
                   ·rw [if_pos c34] at H
                    have c34b0 : decide ((ji32) < (l2.length : Int)) = true := decide_eq_true c34
                    clear c34
                    replace H := Option.bind_eq_some_iff.mp H
                    obtain ⟨t277, A350, H⟩ := H
                    replace H : (if x13_3.length < 3518437208883 then ((caulkref07_Ptr.f k3 (rd l2 (ji29)) (rd l2 (ji32)) t277).bind fun bt282 => (if x15_3.length < 8796093022208 then (caulkref09_Build.l2 k3 l2 (x13_3 ++ [(⟨(⟨rd l2 (ji29), rd l2 (ji32), t277⟩ : S26), rdOf ByteArray.empty x14_2 x65_3⟩ : S130)]) x14_2 (x15_3 ++ [bt282.1]) x14_2 (x14_2.length : Int) (wrap64 (x65_3 + 1)) a0_0 a0_1 a0_2 a0_3) else (none))) else (none)) = some (r1, r2, r3, r4, r5) := H
                    have A35 := Aside0.mk A350
                    clear A350
                    by_cases c36 : x13_3.length < 3518437208883
                    ·rw [if_pos c36] at H
                     have LMc36 := Aside0.mk c36
                     clear c36
                     obtain ⟨y279, hy279⟩ : ∃ y_ : List (S130), y_ = (x13_3 ++ [(⟨(⟨rd l2 (ji29), rd l2 (ji32), t277⟩ : S26), rdOf ByteArray.empty x14_2 x65_3⟩ : S130)]) := ⟨_, rfl⟩
                     replace H : ((caulkref07_Ptr.f k3 (rd l2 (ji29)) (rd l2 (ji32)) t277).bind fun bt282 => (if x15_3.length < 8796093022208 then (caulkref09_Build.l2 k3 l2 y279 x14_2 (x15_3 ++ [bt282.1]) x14_2 (x14_2.length : Int) (wrap64 (x65_3 + 1)) a0_0 a0_1 a0_2 a0_3) else (none))) = some (r1, r2, r3, r4, r5) := by first | (rw [hy279]; with_reducible exact H) | (have H2_ := (Option.bind_some _ _).symm.trans H; rw [hy279]; with_reducible exact H2_) | (have H2_ := (Option.bind_some _ _).symm.trans H; with_reducible exact H2_) | with_reducible exact H | (rw [hy279]; exact H) | exact H
                     have Ny279 := Aside0.mk hy279
                     clear hy279
                     replace H := Option.bind_eq_some_iff.mp H
                     obtain ⟨⟨t282, t283⟩, A370, H⟩ := H
                     replace H : (if x15_3.length < 8796093022208 then (caulkref09_Build.l2 k3 l2 y279 x14_2 (x15_3 ++ [t282]) x14_2 (x14_2.length : Int) (wrap64 (x65_3 + 1)) a0_0 a0_1 a0_2 a0_3) else (none)) = some (r1, r2, r3, r4, r5) := H
                     have A37 := Aside0.mk A370
                     clear A370
                     by_cases c38 : x15_3.length < 8796093022208
                     ·rw [if_pos c38] at H
                      have LMc38 := Aside0.mk c38
                      clear c38
                      obtain ⟨y284, hy284⟩ : ∃ y_ : List ByteArray, y_ = (x15_3 ++ [t282]) := ⟨_, rfl⟩
                      replace H : (caulkref09_Build.l2 k3 l2 y279 x14_2 y284 x14_2 (x14_2.length : Int) (wrap64 (x65_3 + 1)) a0_0 a0_1 a0_2 a0_3) = some (r1, r2, r3, r4, r5) := by first | (rw [hy284]; with_reducible exact H) | (have H2_ := (Option.bind_some _ _).symm.trans H; rw [hy284]; with_reducible exact H2_) | (have H2_ := (Option.bind_some _ _).symm.trans H; with_reducible exact H2_) | with_reducible exact H | (rw [hy284]; exact H) | exact H
                      have Ny284 := Aside0.mk hy284
                      clear hy284
                      have H' := Aside0.mk H
                      clear H
                      have p274 : 0 ≤ (x65_3 : Int) := of_decide_eq_true (by first | (with_reducible assumption) | assumption)
                      have q274 : x65_3 < (x14_2.length : Int) := of_decide_eq_true (by first | (with_reducible assumption) | assumption)
                      obtain ⟨ad274, e274, hx274_0⟩ := Kd.at_string (Kd.R_reads' HO_63.out).2.2 x65_3 p274 q274
                      cases e274
                      replace p274 := eq_true p274
                      replace q274 := eq_true q274
                      obtain ⟨Ao39, co39, eo39⟩ := Kd.R_slice HO_13.out
                      subst eo39
                      try go_wp2
                      have n0_ := Aside0.mk (Kd.R_drew HO_13.out)
                      have n1_ := Aside0.mk (Kd.R_drew HO_14.out)
                      have n2_ := Aside0.mk (Kd.R_drew HO_15.out)
                      have n3_ := Aside0.mk (Kd.R_drew HO_63.out)
                      have n4_ := Aside0.mk (blk_drew BK266.out)
                      have n5_ := Aside0.mk (blk_drew BK267.out)
                      have n6_ := Aside0.mk (below_drew1 HB.out)
                      clear HO_13
                      clear HO_14
                      clear HO_15
                      clear HO_63
                      clear BK266
                      clear BK267
                      clear HB
                      have HO_13 := n0_
                      have HO_14 := n1_
                      have HO_15 := n2_
                      have HO_63 := n3_
                      have BK266 := n4_
                      have BK267 := n5_
                      have HB := n6_
                      clear n0_ n1_ n2_ n3_ n4_ n5_ n6_
                      have p275 : 0 ≤ ((ji29) : Int) := of_decide_eq_true (by first | (with_reducible assumption) | assumption)
                      have q275 : (ji29) < (l2.length : Int) := of_decide_eq_true (by first | (with_reducible assumption) | assumption)
                      obtain ⟨ad275, e275, hx275_0⟩ := Kd.at_int HR2.out (ji29) p275 q275
                      have hw275_0 := hx275_0
                      cases e275
                      replace hx275_0 := (HB.out.cell (World.block_lt_of_cell? w _ hx275_0)).trans hx275_0
                      replace p275 := eq_true p275
                      replace q275 := eq_true q275
                      have p276 : 0 ≤ ((ji32) : Int) := of_decide_eq_true (by first | (with_reducible assumption) | assumption)
                      have q276 : (ji32) < (l2.length : Int) := of_decide_eq_true (by first | (with_reducible assumption) | assumption)
                      obtain ⟨ad276, e276, hx276_0⟩ := Kd.at_int HR2.out (ji32) p276 q276
                      have hw276_0 := hx276_0
                      obtain rfl : ad275 = ad276 := (by injection e276)
                      replace hx276_0 := (HB.out.cell (World.block_lt_of_cell? w _ hx276_0)).trans hx276_0
                      replace p276 := eq_true p276
                      replace q276 := eq_true q276
                      refine start_ (n := 16) (S := fun w' => w'.cell? (ad275.add ((ji29)).toNat) = some (.int .i64 (rd l2 (ji29))) ∧ w'.cell? (ad275.add ((ji32)).toNat) = some (.int .i64 (rd l2 (ji32)))) (ds := []) #[G,G,G,G,G,G,G,G,G,G,G,G,G,G,G,G] (by kernel_rfl) rfl rfl ⟨((HB.out.cell (World.block_lt_of_cell? w _ hw275_0)).trans hw275_0), ((HB.out.cell (World.block_lt_of_cell? w _ hw276_0)).trans hw276_0)⟩ (fun hHeld => ?_); refine with_tabW caulkref09_Build.tab19 caulkref09_Build.bits19 (fun HT_ HW_ => ?_)
                      generalize wr.drew = w40 at HO_13 HO_14 HO_15 HO_63 BK266 BK267 HB hx275_0 hx276_0 hHeld ⊢
                      refine pu_ 0 71 ?_ #[Y,G,G,G,G,G,G,G,G,G,G,G,G,G,G,G] rfl rfl (any_of HT_.out (by kernel_rfl)) (fun _ _ _ h => h) (Or.inl ⟨by rfl, ?_⟩) ?_ ?_ ?_;rotate_left
                      ·intro w';go_simp;with_reducible rfl
                      rotate_left;·simp only [Act.put, sA_];rfl
                      refine pu_ 1 72 ?_ #[Y,Y,G,G,G,G,G,G,G,G,G,G,G,G,G,G] rfl rfl (any_of HT_.out (by kernel_rfl)) (fun _ _ _ h => h) (Or.inl ⟨by rfl, ?_⟩) ?_ ?_ ?_;rotate_left
                      ·intro w';go_simp;with_reducible rfl
                      rotate_left;·simp only [Act.put, sA_];rfl
                      refine pu_ 2 73 ?_ #[Y,Y,Y,G,G,G,G,G,G,G,G,G,G,G,G,G] rfl rfl (any_of HT_.out (by kernel_rfl)) (fun _ _ _ h => h) (Or.inl ⟨by rfl, ?_⟩) ?_ ?_ ?_;rotate_left
                      ·intro w';go_simp;with_reducible rfl
                      rotate_left;·simp only [Act.put, sA_];rfl
                      refine pu_ 3 74 ?_ #[Y,Y,Y,Y,G,G,G,G,G,G,G,G,G,G,G,G] rfl rfl (any_of HT_.out (by kernel_rfl)) (fun _ _ _ h => h) (Or.inl ⟨by rfl, ?_⟩) ?_ ?_ ?_;rotate_left
                      ·intro w';go_simp;with_reducible rfl
                      rotate_left;·simp only [Act.put, sA_];rfl
                      refine pu_ 5 76 ?_ #[Y,Y,Y,Y,G,Y,G,G,G,G,G,G,G,G,G,G] rfl rfl (any_of HT_.out (by kernel_rfl)) (fun _ _ _ h => h) (Or.inl ⟨by rfl, ?_⟩) ?_ ?_ ?_;rotate_left
                      ·intro w';go_simp;with_reducible rfl
                      rotate_left;·simp only [Act.put, sA_];rfl
                      refine pu_ 6 77 ?_ #[Y,Y,Y,Y,G,Y,Y,G,G,G,G,G,G,G,G,G] rfl rfl (any_of HT_.out (by kernel_rfl)) (fun _ _ _ h => h) (Or.inl ⟨by rfl, ?_⟩) ?_ ?_ ?_;rotate_left
                      ·intro w';go_simp;with_reducible rfl
                      rotate_left;·simp only [Act.put, sA_];rfl
                      refine pu_ 7 78 ?_ #[Y,Y,Y,Y,G,Y,Y,Y,G,G,G,G,G,G,G,G] rfl rfl (any_of HT_.out (by kernel_rfl)) (fun _ _ _ h => h) (Or.inl ⟨by rfl, ?_⟩) ?_ ?_ ?_;rotate_left
                      ·intro w';go_simp;with_reducible rfl
                      rotate_left;·simp only [Act.put, sA_];rfl
                      refine pu_ 8 79 ?_ #[Y,Y,Y,Y,G,Y,Y,Y,Y,G,G,G,G,G,G,G] rfl rfl (any_of HT_.out (by kernel_rfl)) (fun _ _ _ h => h) (Or.inl ⟨by rfl, ?_⟩) ?_ ?_ ?_;rotate_left
                      ·intro w';go_simp;with_reducible rfl
                      rotate_left;·simp only [Act.put, sA_];rfl
                      refine pu_ 9 80 ?_ #[Y,Y,Y,Y,G,Y,Y,Y,Y,Y,G,G,G,G,G,G] rfl rfl (any_of HT_.out (by kernel_rfl)) (fun _ _ _ h => h) (Or.inl ⟨by rfl, ?_⟩) ?_ ?_ ?_;rotate_left
                      ·intro w';go_simp;with_reducible rfl
                      rotate_left;·simp only [Act.put, sA_];rfl
                      refine pu_ 11 82 ?_ #[Y,Y,Y,Y,G,Y,Y,Y,Y,Y,G,Y,G,G,G,G] rfl rfl (any_of HT_.out (by kernel_rfl)) (fun _ _ _ h => h) (Or.inl ⟨by rfl, ?_⟩) ?_ ?_ ?_;rotate_left
                      ·intro w';go_simp;with_reducible rfl
                      rotate_left;·simp only [Act.put, sA_];rfl
                      refine tk_ 4 75 ?_ #[Y,Y,Y,Y,Y,Y,Y,Y,Y,Y,G,Y,G,G,G,G] rfl rfl (take_ofW HT_.out HW_.out (by kernel_rfl)) (fun _ _ _ h => h) (Or.inl ⟨by rfl, ?_⟩) hHeld ?_ ?_ ?_;rotate_left
                      ·rintro w' ⟨s0, s1⟩
                       go_simp
                       with_reducible rfl
                      rotate_left;·simp only [Act.put, sA_];rfl
                      refine tk_ 10 81 ?_ #[Y,Y,Y,Y,Y,Y,Y,Y,Y,Y,Y,Y,G,G,G,G] rfl rfl (take_ofW HT_.out HW_.out (by kernel_rfl)) (fun _ _ _ h => h) (Or.inl ⟨by rfl, ?_⟩) hHeld ?_ ?_ ?_;rotate_left
                      ·rintro w' ⟨s0, s1⟩
                       go_simp
                       with_reducible rfl
                      rotate_left;·simp only [Act.put, sA_];rfl
                      refine join_ (σ := Nat) 1 #[Y,Y,Y,Y,Y,Y,Y,Y,Y,Y,Y,Y,Y,Y,Y,G] (fun s_ => [(83, .int .u32 t277), (19, .pointer (some ⟨s_, 0, none⟩)), (84, .agg #[.int .i64 (rd l2 (ji29)), .int .i64 (rd l2 (ji32)), .int .u32 t277])]) (fun s_ w' => (w'.cell? (ad275.add ((ji29)).toNat) = some (.int .i64 (rd l2 (ji29))) ∧ w'.cell? (ad275.add ((ji32)).toNat) = some (.int .i64 (rd l2 (ji32)))) ∧ (Kd.R k130 130 w' w.heap.size (fun _ => True) (.slice Ao39 x13_3.length co39) x13_3) ∧ (Kd.R Kd.string 9 w' w.heap.size (fun k_ => some k_ ≠ (u15 : Value).ownBlock) (.slice (some ad274) x14_2.length co25) x14_2) ∧ (Kd.R Kd.string 9 w' w.heap.size (fun k_ => some k_ ≠ (.slice (some ad274) x14_2.length co25 : Value).ownBlock ∧ some k_ ≠ (.slice (some ad274) x14_2.length co25 : Value).ownBlock) u15 x15_3) ∧ (Kd.R Kd.string 9 w' w.heap.size (fun k_ => some k_ ≠ (u15 : Value).ownBlock) (.slice (some ad274) x14_2.length co25) x14_2) ∧ (w'.heap[gb266]? = some (.cells #[.int .i64 a0_0, .int .i64 a0_1, .int .i64 a0_2, .int .i64 a0_3] 23 (0, 0))) ∧ (w'.heap[gb267]? = some (.cells #[.int .i64 x268000_2, .int .i64 x268001_2, .int .u32 x268002_2] 26 (0, 0))) ∧ (w'.heap[s_]? = some (.cells #[.int .i64 0, .int .i64 0, .int .u32 0] 26 (0, 0))) ∧ (w.heap.size ≤ s_) ∧ (w.heap.size ≤ s_) ∧ (gb266 ≠ s_) ∧ (s_ ≠ gb266) ∧ (gb267 ≠ s_) ∧ (s_ ≠ gb267) ∧ (Below w.heap.size w w')) ?_ ?_;rotate_left
                      ·intro hCont
                       refine two_ (i := 12) (j := 14) (Ni := some 83) (Nj := some 19) #[Y,Y,Y,Y,Y,Y,Y,Y,Y,Y,Y,Y,Y,G,G,G] #[Y,Y,Y,Y,Y,Y,Y,Y,Y,Y,Y,Y,G,G,Y,G] rfl rfl rfl rfl (two_of HT_.out (by kernel_rfl)) (by decide) (by decide) (fun K hK => ?_) (fun K hK => ?_)
                       ·skip
                        refine goes_ Tryd.func77 (by kernel_rfl) rfl #[.string (rdOf ByteArray.empty x14_2 x65_3)] (by rfl) rfl rfl (by (try simp only [List.map_toArray, List.map_cons, List.map_nil]); first | done | rfl | (simp only [List.length_drop, List.length_take]; rfl)) ?_
                        with_reducible refine (caulkref01_Sum.calls k3 (rdOf ByteArray.empty x14_2 x65_3) t277 _ A35.out).mono ?_
                        rintro e w' ⟨rfl, ⟨nd, rfl⟩⟩
                        refine ⟨_, rfl, ?_⟩
                        refine hK.out _ _ ⟨((HB.out.cell (World.block_lt_of_cell? w _ hw275_0)).trans hw275_0), ((HB.out.cell (World.block_lt_of_cell? w _ hw276_0)).trans hw276_0)⟩ (fun hHeld => ?_)
                        clear hK K
                        refine norm_ (a' := ?_) ?_ ?_;rotate_left
                        ·show Act.put _ (some 83) _ = _
                         simp only [Act.put, sA_]
                         rfl
                        refine pu_ 13 84 ?_ #[Y,Y,Y,Y,Y,Y,Y,Y,Y,Y,Y,Y,Y,Y,G,G] rfl rfl (any_of HT_.out (by kernel_rfl)) (fun _ _ _ h => h) (Or.inl ⟨by rfl, ?_⟩) ?_ ?_ ?_;rotate_left
                        ·intro w';go_simp;with_reducible rfl
                        rotate_left;·simp only [Act.put, sA_];rfl
                        refine one_ (i := 14) (N := some 19) #[Y,Y,Y,Y,Y,Y,Y,Y,Y,Y,Y,Y,Y,Y,Y,G] rfl rfl (one_of HT_.out (by kernel_rfl)) (by decide) (fun K hK => ?_)
                        refine box_step ?hg (N := 19) ?hd (cs := #[.int .i64 0, .int .i64 0, .int .u32 0]) (t := 26) ?hr ?_; (case hd => rfl); (case hg => rfl); (case hr => first | (go_simp; done) | (go_simp; rfl))
                        intro gb278 hg w41 hbox hb
                        have n0_ := Aside0.mk (Kd.R_below (by (with_reducible repeat (first | apply Kd.R_alloc | apply Kd.R_drewN | apply Kd.R_drew)); exact HO_13.out) hb)
                        have n1_ := Aside0.mk (Kd.R_below (by (with_reducible repeat (first | apply Kd.R_alloc | apply Kd.R_drewN | apply Kd.R_drew)); exact HO_14.out) hb)
                        have n2_ := Aside0.mk (Kd.R_below (by (with_reducible repeat (first | apply Kd.R_alloc | apply Kd.R_drewN | apply Kd.R_drew)); exact HO_15.out) hb)
                        have n3_ := Aside0.mk (Kd.R_below (by (with_reducible repeat (first | apply Kd.R_alloc | apply Kd.R_drewN | apply Kd.R_drew)); exact HO_63.out) hb)
                        have n4_ := Aside0.mk (blk_below (g := gb266) (o := .cells #[.int .i64 a0_0, .int .i64 a0_1, .int .i64 a0_2, .int .i64 a0_3] 23 (0, 0)) (by (with_reducible repeat (first | refine blk_drewN ?_ _ | refine blk_drew ?_ | refine blk_alloc ?_ _)); exact BK266.out) hb)
                        have n5_ := Aside0.mk (blk_below (g := gb267) (o := .cells #[.int .i64 x268000_2, .int .i64 x268001_2, .int .u32 x268002_2] 26 (0, 0)) (by (with_reducible repeat (first | refine blk_drewN ?_ _ | refine blk_drew ?_ | refine blk_alloc ?_ _)); exact BK267.out) hb)
                        have n6_ := Aside0.mk (below_step (by repeat (first | (with_reducible first | exact HB.out | apply below_alloc | apply pw_below_drewN | apply below_drew1 | refine below_set ?_ GE266.out | refine below_set ?_ GE267.out) | exact HB.out)) hb)
                        have n7_ := Aside0.mk (hbox)
                        have n8_ := Aside0.mk ((by rw [hg]; exact (below_size (by repeat (first | (with_reducible first | exact HB.out | apply below_alloc | apply pw_below_drewN | apply below_drew1 | refine below_set ?_ GE266.out | refine below_set ?_ GE267.out) | exact HB.out))) : w.heap.size ≤ gb278))
                        have n9_ := Aside0.mk ((by rw [hg]; exact (below_size (by repeat (first | (with_reducible first | exact HB.out | apply below_alloc | apply pw_below_drewN | apply below_drew1 | refine below_set ?_ GE266.out | refine below_set ?_ GE267.out) | exact HB.out))) : w.heap.size ≤ gb278))
                        have n10_ := Aside0.mk ((by rw [hg]; exact Nat.ne_of_lt (blk_lt (g := gb266) (o := .cells #[.int .i64 a0_0, .int .i64 a0_1, .int .i64 a0_2, .int .i64 a0_3] 23 (0, 0)) (by (with_reducible repeat (first | refine blk_drewN ?_ _ | refine blk_drew ?_ | refine blk_alloc ?_ _)); exact BK266.out)) : gb266 ≠ gb278))
                        have n11_ := Aside0.mk ((by rw [hg]; exact Nat.ne_of_gt (blk_lt (g := gb266) (o := .cells #[.int .i64 a0_0, .int .i64 a0_1, .int .i64 a0_2, .int .i64 a0_3] 23 (0, 0)) (by (with_reducible repeat (first | refine blk_drewN ?_ _ | refine blk_drew ?_ | refine blk_alloc ?_ _)); exact BK266.out)) : gb278 ≠ gb266))
                        have n12_ := Aside0.mk ((by rw [hg]; exact Nat.ne_of_lt (blk_lt (g := gb267) (o := .cells #[.int .i64 x268000_2, .int .i64 x268001_2, .int .u32 x268002_2] 26 (0, 0)) (by (with_reducible repeat (first | refine blk_drewN ?_ _ | refine blk_drew ?_ | refine blk_alloc ?_ _)); exact BK267.out)) : gb267 ≠ gb278))
                        have n13_ := Aside0.mk ((by rw [hg]; exact Nat.ne_of_gt (blk_lt (g := gb267) (o := .cells #[.int .i64 x268000_2, .int .i64 x268001_2, .int .u32 x268002_2] 26 (0, 0)) (by (with_reducible repeat (first | refine blk_drewN ?_ _ | refine blk_drew ?_ | refine blk_alloc ?_ _)); exact BK267.out)) : gb278 ≠ gb267))
                        clear HO_13
                        clear HO_14
                        clear HO_15
                        clear HO_63
                        clear BK266
                        clear BK267
                        clear HB
                        have HO_13 := n0_
                        have HO_14 := n1_
                        have HO_15 := n2_
                        have HO_63 := n3_
                        have BK266 := n4_
                        have BK267 := n5_
                        have HB := n6_
                        have BK278 := n7_
                        have GW278 := n8_
                        have GE278 := n9_
                        have NB266_278 := n10_
                        have NB278_266 := n11_
                        have NB267_278 := n12_
                        have NB278_267 := n13_
                        clear n0_ n1_ n2_ n3_ n4_ n5_ n6_ n7_ n8_ n9_ n10_ n11_ n12_ n13_
                        clear hb hbox hg
                        refine hK.out _ _ ⟨((HB.out.cell (World.block_lt_of_cell? w _ hw275_0)).trans hw275_0), ((HB.out.cell (World.block_lt_of_cell? w _ hw276_0)).trans hw276_0)⟩ (fun hHeld => ?_)
                        clear hK K
                        refine norm_ (a' := ?_) ?_ ?_;rotate_left
                        ·show Act.put _ (some 19) _ = _
                         simp only [Act.put, sA_]
                         rfl
                        exact norm_ (by simp only [putAll, Act.put, List.setIfInBounds_toArray, List.set_cons_zero, List.set_cons_succ]) (hCont (gb278) _ ⟨hHeld, (by (with_reducible repeat (first | apply Kd.R_alloc | apply Kd.R_drewN | apply Kd.R_drew)); exact HO_13.out), (by (with_reducible repeat (first | apply Kd.R_alloc | apply Kd.R_drewN | apply Kd.R_drew)); exact HO_14.out), (by (with_reducible repeat (first | apply Kd.R_alloc | apply Kd.R_drewN | apply Kd.R_drew)); exact HO_15.out), (by (with_reducible repeat (first | apply Kd.R_alloc | apply Kd.R_drewN | apply Kd.R_drew)); exact HO_63.out), (by (with_reducible repeat (first | refine blk_drewN ?_ _ | refine blk_drew ?_ | refine blk_alloc ?_ _)); exact BK266.out), (by (with_reducible repeat (first | refine blk_drewN ?_ _ | refine blk_drew ?_ | refine blk_alloc ?_ _)); exact BK267.out), (by (with_reducible repeat (first | refine blk_drewN ?_ _ | refine blk_drew ?_ | refine blk_alloc ?_ _)); exact BK278.out), GW278.out, GE278.out, NB266_278.out, NB278_266.out, NB267_278.out, NB278_267.out, (by repeat (first | (with_reducible first | exact HB.out | apply below_alloc | apply pw_below_drewN | apply below_drew1 | refine below_set ?_ GE266.out | refine below_set ?_ GE267.out | refine below_set ?_ GE278.out) | exact HB.out))⟩)
                       ·skip
                        refine box_step ?hg (N := 19) ?hd (cs := #[.int .i64 0, .int .i64 0, .int .u32 0]) (t := 26) ?hr ?_; (case hd => rfl); (case hg => rfl); (case hr => first | (go_simp; done) | (go_simp; rfl))
                        intro gb278 hg w41 hbox hb
                        have n0_ := Aside0.mk (Kd.R_below (by (with_reducible repeat (first | apply Kd.R_alloc | apply Kd.R_drewN | apply Kd.R_drew)); exact HO_13.out) hb)
                        have n1_ := Aside0.mk (Kd.R_below (by (with_reducible repeat (first | apply Kd.R_alloc | apply Kd.R_drewN | apply Kd.R_drew)); exact HO_14.out) hb)
                        have n2_ := Aside0.mk (Kd.R_below (by (with_reducible repeat (first | apply Kd.R_alloc | apply Kd.R_drewN | apply Kd.R_drew)); exact HO_15.out) hb)
                        have n3_ := Aside0.mk (Kd.R_below (by (with_reducible repeat (first | apply Kd.R_alloc | apply Kd.R_drewN | apply Kd.R_drew)); exact HO_63.out) hb)
                        have n4_ := Aside0.mk (blk_below (g := gb266) (o := .cells #[.int .i64 a0_0, .int .i64 a0_1, .int .i64 a0_2, .int .i64 a0_3] 23 (0, 0)) (by (with_reducible repeat (first | refine blk_drewN ?_ _ | refine blk_drew ?_ | refine blk_alloc ?_ _)); exact BK266.out) hb)
                        have n5_ := Aside0.mk (blk_below (g := gb267) (o := .cells #[.int .i64 x268000_2, .int .i64 x268001_2, .int .u32 x268002_2] 26 (0, 0)) (by (with_reducible repeat (first | refine blk_drewN ?_ _ | refine blk_drew ?_ | refine blk_alloc ?_ _)); exact BK267.out) hb)
                        have n6_ := Aside0.mk (below_step (by repeat (first | (with_reducible first | exact HB.out | apply below_alloc | apply pw_below_drewN | apply below_drew1 | refine below_set ?_ GE266.out | refine below_set ?_ GE267.out) | exact HB.out)) hb)
                        have n7_ := Aside0.mk (hbox)
                        have n8_ := Aside0.mk ((by rw [hg]; exact (below_size (by repeat (first | (with_reducible first | exact HB.out | apply below_alloc | apply pw_below_drewN | apply below_drew1 | refine below_set ?_ GE266.out | refine below_set ?_ GE267.out) | exact HB.out))) : w.heap.size ≤ gb278))
                        have n9_ := Aside0.mk ((by rw [hg]; exact (below_size (by repeat (first | (with_reducible first | exact HB.out | apply below_alloc | apply pw_below_drewN | apply below_drew1 | refine below_set ?_ GE266.out | refine below_set ?_ GE267.out) | exact HB.out))) : w.heap.size ≤ gb278))
                        have n10_ := Aside0.mk ((by rw [hg]; exact Nat.ne_of_lt (blk_lt (g := gb266) (o := .cells #[.int .i64 a0_0, .int .i64 a0_1, .int .i64 a0_2, .int .i64 a0_3] 23 (0, 0)) (by (with_reducible repeat (first | refine blk_drewN ?_ _ | refine blk_drew ?_ | refine blk_alloc ?_ _)); exact BK266.out)) : gb266 ≠ gb278))
                        have n11_ := Aside0.mk ((by rw [hg]; exact Nat.ne_of_gt (blk_lt (g := gb266) (o := .cells #[.int .i64 a0_0, .int .i64 a0_1, .int .i64 a0_2, .int .i64 a0_3] 23 (0, 0)) (by (with_reducible repeat (first | refine blk_drewN ?_ _ | refine blk_drew ?_ | refine blk_alloc ?_ _)); exact BK266.out)) : gb278 ≠ gb266))
                        have n12_ := Aside0.mk ((by rw [hg]; exact Nat.ne_of_lt (blk_lt (g := gb267) (o := .cells #[.int .i64 x268000_2, .int .i64 x268001_2, .int .u32 x268002_2] 26 (0, 0)) (by (with_reducible repeat (first | refine blk_drewN ?_ _ | refine blk_drew ?_ | refine blk_alloc ?_ _)); exact BK267.out)) : gb267 ≠ gb278))
                        have n13_ := Aside0.mk ((by rw [hg]; exact Nat.ne_of_gt (blk_lt (g := gb267) (o := .cells #[.int .i64 x268000_2, .int .i64 x268001_2, .int .u32 x268002_2] 26 (0, 0)) (by (with_reducible repeat (first | refine blk_drewN ?_ _ | refine blk_drew ?_ | refine blk_alloc ?_ _)); exact BK267.out)) : gb278 ≠ gb267))
                        clear HO_13
                        clear HO_14
                        clear HO_15
                        clear HO_63
                        clear BK266
                        clear BK267
                        clear HB
                        have HO_13 := n0_
                        have HO_14 := n1_
                        have HO_15 := n2_
                        have HO_63 := n3_
                        have BK266 := n4_
                        have BK267 := n5_
                        have HB := n6_
                        have BK278 := n7_
                        have GW278 := n8_
                        have GE278 := n9_
                        have NB266_278 := n10_
                        have NB278_266 := n11_
                        have NB267_278 := n12_
                        have NB278_267 := n13_
                        clear n0_ n1_ n2_ n3_ n4_ n5_ n6_ n7_ n8_ n9_ n10_ n11_ n12_ n13_
                        clear hb hbox hg
                        refine hK.out _ _ ⟨((HB.out.cell (World.block_lt_of_cell? w _ hw275_0)).trans hw275_0), ((HB.out.cell (World.block_lt_of_cell? w _ hw276_0)).trans hw276_0)⟩ (fun hHeld => ?_)
                        clear hK K
                        refine norm_ (a' := ?_) ?_ ?_;rotate_left
                        ·show Act.put _ (some 19) _ = _
                         simp only [Act.put, sA_]
                         rfl
                        refine one_ (i := 12) (N := some 83) #[Y,Y,Y,Y,Y,Y,Y,Y,Y,Y,Y,Y,Y,G,Y,G] rfl rfl (one_of HT_.out (by kernel_rfl)) (by decide) (fun K hK => ?_)
                        refine goes_ Tryd.func77 (by kernel_rfl) rfl #[.string (rdOf ByteArray.empty x14_2 x65_3)] (by rfl) rfl rfl (by (try simp only [List.map_toArray, List.map_cons, List.map_nil]); first | done | rfl | (simp only [List.length_drop, List.length_take]; rfl)) ?_
                        with_reducible refine (caulkref01_Sum.calls k3 (rdOf ByteArray.empty x14_2 x65_3) t277 _ A35.out).mono ?_
                        rintro e w' ⟨rfl, ⟨nd, rfl⟩⟩
                        refine ⟨_, rfl, ?_⟩
                        refine hK.out _ _ ⟨((HB.out.cell (World.block_lt_of_cell? w _ hw275_0)).trans hw275_0), ((HB.out.cell (World.block_lt_of_cell? w _ hw276_0)).trans hw276_0)⟩ (fun hHeld => ?_)
                        clear hK K
                        refine norm_ (a' := ?_) ?_ ?_;rotate_left
                        ·show Act.put _ (some 83) _ = _
                         simp only [Act.put, sA_]
                         rfl
                        refine pu_ 13 84 ?_ #[Y,Y,Y,Y,Y,Y,Y,Y,Y,Y,Y,Y,Y,Y,Y,G] rfl rfl (any_of HT_.out (by kernel_rfl)) (fun _ _ _ h => h) (Or.inl ⟨by rfl, ?_⟩) ?_ ?_ ?_;rotate_left
                        ·intro w';go_simp;with_reducible rfl
                        rotate_left;·simp only [Act.put, sA_];rfl
                        exact norm_ (by simp only [putAll, Act.put, List.setIfInBounds_toArray, List.set_cons_zero, List.set_cons_succ]) (hCont (gb278) _ ⟨hHeld, (by (with_reducible repeat (first | apply Kd.R_alloc | apply Kd.R_drewN | apply Kd.R_drew)); exact HO_13.out), (by (with_reducible repeat (first | apply Kd.R_alloc | apply Kd.R_drewN | apply Kd.R_drew)); exact HO_14.out), (by (with_reducible repeat (first | apply Kd.R_alloc | apply Kd.R_drewN | apply Kd.R_drew)); exact HO_15.out), (by (with_reducible repeat (first | apply Kd.R_alloc | apply Kd.R_drewN | apply Kd.R_drew)); exact HO_63.out), (by (with_reducible repeat (first | refine blk_drewN ?_ _ | refine blk_drew ?_ | refine blk_alloc ?_ _)); exact BK266.out), (by (with_reducible repeat (first | refine blk_drewN ?_ _ | refine blk_drew ?_ | refine blk_alloc ?_ _)); exact BK267.out), (by (with_reducible repeat (first | refine blk_drewN ?_ _ | refine blk_drew ?_ | refine blk_alloc ?_ _)); exact BK278.out), GW278.out, GE278.out, NB266_278.out, NB278_266.out, NB267_278.out, NB278_267.out, (by repeat (first | (with_reducible first | exact HB.out | apply below_alloc | apply pw_below_drewN | apply below_drew1 | refine below_set ?_ GE266.out | refine below_set ?_ GE267.out | refine below_set ?_ GE278.out) | exact HB.out))⟩)
                      rintro gb278 w42 ⟨hS_, h0_, h1_, h2_, h3_, h4_, h5_, h6_, h7_, h8_, h9_, h10_, h11_, h12_, h13_⟩
                      have n0_ : Aside0 (Kd.R k130 130 w42 w.heap.size (fun _ => True) (.slice Ao39 x13_3.length co39) x13_3) := ⟨h0_⟩
                      have n1_ : Aside0 (Kd.R Kd.string 9 w42 w.heap.size (fun k_ => some k_ ≠ (u15 : Value).ownBlock) (.slice (some ad274) x14_2.length co25) x14_2) := ⟨h1_⟩
                      have n2_ : Aside0 (Kd.R Kd.string 9 w42 w.heap.size (fun k_ => some k_ ≠ (.slice (some ad274) x14_2.length co25 : Value).ownBlock ∧ some k_ ≠ (.slice (some ad274) x14_2.length co25 : Value).ownBlock) u15 x15_3) := ⟨h2_⟩
                      have n3_ : Aside0 (Kd.R Kd.string 9 w42 w.heap.size (fun k_ => some k_ ≠ (u15 : Value).ownBlock) (.slice (some ad274) x14_2.length co25) x14_2) := ⟨h3_⟩
                      have n4_ : Aside0 (w42.heap[gb266]? = some (.cells #[.int .i64 a0_0, .int .i64 a0_1, .int .i64 a0_2, .int .i64 a0_3] 23 (0, 0))) := ⟨h4_⟩
                      have n5_ : Aside0 (w42.heap[gb267]? = some (.cells #[.int .i64 x268000_2, .int .i64 x268001_2, .int .u32 x268002_2] 26 (0, 0))) := ⟨h5_⟩
                      have n6_ : Aside0 (w42.heap[gb278]? = some (.cells #[.int .i64 0, .int .i64 0, .int .u32 0] 26 (0, 0))) := ⟨h6_⟩
                      have n7_ : Aside0 (w.heap.size ≤ gb278) := ⟨h7_⟩
                      have n8_ : Aside0 (w.heap.size ≤ gb278) := ⟨h8_⟩
                      have n9_ : Aside0 (gb266 ≠ gb278) := ⟨h9_⟩
                      have n10_ : Aside0 (gb278 ≠ gb266) := ⟨h10_⟩
                      have n11_ : Aside0 (gb267 ≠ gb278) := ⟨h11_⟩
                      have n12_ : Aside0 (gb278 ≠ gb267) := ⟨h12_⟩
                      have n13_ : Aside0 (Below w.heap.size w w42) := ⟨h13_⟩
                      clear HO_13
                      clear HO_14
                      clear HO_15
                      clear HO_63
                      clear BK266
                      clear BK267
                      clear HB
                      clear h0_ h1_ h2_ h3_ h4_ h5_ h6_ h7_ h8_ h9_ h10_ h11_ h12_ h13_
                      have HO_13 := n0_
                      have HO_14 := n1_
                      have HO_15 := n2_
                      have HO_63 := n3_
                      have BK266 := n4_
                      have BK267 := n5_
                      have BK278 := n6_
                      have GW278 := n7_
                      have GE278 := n8_
                      have NB266_278 := n9_
                      have NB278_266 := n10_
                      have NB267_278 := n11_
                      have NB278_267 := n12_
                      have HB := n13_
                      clear n0_ n1_ n2_ n3_ n4_ n5_ n6_ n7_ n8_ n9_ n10_ n11_ n12_ n13_
                      have hHeld : w42.cell? (ad275.add ((ji29)).toNat) = some (.int .i64 (rd l2 (ji29))) ∧ w42.cell? (ad275.add ((ji32)).toNat) = some (.int .i64 (rd l2 (ji32))) := hS_
                      refine norm_ (a' := ?_) ?_ ?_;rotate_left
                      ·simp only [putAll, Act.put, List.setIfInBounds_toArray, List.set_cons_zero, List.set_cons_succ]
                       rfl
                      refine one_ (i := 15) (N := none) #[Y,Y,Y,Y,Y,Y,Y,Y,Y,Y,Y,Y,Y,Y,Y,Y] rfl rfl (one_of HT_.out (by kernel_rfl)) (by decide) (fun K hK => ?_)
                      have hs43 : w42.cell? ⟨gb278, 0, none⟩ = some (.int .i64 0) := (blk_cell BK278.out 0).trans rfl
                      have hfs43 := blk_frozen BK278.out 0
                      have hns43_0 := NB266_278.out
                      have hns43_1 := NB267_278.out
                      have hms43_0 := NB278_266.out
                      have hms43_1 := NB278_267.out
                      have hs44 : w42.cell? ⟨gb278, 1, none⟩ = some (.int .i64 0) := (blk_cell BK278.out 1).trans rfl
                      have hfs44 := blk_frozen BK278.out 1
                      have hns44_0 := NB266_278.out
                      have hns44_1 := NB267_278.out
                      have hms44_0 := NB278_266.out
                      have hms44_1 := NB278_267.out
                      have hs45 : w42.cell? ⟨gb278, 2, none⟩ = some (.int .u32 0) := (blk_cell BK278.out 2).trans rfl
                      have hfs45 := blk_frozen BK278.out 2
                      have hns45_0 := NB266_278.out
                      have hns45_1 := NB267_278.out
                      have hms45_0 := NB278_266.out
                      have hms45_1 := NB278_267.out
                      refine skip_ (w1 := ?_) (by rfl) rfl ?_ ?_;rotate_left
                      ·go_simp
                       rfl
                      refine hK.out _ _ ⟨((cell_far (p := ⟨gb278, _, none⟩) (by first | exact Nat.ne_of_lt (Nat.lt_of_lt_of_le (by have := World.block_lt_of_cell? _ _ hw275_0; first | rwa [add_block] at this | exact this) GW278.out) | (rw [add_block]; exact Nat.ne_of_lt (Nat.lt_of_lt_of_le (by have := World.block_lt_of_cell? _ _ hw275_0; first | rwa [add_block] at this | exact this) GW278.out)) | (show (Addr.add _ _).block ≠ _; rw [add_block]; exact Nat.ne_of_lt (Nat.lt_of_lt_of_le (by have := World.block_lt_of_cell? _ _ hw275_0; first | rwa [add_block] at this | exact this) GW278.out)) | (dsimp only; exact Nat.ne_of_lt (Nat.lt_of_lt_of_le (by have := World.block_lt_of_cell? _ _ hw275_0; first | rwa [add_block] at this | exact this) GW278.out))) _).trans (((cell_far (p := ⟨gb278, _, none⟩) (by first | exact Nat.ne_of_lt (Nat.lt_of_lt_of_le (by have := World.block_lt_of_cell? _ _ hw275_0; first | rwa [add_block] at this | exact this) GW278.out) | (rw [add_block]; exact Nat.ne_of_lt (Nat.lt_of_lt_of_le (by have := World.block_lt_of_cell? _ _ hw275_0; first | rwa [add_block] at this | exact this) GW278.out)) | (show (Addr.add _ _).block ≠ _; rw [add_block]; exact Nat.ne_of_lt (Nat.lt_of_lt_of_le (by have := World.block_lt_of_cell? _ _ hw275_0; first | rwa [add_block] at this | exact this) GW278.out)) | (dsimp only; exact Nat.ne_of_lt (Nat.lt_of_lt_of_le (by have := World.block_lt_of_cell? _ _ hw275_0; first | rwa [add_block] at this | exact this) GW278.out))) _).trans (((cell_far (p := ⟨gb278, _, none⟩) (by first | exact Nat.ne_of_lt (Nat.lt_of_lt_of_le (by have := World.block_lt_of_cell? _ _ hw275_0; first | rwa [add_block] at this | exact this) GW278.out) | (rw [add_block]; exact Nat.ne_of_lt (Nat.lt_of_lt_of_le (by have := World.block_lt_of_cell? _ _ hw275_0; first | rwa [add_block] at this | exact this) GW278.out)) | (show (Addr.add _ _).block ≠ _; rw [add_block]; exact Nat.ne_of_lt (Nat.lt_of_lt_of_le (by have := World.block_lt_of_cell? _ _ hw275_0; first | rwa [add_block] at this | exact this) GW278.out)) | (dsimp only; exact Nat.ne_of_lt (Nat.lt_of_lt_of_le (by have := World.block_lt_of_cell? _ _ hw275_0; first | rwa [add_block] at this | exact this) GW278.out))) _).trans (hHeld.1)))))), ((cell_far (p := ⟨gb278, _, none⟩) (by first | exact Nat.ne_of_lt (Nat.lt_of_lt_of_le (by have := World.block_lt_of_cell? _ _ hw276_0; first | rwa [add_block] at this | exact this) GW278.out) | (rw [add_block]; exact Nat.ne_of_lt (Nat.lt_of_lt_of_le (by have := World.block_lt_of_cell? _ _ hw276_0; first | rwa [add_block] at this | exact this) GW278.out)) | (show (Addr.add _ _).block ≠ _; rw [add_block]; exact Nat.ne_of_lt (Nat.lt_of_lt_of_le (by have := World.block_lt_of_cell? _ _ hw276_0; first | rwa [add_block] at this | exact this) GW278.out)) | (dsimp only; exact Nat.ne_of_lt (Nat.lt_of_lt_of_le (by have := World.block_lt_of_cell? _ _ hw276_0; first | rwa [add_block] at this | exact this) GW278.out))) _).trans (((cell_far (p := ⟨gb278, _, none⟩) (by first | exact Nat.ne_of_lt (Nat.lt_of_lt_of_le (by have := World.block_lt_of_cell? _ _ hw276_0; first | rwa [add_block] at this | exact this) GW278.out) | (rw [add_block]; exact Nat.ne_of_lt (Nat.lt_of_lt_of_le (by have := World.block_lt_of_cell? _ _ hw276_0; first | rwa [add_block] at this | exact this) GW278.out)) | (show (Addr.add _ _).block ≠ _; rw [add_block]; exact Nat.ne_of_lt (Nat.lt_of_lt_of_le (by have := World.block_lt_of_cell? _ _ hw276_0; first | rwa [add_block] at this | exact this) GW278.out)) | (dsimp only; exact Nat.ne_of_lt (Nat.lt_of_lt_of_le (by have := World.block_lt_of_cell? _ _ hw276_0; first | rwa [add_block] at this | exact this) GW278.out))) _).trans (((cell_far (p := ⟨gb278, _, none⟩) (by first | exact Nat.ne_of_lt (Nat.lt_of_lt_of_le (by have := World.block_lt_of_cell? _ _ hw276_0; first | rwa [add_block] at this | exact this) GW278.out) | (rw [add_block]; exact Nat.ne_of_lt (Nat.lt_of_lt_of_le (by have := World.block_lt_of_cell? _ _ hw276_0; first | rwa [add_block] at this | exact this) GW278.out)) | (show (Addr.add _ _).block ≠ _; rw [add_block]; exact Nat.ne_of_lt (Nat.lt_of_lt_of_le (by have := World.block_lt_of_cell? _ _ hw276_0; first | rwa [add_block] at this | exact this) GW278.out)) | (dsimp only; exact Nat.ne_of_lt (Nat.lt_of_lt_of_le (by have := World.block_lt_of_cell? _ _ hw276_0; first | rwa [add_block] at this | exact this) GW278.out))) _).trans (hHeld.2))))))⟩ (fun hHeld => ?_)
                      clear hK K
                      refine done_ (done_of HT_.out (by kernel_rfl)) ?_
                      have hnb46 := NB278_266.out
                      have hnc46 := NB266_278.out
                      have hnb47 := NB278_267.out
                      have hnc47 := NB267_278.out
                      have hcz48_0 : w42.cell? ⟨gb278, 0, none⟩ = some (.int .i64 0) := (blk_cell BK278.out 0).trans rfl
                      have hcz48_1 : w42.cell? ⟨gb278, 1, none⟩ = some (.int .i64 0) := (blk_cell BK278.out 1).trans rfl
                      have hcz48_2 : w42.cell? ⟨gb278, 2, none⟩ = some (.int .u32 0) := (blk_cell BK278.out 2).trans rfl
                      have hfz48_0 := blk_frozen BK278.out 0
                      have hfz48_1 := blk_frozen BK278.out 1
                      have hfz48_2 := blk_frozen BK278.out 2
                      try go_wp2_with (first | ((with_reducible refine HOpen.gate_append ?_); simp only [List.cons_append, List.nil_append]) | ((with_reducible refine gate_builtin (b := .append) (xs := #[.tmp 85, .tmp 89]) rfl ?_); at_builtin; refine Kd.R_append k130 (w0 := w) w.heap.size rfl (.tmp 85) (.tmp 89) 53 130 (.agg #[(.int .i64 0), (.int .i64 0), (.int .u32 0), (.string ⟨#[]⟩)]) 40 rfl Tryd.underlying53 info130 rfl (by decide) (by omega) (.slice Ao39 x13_3.length co39) x13_3 (⟨(⟨rd l2 (ji29), rd l2 (ji32), t277⟩ : S26), rdOf ByteArray.empty x14_2 x65_3⟩ : S130) [.int .i64 (rd l2 (ji29)), .int .i64 (rd l2 (ji32)), .int .u32 t277, .string (rdOf ByteArray.empty x14_2 x65_3)] (fun _ => True) (fun _ => False) rfl (by first | (go_simp; done) | (go_simp; rfl)) ?aP (fun _ hk => hk.elim) ?aF ?aO ?aB ?aS ?aL ?_; (case aP => exact k130_mkM _ _ _ (⟨(⟨rd l2 (ji29), rd l2 (ji32), t277⟩ : S26), rdOf ByteArray.empty x14_2 x65_3⟩ : S130)); (case aB => exact (by repeat (first | (with_reducible first | exact HB.out | apply below_alloc | apply pw_below_drewN | apply below_drew1 | refine below_set ?_ GE266.out | refine below_set ?_ GE267.out | refine below_set ?_ GE278.out) | exact HB.out))); (case aF => exact (fun _ _ => trivial)); (case aO => exact (by (with_reducible repeat (first | apply Kd.R_alloc | apply Kd.R_drewN | apply Kd.R_drew)); exact Kd.R_mono (Kd.R_far (p := ⟨gb278, 2, none⟩) (Kd.R_far (p := ⟨gb278, 1, none⟩) (Kd.R_far (p := ⟨gb278, 0, none⟩) (Kd.R_types HO_13.out BK278.out (by decide)) (fun _ hk => hk.2) (.int .i64 (rd l2 (ji29)))) (fun _ hk => hk.2) (.int .i64 (rd l2 (ji32)))) (fun _ hk => hk.2) (.int .u32 t277)) (fun _ hk => trivial))); (case aS => exact (below_size (by repeat (first | (with_reducible first | exact HB.out | apply below_alloc | apply pw_below_drewN | apply below_drew1 | refine below_set ?_ GE266.out | refine below_set ?_ GE267.out | refine below_set ?_ GE278.out) | exact HB.out)))); (case aL => have := LMc36.out; omega); intro v280 w49 ho hb hg hat; rw [← Ny279.out] at ho; have n0_ := Aside0.mk (Kd.R_over' (by (with_reducible repeat (first | apply Kd.R_alloc | apply Kd.R_drewN | apply Kd.R_drew)); exact (Kd.R_mono (Kd.R_far (p := ⟨gb278, 2, none⟩) (Kd.R_far (p := ⟨gb278, 1, none⟩) (Kd.R_far (p := ⟨gb278, 0, none⟩) (Kd.R_types HO_14.out BK278.out (by decide)) (fun _ hk => hk.2) (.int .i64 (rd l2 (ji29)))) (fun _ hk => hk.2) (.int .i64 (rd l2 (ji32)))) (fun _ hk => hk.2) (.int .u32 t277)) (fun _ h_ => h_.1))) (Kd.R_typed (by (with_reducible repeat (first | apply Kd.R_alloc | apply Kd.R_drewN | apply Kd.R_drew)); exact (Kd.R_mono (Kd.R_far (p := ⟨gb278, 2, none⟩) (Kd.R_far (p := ⟨gb278, 1, none⟩) (Kd.R_far (p := ⟨gb278, 0, none⟩) (Kd.R_types HO_13.out BK278.out (by decide)) (fun _ hk => hk.2) (.int .i64 (rd l2 (ji29)))) (fun _ hk => hk.2) (.int .i64 (rd l2 (ji32)))) (fun _ hk => hk.2) (.int .u32 t277)) (fun _ h_ => h_.1)))) (by decide) hg); have n1_ := Aside0.mk (Kd.R_over' (by (with_reducible repeat (first | apply Kd.R_alloc | apply Kd.R_drewN | apply Kd.R_drew)); exact (Kd.R_mono (Kd.R_far (p := ⟨gb278, 2, none⟩) (Kd.R_far (p := ⟨gb278, 1, none⟩) (Kd.R_far (p := ⟨gb278, 0, none⟩) (Kd.R_types HO_15.out BK278.out (by decide)) (fun _ hk => hk.2) (.int .i64 (rd l2 (ji29)))) (fun _ hk => hk.2) (.int .i64 (rd l2 (ji32)))) (fun _ hk => hk.2) (.int .u32 t277)) (fun _ h_ => h_.1))) (Kd.R_typed (by (with_reducible repeat (first | apply Kd.R_alloc | apply Kd.R_drewN | apply Kd.R_drew)); exact (Kd.R_mono (Kd.R_far (p := ⟨gb278, 2, none⟩) (Kd.R_far (p := ⟨gb278, 1, none⟩) (Kd.R_far (p := ⟨gb278, 0, none⟩) (Kd.R_types HO_13.out BK278.out (by decide)) (fun _ hk => hk.2) (.int .i64 (rd l2 (ji29)))) (fun _ hk => hk.2) (.int .i64 (rd l2 (ji32)))) (fun _ hk => hk.2) (.int .u32 t277)) (fun _ h_ => h_.1)))) (by decide) hg); have n2_ := Aside0.mk (Kd.R_over' (by (with_reducible repeat (first | apply Kd.R_alloc | apply Kd.R_drewN | apply Kd.R_drew)); exact (Kd.R_mono (Kd.R_far (p := ⟨gb278, 2, none⟩) (Kd.R_far (p := ⟨gb278, 1, none⟩) (Kd.R_far (p := ⟨gb278, 0, none⟩) (Kd.R_types HO_63.out BK278.out (by decide)) (fun _ hk => hk.2) (.int .i64 (rd l2 (ji29)))) (fun _ hk => hk.2) (.int .i64 (rd l2 (ji32)))) (fun _ hk => hk.2) (.int .u32 t277)) (fun _ h_ => h_.1))) (Kd.R_typed (by (with_reducible repeat (first | apply Kd.R_alloc | apply Kd.R_drewN | apply Kd.R_drew)); exact (Kd.R_mono (Kd.R_far (p := ⟨gb278, 2, none⟩) (Kd.R_far (p := ⟨gb278, 1, none⟩) (Kd.R_far (p := ⟨gb278, 0, none⟩) (Kd.R_types HO_13.out BK278.out (by decide)) (fun _ hk => hk.2) (.int .i64 (rd l2 (ji29)))) (fun _ hk => hk.2) (.int .i64 (rd l2 (ji32)))) (fun _ hk => hk.2) (.int .u32 t277)) (fun _ h_ => h_.1)))) (by decide) hg); have n3_ := Aside0.mk (blk_grown (g := gb266) (o := .cells #[.int .i64 a0_0, .int .i64 a0_1, .int .i64 a0_2, .int .i64 a0_3] 23 (0, 0)) (by (with_reducible repeat (first | refine blk_drewN ?_ _ | refine blk_drew ?_ | refine blk_alloc ?_ _)); refine blk_far ?_ NB266_278.out _; (with_reducible repeat (first | refine blk_drewN ?_ _ | refine blk_drew ?_ | refine blk_alloc ?_ _)); refine blk_far ?_ NB266_278.out _; (with_reducible repeat (first | refine blk_drewN ?_ _ | refine blk_drew ?_ | refine blk_alloc ?_ _)); refine blk_far ?_ NB266_278.out _; (with_reducible repeat (first | refine blk_drewN ?_ _ | refine blk_drew ?_ | refine blk_alloc ?_ _)); exact BK266.out) hg (Kd.R_ne HO_13.out BK266.out (by decide))); have n4_ := Aside0.mk (blk_grown (g := gb267) (o := .cells #[.int .i64 x268000_2, .int .i64 x268001_2, .int .u32 x268002_2] 26 (0, 0)) (by (with_reducible repeat (first | refine blk_drewN ?_ _ | refine blk_drew ?_ | refine blk_alloc ?_ _)); refine blk_far ?_ NB267_278.out _; (with_reducible repeat (first | refine blk_drewN ?_ _ | refine blk_drew ?_ | refine blk_alloc ?_ _)); refine blk_far ?_ NB267_278.out _; (with_reducible repeat (first | refine blk_drewN ?_ _ | refine blk_drew ?_ | refine blk_alloc ?_ _)); refine blk_far ?_ NB267_278.out _; (with_reducible repeat (first | refine blk_drewN ?_ _ | refine blk_drew ?_ | refine blk_alloc ?_ _)); exact BK267.out) hg (Kd.R_ne HO_13.out BK267.out (by decide))); have n5_ := Aside0.mk (blk_grown (g := gb278) (o := .cells #[.int .i64 (rd l2 (ji29)), .int .i64 (rd l2 (ji32)), .int .u32 t277] 26 (0, 0)) (by (with_reducible repeat (first | refine blk_drewN ?_ _ | refine blk_drew ?_ | refine blk_alloc ?_ _)); refine blk_put (cs := #[.int .i64 (rd l2 (ji29)), .int .i64 (rd l2 (ji32)), .int .u32 0]) ?_ 2 _ rfl; (with_reducible repeat (first | refine blk_drewN ?_ _ | refine blk_drew ?_ | refine blk_alloc ?_ _)); refine blk_put (cs := #[.int .i64 (rd l2 (ji29)), .int .i64 0, .int .u32 0]) ?_ 1 _ rfl; (with_reducible repeat (first | refine blk_drewN ?_ _ | refine blk_drew ?_ | refine blk_alloc ?_ _)); refine blk_put (cs := #[.int .i64 0, .int .i64 0, .int .u32 0]) ?_ 0 _ rfl; (with_reducible repeat (first | refine blk_drewN ?_ _ | refine blk_drew ?_ | refine blk_alloc ?_ _)); exact BK278.out) hg (Kd.R_ne HO_13.out BK278.out (by decide))); have n6_ := Aside0.mk (hb); have n7_ := Aside0.mk (ho); clear HO_14; clear HO_15; clear HO_63; clear BK266; clear BK267; clear BK278; clear HB; clear HO_13; have HO_14 := n0_; have HO_15 := n1_; have HO_63 := n2_; have BK266 := n3_; have BK267 := n4_; have BK278 := n5_; have HB := n6_; have HO281 := n7_; clear n0_ n1_ n2_ n3_ n4_ n5_ n6_ n7_; clear ho hb hg hat; have hcz50_0 : w49.cell? ⟨gb278, 0, none⟩ = some (.int .i64 (rd l2 (ji29))) := (blk_cell BK278.out 0).trans rfl; have hcz50_1 : w49.cell? ⟨gb278, 1, none⟩ = some (.int .i64 (rd l2 (ji32))) := (blk_cell BK278.out 1).trans rfl; have hcz50_2 : w49.cell? ⟨gb278, 2, none⟩ = some (.int .u32 t277) := (blk_cell BK278.out 2).trans rfl; have hfz50_0 := blk_frozen BK278.out 0; have hfz50_1 := blk_frozen BK278.out 1; have hfz50_2 := blk_frozen BK278.out 2) | ((with_reducible refine gate_callee (f := 47) rfl ?_); refine goesL_ (some 93) rfl rfl Tryd.func47 (by kernel_rfl) rfl #[.agg #[.int .i64 (rd l2 (ji29)), .int .i64 (rd l2 (ji32)), .int .u32 t277]] rfl (by (try simp only [List.map_toArray, List.map_cons, List.map_nil]); first | done | (simp only [hji29, hji32]; rfl) | rfl | (simp only [List.length_drop, List.length_take]; rfl)) ?_; (with_reducible refine (caulkref07_Ptr.calls k3 (rd l2 (ji29)) (rd l2 (ji32)) t277 t282 t283 _ A37.out).mono ?_); rintro e w51 ⟨rfl, hb⟩; refine ⟨_, rfl, ?_⟩; have n0_ := Aside0.mk (Kd.R_below (by (with_reducible repeat (first | apply Kd.R_alloc | apply Kd.R_drewN | apply Kd.R_drew)); exact HO_14.out) hb); have n1_ := Aside0.mk (Kd.R_below (by (with_reducible repeat (first | apply Kd.R_alloc | apply Kd.R_drewN | apply Kd.R_drew)); exact HO_15.out) hb); have n2_ := Aside0.mk (Kd.R_below (by (with_reducible repeat (first | apply Kd.R_alloc | apply Kd.R_drewN | apply Kd.R_drew)); exact HO_63.out) hb); have n3_ := Aside0.mk (Kd.R_below (by (with_reducible repeat (first | apply Kd.R_alloc | apply Kd.R_drewN | apply Kd.R_drew)); exact HO281.out) hb); have n4_ := Aside0.mk (blk_below (g := gb266) (o := .cells #[.int .i64 a0_0, .int .i64 a0_1, .int .i64 a0_2, .int .i64 a0_3] 23 (0, 0)) (by (with_reducible repeat (first | refine blk_drewN ?_ _ | refine blk_drew ?_ | refine blk_alloc ?_ _)); exact BK266.out) hb); have n5_ := Aside0.mk (blk_below (g := gb267) (o := .cells #[.int .i64 x268000_2, .int .i64 x268001_2, .int .u32 x268002_2] 26 (0, 0)) (by (with_reducible repeat (first | refine blk_drewN ?_ _ | refine blk_drew ?_ | refine blk_alloc ?_ _)); exact BK267.out) hb); have n6_ := Aside0.mk (blk_below (g := gb278) (o := .cells #[.int .i64 (rd l2 (ji29)), .int .i64 (rd l2 (ji32)), .int .u32 t277] 26 (0, 0)) (by (with_reducible repeat (first | refine blk_drewN ?_ _ | refine blk_drew ?_ | refine blk_alloc ?_ _)); exact BK278.out) hb); have n7_ := Aside0.mk (below_step (by repeat (first | (with_reducible first | exact HB.out | apply below_alloc | apply pw_below_drewN | apply below_drew1 | refine below_set ?_ GE266.out | refine below_set ?_ GE267.out | refine below_set ?_ GE278.out) | exact HB.out)) hb); clear HO_14; clear HO_15; clear HO_63; clear HO281; clear BK266; clear BK267; clear BK278; clear HB; have HO_14 := n0_; have HO_15 := n1_; have HO_63 := n2_; have HO281 := n3_; have BK266 := n4_; have BK267 := n5_; have BK278 := n6_; have HB := n7_; clear n0_ n1_ n2_ n3_ n4_ n5_ n6_ n7_; (try clear hb); (try clear hb2); (try clear hk); (try clear hi)) | ((with_reducible refine gate_builtin (b := .append) (xs := #[.tmp 96, .tmp 98]) rfl ?_); at_builtin; refine Kd.R_append Kd.string (w0 := w) w.heap.size rfl (.tmp 96) (.tmp 98) 104 9 (.string ⟨#[]⟩) 16 rfl Tryd.underlying104 info9 rfl (by decide) (by omega) u15 x15_3 t282 [.string t282] (fun k_ => some k_ ≠ (.slice (some ad274) x14_2.length co25 : Value).ownBlock ∧ some k_ ≠ (.slice (some ad274) x14_2.length co25 : Value).ownBlock) (fun _ => False) rfl rfl ?aP (fun _ hk => hk.elim) ?aF ?aO ?aB ?aS ?aL ?_; (case aP => exact rfl); (case aB => exact (by repeat (first | (with_reducible first | exact HB.out | apply below_alloc | apply pw_below_drewN | apply below_drew1 | refine below_set ?_ GE266.out | refine below_set ?_ GE267.out | refine below_set ?_ GE278.out) | exact HB.out))); (case aF => exact (fun k_ hk => ⟨Kd.fresh' (Kd.R_lt (by (with_reducible repeat (first | apply Kd.R_alloc | apply Kd.R_drewN | apply Kd.R_drew)); exact HO_14.out)) k_ hk, Kd.fresh' (Kd.R_lt (by (with_reducible repeat (first | apply Kd.R_alloc | apply Kd.R_drewN | apply Kd.R_drew)); exact HO_63.out)) k_ hk⟩)); (case aO => exact (by (with_reducible repeat (first | apply Kd.R_alloc | apply Kd.R_drewN | apply Kd.R_drew)); exact HO_15.out)); (case aS => exact (below_size (by repeat (first | (with_reducible first | exact HB.out | apply below_alloc | apply pw_below_drewN | apply below_drew1 | refine below_set ?_ GE266.out | refine below_set ?_ GE267.out | refine below_set ?_ GE278.out) | exact HB.out)))); (case aL => have := LMc38.out; omega); intro v285 w52 ho hb hg hat; rw [← Ny284.out] at ho; have n0_ := Aside0.mk (Kd.R_after (ok := (fun _ => True)) (by (with_reducible repeat (first | apply Kd.R_alloc | apply Kd.R_drewN | apply Kd.R_drew)); exact Kd.R_mono HO_14.out (fun _ hk => ⟨trivial, hk⟩)) hg hat); have n1_ := Aside0.mk (Kd.R_after (ok := (fun _ => True)) (by (with_reducible repeat (first | apply Kd.R_alloc | apply Kd.R_drewN | apply Kd.R_drew)); exact Kd.R_mono HO_63.out (fun _ hk => ⟨trivial, hk⟩)) hg hat); have n2_ := Aside0.mk (blk_grown (g := gb266) (o := .cells #[.int .i64 a0_0, .int .i64 a0_1, .int .i64 a0_2, .int .i64 a0_3] 23 (0, 0)) (by (with_reducible repeat (first | refine blk_drewN ?_ _ | refine blk_drew ?_ | refine blk_alloc ?_ _)); exact BK266.out) hg (Kd.R_ne HO_15.out BK266.out (by decide))); have n3_ := Aside0.mk (blk_grown (g := gb267) (o := .cells #[.int .i64 x268000_2, .int .i64 x268001_2, .int .u32 x268002_2] 26 (0, 0)) (by (with_reducible repeat (first | refine blk_drewN ?_ _ | refine blk_drew ?_ | refine blk_alloc ?_ _)); exact BK267.out) hg (Kd.R_ne HO_15.out BK267.out (by decide))); have n4_ := Aside0.mk (blk_grown (g := gb278) (o := .cells #[.int .i64 (rd l2 (ji29)), .int .i64 (rd l2 (ji32)), .int .u32 t277] 26 (0, 0)) (by (with_reducible repeat (first | refine blk_drewN ?_ _ | refine blk_drew ?_ | refine blk_alloc ?_ _)); exact BK278.out) hg (Kd.R_ne HO_15.out BK278.out (by decide))); have n5_ := Aside0.mk (Kd.R_over' (by (with_reducible repeat (first | apply Kd.R_alloc | apply Kd.R_drewN | apply Kd.R_drew)); exact HO281.out) (Kd.R_typed (by (with_reducible repeat (first | apply Kd.R_alloc | apply Kd.R_drewN | apply Kd.R_drew)); exact HO_15.out)) (by decide) hg); have n6_ := Aside0.mk (hb); have n7_ := Aside0.mk (ho); clear HO_14; clear HO_63; clear BK266; clear BK267; clear BK278; clear HO281; clear HB; clear HO_15; have HO_14 := n0_; have HO_63 := n1_; have BK266 := n2_; have BK267 := n3_; have BK278 := n4_; have HO281 := n5_; have HB := n6_; have HO286 := n7_; clear n0_ n1_ n2_ n3_ n4_ n5_ n6_ n7_; clear ho hb hg hat))
                      go_roundg k3
                      case measure => have := HK1.out; have := HK2.out; have := HK3.out; omega
                      case rel => exact ⟨(y279), (y284), (wrap64 (x65_3 + 1)), (by first | rfl | (simp; done) | (simp [*]; done)), H', ⟨by have := HK1.out; have := HK2.out; have := HK3.out; omega⟩, ⟨by (with_reducible repeat (first | apply Kd.R_alloc | apply Kd.R_drewN | apply Kd.R_drew)); exact HO281.out⟩, ⟨by (with_reducible repeat (first | apply Kd.R_alloc | apply Kd.R_drewN | apply Kd.R_drew)); exact Kd.R_mono HO_14.out (fun _ hk => hk.2)⟩, ⟨by (with_reducible repeat (first | apply Kd.R_alloc | apply Kd.R_drewN | apply Kd.R_drew)); exact HO286.out⟩, ⟨by (with_reducible repeat (first | apply Kd.R_alloc | apply Kd.R_drewN | apply Kd.R_drew)); exact Kd.R_mono HO_63.out (fun _ hk => hk.2)⟩, ⟨by (with_reducible repeat (first | refine blk_drewN ?_ _ | refine blk_drew ?_ | refine blk_alloc ?_ _)); exact BK266.out⟩, ⟨by (with_reducible repeat (first | refine blk_drewN ?_ _ | refine blk_drew ?_ | refine blk_alloc ?_ _)); exact BK267.out⟩, ⟨by repeat (first | (with_reducible first | exact HB.out | apply below_alloc | apply pw_below_drewN | apply below_drew1 | refine below_set ?_ GE266.out | refine below_set ?_ GE267.out | refine below_set ?_ GE278.out) | exact HB.out)⟩⟩
                     ·rw [if_neg c38] at H
                      exact absurd H (by simp)
                    ·rw [if_neg c36] at H
                     exact absurd H (by simp)
                   ·rw [if_neg c34] at H
                    exact absurd H (by simp)
                  ·rw [if_neg c33] at H
                   exact absurd H (by simp)
                 ·rw [if_neg c31] at H
                  exact absurd H (by simp)
                ·rw [if_neg c30] at H
                 exact absurd H (by simp)
               ·rw [if_neg c28] at H
                exact absurd H (by simp)
              ·rw [if_neg c27] at H
               exact absurd H (by simp)
             ·rw [if_neg c26] at H
              have c26b0 : decide (x65_3 < (x14_2.length : Int)) = false := decide_eq_false c26
              clear c26
              by_cases c53 : (x14_2.length : Int) = 1
              ·rw [if_pos c53] at H
               have c53b0 : ((x14_2.length : Int) == 1) = true := beq_iff_eq.mpr c53
               have c53b1 : ((x14_2.length : Int) != 1) = false := bne_eq_false_iff_eq.mpr c53
               clear c53
               obtain ⟨ji54, hji54⟩ : ∃ j_ : Int, (wrap64 ((x13_3.length : Int) - 1)) = j_ := ⟨_, rfl⟩
               replace H : (if 0 ≤ (ji54) then (if (ji54) < (x13_3.length : Int) then (some (x13_3, (rd_T130 x13_3 (ji54)).f0.f0, (rd_T130 x13_3 (ji54)).f0.f1, (rd_T130 x13_3 (ji54)).f0.f2, 0)) else (none)) else (none)) = some (r1, r2, r3, r4, r5) := by first | (rw [hji54] at H; exact H) | (simp only [hji54] at H ⊢; exact H)
               have hji54w : (IntKind.i64.wrap ((x13_3.length : Int) - 1)) = ji54 := (i64_w _).trans hji54
               by_cases c55 : 0 ≤ (ji54)
               ·rw [if_pos c55] at H
                have c55b0 : decide (0 ≤ (ji54)) = true := decide_eq_true c55
                clear c55
                by_cases c56 : (ji54) < (x13_3.length : Int)
                ·rw [if_pos c56] at H
                 have c56b0 : decide ((ji54) < (x13_3.length : Int)) = true := decide_eq_true c56
                 clear c56
                 simp only [Option.some.injEq, Prod.mk.injEq] at H
                 obtain ⟨rfl, rfl, rfl, rfl, rfl⟩ := H
                 try go_wp2
                 have n0_ := Aside0.mk (Kd.R_drew HO_13.out)
                 have n1_ := Aside0.mk (Kd.R_drew HO_14.out)
                 have n2_ := Aside0.mk (Kd.R_drew HO_15.out)
                 have n3_ := Aside0.mk (Kd.R_drew HO_63.out)
                 have n4_ := Aside0.mk (blk_drew BK266.out)
                 have n5_ := Aside0.mk (blk_drew BK267.out)
                 have n6_ := Aside0.mk (below_drew1 HB.out)
                 clear HO_13
                 clear HO_14
                 clear HO_15
                 clear HO_63
                 clear BK266
                 clear BK267
                 clear HB
                 have HO_13 := n0_
                 have HO_14 := n1_
                 have HO_15 := n2_
                 have HO_63 := n3_
                 have BK266 := n4_
                 have BK267 := n5_
                 have HB := n6_
                 clear n0_ n1_ n2_ n3_ n4_ n5_ n6_
                 obtain ⟨Ao58, co58, eo58⟩ := Kd.R_slice HO_13.out
                 (first | subst eo58 | (injection eo58 with f1_ f2_ f3_; have f4_ := f1_.symm; have f5_ := f3_.symm; clear f1_ f2_ f3_; subst f4_; subst f5_))
                 have p287 : 0 ≤ ((ji54) : Int) := of_decide_eq_true (by first | (with_reducible assumption) | assumption)
                 have q287 : (ji54) < (x13_3.length : Int) := of_decide_eq_true (by first | (with_reducible assumption) | assumption)
                 obtain ⟨ad287, e287, hx287_0, hx287_1, hx287_2, hx287_3⟩ := at_T130 (Kd.R_reads' HO_13.out).2.2 (ji54) p287 q287
                 cases e287
                 replace p287 := eq_true p287
                 replace q287 := eq_true q287
                 refine start_ (n := 11) (S := fun w' => w'.cell? (ad287.add (((ji54)).toNat * 4)) = some (.int .i64 ((rd_T130 x13_3 (ji54)).f0.f0)) ∧ w'.cell? ⟨(ad287.add (((ji54)).toNat * 4)).block, (ad287.add (((ji54)).toNat * 4)).off + 1, none⟩ = some (.int .i64 ((rd_T130 x13_3 (ji54)).f0.f1)) ∧ w'.cell? ⟨(ad287.add (((ji54)).toNat * 4)).block, (ad287.add (((ji54)).toNat * 4)).off + 2, none⟩ = some (.int .u32 ((rd_T130 x13_3 (ji54)).f0.f2)) ∧ w'.cell? ⟨(ad287.add (((ji54)).toNat * 4)).block, (ad287.add (((ji54)).toNat * 4)).off + 3, none⟩ = some (.string ((rd_T130 x13_3 (ji54)).f1))) (ds := []) #[G,G,G,G,G,G,G,G,G,G,G] (by kernel_rfl) rfl rfl ⟨hx287_0, hx287_1, hx287_2, hx287_3⟩ (fun hHeld => ?_); refine with_tabW caulkref09_Build.tab25 caulkref09_Build.bits25 (fun HT_ HW_ => ?_)
                 generalize wr.drew = w57 at HO_13 HO_14 HO_15 HO_63 BK266 BK267 HB hx287_0 hx287_1 hx287_2 hx287_3 hHeld ⊢
                 refine pu_ 0 104 ?_ #[Y,G,G,G,G,G,G,G,G,G,G] rfl rfl (any_of HT_.out (by kernel_rfl)) (fun _ _ _ h => h) (Or.inl ⟨by rfl, ?_⟩) ?_ ?_ ?_;rotate_left
                 ·intro w';go_simp;with_reducible rfl
                 rotate_left;·simp only [Act.put, sA_];rfl
                 refine pu_ 1 105 ?_ #[Y,Y,G,G,G,G,G,G,G,G,G] rfl rfl (any_of HT_.out (by kernel_rfl)) (fun _ _ _ h => h) (Or.inl ⟨by rfl, ?_⟩) ?_ ?_ ?_;rotate_left
                 ·intro w';go_simp;with_reducible rfl
                 rotate_left;·simp only [Act.put, sA_];rfl
                 refine pu_ 2 106 ?_ #[Y,Y,Y,G,G,G,G,G,G,G,G] rfl rfl (any_of HT_.out (by kernel_rfl)) (fun _ _ _ h => h) (Or.inl ⟨by rfl, ?_⟩) ?_ ?_ ?_;rotate_left
                 ·intro w';go_simp;with_reducible rfl
                 rotate_left;·simp only [Act.put, sA_];rfl
                 refine pu_ 3 107 ?_ #[Y,Y,Y,Y,G,G,G,G,G,G,G] rfl rfl (any_of HT_.out (by kernel_rfl)) (fun _ _ _ h => h) (Or.inl ⟨by rfl, ?_⟩) ?_ ?_ ?_;rotate_left
                 ·intro w';go_simp;with_reducible rfl
                 rotate_left;·simp only [Act.put, sA_];rfl
                 refine pu_ 4 108 ?_ #[Y,Y,Y,Y,Y,G,G,G,G,G,G] rfl rfl (any_of HT_.out (by kernel_rfl)) (fun _ _ _ h => h) (Or.inl ⟨by rfl, ?_⟩) ?_ ?_ ?_;rotate_left
                 ·intro w';go_simp;with_reducible rfl
                 rotate_left;·simp only [Act.put, sA_];rfl
                 refine pu_ 5 109 ?_ #[Y,Y,Y,Y,Y,Y,G,G,G,G,G] rfl rfl (any_of HT_.out (by kernel_rfl)) (fun _ _ _ h => h) (Or.inl ⟨by rfl, ?_⟩) ?_ ?_ ?_;rotate_left
                 ·intro w';go_simp;with_reducible rfl
                 rotate_left;·simp only [Act.put, sA_];rfl
                 refine pu_ 6 110 ?_ #[Y,Y,Y,Y,Y,Y,Y,G,G,G,G] rfl rfl (any_of HT_.out (by kernel_rfl)) (fun _ _ _ h => h) (Or.inl ⟨by rfl, ?_⟩) ?_ ?_ ?_;rotate_left
                 ·intro w';go_simp;with_reducible rfl
                 rotate_left;·simp only [Act.put, sA_];rfl
                 refine pu_ 8 6 ?_ #[Y,Y,Y,Y,Y,Y,Y,G,Y,G,G] rfl rfl (any_of HT_.out (by kernel_rfl)) (fun _ _ _ h => h) (Or.inl ⟨by rfl, ?_⟩) ?_ ?_ ?_;rotate_left
                 ·intro w';go_simp;with_reducible rfl
                 rotate_left;·simp only [Act.put, sA_];rfl
                 refine tk_ 7 111 ?_ #[Y,Y,Y,Y,Y,Y,Y,Y,Y,G,G] rfl rfl (take_ofW HT_.out HW_.out (by kernel_rfl)) (fun _ _ _ h => h) (Or.inl ⟨by rfl, ?_⟩) hHeld ?_ ?_ ?_;rotate_left
                 ·rintro w' ⟨s0, s1, s2, s3⟩
                  go_simp
                  with_reducible rfl
                 rotate_left;·simp only [Act.put, sA_];rfl
                 refine one_ (i := 9) (N := none) #[Y,Y,Y,Y,Y,Y,Y,Y,Y,Y,G] rfl rfl (one_of HT_.out (by kernel_rfl)) (by decide) (fun K hK => ?_)
                 have hs59 : w57.cell? ⟨gb267, 0, none⟩ = some (.int .i64 x268000_2) := (blk_cell BK267.out 0).trans rfl
                 have hfs59 := blk_frozen BK267.out 0
                 have hns59_0 := NB266_267.out
                 have hms59_0 := NB267_266.out
                 have hs60 : w57.cell? ⟨gb267, 1, none⟩ = some (.int .i64 x268001_2) := (blk_cell BK267.out 1).trans rfl
                 have hfs60 := blk_frozen BK267.out 1
                 have hns60_0 := NB266_267.out
                 have hms60_0 := NB267_266.out
                 have hs61 : w57.cell? ⟨gb267, 2, none⟩ = some (.int .u32 x268002_2) := (blk_cell BK267.out 2).trans rfl
                 have hfs61 := blk_frozen BK267.out 2
                 have hns61_0 := NB266_267.out
                 have hms61_0 := NB267_266.out
                 refine skip_ (w1 := ?_) (by rfl) rfl ?_ ?_;rotate_left
                 ·go_simp
                  rfl
                 refine hK.out _ _ ⟨((cell_far (p := ⟨gb267, _, none⟩) (by first | exact (by first | exact Kd.own_blk (Kd.R_ne HO_13.out BK267.out (by decide)) | exact HO_13.out.1 _ rfl | exact (HO_13.out.1 _ rfl).2 | exact (HO_13.out.1 _ rfl).1) | (rw [add_block]; exact (by first | exact Kd.own_blk (Kd.R_ne HO_13.out BK267.out (by decide)) | exact HO_13.out.1 _ rfl | exact (HO_13.out.1 _ rfl).2 | exact (HO_13.out.1 _ rfl).1)) | (show (Addr.add _ _).block ≠ _; rw [add_block]; exact (by first | exact Kd.own_blk (Kd.R_ne HO_13.out BK267.out (by decide)) | exact HO_13.out.1 _ rfl | exact (HO_13.out.1 _ rfl).2 | exact (HO_13.out.1 _ rfl).1)) | (dsimp only; exact (by first | exact Kd.own_blk (Kd.R_ne HO_13.out BK267.out (by decide)) | exact HO_13.out.1 _ rfl | exact (HO_13.out.1 _ rfl).2 | exact (HO_13.out.1 _ rfl).1))) _).trans (((cell_far (p := ⟨gb267, _, none⟩) (by first | exact (by first | exact Kd.own_blk (Kd.R_ne HO_13.out BK267.out (by decide)) | exact HO_13.out.1 _ rfl | exact (HO_13.out.1 _ rfl).2 | exact (HO_13.out.1 _ rfl).1) | (rw [add_block]; exact (by first | exact Kd.own_blk (Kd.R_ne HO_13.out BK267.out (by decide)) | exact HO_13.out.1 _ rfl | exact (HO_13.out.1 _ rfl).2 | exact (HO_13.out.1 _ rfl).1)) | (show (Addr.add _ _).block ≠ _; rw [add_block]; exact (by first | exact Kd.own_blk (Kd.R_ne HO_13.out BK267.out (by decide)) | exact HO_13.out.1 _ rfl | exact (HO_13.out.1 _ rfl).2 | exact (HO_13.out.1 _ rfl).1)) | (dsimp only; exact (by first | exact Kd.own_blk (Kd.R_ne HO_13.out BK267.out (by decide)) | exact HO_13.out.1 _ rfl | exact (HO_13.out.1 _ rfl).2 | exact (HO_13.out.1 _ rfl).1))) _).trans (((cell_far (p := ⟨gb267, _, none⟩) (by first | exact (by first | exact Kd.own_blk (Kd.R_ne HO_13.out BK267.out (by decide)) | exact HO_13.out.1 _ rfl | exact (HO_13.out.1 _ rfl).2 | exact (HO_13.out.1 _ rfl).1) | (rw [add_block]; exact (by first | exact Kd.own_blk (Kd.R_ne HO_13.out BK267.out (by decide)) | exact HO_13.out.1 _ rfl | exact (HO_13.out.1 _ rfl).2 | exact (HO_13.out.1 _ rfl).1)) | (show (Addr.add _ _).block ≠ _; rw [add_block]; exact (by first | exact Kd.own_blk (Kd.R_ne HO_13.out BK267.out (by decide)) | exact HO_13.out.1 _ rfl | exact (HO_13.out.1 _ rfl).2 | exact (HO_13.out.1 _ rfl).1)) | (dsimp only; exact (by first | exact Kd.own_blk (Kd.R_ne HO_13.out BK267.out (by decide)) | exact HO_13.out.1 _ rfl | exact (HO_13.out.1 _ rfl).2 | exact (HO_13.out.1 _ rfl).1))) _).trans (hHeld.1)))))), ((cell_far (p := ⟨gb267, _, none⟩) (by first | exact (by first | exact Kd.own_blk (Kd.R_ne HO_13.out BK267.out (by decide)) | exact HO_13.out.1 _ rfl | exact (HO_13.out.1 _ rfl).2 | exact (HO_13.out.1 _ rfl).1) | (rw [add_block]; exact (by first | exact Kd.own_blk (Kd.R_ne HO_13.out BK267.out (by decide)) | exact HO_13.out.1 _ rfl | exact (HO_13.out.1 _ rfl).2 | exact (HO_13.out.1 _ rfl).1)) | (show (Addr.add _ _).block ≠ _; rw [add_block]; exact (by first | exact Kd.own_blk (Kd.R_ne HO_13.out BK267.out (by decide)) | exact HO_13.out.1 _ rfl | exact (HO_13.out.1 _ rfl).2 | exact (HO_13.out.1 _ rfl).1)) | (dsimp only; exact (by first | exact Kd.own_blk (Kd.R_ne HO_13.out BK267.out (by decide)) | exact HO_13.out.1 _ rfl | exact (HO_13.out.1 _ rfl).2 | exact (HO_13.out.1 _ rfl).1))) _).trans (((cell_far (p := ⟨gb267, _, none⟩) (by first | exact (by first | exact Kd.own_blk (Kd.R_ne HO_13.out BK267.out (by decide)) | exact HO_13.out.1 _ rfl | exact (HO_13.out.1 _ rfl).2 | exact (HO_13.out.1 _ rfl).1) | (rw [add_block]; exact (by first | exact Kd.own_blk (Kd.R_ne HO_13.out BK267.out (by decide)) | exact HO_13.out.1 _ rfl | exact (HO_13.out.1 _ rfl).2 | exact (HO_13.out.1 _ rfl).1)) | (show (Addr.add _ _).block ≠ _; rw [add_block]; exact (by first | exact Kd.own_blk (Kd.R_ne HO_13.out BK267.out (by decide)) | exact HO_13.out.1 _ rfl | exact (HO_13.out.1 _ rfl).2 | exact (HO_13.out.1 _ rfl).1)) | (dsimp only; exact (by first | exact Kd.own_blk (Kd.R_ne HO_13.out BK267.out (by decide)) | exact HO_13.out.1 _ rfl | exact (HO_13.out.1 _ rfl).2 | exact (HO_13.out.1 _ rfl).1))) _).trans (((cell_far (p := ⟨gb267, _, none⟩) (by first | exact (by first | exact Kd.own_blk (Kd.R_ne HO_13.out BK267.out (by decide)) | exact HO_13.out.1 _ rfl | exact (HO_13.out.1 _ rfl).2 | exact (HO_13.out.1 _ rfl).1) | (rw [add_block]; exact (by first | exact Kd.own_blk (Kd.R_ne HO_13.out BK267.out (by decide)) | exact HO_13.out.1 _ rfl | exact (HO_13.out.1 _ rfl).2 | exact (HO_13.out.1 _ rfl).1)) | (show (Addr.add _ _).block ≠ _; rw [add_block]; exact (by first | exact Kd.own_blk (Kd.R_ne HO_13.out BK267.out (by decide)) | exact HO_13.out.1 _ rfl | exact (HO_13.out.1 _ rfl).2 | exact (HO_13.out.1 _ rfl).1)) | (dsimp only; exact (by first | exact Kd.own_blk (Kd.R_ne HO_13.out BK267.out (by decide)) | exact HO_13.out.1 _ rfl | exact (HO_13.out.1 _ rfl).2 | exact (HO_13.out.1 _ rfl).1))) _).trans (hHeld.2.1)))))), ((cell_far (p := ⟨gb267, _, none⟩) (by first | exact (by first | exact Kd.own_blk (Kd.R_ne HO_13.out BK267.out (by decide)) | exact HO_13.out.1 _ rfl | exact (HO_13.out.1 _ rfl).2 | exact (HO_13.out.1 _ rfl).1) | (rw [add_block]; exact (by first | exact Kd.own_blk (Kd.R_ne HO_13.out BK267.out (by decide)) | exact HO_13.out.1 _ rfl | exact (HO_13.out.1 _ rfl).2 | exact (HO_13.out.1 _ rfl).1)) | (show (Addr.add _ _).block ≠ _; rw [add_block]; exact (by first | exact Kd.own_blk (Kd.R_ne HO_13.out BK267.out (by decide)) | exact HO_13.out.1 _ rfl | exact (HO_13.out.1 _ rfl).2 | exact (HO_13.out.1 _ rfl).1)) | (dsimp only; exact (by first | exact Kd.own_blk (Kd.R_ne HO_13.out BK267.out (by decide)) | exact HO_13.out.1 _ rfl | exact (HO_13.out.1 _ rfl).2 | exact (HO_13.out.1 _ rfl).1))) _).trans (((cell_far (p := ⟨gb267, _, none⟩) (by first | exact (by first | exact Kd.own_blk (Kd.R_ne HO_13.out BK267.out (by decide)) | exact HO_13.out.1 _ rfl | exact (HO_13.out.1 _ rfl).2 | exact (HO_13.out.1 _ rfl).1) | (rw [add_block]; exact (by first | exact Kd.own_blk (Kd.R_ne HO_13.out BK267.out (by decide)) | exact HO_13.out.1 _ rfl | exact (HO_13.out.1 _ rfl).2 | exact (HO_13.out.1 _ rfl).1)) | (show (Addr.add _ _).block ≠ _; rw [add_block]; exact (by first | exact Kd.own_blk (Kd.R_ne HO_13.out BK267.out (by decide)) | exact HO_13.out.1 _ rfl | exact (HO_13.out.1 _ rfl).2 | exact (HO_13.out.1 _ rfl).1)) | (dsimp only; exact (by first | exact Kd.own_blk (Kd.R_ne HO_13.out BK267.out (by decide)) | exact HO_13.out.1 _ rfl | exact (HO_13.out.1 _ rfl).2 | exact (HO_13.out.1 _ rfl).1))) _).trans (((cell_far (p := ⟨gb267, _, none⟩) (by first | exact (by first | exact Kd.own_blk (Kd.R_ne HO_13.out BK267.out (by decide)) | exact HO_13.out.1 _ rfl | exact (HO_13.out.1 _ rfl).2 | exact (HO_13.out.1 _ rfl).1) | (rw [add_block]; exact (by first | exact Kd.own_blk (Kd.R_ne HO_13.out BK267.out (by decide)) | exact HO_13.out.1 _ rfl | exact (HO_13.out.1 _ rfl).2 | exact (HO_13.out.1 _ rfl).1)) | (show (Addr.add _ _).block ≠ _; rw [add_block]; exact (by first | exact Kd.own_blk (Kd.R_ne HO_13.out BK267.out (by decide)) | exact HO_13.out.1 _ rfl | exact (HO_13.out.1 _ rfl).2 | exact (HO_13.out.1 _ rfl).1)) | (dsimp only; exact (by first | exact Kd.own_blk (Kd.R_ne HO_13.out BK267.out (by decide)) | exact HO_13.out.1 _ rfl | exact (HO_13.out.1 _ rfl).2 | exact (HO_13.out.1 _ rfl).1))) _).trans (hHeld.2.2.1)))))), ((cell_far (p := ⟨gb267, _, none⟩) (by first | exact (by first | exact Kd.own_blk (Kd.R_ne HO_13.out BK267.out (by decide)) | exact HO_13.out.1 _ rfl | exact (HO_13.out.1 _ rfl).2 | exact (HO_13.out.1 _ rfl).1) | (rw [add_block]; exact (by first | exact Kd.own_blk (Kd.R_ne HO_13.out BK267.out (by decide)) | exact HO_13.out.1 _ rfl | exact (HO_13.out.1 _ rfl).2 | exact (HO_13.out.1 _ rfl).1)) | (show (Addr.add _ _).block ≠ _; rw [add_block]; exact (by first | exact Kd.own_blk (Kd.R_ne HO_13.out BK267.out (by decide)) | exact HO_13.out.1 _ rfl | exact (HO_13.out.1 _ rfl).2 | exact (HO_13.out.1 _ rfl).1)) | (dsimp only; exact (by first | exact Kd.own_blk (Kd.R_ne HO_13.out BK267.out (by decide)) | exact HO_13.out.1 _ rfl | exact (HO_13.out.1 _ rfl).2 | exact (HO_13.out.1 _ rfl).1))) _).trans (((cell_far (p := ⟨gb267, _, none⟩) (by first | exact (by first | exact Kd.own_blk (Kd.R_ne HO_13.out BK267.out (by decide)) | exact HO_13.out.1 _ rfl | exact (HO_13.out.1 _ rfl).2 | exact (HO_13.out.1 _ rfl).1) | (rw [add_block]; exact (by first | exact Kd.own_blk (Kd.R_ne HO_13.out BK267.out (by decide)) | exact HO_13.out.1 _ rfl | exact (HO_13.out.1 _ rfl).2 | exact (HO_13.out.1 _ rfl).1)) | (show (Addr.add _ _).block ≠ _; rw [add_block]; exact (by first | exact Kd.own_blk (Kd.R_ne HO_13.out BK267.out (by decide)) | exact HO_13.out.1 _ rfl | exact (HO_13.out.1 _ rfl).2 | exact (HO_13.out.1 _ rfl).1)) | (dsimp only; exact (by first | exact Kd.own_blk (Kd.R_ne HO_13.out BK267.out (by decide)) | exact HO_13.out.1 _ rfl | exact (HO_13.out.1 _ rfl).2 | exact (HO_13.out.1 _ rfl).1))) _).trans (((cell_far (p := ⟨gb267, _, none⟩) (by first | exact (by first | exact Kd.own_blk (Kd.R_ne HO_13.out BK267.out (by decide)) | exact HO_13.out.1 _ rfl | exact (HO_13.out.1 _ rfl).2 | exact (HO_13.out.1 _ rfl).1) | (rw [add_block]; exact (by first | exact Kd.own_blk (Kd.R_ne HO_13.out BK267.out (by decide)) | exact HO_13.out.1 _ rfl | exact (HO_13.out.1 _ rfl).2 | exact (HO_13.out.1 _ rfl).1)) | (show (Addr.add _ _).block ≠ _; rw [add_block]; exact (by first | exact Kd.own_blk (Kd.R_ne HO_13.out BK267.out (by decide)) | exact HO_13.out.1 _ rfl | exact (HO_13.out.1 _ rfl).2 | exact (HO_13.out.1 _ rfl).1)) | (dsimp only; exact (by first | exact Kd.own_blk (Kd.R_ne HO_13.out BK267.out (by decide)) | exact HO_13.out.1 _ rfl | exact (HO_13.out.1 _ rfl).2 | exact (HO_13.out.1 _ rfl).1))) _).trans (hHeld.2.2.2))))))⟩ (fun hHeld => ?_)
                 clear hK K
                 refine pu_ 10 8 ?_ #[Y,Y,Y,Y,Y,Y,Y,Y,Y,Y,Y] rfl rfl (any_of HT_.out (by kernel_rfl)) (fun _ _ _ h => h) (Or.inl ⟨by rfl, ?_⟩) ?_ ?_ ?_;rotate_left
                 ·intro w';go_simp;with_reducible rfl
                 rotate_left;·simp only [Act.put, sA_];rfl
                 refine done_ (done_of HT_.out (by kernel_rfl)) ?_
                 try go_wp2
                 refine bodyPost_ret (results_list (rs := [.tmp 6, .cell 7 26, .tmp 8]) rfl (by simp) (.tmp (.cell gb267 26 #[.int .i64 ((rd_T130 x13_3 (ji54)).f0.f0), .int .i64 ((rd_T130 x13_3 (ji54)).f0.f1), .int .u32 ((rd_T130 x13_3 (ji54)).f0.f2)] (0, 0) _ rfl (by (with_reducible repeat (first | refine blk_drewN ?_ _ | refine blk_drew ?_ | refine blk_alloc ?_ _)); refine blk_put (cs := #[.int .i64 ((rd_T130 x13_3 (ji54)).f0.f0), .int .i64 ((rd_T130 x13_3 (ji54)).f0.f1), .int .u32 x268002_2]) ?_ 2 _ rfl; (with_reducible repeat (first | refine blk_drewN ?_ _ | refine blk_drew ?_ | refine blk_alloc ?_ _)); refine blk_put (cs := #[.int .i64 ((rd_T130 x13_3 (ji54)).f0.f0), .int .i64 x268001_2, .int .u32 x268002_2]) ?_ 1 _ rfl; (with_reducible repeat (first | refine blk_drewN ?_ _ | refine blk_drew ?_ | refine blk_alloc ?_ _)); refine blk_put (cs := #[.int .i64 x268000_2, .int .i64 x268001_2, .int .u32 x268002_2]) ?_ 0 _ rfl; (with_reducible repeat (first | refine blk_drewN ?_ _ | refine blk_drew ?_ | refine blk_alloc ?_ _)); exact BK267.out) Tryd.underlying26 rfl (by kernel_rfl) (.tmp .nil)))) rfl ?_
                 exact ⟨_, by first | rfl | (simp [errW_none, errW_some] <;> rfl) | (simp only [← hji54]; first | rfl | (simp [errW_none, errW_some] <;> rfl)) | (simp [*, errW_none, errW_some] <;> rfl), by (with_reducible repeat (first | apply Kd.R_alloc | apply Kd.R_drewN | apply Kd.R_drew)); exact Kd.R_mono (Kd.R_far (p := ⟨gb267, 2, none⟩) (Kd.R_far (p := ⟨gb267, 1, none⟩) (Kd.R_far (p := ⟨gb267, 0, none⟩) (Kd.R_types HO_13.out BK267.out (by decide)) (fun _ hk => hk.2) (.int .i64 ((rd_T130 x13_3 (ji54)).f0.f0))) (fun _ hk => hk.2) (.int .i64 ((rd_T130 x13_3 (ji54)).f0.f1))) (fun _ hk => hk.2) (.int .u32 ((rd_T130 x13_3 (ji54)).f0.f2))) (fun _ hk => trivial), by repeat (first | (with_reducible first | exact HB.out | apply below_alloc | apply pw_below_drewN | apply below_drew1 | refine below_set ?_ GE266.out | refine below_set ?_ GE267.out) | exact HB.out)⟩
                ·rw [if_neg c56] at H
                 exact absurd H (by simp)
               ·rw [if_neg c55] at H
                exact absurd H (by simp)
              ·rw [if_neg c53] at H
               have c53b0 : ((x14_2.length : Int) == 1) = false := beq_eq_false_iff_ne.mpr c53
               have c53b1 : ((x14_2.length : Int) != 1) = true := bne_iff_ne.mpr c53
               have H' := Aside0.mk H
               clear H
               go_wp2
               go_loopg [22, 23] k3 (fun kq v22 v23 w' => ∃ (x22_4 : List ByteArray) (x23_4 : Int), v23 = .int .i64 x23_4 ∧ Aside0 (caulkref09_Build.l3 kq l2 x13_3 x15_3 x22_4 x23_4 a0_0 a0_1 a0_2 a0_3 = some (r1, r2, r3, r4, r5)) ∧ Aside0 (kq ≤ k3) ∧ Aside0 (Kd.R k130 130 w' w.heap.size (fun _ => True) u13 x13_3) ∧ Aside0 (Kd.R Kd.string 9 w' w.heap.size (fun k_ => some k_ ≠ (v22 : Value).ownBlock) u15 x15_3) ∧ Aside0 (Kd.R Kd.string 9 w' w.heap.size (fun k_ => some k_ ≠ (u15 : Value).ownBlock) v22 x22_4) ∧ Aside0 (w'.heap[gb266]? = some (.cells #[.int .i64 a0_0, .int .i64 a0_1, .int .i64 a0_2, .int .i64 a0_3] 23 (0, 0))) ∧ Aside0 (w'.heap[gb267]? = some (.cells #[.int .i64 x268000_2, .int .i64 x268001_2, .int .u32 x268002_2] 26 (0, 0))) ∧ Aside0 (Below w.heap.size w w'))
               case atStart => exact ⟨(([] : List ByteArray)), (0), (by first | rfl | (simp; done) | (simp [*]; done)), H', ⟨Nat.le_refl _⟩, ⟨by (with_reducible repeat (first | apply Kd.R_alloc | apply Kd.R_drewN | apply Kd.R_drew)); exact HO_13.out⟩, ⟨by (with_reducible repeat (first | apply Kd.R_alloc | apply Kd.R_drewN | apply Kd.R_drew)); exact Kd.R_mono HO_15.out (fun _ hk => (by simp [Value.ownBlock]))⟩, ⟨by first | exact Kd.R_nil _ _ _ _ _ | exact Kd.N_nil _ _ _ _ _ | exact Kd.V_nil _ _ _ _ _ | exact Kd.Q_nil _ _ _ _ _ | exact Kd.S_nil _ _ _ _ _⟩, ⟨by (with_reducible repeat (first | refine blk_drewN ?_ _ | refine blk_drew ?_ | refine blk_alloc ?_ _)); exact BK266.out⟩, ⟨by (with_reducible repeat (first | refine blk_drewN ?_ _ | refine blk_drew ?_ | refine blk_alloc ?_ _)); exact BK267.out⟩, ⟨by repeat (first | (with_reducible first | exact HB.out | apply below_alloc | apply pw_below_drewN | apply below_drew1 | refine below_set ?_ GE266.out | refine below_set ?_ GE267.out) | exact HB.out)⟩⟩
               case round =>
                as_aux_lemma =>
                 clear H'
                 (try clear c2);(try clear p2);(try clear q2);(try clear hx2);(try clear c3);(try clear c4);(try clear c5);(try clear p6);(try clear c7);(try clear c26);(try clear c26b0);(try clear c27);(try clear p27);(try clear q27);(try clear hx27);(try clear c28);(try clear p28);(try clear q28);(try clear hx28);(try clear c30);(try clear c30b0);(try clear c31);(try clear c31b0);(try clear c33);(try clear c33b0);(try clear c34);(try clear c34b0);(try clear c36);(try clear c38);(try clear c46);(try clear c47);(try clear c53);(try clear c53b0);(try clear c53b1);(try clear c55);(try clear c55b0);(try clear c56);(try clear c56b0);(try clear hcz48_0);(try clear hcz48_1);(try clear hcz48_2);(try clear hcz50_0);(try clear hcz50_1);(try clear hcz50_2);(try clear hfz48_0);(try clear hfz48_1);(try clear hfz48_2);(try clear hfz50_0);(try clear hfz50_1);(try clear hfz50_2);(try clear hx274_0);(try clear hx275_0);(try clear hx276_0);(try clear hx287_0);(try clear hx287_1);(try clear hx287_2);(try clear hx287_3);(try clear p274);(try clear p275);(try clear p276);(try clear p287);(try clear q274);(try clear q275);(try clear q276);(try clear q287)
                 obtain ⟨x22_4, x23_4, rfl, HA, HK4, HO_13, HO_15, HO_22, BK266, BK267, HB⟩ := hrel
                 cases gk with
                 | zero => exact absurd HA.out (by simp [caulkref09_Build.l3])
                 | succ k4 =>
                  have H := HA.out
                  clear HA
                  simp only [caulkref09_Build.l3] at H
                  by_cases c62 : x23_4 < (x15_3.length : Int)
                  ·rw [if_pos c62] at H
                   have c62b0 : decide (x23_4 < (x15_3.length : Int)) = true := decide_eq_true c62
                   clear c62
                   replace H := Option.bind_eq_some_iff.mp H
                   obtain ⟨t288, A630, H⟩ := H
                   replace H : (if 0 ≤ x23_4 then (if x23_4 ≤ (mn (wrap64 (x23_4 + t288)) (x15_3.length : Int)) then (if (mn (wrap64 (x23_4 + t288)) (x15_3.length : Int)) ≤ (x15_3.length : Int) then ((some ((x15_3.take ((mn (wrap64 (x23_4 + t288)) (x15_3.length : Int)) : Int).toNat).drop (x23_4 : Int).toNat : List ByteArray)).bind fun y289 => (caulkref09_Build.l4 k4 l2 x13_3 x15_3 x22_4 x23_4 (⟨#[]⟩ : ByteArray) y289 (y289.length : Int) 0 a0_0 a0_1 a0_2 a0_3)) else (none)) else (none)) else (none)) = some (r1, r2, r3, r4, r5) := H
                   have A63 := Aside0.mk A630
                   clear A630
                   obtain ⟨ji64, hji64⟩ : ∃ j_ : Int, (mn (wrap64 (x23_4 + t288)) (x15_3.length : Int)) = j_ := ⟨_, rfl⟩
                   replace H : (if 0 ≤ x23_4 then (if x23_4 ≤ (ji64) then (if (ji64) ≤ (x15_3.length : Int) then ((some ((x15_3.take ((ji64) : Int).toNat).drop (x23_4 : Int).toNat : List ByteArray)).bind fun y289 => (caulkref09_Build.l4 k4 l2 x13_3 x15_3 x22_4 x23_4 (⟨#[]⟩ : ByteArray) y289 (y289.length : Int) 0 a0_0 a0_1 a0_2 a0_3)) else (none)) else (none)) else (none)) = some (r1, r2, r3, r4, r5) := by first | (rw [hji64] at H; exact H) | (simp only [hji64] at H ⊢; exact H)
                   (try rw [hji64] at A63)
                   have hji64_ : (if (x15_3.length : Int) < (wrap64 (x23_4 + t288)) then (x15_3.length : Int) else (wrap64 (x23_4 + t288))) = ji64 := hji64
                   by_cases c65 : 0 ≤ x23_4
                   ·rw [if_pos c65] at H
                    have c65b0 := eq_true c65
                    have c65b1 : decide (0 ≤ x23_4) = true := decide_eq_true c65
                    clear c65
                    by_cases c66 : x23_4 ≤ (ji64)
                    ·rw [if_pos c66] at H
                     have c66b0 := eq_true c66
                     have c66b1 : decide (x23_4 ≤ (ji64)) = true := decide_eq_true c66
                     clear c66
                     by_cases c67 : (ji64) ≤ (x15_3.length : Int)
                     ·rw [if_pos c67] at H
                      have c67b0 := eq_true c67
                      have c67b1 : decide ((ji64) ≤ (x15_3.length : Int)) = true := decide_eq_true c67
                      clear c67
                      obtain ⟨y289, hy289⟩ : ∃ y_ : List ByteArray, y_ = ((x15_3.take ((ji64) : Int).toNat).drop (x23_4 : Int).toNat) := ⟨_, rfl⟩
                      replace H : (caulkref09_Build.l4 k4 l2 x13_3 x15_3 x22_4 x23_4 (⟨#[]⟩ : ByteArray) y289 (y289.length : Int) 0 a0_0 a0_1 a0_2 a0_3) = some (r1, r2, r3, r4, r5) := by first | (rw [hy289]; with_reducible exact H) | (have H2_ := (Option.bind_some _ _).symm.trans H; rw [hy289]; with_reducible exact H2_) | (have H2_ := (Option.bind_some _ _).symm.trans H; with_reducible exact H2_) | with_reducible exact H | (rw [hy289]; exact H) | exact H
                      have Ny289 := Aside0.mk hy289
                      clear hy289
                      have H' := Aside0.mk H
                      clear H
                      obtain ⟨Ao68, co68, eo68⟩ := Kd.R_slice HO_15.out
                      subst eo68
                      have hnb69 := NB266_267.out
                      have hnc69 := NB267_266.out
                      have hcz70_0 : wr.cell? ⟨gb266, 0, none⟩ = some (.int .i64 a0_0) := (blk_cell BK266.out 0).trans rfl
                      have hcz70_1 : wr.cell? ⟨gb266, 1, none⟩ = some (.int .i64 a0_1) := (blk_cell BK266.out 1).trans rfl
                      have hcz70_2 : wr.cell? ⟨gb266, 2, none⟩ = some (.int .i64 a0_2) := (blk_cell BK266.out 2).trans rfl
                      have hcz70_3 : wr.cell? ⟨gb266, 3, none⟩ = some (.int .i64 a0_3) := (blk_cell BK266.out 3).trans rfl
                      have hfz70_0 := blk_frozen BK266.out 0
                      have hfz70_1 := blk_frozen BK266.out 1
                      have hfz70_2 := blk_frozen BK266.out 2
                      have hfz70_3 := blk_frozen BK266.out 3
                      go_wp2_with (first | ((with_reducible refine HOpen.gate_append ?_); simp only [List.cons_append, List.nil_append]) | ((with_reducible refine gate_callee (f := 78) rfl ?_); refine goesL_ (some 124) rfl rfl Tryd.func78 (by kernel_rfl) rfl #[.agg #[.int .i64 a0_0, .int .i64 a0_1, .int .i64 a0_2, .int .i64 a0_3]] rfl (by (try simp only [List.map_toArray, List.map_cons, List.map_nil]); first | done | rfl | (simp only [List.length_drop, List.length_take]; rfl)) ?_; (with_reducible refine (caulkref06_Fan.calls k4 a0_0 a0_1 a0_2 a0_3 t288 _ A63.out).mono ?_); rintro e w71 ⟨rfl, hb⟩; refine ⟨_, rfl, ?_⟩; have n0_ := Aside0.mk (Kd.R_below (by (with_reducible repeat (first | apply Kd.R_alloc | apply Kd.R_drewN | apply Kd.R_drew)); exact HO_13.out) hb); have n1_ := Aside0.mk (Kd.R_below (by (with_reducible repeat (first | apply Kd.R_alloc | apply Kd.R_drewN | apply Kd.R_drew)); exact HO_15.out) hb); have n2_ := Aside0.mk (Kd.R_below (by (with_reducible repeat (first | apply Kd.R_alloc | apply Kd.R_drewN | apply Kd.R_drew)); exact HO_22.out) hb); have n3_ := Aside0.mk (blk_below (g := gb266) (o := .cells #[.int .i64 a0_0, .int .i64 a0_1, .int .i64 a0_2, .int .i64 a0_3] 23 (0, 0)) (by (with_reducible repeat (first | refine blk_drewN ?_ _ | refine blk_drew ?_ | refine blk_alloc ?_ _)); exact BK266.out) hb); have n4_ := Aside0.mk (blk_below (g := gb267) (o := .cells #[.int .i64 x268000_2, .int .i64 x268001_2, .int .u32 x268002_2] 26 (0, 0)) (by (with_reducible repeat (first | refine blk_drewN ?_ _ | refine blk_drew ?_ | refine blk_alloc ?_ _)); exact BK267.out) hb); have n5_ := Aside0.mk (below_step (by repeat (first | (with_reducible first | exact HB.out | apply below_alloc | apply pw_below_drewN | apply below_drew1 | refine below_set ?_ GE266.out | refine below_set ?_ GE267.out) | exact HB.out)) hb); clear HO_13; clear HO_15; clear HO_22; clear BK266; clear BK267; clear HB; have HO_13 := n0_; have HO_15 := n1_; have HO_22 := n2_; have BK266 := n3_; have BK267 := n4_; have HB := n5_; clear n0_ n1_ n2_ n3_ n4_ n5_; (try clear hb); (try clear hb2); (try clear hk); (try clear hi); have q72 : ((ji64) : Int) ≤ ((x15_3.length : Int) : Int) := of_decide_eq_true (by first | (with_reducible assumption) | assumption); obtain ⟨i072, hi072, _, hsz72, _⟩ := info_parts info9; have hroom72 : x15_3.length ≤ co68 := (Kd.R_reads' HO_15.out).2.1; have hC72 : Kd.C Kd.string _ Ao68 x15_3.length x15_3 := (Kd.R_reads' HO_15.out).2.2; have ql72 : (x23_4 : Int) ≤ ((ji64) : Int) := of_decide_eq_true (by first | (with_reducible assumption) | assumption); have q072 : (0 : Int) ≤ (x23_4 : Int) := of_decide_eq_true (by first | (with_reducible assumption) | assumption); have hcut72 := cut_mid (P := Tryd.prog) 104 9 .i64 .i64 Tryd.underlying104 hi072 1 hsz72 Ao68 x15_3.length co68 x23_4 (ji64) q072 ql72 q72 hroom72; have hr72 := Kd.C_mid (lo := (x23_4 : Int).toNat) (hi := ((ji64) : Int).toNat) (c := co68) hC72 (by omega) (by omega) hroom72; obtain ⟨A72, hA72⟩ : ∃ A1, A1 = (if co68 = (x23_4 : Int).toNat then Ao68 else (Ao68 : Option Addr).map (·.add ((x23_4 : Int).toNat * 1))) := ⟨_, rfl⟩; obtain ⟨c72, hc72⟩ : ∃ c1, c1 = co68 - (x23_4 : Int).toNat := ⟨_, rfl⟩; have hy72 : y289.length = ((ji64) : Int).toNat - (x23_4 : Int).toNat := (by rw [Ny289.out, List.length_drop, List.length_take] <;> omega); rw [show ((x15_3).take ((ji64) : Int).toNat).drop (x23_4 : Int).toNat = y289 from Ny289.out.symm] at hr72; replace hr72 : Kd.C Kd.string _ A72 y289.length y289 := (by rw [hA72]; exact hr72); rw [← hy72, ← hA72, ← hc72] at hcut72; have HR292 := Aside0.mk hr72; have HC292 := Aside0.mk (show y289.length ≤ c72 from by rw [hy72, hc72]; exact Nat.sub_le_sub_right (Nat.le_trans (by omega) hroom72) _); clear hr72 hC72 hroom72 hi072 hsz72 hc72; have KY72 := Aside0.mk hy72; have KA72 := Aside0.mk hA72; clear hy72 hA72; have KL72 := Aside0.mk (show ((ji64) : Int).toNat ≤ x15_3.length from by omega); have KM72 := Aside0.mk (show (x23_4 : Int).toNat ≤ ((ji64) : Int).toNat from by omega); replace q72 := eq_true q72))
                      (try simp only [Act.put, List.setIfInBounds_toArray, List.set_cons_zero, List.set_cons_succ])
                      go_loopg [24, 131] k4 (fun kq v24 v131 w' => ∃ (x24_5 : ByteArray) (x131_5 : Int), v24 = .string x24_5 ∧ v131 = .int .i64 x131_5 ∧ Aside0 (caulkref09_Build.l4 kq l2 x13_3 x15_3 x22_4 x23_4 x24_5 y289 (y289.length : Int) x131_5 a0_0 a0_1 a0_2 a0_3 = some (r1, r2, r3, r4, r5)) ∧ Aside0 (kq ≤ k4) ∧ Aside0 (Kd.R k130 130 w' w.heap.size (fun _ => True) u13 x13_3) ∧ Aside0 (Kd.R Kd.string 9 w' w.heap.size (fun k_ => some k_ ≠ (u22 : Value).ownBlock) (.slice Ao68 x15_3.length co68) x15_3) ∧ Aside0 (Kd.R Kd.string 9 w' w.heap.size (fun k_ => some k_ ≠ ((.slice Ao68 x15_3.length co68) : Value).ownBlock) u22 x22_4) ∧ Aside0 (w'.heap[gb266]? = some (.cells #[.int .i64 a0_0, .int .i64 a0_1, .int .i64 a0_2, .int .i64 a0_3] 23 (0, 0))) ∧ Aside0 (w'.heap[gb267]? = some (.cells #[.int .i64 x268000_2, .int .i64 x268001_2, .int .u32 x268002_2] 26 (0, 0))) ∧ Aside0 (Kd.C Kd.string w' A72 y289.length y289) ∧ Aside0 (Below w.heap.size w w'))
                      case atStart => exact ⟨((⟨#[]⟩ : ByteArray)), (0), (by first | rfl | (simp; done) | (simp [*]; done)), (by first | rfl | (simp; done) | (simp [*]; done)), H', ⟨Nat.le_refl _⟩, ⟨by (with_reducible repeat (first | apply Kd.R_alloc | apply Kd.R_drewN | apply Kd.R_drew)); exact HO_13.out⟩, ⟨by (with_reducible repeat (first | apply Kd.R_alloc | apply Kd.R_drewN | apply Kd.R_drew)); exact HO_15.out⟩, ⟨by (with_reducible repeat (first | apply Kd.R_alloc | apply Kd.R_drewN | apply Kd.R_drew)); exact HO_22.out⟩, ⟨by (with_reducible repeat (first | refine blk_drewN ?_ _ | refine blk_drew ?_ | refine blk_alloc ?_ _)); exact BK266.out⟩, ⟨by (with_reducible repeat (first | refine blk_drewN ?_ _ | refine blk_drew ?_ | refine blk_alloc ?_ _)); exact BK267.out⟩, ⟨by repeat (first | (with_reducible exact HR292.out) | (with_reducible refine Kd.C_alloc ?_ _) | (with_reducible refine Kd.C_drewN ?_ _) | (with_reducible refine Kd.C_drew ?_) | exact HR292.out)⟩, ⟨by repeat (first | (with_reducible first | exact HB.out | apply below_alloc | apply pw_below_drewN | apply below_drew1 | refine below_set ?_ GE266.out | refine below_set ?_ GE267.out) | exact HB.out)⟩⟩
                      case round =>
                       as_aux_lemma =>
                        clear H'
                        (try clear c1);(try clear c2);(try clear p2);(try clear q2);(try clear hx2);(try clear c3);(try clear c4);(try clear c5);(try clear c6);(try clear p6);(try clear c7);(try clear q7);(try clear c26);(try clear c26b0);(try clear c27);(try clear p27);(try clear q27);(try clear hx27);(try clear c28);(try clear p28);(try clear q28);(try clear hx28);(try clear c30);(try clear c30b0);(try clear c31);(try clear c31b0);(try clear c33);(try clear c33b0);(try clear c34);(try clear c34b0);(try clear c36);(try clear c38);(try clear c46);(try clear c47);(try clear c53);(try clear c53b0);(try clear c53b1);(try clear c55);(try clear c55b0);(try clear c56);(try clear c56b0);(try clear c62);(try clear c62b0);(try clear p64);(try clear c65);(try clear c65b0);(try clear c65b1);(try clear c66);(try clear c66b0);(try clear c66b1);(try clear c67);(try clear c67b0);(try clear c67b1);(try clear c69);(try clear c72);(try clear q72);(try clear hcz48_0);(try clear hcz48_1);(try clear hcz48_2);(try clear hcz50_0);(try clear hcz50_1);(try clear hcz50_2);(try clear hcz70_0);(try clear hcz70_1);(try clear hcz70_2);(try clear hcz70_3);(try clear hfz48_0);(try clear hfz48_1);(try clear hfz48_2);(try clear hfz50_0);(try clear hfz50_1);(try clear hfz50_2);(try clear hfz70_0);(try clear hfz70_1);(try clear hfz70_2);(try clear hfz70_3);(try clear hx274_0);(try clear hx275_0);(try clear hx276_0);(try clear hx287_0);(try clear hx287_1);(try clear hx287_2);(try clear hx287_3);(try clear p2);(try clear p27);(try clear p274);(try clear p275);(try clear p276);(try clear p28);(try clear p287);(try clear p6);(try clear q072);(try clear q2);(try clear q27);(try clear q274);(try clear q275);(try clear q276);(try clear q28);(try clear q287);(try clear q72)
                        obtain ⟨x24_5, x131_5, rfl, rfl, HA, HK5, HO_13, HO_15, HO_22, BK266, BK267, HR292, HB⟩ := hrel
                        cases gk with
                        | zero => exact absurd HA.out (by simp [caulkref09_Build.l4])
                        | succ k5 =>
                         have H := HA.out
                         clear HA
                         simp only [caulkref09_Build.l4] at H
                         by_cases c73 : x131_5 < (y289.length : Int)
                         ·rw [if_pos c73] at H
                          have c73b0 : decide (x131_5 < (y289.length : Int)) = true := decide_eq_true c73
                          clear c73
                          by_cases c74 : 0 ≤ x131_5
                          ·rw [if_pos c74] at H
                           have c74b0 : decide (0 ≤ x131_5) = true := decide_eq_true c74
                           clear c74
                           by_cases c75 : x131_5 < (y289.length : Int)
                           ·rw [if_pos c75] at H
                            have c75b0 : decide (x131_5 < (y289.length : Int)) = true := decide_eq_true c75
                            clear c75
                            by_cases c76 : x24_5.size + (rdOf ByteArray.empty y289 x131_5).size ≤ 9223372036854775807
                            ·rw [if_pos c76] at H
                             have c76b0 := eq_true c76
                             have c76b1 : decide (x24_5.size + (rdOf ByteArray.empty y289 x131_5).size ≤ 9223372036854775807) = true := decide_eq_true c76
                             try have c76b2 : (9223372036854775807 < x24_5.size + (rdOf ByteArray.empty y289 x131_5).size) = False := eq_false (Nat.not_lt.2 c76)
                             have H' := Aside0.mk H
                             clear H
                             have p293 : 0 ≤ (x131_5 : Int) := of_decide_eq_true (by first | (with_reducible assumption) | assumption)
                             have q293 : x131_5 < (y289.length : Int) := of_decide_eq_true (by first | (with_reducible assumption) | assumption)
                             obtain ⟨ad293, e293, hx293_0⟩ := Kd.at_string HR292.out x131_5 p293 q293
                             cases e293

                             replace p293 := eq_true p293
                             replace q293 := eq_true q293
                             go_wp2
                             go_roundg k5
                             case measure => have := HK1.out; have := HK2.out; have := HK3.out; have := HK4.out; have := HK5.out; omega
                             case rel => exact ⟨(x24_5 ++ (rdOf ByteArray.empty y289 x131_5)), (wrap64 (x131_5 + 1)), (by first | rfl | (simp; done) | (simp [*]; done)), (by first | rfl | (simp; done) | (simp [*]; done)), H', ⟨by have := HK1.out; have := HK2.out; have := HK3.out; have := HK4.out; have := HK5.out; omega⟩, ⟨by (with_reducible repeat (first | apply Kd.R_alloc | apply Kd.R_drewN | apply Kd.R_drew)); exact HO_13.out⟩, ⟨by (with_reducible repeat (first | apply Kd.R_alloc | apply Kd.R_drewN | apply Kd.R_drew)); exact HO_15.out⟩, ⟨by (with_reducible repeat (first | apply Kd.R_alloc | apply Kd.R_drewN | apply Kd.R_drew)); exact HO_22.out⟩, ⟨by (with_reducible repeat (first | refine blk_drewN ?_ _ | refine blk_drew ?_ | refine blk_alloc ?_ _)); exact BK266.out⟩, ⟨by (with_reducible repeat (first | refine blk_drewN ?_ _ | refine blk_drew ?_ | refine blk_alloc ?_ _)); exact BK267.out⟩, ⟨by repeat (first | (with_reducible exact HR292.out) | (with_reducible refine Kd.C_alloc ?_ _) | (with_reducible refine Kd.C_drewN ?_ _) | (with_reducible refine Kd.C_drew ?_) | exact HR292.out)⟩, ⟨by repeat (first | (with_reducible first | exact HB.out | apply below_alloc | apply pw_below_drewN | apply below_drew1 | refine below_set ?_ GE266.out | refine below_set ?_ GE267.out) | exact HB.out)⟩⟩
                            ·rw [if_neg c76] at H
                             exact absurd H (by simp)
                           ·rw [if_neg c75] at H
                            exact absurd H (by simp)
                          ·rw [if_neg c74] at H
                           exact absurd H (by simp)
                         ·rw [if_neg c73] at H
                          have c73b0 : decide (x131_5 < (y289.length : Int)) = false := decide_eq_false c73
                          clear c73
                          replace H := Option.bind_eq_some_iff.mp H
                          obtain ⟨⟨t294, t295⟩, A770, H⟩ := H
                          replace H : (if x22_4.length < 8796093022208 then ((caulkref06_Fan.f k5 a0_0 a0_1 a0_2 a0_3).bind fun t299 => (caulkref09_Build.l3 k5 l2 x13_3 x15_3 (x22_4 ++ [t294]) (wrap64 (x23_4 + t299)) a0_0 a0_1 a0_2 a0_3)) else (none)) = some (r1, r2, r3, r4, r5) := H
                          have A77 := Aside0.mk A770
                          clear A770
                          by_cases c78 : x22_4.length < 8796093022208
                          ·rw [if_pos c78] at H
                           have LMc78 := Aside0.mk c78
                           clear c78
                           obtain ⟨y296, hy296⟩ : ∃ y_ : List ByteArray, y_ = (x22_4 ++ [t294]) := ⟨_, rfl⟩
                           replace H : ((caulkref06_Fan.f k5 a0_0 a0_1 a0_2 a0_3).bind fun t299 => (caulkref09_Build.l3 k5 l2 x13_3 x15_3 y296 (wrap64 (x23_4 + t299)) a0_0 a0_1 a0_2 a0_3)) = some (r1, r2, r3, r4, r5) := by first | (rw [hy296]; with_reducible exact H) | (have H2_ := (Option.bind_some _ _).symm.trans H; rw [hy296]; with_reducible exact H2_) | (have H2_ := (Option.bind_some _ _).symm.trans H; with_reducible exact H2_) | with_reducible exact H | (rw [hy296]; exact H) | exact H
                           have Ny296 := Aside0.mk hy296
                           clear hy296
                           replace H := Option.bind_eq_some_iff.mp H
                           obtain ⟨t299, A790, H⟩ := H
                           replace H : (caulkref09_Build.l3 k5 l2 x13_3 x15_3 y296 (wrap64 (x23_4 + t299)) a0_0 a0_1 a0_2 a0_3) = some (r1, r2, r3, r4, r5) := H
                           have A79 := Aside0.mk A790
                           clear A790
                           have H' := Aside0.mk H
                           clear H
                           have hnb80 := NB266_267.out
                           have hnc80 := NB267_266.out
                           have hcz81_0 : wr.cell? ⟨gb266, 0, none⟩ = some (.int .i64 a0_0) := (blk_cell BK266.out 0).trans rfl
                           have hcz81_1 : wr.cell? ⟨gb266, 1, none⟩ = some (.int .i64 a0_1) := (blk_cell BK266.out 1).trans rfl
                           have hcz81_2 : wr.cell? ⟨gb266, 2, none⟩ = some (.int .i64 a0_2) := (blk_cell BK266.out 2).trans rfl
                           have hcz81_3 : wr.cell? ⟨gb266, 3, none⟩ = some (.int .i64 a0_3) := (blk_cell BK266.out 3).trans rfl
                           have hfz81_0 := blk_frozen BK266.out 0
                           have hfz81_1 := blk_frozen BK266.out 1
                           have hfz81_2 := blk_frozen BK266.out 2
                           have hfz81_3 := blk_frozen BK266.out 3
                           go_wp2_with (first | ((with_reducible refine HOpen.gate_append ?_); simp only [List.cons_append, List.nil_append]) | ((with_reducible refine gate_callee (f := 79) rfl ?_); refine goesL_ (some 142) rfl rfl Tryd.func79 (by kernel_rfl) rfl #[.agg #[.int .i64 a0_0, .int .i64 a0_1, .int .i64 a0_2, .int .i64 a0_3], .string x24_5] rfl (by (try simp only [List.map_toArray, List.map_cons, List.map_nil]); first | done | rfl | (simp only [List.length_drop, List.length_take]; rfl)) ?_; (with_reducible refine (caulkref08_Fill.calls k5 a0_0 a0_1 a0_2 a0_3 x24_5 t294 t295 _ A77.out).mono ?_); rintro e w82 ⟨rfl, hb⟩; refine ⟨_, rfl, ?_⟩; have n0_ := Aside0.mk (Kd.R_below (by (with_reducible repeat (first | apply Kd.R_alloc | apply Kd.R_drewN | apply Kd.R_drew)); exact HO_13.out) hb); have n1_ := Aside0.mk (Kd.R_below (by (with_reducible repeat (first | apply Kd.R_alloc | apply Kd.R_drewN | apply Kd.R_drew)); exact HO_15.out) hb); have n2_ := Aside0.mk (Kd.R_below (by (with_reducible repeat (first | apply Kd.R_alloc | apply Kd.R_drewN | apply Kd.R_drew)); exact HO_22.out) hb); have n3_ := Aside0.mk (blk_below (g := gb266) (o := .cells #[.int .i64 a0_0, .int .i64 a0_1, .int .i64 a0_2, .int .i64 a0_3] 23 (0, 0)) (by (with_reducible repeat (first | refine blk_drewN ?_ _ | refine blk_drew ?_ | refine blk_alloc ?_ _)); exact BK266.out) hb); have n4_ := Aside0.mk (blk_below (g := gb267) (o := .cells #[.int .i64 x268000_2, .int .i64 x268001_2, .int .u32 x268002_2] 26 (0, 0)) (by (with_reducible repeat (first | refine blk_drewN ?_ _ | refine blk_drew ?_ | refine blk_alloc ?_ _)); exact BK267.out) hb); have n5_ := Aside0.mk (Kd.C_below (by repeat (first | (with_reducible exact HR292.out) | (with_reducible refine Kd.C_alloc ?_ _) | (with_reducible refine Kd.C_drewN ?_ _) | (with_reducible refine Kd.C_drew ?_) | exact HR292.out)) hb); have n6_ := Aside0.mk (below_step (by repeat (first | (with_reducible first | exact HB.out | apply below_alloc | apply pw_below_drewN | apply below_drew1 | refine below_set ?_ GE266.out | refine below_set ?_ GE267.out) | exact HB.out)) hb); clear HO_13; clear HO_15; clear HO_22; clear BK266; clear BK267; clear HR292; clear HB; have HO_13 := n0_; have HO_15 := n1_; have HO_22 := n2_; have BK266 := n3_; have BK267 := n4_; have HR292 := n5_; have HB := n6_; clear n0_ n1_ n2_ n3_ n4_ n5_ n6_; (try clear hb); (try clear hb2); (try clear hk); (try clear hi)) | ((with_reducible refine gate_builtin (b := .append) (xs := #[.tmp 145, .tmp 147]) rfl ?_); at_builtin; refine Kd.R_append Kd.string (w0 := w) w.heap.size rfl (.tmp 145) (.tmp 147) 104 9 (.string ⟨#[]⟩) 16 rfl Tryd.underlying104 info9 rfl (by decide) (by omega) u22 x22_4 t294 [.string t294] (fun k_ => some k_ ≠ (.slice Ao68 x15_3.length co68 : Value).ownBlock) (fun _ => False) rfl rfl ?aP (fun _ hk => hk.elim) ?aF ?aO ?aB ?aS ?aL ?_; (case aP => exact rfl); (case aB => exact (by repeat (first | (with_reducible first | exact HB.out | apply below_alloc | apply pw_below_drewN | apply below_drew1 | refine below_set ?_ GE266.out | refine below_set ?_ GE267.out) | exact HB.out))); (case aF => exact (fun k_ hk => Kd.fresh' (Kd.R_lt (by (with_reducible repeat (first | apply Kd.R_alloc | apply Kd.R_drewN | apply Kd.R_drew)); exact HO_15.out)) k_ hk)); (case aO => exact (by (with_reducible repeat (first | apply Kd.R_alloc | apply Kd.R_drewN | apply Kd.R_drew)); exact HO_22.out)); (case aS => exact (below_size (by repeat (first | (with_reducible first | exact HB.out | apply below_alloc | apply pw_below_drewN | apply below_drew1 | refine below_set ?_ GE266.out | refine below_set ?_ GE267.out) | exact HB.out)))); (case aL => have := LMc78.out; omega); intro v297 w83 ho hb hg hat; rw [← Ny296.out] at ho; have n0_ := Aside0.mk (Kd.R_over' (by (with_reducible repeat (first | apply Kd.R_alloc | apply Kd.R_drewN | apply Kd.R_drew)); exact HO_13.out) (Kd.R_typed (by (with_reducible repeat (first | apply Kd.R_alloc | apply Kd.R_drewN | apply Kd.R_drew)); exact HO_22.out)) (by decide) hg); have n1_ := Aside0.mk (Kd.R_after (ok := (fun _ => True)) (by (with_reducible repeat (first | apply Kd.R_alloc | apply Kd.R_drewN | apply Kd.R_drew)); exact Kd.R_mono HO_15.out (fun _ hk => ⟨trivial, hk⟩)) hg hat); have n2_ := Aside0.mk (blk_grown (g := gb266) (o := .cells #[.int .i64 a0_0, .int .i64 a0_1, .int .i64 a0_2, .int .i64 a0_3] 23 (0, 0)) (by (with_reducible repeat (first | refine blk_drewN ?_ _ | refine blk_drew ?_ | refine blk_alloc ?_ _)); exact BK266.out) hg (Kd.R_ne HO_22.out BK266.out (by decide))); have n3_ := Aside0.mk (blk_grown (g := gb267) (o := .cells #[.int .i64 x268000_2, .int .i64 x268001_2, .int .u32 x268002_2] 26 (0, 0)) (by (with_reducible repeat (first | refine blk_drewN ?_ _ | refine blk_drew ?_ | refine blk_alloc ?_ _)); exact BK267.out) hg (Kd.R_ne HO_22.out BK267.out (by decide))); have n4_ := Aside0.mk (hb); have n5_ := Aside0.mk ((show Kd.C Kd.string w83 A72 y289.length y289 from by rw [Ny289.out, KA72.out]; exact Kd.C_mid (lo := (x23_4 : Int).toNat) (hi := ((ji64) : Int).toNat) (c := co68) ((Kd.R_reads' (Kd.R_after (ok := (fun _ => True)) (by (with_reducible repeat (first | apply Kd.R_alloc | apply Kd.R_drewN | apply Kd.R_drew)); exact Kd.R_mono HO_15.out (fun _ hk => ⟨trivial, hk⟩)) hg hat)).2.2) KM72.out KL72.out ((Kd.R_reads' (Kd.R_after (ok := (fun _ => True)) (by (with_reducible repeat (first | apply Kd.R_alloc | apply Kd.R_drewN | apply Kd.R_drew)); exact Kd.R_mono HO_15.out (fun _ hk => ⟨trivial, hk⟩)) hg hat)).2.1))); have n6_ := Aside0.mk (ho); clear HO_13; clear HO_15; clear BK266; clear BK267; clear HB; clear HR292; clear HO_22; have HO_13 := n0_; have HO_15 := n1_; have BK266 := n2_; have BK267 := n3_; have HB := n4_; have HR292 := n5_; have HO298 := n6_; clear n0_ n1_ n2_ n3_ n4_ n5_ n6_; clear ho hb hg hat; have hcz84_0 : w83.cell? ⟨gb266, 0, none⟩ = some (.int .i64 a0_0) := (blk_cell BK266.out 0).trans rfl; have hcz84_1 : w83.cell? ⟨gb266, 1, none⟩ = some (.int .i64 a0_1) := (blk_cell BK266.out 1).trans rfl; have hcz84_2 : w83.cell? ⟨gb266, 2, none⟩ = some (.int .i64 a0_2) := (blk_cell BK266.out 2).trans rfl; have hcz84_3 : w83.cell? ⟨gb266, 3, none⟩ = some (.int .i64 a0_3) := (blk_cell BK266.out 3).trans rfl; have hfz84_0 := blk_frozen BK266.out 0; have hfz84_1 := blk_frozen BK266.out 1; have hfz84_2 := blk_frozen BK266.out 2; have hfz84_3 := blk_frozen BK266.out 3) | ((with_reducible refine gate_callee (f := 78) rfl ?_); refine goesL_ (some 118) rfl rfl Tryd.func78 (by kernel_rfl) rfl #[.agg #[.int .i64 a0_0, .int .i64 a0_1, .int .i64 a0_2, .int .i64 a0_3]] rfl (by (try simp only [List.map_toArray, List.map_cons, List.map_nil]); first | done | rfl | (simp only [List.length_drop, List.length_take]; rfl)) ?_; (with_reducible refine (caulkref06_Fan.calls k5 a0_0 a0_1 a0_2 a0_3 t299 _ A79.out).mono ?_); rintro e w85 ⟨rfl, hb⟩; refine ⟨_, rfl, ?_⟩; have n0_ := Aside0.mk (Kd.R_below (by (with_reducible repeat (first | apply Kd.R_alloc | apply Kd.R_drewN | apply Kd.R_drew)); exact HO_13.out) hb); have n1_ := Aside0.mk (Kd.R_below (by (with_reducible repeat (first | apply Kd.R_alloc | apply Kd.R_drewN | apply Kd.R_drew)); exact HO_15.out) hb); have n2_ := Aside0.mk (Kd.R_below (by (with_reducible repeat (first | apply Kd.R_alloc | apply Kd.R_drewN | apply Kd.R_drew)); exact HO298.out) hb); have n3_ := Aside0.mk (blk_below (g := gb266) (o := .cells #[.int .i64 a0_0, .int .i64 a0_1, .int .i64 a0_2, .int .i64 a0_3] 23 (0, 0)) (by (with_reducible repeat (first | refine blk_drewN ?_ _ | refine blk_drew ?_ | refine blk_alloc ?_ _)); exact BK266.out) hb); have n4_ := Aside0.mk (blk_below (g := gb267) (o := .cells #[.int .i64 x268000_2, .int .i64 x268001_2, .int .u32 x268002_2] 26 (0, 0)) (by (with_reducible repeat (first | refine blk_drewN ?_ _ | refine blk_drew ?_ | refine blk_alloc ?_ _)); exact BK267.out) hb); have n5_ := Aside0.mk (Kd.C_below (by repeat (first | (with_reducible exact HR292.out) | (with_reducible refine Kd.C_alloc ?_ _) | (with_reducible refine Kd.C_drewN ?_ _) | (with_reducible refine Kd.C_drew ?_) | exact HR292.out)) hb); have n6_ := Aside0.mk (below_step (by repeat (first | (with_reducible first | exact HB.out | apply below_alloc | apply pw_below_drewN | apply below_drew1 | refine below_set ?_ GE266.out | refine below_set ?_ GE267.out) | exact HB.out)) hb); clear HO_13; clear HO_15; clear HO298; clear BK266; clear BK267; clear HR292; clear HB; have HO_13 := n0_; have HO_15 := n1_; have HO298 := n2_; have BK266 := n3_; have BK267 := n4_; have HR292 := n5_; have HB := n6_; clear n0_ n1_ n2_ n3_ n4_ n5_ n6_; (try clear hb); (try clear hb2); (try clear hk); (try clear hi)))
                           go_roundg k5
                           case measure => have := HK1.out; have := HK2.out; have := HK3.out; have := HK4.out; have := HK5.out; omega
                           case rel => exact ⟨(y296), (wrap64 (x23_4 + t299)), (by first | rfl | (simp; done) | (simp [*]; done)), H', ⟨by have := HK1.out; have := HK2.out; have := HK3.out; have := HK4.out; have := HK5.out; omega⟩, ⟨by (with_reducible repeat (first | apply Kd.R_alloc | apply Kd.R_drewN | apply Kd.R_drew)); exact HO_13.out⟩, ⟨by (with_reducible repeat (first | apply Kd.R_alloc | apply Kd.R_drewN | apply Kd.R_drew)); exact Kd.R_mono HO_15.out (fun _ hk => hk.2)⟩, ⟨by (with_reducible repeat (first | apply Kd.R_alloc | apply Kd.R_drewN | apply Kd.R_drew)); exact HO298.out⟩, ⟨by (with_reducible repeat (first | refine blk_drewN ?_ _ | refine blk_drew ?_ | refine blk_alloc ?_ _)); exact BK266.out⟩, ⟨by (with_reducible repeat (first | refine blk_drewN ?_ _ | refine blk_drew ?_ | refine blk_alloc ?_ _)); exact BK267.out⟩, ⟨by repeat (first | (with_reducible first | exact HB.out | apply below_alloc | apply pw_below_drewN | apply below_drew1 | refine below_set ?_ GE266.out | refine below_set ?_ GE267.out) | exact HB.out)⟩⟩
                          ·rw [if_neg c78] at H
                           exact absurd H (by simp)
                     ·rw [if_neg c67] at H
                      exact absurd H (by simp)
                    ·rw [if_neg c66] at H
                     exact absurd H (by simp)
                   ·rw [if_neg c65] at H
                    exact absurd H (by simp)
                  ·rw [if_neg c62] at H
                   have c62b0 : decide (x23_4 < (x15_3.length : Int)) = false := decide_eq_false c62
                   clear c62
                   have H' := Aside0.mk H
                   clear H
                   obtain ⟨Ao86, co86, eo86⟩ := Kd.R_slice HO_15.out
                   subst eo86
                   go_wp2
                   go_roundg k4
                   case measure => have := HK1.out; have := HK2.out; have := HK3.out; have := HK4.out; omega
                   case rel => exact ⟨(x13_3), (x22_4), (x268000_2), (x268001_2), (x268002_2), H', ⟨by have := HK1.out; have := HK2.out; have := HK3.out; have := HK4.out; omega⟩, ⟨by (with_reducible repeat (first | apply Kd.R_alloc | apply Kd.R_drewN | apply Kd.R_drew)); exact HO_13.out⟩, ⟨by (with_reducible repeat (first | apply Kd.R_alloc | apply Kd.R_drewN | apply Kd.R_drew)); exact Kd.R_mono HO_22.out (fun _ hk => trivial)⟩, ⟨by (with_reducible repeat (first | refine blk_drewN ?_ _ | refine blk_drew ?_ | refine blk_alloc ?_ _)); exact BK266.out⟩, ⟨by (with_reducible repeat (first | refine blk_drewN ?_ _ | refine blk_drew ?_ | refine blk_alloc ?_ _)); exact BK267.out⟩, ⟨by repeat (first | (with_reducible first | exact HB.out | apply below_alloc | apply pw_below_drewN | apply below_drew1 | refine below_set ?_ GE266.out | refine below_set ?_ GE267.out) | exact HB.out)⟩⟩
  ·rw [if_neg c6] at H
   have c6b0 : ((l2.length : Int) == (wrap64 (2 * t268))) = false := beq_eq_false_iff_ne.mpr c6
   have c6b1 : ((l2.length : Int) != (wrap64 (2 * t268))) = true := bne_iff_ne.mpr c6
   simp only [Option.some.injEq, Prod.mk.injEq] at H
   obtain ⟨rfl, rfl, rfl, rfl, rfl⟩ := H
   go_enter Tryd.func25, Tryd.ntmps25
   (try simp only [List.append_eq, List.cons_append, List.nil_append])
   go_wp2_with (first | ((with_reducible refine HOpen.gate_append ?_); simp only [List.cons_append, List.nil_append]) | ((with_reducible refine gate_dst (N := 3) rfl ?_); refine box_event ?hg (N := 3) ?hd (cs := #[.int .i64 a0_0, .int .i64 a0_1, .int .i64 a0_2, .int .i64 a0_3]) (t := 23) ?hr ?_; (case hd => rfl); (case hg => rfl); (case hr => first | (go_simp; done) | (go_simp; rfl)); intro gb266 hg w87 hbox hb; have n0_ := Aside0.mk (below_step (by repeat (first | (with_reducible first | exact HB.out | apply below_alloc | apply pw_below_drewN | apply below_drew1) | exact HB.out)) hb); have n1_ := Aside0.mk (hbox); have n2_ := Aside0.mk ((by rw [hg]; exact (below_size (by repeat (first | (with_reducible first | exact HB.out | apply below_alloc | apply pw_below_drewN | apply below_drew1) | exact HB.out))) : w.heap.size ≤ gb266)); have n3_ := Aside0.mk ((by rw [hg]; exact (below_size (by repeat (first | (with_reducible first | exact HB.out | apply below_alloc | apply pw_below_drewN | apply below_drew1) | exact HB.out))) : w.heap.size ≤ gb266)); clear HB; have HB := n0_; have BK266 := n1_; have GW266 := n2_; have GE266 := n3_; clear n0_ n1_ n2_ n3_; clear hb hbox hg) | ((with_reducible refine gate_dst (N := 7) rfl ?_); refine box_event ?hg (N := 7) ?hd (cs := #[.int .i64 0, .int .i64 0, .int .u32 0]) (t := 26) ?hr ?_; (case hd => rfl); (case hg => rfl); (case hr => first | (go_simp; done) | (go_simp; rfl)); intro gb267 hg w88 hbox hb; have n0_ := Aside0.mk (blk_below (g := gb266) (o := .cells #[.int .i64 a0_0, .int .i64 a0_1, .int .i64 a0_2, .int .i64 a0_3] 23 (0, 0)) (by (with_reducible repeat (first | refine blk_drewN ?_ _ | refine blk_drew ?_ | refine blk_alloc ?_ _)); exact BK266.out) hb); have n1_ := Aside0.mk (below_step (by repeat (first | (with_reducible first | exact HB.out | apply below_alloc | apply pw_below_drewN | apply below_drew1 | refine below_set ?_ GE266.out) | exact HB.out)) hb); have n2_ := Aside0.mk (hbox); have n3_ := Aside0.mk ((by rw [hg]; exact (below_size (by repeat (first | (with_reducible first | exact HB.out | apply below_alloc | apply pw_below_drewN | apply below_drew1 | refine below_set ?_ GE266.out) | exact HB.out))) : w.heap.size ≤ gb267)); have n4_ := Aside0.mk ((by rw [hg]; exact (below_size (by repeat (first | (with_reducible first | exact HB.out | apply below_alloc | apply pw_below_drewN | apply below_drew1 | refine below_set ?_ GE266.out) | exact HB.out))) : w.heap.size ≤ gb267)); have n5_ := Aside0.mk ((by rw [hg]; exact Nat.ne_of_lt (blk_lt (g := gb266) (o := .cells #[.int .i64 a0_0, .int .i64 a0_1, .int .i64 a0_2, .int .i64 a0_3] 23 (0, 0)) (by (with_reducible repeat (first | refine blk_drewN ?_ _ | refine blk_drew ?_ | refine blk_alloc ?_ _)); exact BK266.out)) : gb266 ≠ gb267)); have n6_ := Aside0.mk ((by rw [hg]; exact Nat.ne_of_gt (blk_lt (g := gb266) (o := .cells #[.int .i64 a0_0, .int .i64 a0_1, .int .i64 a0_2, .int .i64 a0_3] 23 (0, 0)) (by (with_reducible repeat (first | refine blk_drewN ?_ _ | refine blk_drew ?_ | refine blk_alloc ?_ _)); exact BK266.out)) : gb267 ≠ gb266)); clear BK266; clear HB; have BK266 := n0_; have HB := n1_; have BK267 := n2_; have GW267 := n3_; have GE267 := n4_; have NB266_267 := n5_; have NB267_266 := n6_; clear n0_ n1_ n2_ n3_ n4_ n5_ n6_; clear hb hbox hg; have hnb89 := NB266_267.out; have hnc89 := NB267_266.out; have hcz90_0 : w88.cell? ⟨gb266, 0, none⟩ = some (.int .i64 a0_0) := (blk_cell BK266.out 0).trans rfl; have hcz90_1 : w88.cell? ⟨gb266, 1, none⟩ = some (.int .i64 a0_1) := (blk_cell BK266.out 1).trans rfl; have hcz90_2 : w88.cell? ⟨gb266, 2, none⟩ = some (.int .i64 a0_2) := (blk_cell BK266.out 2).trans rfl; have hcz90_3 : w88.cell? ⟨gb266, 3, none⟩ = some (.int .i64 a0_3) := (blk_cell BK266.out 3).trans rfl; have hfz90_0 := blk_frozen BK266.out 0; have hfz90_1 := blk_frozen BK266.out 1; have hfz90_2 := blk_frozen BK266.out 2; have hfz90_3 := blk_frozen BK266.out 3) | ((with_reducible refine gate_callee (f := 23) rfl ?_); refine goesL_ (some 33) rfl rfl Tryd.func23 (by kernel_rfl) rfl #[.agg #[.int .i64 a0_0, .int .i64 a0_1, .int .i64 a0_2, .int .i64 a0_3], .int .i64 (a1.size : Int)] rfl (by (try simp only [List.map_toArray, List.map_cons, List.map_nil]); first | done | rfl | (simp only [List.length_drop, List.length_take]; rfl)) ?_; (with_reducible refine (caulkref09_Count.calls k a0_0 a0_1 a0_2 a0_3 (a1.size : Int) t268 t269 _ A4.out).mono ?_); rintro e w91 ⟨rfl, hb⟩; refine ⟨_, rfl, ?_⟩; have n0_ := Aside0.mk (blk_below (g := gb266) (o := .cells #[.int .i64 a0_0, .int .i64 a0_1, .int .i64 a0_2, .int .i64 a0_3] 23 (0, 0)) (by (with_reducible repeat (first | refine blk_drewN ?_ _ | refine blk_drew ?_ | refine blk_alloc ?_ _)); exact BK266.out) hb); have n1_ := Aside0.mk (blk_below (g := gb267) (o := .cells #[.int .i64 0, .int .i64 0, .int .u32 0] 26 (0, 0)) (by (with_reducible repeat (first | refine blk_drewN ?_ _ | refine blk_drew ?_ | refine blk_alloc ?_ _)); exact BK267.out) hb); have n2_ := Aside0.mk (below_step (by repeat (first | (with_reducible first | exact HB.out | apply below_alloc | apply pw_below_drewN | apply below_drew1 | refine below_set ?_ GE266.out | refine below_set ?_ GE267.out) | exact HB.out)) hb); clear BK266; clear BK267; clear HB; have BK266 := n0_; have BK267 := n1_; have HB := n2_; clear n0_ n1_ n2_; (try clear hb); (try clear hb2); (try clear hk); (try clear hi); have hcz92_0 : w91.cell? ⟨gb267, 0, none⟩ = some (.int .i64 0) := (blk_cell BK267.out 0).trans rfl; have hcz92_1 : w91.cell? ⟨gb267, 1, none⟩ = some (.int .i64 0) := (blk_cell BK267.out 1).trans rfl; have hcz92_2 : w91.cell? ⟨gb267, 2, none⟩ = some (.int .u32 0) := (blk_cell BK267.out 2).trans rfl; have hfz92_0 := blk_frozen BK267.out 0; have hfz92_1 := blk_frozen BK267.out 1; have hfz92_2 := blk_frozen BK267.out 2))
   refine bodyPost_ret (results_list (rs := [.tmp 6, .cell 7 26, .tmp 8]) rfl (by simp) (.tmp (.cell gb267 26 #[.int .i64 0, .int .i64 0, .int .u32 0] (0, 0) _ rfl (by (with_reducible repeat (first | refine blk_drewN ?_ _ | refine blk_drew ?_ | refine blk_alloc ?_ _)); refine blk_put (cs := #[.int .i64 0, .int .i64 0, .int .u32 0]) ?_ 2 _ rfl; (with_reducible repeat (first | refine blk_drewN ?_ _ | refine blk_drew ?_ | refine blk_alloc ?_ _)); refine blk_put (cs := #[.int .i64 0, .int .i64 0, .int .u32 0]) ?_ 1 _ rfl; (with_reducible repeat (first | refine blk_drewN ?_ _ | refine blk_drew ?_ | refine blk_alloc ?_ _)); refine blk_put (cs := #[.int .i64 0, .int .i64 0, .int .u32 0]) ?_ 0 _ rfl; (with_reducible repeat (first | refine blk_drewN ?_ _ | refine blk_drew ?_ | refine blk_alloc ?_ _)); exact BK267.out) Tryd.underlying26 rfl (by kernel_rfl) (.tmp .nil)))) rfl ?_
   exact ⟨_, by first | rfl | (simp [errW_none, errW_some] <;> rfl) | (simp [*, errW_none, errW_some] <;> rfl), by first | exact Kd.R_nil _ _ _ _ _ | exact Kd.N_nil _ _ _ _ _ | exact Kd.V_nil _ _ _ _ _ | exact Kd.Q_nil _ _ _ _ _ | exact Kd.S_nil _ _ _ _ _, by repeat (first | (with_reducible first | exact HB.out | apply below_alloc | apply pw_below_drewN | apply below_drew1 | refine below_set ?_ GE266.out | refine below_set ?_ GE267.out) | exact HB.out)⟩
 ·rw [if_neg c5] at H
  have c5b0 : (t269 == 0) = false := beq_eq_false_iff_ne.mpr c5
  have c5b1 : (t269 != 0) = true := bne_iff_ne.mpr c5
  simp only [Option.some.injEq, Prod.mk.injEq] at H
  obtain ⟨rfl, rfl, rfl, rfl, rfl⟩ := H
  go_enter Tryd.func25, Tryd.ntmps25
  (try simp only [List.append_eq, List.cons_append, List.nil_append])
  go_wp2_with (first | ((with_reducible refine HOpen.gate_append ?_); simp only [List.cons_append, List.nil_append]) | ((with_reducible refine gate_dst (N := 3) rfl ?_); refine box_event ?hg (N := 3) ?hd (cs := #[.int .i64 a0_0, .int .i64 a0_1, .int .i64 a0_2, .int .i64 a0_3]) (t := 23) ?hr ?_; (case hd => rfl); (case hg => rfl); (case hr => first | (go_simp; done) | (go_simp; rfl)); intro gb266 hg w93 hbox hb; have n0_ := Aside0.mk (below_step (by repeat (first | (with_reducible first | exact HB.out | apply below_alloc | apply pw_below_drewN | apply below_drew1) | exact HB.out)) hb); have n1_ := Aside0.mk (hbox); have n2_ := Aside0.mk ((by rw [hg]; exact (below_size (by repeat (first | (with_reducible first | exact HB.out | apply below_alloc | apply pw_below_drewN | apply below_drew1) | exact HB.out))) : w.heap.size ≤ gb266)); have n3_ := Aside0.mk ((by rw [hg]; exact (below_size (by repeat (first | (with_reducible first | exact HB.out | apply below_alloc | apply pw_below_drewN | apply below_drew1) | exact HB.out))) : w.heap.size ≤ gb266)); clear HB; have HB := n0_; have BK266 := n1_; have GW266 := n2_; have GE266 := n3_; clear n0_ n1_ n2_ n3_; clear hb hbox hg) | ((with_reducible refine gate_dst (N := 7) rfl ?_); refine box_event ?hg (N := 7) ?hd (cs := #[.int .i64 0, .int .i64 0, .int .u32 0]) (t := 26) ?hr ?_; (case hd => rfl); (case hg => rfl); (case hr => first | (go_simp; done) | (go_simp; rfl)); intro gb267 hg w94 hbox hb; have n0_ := Aside0.mk (blk_below (g := gb266) (o := .cells #[.int .i64 a0_0, .int .i64 a0_1, .int .i64 a0_2, .int .i64 a0_3] 23 (0, 0)) (by (with_reducible repeat (first | refine blk_drewN ?_ _ | refine blk_drew ?_ | refine blk_alloc ?_ _)); exact BK266.out) hb); have n1_ := Aside0.mk (below_step (by repeat (first | (with_reducible first | exact HB.out | apply below_alloc | apply pw_below_drewN | apply below_drew1 | refine below_set ?_ GE266.out) | exact HB.out)) hb); have n2_ := Aside0.mk (hbox); have n3_ := Aside0.mk ((by rw [hg]; exact (below_size (by repeat (first | (with_reducible first | exact HB.out | apply below_alloc | apply pw_below_drewN | apply below_drew1 | refine below_set ?_ GE266.out) | exact HB.out))) : w.heap.size ≤ gb267)); have n4_ := Aside0.mk ((by rw [hg]; exact (below_size (by repeat (first | (with_reducible first | exact HB.out | apply below_alloc | apply pw_below_drewN | apply below_drew1 | refine below_set ?_ GE266.out) | exact HB.out))) : w.heap.size ≤ gb267)); have n5_ := Aside0.mk ((by rw [hg]; exact Nat.ne_of_lt (blk_lt (g := gb266) (o := .cells #[.int .i64 a0_0, .int .i64 a0_1, .int .i64 a0_2, .int .i64 a0_3] 23 (0, 0)) (by (with_reducible repeat (first | refine blk_drewN ?_ _ | refine blk_drew ?_ | refine blk_alloc ?_ _)); exact BK266.out)) : gb266 ≠ gb267)); have n6_ := Aside0.mk ((by rw [hg]; exact Nat.ne_of_gt (blk_lt (g := gb266) (o := .cells #[.int .i64 a0_0, .int .i64 a0_1, .int .i64 a0_2, .int .i64 a0_3] 23 (0, 0)) (by (with_reducible repeat (first | refine blk_drewN ?_ _ | refine blk_drew ?_ | refine blk_alloc ?_ _)); exact BK266.out)) : gb267 ≠ gb266)); clear BK266; clear HB; have BK266 := n0_; have HB := n1_; have BK267 := n2_; have GW267 := n3_; have GE267 := n4_; have NB266_267 := n5_; have NB267_266 := n6_; clear n0_ n1_ n2_ n3_ n4_ n5_ n6_; clear hb hbox hg; have hnb95 := NB266_267.out; have hnc95 := NB267_266.out; have hcz96_0 : w94.cell? ⟨gb266, 0, none⟩ = some (.int .i64 a0_0) := (blk_cell BK266.out 0).trans rfl; have hcz96_1 : w94.cell? ⟨gb266, 1, none⟩ = some (.int .i64 a0_1) := (blk_cell BK266.out 1).trans rfl; have hcz96_2 : w94.cell? ⟨gb266, 2, none⟩ = some (.int .i64 a0_2) := (blk_cell BK266.out 2).trans rfl; have hcz96_3 : w94.cell? ⟨gb266, 3, none⟩ = some (.int .i64 a0_3) := (blk_cell BK266.out 3).trans rfl; have hfz96_0 := blk_frozen BK266.out 0; have hfz96_1 := blk_frozen BK266.out 1; have hfz96_2 := blk_frozen BK266.out 2; have hfz96_3 := blk_frozen BK266.out 3) | ((with_reducible refine gate_callee (f := 23) rfl ?_); refine goesL_ (some 33) rfl rfl Tryd.func23 (by kernel_rfl) rfl #[.agg #[.int .i64 a0_0, .int .i64 a0_1, .int .i64 a0_2, .int .i64 a0_3], .int .i64 (a1.size : Int)] rfl (by (try simp only [List.map_toArray, List.map_cons, List.map_nil]); first | done | rfl | (simp only [List.length_drop, List.length_take]; rfl)) ?_; (with_reducible refine (caulkref09_Count.calls k a0_0 a0_1 a0_2 a0_3 (a1.size : Int) t268 t269 _ A4.out).mono ?_); rintro e w97 ⟨rfl, hb⟩; refine ⟨_, rfl, ?_⟩; have n0_ := Aside0.mk (blk_below (g := gb266) (o := .cells #[.int .i64 a0_0, .int .i64 a0_1, .int .i64 a0_2, .int .i64 a0_3] 23 (0, 0)) (by (with_reducible repeat (first | refine blk_drewN ?_ _ | refine blk_drew ?_ | refine blk_alloc ?_ _)); exact BK266.out) hb); have n1_ := Aside0.mk (blk_below (g := gb267) (o := .cells #[.int .i64 0, .int .i64 0, .int .u32 0] 26 (0, 0)) (by (with_reducible repeat (first | refine blk_drewN ?_ _ | refine blk_drew ?_ | refine blk_alloc ?_ _)); exact BK267.out) hb); have n2_ := Aside0.mk (below_step (by repeat (first | (with_reducible first | exact HB.out | apply below_alloc | apply pw_below_drewN | apply below_drew1 | refine below_set ?_ GE266.out | refine below_set ?_ GE267.out) | exact HB.out)) hb); clear BK266; clear BK267; clear HB; have BK266 := n0_; have BK267 := n1_; have HB := n2_; clear n0_ n1_ n2_; (try clear hb); (try clear hb2); (try clear hk); (try clear hi); have hcz98_0 : w97.cell? ⟨gb267, 0, none⟩ = some (.int .i64 0) := (blk_cell BK267.out 0).trans rfl; have hcz98_1 : w97.cell? ⟨gb267, 1, none⟩ = some (.int .i64 0) := (blk_cell BK267.out 1).trans rfl; have hcz98_2 : w97.cell? ⟨gb267, 2, none⟩ = some (.int .u32 0) := (blk_cell BK267.out 2).trans rfl; have hfz98_0 := blk_frozen BK267.out 0; have hfz98_1 := blk_frozen BK267.out 1; have hfz98_2 := blk_frozen BK267.out 2))
  refine bodyPost_ret (results_list (rs := [.tmp 6, .cell 7 26, .tmp 8]) rfl (by simp) (.tmp (.cell gb267 26 #[.int .i64 0, .int .i64 0, .int .u32 0] (0, 0) _ rfl (by (with_reducible repeat (first | refine blk_drewN ?_ _ | refine blk_drew ?_ | refine blk_alloc ?_ _)); refine blk_put (cs := #[.int .i64 0, .int .i64 0, .int .u32 0]) ?_ 2 _ rfl; (with_reducible repeat (first | refine blk_drewN ?_ _ | refine blk_drew ?_ | refine blk_alloc ?_ _)); refine blk_put (cs := #[.int .i64 0, .int .i64 0, .int .u32 0]) ?_ 1 _ rfl; (with_reducible repeat (first | refine blk_drewN ?_ _ | refine blk_drew ?_ | refine blk_alloc ?_ _)); refine blk_put (cs := #[.int .i64 0, .int .i64 0, .int .u32 0]) ?_ 0 _ rfl; (with_reducible repeat (first | refine blk_drewN ?_ _ | refine blk_drew ?_ | refine blk_alloc ?_ _)); exact BK267.out) Tryd.underlying26 rfl (by kernel_rfl) (.tmp .nil)))) rfl ?_
  exact ⟨_, by first | rfl | (simp [errW_none, errW_some] <;> rfl) | (simp [*, errW_none, errW_some] <;> rfl), by first | exact Kd.R_nil _ _ _ _ _ | exact Kd.N_nil _ _ _ _ _ | exact Kd.V_nil _ _ _ _ _ | exact Kd.Q_nil _ _ _ _ _ | exact Kd.S_nil _ _ _ _ _, by repeat (first | (with_reducible first | exact HB.out | apply below_alloc | apply pw_below_drewN | apply below_drew1 | refine below_set ?_ GE266.out | refine below_set ?_ GE267.out) | exact HB.out)⟩
end Go.Proofs.YtmmfplogkikbjaaDoor.HPB
