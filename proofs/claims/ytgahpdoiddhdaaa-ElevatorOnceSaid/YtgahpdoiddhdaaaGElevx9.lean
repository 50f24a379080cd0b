/- WRITTEN BY wip/hyb.py, a program of this workplace (out of the kit's printer and this workplace's own contracts). -/
import Derived.Test.YtgahpdoiddhdaaaGElevx0
import Derived.Test.YtgahpdoiddhdaaaGElevx3
import Derived.Test.YtgahpdoiddhdaaaGElevx7
import Derived.Test.YtgahpdoiddhdaaaGElevx8
namespace Go.Proofs.Ytgahpdoiddhdaaa.HElev
open Go.RowKit Go.Proofs.YtgahpdoiddhdaaaW.PrintWords Go.Proofs.YtgahpdoiddhdaaaW.PrintLast Go.Proofs.YtgahpdoiddhdaaaW.PrintMore
attribute [local go_sem] max2_int min2_int max_two min_two max_three min_three max_four min_four   -- for this text's walks alone
set_option linter.unusedVariables false
set_option linter.unusedSimpArgs false

def caulklaw40_lives_t.f (k : Nat)  : Option (Bool) := (some (([(⟨3, 1, 1⟩ : S37), (⟨7, 2, 2⟩ : S37), (⟨5, 2, 3⟩ : S37)] : List (S37)) : List (S37))).bind fun y7218 => ((elevator_Order.f k 4 y7218).bind fun bt7221 => ((elevator_Runs.f k bt7221.1).bind fun bt7225 => ((elevator_Way.f k 4 bt7221.1).bind fun bt7229 => ((elevator_Order.f k (-1) y7218).bind fun bt7231 => (if 2 < (y7218.length : Int) then (if 1 < (y7218.length : Int) then (if 0 < (y7218.length : Int) then ((caulkref40_Same.f k bt7221.1 (([(⟨(rd_T37 y7218 2).f0, (rd_T37 y7218 2).f1, (rd_T37 y7218 2).f2⟩ : S37), (⟨(rd_T37 y7218 1).f0, (rd_T37 y7218 1).f1, (rd_T37 y7218 1).f2⟩ : S37), (⟨(rd_T37 y7218 0).f0, (rd_T37 y7218 0).f1, (rd_T37 y7218 0).f2⟩ : S37)] : List (S37)))).bind fun t7241 => (if t7241 = true then (if bt7221.2 = 0 then ((caulkref19_SameRanges.f k bt7225.1 (([(⟨5, 9⟩ : S39), (⟨3, 4⟩ : S39)] : List (S39)))).bind fun t7245 => (if t7245 = true then (if bt7225.2 = 0 then (if bt7229.1 = 12 then (if bt7229.2 = 0 then (if bt7231.2 = 1 then ((elevator_Check.f k (([(⟨3, 0, 0⟩ : S37)] : List (S37)))).bind fun t7249 => (if t7249 = 2 then ((elevator_Check.f k y7218).bind fun t7250 => (some (t7250 == 0))) else (some false))) else (some false)) else (some false)) else (some false)) else (some false)) else (some false))) else (some false)) else (some false))) else (none)) else (none)) else (none))))))
theorem caulklaw40_lives_t.mono : ∀ k, LeO (caulklaw40_lives_t.f k ) (caulklaw40_lives_t.f (k + 1) ) := by
 intro  k
 unfold caulklaw40_lives_t.f
 repeat' first
   | (with_reducible exact caulkref19_SameRanges.mono _ _ _)
   | (with_reducible exact caulkref40_Same.mono _ _ _)
   | (with_reducible exact elevator_Check.mono _ _)
   | (with_reducible exact elevator_Order.mono _ _ _)
   | (with_reducible exact elevator_Runs.mono _ _)
   | (with_reducible exact elevator_Way.mono _ _ _)
   | (with_reducible exact LeO.refl _)
   | (with_reducible exact LeO.none _)
   | (with_reducible refine LeO.ite ?_ ?_)
   | (with_reducible refine LeO.bind ?_ (fun _ => ?_))
   | exact caulkref19_SameRanges.mono _ _ _
   | exact caulkref40_Same.mono _ _ _
   | exact elevator_Check.mono _ _
   | exact elevator_Order.mono _ _ _
   | exact elevator_Runs.mono _ _
   | exact elevator_Way.mono _ _ _
   | exact LeO.none _
   | refine LeO.ite ?_ ?_
   | refine LeO.bind ?_ (fun _ => ?_)
def caulklaw40_lives_t.T6 : Bool × List (List Nat × List Nat) := (true, [([], []), ([], []), ([1], [1]), ([2], [2]), ([], []), ([4], [4]), ([5], [5]), ([], []), ([7], [7]), ([8], [8]), ([3, 6, 9], [3, 6, 9]), ([0, 10], [0, 10]), ([11, 11], [11]), ([12], [12]), ([13, 12], [12, 13]), ([12, 14], [12, 14]), ([15, 12], [15]), ([16], [16]), ([16], [16]), ([16], [16]), ([18, 19, 16], [16, 18, 19]), ([17, 20, 16, 16], [16, 17, 20]), ([16, 21], [16, 21]), ([22, 21], [22]), ([23], [23]), ([24, 23], [23, 24]), ([23, 25], [23, 25]), ([26, 23], [26]), ([27], [27]), ([28, 27], [27, 28]), ([27, 29], [27, 29]), ([30, 27], [30]), ([31], [31]), ([32, 31], [31, 32]), ([31, 33], [31, 33]), ([34, 31], [34]), ([35], [35]), ([36, 35], [35, 36]), ([35, 37], [35, 37]), ([38, 35], [38]), ([39], [39]), ([40, 39], [39, 40]), ([41, 39, 39], [39, 41]), ([42, 39], [39, 42]), ([39, 43], [39, 43]), ([44, 42], [44]), ([45], [45]), ([46, 45, 45], [45, 46]), ([47, 45], [45, 47]), ([45, 48], [45, 48]), ([49, 47, 0, 1, 2, 3, 4, 5, 6, 7, 8, 9, 10, 11, 12, 13, 14, 15, 16, 17, 18, 19, 20, 21, 22, 23, 24, 25, 26, 27, 28, 29, 30, 31, 32, 33, 34, 35, 36, 37, 38, 39, 40, 41, 42, 43, 44, 45, 46, 47, 48, 49], [49])])
def caulklaw40_lives_t.B6 : List Nat := [0, 0, 2, 6, 0, 16, 48, 0, 128, 384, 1022, 2047, 4095, 8191, 16383, 32767, 65535, 131071, 131071, 131071, 917503, 2097151, 4194303, 8388607, 16777215, 33554431, 67108863, 134217727, 268435455, 536870911, 1073741823, 2147483647, 4294967295, 8589934591, 17179869183, 34359738367, 68719476735, 137438953471, 274877906943, 549755813887, 1099511627775, 2199023255551, 4398046511103, 8796093022207, 17592186044415, 35184372088831, 70368744177663, 140737488355327, 281474976710655, 562949953421311, 1125899906842623]
theorem caulklaw40_lives_t.tab6 : rtab .any (opsOf Try.f13 6) = caulklaw40_lives_t.T6 := by kernel_rfl
theorem caulklaw40_lives_t.bits6 : waitsOk caulklaw40_lives_t.T6.2 caulklaw40_lives_t.B6 = true := by kernel_rfl
set_option maxHeartbeats 8000000 in
set_option maxRecDepth 100000 in
theorem caulklaw40_lives_t.calls (k : Nat)  (r : Bool) (w : World) (hrt : Aside0 (r = true)) (h : caulklaw40_lives_t.f k  = some r) :
  Calls Try.prog 13 #[] w fun e w' => e = .returned (.bool r) ∧ Below w.heap.size w w' := by
 have hu37 := Try.underlying37
 have hu39 := Try.underlying39
 have HB := Aside0.mk (Below.refl w.heap.size w)
 have H : ((some (([(⟨3, 1, 1⟩ : S37), (⟨7, 2, 2⟩ : S37), (⟨5, 2, 3⟩ : S37)] : List (S37)) : List (S37))).bind fun y7218 => ((elevator_Order.f k 4 y7218).bind fun bt7221 => ((elevator_Runs.f k bt7221.1).bind fun bt7225 => ((elevator_Way.f k 4 bt7221.1).bind fun bt7229 => ((elevator_Order.f k (-1) y7218).bind fun bt7231 => (if 2 < (y7218.length : Int) then (if 1 < (y7218.length : Int) then (if 0 < (y7218.length : Int) then ((caulkref40_Same.f k bt7221.1 (([(⟨(rd_T37 y7218 2).f0, (rd_T37 y7218 2).f1, (rd_T37 y7218 2).f2⟩ : S37), (⟨(rd_T37 y7218 1).f0, (rd_T37 y7218 1).f1, (rd_T37 y7218 1).f2⟩ : S37), (⟨(rd_T37 y7218 0).f0, (rd_T37 y7218 0).f1, (rd_T37 y7218 0).f2⟩ : S37)] : List (S37)))).bind fun t7241 => (if t7241 = true then (if bt7221.2 = 0 then ((caulkref19_SameRanges.f k bt7225.1 (([(⟨5, 9⟩ : S39), (⟨3, 4⟩ : S39)] : List (S39)))).bind fun t7245 => (if t7245 = true then (if bt7225.2 = 0 then (if bt7229.1 = 12 then (if bt7229.2 = 0 then (if bt7231.2 = 1 then ((elevator_Check.f k (([(⟨3, 0, 0⟩ : S37)] : List (S37)))).bind fun t7249 => (if t7249 = 2 then ((elevator_Check.f k y7218).bind fun t7250 => (some (t7250 == 0))) else (some false))) else (some false)) else (some false)) else (some false)) else (some false)) else (some false))) else (some false)) else (some false))) else (none)) else (none)) else (none))))))) = some r := h
 clear h
 obtain ⟨y7218, hy7218⟩ : ∃ y_ : List (S37), y_ = (([(⟨3, 1, 1⟩ : S37), (⟨7, 2, 2⟩ : S37), (⟨5, 2, 3⟩ : S37)] : List (S37))) := ⟨_, rfl⟩
 replace H : ((elevator_Order.f k 4 y7218).bind fun bt7221 => ((elevator_Runs.f k bt7221.1).bind fun bt7225 => ((elevator_Way.f k 4 bt7221.1).bind fun bt7229 => ((elevator_Order.f k (-1) y7218).bind fun bt7231 => (if 2 < (y7218.length : Int) then (if 1 < (y7218.length : Int) then (if 0 < (y7218.length : Int) then ((caulkref40_Same.f k bt7221.1 (([(⟨(rd_T37 y7218 2).f0, (rd_T37 y7218 2).f1, (rd_T37 y7218 2).f2⟩ : S37), (⟨(rd_T37 y7218 1).f0, (rd_T37 y7218 1).f1, (rd_T37 y7218 1).f2⟩ : S37), (⟨(rd_T37 y7218 0).f0, (rd_T37 y7218 0).f1, (rd_T37 y7218 0).f2⟩ : S37)] : List (S37)))).bind fun t7241 => (if t7241 = true then (if bt7221.2 = 0 then ((caulkref19_SameRanges.f k bt7225.1 (([(⟨5, 9⟩ : S39), (⟨3, 4⟩ : S39)] : List (S39)))).bind fun t7245 => (if t7245 = true then (if bt7225.2 = 0 then (if bt7229.1 = 12 then (if bt7229.2 = 0 then (if bt7231.2 = 1 then ((elevator_Check.f k (([(⟨3, 0, 0⟩ : S37)] : List (S37)))).bind fun t7249 => (if t7249 = 2 then ((elevator_Check.f k y7218).bind fun t7250 => (some (t7250 == 0))) else (some false))) else (some false)) else (some false)) else (some false)) else (some false)) else (some false))) else (some false)) else (some false))) else (none)) else (none)) else (none)))))) = some r := by first | (rw [hy7218]; with_reducible exact H) | (have H2_ := (Option.bind_some _ _).symm.trans H; rw [hy7218]; with_reducible exact H2_) | (have H2_ := (Option.bind_some _ _).symm.trans H; with_reducible exact H2_) | with_reducible exact H | (rw [hy7218]; exact H) | exact H
 have Ny7218 := Aside0.mk hy7218
 clear hy7218
 replace H := Option.bind_eq_some_iff.mp H
 obtain ⟨⟨t7221, t7222⟩, A10, H⟩ := H
 replace H : ((elevator_Runs.f k t7221).bind fun bt7225 => ((elevator_Way.f k 4 t7221).bind fun bt7229 => ((elevator_Order.f k (-1) y7218).bind fun bt7231 => (if 2 < (y7218.length : Int) then (if 1 < (y7218.length : Int) then (if 0 < (y7218.length : Int) then ((caulkref40_Same.f k t7221 (([(⟨(rd_T37 y7218 2).f0, (rd_T37 y7218 2).f1, (rd_T37 y7218 2).f2⟩ : S37), (⟨(rd_T37 y7218 1).f0, (rd_T37 y7218 1).f1, (rd_T37 y7218 1).f2⟩ : S37), (⟨(rd_T37 y7218 0).f0, (rd_T37 y7218 0).f1, (rd_T37 y7218 0).f2⟩ : S37)] : List (S37)))).bind fun t7241 => (if t7241 = true then (if t7222 = 0 then ((caulkref19_SameRanges.f k bt7225.1 (([(⟨5, 9⟩ : S39), (⟨3, 4⟩ : S39)] : List (S39)))).bind fun t7245 => (if t7245 = true then (if bt7225.2 = 0 then (if bt7229.1 = 12 then (if bt7229.2 = 0 then (if bt7231.2 = 1 then ((elevator_Check.f k (([(⟨3, 0, 0⟩ : S37)] : List (S37)))).bind fun t7249 => (if t7249 = 2 then ((elevator_Check.f k y7218).bind fun t7250 => (some (t7250 == 0))) else (some false))) else (some false)) else (some false)) else (some false)) else (some false)) else (some false))) else (some false)) else (some false))) else (none)) else (none)) else (none))))) = some r := H
 have A1 := Aside0.mk A10
 clear A10
 replace H := Option.bind_eq_some_iff.mp H
 obtain ⟨⟨t7225, t7226⟩, A20, H⟩ := H
 replace H : ((elevator_Way.f k 4 t7221).bind fun bt7229 => ((elevator_Order.f k (-1) y7218).bind fun bt7231 => (if 2 < (y7218.length : Int) then (if 1 < (y7218.length : Int) then (if 0 < (y7218.length : Int) then ((caulkref40_Same.f k t7221 (([(⟨(rd_T37 y7218 2).f0, (rd_T37 y7218 2).f1, (rd_T37 y7218 2).f2⟩ : S37), (⟨(rd_T37 y7218 1).f0, (rd_T37 y7218 1).f1, (rd_T37 y7218 1).f2⟩ : S37), (⟨(rd_T37 y7218 0).f0, (rd_T37 y7218 0).f1, (rd_T37 y7218 0).f2⟩ : S37)] : List (S37)))).bind fun t7241 => (if t7241 = true then (if t7222 = 0 then ((caulkref19_SameRanges.f k t7225 (([(⟨5, 9⟩ : S39), (⟨3, 4⟩ : S39)] : List (S39)))).bind fun t7245 => (if t7245 = true then (if t7226 = 0 then (if bt7229.1 = 12 then (if bt7229.2 = 0 then (if bt7231.2 = 1 then ((elevator_Check.f k (([(⟨3, 0, 0⟩ : S37)] : List (S37)))).bind fun t7249 => (if t7249 = 2 then ((elevator_Check.f k y7218).bind fun t7250 => (some (t7250 == 0))) else (some false))) else (some false)) else (some false)) else (some false)) else (some false)) else (some false))) else (some false)) else (some false))) else (none)) else (none)) else (none)))) = some r := H
 have A2 := Aside0.mk A20
 clear A20
 replace H := Option.bind_eq_some_iff.mp H
 obtain ⟨⟨t7229, t7230⟩, A30, H⟩ := H
 replace H : ((elevator_Order.f k (-1) y7218).bind fun bt7231 => (if 2 < (y7218.length : Int) then (if 1 < (y7218.length : Int) then (if 0 < (y7218.length : Int) then ((caulkref40_Same.f k t7221 (([(⟨(rd_T37 y7218 2).f0, (rd_T37 y7218 2).f1, (rd_T37 y7218 2).f2⟩ : S37), (⟨(rd_T37 y7218 1).f0, (rd_T37 y7218 1).f1, (rd_T37 y7218 1).f2⟩ : S37), (⟨(rd_T37 y7218 0).f0, (rd_T37 y7218 0).f1, (rd_T37 y7218 0).f2⟩ : S37)] : List (S37)))).bind fun t7241 => (if t7241 = true then (if t7222 = 0 then ((caulkref19_SameRanges.f k t7225 (([(⟨5, 9⟩ : S39), (⟨3, 4⟩ : S39)] : List (S39)))).bind fun t7245 => (if t7245 = true then (if t7226 = 0 then (if t7229 = 12 then (if t7230 = 0 then (if bt7231.2 = 1 then ((elevator_Check.f k (([(⟨3, 0, 0⟩ : S37)] : List (S37)))).bind fun t7249 => (if t7249 = 2 then ((elevator_Check.f k y7218).bind fun t7250 => (some (t7250 == 0))) else (some false))) else (some false)) else (some false)) else (some false)) else (some false)) else (some false))) else (some false)) else (some false))) else (none)) else (none)) else (none))) = some r := H
 have A3 := Aside0.mk A30
 clear A30
 replace H := Option.bind_eq_some_iff.mp H
 obtain ⟨⟨t7231, t7232⟩, A40, H⟩ := H
 replace H : (if 2 < (y7218.length : Int) then (if 1 < (y7218.length : Int) then (if 0 < (y7218.length : Int) then ((caulkref40_Same.f k t7221 (([(⟨(rd_T37 y7218 2).f0, (rd_T37 y7218 2).f1, (rd_T37 y7218 2).f2⟩ : S37), (⟨(rd_T37 y7218 1).f0, (rd_T37 y7218 1).f1, (rd_T37 y7218 1).f2⟩ : S37), (⟨(rd_T37 y7218 0).f0, (rd_T37 y7218 0).f1, (rd_T37 y7218 0).f2⟩ : S37)] : List (S37)))).bind fun t7241 => (if t7241 = true then (if t7222 = 0 then ((caulkref19_SameRanges.f k t7225 (([(⟨5, 9⟩ : S39), (⟨3, 4⟩ : S39)] : List (S39)))).bind fun t7245 => (if t7245 = true then (if t7226 = 0 then (if t7229 = 12 then (if t7230 = 0 then (if t7232 = 1 then ((elevator_Check.f k (([(⟨3, 0, 0⟩ : S37)] : List (S37)))).bind fun t7249 => (if t7249 = 2 then ((elevator_Check.f k y7218).bind fun t7250 => (some (t7250 == 0))) else (some false))) else (some false)) else (some false)) else (some false)) else (some false)) else (some false))) else (some false)) else (some false))) else (none)) else (none)) else (none)) = some r := H
 have A4 := Aside0.mk A40
 clear A40
 by_cases c5 : 2 < (y7218.length : Int)
 ·rw [if_pos c5] at H
  have c5b0 : decide (2 < (y7218.length : Int)) = true := decide_eq_true c5
  have c5b1 : decide (2 < y7218.length) = true := decide_eq_true (by omega)
  clear c5
  by_cases c6 : 1 < (y7218.length : Int)
  ·rw [if_pos c6] at H
   have c6b0 : decide (1 < (y7218.length : Int)) = true := decide_eq_true c6
   have c6b1 : decide (1 < y7218.length) = true := decide_eq_true (by omega)
   clear c6
   by_cases c7 : 0 < (y7218.length : Int)
   ·rw [if_pos c7] at H
    have c7b0 : decide (0 < (y7218.length : Int)) = true := decide_eq_true c7
    have c7b1 : decide (0 < y7218.length) = true := decide_eq_true (by omega)
    clear c7
    obtain ⟨y7238, hy7238⟩ : ∃ y_ : List (S37), y_ = (([(⟨(rd_T37 y7218 2).f0, (rd_T37 y7218 2).f1, (rd_T37 y7218 2).f2⟩ : S37), (⟨(rd_T37 y7218 1).f0, (rd_T37 y7218 1).f1, (rd_T37 y7218 1).f2⟩ : S37), (⟨(rd_T37 y7218 0).f0, (rd_T37 y7218 0).f1, (rd_T37 y7218 0).f2⟩ : S37)] : List (S37))) := ⟨_, rfl⟩
    replace H : ((caulkref40_Same.f k t7221 y7238).bind fun t7241 => (if t7241 = true then (if t7222 = 0 then ((caulkref19_SameRanges.f k t7225 (([(⟨5, 9⟩ : S39), (⟨3, 4⟩ : S39)] : List (S39)))).bind fun t7245 => (if t7245 = true then (if t7226 = 0 then (if t7229 = 12 then (if t7230 = 0 then (if t7232 = 1 then ((elevator_Check.f k (([(⟨3, 0, 0⟩ : S37)] : List (S37)))).bind fun t7249 => (if t7249 = 2 then ((elevator_Check.f k y7218).bind fun t7250 => (some (t7250 == 0))) else (some false))) else (some false)) else (some false)) else (some false)) else (some false)) else (some false))) else (some false)) else (some false))) = some r := by first | (rw [hy7238]; with_reducible exact H) | (have H2_ := (Option.bind_some _ _).symm.trans H; rw [hy7238]; with_reducible exact H2_) | (have H2_ := (Option.bind_some _ _).symm.trans H; with_reducible exact H2_) | with_reducible exact H | (rw [hy7238]; exact H) | exact H
    have Ny7238 := Aside0.mk hy7238
    clear hy7238
    replace H := Option.bind_eq_some_iff.mp H
    obtain ⟨t7241, A80, H⟩ := H
    replace H : (if t7241 = true then (if t7222 = 0 then ((caulkref19_SameRanges.f k t7225 (([(⟨5, 9⟩ : S39), (⟨3, 4⟩ : S39)] : List (S39)))).bind fun t7245 => (if t7245 = true then (if t7226 = 0 then (if t7229 = 12 then (if t7230 = 0 then (if t7232 = 1 then ((elevator_Check.f k (([(⟨3, 0, 0⟩ : S37)] : List (S37)))).bind fun t7249 => (if t7249 = 2 then ((elevator_Check.f k y7218).bind fun t7250 => (some (t7250 == 0))) else (some false))) else (some false)) else (some false)) else (some false)) else (some false)) else (some false))) else (some false)) else (some false)) = some r := H
    have A8 := Aside0.mk A80
    clear A80
    by_cases c9 : t7241 = true
    ·subst c9
     have H1 : (if t7222 = 0 then ((caulkref19_SameRanges.f k t7225 (([(⟨5, 9⟩ : S39), (⟨3, 4⟩ : S39)] : List (S39)))).bind fun t7245 => (if t7245 = true then (if t7226 = 0 then (if t7229 = 12 then (if t7230 = 0 then (if t7232 = 1 then ((elevator_Check.f k (([(⟨3, 0, 0⟩ : S37)] : List (S37)))).bind fun t7249 => (if t7249 = 2 then ((elevator_Check.f k y7218).bind fun t7250 => (some (t7250 == 0))) else (some false))) else (some false)) else (some false)) else (some false)) else (some false)) else (some false))) else (some false)) = some r := by rw [if_pos rfl] at H; exact H
     clear H
     have H := H1
     clear H1
     by_cases c10 : t7222 = 0
     ·rw [if_pos c10] at H
      have c10b0 : (t7222 == 0) = true := beq_iff_eq.mpr c10
      have c10b1 : (t7222 != 0) = false := bne_eq_false_iff_eq.mpr c10
      clear c10
      obtain ⟨y7242, hy7242⟩ : ∃ y_ : List (S39), y_ = (([(⟨5, 9⟩ : S39), (⟨3, 4⟩ : S39)] : List (S39))) := ⟨_, rfl⟩
      replace H : ((caulkref19_SameRanges.f k t7225 y7242).bind fun t7245 => (if t7245 = true then (if t7226 = 0 then (if t7229 = 12 then (if t7230 = 0 then (if t7232 = 1 then ((elevator_Check.f k (([(⟨3, 0, 0⟩ : S37)] : List (S37)))).bind fun t7249 => (if t7249 = 2 then ((elevator_Check.f k y7218).bind fun t7250 => (some (t7250 == 0))) else (some false))) else (some false)) else (some false)) else (some false)) else (some false)) else (some false))) = some r := by first | (rw [hy7242]; with_reducible exact H) | (have H2_ := (Option.bind_some _ _).symm.trans H; rw [hy7242]; with_reducible exact H2_) | (have H2_ := (Option.bind_some _ _).symm.trans H; with_reducible exact H2_) | with_reducible exact H | (rw [hy7242]; exact H) | exact H
      have Ny7242 := Aside0.mk hy7242
      clear hy7242
      replace H := Option.bind_eq_some_iff.mp H
      obtain ⟨t7245, A110, H⟩ := H
      replace H : (if t7245 = true then (if t7226 = 0 then (if t7229 = 12 then (if t7230 = 0 then (if t7232 = 1 then ((elevator_Check.f k (([(⟨3, 0, 0⟩ : S37)] : List (S37)))).bind fun t7249 => (if t7249 = 2 then ((elevator_Check.f k y7218).bind fun t7250 => (some (t7250 == 0))) else (some false))) else (some false)) else (some false)) else (some false)) else (some false)) else (some false)) = some r := H
      have A11 := Aside0.mk A110
      clear A110
      by_cases c12 : t7245 = true
      ·subst c12
       have H1 : (if t7226 = 0 then (if t7229 = 12 then (if t7230 = 0 then (if t7232 = 1 then ((elevator_Check.f k (([(⟨3, 0, 0⟩ : S37)] : List (S37)))).bind fun t7249 => (if t7249 = 2 then ((elevator_Check.f k y7218).bind fun t7250 => (some (t7250 == 0))) else (some false))) else (some false)) else (some false)) else (some false)) else (some false)) = some r := by rw [if_pos rfl] at H; exact H
       clear H
       have H := H1
       clear H1
       by_cases c13 : t7226 = 0
       ·rw [if_pos c13] at H
        have c13b0 : (t7226 == 0) = true := beq_iff_eq.mpr c13
        have c13b1 : (t7226 != 0) = false := bne_eq_false_iff_eq.mpr c13
        clear c13
        by_cases c14 : t7229 = 12
        ·rw [if_pos c14] at H
         have c14b0 : (t7229 == 12) = true := beq_iff_eq.mpr c14
         have c14b1 : (t7229 != 12) = false := bne_eq_false_iff_eq.mpr c14
         clear c14
         by_cases c15 : t7230 = 0
         ·rw [if_pos c15] at H
          have c15b0 : (t7230 == 0) = true := beq_iff_eq.mpr c15
          have c15b1 : (t7230 != 0) = false := bne_eq_false_iff_eq.mpr c15
          clear c15
          by_cases c16 : t7232 = 1
          ·rw [if_pos c16] at H
           have c16b0 : (t7232 == 1) = true := beq_iff_eq.mpr c16
           have c16b1 : (t7232 != 1) = false := bne_eq_false_iff_eq.mpr c16
           clear c16
           obtain ⟨y7246, hy7246⟩ : ∃ y_ : List (S37), y_ = (([(⟨3, 0, 0⟩ : S37)] : List (S37))) := ⟨_, rfl⟩
           replace H : ((elevator_Check.f k y7246).bind fun t7249 => (if t7249 = 2 then ((elevator_Check.f k y7218).bind fun t7250 => (some (t7250 == 0))) else (some false))) = some r := by first | (rw [hy7246]; with_reducible exact H) | (have H2_ := (Option.bind_some _ _).symm.trans H; rw [hy7246]; with_reducible exact H2_) | (have H2_ := (Option.bind_some _ _).symm.trans H; with_reducible exact H2_) | with_reducible exact H | (rw [hy7246]; exact H) | exact H
           have Ny7246 := Aside0.mk hy7246
           clear hy7246
           replace H := Option.bind_eq_some_iff.mp H
           obtain ⟨t7249, A170, H⟩ := H
           replace H : (if t7249 = 2 then ((elevator_Check.f k y7218).bind fun t7250 => (some (t7250 == 0))) else (some false)) = some r := H
           have A17 := Aside0.mk A170
           clear A170
           by_cases c18 : t7249 = 2
           ·rw [if_pos c18] at H
            have c18b0 : (t7249 == 2) = true := beq_iff_eq.mpr c18
            have c18b1 : (t7249 != 2) = false := bne_eq_false_iff_eq.mpr c18
            clear c18
            replace H := Option.bind_eq_some_iff.mp H
            obtain ⟨t7250, A190, H⟩ := H
            replace H : (some (t7250 == 0)) = some r := H
            have A19 := Aside0.mk A190
            clear A190
            obtain rfl := Option.some.inj H
            go_enter Try.func13, Try.ntmps13
            (try simp only [List.append_eq, List.cons_append, List.nil_append])
            try go_wp2_with (first | ((with_reducible refine HOpen.gate_append ?_); simp only [List.cons_append, List.nil_append]) | ((with_reducible refine gate_dst (N := 13) rfl ?_); (try (refine gate_guard (by rfl) ?_; dsimp only)); refine Kd.R_lit k37 _ 37 ?hg (N := 13) ?hd (xs := ([(⟨3, 1, 1⟩ : S37), (⟨7, 2, 2⟩ : S37), (⟨5, 2, 3⟩ : S37)] : List (S37))) (inner := [.int .i64 3, .int .i64 1, .int .i64 1, .int .i64 7, .int .i64 2, .int .i64 2, .int .i64 5, .int .i64 2, .int .i64 3]) (ok := fun _ => True) (okp := fun _ => True) ?hr ?hp (fun _ hk => hk) trivial (Below.refl _ _) (Nat.le_refl _) (by simp) ?_; (case hd => rfl); (case hg => rfl); (case hr => first | (go_simp; done) | (go_simp; rfl)); (case hp => exact (Reps.c3 (show Kd.M k37 _ _ _ (⟨3, 1, 1⟩ : S37) [.int .i64 3, .int .i64 1, .int .i64 1] from (k37_mkM _ _ _ (⟨3, 1, 1⟩ : S37) )) (Reps.c3 (show Kd.M k37 _ _ _ (⟨7, 2, 2⟩ : S37) [.int .i64 7, .int .i64 2, .int .i64 2] from (k37_mkM _ _ _ (⟨7, 2, 2⟩ : S37) )) (Reps.c3 (show Kd.M k37 _ _ _ (⟨5, 2, 3⟩ : S37) [.int .i64 5, .int .i64 2, .int .i64 3] from (k37_mkM _ _ _ (⟨5, 2, 3⟩ : S37) )) (Reps.none _ _))))); intro v7219 w20 ho21 hb hg_ hnew_; clear hg_ hnew_; (first | rw [← Ny7218.out] at ho21 | (simp only [Int.reduceToNat] at ho21; rw [← Ny7218.out] at ho21)); have n0_ := Aside0.mk (Kd.R_lower ho21 (below_size (by repeat (first | (with_reducible first | exact HB.out | apply below_alloc | apply pw_below_drewN | apply below_drew1) | exact HB.out)))); have n1_ := Aside0.mk (below_step (by repeat (first | (with_reducible first | exact HB.out | apply below_alloc | apply pw_below_drewN | apply below_drew1) | exact HB.out)) hb); clear HB; have HO7220 := n0_; have HB := n1_; clear n0_ n1_; clear hb ho21; obtain ⟨Ao22, co22, eo22⟩ := Kd.R_slice HO7220.out; subst eo22) | ((with_reducible refine gate_callee (f := 14) rfl ?_); refine goesL_ (some 16) rfl rfl Try.func14 (by kernel_rfl) rfl #[.int .i64 4, .slice Ao22 y7218.length co22] rfl (by (try simp only [List.map_toArray, List.map_cons, List.map_nil]); first | done | rfl | (simp only [List.length_drop, List.length_take]; rfl)) ?_; (with_reducible refine (elevator_Order.calls k 4 _ _ y7218 t7221 t7222 _ ?side1 ?side2 A1.out).mono ?_); (case side1 => repeat (first | exact (Kd.R_reads' HO7220.out).2.2 | (with_reducible refine Kd.C_alloc ?_ _) | (with_reducible refine Kd.C_drewN ?_ _) | (with_reducible refine Kd.C_drew ?_))); (case side2 => exact (Kd.R_reads' HO7220.out).2.1); rintro e w23 ⟨v7223, rfl, ho0, hb⟩; refine ⟨_, rfl, ?_⟩; have n0_ := Aside0.mk (Kd.R_elder' (by (with_reducible repeat (first | apply Kd.R_alloc | apply Kd.R_drewN | apply Kd.R_drew)); exact HO7220.out) (Kd.R_base ho0) hb); have n1_ := Aside0.mk (Kd.R_lower (Kd.R_new' ho0 (Kd.R_lt (by (with_reducible repeat (first | apply Kd.R_alloc | apply Kd.R_drewN | apply Kd.R_drew)); exact HO7220.out))) (below_size (by repeat (first | (with_reducible first | exact HB.out | apply below_alloc | apply pw_below_drewN | apply below_drew1) | exact HB.out)))); have n2_ := Aside0.mk (below_step (by repeat (first | (with_reducible first | exact HB.out | apply below_alloc | apply pw_below_drewN | apply below_drew1) | exact HB.out)) hb); clear HO7220; clear HB; have HO7220 := n0_; have HO7224 := n1_; have HB := n2_; clear n0_ n1_ n2_; (try clear hb); (try clear hb2); (try clear hk); (try clear hi); (try clear ho0); obtain ⟨Ao24, co24, eo24⟩ := Kd.R_slice HO7224.out; subst eo24) | ((with_reducible refine gate_callee (f := 16) rfl ?_); refine goesL_ (some 21) rfl rfl Try.func16 (by kernel_rfl) rfl #[.slice Ao24 t7221.length co24] rfl (by (try simp only [List.map_toArray, List.map_cons, List.map_nil]); first | done | rfl | (simp only [List.length_drop, List.length_take]; rfl)) ?_; (with_reducible refine (elevator_Runs.calls k _ _ t7221 t7225 t7226 _ ?side1 ?side2 A2.out).mono ?_); (case side1 => repeat (first | exact (Kd.R_reads' HO7224.out).2.2 | (with_reducible refine Kd.C_alloc ?_ _) | (with_reducible refine Kd.C_drewN ?_ _) | (with_reducible refine Kd.C_drew ?_))); (case side2 => exact (Kd.R_reads' HO7224.out).2.1); rintro e w25 ⟨v7227, rfl, ho0, hb⟩; refine ⟨_, rfl, ?_⟩; have n0_ := Aside0.mk (Kd.R_below (by (with_reducible repeat (first | apply Kd.R_alloc | apply Kd.R_drewN | apply Kd.R_drew)); exact HO7220.out) hb); have n1_ := Aside0.mk (Kd.R_below (by (with_reducible repeat (first | apply Kd.R_alloc | apply Kd.R_drewN | apply Kd.R_drew)); exact HO7224.out) hb); have n2_ := Aside0.mk (Kd.R_lower ho0 (below_size (by repeat (first | (with_reducible first | exact HB.out | apply below_alloc | apply pw_below_drewN | apply below_drew1) | exact HB.out)))); have n3_ := Aside0.mk (below_step (by repeat (first | (with_reducible first | exact HB.out | apply below_alloc | apply pw_below_drewN | apply below_drew1) | exact HB.out)) hb); clear HO7220; clear HO7224; clear HB; have HO7220 := n0_; have HO7224 := n1_; have HO7228 := n2_; have HB := n3_; clear n0_ n1_ n2_ n3_; (try clear hb); (try clear hb2); (try clear hk); (try clear hi); (try clear ho0)) | ((with_reducible refine gate_callee (f := 18) rfl ?_); refine goesL_ (some 26) rfl rfl Try.func18 (by kernel_rfl) rfl #[.int .i64 4, .slice Ao24 t7221.length co24] rfl (by (try simp only [List.map_toArray, List.map_cons, List.map_nil]); first | done | rfl | (simp only [List.length_drop, List.length_take]; rfl)) ?_; (with_reducible refine (elevator_Way.calls k 4 _ _ t7221 t7229 t7230 _ ?side1 ?side2 A3.out).mono ?_); (case side1 => repeat (first | exact (Kd.R_reads' HO7224.out).2.2 | (with_reducible refine Kd.C_alloc ?_ _) | (with_reducible refine Kd.C_drewN ?_ _) | (with_reducible refine Kd.C_drew ?_))); (case side2 => exact (Kd.R_reads' HO7224.out).2.1); rintro e w26 ⟨rfl, hb⟩; refine ⟨_, rfl, ?_⟩; have n0_ := Aside0.mk (Kd.R_below (by (with_reducible repeat (first | apply Kd.R_alloc | apply Kd.R_drewN | apply Kd.R_drew)); exact HO7220.out) hb); have n1_ := Aside0.mk (Kd.R_below (by (with_reducible repeat (first | apply Kd.R_alloc | apply Kd.R_drewN | apply Kd.R_drew)); exact HO7224.out) hb); have n2_ := Aside0.mk (Kd.R_below (by (with_reducible repeat (first | apply Kd.R_alloc | apply Kd.R_drewN | apply Kd.R_drew)); exact HO7228.out) hb); have n3_ := Aside0.mk (below_step (by repeat (first | (with_reducible first | exact HB.out | apply below_alloc | apply pw_below_drewN | apply below_drew1) | exact HB.out)) hb); clear HO7220; clear HO7224; clear HO7228; clear HB; have HO7220 := n0_; have HO7224 := n1_; have HO7228 := n2_; have HB := n3_; clear n0_ n1_ n2_ n3_; (try clear hb); (try clear hb2); (try clear hk); (try clear hi)) | ((with_reducible refine gate_callee (f := 14) rfl ?_); refine goesL_ (some 31) rfl rfl Try.func14 (by kernel_rfl) rfl #[.int .i64 (-1), .slice Ao22 y7218.length co22] rfl (by (try simp only [List.map_toArray, List.map_cons, List.map_nil]); first | done | rfl | (simp only [List.length_drop, List.length_take]; rfl)) ?_; (with_reducible refine (elevator_Order.calls k (-1) _ _ y7218 t7231 t7232 _ ?side1 ?side2 A4.out).mono ?_); (case side1 => repeat (first | exact (Kd.R_reads' HO7220.out).2.2 | (with_reducible refine Kd.C_alloc ?_ _) | (with_reducible refine Kd.C_drewN ?_ _) | (with_reducible refine Kd.C_drew ?_))); (case side2 => exact (Kd.R_reads' HO7220.out).2.1); rintro e w27 ⟨v7233, rfl, ho0, hb⟩; refine ⟨_, rfl, ?_⟩; have n0_ := Aside0.mk (Kd.R_elder' (by (with_reducible repeat (first | apply Kd.R_alloc | apply Kd.R_drewN | apply Kd.R_drew)); exact HO7220.out) (Kd.R_base ho0) hb); have n1_ := Aside0.mk (Kd.R_elder' (by (with_reducible repeat (first | apply Kd.R_alloc | apply Kd.R_drewN | apply Kd.R_drew)); exact HO7224.out) (Kd.R_base ho0) hb); have n2_ := Aside0.mk (Kd.R_below (by (with_reducible repeat (first | apply Kd.R_alloc | apply Kd.R_drewN | apply Kd.R_drew)); exact HO7228.out) hb); have n3_ := Aside0.mk (Kd.R_lower (Kd.R_new' (Kd.R_new' ho0 (Kd.R_lt (by (with_reducible repeat (first | apply Kd.R_alloc | apply Kd.R_drewN | apply Kd.R_drew)); exact HO7220.out))) (Kd.R_lt (by (with_reducible repeat (first | apply Kd.R_alloc | apply Kd.R_drewN | apply Kd.R_drew)); exact HO7224.out))) (below_size (by repeat (first | (with_reducible first | exact HB.out | apply below_alloc | apply pw_below_drewN | apply below_drew1) | exact HB.out)))); have n4_ := Aside0.mk (below_step (by repeat (first | (with_reducible first | exact HB.out | apply below_alloc | apply pw_below_drewN | apply below_drew1) | exact HB.out)) hb); clear HO7220; clear HO7224; clear HO7228; clear HB; have HO7220 := n0_; have HO7224 := n1_; have HO7228 := n2_; have HO7234 := n3_; have HB := n4_; clear n0_ n1_ n2_ n3_ n4_; (try clear hb); (try clear hb2); (try clear hk); (try clear hi); (try clear ho0)))
            have n0_ := Aside0.mk (Kd.R_drew HO7220.out)
            have n1_ := Aside0.mk (Kd.R_drew HO7224.out)
            have n2_ := Aside0.mk (Kd.R_drew HO7228.out)
            have n3_ := Aside0.mk (Kd.R_drew HO7234.out)
            have n4_ := Aside0.mk (below_drew1 HB.out)
            clear HO7220
            clear HO7224
            clear HO7228
            clear HO7234
            clear HB
            have HO7220 := n0_
            have HO7224 := n1_
            have HO7228 := n2_
            have HO7234 := n3_
            have HB := n4_
            clear n0_ n1_ n2_ n3_ n4_
            have p7235 : 0 ≤ (2 : Int) := (by omega)
            have q7235 : 2 < (y7218.length : Int) := of_decide_eq_true (by first | (with_reducible assumption) | assumption)
            obtain ⟨ad7235, e7235, hx7235_0, hx7235_1, hx7235_2⟩ := at_T37 (Kd.R_reads' HO7220.out).2.2 2 p7235 q7235
            cases e7235
            (try simp only [show (2 : Int).toNat = 2 from rfl, Nat.reduceMul, Nat.reduceEqDiff, Go.Addr.add, ↓reduceIte] at hx7235_0)
            (try simp only [show (2 : Int).toNat = 2 from rfl, Nat.reduceMul, Nat.reduceEqDiff, Go.Addr.add, ↓reduceIte] at hx7235_1)
            (try simp only [show (2 : Int).toNat = 2 from rfl, Nat.reduceMul, Nat.reduceEqDiff, Go.Addr.add, ↓reduceIte] at hx7235_2)
            have qi7235 : (2 < y7218.length) = True := eq_true (by omega)
            (try rw [show ((2 : Int)).toNat = 2 from rfl] at hx7235_0)
            (try rw [show 2 * 3 = 6 from rfl] at hx7235_0)
            (try rw [show ((2 : Int)).toNat = 2 from rfl] at hx7235_1)
            (try rw [show 2 * 3 = 6 from rfl] at hx7235_1)
            (try rw [show ((2 : Int)).toNat = 2 from rfl] at hx7235_2)
            (try rw [show 2 * 3 = 6 from rfl] at hx7235_2)
            replace p7235 := eq_true p7235
            replace q7235 := eq_true q7235
            have p7236 : 0 ≤ (1 : Int) := (by omega)
            have q7236 : 1 < (y7218.length : Int) := of_decide_eq_true (by first | (with_reducible assumption) | assumption)
            obtain ⟨ad7236, e7236, hx7236_0, hx7236_1, hx7236_2⟩ := at_T37 (Kd.R_reads' HO7220.out).2.2 1 p7236 q7236
            obtain rfl : ad7235 = ad7236 := (by injection e7236)
            (try simp only [show (1 : Int).toNat = 1 from rfl, Nat.reduceMul, Nat.reduceEqDiff, Go.Addr.add, ↓reduceIte] at hx7236_0)
            (try simp only [show (1 : Int).toNat = 1 from rfl, Nat.reduceMul, Nat.reduceEqDiff, Go.Addr.add, ↓reduceIte] at hx7236_1)
            (try simp only [show (1 : Int).toNat = 1 from rfl, Nat.reduceMul, Nat.reduceEqDiff, Go.Addr.add, ↓reduceIte] at hx7236_2)
            have qi7236 : (1 < y7218.length) = True := eq_true (by omega)
            (try rw [show ((1 : Int)).toNat = 1 from rfl] at hx7236_0)
            (try rw [show 1 * 3 = 3 from rfl] at hx7236_0)
            (try rw [show ((1 : Int)).toNat = 1 from rfl] at hx7236_1)
            (try rw [show 1 * 3 = 3 from rfl] at hx7236_1)
            (try rw [show ((1 : Int)).toNat = 1 from rfl] at hx7236_2)
            (try rw [show 1 * 3 = 3 from rfl] at hx7236_2)
            replace p7236 := eq_true p7236
            replace q7236 := eq_true q7236
            have p7237 : 0 ≤ (0 : Int) := (by omega)
            have q7237 : 0 < (y7218.length : Int) := of_decide_eq_true (by first | (with_reducible assumption) | assumption)
            obtain ⟨ad7237, e7237, hx7237_0, hx7237_1, hx7237_2⟩ := at_T37 (Kd.R_reads' HO7220.out).2.2 0 p7237 q7237
            obtain rfl : ad7235 = ad7237 := (by injection e7237)
            have qi7237 : (0 < y7218.length) = True := eq_true (by omega)
            (try rw [show ((0 : Int)).toNat = 0 from rfl] at hx7237_0)
            (try rw [show 0 * 3 = 0 from rfl] at hx7237_0)
            (try rw [Addr.add_zero'] at hx7237_0)
            (try rw [show ((0 : Int)).toNat = 0 from rfl] at hx7237_1)
            (try rw [show 0 * 3 = 0 from rfl] at hx7237_1)
            (try rw [Addr.add_zero'] at hx7237_1)
            (try rw [show ((0 : Int)).toNat = 0 from rfl] at hx7237_2)
            (try rw [show 0 * 3 = 0 from rfl] at hx7237_2)
            (try rw [Addr.add_zero'] at hx7237_2)
            replace p7237 := eq_true p7237
            replace q7237 := eq_true q7237
            refine start_ (n := 51) (S := fun w' => w'.cell? ⟨ad7235.block, ad7235.off + 6, none⟩ = some (.int .i64 ((rd_T37 y7218 2).f0)) ∧ w'.cell? ⟨ad7235.block, ad7235.off + 6 + 1, none⟩ = some (.int .i64 ((rd_T37 y7218 2).f1)) ∧ w'.cell? ⟨ad7235.block, ad7235.off + 6 + 2, none⟩ = some (.int .i64 ((rd_T37 y7218 2).f2)) ∧ w'.cell? ⟨ad7235.block, ad7235.off + 3, none⟩ = some (.int .i64 ((rd_T37 y7218 1).f0)) ∧ w'.cell? ⟨ad7235.block, ad7235.off + 3 + 1, none⟩ = some (.int .i64 ((rd_T37 y7218 1).f1)) ∧ w'.cell? ⟨ad7235.block, ad7235.off + 3 + 2, none⟩ = some (.int .i64 ((rd_T37 y7218 1).f2)) ∧ w'.cell? ad7235 = some (.int .i64 ((rd_T37 y7218 0).f0)) ∧ w'.cell? ⟨ad7235.block, ad7235.off + 1, none⟩ = some (.int .i64 ((rd_T37 y7218 0).f1)) ∧ w'.cell? ⟨ad7235.block, ad7235.off + 2, none⟩ = some (.int .i64 ((rd_T37 y7218 0).f2))) (ds := []) #[false, false, false, false, false, false, false, false, false, false, false, false, false, false, false, false, false, false, false, false, false, false, false, false, false, false, false, false, false, false, false, false, false, false, false, false, false, false, false, false, false, false, false, false, false, false, false, false, false, false, false] (by kernel_rfl) rfl rfl ⟨hx7235_0, hx7235_1, hx7235_2, hx7236_0, hx7236_1, hx7236_2, hx7237_0, hx7237_1, hx7237_2⟩ (fun hHeld => ?_); refine with_tabW caulklaw40_lives_t.tab6 caulklaw40_lives_t.bits6 (fun HT_ HW_ => ?_)
            generalize w27.drew = w28 at HO7220 HO7224 HO7228 HO7234 HB hx7235_0 hx7235_1 hx7235_2 hx7236_0 hx7236_1 hx7236_2 hx7237_0 hx7237_1 hx7237_2 hHeld ⊢
            refine pure_ (i := 0) (N := some 34) (v := ?_) (a' := ?_) #[true, false, false, false, false, false, false, false, false, false, false, false, false, false, false, false, false, false, false, false, false, false, false, false, false, false, false, false, false, false, false, false, false, false, false, false, false, false, false, false, false, false, false, false, false, false, false, false, false, false, false] rfl rfl (any_of HT_.out (by kernel_rfl)) (fun _ _ _ h => h) (Or.inl ⟨by rfl, ?_⟩) ?_ ?_
            rotate_left
            ·intro w'
             go_simp
             with_reducible rfl
            rotate_left
            ·simp only [Act.put, List.setIfInBounds_toArray, List.set_cons_zero, List.set_cons_succ, i64_w, i32_w]
             rfl
            refine pure_ (i := 1) (N := some 35) (v := ?_) (a' := ?_) #[true, true, false, false, false, false, false, false, false, false, false, false, false, false, false, false, false, false, false, false, false, false, false, false, false, false, false, false, false, false, false, false, false, false, false, false, false, false, false, false, false, false, false, false, false, false, false, false, false, false, false] rfl rfl (any_of HT_.out (by kernel_rfl)) (fun _ _ _ h => h) (Or.inl ⟨by rfl, ?_⟩) ?_ ?_
            rotate_left
            ·intro w'
             go_simp
             with_reducible rfl
            rotate_left
            ·simp only [Act.put, List.setIfInBounds_toArray, List.set_cons_zero, List.set_cons_succ, i64_w, i32_w]
             rfl
            refine pure_ (i := 2) (N := some 36) (v := ?_) (a' := ?_) #[true, true, true, false, false, false, false, false, false, false, false, false, false, false, false, false, false, false, false, false, false, false, false, false, false, false, false, false, false, false, false, false, false, false, false, false, false, false, false, false, false, false, false, false, false, false, false, false, false, false, false] rfl rfl (any_of HT_.out (by kernel_rfl)) (fun _ _ _ h => h) (Or.inl ⟨by rfl, ?_⟩) ?_ ?_
            rotate_left
            ·intro w'
             go_simp
             with_reducible rfl
            rotate_left
            ·simp only [Act.put, List.setIfInBounds_toArray, List.set_cons_zero, List.set_cons_succ, i64_w, i32_w]
             rfl
            refine pure_ (i := 4) (N := some 38) (v := ?_) (a' := ?_) #[true, true, true, false, true, false, false, false, false, false, false, false, false, false, false, false, false, false, false, false, false, false, false, false, false, false, false, false, false, false, false, false, false, false, false, false, false, false, false, false, false, false, false, false, false, false, false, false, false, false, false] rfl rfl (any_of HT_.out (by kernel_rfl)) (fun _ _ _ h => h) (Or.inl ⟨by rfl, ?_⟩) ?_ ?_
            rotate_left
            ·intro w'
             go_simp
             with_reducible rfl
            rotate_left
            ·simp only [Act.put, List.setIfInBounds_toArray, List.set_cons_zero, List.set_cons_succ, i64_w, i32_w]
             rfl
            refine pure_ (i := 5) (N := some 39) (v := ?_) (a' := ?_) #[true, true, true, false, true, true, false, false, false, false, false, false, false, false, false, false, false, false, false, false, false, false, false, false, false, false, false, false, false, false, false, false, false, false, false, false, false, false, false, false, false, false, false, false, false, false, false, false, false, false, false] rfl rfl (any_of HT_.out (by kernel_rfl)) (fun _ _ _ h => h) (Or.inl ⟨by rfl, ?_⟩) ?_ ?_
            rotate_left
            ·intro w'
             go_simp
             with_reducible rfl
            rotate_left
            ·simp only [Act.put, List.setIfInBounds_toArray, List.set_cons_zero, List.set_cons_succ, i64_w, i32_w]
             rfl
            refine pure_ (i := 7) (N := some 41) (v := ?_) (a' := ?_) #[true, true, true, false, true, true, false, true, false, false, false, false, false, false, false, false, false, false, false, false, false, false, false, false, false, false, false, false, false, false, false, false, false, false, false, false, false, false, false, false, false, false, false, false, false, false, false, false, false, false, false] rfl rfl (any_of HT_.out (by kernel_rfl)) (fun _ _ _ h => h) (Or.inl ⟨by rfl, ?_⟩) ?_ ?_
            rotate_left
            ·intro w'
             go_simp
             with_reducible rfl
            rotate_left
            ·simp only [Act.put, List.setIfInBounds_toArray, List.set_cons_zero, List.set_cons_succ, i64_w, i32_w]
             rfl
            refine pure_ (i := 8) (N := some 42) (v := ?_) (a' := ?_) #[true, true, true, false, true, true, false, true, true, false, false, false, false, false, false, false, false, false, false, false, false, false, false, false, false, false, false, false, false, false, false, false, false, false, false, false, false, false, false, false, false, false, false, false, false, false, false, false, false, false, false] rfl rfl (any_of HT_.out (by kernel_rfl)) (fun _ _ _ h => h) (Or.inl ⟨by rfl, ?_⟩) ?_ ?_
            rotate_left
            ·intro w'
             go_simp
             with_reducible rfl
            rotate_left
            ·simp only [Act.put, List.setIfInBounds_toArray, List.set_cons_zero, List.set_cons_succ, i64_w, i32_w]
             rfl
            refine take_ (i := 3) (N := some 37) (v := ?_) (a' := ?_) #[true, true, true, true, true, true, false, true, true, false, false, false, false, false, false, false, false, false, false, false, false, false, false, false, false, false, false, false, false, false, false, false, false, false, false, false, false, false, false, false, false, false, false, false, false, false, false, false, false, false, false] rfl rfl (take_ofW HT_.out HW_.out (by kernel_rfl)) (fun _ _ _ h => h) (Or.inl ⟨by rfl, ?_⟩) hHeld ?_ ?_
            rotate_left
            ·rintro w' ⟨s0, s1, s2, s3, s4, s5, s6, s7, s8⟩
             go_simp
             with_reducible rfl
            rotate_left
            ·simp only [Act.put, List.setIfInBounds_toArray, List.set_cons_zero, List.set_cons_succ, i64_w, i32_w]
             rfl
            refine take_ (i := 6) (N := some 40) (v := ?_) (a' := ?_) #[true, true, true, true, true, true, true, true, true, false, false, false, false, false, false, false, false, false, false, false, false, false, false, false, false, false, false, false, false, false, false, false, false, false, false, false, false, false, false, false, false, false, false, false, false, false, false, false, false, false, false] rfl rfl (take_ofW HT_.out HW_.out (by kernel_rfl)) (fun _ _ _ h => h) (Or.inl ⟨by rfl, ?_⟩) hHeld ?_ ?_
            rotate_left
            ·rintro w' ⟨s0, s1, s2, s3, s4, s5, s6, s7, s8⟩
             go_simp
             with_reducible rfl
            rotate_left
            ·simp only [Act.put, List.setIfInBounds_toArray, List.set_cons_zero, List.set_cons_succ, i64_w, i32_w]
             rfl
            refine take_ (i := 9) (N := some 43) (v := ?_) (a' := ?_) #[true, true, true, true, true, true, true, true, true, true, false, false, false, false, false, false, false, false, false, false, false, false, false, false, false, false, false, false, false, false, false, false, false, false, false, false, false, false, false, false, false, false, false, false, false, false, false, false, false, false, false] rfl rfl (take_ofW HT_.out HW_.out (by kernel_rfl)) (fun _ _ _ h => h) (Or.inl ⟨by rfl, ?_⟩) hHeld ?_ ?_
            rotate_left
            ·rintro w' ⟨s0, s1, s2, s3, s4, s5, s6, s7, s8⟩
             go_simp
             with_reducible rfl
            rotate_left
            ·simp only [Act.put, List.setIfInBounds_toArray, List.set_cons_zero, List.set_cons_succ, i64_w, i32_w]
             rfl
            refine one_ (i := 10) (N := some 44) #[true, true, true, true, true, true, true, true, true, true, true, false, false, false, false, false, false, false, false, false, false, false, false, false, false, false, false, false, false, false, false, false, false, false, false, false, false, false, false, false, false, false, false, false, false, false, false, false, false, false, false] rfl rfl (one_of HT_.out (by kernel_rfl)) (by decide) (fun K hK => ?_)
            refine Kd.R_lit_step k37 _ 37 ?hg (N := 44) ?hd (xs := ([(⟨(rd_T37 y7218 2).f0, (rd_T37 y7218 2).f1, (rd_T37 y7218 2).f2⟩ : S37), (⟨(rd_T37 y7218 1).f0, (rd_T37 y7218 1).f1, (rd_T37 y7218 1).f2⟩ : S37), (⟨(rd_T37 y7218 0).f0, (rd_T37 y7218 0).f1, (rd_T37 y7218 0).f2⟩ : S37)] : List (S37))) (inner := [.int .i64 ((rd_T37 y7218 2).f0), .int .i64 ((rd_T37 y7218 2).f1), .int .i64 ((rd_T37 y7218 2).f2), .int .i64 ((rd_T37 y7218 1).f0), .int .i64 ((rd_T37 y7218 1).f1), .int .i64 ((rd_T37 y7218 1).f2), .int .i64 ((rd_T37 y7218 0).f0), .int .i64 ((rd_T37 y7218 0).f1), .int .i64 ((rd_T37 y7218 0).f2)]) (ok := fun _ => True) (okp := fun _ => True) ?hr ?hp (fun _ hk => hk) trivial (Below.refl _ _) (Nat.le_refl _) (by simp) ?_; (case hd => rfl); (case hg => rfl); (case hr => first | (go_simp; done) | (go_simp; rfl)); (case hp => exact (Reps.c3 (show Kd.M k37 _ _ _ (⟨(rd_T37 y7218 2).f0, (rd_T37 y7218 2).f1, (rd_T37 y7218 2).f2⟩ : S37) [.int .i64 ((rd_T37 y7218 2).f0), .int .i64 ((rd_T37 y7218 2).f1), .int .i64 ((rd_T37 y7218 2).f2)] from (k37_mkM _ _ _ (⟨(rd_T37 y7218 2).f0, (rd_T37 y7218 2).f1, (rd_T37 y7218 2).f2⟩ : S37) )) (Reps.c3 (show Kd.M k37 _ _ _ (⟨(rd_T37 y7218 1).f0, (rd_T37 y7218 1).f1, (rd_T37 y7218 1).f2⟩ : S37) [.int .i64 ((rd_T37 y7218 1).f0), .int .i64 ((rd_T37 y7218 1).f1), .int .i64 ((rd_T37 y7218 1).f2)] from (k37_mkM _ _ _ (⟨(rd_T37 y7218 1).f0, (rd_T37 y7218 1).f1, (rd_T37 y7218 1).f2⟩ : S37) )) (Reps.c3 (show Kd.M k37 _ _ _ (⟨(rd_T37 y7218 0).f0, (rd_T37 y7218 0).f1, (rd_T37 y7218 0).f2⟩ : S37) [.int .i64 ((rd_T37 y7218 0).f0), .int .i64 ((rd_T37 y7218 0).f1), .int .i64 ((rd_T37 y7218 0).f2)] from (k37_mkM _ _ _ (⟨(rd_T37 y7218 0).f0, (rd_T37 y7218 0).f1, (rd_T37 y7218 0).f2⟩ : S37) )) (Reps.none _ _)))))
            intro v7239 w29 ho30 hb hg_ hnew_
            have HS0_ := (hb.cell (World.block_lt_of_cell? _ _ (hHeld.1))).trans (hHeld.1)
            have HS1_ := (hb.cell (World.block_lt_of_cell? _ _ (hHeld.2.1))).trans (hHeld.2.1)
            have HS2_ := (hb.cell (World.block_lt_of_cell? _ _ (hHeld.2.2.1))).trans (hHeld.2.2.1)
            have HS3_ := (hb.cell (World.block_lt_of_cell? _ _ (hHeld.2.2.2.1))).trans (hHeld.2.2.2.1)
            have HS4_ := (hb.cell (World.block_lt_of_cell? _ _ (hHeld.2.2.2.2.1))).trans (hHeld.2.2.2.2.1)
            have HS5_ := (hb.cell (World.block_lt_of_cell? _ _ (hHeld.2.2.2.2.2.1))).trans (hHeld.2.2.2.2.2.1)
            have HS6_ := (hb.cell (World.block_lt_of_cell? _ _ (hHeld.2.2.2.2.2.2.1))).trans (hHeld.2.2.2.2.2.2.1)
            have HS7_ := (hb.cell (World.block_lt_of_cell? _ _ (hHeld.2.2.2.2.2.2.2.1))).trans (hHeld.2.2.2.2.2.2.2.1)
            have HS8_ := (hb.cell (World.block_lt_of_cell? _ _ (hHeld.2.2.2.2.2.2.2.2))).trans (hHeld.2.2.2.2.2.2.2.2)
            clear hg_ hnew_
            (first | rw [← Ny7238.out] at ho30 | (simp only [Int.reduceToNat] at ho30; rw [← Ny7238.out] at ho30))
            have n0_ := Aside0.mk (Kd.R_elder' (by (with_reducible repeat (first | apply Kd.R_alloc | apply Kd.R_drewN | apply Kd.R_drew)); exact HO7220.out) (Kd.R_base ho30) hb)
            have n1_ := Aside0.mk (Kd.R_elder' (by (with_reducible repeat (first | apply Kd.R_alloc | apply Kd.R_drewN | apply Kd.R_drew)); exact HO7224.out) (Kd.R_base ho30) hb)
            have n2_ := Aside0.mk (Kd.R_below (by (with_reducible repeat (first | apply Kd.R_alloc | apply Kd.R_drewN | apply Kd.R_drew)); exact HO7228.out) hb)
            have n3_ := Aside0.mk (Kd.R_elder' (by (with_reducible repeat (first | apply Kd.R_alloc | apply Kd.R_drewN | apply Kd.R_drew)); exact HO7234.out) (Kd.R_base ho30) hb)
            have n4_ := Aside0.mk (Kd.R_lower (Kd.R_new' (Kd.R_new' (Kd.R_new' ho30 (Kd.R_lt (by (with_reducible repeat (first | apply Kd.R_alloc | apply Kd.R_drewN | apply Kd.R_drew)); exact HO7220.out))) (Kd.R_lt (by (with_reducible repeat (first | apply Kd.R_alloc | apply Kd.R_drewN | apply Kd.R_drew)); exact HO7224.out))) (Kd.R_lt (by (with_reducible repeat (first | apply Kd.R_alloc | apply Kd.R_drewN | apply Kd.R_drew)); exact HO7234.out))) (below_size (by repeat (first | (with_reducible first | exact HB.out | apply below_alloc | apply pw_below_drewN | apply below_drew1) | exact HB.out))))
            have n5_ := Aside0.mk (below_step (by repeat (first | (with_reducible first | exact HB.out | apply below_alloc | apply pw_below_drewN | apply below_drew1) | exact HB.out)) hb)
            clear HO7220
            clear HO7224
            clear HO7228
            clear HO7234
            clear HB
            have HO7220 := n0_
            have HO7224 := n1_
            have HO7228 := n2_
            have HO7234 := n3_
            have HO7240 := n4_
            have HB := n5_
            clear n0_ n1_ n2_ n3_ n4_ n5_
            clear hb ho30
            obtain ⟨Ao31, co31, eo31⟩ := Kd.R_slice HO7240.out
            (first | subst eo31 | (injection eo31 with f1_ f2_ f3_; have f4_ := f1_.symm; have f5_ := f3_.symm; clear f1_ f2_ f3_; subst f4_; subst f5_))
            refine hK.out _ _ ⟨HS0_, HS1_, HS2_, HS3_, HS4_, HS5_, HS6_, HS7_, HS8_⟩ (fun hHeld => ?_)
            clear hK K
            refine norm_ (a' := ?_) ?_ ?_
            rotate_left
            ·show Act.put _ (some 44) _ = _
             simp only [Act.put, List.setIfInBounds_toArray, List.set_cons_zero, List.set_cons_succ, i64_w, i32_w]
             rfl
            refine one_ (i := 11) (N := some 45) #[true, true, true, true, true, true, true, true, true, true, true, true, false, false, false, false, false, false, false, false, false, false, false, false, false, false, false, false, false, false, false, false, false, false, false, false, false, false, false, false, false, false, false, false, false, false, false, false, false, false, false] rfl rfl (one_of HT_.out (by kernel_rfl)) (by decide) (fun K hK => ?_)
            refine goes_ Try.func22 (by kernel_rfl) rfl #[.slice Ao24 t7221.length co24, .slice Ao31 y7238.length co31] (by rfl) rfl rfl (by (try simp only [List.map_toArray, List.map_cons, List.map_nil]); first | done | rfl | (simp only [List.length_drop, List.length_take]; rfl)) ?_
            with_reducible refine (caulkref40_Same.calls k _ _ t7221 _ _ y7238 true _ ?side1 ?side2 ?side3 ?side4 A8.out).mono ?_
            (case side1 => repeat (first | exact (Kd.R_reads' HO7224.out).2.2 | (with_reducible refine Kd.C_alloc ?_ _) | (with_reducible refine Kd.C_drewN ?_ _) | (with_reducible refine Kd.C_drew ?_)))
            (case side2 => exact (Kd.R_reads' HO7224.out).2.1)
            (case side3 => repeat (first | exact (Kd.R_reads' HO7240.out).2.2 | (with_reducible refine Kd.C_alloc ?_ _) | (with_reducible refine Kd.C_drewN ?_ _) | (with_reducible refine Kd.C_drew ?_)))
            (case side4 => exact (Kd.R_reads' HO7240.out).2.1)
            rintro e w' ⟨rfl, ⟨nd, rfl⟩⟩
            refine ⟨_, rfl, ?_⟩
            refine hK.out _ _ ⟨hHeld.1, hHeld.2.1, hHeld.2.2.1, hHeld.2.2.2.1, hHeld.2.2.2.2.1, hHeld.2.2.2.2.2.1, hHeld.2.2.2.2.2.2.1, hHeld.2.2.2.2.2.2.2.1, hHeld.2.2.2.2.2.2.2.2⟩ (fun hHeld => ?_)
            clear hK K
            refine norm_ (a' := ?_) ?_ ?_
            rotate_left
            ·show Act.put _ (some 45) _ = _
             simp only [Act.put, List.setIfInBounds_toArray, List.set_cons_zero, List.set_cons_succ, i64_w, i32_w]
             rfl
            refine pure_ (i := 12) (N := some 46) (v := ?_) (a' := ?_) #[true, true, true, true, true, true, true, true, true, true, true, true, true, false, false, false, false, false, false, false, false, false, false, false, false, false, false, false, false, false, false, false, false, false, false, false, false, false, false, false, false, false, false, false, false, false, false, false, false, false, false] rfl rfl (any_of HT_.out (by kernel_rfl)) (fun _ _ _ h => h) (Or.inl ⟨by rfl, ?_⟩) ?_ ?_
            rotate_left
            ·intro w'
             go_simp
             with_reducible rfl
            rotate_left
            ·simp only [Act.put, List.setIfInBounds_toArray, List.set_cons_zero, List.set_cons_succ, i64_w, i32_w]
             rfl
            refine pure_ (i := 13) (N := some 47) (v := ?_) (a' := ?_) #[true, true, true, true, true, true, true, true, true, true, true, true, true, true, false, false, false, false, false, false, false, false, false, false, false, false, false, false, false, false, false, false, false, false, false, false, false, false, false, false, false, false, false, false, false, false, false, false, false, false, false] rfl rfl (any_of HT_.out (by kernel_rfl)) (fun _ _ _ h => h) (Or.inl ⟨by rfl, ?_⟩) ?_ ?_
            rotate_left
            ·intro w'
             go_simp
             with_reducible rfl
            rotate_left
            ·simp only [Act.put, List.setIfInBounds_toArray, List.set_cons_zero, List.set_cons_succ, i64_w, i32_w]
             rfl
            refine pure_ (i := 14) (N := some 48) (v := ?_) (a' := ?_) #[true, true, true, true, true, true, true, true, true, true, true, true, true, true, true, false, false, false, false, false, false, false, false, false, false, false, false, false, false, false, false, false, false, false, false, false, false, false, false, false, false, false, false, false, false, false, false, false, false, false, false] rfl rfl (any_of HT_.out (by kernel_rfl)) (fun _ _ _ h => h) (Or.inl ⟨by rfl, ?_⟩) ?_ ?_
            rotate_left
            ·intro w'
             go_simp
             with_reducible rfl
            rotate_left
            ·simp only [Act.put, List.setIfInBounds_toArray, List.set_cons_zero, List.set_cons_succ, i64_w, i32_w]
             rfl
            refine pure_ (i := 15) (N := some 49) (v := ?_) (a' := ?_) #[true, true, true, true, true, true, true, true, true, true, true, true, true, true, true, true, false, false, false, false, false, false, false, false, false, false, false, false, false, false, false, false, false, false, false, false, false, false, false, false, false, false, false, false, false, false, false, false, false, false, false] rfl rfl (any_of HT_.out (by kernel_rfl)) (fun _ _ _ h => h) (Or.inl ⟨by rfl, ?_⟩) ?_ ?_
            rotate_left
            ·intro w'
             go_simp
             with_reducible rfl
            rotate_left
            ·simp only [Act.put, List.setIfInBounds_toArray, List.set_cons_zero, List.set_cons_succ, i64_w, i32_w]
             rfl
            refine pure_ (i := 16) (N := some 50) (v := ?_) (a' := ?_) #[true, true, true, true, true, true, true, true, true, true, true, true, true, true, true, true, true, false, false, false, false, false, false, false, false, false, false, false, false, false, false, false, false, false, false, false, false, false, false, false, false, false, false, false, false, false, false, false, false, false, false] rfl rfl (any_of HT_.out (by kernel_rfl)) (fun _ _ _ h => h) (Or.inl ⟨by rfl, ?_⟩) ?_ ?_
            rotate_left
            ·intro w'
             go_simp
             with_reducible rfl
            rotate_left
            ·simp only [Act.put, List.setIfInBounds_toArray, List.set_cons_zero, List.set_cons_succ, i64_w, i32_w]
             rfl
            refine pure_ (i := 17) (N := some 51) (v := ?_) (a' := ?_) #[true, true, true, true, true, true, true, true, true, true, true, true, true, true, true, true, true, true, false, false, false, false, false, false, false, false, false, false, false, false, false, false, false, false, false, false, false, false, false, false, false, false, false, false, false, false, false, false, false, false, false] rfl rfl (any_of HT_.out (by kernel_rfl)) (fun _ _ _ h => h) (Or.inl ⟨by rfl, ?_⟩) ?_ ?_
            rotate_left
            ·intro w'
             go_simp
             with_reducible rfl
            rotate_left
            ·simp only [Act.put, List.setIfInBounds_toArray, List.set_cons_zero, List.set_cons_succ, i64_w, i32_w]
             rfl
            refine pure_ (i := 18) (N := some 52) (v := ?_) (a' := ?_) #[true, true, true, true, true, true, true, true, true, true, true, true, true, true, true, true, true, true, true, false, false, false, false, false, false, false, false, false, false, false, false, false, false, false, false, false, false, false, false, false, false, false, false, false, false, false, false, false, false, false, false] rfl rfl (any_of HT_.out (by kernel_rfl)) (fun _ _ _ h => h) (Or.inl ⟨by rfl, ?_⟩) ?_ ?_
            rotate_left
            ·intro w'
             go_simp
             with_reducible rfl
            rotate_left
            ·simp only [Act.put, List.setIfInBounds_toArray, List.set_cons_zero, List.set_cons_succ, i64_w, i32_w]
             rfl
            refine pure_ (i := 19) (N := some 53) (v := ?_) (a' := ?_) #[true, true, true, true, true, true, true, true, true, true, true, true, true, true, true, true, true, true, true, true, false, false, false, false, false, false, false, false, false, false, false, false, false, false, false, false, false, false, false, false, false, false, false, false, false, false, false, false, false, false, false] rfl rfl (any_of HT_.out (by kernel_rfl)) (fun _ _ _ h => h) (Or.inl ⟨by rfl, ?_⟩) ?_ ?_
            rotate_left
            ·intro w'
             go_simp
             with_reducible rfl
            rotate_left
            ·simp only [Act.put, List.setIfInBounds_toArray, List.set_cons_zero, List.set_cons_succ, i64_w, i32_w]
             rfl
            refine one_ (i := 20) (N := some 54) #[true, true, true, true, true, true, true, true, true, true, true, true, true, true, true, true, true, true, true, true, true, false, false, false, false, false, false, false, false, false, false, false, false, false, false, false, false, false, false, false, false, false, false, false, false, false, false, false, false, false, false] rfl rfl (one_of HT_.out (by kernel_rfl)) (by decide) (fun K hK => ?_)
            refine Kd.R_lit_step k39 _ 39 ?hg (N := 54) ?hd (xs := ([(⟨5, 9⟩ : S39), (⟨3, 4⟩ : S39)] : List (S39))) (inner := [.int .i64 5, .int .i64 9, .int .i64 3, .int .i64 4]) (ok := fun _ => True) (okp := fun _ => True) ?hr ?hp (fun _ hk => hk) trivial (Below.refl _ _) (Nat.le_refl _) (by simp) ?_; (case hd => rfl); (case hg => rfl); (case hr => first | (go_simp; done) | (go_simp; rfl)); (case hp => exact (Reps.c2 (show Kd.M k39 _ _ _ (⟨5, 9⟩ : S39) [.int .i64 5, .int .i64 9] from (k39_mkM _ _ _ (⟨5, 9⟩ : S39) )) (Reps.c2 (show Kd.M k39 _ _ _ (⟨3, 4⟩ : S39) [.int .i64 3, .int .i64 4] from (k39_mkM _ _ _ (⟨3, 4⟩ : S39) )) (Reps.none _ _))))
            intro v7243 w32 ho33 hb hg_ hnew_
            have HS0_ := (hb.cell (World.block_lt_of_cell? _ _ (hHeld.1))).trans (hHeld.1)
            have HS1_ := (hb.cell (World.block_lt_of_cell? _ _ (hHeld.2.1))).trans (hHeld.2.1)
            have HS2_ := (hb.cell (World.block_lt_of_cell? _ _ (hHeld.2.2.1))).trans (hHeld.2.2.1)
            have HS3_ := (hb.cell (World.block_lt_of_cell? _ _ (hHeld.2.2.2.1))).trans (hHeld.2.2.2.1)
            have HS4_ := (hb.cell (World.block_lt_of_cell? _ _ (hHeld.2.2.2.2.1))).trans (hHeld.2.2.2.2.1)
            have HS5_ := (hb.cell (World.block_lt_of_cell? _ _ (hHeld.2.2.2.2.2.1))).trans (hHeld.2.2.2.2.2.1)
            have HS6_ := (hb.cell (World.block_lt_of_cell? _ _ (hHeld.2.2.2.2.2.2.1))).trans (hHeld.2.2.2.2.2.2.1)
            have HS7_ := (hb.cell (World.block_lt_of_cell? _ _ (hHeld.2.2.2.2.2.2.2.1))).trans (hHeld.2.2.2.2.2.2.2.1)
            have HS8_ := (hb.cell (World.block_lt_of_cell? _ _ (hHeld.2.2.2.2.2.2.2.2))).trans (hHeld.2.2.2.2.2.2.2.2)
            clear hg_ hnew_
            (first | rw [← Ny7242.out] at ho33 | (simp only [Int.reduceToNat] at ho33; rw [← Ny7242.out] at ho33))
            have n0_ := Aside0.mk (Kd.R_below (by (with_reducible repeat (first | apply Kd.R_alloc | apply Kd.R_drewN | apply Kd.R_drew)); exact HO7220.out) hb)
            have n1_ := Aside0.mk (Kd.R_below (by (with_reducible repeat (first | apply Kd.R_alloc | apply Kd.R_drewN | apply Kd.R_drew)); exact HO7224.out) hb)
            have n2_ := Aside0.mk (Kd.R_elder' (by (with_reducible repeat (first | apply Kd.R_alloc | apply Kd.R_drewN | apply Kd.R_drew)); exact HO7228.out) (Kd.R_base ho33) hb)
            have n3_ := Aside0.mk (Kd.R_below (by (with_reducible repeat (first | apply Kd.R_alloc | apply Kd.R_drewN | apply Kd.R_drew)); exact HO7234.out) hb)
            have n4_ := Aside0.mk (Kd.R_below (by (with_reducible repeat (first | apply Kd.R_alloc | apply Kd.R_drewN | apply Kd.R_drew)); exact HO7240.out) hb)
            have n5_ := Aside0.mk (Kd.R_lower (Kd.R_new' ho33 (Kd.R_lt (by (with_reducible repeat (first | apply Kd.R_alloc | apply Kd.R_drewN | apply Kd.R_drew)); exact HO7228.out))) (below_size (by repeat (first | (with_reducible first | exact HB.out | apply below_alloc | apply pw_below_drewN | apply below_drew1) | exact HB.out))))
            have n6_ := Aside0.mk (below_step (by repeat (first | (with_reducible first | exact HB.out | apply below_alloc | apply pw_below_drewN | apply below_drew1) | exact HB.out)) hb)
            clear HO7220
            clear HO7224
            clear HO7228
            clear HO7234
            clear HO7240
            clear HB
            have HO7220 := n0_
            have HO7224 := n1_
            have HO7228 := n2_
            have HO7234 := n3_
            have HO7240 := n4_
            have HO7244 := n5_
            have HB := n6_
            clear n0_ n1_ n2_ n3_ n4_ n5_ n6_
            clear hb ho33
            obtain ⟨Ao34, co34, eo34⟩ := Kd.R_slice HO7228.out
            (first | subst eo34 | (injection eo34 with f1_ f2_ f3_; have f4_ := f1_.symm; have f5_ := f3_.symm; clear f1_ f2_ f3_; subst f4_; subst f5_))
            obtain ⟨Ao35, co35, eo35⟩ := Kd.R_slice HO7244.out
            (first | subst eo35 | (injection eo35 with f1_ f2_ f3_; have f4_ := f1_.symm; have f5_ := f3_.symm; clear f1_ f2_ f3_; subst f4_; subst f5_))
            refine hK.out _ _ ⟨HS0_, HS1_, HS2_, HS3_, HS4_, HS5_, HS6_, HS7_, HS8_⟩ (fun hHeld => ?_)
            clear hK K
            refine norm_ (a' := ?_) ?_ ?_
            rotate_left
            ·show Act.put _ (some 54) _ = _
             simp only [Act.put, List.setIfInBounds_toArray, List.set_cons_zero, List.set_cons_succ, i64_w, i32_w]
             rfl
            refine one_ (i := 21) (N := some 55) #[true, true, true, true, true, true, true, true, true, true, true, true, true, true, true, true, true, true, true, true, true, true, false, false, false, false, false, false, false, false, false, false, false, false, false, false, false, false, false, false, false, false, false, false, false, false, false, false, false, false, false] rfl rfl (one_of HT_.out (by kernel_rfl)) (by decide) (fun K hK => ?_)
            refine goes_ Try.func23 (by kernel_rfl) rfl #[.slice Ao34 t7225.length co34, .slice Ao35 y7242.length co35] (by rfl) rfl rfl (by (try simp only [List.map_toArray, List.map_cons, List.map_nil]); first | done | rfl | (simp only [List.length_drop, List.length_take]; rfl)) ?_
            with_reducible refine (caulkref19_SameRanges.calls k _ _ t7225 _ _ y7242 true _ ?side1 ?side2 ?side3 ?side4 A11.out).mono ?_
            (case side1 => repeat (first | exact (Kd.R_reads' HO7228.out).2.2 | (with_reducible refine Kd.C_alloc ?_ _) | (with_reducible refine Kd.C_drewN ?_ _) | (with_reducible refine Kd.C_drew ?_)))
            (case side2 => exact (Kd.R_reads' HO7228.out).2.1)
            (case side3 => repeat (first | exact (Kd.R_reads' HO7244.out).2.2 | (with_reducible refine Kd.C_alloc ?_ _) | (with_reducible refine Kd.C_drewN ?_ _) | (with_reducible refine Kd.C_drew ?_)))
            (case side4 => exact (Kd.R_reads' HO7244.out).2.1)
            rintro e w' ⟨rfl, ⟨nd, rfl⟩⟩
            refine ⟨_, rfl, ?_⟩
            refine hK.out _ _ ⟨hHeld.1, hHeld.2.1, hHeld.2.2.1, hHeld.2.2.2.1, hHeld.2.2.2.2.1, hHeld.2.2.2.2.2.1, hHeld.2.2.2.2.2.2.1, hHeld.2.2.2.2.2.2.2.1, hHeld.2.2.2.2.2.2.2.2⟩ (fun hHeld => ?_)
            clear hK K
            refine norm_ (a' := ?_) ?_ ?_
            rotate_left
            ·show Act.put _ (some 55) _ = _
             simp only [Act.put, List.setIfInBounds_toArray, List.set_cons_zero, List.set_cons_succ, i64_w, i32_w]
             rfl
            refine pure_ (i := 22) (N := some 56) (v := ?_) (a' := ?_) #[true, true, true, true, true, true, true, true, true, true, true, true, true, true, true, true, true, true, true, true, true, true, true, false, false, false, false, false, false, false, false, false, false, false, false, false, false, false, false, false, false, false, false, false, false, false, false, false, false, false, false] rfl rfl (any_of HT_.out (by kernel_rfl)) (fun _ _ _ h => h) (Or.inl ⟨by rfl, ?_⟩) ?_ ?_
            rotate_left
            ·intro w'
             go_simp
             with_reducible rfl
            rotate_left
            ·simp only [Act.put, List.setIfInBounds_toArray, List.set_cons_zero, List.set_cons_succ, i64_w, i32_w]
             rfl
            refine pure_ (i := 23) (N := some 57) (v := ?_) (a' := ?_) #[true, true, true, true, true, true, true, true, true, true, true, true, true, true, true, true, true, true, true, true, true, true, true, true, false, false, false, false, false, false, false, false, false, false, false, false, false, false, false, false, false, false, false, false, false, false, false, false, false, false, false] rfl rfl (any_of HT_.out (by kernel_rfl)) (fun _ _ _ h => h) (Or.inl ⟨by rfl, ?_⟩) ?_ ?_
            rotate_left
            ·intro w'
             go_simp
             with_reducible rfl
            rotate_left
            ·simp only [Act.put, List.setIfInBounds_toArray, List.set_cons_zero, List.set_cons_succ, i64_w, i32_w]
             rfl
            refine pure_ (i := 24) (N := some 58) (v := ?_) (a' := ?_) #[true, true, true, true, true, true, true, true, true, true, true, true, true, true, true, true, true, true, true, true, true, true, true, true, true, false, false, false, false, false, false, false, false, false, false, false, false, false, false, false, false, false, false, false, false, false, false, false, false, false, false] rfl rfl (any_of HT_.out (by kernel_rfl)) (fun _ _ _ h => h) (Or.inl ⟨by rfl, ?_⟩) ?_ ?_
            rotate_left
            ·intro w'
             go_simp
             with_reducible rfl
            rotate_left
            ·simp only [Act.put, List.setIfInBounds_toArray, List.set_cons_zero, List.set_cons_succ, i64_w, i32_w]
             rfl
            refine pure_ (i := 25) (N := some 59) (v := ?_) (a' := ?_) #[true, true, true, true, true, true, true, true, true, true, true, true, true, true, true, true, true, true, true, true, true, true, true, true, true, true, false, false, false, false, false, false, false, false, false, false, false, false, false, false, false, false, false, false, false, false, false, false, false, false, false] rfl rfl (any_of HT_.out (by kernel_rfl)) (fun _ _ _ h => h) (Or.inl ⟨by rfl, ?_⟩) ?_ ?_
            rotate_left
            ·intro w'
             go_simp
             with_reducible rfl
            rotate_left
            ·simp only [Act.put, List.setIfInBounds_toArray, List.set_cons_zero, List.set_cons_succ, i64_w, i32_w]
             rfl
            refine pure_ (i := 26) (N := some 60) (v := ?_) (a' := ?_) #[true, true, true, true, true, true, true, true, true, true, true, true, true, true, true, true, true, true, true, true, true, true, true, true, true, true, true, false, false, false, false, false, false, false, false, false, false, false, false, false, false, false, false, false, false, false, false, false, false, false, false] rfl rfl (any_of HT_.out (by kernel_rfl)) (fun _ _ _ h => h) (Or.inl ⟨by rfl, ?_⟩) ?_ ?_
            rotate_left
            ·intro w'
             go_simp
             with_reducible rfl
            rotate_left
            ·simp only [Act.put, List.setIfInBounds_toArray, List.set_cons_zero, List.set_cons_succ, i64_w, i32_w]
             rfl
            refine pure_ (i := 27) (N := some 61) (v := ?_) (a' := ?_) #[true, true, true, true, true, true, true, true, true, true, true, true, true, true, true, true, true, true, true, true, true, true, true, true, true, true, true, true, false, false, false, false, false, false, false, false, false, false, false, false, false, false, false, false, false, false, false, false, false, false, false] rfl rfl (any_of HT_.out (by kernel_rfl)) (fun _ _ _ h => h) (Or.inl ⟨by rfl, ?_⟩) ?_ ?_
            rotate_left
            ·intro w'
             go_simp
             with_reducible rfl
            rotate_left
            ·simp only [Act.put, List.setIfInBounds_toArray, List.set_cons_zero, List.set_cons_succ, i64_w, i32_w]
             rfl
            refine pure_ (i := 28) (N := some 62) (v := ?_) (a' := ?_) #[true, true, true, true, true, true, true, true, true, true, true, true, true, true, true, true, true, true, true, true, true, true, true, true, true, true, true, true, true, false, false, false, false, false, false, false, false, false, false, false, false, false, false, false, false, false, false, false, false, false, false] rfl rfl (any_of HT_.out (by kernel_rfl)) (fun _ _ _ h => h) (Or.inl ⟨by rfl, ?_⟩) ?_ ?_
            rotate_left
            ·intro w'
             go_simp
             with_reducible rfl
            rotate_left
            ·simp only [Act.put, List.setIfInBounds_toArray, List.set_cons_zero, List.set_cons_succ, i64_w, i32_w]
             rfl
            refine pure_ (i := 29) (N := some 63) (v := ?_) (a' := ?_) #[true, true, true, true, true, true, true, true, true, true, true, true, true, true, true, true, true, true, true, true, true, true, true, true, true, true, true, true, true, true, false, false, false, false, false, false, false, false, false, false, false, false, false, false, false, false, false, false, false, false, false] rfl rfl (any_of HT_.out (by kernel_rfl)) (fun _ _ _ h => h) (Or.inl ⟨by rfl, ?_⟩) ?_ ?_
            rotate_left
            ·intro w'
             go_simp
             with_reducible rfl
            rotate_left
            ·simp only [Act.put, List.setIfInBounds_toArray, List.set_cons_zero, List.set_cons_succ, i64_w, i32_w]
             rfl
            refine pure_ (i := 30) (N := some 64) (v := ?_) (a' := ?_) #[true, true, true, true, true, true, true, true, true, true, true, true, true, true, true, true, true, true, true, true, true, true, true, true, true, true, true, true, true, true, true, false, false, false, false, false, false, false, false, false, false, false, false, false, false, false, false, false, false, false, false] rfl rfl (any_of HT_.out (by kernel_rfl)) (fun _ _ _ h => h) (Or.inl ⟨by rfl, ?_⟩) ?_ ?_
            rotate_left
            ·intro w'
             go_simp
             with_reducible rfl
            rotate_left
            ·simp only [Act.put, List.setIfInBounds_toArray, List.set_cons_zero, List.set_cons_succ, i64_w, i32_w]
             rfl
            refine pure_ (i := 31) (N := some 65) (v := ?_) (a' := ?_) #[true, true, true, true, true, true, true, true, true, true, true, true, true, true, true, true, true, true, true, true, true, true, true, true, true, true, true, true, true, true, true, true, false, false, false, false, false, false, false, false, false, false, false, false, false, false, false, false, false, false, false] rfl rfl (any_of HT_.out (by kernel_rfl)) (fun _ _ _ h => h) (Or.inl ⟨by rfl, ?_⟩) ?_ ?_
            rotate_left
            ·intro w'
             go_simp
             with_reducible rfl
            rotate_left
            ·simp only [Act.put, List.setIfInBounds_toArray, List.set_cons_zero, List.set_cons_succ, i64_w, i32_w]
             rfl
            refine pure_ (i := 32) (N := some 66) (v := ?_) (a' := ?_) #[true, true, true, true, true, true, true, true, true, true, true, true, true, true, true, true, true, true, true, true, true, true, true, true, true, true, true, true, true, true, true, true, true, false, false, false, false, false, false, false, false, false, false, false, false, false, false, false, false, false, false] rfl rfl (any_of HT_.out (by kernel_rfl)) (fun _ _ _ h => h) (Or.inl ⟨by rfl, ?_⟩) ?_ ?_
            rotate_left
            ·intro w'
             go_simp
             with_reducible rfl
            rotate_left
            ·simp only [Act.put, List.setIfInBounds_toArray, List.set_cons_zero, List.set_cons_succ, i64_w, i32_w]
             rfl
            refine pure_ (i := 33) (N := some 67) (v := ?_) (a' := ?_) #[true, true, true, true, true, true, true, true, true, true, true, true, true, true, true, true, true, true, true, true, true, true, true, true, true, true, true, true, true, true, true, true, true, true, false, false, false, false, false, false, false, false, false, false, false, false, false, false, false, false, false] rfl rfl (any_of HT_.out (by kernel_rfl)) (fun _ _ _ h => h) (Or.inl ⟨by rfl, ?_⟩) ?_ ?_
            rotate_left
            ·intro w'
             go_simp
             with_reducible rfl
            rotate_left
            ·simp only [Act.put, List.setIfInBounds_toArray, List.set_cons_zero, List.set_cons_succ, i64_w, i32_w]
             rfl
            refine pure_ (i := 34) (N := some 68) (v := ?_) (a' := ?_) #[true, true, true, true, true, true, true, true, true, true, true, true, true, true, true, true, true, true, true, true, true, true, true, true, true, true, true, true, true, true, true, true, true, true, true, false, false, false, false, false, false, false, false, false, false, false, false, false, false, false, false] rfl rfl (any_of HT_.out (by kernel_rfl)) (fun _ _ _ h => h) (Or.inl ⟨by rfl, ?_⟩) ?_ ?_
            rotate_left
            ·intro w'
             go_simp
             with_reducible rfl
            rotate_left
            ·simp only [Act.put, List.setIfInBounds_toArray, List.set_cons_zero, List.set_cons_succ, i64_w, i32_w]
             rfl
            refine pure_ (i := 35) (N := some 69) (v := ?_) (a' := ?_) #[true, true, true, true, true, true, true, true, true, true, true, true, true, true, true, true, true, true, true, true, true, true, true, true, true, true, true, true, true, true, true, true, true, true, true, true, false, false, false, false, false, false, false, false, false, false, false, false, false, false, false] rfl rfl (any_of HT_.out (by kernel_rfl)) (fun _ _ _ h => h) (Or.inl ⟨by rfl, ?_⟩) ?_ ?_
            rotate_left
            ·intro w'
             go_simp
             with_reducible rfl
            rotate_left
            ·simp only [Act.put, List.setIfInBounds_toArray, List.set_cons_zero, List.set_cons_succ, i64_w, i32_w]
             rfl
            refine pure_ (i := 36) (N := some 70) (v := ?_) (a' := ?_) #[true, true, true, true, true, true, true, true, true, true, true, true, true, true, true, true, true, true, true, true, true, true, true, true, true, true, true, true, true, true, true, true, true, true, true, true, true, false, false, false, false, false, false, false, false, false, false, false, false, false, false] rfl rfl (any_of HT_.out (by kernel_rfl)) (fun _ _ _ h => h) (Or.inl ⟨by rfl, ?_⟩) ?_ ?_
            rotate_left
            ·intro w'
             go_simp
             with_reducible rfl
            rotate_left
            ·simp only [Act.put, List.setIfInBounds_toArray, List.set_cons_zero, List.set_cons_succ, i64_w, i32_w]
             rfl
            refine pure_ (i := 37) (N := some 71) (v := ?_) (a' := ?_) #[true, true, true, true, true, true, true, true, true, true, true, true, true, true, true, true, true, true, true, true, true, true, true, true, true, true, true, true, true, true, true, true, true, true, true, true, true, true, false, false, false, false, false, false, false, false, false, false, false, false, false] rfl rfl (any_of HT_.out (by kernel_rfl)) (fun _ _ _ h => h) (Or.inl ⟨by rfl, ?_⟩) ?_ ?_
            rotate_left
            ·intro w'
             go_simp
             with_reducible rfl
            rotate_left
            ·simp only [Act.put, List.setIfInBounds_toArray, List.set_cons_zero, List.set_cons_succ, i64_w, i32_w]
             rfl
            refine pure_ (i := 38) (N := some 72) (v := ?_) (a' := ?_) #[true, true, true, true, true, true, true, true, true, true, true, true, true, true, true, true, true, true, true, true, true, true, true, true, true, true, true, true, true, true, true, true, true, true, true, true, true, true, true, false, false, false, false, false, false, false, false, false, false, false, false] rfl rfl (any_of HT_.out (by kernel_rfl)) (fun _ _ _ h => h) (Or.inl ⟨by rfl, ?_⟩) ?_ ?_
            rotate_left
            ·intro w'
             go_simp
             with_reducible rfl
            rotate_left
            ·simp only [Act.put, List.setIfInBounds_toArray, List.set_cons_zero, List.set_cons_succ, i64_w, i32_w]
             rfl
            refine pure_ (i := 39) (N := some 73) (v := ?_) (a' := ?_) #[true, true, true, true, true, true, true, true, true, true, true, true, true, true, true, true, true, true, true, true, true, true, true, true, true, true, true, true, true, true, true, true, true, true, true, true, true, true, true, true, false, false, false, false, false, false, false, false, false, false, false] rfl rfl (any_of HT_.out (by kernel_rfl)) (fun _ _ _ h => h) (Or.inl ⟨by rfl, ?_⟩) ?_ ?_
            rotate_left
            ·intro w'
             go_simp
             with_reducible rfl
            rotate_left
            ·simp only [Act.put, List.setIfInBounds_toArray, List.set_cons_zero, List.set_cons_succ, i64_w, i32_w]
             rfl
            refine pure_ (i := 40) (N := some 74) (v := ?_) (a' := ?_) #[true, true, true, true, true, true, true, true, true, true, true, true, true, true, true, true, true, true, true, true, true, true, true, true, true, true, true, true, true, true, true, true, true, true, true, true, true, true, true, true, true, false, false, false, false, false, false, false, false, false, false] rfl rfl (any_of HT_.out (by kernel_rfl)) (fun _ _ _ h => h) (Or.inl ⟨by rfl, ?_⟩) ?_ ?_
            rotate_left
            ·intro w'
             go_simp
             with_reducible rfl
            rotate_left
            ·simp only [Act.put, List.setIfInBounds_toArray, List.set_cons_zero, List.set_cons_succ, i64_w, i32_w]
             rfl
            refine one_ (i := 41) (N := some 75) #[true, true, true, true, true, true, true, true, true, true, true, true, true, true, true, true, true, true, true, true, true, true, true, true, true, true, true, true, true, true, true, true, true, true, true, true, true, true, true, true, true, true, false, false, false, false, false, false, false, false, false] rfl rfl (one_of HT_.out (by kernel_rfl)) (by decide) (fun K hK => ?_)
            refine Kd.R_lit_step k37 _ 37 ?hg (N := 75) ?hd (xs := ([(⟨3, 0, 0⟩ : S37)] : List (S37))) (inner := [.int .i64 3, .int .i64 0, .int .i64 0]) (ok := fun _ => True) (okp := fun _ => True) ?hr ?hp (fun _ hk => hk) trivial (Below.refl _ _) (Nat.le_refl _) (by simp) ?_; (case hd => rfl); (case hg => rfl); (case hr => first | (go_simp; done) | (go_simp; rfl)); (case hp => exact (Reps.c3 (show Kd.M k37 _ _ _ (⟨3, 0, 0⟩ : S37) [.int .i64 3, .int .i64 0, .int .i64 0] from (k37_mkM _ _ _ (⟨3, 0, 0⟩ : S37) )) (Reps.none _ _)))
            intro v7247 w36 ho37 hb hg_ hnew_
            have HS0_ := (hb.cell (World.block_lt_of_cell? _ _ (hHeld.1))).trans (hHeld.1)
            have HS1_ := (hb.cell (World.block_lt_of_cell? _ _ (hHeld.2.1))).trans (hHeld.2.1)
            have HS2_ := (hb.cell (World.block_lt_of_cell? _ _ (hHeld.2.2.1))).trans (hHeld.2.2.1)
            have HS3_ := (hb.cell (World.block_lt_of_cell? _ _ (hHeld.2.2.2.1))).trans (hHeld.2.2.2.1)
            have HS4_ := (hb.cell (World.block_lt_of_cell? _ _ (hHeld.2.2.2.2.1))).trans (hHeld.2.2.2.2.1)
            have HS5_ := (hb.cell (World.block_lt_of_cell? _ _ (hHeld.2.2.2.2.2.1))).trans (hHeld.2.2.2.2.2.1)
            have HS6_ := (hb.cell (World.block_lt_of_cell? _ _ (hHeld.2.2.2.2.2.2.1))).trans (hHeld.2.2.2.2.2.2.1)
            have HS7_ := (hb.cell (World.block_lt_of_cell? _ _ (hHeld.2.2.2.2.2.2.2.1))).trans (hHeld.2.2.2.2.2.2.2.1)
            have HS8_ := (hb.cell (World.block_lt_of_cell? _ _ (hHeld.2.2.2.2.2.2.2.2))).trans (hHeld.2.2.2.2.2.2.2.2)
            clear hg_ hnew_
            (first | rw [← Ny7246.out] at ho37 | (simp only [Int.reduceToNat] at ho37; rw [← Ny7246.out] at ho37))
            have n0_ := Aside0.mk (Kd.R_elder' (by (with_reducible repeat (first | apply Kd.R_alloc | apply Kd.R_drewN | apply Kd.R_drew)); exact HO7220.out) (Kd.R_base ho37) hb)
            have n1_ := Aside0.mk (Kd.R_elder' (by (with_reducible repeat (first | apply Kd.R_alloc | apply Kd.R_drewN | apply Kd.R_drew)); exact HO7224.out) (Kd.R_base ho37) hb)
            have n2_ := Aside0.mk (Kd.R_below (by (with_reducible repeat (first | apply Kd.R_alloc | apply Kd.R_drewN | apply Kd.R_drew)); exact HO7228.out) hb)
            have n3_ := Aside0.mk (Kd.R_elder' (by (with_reducible repeat (first | apply Kd.R_alloc | apply Kd.R_drewN | apply Kd.R_drew)); exact HO7234.out) (Kd.R_base ho37) hb)
            have n4_ := Aside0.mk (Kd.R_elder' (by (with_reducible repeat (first | apply Kd.R_alloc | apply Kd.R_drewN | apply Kd.R_drew)); exact HO7240.out) (Kd.R_base ho37) hb)
            have n5_ := Aside0.mk (Kd.R_below (by (with_reducible repeat (first | apply Kd.R_alloc | apply Kd.R_drewN | apply Kd.R_drew)); exact HO7244.out) hb)
            have n6_ := Aside0.mk (Kd.R_lower (Kd.R_new' (Kd.R_new' (Kd.R_new' (Kd.R_new' ho37 (Kd.R_lt (by (with_reducible repeat (first | apply Kd.R_alloc | apply Kd.R_drewN | apply Kd.R_drew)); exact HO7220.out))) (Kd.R_lt (by (with_reducible repeat (first | apply Kd.R_alloc | apply Kd.R_drewN | apply Kd.R_drew)); exact HO7224.out))) (Kd.R_lt (by (with_reducible repeat (first | apply Kd.R_alloc | apply Kd.R_drewN | apply Kd.R_drew)); exact HO7234.out))) (Kd.R_lt (by (with_reducible repeat (first | apply Kd.R_alloc | apply Kd.R_drewN | apply Kd.R_drew)); exact HO7240.out))) (below_size (by repeat (first | (with_reducible first | exact HB.out | apply below_alloc | apply pw_below_drewN | apply below_drew1) | exact HB.out))))
            have n7_ := Aside0.mk (below_step (by repeat (first | (with_reducible first | exact HB.out | apply below_alloc | apply pw_below_drewN | apply below_drew1) | exact HB.out)) hb)
            clear HO7220
            clear HO7224
            clear HO7228
            clear HO7234
            clear HO7240
            clear HO7244
            clear HB
            have HO7220 := n0_
            have HO7224 := n1_
            have HO7228 := n2_
            have HO7234 := n3_
            have HO7240 := n4_
            have HO7244 := n5_
            have HO7248 := n6_
            have HB := n7_
            clear n0_ n1_ n2_ n3_ n4_ n5_ n6_ n7_
            clear hb ho37
            obtain ⟨Ao38, co38, eo38⟩ := Kd.R_slice HO7248.out
            (first | subst eo38 | (injection eo38 with f1_ f2_ f3_; have f4_ := f1_.symm; have f5_ := f3_.symm; clear f1_ f2_ f3_; subst f4_; subst f5_))
            refine hK.out _ _ ⟨HS0_, HS1_, HS2_, HS3_, HS4_, HS5_, HS6_, HS7_, HS8_⟩ (fun hHeld => ?_)
            clear hK K
            refine norm_ (a' := ?_) ?_ ?_
            rotate_left
            ·show Act.put _ (some 75) _ = _
             simp only [Act.put, List.setIfInBounds_toArray, List.set_cons_zero, List.set_cons_succ, i64_w, i32_w]
             rfl
            refine one_ (i := 42) (N := some 76) #[true, true, true, true, true, true, true, true, true, true, true, true, true, true, true, true, true, true, true, true, true, true, true, true, true, true, true, true, true, true, true, true, true, true, true, true, true, true, true, true, true, true, true, false, false, false, false, false, false, false, false] rfl rfl (one_of HT_.out (by kernel_rfl)) (by decide) (fun K hK => ?_)
            refine goes_ Try.func20 (by kernel_rfl) rfl #[.slice Ao38 y7246.length co38] (by rfl) rfl rfl (by (try simp only [List.map_toArray, List.map_cons, List.map_nil]); first | done | rfl | (simp only [List.length_drop, List.length_take]; rfl)) ?_
            with_reducible refine (elevator_Check.calls k _ _ y7246 t7249 _ ?side1 ?side2 A17.out).mono ?_
            (case side1 => repeat (first | exact (Kd.R_reads' HO7248.out).2.2 | (with_reducible refine Kd.C_alloc ?_ _) | (with_reducible refine Kd.C_drewN ?_ _) | (with_reducible refine Kd.C_drew ?_)))
            (case side2 => exact (Kd.R_reads' HO7248.out).2.1)
            rintro e w39 ⟨rfl, hb⟩
            have HS0_ := (hb.cell (World.block_lt_of_cell? _ _ (hHeld.1))).trans (hHeld.1)
            have HS1_ := (hb.cell (World.block_lt_of_cell? _ _ (hHeld.2.1))).trans (hHeld.2.1)
            have HS2_ := (hb.cell (World.block_lt_of_cell? _ _ (hHeld.2.2.1))).trans (hHeld.2.2.1)
            have HS3_ := (hb.cell (World.block_lt_of_cell? _ _ (hHeld.2.2.2.1))).trans (hHeld.2.2.2.1)
            have HS4_ := (hb.cell (World.block_lt_of_cell? _ _ (hHeld.2.2.2.2.1))).trans (hHeld.2.2.2.2.1)
            have HS5_ := (hb.cell (World.block_lt_of_cell? _ _ (hHeld.2.2.2.2.2.1))).trans (hHeld.2.2.2.2.2.1)
            have HS6_ := (hb.cell (World.block_lt_of_cell? _ _ (hHeld.2.2.2.2.2.2.1))).trans (hHeld.2.2.2.2.2.2.1)
            have HS7_ := (hb.cell (World.block_lt_of_cell? _ _ (hHeld.2.2.2.2.2.2.2.1))).trans (hHeld.2.2.2.2.2.2.2.1)
            have HS8_ := (hb.cell (World.block_lt_of_cell? _ _ (hHeld.2.2.2.2.2.2.2.2))).trans (hHeld.2.2.2.2.2.2.2.2)
            refine ⟨_, rfl, ?_⟩
            have n0_ := Aside0.mk (Kd.R_below (by (with_reducible repeat (first | apply Kd.R_alloc | apply Kd.R_drewN | apply Kd.R_drew)); exact HO7220.out) hb)
            have n1_ := Aside0.mk (Kd.R_below (by (with_reducible repeat (first | apply Kd.R_alloc | apply Kd.R_drewN | apply Kd.R_drew)); exact HO7224.out) hb)
            have n2_ := Aside0.mk (Kd.R_below (by (with_reducible repeat (first | apply Kd.R_alloc | apply Kd.R_drewN | apply Kd.R_drew)); exact HO7228.out) hb)
            have n3_ := Aside0.mk (Kd.R_below (by (with_reducible repeat (first | apply Kd.R_alloc | apply Kd.R_drewN | apply Kd.R_drew)); exact HO7234.out) hb)
            have n4_ := Aside0.mk (Kd.R_below (by (with_reducible repeat (first | apply Kd.R_alloc | apply Kd.R_drewN | apply Kd.R_drew)); exact HO7240.out) hb)
            have n5_ := Aside0.mk (Kd.R_below (by (with_reducible repeat (first | apply Kd.R_alloc | apply Kd.R_drewN | apply Kd.R_drew)); exact HO7244.out) hb)
            have n6_ := Aside0.mk (Kd.R_below (by (with_reducible repeat (first | apply Kd.R_alloc | apply Kd.R_drewN | apply Kd.R_drew)); exact HO7248.out) hb)
            have n7_ := Aside0.mk (below_step (by repeat (first | (with_reducible first | exact HB.out | apply below_alloc | apply pw_below_drewN | apply below_drew1) | exact HB.out)) hb)
            clear HO7220
            clear HO7224
            clear HO7228
            clear HO7234
            clear HO7240
            clear HO7244
            clear HO7248
            clear HB
            have HO7220 := n0_
            have HO7224 := n1_
            have HO7228 := n2_
            have HO7234 := n3_
            have HO7240 := n4_
            have HO7244 := n5_
            have HO7248 := n6_
            have HB := n7_
            clear n0_ n1_ n2_ n3_ n4_ n5_ n6_ n7_
            (try clear hb)
            (try clear hb2)
            (try clear hk)
            (try clear hi)
            refine hK.out _ _ ⟨HS0_, HS1_, HS2_, HS3_, HS4_, HS5_, HS6_, HS7_, HS8_⟩ (fun hHeld => ?_)
            clear hK K
            refine norm_ (a' := ?_) ?_ ?_
            rotate_left
            ·show Act.put _ (some 76) _ = _
             simp only [Act.put, List.setIfInBounds_toArray, List.set_cons_zero, List.set_cons_succ, i64_w, i32_w]
             rfl
            refine pure_ (i := 43) (N := some 77) (v := ?_) (a' := ?_) #[true, true, true, true, true, true, true, true, true, true, true, true, true, true, true, true, true, true, true, true, true, true, true, true, true, true, true, true, true, true, true, true, true, true, true, true, true, true, true, true, true, true, true, true, false, false, false, false, false, false, false] rfl rfl (any_of HT_.out (by kernel_rfl)) (fun _ _ _ h => h) (Or.inl ⟨by rfl, ?_⟩) ?_ ?_
            rotate_left
            ·intro w'
             go_simp
             with_reducible rfl
            rotate_left
            ·simp only [Act.put, List.setIfInBounds_toArray, List.set_cons_zero, List.set_cons_succ, i64_w, i32_w]
             rfl
            refine pure_ (i := 44) (N := some 78) (v := ?_) (a' := ?_) #[true, true, true, true, true, true, true, true, true, true, true, true, true, true, true, true, true, true, true, true, true, true, true, true, true, true, true, true, true, true, true, true, true, true, true, true, true, true, true, true, true, true, true, true, true, false, false, false, false, false, false] rfl rfl (any_of HT_.out (by kernel_rfl)) (fun _ _ _ h => h) (Or.inl ⟨by rfl, ?_⟩) ?_ ?_
            rotate_left
            ·intro w'
             go_simp
             with_reducible rfl
            rotate_left
            ·simp only [Act.put, List.setIfInBounds_toArray, List.set_cons_zero, List.set_cons_succ, i64_w, i32_w]
             rfl
            refine pure_ (i := 45) (N := some 79) (v := ?_) (a' := ?_) #[true, true, true, true, true, true, true, true, true, true, true, true, true, true, true, true, true, true, true, true, true, true, true, true, true, true, true, true, true, true, true, true, true, true, true, true, true, true, true, true, true, true, true, true, true, true, false, false, false, false, false] rfl rfl (any_of HT_.out (by kernel_rfl)) (fun _ _ _ h => h) (Or.inl ⟨by rfl, ?_⟩) ?_ ?_
            rotate_left
            ·intro w'
             go_simp
             with_reducible rfl
            rotate_left
            ·simp only [Act.put, List.setIfInBounds_toArray, List.set_cons_zero, List.set_cons_succ, i64_w, i32_w]
             rfl
            refine pure_ (i := 46) (N := some 80) (v := ?_) (a' := ?_) #[true, true, true, true, true, true, true, true, true, true, true, true, true, true, true, true, true, true, true, true, true, true, true, true, true, true, true, true, true, true, true, true, true, true, true, true, true, true, true, true, true, true, true, true, true, true, true, false, false, false, false] rfl rfl (any_of HT_.out (by kernel_rfl)) (fun _ _ _ h => h) (Or.inl ⟨by rfl, ?_⟩) ?_ ?_
            rotate_left
            ·intro w'
             go_simp
             with_reducible rfl
            rotate_left
            ·simp only [Act.put, List.setIfInBounds_toArray, List.set_cons_zero, List.set_cons_succ, i64_w, i32_w]
             rfl
            refine one_ (i := 47) (N := some 81) #[true, true, true, true, true, true, true, true, true, true, true, true, true, true, true, true, true, true, true, true, true, true, true, true, true, true, true, true, true, true, true, true, true, true, true, true, true, true, true, true, true, true, true, true, true, true, true, true, false, false, false] rfl rfl (one_of HT_.out (by kernel_rfl)) (by decide) (fun K hK => ?_)
            refine goes_ Try.func20 (by kernel_rfl) rfl #[.slice (some ad7235) y7218.length co22] (by rfl) rfl rfl (by (try simp only [List.map_toArray, List.map_cons, List.map_nil]); first | done | rfl | (simp only [List.length_drop, List.length_take]; rfl)) ?_
            with_reducible refine (elevator_Check.calls k _ _ y7218 t7250 _ ?side1 ?side2 A19.out).mono ?_
            (case side1 => repeat (first | exact (Kd.R_reads' HO7220.out).2.2 | (with_reducible refine Kd.C_alloc ?_ _) | (with_reducible refine Kd.C_drewN ?_ _) | (with_reducible refine Kd.C_drew ?_)))
            (case side2 => exact (Kd.R_reads' HO7220.out).2.1)
            rintro e w40 ⟨rfl, hb⟩
            have HS0_ := (hb.cell (World.block_lt_of_cell? _ _ (hHeld.1))).trans (hHeld.1)
            have HS1_ := (hb.cell (World.block_lt_of_cell? _ _ (hHeld.2.1))).trans (hHeld.2.1)
            have HS2_ := (hb.cell (World.block_lt_of_cell? _ _ (hHeld.2.2.1))).trans (hHeld.2.2.1)
            have HS3_ := (hb.cell (World.block_lt_of_cell? _ _ (hHeld.2.2.2.1))).trans (hHeld.2.2.2.1)
            have HS4_ := (hb.cell (World.block_lt_of_cell? _ _ (hHeld.2.2.2.2.1))).trans (hHeld.2.2.2.2.1)
            have HS5_ := (hb.cell (World.block_lt_of_cell? _ _ (hHeld.2.2.2.2.2.1))).trans (hHeld.2.2.2.2.2.1)
            have HS6_ := (hb.cell (World.block_lt_of_cell? _ _ (hHeld.2.2.2.2.2.2.1))).trans (hHeld.2.2.2.2.2.2.1)
            have HS7_ := (hb.cell (World.block_lt_of_cell? _ _ (hHeld.2.2.2.2.2.2.2.1))).trans (hHeld.2.2.2.2.2.2.2.1)
            have HS8_ := (hb.cell (World.block_lt_of_cell? _ _ (hHeld.2.2.2.2.2.2.2.2))).trans (hHeld.2.2.2.2.2.2.2.2)
            refine ⟨_, rfl, ?_⟩
            have n0_ := Aside0.mk (Kd.R_below (by (with_reducible repeat (first | apply Kd.R_alloc | apply Kd.R_drewN | apply Kd.R_drew)); exact HO7220.out) hb)
            have n1_ := Aside0.mk (Kd.R_below (by (with_reducible repeat (first | apply Kd.R_alloc | apply Kd.R_drewN | apply Kd.R_drew)); exact HO7224.out) hb)
            have n2_ := Aside0.mk (Kd.R_below (by (with_reducible repeat (first | apply Kd.R_alloc | apply Kd.R_drewN | apply Kd.R_drew)); exact HO7228.out) hb)
            have n3_ := Aside0.mk (Kd.R_below (by (with_reducible repeat (first | apply Kd.R_alloc | apply Kd.R_drewN | apply Kd.R_drew)); exact HO7234.out) hb)
            have n4_ := Aside0.mk (Kd.R_below (by (with_reducible repeat (first | apply Kd.R_alloc | apply Kd.R_drewN | apply Kd.R_drew)); exact HO7240.out) hb)
            have n5_ := Aside0.mk (Kd.R_below (by (with_reducible repeat (first | apply Kd.R_alloc | apply Kd.R_drewN | apply Kd.R_drew)); exact HO7244.out) hb)
            have n6_ := Aside0.mk (Kd.R_below (by (with_reducible repeat (first | apply Kd.R_alloc | apply Kd.R_drewN | apply Kd.R_drew)); exact HO7248.out) hb)
            have n7_ := Aside0.mk (below_step (by repeat (first | (with_reducible first | exact HB.out | apply below_alloc | apply pw_below_drewN | apply below_drew1) | exact HB.out)) hb)
            clear HO7220
            clear HO7224
            clear HO7228
            clear HO7234
            clear HO7240
            clear HO7244
            clear HO7248
            clear HB
            have HO7220 := n0_
            have HO7224 := n1_
            have HO7228 := n2_
            have HO7234 := n3_
            have HO7240 := n4_
            have HO7244 := n5_
            have HO7248 := n6_
            have HB := n7_
            clear n0_ n1_ n2_ n3_ n4_ n5_ n6_ n7_
            (try clear hb)
            (try clear hb2)
            (try clear hk)
            (try clear hi)
            refine hK.out _ _ ⟨HS0_, HS1_, HS2_, HS3_, HS4_, HS5_, HS6_, HS7_, HS8_⟩ (fun hHeld => ?_)
            clear hK K
            refine norm_ (a' := ?_) ?_ ?_
            rotate_left
            ·show Act.put _ (some 81) _ = _
             simp only [Act.put, List.setIfInBounds_toArray, List.set_cons_zero, List.set_cons_succ, i64_w, i32_w]
             rfl
            refine pure_ (i := 48) (N := some 82) (v := ?_) (a' := ?_) #[true, true, true, true, true, true, true, true, true, true, true, true, true, true, true, true, true, true, true, true, true, true, true, true, true, true, true, true, true, true, true, true, true, true, true, true, true, true, true, true, true, true, true, true, true, true, true, true, true, false, false] rfl rfl (any_of HT_.out (by kernel_rfl)) (fun _ _ _ h => h) (Or.inl ⟨by rfl, ?_⟩) ?_ ?_
            rotate_left
            ·intro w'
             go_simp
             with_reducible rfl
            rotate_left
            ·simp only [Act.put, List.setIfInBounds_toArray, List.set_cons_zero, List.set_cons_succ, i64_w, i32_w]
             rfl
            refine pure_ (i := 49) (N := some 83) (v := ?_) (a' := ?_) #[true, true, true, true, true, true, true, true, true, true, true, true, true, true, true, true, true, true, true, true, true, true, true, true, true, true, true, true, true, true, true, true, true, true, true, true, true, true, true, true, true, true, true, true, true, true, true, true, true, true, false] rfl rfl (any_of HT_.out (by kernel_rfl)) (fun _ _ _ h => h) (Or.inl ⟨by rfl, ?_⟩) ?_ ?_
            rotate_left
            ·intro w'
             go_simp
             with_reducible rfl
            rotate_left
            ·simp only [Act.put, List.setIfInBounds_toArray, List.set_cons_zero, List.set_cons_succ, i64_w, i32_w]
             rfl
            refine pure_ (i := 50) (N := some 0) (v := ?_) (a' := ?_) #[true, true, true, true, true, true, true, true, true, true, true, true, true, true, true, true, true, true, true, true, true, true, true, true, true, true, true, true, true, true, true, true, true, true, true, true, true, true, true, true, true, true, true, true, true, true, true, true, true, true, true] rfl rfl (any_of HT_.out (by kernel_rfl)) (fun _ _ _ h => h) (Or.inl ⟨by rfl, ?_⟩) ?_ ?_
            rotate_left
            ·intro w'
             go_simp
             with_reducible rfl
            rotate_left
            ·simp only [Act.put, List.setIfInBounds_toArray, List.set_cons_zero, List.set_cons_succ, i64_w, i32_w]
             rfl
            refine done_ (done_of HT_.out (by kernel_rfl)) ?_
            try go_wp2
            go_ret
            exact ⟨by first | rfl | (simp [errW_none, errW_some] <;> rfl) | (simp [*, errW_none, errW_some] <;> rfl), by repeat (first | (with_reducible first | exact HB.out | apply below_alloc | apply pw_below_drewN | apply below_drew1) | exact HB.out)⟩
           ·rw [if_neg c18] at H
            have c18b0 : (t7249 == 2) = false := beq_eq_false_iff_ne.mpr c18
            have c18b1 : (t7249 != 2) = true := bne_iff_ne.mpr c18
            exact absurd ((Option.some.inj H).trans hrt.out) (by simp)
          ·rw [if_neg c16] at H
           have c16b0 : (t7232 == 1) = false := beq_eq_false_iff_ne.mpr c16
           have c16b1 : (t7232 != 1) = true := bne_iff_ne.mpr c16
           exact absurd ((Option.some.inj H).trans hrt.out) (by simp)
         ·rw [if_neg c15] at H
          have c15b0 : (t7230 == 0) = false := beq_eq_false_iff_ne.mpr c15
          have c15b1 : (t7230 != 0) = true := bne_iff_ne.mpr c15
          exact absurd ((Option.some.inj H).trans hrt.out) (by simp)
        ·rw [if_neg c14] at H
         have c14b0 : (t7229 == 12) = false := beq_eq_false_iff_ne.mpr c14
         have c14b1 : (t7229 != 12) = true := bne_iff_ne.mpr c14
         exact absurd ((Option.some.inj H).trans hrt.out) (by simp)
       ·rw [if_neg c13] at H
        have c13b0 : (t7226 == 0) = false := beq_eq_false_iff_ne.mpr c13
        have c13b1 : (t7226 != 0) = true := bne_iff_ne.mpr c13
        exact absurd ((Option.some.inj H).trans hrt.out) (by simp)
      ·replace c12 := Bool.eq_false_iff.mpr c12
       subst c12
       have H1 : (some false) = some r := by rw [if_neg (show ¬ (false = true) by decide)] at H; exact H
       clear H
       have H := H1
       clear H1
       exact absurd ((Option.some.inj H).trans hrt.out) (by simp)
     ·rw [if_neg c10] at H
      have c10b0 : (t7222 == 0) = false := beq_eq_false_iff_ne.mpr c10
      have c10b1 : (t7222 != 0) = true := bne_iff_ne.mpr c10
      exact absurd ((Option.some.inj H).trans hrt.out) (by simp)
    ·replace c9 := Bool.eq_false_iff.mpr c9
     subst c9
     have H1 : (some false) = some r := by rw [if_neg (show ¬ (false = true) by decide)] at H; exact H
     clear H
     have H := H1
     clear H1
     exact absurd ((Option.some.inj H).trans hrt.out) (by simp)
   ·rw [if_neg c7] at H
    exact absurd H (by simp)
  ·rw [if_neg c6] at H
   exact absurd H (by simp)
 ·rw [if_neg c5] at H
  exact absurd H (by simp)
theorem caulklaw40_lives_t.true : ∃ k, caulklaw40_lives_t.f k = some true := ⟨1000, by kernel_rfl⟩
def caulklaw40_lives.f : Option (Bool) := some true
theorem caulklaw40_lives.calls (r : Bool) (w : World) (h : caulklaw40_lives.f = some r) :
  Calls Try.prog 13 #[] w fun e w' => e = .returned (.bool r) ∧ Below w.heap.size w w' := by
 cases h
 obtain ⟨k, hk⟩ := caulklaw40_lives_t.true; exact caulklaw40_lives_t.calls k true w ⟨rfl⟩ hk

end Go.Proofs.Ytgahpdoiddhdaaa.HElev
