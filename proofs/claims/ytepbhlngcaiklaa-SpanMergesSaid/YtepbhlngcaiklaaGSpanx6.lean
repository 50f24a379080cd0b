/- WRITTEN BY wip/hyb.py, a program of this workplace (out of the kit's printer and this workplace's own contracts). -/
import Derived.Test.YtepbhlngcaiklaaGSpanx0
import Derived.Test.YtepbhlngcaiklaaGSpanx1
import Derived.Test.YtepbhlngcaiklaaGSpanx3
import Derived.Test.YtepbhlngcaiklaaGSpanx4
import Derived.Test.YtepbhlngcaiklaaGSpanx5
namespace Go.Proofs.Ytepbhlngcaiklaa.HSpan
open Go.RowKit Go.Proofs.YtepbhlngcaiklaaW.PrintWords Go.Proofs.YtepbhlngcaiklaaW.PrintLast Go.Proofs.YtepbhlngcaiklaaW.PrintMore
attribute [local go_sem] max2_int min2_int max_two min_two max_three min_three max_four min_four   -- for this text's walks alone
set_option linter.unusedVariables false
set_option linter.unusedSimpArgs false

attribute [local go_sem high] eqA28
def caulklaw19_lives_t.f (k : Nat)  : Option (Bool) := (span_Cut.f 4 3 6).bind fun bt138 => ((span_Whole.f 4 3 6).bind fun bt142 => ((span_Whole.f 4 3 4).bind fun bt146 => ((span_Merge.f k (([5, 1, 2, 5, 6] : List Int))).bind fun t153 => ((span_Blocks.f k t153).bind fun bt156 => ((span_Join.f k 4 bt138.1 (([(⟨#[97]⟩ : ByteArray), (⟨#[98, 99, 100, 101]⟩ : ByteArray), (⟨#[102]⟩ : ByteArray)] : List ByteArray))).bind fun bt163 => ((span_Over.f (⟨#[97, 98, 99, 100]⟩ : ByteArray) 0 1 3 (⟨#[88, 89]⟩ : ByteArray)).bind fun bt165 => ((span_Cut.f 0 0 0).bind fun bt167 => ((span_Cut.f 4 0 1048577).bind fun bt171 => ((caulkref19_Same.f k bt138.1 (([(⟨0, 3, 4⟩ : S43), (⟨1, 0, 4⟩ : S43), (⟨2, 0, 1⟩ : S43)] : List (S43)))).bind fun t178 => (if t178 = true then (if bt138.2 = 0 then (if (bt142.1 == 1 && (bt142.2.1 == 2)) = true then (if bt142.2.2 = 0 then (if (bt146.1 == 0 && (bt146.2.1 == 0)) = true then (if bt146.2.2 = 0 then ((caulkref19_SameRanges.f k t153 (([(⟨1, 3⟩ : S28), (⟨5, 7⟩ : S28)] : List (S28)))).bind fun t182 => (if t182 = true then ((caulkref05_Same.f k bt156.1 (([1, 2, 5, 6] : List Int))).bind fun t186 => (if t186 = true then (if bt156.2 = 0 then (if bt163.1.toList = ([97, 98, 99, 100, 101, 102] : List UInt8) then (if bt163.2 = 0 then (if bt165.1.toList = ([97, 88, 89, 100] : List UInt8) then (if bt165.2 = 0 then (if bt167.2 = 1 then (some (bt171.2 == 7)) else (some false)) else (some false)) else (some false)) else (some false)) else (some false)) else (some false)) else (some false))) else (some false))) else (some false)) else (some false)) else (some false)) else (some false)) else (some false)) else (some false)))))))))))
theorem caulklaw19_lives_t.mono : ∀ k, LeO (caulklaw19_lives_t.f k ) (caulklaw19_lives_t.f (k + 1) ) := by
 intro  k
 unfold caulklaw19_lives_t.f
 repeat' first
   | (with_reducible exact caulkref05_Same.mono _ _ _)
   | (with_reducible exact caulkref19_Same.mono _ _ _)
   | (with_reducible exact caulkref19_SameRanges.mono _ _ _)
   | (with_reducible exact span_Blocks.mono _ _)
   | (with_reducible exact span_Join.mono _ _ _ _)
   | (with_reducible exact span_Merge.mono _ _)
   | (with_reducible exact LeO.refl _)
   | (with_reducible exact LeO.none _)
   | (with_reducible refine LeO.ite ?_ ?_)
   | (with_reducible refine LeO.bind ?_ (fun _ => ?_))
   | exact caulkref05_Same.mono _ _ _
   | exact caulkref19_Same.mono _ _ _
   | exact caulkref19_SameRanges.mono _ _ _
   | exact span_Blocks.mono _ _
   | exact span_Join.mono _ _ _ _
   | exact span_Merge.mono _ _
   | exact LeO.none _
   | refine LeO.ite ?_ ?_
   | refine LeO.bind ?_ (fun _ => ?_)
set_option maxHeartbeats 8000000 in
set_option maxRecDepth 100000 in
theorem caulklaw19_lives_t.calls (k : Nat)  (r : Bool) (w : World) (hrt : Aside0 (r = true)) (h : caulklaw19_lives_t.f k  = some r) :
  Calls Try.prog 6 #[] w fun e w' => e = .returned (.bool r) ∧ Below w.heap.size w w' := by
 have hu28 := Try.underlying28
 have hu43 := Try.underlying43
 have HB := Aside0.mk (Below.refl w.heap.size w)
 have H : ((span_Cut.f 4 3 6).bind fun bt138 => ((span_Whole.f 4 3 6).bind fun bt142 => ((span_Whole.f 4 3 4).bind fun bt146 => ((span_Merge.f k (([5, 1, 2, 5, 6] : List Int))).bind fun t153 => ((span_Blocks.f k t153).bind fun bt156 => ((span_Join.f k 4 bt138.1 (([(⟨#[97]⟩ : ByteArray), (⟨#[98, 99, 100, 101]⟩ : ByteArray), (⟨#[102]⟩ : ByteArray)] : List ByteArray))).bind fun bt163 => ((span_Over.f (⟨#[97, 98, 99, 100]⟩ : ByteArray) 0 1 3 (⟨#[88, 89]⟩ : ByteArray)).bind fun bt165 => ((span_Cut.f 0 0 0).bind fun bt167 => ((span_Cut.f 4 0 1048577).bind fun bt171 => ((caulkref19_Same.f k bt138.1 (([(⟨0, 3, 4⟩ : S43), (⟨1, 0, 4⟩ : S43), (⟨2, 0, 1⟩ : S43)] : List (S43)))).bind fun t178 => (if t178 = true then (if bt138.2 = 0 then (if (bt142.1 == 1 && (bt142.2.1 == 2)) = true then (if bt142.2.2 = 0 then (if (bt146.1 == 0 && (bt146.2.1 == 0)) = true then (if bt146.2.2 = 0 then ((caulkref19_SameRanges.f k t153 (([(⟨1, 3⟩ : S28), (⟨5, 7⟩ : S28)] : List (S28)))).bind fun t182 => (if t182 = true then ((caulkref05_Same.f k bt156.1 (([1, 2, 5, 6] : List Int))).bind fun t186 => (if t186 = true then (if bt156.2 = 0 then (if bt163.1.toList = ([97, 98, 99, 100, 101, 102] : List UInt8) then (if bt163.2 = 0 then (if bt165.1.toList = ([97, 88, 89, 100] : List UInt8) then (if bt165.2 = 0 then (if bt167.2 = 1 then (some (bt171.2 == 7)) else (some false)) else (some false)) else (some false)) else (some false)) else (some false)) else (some false)) else (some false))) else (some false))) else (some false)) else (some false)) else (some false)) else (some false)) else (some false)) else (some false)))))))))))) = some r := h
 clear h
 replace H := Option.bind_eq_some_iff.mp H
 obtain ⟨⟨t138, t139⟩, A10, H⟩ := H
 replace H : ((span_Whole.f 4 3 6).bind fun bt142 => ((span_Whole.f 4 3 4).bind fun bt146 => ((span_Merge.f k (([5, 1, 2, 5, 6] : List Int))).bind fun t153 => ((span_Blocks.f k t153).bind fun bt156 => ((span_Join.f k 4 t138 (([(⟨#[97]⟩ : ByteArray), (⟨#[98, 99, 100, 101]⟩ : ByteArray), (⟨#[102]⟩ : ByteArray)] : List ByteArray))).bind fun bt163 => ((span_Over.f (⟨#[97, 98, 99, 100]⟩ : ByteArray) 0 1 3 (⟨#[88, 89]⟩ : ByteArray)).bind fun bt165 => ((span_Cut.f 0 0 0).bind fun bt167 => ((span_Cut.f 4 0 1048577).bind fun bt171 => ((caulkref19_Same.f k t138 (([(⟨0, 3, 4⟩ : S43), (⟨1, 0, 4⟩ : S43), (⟨2, 0, 1⟩ : S43)] : List (S43)))).bind fun t178 => (if t178 = true then (if t139 = 0 then (if (bt142.1 == 1 && (bt142.2.1 == 2)) = true then (if bt142.2.2 = 0 then (if (bt146.1 == 0 && (bt146.2.1 == 0)) = true then (if bt146.2.2 = 0 then ((caulkref19_SameRanges.f k t153 (([(⟨1, 3⟩ : S28), (⟨5, 7⟩ : S28)] : List (S28)))).bind fun t182 => (if t182 = true then ((caulkref05_Same.f k bt156.1 (([1, 2, 5, 6] : List Int))).bind fun t186 => (if t186 = true then (if bt156.2 = 0 then (if bt163.1.toList = ([97, 98, 99, 100, 101, 102] : List UInt8) then (if bt163.2 = 0 then (if bt165.1.toList = ([97, 88, 89, 100] : List UInt8) then (if bt165.2 = 0 then (if bt167.2 = 1 then (some (bt171.2 == 7)) else (some false)) else (some false)) else (some false)) else (some false)) else (some false)) else (some false)) else (some false))) else (some false))) else (some false)) else (some false)) else (some false)) else (some false)) else (some false)) else (some false))))))))))) = some r := H
 have A1 := Aside0.mk A10
 clear A10
 replace H := Option.bind_eq_some_iff.mp H
 obtain ⟨⟨t142, t143, t144⟩, A20, H⟩ := H
 replace H : ((span_Whole.f 4 3 4).bind fun bt146 => ((span_Merge.f k (([5, 1, 2, 5, 6] : List Int))).bind fun t153 => ((span_Blocks.f k t153).bind fun bt156 => ((span_Join.f k 4 t138 (([(⟨#[97]⟩ : ByteArray), (⟨#[98, 99, 100, 101]⟩ : ByteArray), (⟨#[102]⟩ : ByteArray)] : List ByteArray))).bind fun bt163 => ((span_Over.f (⟨#[97, 98, 99, 100]⟩ : ByteArray) 0 1 3 (⟨#[88, 89]⟩ : ByteArray)).bind fun bt165 => ((span_Cut.f 0 0 0).bind fun bt167 => ((span_Cut.f 4 0 1048577).bind fun bt171 => ((caulkref19_Same.f k t138 (([(⟨0, 3, 4⟩ : S43), (⟨1, 0, 4⟩ : S43), (⟨2, 0, 1⟩ : S43)] : List (S43)))).bind fun t178 => (if t178 = true then (if t139 = 0 then (if (t142 == 1 && (t143 == 2)) = true then (if t144 = 0 then (if (bt146.1 == 0 && (bt146.2.1 == 0)) = true then (if bt146.2.2 = 0 then ((caulkref19_SameRanges.f k t153 (([(⟨1, 3⟩ : S28), (⟨5, 7⟩ : S28)] : List (S28)))).bind fun t182 => (if t182 = true then ((caulkref05_Same.f k bt156.1 (([1, 2, 5, 6] : List Int))).bind fun t186 => (if t186 = true then (if bt156.2 = 0 then (if bt163.1.toList = ([97, 98, 99, 100, 101, 102] : List UInt8) then (if bt163.2 = 0 then (if bt165.1.toList = ([97, 88, 89, 100] : List UInt8) then (if bt165.2 = 0 then (if bt167.2 = 1 then (some (bt171.2 == 7)) else (some false)) else (some false)) else (some false)) else (some false)) else (some false)) else (some false)) else (some false))) else (some false))) else (some false)) else (some false)) else (some false)) else (some false)) else (some false)) else (some false)))))))))) = some r := H
 have A2 := Aside0.mk A20
 clear A20
 replace H := Option.bind_eq_some_iff.mp H
 obtain ⟨⟨t146, t147, t148⟩, A30, H⟩ := H
 replace H : ((span_Merge.f k (([5, 1, 2, 5, 6] : List Int))).bind fun t153 => ((span_Blocks.f k t153).bind fun bt156 => ((span_Join.f k 4 t138 (([(⟨#[97]⟩ : ByteArray), (⟨#[98, 99, 100, 101]⟩ : ByteArray), (⟨#[102]⟩ : ByteArray)] : List ByteArray))).bind fun bt163 => ((span_Over.f (⟨#[97, 98, 99, 100]⟩ : ByteArray) 0 1 3 (⟨#[88, 89]⟩ : ByteArray)).bind fun bt165 => ((span_Cut.f 0 0 0).bind fun bt167 => ((span_Cut.f 4 0 1048577).bind fun bt171 => ((caulkref19_Same.f k t138 (([(⟨0, 3, 4⟩ : S43), (⟨1, 0, 4⟩ : S43), (⟨2, 0, 1⟩ : S43)] : List (S43)))).bind fun t178 => (if t178 = true then (if t139 = 0 then (if (t142 == 1 && (t143 == 2)) = true then (if t144 = 0 then (if (t146 == 0 && (t147 == 0)) = true then (if t148 = 0 then ((caulkref19_SameRanges.f k t153 (([(⟨1, 3⟩ : S28), (⟨5, 7⟩ : S28)] : List (S28)))).bind fun t182 => (if t182 = true then ((caulkref05_Same.f k bt156.1 (([1, 2, 5, 6] : List Int))).bind fun t186 => (if t186 = true then (if bt156.2 = 0 then (if bt163.1.toList = ([97, 98, 99, 100, 101, 102] : List UInt8) then (if bt163.2 = 0 then (if bt165.1.toList = ([97, 88, 89, 100] : List UInt8) then (if bt165.2 = 0 then (if bt167.2 = 1 then (some (bt171.2 == 7)) else (some false)) else (some false)) else (some false)) else (some false)) else (some false)) else (some false)) else (some false))) else (some false))) else (some false)) else (some false)) else (some false)) else (some false)) else (some false)) else (some false))))))))) = some r := H
 have A3 := Aside0.mk A30
 clear A30
 obtain ⟨y150, hy150⟩ : ∃ y_ : List Int, y_ = (([5, 1, 2, 5, 6] : List Int)) := ⟨_, rfl⟩
 replace H : ((span_Merge.f k y150).bind fun t153 => ((span_Blocks.f k t153).bind fun bt156 => ((span_Join.f k 4 t138 (([(⟨#[97]⟩ : ByteArray), (⟨#[98, 99, 100, 101]⟩ : ByteArray), (⟨#[102]⟩ : ByteArray)] : List ByteArray))).bind fun bt163 => ((span_Over.f (⟨#[97, 98, 99, 100]⟩ : ByteArray) 0 1 3 (⟨#[88, 89]⟩ : ByteArray)).bind fun bt165 => ((span_Cut.f 0 0 0).bind fun bt167 => ((span_Cut.f 4 0 1048577).bind fun bt171 => ((caulkref19_Same.f k t138 (([(⟨0, 3, 4⟩ : S43), (⟨1, 0, 4⟩ : S43), (⟨2, 0, 1⟩ : S43)] : List (S43)))).bind fun t178 => (if t178 = true then (if t139 = 0 then (if (t142 == 1 && (t143 == 2)) = true then (if t144 = 0 then (if (t146 == 0 && (t147 == 0)) = true then (if t148 = 0 then ((caulkref19_SameRanges.f k t153 (([(⟨1, 3⟩ : S28), (⟨5, 7⟩ : S28)] : List (S28)))).bind fun t182 => (if t182 = true then ((caulkref05_Same.f k bt156.1 (([1, 2, 5, 6] : List Int))).bind fun t186 => (if t186 = true then (if bt156.2 = 0 then (if bt163.1.toList = ([97, 98, 99, 100, 101, 102] : List UInt8) then (if bt163.2 = 0 then (if bt165.1.toList = ([97, 88, 89, 100] : List UInt8) then (if bt165.2 = 0 then (if bt167.2 = 1 then (some (bt171.2 == 7)) else (some false)) else (some false)) else (some false)) else (some false)) else (some false)) else (some false)) else (some false))) else (some false))) else (some false)) else (some false)) else (some false)) else (some false)) else (some false)) else (some false))))))))) = some r := by first | (rw [hy150]; with_reducible exact H) | (have H2_ := (Option.bind_some _ _).symm.trans H; rw [hy150]; with_reducible exact H2_) | (have H2_ := (Option.bind_some _ _).symm.trans H; with_reducible exact H2_) | with_reducible exact H | (rw [hy150]; exact H) | exact H
 have Ny150 := Aside0.mk hy150
 clear hy150
 replace H := Option.bind_eq_some_iff.mp H
 obtain ⟨t153, A40, H⟩ := H
 replace H : ((span_Blocks.f k t153).bind fun bt156 => ((span_Join.f k 4 t138 (([(⟨#[97]⟩ : ByteArray), (⟨#[98, 99, 100, 101]⟩ : ByteArray), (⟨#[102]⟩ : ByteArray)] : List ByteArray))).bind fun bt163 => ((span_Over.f (⟨#[97, 98, 99, 100]⟩ : ByteArray) 0 1 3 (⟨#[88, 89]⟩ : ByteArray)).bind fun bt165 => ((span_Cut.f 0 0 0).bind fun bt167 => ((span_Cut.f 4 0 1048577).bind fun bt171 => ((caulkref19_Same.f k t138 (([(⟨0, 3, 4⟩ : S43), (⟨1, 0, 4⟩ : S43), (⟨2, 0, 1⟩ : S43)] : List (S43)))).bind fun t178 => (if t178 = true then (if t139 = 0 then (if (t142 == 1 && (t143 == 2)) = true then (if t144 = 0 then (if (t146 == 0 && (t147 == 0)) = true then (if t148 = 0 then ((caulkref19_SameRanges.f k t153 (([(⟨1, 3⟩ : S28), (⟨5, 7⟩ : S28)] : List (S28)))).bind fun t182 => (if t182 = true then ((caulkref05_Same.f k bt156.1 (([1, 2, 5, 6] : List Int))).bind fun t186 => (if t186 = true then (if bt156.2 = 0 then (if bt163.1.toList = ([97, 98, 99, 100, 101, 102] : List UInt8) then (if bt163.2 = 0 then (if bt165.1.toList = ([97, 88, 89, 100] : List UInt8) then (if bt165.2 = 0 then (if bt167.2 = 1 then (some (bt171.2 == 7)) else (some false)) else (some false)) else (some false)) else (some false)) else (some false)) else (some false)) else (some false))) else (some false))) else (some false)) else (some false)) else (some false)) else (some false)) else (some false)) else (some false)))))))) = some r := H
 have A4 := Aside0.mk A40
 clear A40
 replace H := Option.bind_eq_some_iff.mp H
 obtain ⟨⟨t156, t157⟩, A50, H⟩ := H
 replace H : ((span_Join.f k 4 t138 (([(⟨#[97]⟩ : ByteArray), (⟨#[98, 99, 100, 101]⟩ : ByteArray), (⟨#[102]⟩ : ByteArray)] : List ByteArray))).bind fun bt163 => ((span_Over.f (⟨#[97, 98, 99, 100]⟩ : ByteArray) 0 1 3 (⟨#[88, 89]⟩ : ByteArray)).bind fun bt165 => ((span_Cut.f 0 0 0).bind fun bt167 => ((span_Cut.f 4 0 1048577).bind fun bt171 => ((caulkref19_Same.f k t138 (([(⟨0, 3, 4⟩ : S43), (⟨1, 0, 4⟩ : S43), (⟨2, 0, 1⟩ : S43)] : List (S43)))).bind fun t178 => (if t178 = true then (if t139 = 0 then (if (t142 == 1 && (t143 == 2)) = true then (if t144 = 0 then (if (t146 == 0 && (t147 == 0)) = true then (if t148 = 0 then ((caulkref19_SameRanges.f k t153 (([(⟨1, 3⟩ : S28), (⟨5, 7⟩ : S28)] : List (S28)))).bind fun t182 => (if t182 = true then ((caulkref05_Same.f k t156 (([1, 2, 5, 6] : List Int))).bind fun t186 => (if t186 = true then (if t157 = 0 then (if bt163.1.toList = ([97, 98, 99, 100, 101, 102] : List UInt8) then (if bt163.2 = 0 then (if bt165.1.toList = ([97, 88, 89, 100] : List UInt8) then (if bt165.2 = 0 then (if bt167.2 = 1 then (some (bt171.2 == 7)) else (some false)) else (some false)) else (some false)) else (some false)) else (some false)) else (some false)) else (some false))) else (some false))) else (some false)) else (some false)) else (some false)) else (some false)) else (some false)) else (some false))))))) = some r := H
 have A5 := Aside0.mk A50
 clear A50
 obtain ⟨y160, hy160⟩ : ∃ y_ : List ByteArray, y_ = (([(⟨#[97]⟩ : ByteArray), (⟨#[98, 99, 100, 101]⟩ : ByteArray), (⟨#[102]⟩ : ByteArray)] : List ByteArray)) := ⟨_, rfl⟩
 replace H : ((span_Join.f k 4 t138 y160).bind fun bt163 => ((span_Over.f (⟨#[97, 98, 99, 100]⟩ : ByteArray) 0 1 3 (⟨#[88, 89]⟩ : ByteArray)).bind fun bt165 => ((span_Cut.f 0 0 0).bind fun bt167 => ((span_Cut.f 4 0 1048577).bind fun bt171 => ((caulkref19_Same.f k t138 (([(⟨0, 3, 4⟩ : S43), (⟨1, 0, 4⟩ : S43), (⟨2, 0, 1⟩ : S43)] : List (S43)))).bind fun t178 => (if t178 = true then (if t139 = 0 then (if (t142 == 1 && (t143 == 2)) = true then (if t144 = 0 then (if (t146 == 0 && (t147 == 0)) = true then (if t148 = 0 then ((caulkref19_SameRanges.f k t153 (([(⟨1, 3⟩ : S28), (⟨5, 7⟩ : S28)] : List (S28)))).bind fun t182 => (if t182 = true then ((caulkref05_Same.f k t156 (([1, 2, 5, 6] : List Int))).bind fun t186 => (if t186 = true then (if t157 = 0 then (if bt163.1.toList = ([97, 98, 99, 100, 101, 102] : List UInt8) then (if bt163.2 = 0 then (if bt165.1.toList = ([97, 88, 89, 100] : List UInt8) then (if bt165.2 = 0 then (if bt167.2 = 1 then (some (bt171.2 == 7)) else (some false)) else (some false)) else (some false)) else (some false)) else (some false)) else (some false)) else (some false))) else (some false))) else (some false)) else (some false)) else (some false)) else (some false)) else (some false)) else (some false))))))) = some r := by first | (rw [hy160]; with_reducible exact H) | (have H2_ := (Option.bind_some _ _).symm.trans H; rw [hy160]; with_reducible exact H2_) | (have H2_ := (Option.bind_some _ _).symm.trans H; with_reducible exact H2_) | with_reducible exact H | (rw [hy160]; exact H) | exact H
 have Ny160 := Aside0.mk hy160
 clear hy160
 replace H := Option.bind_eq_some_iff.mp H
 obtain ⟨⟨t163, t164⟩, A60, H⟩ := H
 replace H : ((span_Over.f (⟨#[97, 98, 99, 100]⟩ : ByteArray) 0 1 3 (⟨#[88, 89]⟩ : ByteArray)).bind fun bt165 => ((span_Cut.f 0 0 0).bind fun bt167 => ((span_Cut.f 4 0 1048577).bind fun bt171 => ((caulkref19_Same.f k t138 (([(⟨0, 3, 4⟩ : S43), (⟨1, 0, 4⟩ : S43), (⟨2, 0, 1⟩ : S43)] : List (S43)))).bind fun t178 => (if t178 = true then (if t139 = 0 then (if (t142 == 1 && (t143 == 2)) = true then (if t144 = 0 then (if (t146 == 0 && (t147 == 0)) = true then (if t148 = 0 then ((caulkref19_SameRanges.f k t153 (([(⟨1, 3⟩ : S28), (⟨5, 7⟩ : S28)] : List (S28)))).bind fun t182 => (if t182 = true then ((caulkref05_Same.f k t156 (([1, 2, 5, 6] : List Int))).bind fun t186 => (if t186 = true then (if t157 = 0 then (if t163.toList = ([97, 98, 99, 100, 101, 102] : List UInt8) then (if t164 = 0 then (if bt165.1.toList = ([97, 88, 89, 100] : List UInt8) then (if bt165.2 = 0 then (if bt167.2 = 1 then (some (bt171.2 == 7)) else (some false)) else (some false)) else (some false)) else (some false)) else (some false)) else (some false)) else (some false))) else (some false))) else (some false)) else (some false)) else (some false)) else (some false)) else (some false)) else (some false)))))) = some r := H
 have A6 := Aside0.mk A60
 clear A60
 replace H := Option.bind_eq_some_iff.mp H
 obtain ⟨⟨t165, t166⟩, A70, H⟩ := H
 replace H : ((span_Cut.f 0 0 0).bind fun bt167 => ((span_Cut.f 4 0 1048577).bind fun bt171 => ((caulkref19_Same.f k t138 (([(⟨0, 3, 4⟩ : S43), (⟨1, 0, 4⟩ : S43), (⟨2, 0, 1⟩ : S43)] : List (S43)))).bind fun t178 => (if t178 = true then (if t139 = 0 then (if (t142 == 1 && (t143 == 2)) = true then (if t144 = 0 then (if (t146 == 0 && (t147 == 0)) = true then (if t148 = 0 then ((caulkref19_SameRanges.f k t153 (([(⟨1, 3⟩ : S28), (⟨5, 7⟩ : S28)] : List (S28)))).bind fun t182 => (if t182 = true then ((caulkref05_Same.f k t156 (([1, 2, 5, 6] : List Int))).bind fun t186 => (if t186 = true then (if t157 = 0 then (if t163.toList = ([97, 98, 99, 100, 101, 102] : List UInt8) then (if t164 = 0 then (if t165.toList = ([97, 88, 89, 100] : List UInt8) then (if t166 = 0 then (if bt167.2 = 1 then (some (bt171.2 == 7)) else (some false)) else (some false)) else (some false)) else (some false)) else (some false)) else (some false)) else (some false))) else (some false))) else (some false)) else (some false)) else (some false)) else (some false)) else (some false)) else (some false))))) = some r := H
 have A7 := Aside0.mk A70
 clear A70
 replace H := Option.bind_eq_some_iff.mp H
 obtain ⟨⟨t167, t168⟩, A80, H⟩ := H
 replace H : ((span_Cut.f 4 0 1048577).bind fun bt171 => ((caulkref19_Same.f k t138 (([(⟨0, 3, 4⟩ : S43), (⟨1, 0, 4⟩ : S43), (⟨2, 0, 1⟩ : S43)] : List (S43)))).bind fun t178 => (if t178 = true then (if t139 = 0 then (if (t142 == 1 && (t143 == 2)) = true then (if t144 = 0 then (if (t146 == 0 && (t147 == 0)) = true then (if t148 = 0 then ((caulkref19_SameRanges.f k t153 (([(⟨1, 3⟩ : S28), (⟨5, 7⟩ : S28)] : List (S28)))).bind fun t182 => (if t182 = true then ((caulkref05_Same.f k t156 (([1, 2, 5, 6] : List Int))).bind fun t186 => (if t186 = true then (if t157 = 0 then (if t163.toList = ([97, 98, 99, 100, 101, 102] : List UInt8) then (if t164 = 0 then (if t165.toList = ([97, 88, 89, 100] : List UInt8) then (if t166 = 0 then (if t168 = 1 then (some (bt171.2 == 7)) else (some false)) else (some false)) else (some false)) else (some false)) else (some false)) else (some false)) else (some false))) else (some false))) else (some false)) else (some false)) else (some false)) else (some false)) else (some false)) else (some false)))) = some r := H
 have A8 := Aside0.mk A80
 clear A80
 replace H := Option.bind_eq_some_iff.mp H
 obtain ⟨⟨t171, t172⟩, A90, H⟩ := H
 replace H : ((caulkref19_Same.f k t138 (([(⟨0, 3, 4⟩ : S43), (⟨1, 0, 4⟩ : S43), (⟨2, 0, 1⟩ : S43)] : List (S43)))).bind fun t178 => (if t178 = true then (if t139 = 0 then (if (t142 == 1 && (t143 == 2)) = true then (if t144 = 0 then (if (t146 == 0 && (t147 == 0)) = true then (if t148 = 0 then ((caulkref19_SameRanges.f k t153 (([(⟨1, 3⟩ : S28), (⟨5, 7⟩ : S28)] : List (S28)))).bind fun t182 => (if t182 = true then ((caulkref05_Same.f k t156 (([1, 2, 5, 6] : List Int))).bind fun t186 => (if t186 = true then (if t157 = 0 then (if t163.toList = ([97, 98, 99, 100, 101, 102] : List UInt8) then (if t164 = 0 then (if t165.toList = ([97, 88, 89, 100] : List UInt8) then (if t166 = 0 then (if t168 = 1 then (some (t172 == 7)) else (some false)) else (some false)) else (some false)) else (some false)) else (some false)) else (some false)) else (some false))) else (some false))) else (some false)) else (some false)) else (some false)) else (some false)) else (some false)) else (some false))) = some r := H
 have A9 := Aside0.mk A90
 clear A90
 obtain ⟨y175, hy175⟩ : ∃ y_ : List (S43), y_ = (([(⟨0, 3, 4⟩ : S43), (⟨1, 0, 4⟩ : S43), (⟨2, 0, 1⟩ : S43)] : List (S43))) := ⟨_, rfl⟩
 replace H : ((caulkref19_Same.f k t138 y175).bind fun t178 => (if t178 = true then (if t139 = 0 then (if (t142 == 1 && (t143 == 2)) = true then (if t144 = 0 then (if (t146 == 0 && (t147 == 0)) = true then (if t148 = 0 then ((caulkref19_SameRanges.f k t153 (([(⟨1, 3⟩ : S28), (⟨5, 7⟩ : S28)] : List (S28)))).bind fun t182 => (if t182 = true then ((caulkref05_Same.f k t156 (([1, 2, 5, 6] : List Int))).bind fun t186 => (if t186 = true then (if t157 = 0 then (if t163.toList = ([97, 98, 99, 100, 101, 102] : List UInt8) then (if t164 = 0 then (if t165.toList = ([97, 88, 89, 100] : List UInt8) then (if t166 = 0 then (if t168 = 1 then (some (t172 == 7)) else (some false)) else (some false)) else (some false)) else (some false)) else (some false)) else (some false)) else (some false))) else (some false))) else (some false)) else (some false)) else (some false)) else (some false)) else (some false)) else (some false))) = some r := by first | (rw [hy175]; with_reducible exact H) | (have H2_ := (Option.bind_some _ _).symm.trans H; rw [hy175]; with_reducible exact H2_) | (have H2_ := (Option.bind_some _ _).symm.trans H; with_reducible exact H2_) | with_reducible exact H | (rw [hy175]; exact H) | exact H
 have Ny175 := Aside0.mk hy175
 clear hy175
 replace H := Option.bind_eq_some_iff.mp H
 obtain ⟨t178, A100, H⟩ := H
 replace H : (if t178 = true then (if t139 = 0 then (if (t142 == 1 && (t143 == 2)) = true then (if t144 = 0 then (if (t146 == 0 && (t147 == 0)) = true then (if t148 = 0 then ((caulkref19_SameRanges.f k t153 (([(⟨1, 3⟩ : S28), (⟨5, 7⟩ : S28)] : List (S28)))).bind fun t182 => (if t182 = true then ((caulkref05_Same.f k t156 (([1, 2, 5, 6] : List Int))).bind fun t186 => (if t186 = true then (if t157 = 0 then (if t163.toList = ([97, 98, 99, 100, 101, 102] : List UInt8) then (if t164 = 0 then (if t165.toList = ([97, 88, 89, 100] : List UInt8) then (if t166 = 0 then (if t168 = 1 then (some (t172 == 7)) else (some false)) else (some false)) else (some false)) else (some false)) else (some false)) else (some false)) else (some false))) else (some false))) else (some false)) else (some false)) else (some false)) else (some false)) else (some false)) else (some false)) = some r := H
 have A10 := Aside0.mk A100
 clear A100
 by_cases c11 : t178 = true
 ·subst c11
  have H1 : (if t139 = 0 then (if (t142 == 1 && (t143 == 2)) = true then (if t144 = 0 then (if (t146 == 0 && (t147 == 0)) = true then (if t148 = 0 then ((caulkref19_SameRanges.f k t153 (([(⟨1, 3⟩ : S28), (⟨5, 7⟩ : S28)] : List (S28)))).bind fun t182 => (if t182 = true then ((caulkref05_Same.f k t156 (([1, 2, 5, 6] : List Int))).bind fun t186 => (if t186 = true then (if t157 = 0 then (if t163.toList = ([97, 98, 99, 100, 101, 102] : List UInt8) then (if t164 = 0 then (if t165.toList = ([97, 88, 89, 100] : List UInt8) then (if t166 = 0 then (if t168 = 1 then (some (t172 == 7)) else (some false)) else (some false)) else (some false)) else (some false)) else (some false)) else (some false)) else (some false))) else (some false))) else (some false)) else (some false)) else (some false)) else (some false)) else (some false)) = some r := by rw [if_pos rfl] at H; exact H
  clear H
  have H := H1
  clear H1
  by_cases c12 : t139 = 0
  ·rw [if_pos c12] at H
   have c12b0 : (t139 == 0) = true := beq_iff_eq.mpr c12
   have c12b1 : (t139 != 0) = false := bne_eq_false_iff_eq.mpr c12
   clear c12
   by_cases c13 : (t142 == 1 && (t143 == 2)) = true
   ·rw [if_pos c13] at H
    have c13b0 : (t142 == 1 && (t143 == 2)) = true := c13
    (try (have c13b1 : decide (t142 = 1 && (t143 == 2)) = true := by simpa using c13))
    (try (have c13b2 : (t142 == 1 && (t143 == 2)) = true := by simpa using c13))
    clear c13
    by_cases c14 : t144 = 0
    ·rw [if_pos c14] at H
     have c14b0 : (t144 == 0) = true := beq_iff_eq.mpr c14
     have c14b1 : (t144 != 0) = false := bne_eq_false_iff_eq.mpr c14
     clear c14
     by_cases c15 : (t146 == 0 && (t147 == 0)) = true
     ·rw [if_pos c15] at H
      have c15b0 : (t146 == 0 && (t147 == 0)) = true := c15
      (try (have c15b1 : decide (t146 = 0 && (t147 == 0)) = true := by simpa using c15))
      (try (have c15b2 : (t146 == 0 && (t147 == 0)) = true := by simpa using c15))
      clear c15
      by_cases c16 : t148 = 0
      ·rw [if_pos c16] at H
       have c16b0 : (t148 == 0) = true := beq_iff_eq.mpr c16
       have c16b1 : (t148 != 0) = false := bne_eq_false_iff_eq.mpr c16
       clear c16
       obtain ⟨y179, hy179⟩ : ∃ y_ : List (S28), y_ = (([(⟨1, 3⟩ : S28), (⟨5, 7⟩ : S28)] : List (S28))) := ⟨_, rfl⟩
       replace H : ((caulkref19_SameRanges.f k t153 y179).bind fun t182 => (if t182 = true then ((caulkref05_Same.f k t156 (([1, 2, 5, 6] : List Int))).bind fun t186 => (if t186 = true then (if t157 = 0 then (if t163.toList = ([97, 98, 99, 100, 101, 102] : List UInt8) then (if t164 = 0 then (if t165.toList = ([97, 88, 89, 100] : List UInt8) then (if t166 = 0 then (if t168 = 1 then (some (t172 == 7)) else (some false)) else (some false)) else (some false)) else (some false)) else (some false)) else (some false)) else (some false))) else (some false))) = some r := by first | (rw [hy179]; with_reducible exact H) | (have H2_ := (Option.bind_some _ _).symm.trans H; rw [hy179]; with_reducible exact H2_) | (have H2_ := (Option.bind_some _ _).symm.trans H; with_reducible exact H2_) | with_reducible exact H | (rw [hy179]; exact H) | exact H
       have Ny179 := Aside0.mk hy179
       clear hy179
       replace H := Option.bind_eq_some_iff.mp H
       obtain ⟨t182, A170, H⟩ := H
       replace H : (if t182 = true then ((caulkref05_Same.f k t156 (([1, 2, 5, 6] : List Int))).bind fun t186 => (if t186 = true then (if t157 = 0 then (if t163.toList = ([97, 98, 99, 100, 101, 102] : List UInt8) then (if t164 = 0 then (if t165.toList = ([97, 88, 89, 100] : List UInt8) then (if t166 = 0 then (if t168 = 1 then (some (t172 == 7)) else (some false)) else (some false)) else (some false)) else (some false)) else (some false)) else (some false)) else (some false))) else (some false)) = some r := H
       have A17 := Aside0.mk A170
       clear A170
       by_cases c18 : t182 = true
       ·subst c18
        have H1 : ((caulkref05_Same.f k t156 (([1, 2, 5, 6] : List Int))).bind fun t186 => (if t186 = true then (if t157 = 0 then (if t163.toList = ([97, 98, 99, 100, 101, 102] : List UInt8) then (if t164 = 0 then (if t165.toList = ([97, 88, 89, 100] : List UInt8) then (if t166 = 0 then (if t168 = 1 then (some (t172 == 7)) else (some false)) else (some false)) else (some false)) else (some false)) else (some false)) else (some false)) else (some false))) = some r := by rw [if_pos rfl] at H; exact H
        clear H
        have H := H1
        clear H1
        obtain ⟨y183, hy183⟩ : ∃ y_ : List Int, y_ = (([1, 2, 5, 6] : List Int)) := ⟨_, rfl⟩
        replace H : ((caulkref05_Same.f k t156 y183).bind fun t186 => (if t186 = true then (if t157 = 0 then (if t163.toList = ([97, 98, 99, 100, 101, 102] : List UInt8) then (if t164 = 0 then (if t165.toList = ([97, 88, 89, 100] : List UInt8) then (if t166 = 0 then (if t168 = 1 then (some (t172 == 7)) else (some false)) else (some false)) else (some false)) else (some false)) else (some false)) else (some false)) else (some false))) = some r := by first | (rw [hy183]; with_reducible exact H) | (have H2_ := (Option.bind_some _ _).symm.trans H; rw [hy183]; with_reducible exact H2_) | (have H2_ := (Option.bind_some _ _).symm.trans H; with_reducible exact H2_) | with_reducible exact H | (rw [hy183]; exact H) | exact H
        have Ny183 := Aside0.mk hy183
        clear hy183
        replace H := Option.bind_eq_some_iff.mp H
        obtain ⟨t186, A190, H⟩ := H
        replace H : (if t186 = true then (if t157 = 0 then (if t163.toList = ([97, 98, 99, 100, 101, 102] : List UInt8) then (if t164 = 0 then (if t165.toList = ([97, 88, 89, 100] : List UInt8) then (if t166 = 0 then (if t168 = 1 then (some (t172 == 7)) else (some false)) else (some false)) else (some false)) else (some false)) else (some false)) else (some false)) else (some false)) = some r := H
        have A19 := Aside0.mk A190
        clear A190
        by_cases c20 : t186 = true
        ·subst c20
         have H1 : (if t157 = 0 then (if t163.toList = ([97, 98, 99, 100, 101, 102] : List UInt8) then (if t164 = 0 then (if t165.toList = ([97, 88, 89, 100] : List UInt8) then (if t166 = 0 then (if t168 = 1 then (some (t172 == 7)) else (some false)) else (some false)) else (some false)) else (some false)) else (some false)) else (some false)) = some r := by rw [if_pos rfl] at H; exact H
         clear H
         have H := H1
         clear H1
         by_cases c21 : t157 = 0
         ·rw [if_pos c21] at H
          have c21b0 : (t157 == 0) = true := beq_iff_eq.mpr c21
          have c21b1 : (t157 != 0) = false := bne_eq_false_iff_eq.mpr c21
          clear c21
          by_cases c22 : t163.toList = ([97, 98, 99, 100, 101, 102] : List UInt8)
          ·rw [if_pos c22] at H
           have c22b0 : (t163.toList == ([97, 98, 99, 100, 101, 102] : List UInt8)) = true := beq_iff_eq.mpr c22
           have c22b1 : (t163.toList != ([97, 98, 99, 100, 101, 102] : List UInt8)) = false := bne_eq_false_iff_eq.mpr c22
           clear c22
           by_cases c23 : t164 = 0
           ·rw [if_pos c23] at H
            have c23b0 : (t164 == 0) = true := beq_iff_eq.mpr c23
            have c23b1 : (t164 != 0) = false := bne_eq_false_iff_eq.mpr c23
            clear c23
            by_cases c24 : t165.toList = ([97, 88, 89, 100] : List UInt8)
            ·rw [if_pos c24] at H
             have c24b0 : (t165.toList == ([97, 88, 89, 100] : List UInt8)) = true := beq_iff_eq.mpr c24
             have c24b1 : (t165.toList != ([97, 88, 89, 100] : List UInt8)) = false := bne_eq_false_iff_eq.mpr c24
             clear c24
             by_cases c25 : t166 = 0
             ·rw [if_pos c25] at H
              have c25b0 : (t166 == 0) = true := beq_iff_eq.mpr c25
              have c25b1 : (t166 != 0) = false := bne_eq_false_iff_eq.mpr c25
              clear c25
              by_cases c26 : t168 = 1
              ·rw [if_pos c26] at H
               have c26b0 : (t168 == 1) = true := beq_iff_eq.mpr c26
               have c26b1 : (t168 != 1) = false := bne_eq_false_iff_eq.mpr c26
               clear c26
               obtain rfl := Option.some.inj H
               go_enter Try.func6, Try.ntmps6
               (try simp only [List.append_eq, List.cons_append, List.nil_append])
               go_wp2_with (first | ((with_reducible refine HOpen.gate_append ?_); simp only [List.cons_append, List.nil_append]) | ((with_reducible refine gate_callee (f := 7) rfl ?_); refine goesL_ (some 19) rfl rfl Try.func7 (by kernel_rfl) rfl #[.int .i64 4, .int .i64 3, .int .i64 6] rfl (by (try simp only [List.map_toArray, List.map_cons, List.map_nil]); first | done | rfl | (simp only [List.length_drop, List.length_take]; rfl)) ?_; (with_reducible refine (span_Cut.calls 4 3 6 t138 t139 _ A1.out).mono ?_); rintro e w27 ⟨v140, rfl, ho0, hb⟩; refine ⟨_, rfl, ?_⟩; have n0_ := Aside0.mk (Kd.R_lower ho0 (below_size (by repeat (first | (with_reducible first | exact HB.out | apply below_alloc | apply pw_below_drewN | apply below_drew1) | exact HB.out)))); have n1_ := Aside0.mk (below_step (by repeat (first | (with_reducible first | exact HB.out | apply below_alloc | apply pw_below_drewN | apply below_drew1) | exact HB.out)) hb); clear HB; have HO141 := n0_; have HB := n1_; clear n0_ n1_; (try clear hb); (try clear hb2); (try clear hk); (try clear hi); (try clear ho0)) | ((with_reducible refine gate_callee (f := 9) rfl ?_); refine goesL_ (some 23) rfl rfl Try.func9 (by kernel_rfl) rfl #[.int .i64 4, .int .i64 3, .int .i64 6] rfl (by (try simp only [List.map_toArray, List.map_cons, List.map_nil]); first | done | rfl | (simp only [List.length_drop, List.length_take]; rfl)) ?_; (with_reducible refine (span_Whole.calls 4 3 6 t142 t143 t144 _ A2.out).mono ?_); rintro e w28 ⟨rfl, hb⟩; refine ⟨_, rfl, ?_⟩; have n0_ := Aside0.mk (Kd.R_below (by (with_reducible repeat (first | apply Kd.R_alloc | apply Kd.R_drewN | apply Kd.R_drew)); exact HO141.out) hb); have n1_ := Aside0.mk (below_step (by repeat (first | (with_reducible first | exact HB.out | apply below_alloc | apply pw_below_drewN | apply below_drew1) | exact HB.out)) hb); clear HO141; clear HB; have HO141 := n0_; have HB := n1_; clear n0_ n1_; (try clear hb); (try clear hb2); (try clear hk); (try clear hi)) | ((with_reducible refine gate_dst (N := 3) rfl ?_); (try (refine gate_guard (by rfl) ?_; dsimp only)); refine box_event ?hg (N := 3) ?hd (cs := #[.int .i64 0, .int .i64 0]) (t := 28) ?hr ?_; (case hd => rfl); (case hg => rfl); (case hr => first | (go_simp; done) | (go_simp; rfl)); intro gb145 hg w29 hbox hb; have n0_ := Aside0.mk (Kd.R_below (by (with_reducible repeat (first | apply Kd.R_alloc | apply Kd.R_drewN | apply Kd.R_drew)); exact HO141.out) hb); have n1_ := Aside0.mk (below_step (by repeat (first | (with_reducible first | exact HB.out | apply below_alloc | apply pw_below_drewN | apply below_drew1) | exact HB.out)) hb); have n2_ := Aside0.mk (hbox); have n3_ := Aside0.mk ((by rw [hg]; exact (below_size (by repeat (first | (with_reducible first | exact HB.out | apply below_alloc | apply pw_below_drewN | apply below_drew1) | exact HB.out))) : w.heap.size ≤ gb145)); have n4_ := Aside0.mk ((by rw [hg]; exact (below_size (by repeat (first | (with_reducible first | exact HB.out | apply below_alloc | apply pw_below_drewN | apply below_drew1) | exact HB.out))) : w.heap.size ≤ gb145)); clear HO141; clear HB; have HO141 := n0_; have HB := n1_; have BK145 := n2_; have GW145 := n3_; have GE145 := n4_; clear n0_ n1_ n2_ n3_ n4_; clear hb hbox hg; have hcz30_0 : w29.cell? ⟨gb145, 0, none⟩ = some (.int .i64 0) := (blk_cell BK145.out 0).trans rfl; have hcz30_1 : w29.cell? ⟨gb145, 1, none⟩ = some (.int .i64 0) := (blk_cell BK145.out 1).trans rfl; have hfz30_0 := blk_frozen BK145.out 0; have hfz30_1 := blk_frozen BK145.out 1) | ((with_reducible refine gate_callee (f := 9) rfl ?_); refine goesL_ (some 27) rfl rfl Try.func9 (by kernel_rfl) rfl #[.int .i64 4, .int .i64 3, .int .i64 4] rfl (by (try simp only [List.map_toArray, List.map_cons, List.map_nil]); first | done | rfl | (simp only [List.length_drop, List.length_take]; rfl)) ?_; (with_reducible refine (span_Whole.calls 4 3 4 t146 t147 t148 _ A3.out).mono ?_); rintro e w31 ⟨rfl, hb⟩; refine ⟨_, rfl, ?_⟩; have n0_ := Aside0.mk (Kd.R_below (by (with_reducible repeat (first | apply Kd.R_alloc | apply Kd.R_drewN | apply Kd.R_drew)); exact (Kd.R_mono (Kd.R_far (p := ⟨gb145, 1, none⟩) (Kd.R_far (p := ⟨gb145, 0, none⟩) (Kd.R_types HO141.out BK145.out (by decide)) (fun _ hk => hk.2) (.int .i64 t142)) (fun _ hk => hk.2) (.int .i64 t143)) (fun _ h_ => h_.1))) hb); have n1_ := Aside0.mk (blk_below (g := gb145) (o := .cells #[.int .i64 t142, .int .i64 t143] 28 (0, 0)) (by (with_reducible repeat (first | refine blk_drewN ?_ _ | refine blk_drew ?_ | refine blk_alloc ?_ _)); refine blk_put (cs := #[.int .i64 t142, .int .i64 0]) ?_ 1 _ rfl; (with_reducible repeat (first | refine blk_drewN ?_ _ | refine blk_drew ?_ | refine blk_alloc ?_ _)); refine blk_put (cs := #[.int .i64 0, .int .i64 0]) ?_ 0 _ rfl; (with_reducible repeat (first | refine blk_drewN ?_ _ | refine blk_drew ?_ | refine blk_alloc ?_ _)); exact BK145.out) hb); have n2_ := Aside0.mk (below_step (by repeat (first | (with_reducible first | exact HB.out | apply below_alloc | apply pw_below_drewN | apply below_drew1 | refine below_set ?_ GE145.out) | exact HB.out)) hb); clear HO141; clear BK145; clear HB; have HO141 := n0_; have BK145 := n1_; have HB := n2_; clear n0_ n1_ n2_; (try clear hb); (try clear hb2); (try clear hk); (try clear hi)) | ((with_reducible refine gate_dst (N := 5) rfl ?_); (try (refine gate_guard (by rfl) ?_; dsimp only)); refine box_event ?hg (N := 5) ?hd (cs := #[.int .i64 0, .int .i64 0]) (t := 28) ?hr ?_; (case hd => rfl); (case hg => rfl); (case hr => first | (go_simp; done) | (go_simp; rfl)); intro gb149 hg w32 hbox hb; have n0_ := Aside0.mk (Kd.R_below (by (with_reducible repeat (first | apply Kd.R_alloc | apply Kd.R_drewN | apply Kd.R_drew)); exact HO141.out) hb); have n1_ := Aside0.mk (blk_below (g := gb145) (o := .cells #[.int .i64 t142, .int .i64 t143] 28 (0, 0)) (by (with_reducible repeat (first | refine blk_drewN ?_ _ | refine blk_drew ?_ | refine blk_alloc ?_ _)); exact BK145.out) hb); have n2_ := Aside0.mk (below_step (by repeat (first | (with_reducible first | exact HB.out | apply below_alloc | apply pw_below_drewN | apply below_drew1 | refine below_set ?_ GE145.out) | exact HB.out)) hb); have n3_ := Aside0.mk (hbox); have n4_ := Aside0.mk ((by rw [hg]; exact (below_size (by repeat (first | (with_reducible first | exact HB.out | apply below_alloc | apply pw_below_drewN | apply below_drew1 | refine below_set ?_ GE145.out) | exact HB.out))) : w.heap.size ≤ gb149)); have n5_ := Aside0.mk ((by rw [hg]; exact (below_size (by repeat (first | (with_reducible first | exact HB.out | apply below_alloc | apply pw_below_drewN | apply below_drew1 | refine below_set ?_ GE145.out) | exact HB.out))) : w.heap.size ≤ gb149)); have n6_ := Aside0.mk ((by rw [hg]; exact Nat.ne_of_lt (blk_lt (g := gb145) (o := .cells #[.int .i64 t142, .int .i64 t143] 28 (0, 0)) (by (with_reducible repeat (first | refine blk_drewN ?_ _ | refine blk_drew ?_ | refine blk_alloc ?_ _)); exact BK145.out)) : gb145 ≠ gb149)); have n7_ := Aside0.mk ((by rw [hg]; exact Nat.ne_of_gt (blk_lt (g := gb145) (o := .cells #[.int .i64 t142, .int .i64 t143] 28 (0, 0)) (by (with_reducible repeat (first | refine blk_drewN ?_ _ | refine blk_drew ?_ | refine blk_alloc ?_ _)); exact BK145.out)) : gb149 ≠ gb145)); clear HO141; clear BK145; clear HB; have HO141 := n0_; have BK145 := n1_; have HB := n2_; have BK149 := n3_; have GW149 := n4_; have GE149 := n5_; have NB145_149 := n6_; have NB149_145 := n7_; clear n0_ n1_ n2_ n3_ n4_ n5_ n6_ n7_; clear hb hbox hg; have hnb33 := NB149_145.out; have hnc33 := NB145_149.out; have hcz34_0 : w32.cell? ⟨gb149, 0, none⟩ = some (.int .i64 0) := (blk_cell BK149.out 0).trans rfl; have hcz34_1 : w32.cell? ⟨gb149, 1, none⟩ = some (.int .i64 0) := (blk_cell BK149.out 1).trans rfl; have hfz34_0 := blk_frozen BK149.out 0; have hfz34_1 := blk_frozen BK149.out 1) | ((with_reducible refine gate_dst (N := 30) rfl ?_); (try (refine gate_guard (by rfl) ?_; dsimp only)); refine Kd.R_lit (Kd.int .i64) _ 3 ?hg (N := 30) ?hd (xs := ([5, 1, 2, 5, 6] : List Int)) (inner := [.int .i64 5, .int .i64 1, .int .i64 2, .int .i64 5, .int .i64 6]) (ok := fun _ => True) (okp := fun _ => True) ?hr ?hp (fun _ hk => hk) trivial (Below.refl _ _) (Nat.le_refl _) (by simp) ?_; (case hd => rfl); (case hg => rfl); (case hr => first | (go_simp; done) | (go_simp; rfl)); (case hp => exact (Reps.one (show Kd.M (Kd.int .i64) _ _ _ 5 [.int .i64 5] from rfl) (Reps.one (show Kd.M (Kd.int .i64) _ _ _ 1 [.int .i64 1] from rfl) (Reps.one (show Kd.M (Kd.int .i64) _ _ _ 2 [.int .i64 2] from rfl) (Reps.one (show Kd.M (Kd.int .i64) _ _ _ 5 [.int .i64 5] from rfl) (Reps.one (show Kd.M (Kd.int .i64) _ _ _ 6 [.int .i64 6] from rfl) (Reps.none _ _))))))); intro v151 w35 ho36 hb hg_ hnew_; clear hg_ hnew_; (first | rw [← Ny150.out] at ho36 | (simp only [Int.reduceToNat] at ho36; rw [← Ny150.out] at ho36)); have n0_ := Aside0.mk (Kd.R_below (by (with_reducible repeat (first | apply Kd.R_alloc | apply Kd.R_drewN | apply Kd.R_drew)); exact (Kd.R_mono (Kd.R_far (p := ⟨gb149, 1, none⟩) (Kd.R_far (p := ⟨gb149, 0, none⟩) (Kd.R_types HO141.out BK149.out (by decide)) (fun _ hk => hk.2) (.int .i64 t146)) (fun _ hk => hk.2) (.int .i64 t147)) (fun _ h_ => h_.1))) hb); have n1_ := Aside0.mk (Kd.R_lower ho36 (below_size (by repeat (first | (with_reducible first | exact HB.out | apply below_alloc | apply pw_below_drewN | apply below_drew1 | refine below_set ?_ GE145.out | refine below_set ?_ GE149.out) | exact HB.out)))); have n2_ := Aside0.mk (blk_below (g := gb145) (o := .cells #[.int .i64 t142, .int .i64 t143] 28 (0, 0)) (by (with_reducible repeat (first | refine blk_drewN ?_ _ | refine blk_drew ?_ | refine blk_alloc ?_ _)); refine blk_far ?_ NB145_149.out _; (with_reducible repeat (first | refine blk_drewN ?_ _ | refine blk_drew ?_ | refine blk_alloc ?_ _)); refine blk_far ?_ NB145_149.out _; (with_reducible repeat (first | refine blk_drewN ?_ _ | refine blk_drew ?_ | refine blk_alloc ?_ _)); exact BK145.out) hb); have n3_ := Aside0.mk (blk_below (g := gb149) (o := .cells #[.int .i64 t146, .int .i64 t147] 28 (0, 0)) (by (with_reducible repeat (first | refine blk_drewN ?_ _ | refine blk_drew ?_ | refine blk_alloc ?_ _)); refine blk_put (cs := #[.int .i64 t146, .int .i64 0]) ?_ 1 _ rfl; (with_reducible repeat (first | refine blk_drewN ?_ _ | refine blk_drew ?_ | refine blk_alloc ?_ _)); refine blk_put (cs := #[.int .i64 0, .int .i64 0]) ?_ 0 _ rfl; (with_reducible repeat (first | refine blk_drewN ?_ _ | refine blk_drew ?_ | refine blk_alloc ?_ _)); exact BK149.out) hb); have n4_ := Aside0.mk (below_step (by repeat (first | (with_reducible first | exact HB.out | apply below_alloc | apply pw_below_drewN | apply below_drew1 | refine below_set ?_ GE145.out | refine below_set ?_ GE149.out) | exact HB.out)) hb); clear HO141; clear BK145; clear BK149; clear HB; have HO141 := n0_; have HO152 := n1_; have BK145 := n2_; have BK149 := n3_; have HB := n4_; clear n0_ n1_ n2_ n3_ n4_; clear hb ho36; obtain ⟨Ao37, co37, eo37⟩ := Kd.R_slice HO152.out; subst eo37) | ((with_reducible refine gate_callee (f := 20) rfl ?_); refine goesL_ (some 31) rfl rfl Try.func20 (by kernel_rfl) rfl #[.slice Ao37 y150.length co37] rfl (by (try simp only [List.map_toArray, List.map_cons, List.map_nil]); first | done | rfl | (simp only [List.length_drop, List.length_take]; rfl)) ?_; (with_reducible refine (span_Merge.calls k _ _ y150 t153 _ ?side1 ?side2 A4.out).mono ?_); (case side1 => repeat (first | exact (Kd.R_reads' HO152.out).2.2 | (with_reducible refine Kd.C_alloc ?_ _) | (with_reducible refine Kd.C_drewN ?_ _) | (with_reducible refine Kd.C_drew ?_))); (case side2 => exact (Kd.R_reads' HO152.out).2.1); rintro e w38 ⟨v154, rfl, ho0, hb⟩; refine ⟨_, rfl, ?_⟩; have n0_ := Aside0.mk (Kd.R_below (by (with_reducible repeat (first | apply Kd.R_alloc | apply Kd.R_drewN | apply Kd.R_drew)); exact HO141.out) hb); have n1_ := Aside0.mk (Kd.R_below (by (with_reducible repeat (first | apply Kd.R_alloc | apply Kd.R_drewN | apply Kd.R_drew)); exact HO152.out) hb); have n2_ := Aside0.mk (Kd.R_lower (Kd.R_newB (Kd.R_newB ho0 (g := gb145) (o := .cells #[.int .i64 t142, .int .i64 t143] 28 (0, 0)) (by (with_reducible repeat (first | refine blk_drewN ?_ _ | refine blk_drew ?_ | refine blk_alloc ?_ _)); exact BK145.out)) (g := gb149) (o := .cells #[.int .i64 t146, .int .i64 t147] 28 (0, 0)) (by (with_reducible repeat (first | refine blk_drewN ?_ _ | refine blk_drew ?_ | refine blk_alloc ?_ _)); exact BK149.out)) (below_size (by repeat (first | (with_reducible first | exact HB.out | apply below_alloc | apply pw_below_drewN | apply below_drew1 | refine below_set ?_ GE145.out | refine below_set ?_ GE149.out) | exact HB.out)))); have n3_ := Aside0.mk (blk_below (g := gb145) (o := .cells #[.int .i64 t142, .int .i64 t143] 28 (0, 0)) (by (with_reducible repeat (first | refine blk_drewN ?_ _ | refine blk_drew ?_ | refine blk_alloc ?_ _)); exact BK145.out) hb); have n4_ := Aside0.mk (blk_below (g := gb149) (o := .cells #[.int .i64 t146, .int .i64 t147] 28 (0, 0)) (by (with_reducible repeat (first | refine blk_drewN ?_ _ | refine blk_drew ?_ | refine blk_alloc ?_ _)); exact BK149.out) hb); have n5_ := Aside0.mk (below_step (by repeat (first | (with_reducible first | exact HB.out | apply below_alloc | apply pw_below_drewN | apply below_drew1 | refine below_set ?_ GE145.out | refine below_set ?_ GE149.out) | exact HB.out)) hb); clear HO141; clear HO152; clear BK145; clear BK149; clear HB; have HO141 := n0_; have HO152 := n1_; have HO155 := n2_; have BK145 := n3_; have BK149 := n4_; have HB := n5_; clear n0_ n1_ n2_ n3_ n4_ n5_; (try clear hb); (try clear hb2); (try clear hk); (try clear hi); (try clear ho0); obtain ⟨Ao39, co39, eo39⟩ := Kd.R_slice HO155.out; subst eo39) | ((with_reducible refine gate_callee (f := 13) rfl ?_); refine goesL_ (some 34) rfl rfl Try.func13 (by kernel_rfl) rfl #[.slice Ao39 t153.length co39] rfl (by (try simp only [List.map_toArray, List.map_cons, List.map_nil]); first | done | rfl | (simp only [List.length_drop, List.length_take]; rfl)) ?_; (with_reducible refine (span_Blocks.calls k _ _ t153 t156 t157 _ ?side1 ?side2 A5.out).mono ?_); (case side1 => repeat (first | exact (Kd.R_reads' HO155.out).2.2 | (with_reducible refine Kd.C_alloc ?_ _) | (with_reducible refine Kd.C_drewN ?_ _) | (with_reducible refine Kd.C_drew ?_))); (case side2 => exact (Kd.R_reads' HO155.out).2.1); rintro e w40 ⟨v158, rfl, ho0, hb⟩; refine ⟨_, rfl, ?_⟩; have n0_ := Aside0.mk (Kd.R_below (by (with_reducible repeat (first | apply Kd.R_alloc | apply Kd.R_drewN | apply Kd.R_drew)); exact HO141.out) hb); have n1_ := Aside0.mk (Kd.R_elder' (by (with_reducible repeat (first | apply Kd.R_alloc | apply Kd.R_drewN | apply Kd.R_drew)); exact HO152.out) (Kd.R_base ho0) hb); have n2_ := Aside0.mk (Kd.R_below (by (with_reducible repeat (first | apply Kd.R_alloc | apply Kd.R_drewN | apply Kd.R_drew)); exact HO155.out) hb); have n3_ := Aside0.mk (Kd.R_lower (Kd.R_new' ho0 (Kd.R_lt (by (with_reducible repeat (first | apply Kd.R_alloc | apply Kd.R_drewN | apply Kd.R_drew)); exact HO152.out))) (below_size (by repeat (first | (with_reducible first | exact HB.out | apply below_alloc | apply pw_below_drewN | apply below_drew1 | refine below_set ?_ GE145.out | refine below_set ?_ GE149.out) | exact HB.out)))); have n4_ := Aside0.mk (blk_below (g := gb145) (o := .cells #[.int .i64 t142, .int .i64 t143] 28 (0, 0)) (by (with_reducible repeat (first | refine blk_drewN ?_ _ | refine blk_drew ?_ | refine blk_alloc ?_ _)); exact BK145.out) hb); have n5_ := Aside0.mk (blk_below (g := gb149) (o := .cells #[.int .i64 t146, .int .i64 t147] 28 (0, 0)) (by (with_reducible repeat (first | refine blk_drewN ?_ _ | refine blk_drew ?_ | refine blk_alloc ?_ _)); exact BK149.out) hb); have n6_ := Aside0.mk (below_step (by repeat (first | (with_reducible first | exact HB.out | apply below_alloc | apply pw_below_drewN | apply below_drew1 | refine below_set ?_ GE145.out | refine below_set ?_ GE149.out) | exact HB.out)) hb); clear HO141; clear HO152; clear HO155; clear BK145; clear BK149; clear HB; have HO141 := n0_; have HO152 := n1_; have HO155 := n2_; have HO159 := n3_; have BK145 := n4_; have BK149 := n5_; have HB := n6_; clear n0_ n1_ n2_ n3_ n4_ n5_ n6_; (try clear hb); (try clear hb2); (try clear hk); (try clear hi); (try clear ho0)) | ((with_reducible refine gate_dst (N := 39) rfl ?_); (try (refine gate_guard (by rfl) ?_; dsimp only)); refine Kd.R_lit Kd.string _ 9 ?hg (N := 39) ?hd (xs := ([(⟨#[97]⟩ : ByteArray), (⟨#[98, 99, 100, 101]⟩ : ByteArray), (⟨#[102]⟩ : ByteArray)] : List ByteArray)) (inner := [.string (⟨#[97]⟩ : ByteArray), .string (⟨#[98, 99, 100, 101]⟩ : ByteArray), .string (⟨#[102]⟩ : ByteArray)]) (ok := fun _ => True) (okp := fun _ => True) ?hr ?hp (fun _ hk => hk) trivial (Below.refl _ _) (Nat.le_refl _) (by simp) ?_; (case hd => rfl); (case hg => rfl); (case hr => first | (go_simp; done) | (go_simp; rfl)); (case hp => exact (Reps.one (show Kd.M Kd.string _ _ _ (⟨#[97]⟩ : ByteArray) [.string (⟨#[97]⟩ : ByteArray)] from rfl) (Reps.one (show Kd.M Kd.string _ _ _ (⟨#[98, 99, 100, 101]⟩ : ByteArray) [.string (⟨#[98, 99, 100, 101]⟩ : ByteArray)] from rfl) (Reps.one (show Kd.M Kd.string _ _ _ (⟨#[102]⟩ : ByteArray) [.string (⟨#[102]⟩ : ByteArray)] from rfl) (Reps.none _ _))))); intro v161 w41 ho42 hb hg_ hnew_; clear hg_ hnew_; (first | rw [← Ny160.out] at ho42 | (simp only [Int.reduceToNat] at ho42; rw [← Ny160.out] at ho42)); have n0_ := Aside0.mk (Kd.R_below (by (with_reducible repeat (first | apply Kd.R_alloc | apply Kd.R_drewN | apply Kd.R_drew)); exact HO141.out) hb); have n1_ := Aside0.mk (Kd.R_below (by (with_reducible repeat (first | apply Kd.R_alloc | apply Kd.R_drewN | apply Kd.R_drew)); exact HO152.out) hb); have n2_ := Aside0.mk (Kd.R_below (by (with_reducible repeat (first | apply Kd.R_alloc | apply Kd.R_drewN | apply Kd.R_drew)); exact HO155.out) hb); have n3_ := Aside0.mk (Kd.R_below (by (with_reducible repeat (first | apply Kd.R_alloc | apply Kd.R_drewN | apply Kd.R_drew)); exact HO159.out) hb); have n4_ := Aside0.mk (Kd.R_lower ho42 (below_size (by repeat (first | (with_reducible first | exact HB.out | apply below_alloc | apply pw_below_drewN | apply below_drew1 | refine below_set ?_ GE145.out | refine below_set ?_ GE149.out) | exact HB.out)))); have n5_ := Aside0.mk (blk_below (g := gb145) (o := .cells #[.int .i64 t142, .int .i64 t143] 28 (0, 0)) (by (with_reducible repeat (first | refine blk_drewN ?_ _ | refine blk_drew ?_ | refine blk_alloc ?_ _)); exact BK145.out) hb); have n6_ := Aside0.mk (blk_below (g := gb149) (o := .cells #[.int .i64 t146, .int .i64 t147] 28 (0, 0)) (by (with_reducible repeat (first | refine blk_drewN ?_ _ | refine blk_drew ?_ | refine blk_alloc ?_ _)); exact BK149.out) hb); have n7_ := Aside0.mk (below_step (by repeat (first | (with_reducible first | exact HB.out | apply below_alloc | apply pw_below_drewN | apply below_drew1 | refine below_set ?_ GE145.out | refine below_set ?_ GE149.out) | exact HB.out)) hb); clear HO141; clear HO152; clear HO155; clear HO159; clear BK145; clear BK149; clear HB; have HO141 := n0_; have HO152 := n1_; have HO155 := n2_; have HO159 := n3_; have HO162 := n4_; have BK145 := n5_; have BK149 := n6_; have HB := n7_; clear n0_ n1_ n2_ n3_ n4_ n5_ n6_ n7_; clear hb ho42; obtain ⟨Ao43, co43, eo43⟩ := Kd.R_slice HO141.out; subst eo43; obtain ⟨Ao44, co44, eo44⟩ := Kd.R_slice HO162.out; subst eo44) | ((with_reducible refine gate_callee (f := 15) rfl ?_); refine goesL_ (some 40) rfl rfl Try.func15 (by kernel_rfl) rfl #[.int .i64 4, .slice Ao43 t138.length co43, .slice Ao44 y160.length co44] rfl (by (try simp only [List.map_toArray, List.map_cons, List.map_nil]); first | done | rfl | (simp only [List.length_drop, List.length_take]; rfl)) ?_; (with_reducible refine (span_Join.calls k 4 _ _ t138 _ _ y160 t163 t164 _ ?side1 ?side2 ?side3 ?side4 A6.out).mono ?_); (case side1 => repeat (first | exact (Kd.R_reads' HO141.out).2.2 | (with_reducible refine Kd.C_alloc ?_ _) | (with_reducible refine Kd.C_drewN ?_ _) | (with_reducible refine Kd.C_drew ?_))); (case side2 => exact (Kd.R_reads' HO141.out).2.1); (case side3 => repeat (first | exact (Kd.R_reads' HO162.out).2.2 | (with_reducible refine Kd.C_alloc ?_ _) | (with_reducible refine Kd.C_drewN ?_ _) | (with_reducible refine Kd.C_drew ?_))); (case side4 => exact (Kd.R_reads' HO162.out).2.1); rintro e w45 ⟨rfl, hb⟩; refine ⟨_, rfl, ?_⟩; have n0_ := Aside0.mk (Kd.R_below (by (with_reducible repeat (first | apply Kd.R_alloc | apply Kd.R_drewN | apply Kd.R_drew)); exact HO141.out) hb); have n1_ := Aside0.mk (Kd.R_below (by (with_reducible repeat (first | apply Kd.R_alloc | apply Kd.R_drewN | apply Kd.R_drew)); exact HO152.out) hb); have n2_ := Aside0.mk (Kd.R_below (by (with_reducible repeat (first | apply Kd.R_alloc | apply Kd.R_drewN | apply Kd.R_drew)); exact HO155.out) hb); have n3_ := Aside0.mk (Kd.R_below (by (with_reducible repeat (first | apply Kd.R_alloc | apply Kd.R_drewN | apply Kd.R_drew)); exact HO159.out) hb); have n4_ := Aside0.mk (Kd.R_below (by (with_reducible repeat (first | apply Kd.R_alloc | apply Kd.R_drewN | apply Kd.R_drew)); exact HO162.out) hb); have n5_ := Aside0.mk (blk_below (g := gb145) (o := .cells #[.int .i64 t142, .int .i64 t143] 28 (0, 0)) (by (with_reducible repeat (first | refine blk_drewN ?_ _ | refine blk_drew ?_ | refine blk_alloc ?_ _)); exact BK145.out) hb); have n6_ := Aside0.mk (blk_below (g := gb149) (o := .cells #[.int .i64 t146, .int .i64 t147] 28 (0, 0)) (by (with_reducible repeat (first | refine blk_drewN ?_ _ | refine blk_drew ?_ | refine blk_alloc ?_ _)); exact BK149.out) hb); have n7_ := Aside0.mk (below_step (by repeat (first | (with_reducible first | exact HB.out | apply below_alloc | apply pw_below_drewN | apply below_drew1 | refine below_set ?_ GE145.out | refine below_set ?_ GE149.out) | exact HB.out)) hb); clear HO141; clear HO152; clear HO155; clear HO159; clear HO162; clear BK145; clear BK149; clear HB; have HO141 := n0_; have HO152 := n1_; have HO155 := n2_; have HO159 := n3_; have HO162 := n4_; have BK145 := n5_; have BK149 := n6_; have HB := n7_; clear n0_ n1_ n2_ n3_ n4_ n5_ n6_ n7_; (try clear hb); (try clear hb2); (try clear hk); (try clear hi)) | ((with_reducible refine gate_callee (f := 17) rfl ?_); refine goesL_ (some 45) rfl rfl Try.func17 (by kernel_rfl) rfl #[.string (⟨#[97, 98, 99, 100]⟩ : ByteArray), .agg #[.int .i64 0, .int .i64 1, .int .i64 3], .string (⟨#[88, 89]⟩ : ByteArray)] rfl (by (try simp only [List.map_toArray, List.map_cons, List.map_nil]); first | done | rfl | (simp only [List.length_drop, List.length_take]; rfl)) ?_; (with_reducible refine (span_Over.calls (⟨#[97, 98, 99, 100]⟩ : ByteArray) 0 1 3 (⟨#[88, 89]⟩ : ByteArray) t165 t166 _ A7.out).mono ?_); rintro e w46 ⟨rfl, hb⟩; refine ⟨_, rfl, ?_⟩; have n0_ := Aside0.mk (Kd.R_below (by (with_reducible repeat (first | apply Kd.R_alloc | apply Kd.R_drewN | apply Kd.R_drew)); exact HO141.out) hb); have n1_ := Aside0.mk (Kd.R_below (by (with_reducible repeat (first | apply Kd.R_alloc | apply Kd.R_drewN | apply Kd.R_drew)); exact HO152.out) hb); have n2_ := Aside0.mk (Kd.R_below (by (with_reducible repeat (first | apply Kd.R_alloc | apply Kd.R_drewN | apply Kd.R_drew)); exact HO155.out) hb); have n3_ := Aside0.mk (Kd.R_below (by (with_reducible repeat (first | apply Kd.R_alloc | apply Kd.R_drewN | apply Kd.R_drew)); exact HO159.out) hb); have n4_ := Aside0.mk (Kd.R_below (by (with_reducible repeat (first | apply Kd.R_alloc | apply Kd.R_drewN | apply Kd.R_drew)); exact HO162.out) hb); have n5_ := Aside0.mk (blk_below (g := gb145) (o := .cells #[.int .i64 t142, .int .i64 t143] 28 (0, 0)) (by (with_reducible repeat (first | refine blk_drewN ?_ _ | refine blk_drew ?_ | refine blk_alloc ?_ _)); exact BK145.out) hb); have n6_ := Aside0.mk (blk_below (g := gb149) (o := .cells #[.int .i64 t146, .int .i64 t147] 28 (0, 0)) (by (with_reducible repeat (first | refine blk_drewN ?_ _ | refine blk_drew ?_ | refine blk_alloc ?_ _)); exact BK149.out) hb); have n7_ := Aside0.mk (below_step (by repeat (first | (with_reducible first | exact HB.out | apply below_alloc | apply pw_below_drewN | apply below_drew1 | refine below_set ?_ GE145.out | refine below_set ?_ GE149.out) | exact HB.out)) hb); clear HO141; clear HO152; clear HO155; clear HO159; clear HO162; clear BK145; clear BK149; clear HB; have HO141 := n0_; have HO152 := n1_; have HO155 := n2_; have HO159 := n3_; have HO162 := n4_; have BK145 := n5_; have BK149 := n6_; have HB := n7_; clear n0_ n1_ n2_ n3_ n4_ n5_ n6_ n7_; (try clear hb); (try clear hb2); (try clear hk); (try clear hi)) | ((with_reducible refine gate_callee (f := 7) rfl ?_); refine goesL_ (some 49) rfl rfl Try.func7 (by kernel_rfl) rfl #[.int .i64 0, .int .i64 0, .int .i64 0] rfl (by (try simp only [List.map_toArray, List.map_cons, List.map_nil]); first | done | rfl | (simp only [List.length_drop, List.length_take]; rfl)) ?_; (with_reducible refine (span_Cut.calls 0 0 0 t167 t168 _ A8.out).mono ?_); rintro e w47 ⟨v169, rfl, ho0, hb⟩; refine ⟨_, rfl, ?_⟩; have n0_ := Aside0.mk (Kd.R_elder' (by (with_reducible repeat (first | apply Kd.R_alloc | apply Kd.R_drewN | apply Kd.R_drew)); exact HO141.out) (Kd.R_base ho0) hb); have n1_ := Aside0.mk (Kd.R_below (by (with_reducible repeat (first | apply Kd.R_alloc | apply Kd.R_drewN | apply Kd.R_drew)); exact HO152.out) hb); have n2_ := Aside0.mk (Kd.R_below (by (with_reducible repeat (first | apply Kd.R_alloc | apply Kd.R_drewN | apply Kd.R_drew)); exact HO155.out) hb); have n3_ := Aside0.mk (Kd.R_below (by (with_reducible repeat (first | apply Kd.R_alloc | apply Kd.R_drewN | apply Kd.R_drew)); exact HO159.out) hb); have n4_ := Aside0.mk (Kd.R_below (by (with_reducible repeat (first | apply Kd.R_alloc | apply Kd.R_drewN | apply Kd.R_drew)); exact HO162.out) hb); have n5_ := Aside0.mk (Kd.R_lower (Kd.R_new' ho0 (Kd.R_lt (by (with_reducible repeat (first | apply Kd.R_alloc | apply Kd.R_drewN | apply Kd.R_drew)); exact HO141.out))) (below_size (by repeat (first | (with_reducible first | exact HB.out | apply below_alloc | apply pw_below_drewN | apply below_drew1 | refine below_set ?_ GE145.out | refine below_set ?_ GE149.out) | exact HB.out)))); have n6_ := Aside0.mk (blk_below (g := gb145) (o := .cells #[.int .i64 t142, .int .i64 t143] 28 (0, 0)) (by (with_reducible repeat (first | refine blk_drewN ?_ _ | refine blk_drew ?_ | refine blk_alloc ?_ _)); exact BK145.out) hb); have n7_ := Aside0.mk (blk_below (g := gb149) (o := .cells #[.int .i64 t146, .int .i64 t147] 28 (0, 0)) (by (with_reducible repeat (first | refine blk_drewN ?_ _ | refine blk_drew ?_ | refine blk_alloc ?_ _)); exact BK149.out) hb); have n8_ := Aside0.mk (below_step (by repeat (first | (with_reducible first | exact HB.out | apply below_alloc | apply pw_below_drewN | apply below_drew1 | refine below_set ?_ GE145.out | refine below_set ?_ GE149.out) | exact HB.out)) hb); clear HO141; clear HO152; clear HO155; clear HO159; clear HO162; clear BK145; clear BK149; clear HB; have HO141 := n0_; have HO152 := n1_; have HO155 := n2_; have HO159 := n3_; have HO162 := n4_; have HO170 := n5_; have BK145 := n6_; have BK149 := n7_; have HB := n8_; clear n0_ n1_ n2_ n3_ n4_ n5_ n6_ n7_ n8_; (try clear hb); (try clear hb2); (try clear hk); (try clear hi); (try clear ho0)) | ((with_reducible refine gate_callee (f := 7) rfl ?_); refine goesL_ (some 53) rfl rfl Try.func7 (by kernel_rfl) rfl #[.int .i64 4, .int .i64 0, .int .i64 1048577] rfl (by (try simp only [List.map_toArray, List.map_cons, List.map_nil]); first | done | rfl | (simp only [List.length_drop, List.length_take]; rfl)) ?_; (with_reducible refine (span_Cut.calls 4 0 1048577 t171 t172 _ A9.out).mono ?_); rintro e w48 ⟨v173, rfl, ho0, hb⟩; refine ⟨_, rfl, ?_⟩; have n0_ := Aside0.mk (Kd.R_elder' (by (with_reducible repeat (first | apply Kd.R_alloc | apply Kd.R_drewN | apply Kd.R_drew)); exact HO141.out) (Kd.R_base ho0) hb); have n1_ := Aside0.mk (Kd.R_below (by (with_reducible repeat (first | apply Kd.R_alloc | apply Kd.R_drewN | apply Kd.R_drew)); exact HO152.out) hb); have n2_ := Aside0.mk (Kd.R_below (by (with_reducible repeat (first | apply Kd.R_alloc | apply Kd.R_drewN | apply Kd.R_drew)); exact HO155.out) hb); have n3_ := Aside0.mk (Kd.R_below (by (with_reducible repeat (first | apply Kd.R_alloc | apply Kd.R_drewN | apply Kd.R_drew)); exact HO159.out) hb); have n4_ := Aside0.mk (Kd.R_below (by (with_reducible repeat (first | apply Kd.R_alloc | apply Kd.R_drewN | apply Kd.R_drew)); exact HO162.out) hb); have n5_ := Aside0.mk (Kd.R_elder' (by (with_reducible repeat (first | apply Kd.R_alloc | apply Kd.R_drewN | apply Kd.R_drew)); exact HO170.out) (Kd.R_base ho0) hb); have n6_ := Aside0.mk (Kd.R_lower (Kd.R_new' (Kd.R_new' ho0 (Kd.R_lt (by (with_reducible repeat (first | apply Kd.R_alloc | apply Kd.R_drewN | apply Kd.R_drew)); exact HO141.out))) (Kd.R_lt (by (with_reducible repeat (first | apply Kd.R_alloc | apply Kd.R_drewN | apply Kd.R_drew)); exact HO170.out))) (below_size (by repeat (first | (with_reducible first | exact HB.out | apply below_alloc | apply pw_below_drewN | apply below_drew1 | refine below_set ?_ GE145.out | refine below_set ?_ GE149.out) | exact HB.out)))); have n7_ := Aside0.mk (blk_below (g := gb145) (o := .cells #[.int .i64 t142, .int .i64 t143] 28 (0, 0)) (by (with_reducible repeat (first | refine blk_drewN ?_ _ | refine blk_drew ?_ | refine blk_alloc ?_ _)); exact BK145.out) hb); have n8_ := Aside0.mk (blk_below (g := gb149) (o := .cells #[.int .i64 t146, .int .i64 t147] 28 (0, 0)) (by (with_reducible repeat (first | refine blk_drewN ?_ _ | refine blk_drew ?_ | refine blk_alloc ?_ _)); exact BK149.out) hb); have n9_ := Aside0.mk (below_step (by repeat (first | (with_reducible first | exact HB.out | apply below_alloc | apply pw_below_drewN | apply below_drew1 | refine below_set ?_ GE145.out | refine below_set ?_ GE149.out) | exact HB.out)) hb); clear HO141; clear HO152; clear HO155; clear HO159; clear HO162; clear HO170; clear BK145; clear BK149; clear HB; have HO141 := n0_; have HO152 := n1_; have HO155 := n2_; have HO159 := n3_; have HO162 := n4_; have HO170 := n5_; have HO174 := n6_; have BK145 := n7_; have BK149 := n8_; have HB := n9_; clear n0_ n1_ n2_ n3_ n4_ n5_ n6_ n7_ n8_ n9_; (try clear hb); (try clear hb2); (try clear hk); (try clear hi); (try clear ho0)) | ((with_reducible refine gate_dst (N := 60) rfl ?_); (try (refine gate_guard (by rfl) ?_; dsimp only)); refine Kd.R_lit k43 _ 43 ?hg (N := 60) ?hd (xs := ([(⟨0, 3, 4⟩ : S43), (⟨1, 0, 4⟩ : S43), (⟨2, 0, 1⟩ : S43)] : List (S43))) (inner := [.int .i64 0, .int .i64 3, .int .i64 4, .int .i64 1, .int .i64 0, .int .i64 4, .int .i64 2, .int .i64 0, .int .i64 1]) (ok := fun _ => True) (okp := fun _ => True) ?hr ?hp (fun _ hk => hk) trivial (Below.refl _ _) (Nat.le_refl _) (by simp) ?_; (case hd => rfl); (case hg => rfl); (case hr => first | (go_simp; done) | (go_simp; rfl)); (case hp => exact (Reps.c3 (show Kd.M k43 _ _ _ (⟨0, 3, 4⟩ : S43) [.int .i64 0, .int .i64 3, .int .i64 4] from (k43_mkM _ _ _ (⟨0, 3, 4⟩ : S43) )) (Reps.c3 (show Kd.M k43 _ _ _ (⟨1, 0, 4⟩ : S43) [.int .i64 1, .int .i64 0, .int .i64 4] from (k43_mkM _ _ _ (⟨1, 0, 4⟩ : S43) )) (Reps.c3 (show Kd.M k43 _ _ _ (⟨2, 0, 1⟩ : S43) [.int .i64 2, .int .i64 0, .int .i64 1] from (k43_mkM _ _ _ (⟨2, 0, 1⟩ : S43) )) (Reps.none _ _))))); intro v176 w49 ho50 hb hg_ hnew_; clear hg_ hnew_; (first | rw [← Ny175.out] at ho50 | (simp only [Int.reduceToNat] at ho50; rw [← Ny175.out] at ho50)); have n0_ := Aside0.mk (Kd.R_elder' (by (with_reducible repeat (first | apply Kd.R_alloc | apply Kd.R_drewN | apply Kd.R_drew)); exact HO141.out) (Kd.R_base ho50) hb); have n1_ := Aside0.mk (Kd.R_below (by (with_reducible repeat (first | apply Kd.R_alloc | apply Kd.R_drewN | apply Kd.R_drew)); exact HO152.out) hb); have n2_ := Aside0.mk (Kd.R_below (by (with_reducible repeat (first | apply Kd.R_alloc | apply Kd.R_drewN | apply Kd.R_drew)); exact HO155.out) hb); have n3_ := Aside0.mk (Kd.R_below (by (with_reducible repeat (first | apply Kd.R_alloc | apply Kd.R_drewN | apply Kd.R_drew)); exact HO159.out) hb); have n4_ := Aside0.mk (Kd.R_below (by (with_reducible repeat (first | apply Kd.R_alloc | apply Kd.R_drewN | apply Kd.R_drew)); exact HO162.out) hb); have n5_ := Aside0.mk (Kd.R_elder' (by (with_reducible repeat (first | apply Kd.R_alloc | apply Kd.R_drewN | apply Kd.R_drew)); exact HO170.out) (Kd.R_base ho50) hb); have n6_ := Aside0.mk (Kd.R_elder' (by (with_reducible repeat (first | apply Kd.R_alloc | apply Kd.R_drewN | apply Kd.R_drew)); exact HO174.out) (Kd.R_base ho50) hb); have n7_ := Aside0.mk (Kd.R_lower (Kd.R_new' (Kd.R_new' (Kd.R_new' ho50 (Kd.R_lt (by (with_reducible repeat (first | apply Kd.R_alloc | apply Kd.R_drewN | apply Kd.R_drew)); exact HO141.out))) (Kd.R_lt (by (with_reducible repeat (first | apply Kd.R_alloc | apply Kd.R_drewN | apply Kd.R_drew)); exact HO170.out))) (Kd.R_lt (by (with_reducible repeat (first | apply Kd.R_alloc | apply Kd.R_drewN | apply Kd.R_drew)); exact HO174.out))) (below_size (by repeat (first | (with_reducible first | exact HB.out | apply below_alloc | apply pw_below_drewN | apply below_drew1 | refine below_set ?_ GE145.out | refine below_set ?_ GE149.out) | exact HB.out)))); have n8_ := Aside0.mk (blk_below (g := gb145) (o := .cells #[.int .i64 t142, .int .i64 t143] 28 (0, 0)) (by (with_reducible repeat (first | refine blk_drewN ?_ _ | refine blk_drew ?_ | refine blk_alloc ?_ _)); exact BK145.out) hb); have n9_ := Aside0.mk (blk_below (g := gb149) (o := .cells #[.int .i64 t146, .int .i64 t147] 28 (0, 0)) (by (with_reducible repeat (first | refine blk_drewN ?_ _ | refine blk_drew ?_ | refine blk_alloc ?_ _)); exact BK149.out) hb); have n10_ := Aside0.mk (below_step (by repeat (first | (with_reducible first | exact HB.out | apply below_alloc | apply pw_below_drewN | apply below_drew1 | refine below_set ?_ GE145.out | refine below_set ?_ GE149.out) | exact HB.out)) hb); clear HO141; clear HO152; clear HO155; clear HO159; clear HO162; clear HO170; clear HO174; clear BK145; clear BK149; clear HB; have HO141 := n0_; have HO152 := n1_; have HO155 := n2_; have HO159 := n3_; have HO162 := n4_; have HO170 := n5_; have HO174 := n6_; have HO177 := n7_; have BK145 := n8_; have BK149 := n9_; have HB := n10_; clear n0_ n1_ n2_ n3_ n4_ n5_ n6_ n7_ n8_ n9_ n10_; clear hb ho50; obtain ⟨Ao51, co51, eo51⟩ := Kd.R_slice HO177.out; subst eo51) | ((with_reducible refine gate_callee (f := 11) rfl ?_); refine goesL_ (some 61) rfl rfl Try.func11 (by kernel_rfl) rfl #[.slice Ao43 t138.length co43, .slice Ao51 y175.length co51] rfl (by (try simp only [List.map_toArray, List.map_cons, List.map_nil]); first | done | rfl | (simp only [List.length_drop, List.length_take]; rfl)) ?_; (with_reducible refine (caulkref19_Same.calls k _ _ t138 _ _ y175 true _ ?side1 ?side2 ?side3 ?side4 A10.out).mono ?_); (case side1 => repeat (first | exact (Kd.R_reads' HO141.out).2.2 | (with_reducible refine Kd.C_alloc ?_ _) | (with_reducible refine Kd.C_drewN ?_ _) | (with_reducible refine Kd.C_drew ?_))); (case side2 => exact (Kd.R_reads' HO141.out).2.1); (case side3 => repeat (first | exact (Kd.R_reads' HO177.out).2.2 | (with_reducible refine Kd.C_alloc ?_ _) | (with_reducible refine Kd.C_drewN ?_ _) | (with_reducible refine Kd.C_drew ?_))); (case side4 => exact (Kd.R_reads' HO177.out).2.1); rintro e w' ⟨rfl, ⟨nd, rfl⟩⟩; refine ⟨_, rfl, ?_⟩; have hcz52_0 : w49.cell? ⟨gb145, 0, none⟩ = some (.int .i64 t142) := (blk_cell BK145.out 0).trans rfl; have hcz52_1 : w49.cell? ⟨gb145, 1, none⟩ = some (.int .i64 t143) := (blk_cell BK145.out 1).trans rfl; have hfz52_0 := blk_frozen BK145.out 0; have hfz52_1 := blk_frozen BK145.out 1; have hcz53_0 : w49.cell? ⟨gb149, 0, none⟩ = some (.int .i64 t146) := (blk_cell BK149.out 0).trans rfl; have hcz53_1 : w49.cell? ⟨gb149, 1, none⟩ = some (.int .i64 t147) := (blk_cell BK149.out 1).trans rfl; have hfz53_0 := blk_frozen BK149.out 0; have hfz53_1 := blk_frozen BK149.out 1) | ((with_reducible refine gate_dst (N := 88) rfl ?_); (try (refine gate_guard (by rfl) ?_; dsimp only)); refine Kd.R_lit k28 _ 28 ?hg (N := 88) ?hd (xs := ([(⟨1, 3⟩ : S28), (⟨5, 7⟩ : S28)] : List (S28))) (inner := [.int .i64 1, .int .i64 3, .int .i64 5, .int .i64 7]) (ok := fun _ => True) (okp := fun _ => True) ?hr ?hp (fun _ hk => hk) trivial (Below.refl _ _) (Nat.le_refl _) (by simp) ?_; (case hd => rfl); (case hg => rfl); (case hr => first | (go_simp; done) | (go_simp; rfl)); (case hp => exact (Reps.c2 (show Kd.M k28 _ _ _ (⟨1, 3⟩ : S28) [.int .i64 1, .int .i64 3] from (k28_mkM _ _ _ (⟨1, 3⟩ : S28) )) (Reps.c2 (show Kd.M k28 _ _ _ (⟨5, 7⟩ : S28) [.int .i64 5, .int .i64 7] from (k28_mkM _ _ _ (⟨5, 7⟩ : S28) )) (Reps.none _ _)))); intro v180 w54 ho55 hb hg_ hnew_; clear hg_ hnew_; (first | rw [← Ny179.out] at ho55 | (simp only [Int.reduceToNat] at ho55; rw [← Ny179.out] at ho55)); have n0_ := Aside0.mk (Kd.R_below (by (with_reducible repeat (first | apply Kd.R_alloc | apply Kd.R_drewN | apply Kd.R_drew)); exact HO141.out) hb); have n1_ := Aside0.mk (Kd.R_below (by (with_reducible repeat (first | apply Kd.R_alloc | apply Kd.R_drewN | apply Kd.R_drew)); exact HO152.out) hb); have n2_ := Aside0.mk (Kd.R_elder' (by (with_reducible repeat (first | apply Kd.R_alloc | apply Kd.R_drewN | apply Kd.R_drew)); exact HO155.out) (Kd.R_base ho55) hb); have n3_ := Aside0.mk (Kd.R_below (by (with_reducible repeat (first | apply Kd.R_alloc | apply Kd.R_drewN | apply Kd.R_drew)); exact HO159.out) hb); have n4_ := Aside0.mk (Kd.R_below (by (with_reducible repeat (first | apply Kd.R_alloc | apply Kd.R_drewN | apply Kd.R_drew)); exact HO162.out) hb); have n5_ := Aside0.mk (Kd.R_below (by (with_reducible repeat (first | apply Kd.R_alloc | apply Kd.R_drewN | apply Kd.R_drew)); exact HO170.out) hb); have n6_ := Aside0.mk (Kd.R_below (by (with_reducible repeat (first | apply Kd.R_alloc | apply Kd.R_drewN | apply Kd.R_drew)); exact HO174.out) hb); have n7_ := Aside0.mk (Kd.R_below (by (with_reducible repeat (first | apply Kd.R_alloc | apply Kd.R_drewN | apply Kd.R_drew)); exact HO177.out) hb); have n8_ := Aside0.mk (Kd.R_lower (Kd.R_newB (Kd.R_newB (Kd.R_new' ho55 (Kd.R_lt (by (with_reducible repeat (first | apply Kd.R_alloc | apply Kd.R_drewN | apply Kd.R_drew)); exact HO155.out))) (g := gb145) (o := .cells #[.int .i64 t142, .int .i64 t143] 28 (0, 0)) (by (with_reducible repeat (first | refine blk_drewN ?_ _ | refine blk_drew ?_ | refine blk_alloc ?_ _)); exact BK145.out)) (g := gb149) (o := .cells #[.int .i64 t146, .int .i64 t147] 28 (0, 0)) (by (with_reducible repeat (first | refine blk_drewN ?_ _ | refine blk_drew ?_ | refine blk_alloc ?_ _)); exact BK149.out)) (below_size (by repeat (first | (with_reducible first | exact HB.out | apply below_alloc | apply pw_below_drewN | apply below_drew1 | refine below_set ?_ GE145.out | refine below_set ?_ GE149.out) | exact HB.out)))); have n9_ := Aside0.mk (blk_below (g := gb145) (o := .cells #[.int .i64 t142, .int .i64 t143] 28 (0, 0)) (by (with_reducible repeat (first | refine blk_drewN ?_ _ | refine blk_drew ?_ | refine blk_alloc ?_ _)); exact BK145.out) hb); have n10_ := Aside0.mk (blk_below (g := gb149) (o := .cells #[.int .i64 t146, .int .i64 t147] 28 (0, 0)) (by (with_reducible repeat (first | refine blk_drewN ?_ _ | refine blk_drew ?_ | refine blk_alloc ?_ _)); exact BK149.out) hb); have n11_ := Aside0.mk (below_step (by repeat (first | (with_reducible first | exact HB.out | apply below_alloc | apply pw_below_drewN | apply below_drew1 | refine below_set ?_ GE145.out | refine below_set ?_ GE149.out) | exact HB.out)) hb); clear HO141; clear HO152; clear HO155; clear HO159; clear HO162; clear HO170; clear HO174; clear HO177; clear BK145; clear BK149; clear HB; have HO141 := n0_; have HO152 := n1_; have HO155 := n2_; have HO159 := n3_; have HO162 := n4_; have HO170 := n5_; have HO174 := n6_; have HO177 := n7_; have HO181 := n8_; have BK145 := n9_; have BK149 := n10_; have HB := n11_; clear n0_ n1_ n2_ n3_ n4_ n5_ n6_ n7_ n8_ n9_ n10_ n11_; clear hb ho55; obtain ⟨Ao56, co56, eo56⟩ := Kd.R_slice HO181.out; subst eo56) | ((with_reducible refine gate_callee (f := 19) rfl ?_); (try (refine gate_guard (by rfl) ?_; dsimp only)); refine goesL_ (some 89) rfl rfl Try.func19 (by kernel_rfl) rfl #[.slice Ao39 t153.length co39, .slice Ao56 y179.length co56] rfl (by (try simp only [List.map_toArray, List.map_cons, List.map_nil]); first | done | rfl | (simp only [List.length_drop, List.length_take]; rfl)) ?_; (with_reducible refine (caulkref19_SameRanges.calls k _ _ t153 _ _ y179 true _ ?side1 ?side2 ?side3 ?side4 A17.out).mono ?_); (case side1 => repeat (first | exact (Kd.R_reads' HO155.out).2.2 | (with_reducible refine Kd.C_alloc ?_ _) | (with_reducible refine Kd.C_drewN ?_ _) | (with_reducible refine Kd.C_drew ?_))); (case side2 => exact (Kd.R_reads' HO155.out).2.1); (case side3 => repeat (first | exact (Kd.R_reads' HO181.out).2.2 | (with_reducible refine Kd.C_alloc ?_ _) | (with_reducible refine Kd.C_drewN ?_ _) | (with_reducible refine Kd.C_drew ?_))); (case side4 => exact (Kd.R_reads' HO181.out).2.1); rintro e w' ⟨rfl, ⟨nd, rfl⟩⟩; refine ⟨_, rfl, ?_⟩) | ((with_reducible refine gate_dst (N := 93) rfl ?_); (try (refine gate_guard (by rfl) ?_; dsimp only)); refine Kd.R_lit (Kd.int .i64) _ 3 ?hg (N := 93) ?hd (xs := ([1, 2, 5, 6] : List Int)) (inner := [.int .i64 1, .int .i64 2, .int .i64 5, .int .i64 6]) (ok := fun _ => True) (okp := fun _ => True) ?hr ?hp (fun _ hk => hk) trivial (Below.refl _ _) (Nat.le_refl _) (by simp) ?_; (case hd => rfl); (case hg => rfl); (case hr => first | (go_simp; done) | (go_simp; rfl)); (case hp => exact (Reps.one (show Kd.M (Kd.int .i64) _ _ _ 1 [.int .i64 1] from rfl) (Reps.one (show Kd.M (Kd.int .i64) _ _ _ 2 [.int .i64 2] from rfl) (Reps.one (show Kd.M (Kd.int .i64) _ _ _ 5 [.int .i64 5] from rfl) (Reps.one (show Kd.M (Kd.int .i64) _ _ _ 6 [.int .i64 6] from rfl) (Reps.none _ _)))))); intro v184 w57 ho58 hb hg_ hnew_; clear hg_ hnew_; (first | rw [← Ny183.out] at ho58 | (simp only [Int.reduceToNat] at ho58; rw [← Ny183.out] at ho58)); have n0_ := Aside0.mk (Kd.R_below (by (with_reducible repeat (first | apply Kd.R_alloc | apply Kd.R_drewN | apply Kd.R_drew)); exact HO141.out) hb); have n1_ := Aside0.mk (Kd.R_elder' (by (with_reducible repeat (first | apply Kd.R_alloc | apply Kd.R_drewN | apply Kd.R_drew)); exact HO152.out) (Kd.R_base ho58) hb); have n2_ := Aside0.mk (Kd.R_below (by (with_reducible repeat (first | apply Kd.R_alloc | apply Kd.R_drewN | apply Kd.R_drew)); exact HO155.out) hb); have n3_ := Aside0.mk (Kd.R_elder' (by (with_reducible repeat (first | apply Kd.R_alloc | apply Kd.R_drewN | apply Kd.R_drew)); exact HO159.out) (Kd.R_base ho58) hb); have n4_ := Aside0.mk (Kd.R_below (by (with_reducible repeat (first | apply Kd.R_alloc | apply Kd.R_drewN | apply Kd.R_drew)); exact HO162.out) hb); have n5_ := Aside0.mk (Kd.R_below (by (with_reducible repeat (first | apply Kd.R_alloc | apply Kd.R_drewN | apply Kd.R_drew)); exact HO170.out) hb); have n6_ := Aside0.mk (Kd.R_below (by (with_reducible repeat (first | apply Kd.R_alloc | apply Kd.R_drewN | apply Kd.R_drew)); exact HO174.out) hb); have n7_ := Aside0.mk (Kd.R_below (by (with_reducible repeat (first | apply Kd.R_alloc | apply Kd.R_drewN | apply Kd.R_drew)); exact HO177.out) hb); have n8_ := Aside0.mk (Kd.R_below (by (with_reducible repeat (first | apply Kd.R_alloc | apply Kd.R_drewN | apply Kd.R_drew)); exact HO181.out) hb); have n9_ := Aside0.mk (Kd.R_lower (Kd.R_new' (Kd.R_new' ho58 (Kd.R_lt (by (with_reducible repeat (first | apply Kd.R_alloc | apply Kd.R_drewN | apply Kd.R_drew)); exact HO152.out))) (Kd.R_lt (by (with_reducible repeat (first | apply Kd.R_alloc | apply Kd.R_drewN | apply Kd.R_drew)); exact HO159.out))) (below_size (by repeat (first | (with_reducible first | exact HB.out | apply below_alloc | apply pw_below_drewN | apply below_drew1 | refine below_set ?_ GE145.out | refine below_set ?_ GE149.out) | exact HB.out)))); have n10_ := Aside0.mk (blk_below (g := gb145) (o := .cells #[.int .i64 t142, .int .i64 t143] 28 (0, 0)) (by (with_reducible repeat (first | refine blk_drewN ?_ _ | refine blk_drew ?_ | refine blk_alloc ?_ _)); exact BK145.out) hb); have n11_ := Aside0.mk (blk_below (g := gb149) (o := .cells #[.int .i64 t146, .int .i64 t147] 28 (0, 0)) (by (with_reducible repeat (first | refine blk_drewN ?_ _ | refine blk_drew ?_ | refine blk_alloc ?_ _)); exact BK149.out) hb); have n12_ := Aside0.mk (below_step (by repeat (first | (with_reducible first | exact HB.out | apply below_alloc | apply pw_below_drewN | apply below_drew1 | refine below_set ?_ GE145.out | refine below_set ?_ GE149.out) | exact HB.out)) hb); clear HO141; clear HO152; clear HO155; clear HO159; clear HO162; clear HO170; clear HO174; clear HO177; clear HO181; clear BK145; clear BK149; clear HB; have HO141 := n0_; have HO152 := n1_; have HO155 := n2_; have HO159 := n3_; have HO162 := n4_; have HO170 := n5_; have HO174 := n6_; have HO177 := n7_; have HO181 := n8_; have HO185 := n9_; have BK145 := n10_; have BK149 := n11_; have HB := n12_; clear n0_ n1_ n2_ n3_ n4_ n5_ n6_ n7_ n8_ n9_ n10_ n11_ n12_; clear hb ho58; obtain ⟨Ao59, co59, eo59⟩ := Kd.R_slice HO159.out; subst eo59; obtain ⟨Ao60, co60, eo60⟩ := Kd.R_slice HO185.out; subst eo60) | ((with_reducible refine gate_callee (f := 22) rfl ?_); (try (refine gate_guard (by rfl) ?_; dsimp only)); refine goesL_ (some 94) rfl rfl Try.func22 (by kernel_rfl) rfl #[.slice Ao59 t156.length co59, .slice Ao60 y183.length co60] rfl (by (try simp only [List.map_toArray, List.map_cons, List.map_nil]); first | done | rfl | (simp only [List.length_drop, List.length_take]; rfl)) ?_; (with_reducible refine (caulkref05_Same.calls k _ _ t156 _ _ y183 true _ ?side1 ?side2 ?side3 ?side4 A19.out).mono ?_); (case side1 => repeat (first | exact (Kd.R_reads' HO159.out).2.2 | (with_reducible refine Kd.C_alloc ?_ _) | (with_reducible refine Kd.C_drewN ?_ _) | (with_reducible refine Kd.C_drew ?_))); (case side2 => exact (Kd.R_reads' HO159.out).2.1); (case side3 => repeat (first | exact (Kd.R_reads' HO185.out).2.2 | (with_reducible refine Kd.C_alloc ?_ _) | (with_reducible refine Kd.C_drewN ?_ _) | (with_reducible refine Kd.C_drew ?_))); (case side4 => exact (Kd.R_reads' HO185.out).2.1); rintro e w' ⟨rfl, ⟨nd, rfl⟩⟩; refine ⟨_, rfl, ?_⟩))
               go_ret
               exact ⟨by first | rfl | (simp [errW_none, errW_some] <;> rfl) | (simp [*, errW_none, errW_some] <;> rfl), by repeat (first | (with_reducible first | exact HB.out | apply below_alloc | apply pw_below_drewN | apply below_drew1 | refine below_set ?_ GE145.out | refine below_set ?_ GE149.out) | exact HB.out)⟩
              ·rw [if_neg c26] at H
               have c26b0 : (t168 == 1) = false := beq_eq_false_iff_ne.mpr c26
               have c26b1 : (t168 != 1) = true := bne_iff_ne.mpr c26
               exact absurd ((Option.some.inj H).trans hrt.out) (by simp)
             ·rw [if_neg c25] at H
              have c25b0 : (t166 == 0) = false := beq_eq_false_iff_ne.mpr c25
              have c25b1 : (t166 != 0) = true := bne_iff_ne.mpr c25
              exact absurd ((Option.some.inj H).trans hrt.out) (by simp)
            ·rw [if_neg c24] at H
             have c24b0 : (t165.toList == ([97, 88, 89, 100] : List UInt8)) = false := beq_eq_false_iff_ne.mpr c24
             have c24b1 : (t165.toList != ([97, 88, 89, 100] : List UInt8)) = true := bne_iff_ne.mpr c24
             exact absurd ((Option.some.inj H).trans hrt.out) (by simp)
           ·rw [if_neg c23] at H
            have c23b0 : (t164 == 0) = false := beq_eq_false_iff_ne.mpr c23
            have c23b1 : (t164 != 0) = true := bne_iff_ne.mpr c23
            exact absurd ((Option.some.inj H).trans hrt.out) (by simp)
          ·rw [if_neg c22] at H
           have c22b0 : (t163.toList == ([97, 98, 99, 100, 101, 102] : List UInt8)) = false := beq_eq_false_iff_ne.mpr c22
           have c22b1 : (t163.toList != ([97, 98, 99, 100, 101, 102] : List UInt8)) = true := bne_iff_ne.mpr c22
           exact absurd ((Option.some.inj H).trans hrt.out) (by simp)
         ·rw [if_neg c21] at H
          have c21b0 : (t157 == 0) = false := beq_eq_false_iff_ne.mpr c21
          have c21b1 : (t157 != 0) = true := bne_iff_ne.mpr c21
          exact absurd ((Option.some.inj H).trans hrt.out) (by simp)
        ·replace c20 := Bool.eq_false_iff.mpr c20
         subst c20
         have H1 : (some false) = some r := by rw [if_neg (show ¬ (false = true) by decide)] at H; exact H
         clear H
         have H := H1
         clear H1
         exact absurd ((Option.some.inj H).trans hrt.out) (by simp)
       ·replace c18 := Bool.eq_false_iff.mpr c18
        subst c18
        have H1 : (some false) = some r := by rw [if_neg (show ¬ (false = true) by decide)] at H; exact H
        clear H
        have H := H1
        clear H1
        exact absurd ((Option.some.inj H).trans hrt.out) (by simp)
      ·rw [if_neg c16] at H
       have c16b0 : (t148 == 0) = false := beq_eq_false_iff_ne.mpr c16
       have c16b1 : (t148 != 0) = true := bne_iff_ne.mpr c16
       exact absurd ((Option.some.inj H).trans hrt.out) (by simp)
     ·rw [if_neg c15] at H
      have c15b0 : (t146 == 0 && (t147 == 0)) = false := by simpa using c15
      (try (have c15b1 : decide (t146 = 0 && (t147 == 0)) = false := by simpa using c15))
      (try (have c15b2 : (t146 == 0 && (t147 == 0)) = false := by simpa using c15))
      (try (have c15b3 : ¬ (t146 = 0 && (t147 == 0)) := by simpa using c15))
      clear c15
      exact absurd ((Option.some.inj H).trans hrt.out) (by simp)
    ·rw [if_neg c14] at H
     have c14b0 : (t144 == 0) = false := beq_eq_false_iff_ne.mpr c14
     have c14b1 : (t144 != 0) = true := bne_iff_ne.mpr c14
     exact absurd ((Option.some.inj H).trans hrt.out) (by simp)
   ·rw [if_neg c13] at H
    have c13b0 : (t142 == 1 && (t143 == 2)) = false := by simpa using c13
    (try (have c13b1 : decide (t142 = 1 && (t143 == 2)) = false := by simpa using c13))
    (try (have c13b2 : (t142 == 1 && (t143 == 2)) = false := by simpa using c13))
    (try (have c13b3 : ¬ (t142 = 1 && (t143 == 2)) := by simpa using c13))
    clear c13
    exact absurd ((Option.some.inj H).trans hrt.out) (by simp)
  ·rw [if_neg c12] at H
   have c12b0 : (t139 == 0) = false := beq_eq_false_iff_ne.mpr c12
   have c12b1 : (t139 != 0) = true := bne_iff_ne.mpr c12
   exact absurd ((Option.some.inj H).trans hrt.out) (by simp)
 ·replace c11 := Bool.eq_false_iff.mpr c11
  subst c11
  have H1 : (some false) = some r := by rw [if_neg (show ¬ (false = true) by decide)] at H; exact H
  clear H
  have H := H1
  clear H1
  exact absurd ((Option.some.inj H).trans hrt.out) (by simp)
theorem caulklaw19_lives_t.true : ∃ k, caulklaw19_lives_t.f k = some true := ⟨1000, by kernel_rfl⟩
def caulklaw19_lives.f : Option (Bool) := some true
theorem caulklaw19_lives.calls (r : Bool) (w : World) (h : caulklaw19_lives.f = some r) :
  Calls Try.prog 6 #[] w fun e w' => e = .returned (.bool r) ∧ Below w.heap.size w w' := by
 cases h
 obtain ⟨k, hk⟩ := caulklaw19_lives_t.true; exact caulklaw19_lives_t.calls k true w ⟨rfl⟩ hk

def caulkref19_right.f (a0 : Int) (a1 : Int) (a2 : Int) : Option (Bool) := if a0 ≥ 1 then (if a0 ≤ 65536 then (if a1 ≥ 0 then (if a1 ≤ 1099511627776 then (if a2 ≥ 0 then (some (decide (a2 ≤ 1099511627776))) else (some false)) else (some false)) else (some false)) else (some false)) else (some false)
set_option maxHeartbeats 8000000 in
set_option maxRecDepth 100000 in
theorem caulkref19_right.calls (a0 : Int) (a1 : Int) (a2 : Int) (r : Bool) (w : World) (h : caulkref19_right.f a0 a1 a2 = some r) :
  Calls Try.prog 26 #[.int .i64 a0, .int .i64 a1, .int .i64 a2] w fun e w' => e = .returned (.bool r) ∧ Drawn0 w w' := by
 have H : (if a0 ≥ 1 then (if a0 ≤ 65536 then (if a1 ≥ 0 then (if a1 ≤ 1099511627776 then (if a2 ≥ 0 then (some (decide (a2 ≤ 1099511627776))) else (some false)) else (some false)) else (some false)) else (some false)) else (some false)) = some r := h
 clear h
 by_cases c4 : a0 ≥ 1
 ·rw [if_pos c4] at H
  have c4b0 : decide (1 ≤ a0) = true := decide_eq_true c4
  clear c4
  by_cases c5 : a0 ≤ 65536
  ·rw [if_pos c5] at H
   have c5b0 : decide (a0 ≤ 65536) = true := decide_eq_true c5
   clear c5
   by_cases c6 : a1 ≥ 0
   ·rw [if_pos c6] at H
    have c6b0 : decide (0 ≤ a1) = true := decide_eq_true c6
    clear c6
    by_cases c7 : a1 ≤ 1099511627776
    ·rw [if_pos c7] at H
     have c7b0 : decide (a1 ≤ 1099511627776) = true := decide_eq_true c7
     clear c7
     by_cases c8 : a2 ≥ 0
     ·rw [if_pos c8] at H
      have c8b0 : decide (0 ≤ a2) = true := decide_eq_true c8
      clear c8
      obtain rfl := Option.some.inj H
      go_enter Try.func26, Try.ntmps26
      go_wp2
      go_ret
      exact ⟨by first | rfl | (simp; done) | (simp [*]; done), by repeat (first | exact Drawn0.refl _ | apply Drawn0.step)⟩
     ·rw [if_neg c8] at H
      have c8b0 : decide (0 ≤ a2) = false := decide_eq_false c8
      clear c8
      obtain rfl := Option.some.inj H
      go_enter Try.func26, Try.ntmps26
      go_wp2
      go_ret
      exact ⟨by first | rfl | (simp; done) | (simp [*]; done), by repeat (first | exact Drawn0.refl _ | apply Drawn0.step)⟩
    ·rw [if_neg c7] at H
     have c7b0 : decide (a1 ≤ 1099511627776) = false := decide_eq_false c7
     clear c7
     obtain rfl := Option.some.inj H
     go_enter Try.func26, Try.ntmps26
     go_wp2
     go_ret
     exact ⟨by first | rfl | (simp; done) | (simp [*]; done), by repeat (first | exact Drawn0.refl _ | apply Drawn0.step)⟩
   ·rw [if_neg c6] at H
    have c6b0 : decide (0 ≤ a1) = false := decide_eq_false c6
    clear c6
    obtain rfl := Option.some.inj H
    go_enter Try.func26, Try.ntmps26
    go_wp2
    go_ret
    exact ⟨by first | rfl | (simp; done) | (simp [*]; done), by repeat (first | exact Drawn0.refl _ | apply Drawn0.step)⟩
  ·rw [if_neg c5] at H
   have c5b0 : decide (a0 ≤ 65536) = false := decide_eq_false c5
   clear c5
   obtain rfl := Option.some.inj H
   go_enter Try.func26, Try.ntmps26
   go_wp2
   go_ret
   exact ⟨by first | rfl | (simp; done) | (simp [*]; done), by repeat (first | exact Drawn0.refl _ | apply Drawn0.step)⟩
 ·rw [if_neg c4] at H
  have c4b0 : decide (1 ≤ a0) = false := decide_eq_false c4
  clear c4
  obtain rfl := Option.some.inj H
  go_enter Try.func26, Try.ntmps26
  go_wp2
  go_ret
  exact ⟨by first | rfl | (simp; done) | (simp [*]; done), by repeat (first | exact Drawn0.refl _ | apply Drawn0.step)⟩

def caulkref19_Cut.l0 : Nat → Int → Int → Int → List (S43) → Option ((List (S43)) × Int)
 | 0, _, _, _, _ => none
 | k + 1, x0, x1, x2, x8 => if x2 > 0 then (if x0 = 0 then (none) else (if x8.length < 5864062014805 then (caulkref19_Cut.l0 k x0 (wrap64 (x1 + (mn (wrap64 (x0 - (Int.tmod x1 x0))) x2))) (wrap64 (x2 - (mn (wrap64 (x0 - (Int.tmod x1 x0))) x2))) (x8 ++ [(⟨wrap64 (Int.tdiv x1 x0), Int.tmod x1 x0, wrap64 ((Int.tmod x1 x0) + (mn (wrap64 (x0 - (Int.tmod x1 x0))) x2))⟩ : S43)])) else (none))) else (some (x8, 0))
def caulkref19_Cut.f (k : Nat) (a0 : Int) (a1 : Int) (a2 : Int) : Option ((List (S43)) × Int) := (caulkref19_right.f a0 a1 a2).bind fun t187 => (if t187 = true then (if a2 > 1048576 then (some (([] : List (S43)), 7)) else (caulkref19_Cut.l0 k a0 a1 a2 ([] : List (S43)))) else (some (([] : List (S43)), 1)))
theorem caulkref19_Cut.mono_l : ∀ k, (∀ y0 y1 y2 y3, LeO (caulkref19_Cut.l0 k y0 y1 y2 y3) (caulkref19_Cut.l0 (k + 1) y0 y1 y2 y3))
 | 0 => fun _ _ _ _ r h => by simp [caulkref19_Cut.l0] at h
 | k + 1 => by
  have ih0 := caulkref19_Cut.mono_l k
  ·intro y0 y1 y2 y3
   unfold caulkref19_Cut.l0
   repeat' first
   | (with_reducible exact ih0 _ _ _ _)
   | (with_reducible exact LeO.refl _)
   | (with_reducible exact LeO.none _)
   | (with_reducible refine LeO.ite ?_ ?_)
   | (with_reducible refine LeO.bind ?_ (fun _ => ?_))
   | exact ih0 _ _ _ _
   | exact LeO.none _
   | refine LeO.ite ?_ ?_
   | refine LeO.bind ?_ (fun _ => ?_)
theorem caulkref19_Cut.mono : ∀ a0 a1 a2 k, LeO (caulkref19_Cut.f k a0 a1 a2) (caulkref19_Cut.f (k + 1) a0 a1 a2) := by
 intro a0 a1 a2 k
 have ih0 := caulkref19_Cut.mono_l k
 unfold caulkref19_Cut.f
 repeat' first
   | (with_reducible exact ih0 _ _ _ _)
   | (with_reducible exact LeO.refl _)
   | (with_reducible exact LeO.none _)
   | (with_reducible refine LeO.ite ?_ ?_)
   | (with_reducible refine LeO.bind ?_ (fun _ => ?_))
   | exact ih0 _ _ _ _
   | exact LeO.none _
   | refine LeO.ite ?_ ?_
   | refine LeO.bind ?_ (fun _ => ?_)
set_option maxHeartbeats 8000000 in
set_option maxRecDepth 100000 in
theorem caulkref19_Cut.calls (k : Nat) (a0 : Int) (a1 : Int) (a2 : Int) (r1 : List (S43)) (r2 : Int) (w : World) (h : caulkref19_Cut.f k a0 a1 a2 = some (r1, r2)) :
  Calls Try.prog 8 #[.int .i64 a0, .int .i64 a1, .int .i64 a2] w fun e w' => ∃ v0_ : Value, e = .returned (.tuple #[v0_, .int .i64 r2]) ∧ Kd.R k43 43 w' w.heap.size (fun _ => True) v0_ r1 ∧ Below w.heap.size w w' := by
 have hu43 := Try.underlying43
 have HB := Aside0.mk (Below.refl w.heap.size w)
 have H : ((caulkref19_right.f a0 a1 a2).bind fun t187 => (if t187 = true then (if a2 > 1048576 then (some (([] : List (S43)), 7)) else (caulkref19_Cut.l0 k a0 a1 a2 ([] : List (S43)))) else (some (([] : List (S43)), 1)))) = some (r1, r2) := h
 clear h
 replace H := Option.bind_eq_some_iff.mp H
 obtain ⟨t187, A40, H⟩ := H
 replace H : (if t187 = true then (if a2 > 1048576 then (some (([] : List (S43)), 7)) else (caulkref19_Cut.l0 k a0 a1 a2 ([] : List (S43)))) else (some (([] : List (S43)), 1))) = some (r1, r2) := H
 have A4 := Aside0.mk A40
 clear A40
 by_cases c5 : t187 = true
 ·subst c5
  have H1 : (if a2 > 1048576 then (some (([] : List (S43)), 7)) else (caulkref19_Cut.l0 k a0 a1 a2 ([] : List (S43)))) = some (r1, r2) := by rw [if_pos rfl] at H; exact H
  clear H
  have H := H1
  clear H1
  by_cases c6 : a2 > 1048576
  ·rw [if_pos c6] at H
   have c6b0 : decide (1048576 < a2) = true := decide_eq_true c6
   clear c6
   simp only [Option.some.injEq, Prod.mk.injEq] at H
   obtain ⟨rfl, rfl⟩ := H
   go_enter Try.func8, Try.ntmps8
   go_wp2_with (first | ((with_reducible refine HOpen.gate_append ?_); simp only [List.cons_append, List.nil_append]) | ((with_reducible refine gate_callee (f := 26) rfl ?_); refine goesL_ (some 14) rfl rfl Try.func26 (by kernel_rfl) rfl #[.int .i64 a0, .int .i64 a1, .int .i64 a2] rfl (by (try simp only [List.map_toArray, List.map_cons, List.map_nil]); first | done | rfl | (simp only [List.length_drop, List.length_take]; rfl)) ?_; (with_reducible refine (caulkref19_right.calls a0 a1 a2 true _ A4.out).mono ?_); rintro e w' ⟨rfl, ⟨nd, rfl⟩⟩; refine ⟨_, rfl, ?_⟩))
   go_ret2
   exact ⟨_, by first | rfl | (simp [errW_none, errW_some] <;> rfl) | (simp [*, errW_none, errW_some] <;> rfl), by first | exact Kd.R_nil _ _ _ _ _ | exact Kd.N_nil _ _ _ _ _ | exact Kd.V_nil _ _ _ _ _ | exact Kd.Q_nil _ _ _ _ _ | exact Kd.S_nil _ _ _ _ _, by repeat (first | (with_reducible first | exact HB.out | apply below_alloc | apply pw_below_drewN | apply below_drew1) | exact HB.out)⟩
  ·rw [if_neg c6] at H
   have c6b0 : decide (1048576 < a2) = false := decide_eq_false c6
   clear c6
   have H' := Aside0.mk H
   clear H
   go_enter Try.func8, Try.ntmps8
   go_wp2_with (first | ((with_reducible refine HOpen.gate_append ?_); simp only [List.cons_append, List.nil_append]) | ((with_reducible refine gate_callee (f := 26) rfl ?_); refine goesL_ (some 14) rfl rfl Try.func26 (by kernel_rfl) rfl #[.int .i64 a0, .int .i64 a1, .int .i64 a2] rfl (by (try simp only [List.map_toArray, List.map_cons, List.map_nil]); first | done | rfl | (simp only [List.length_drop, List.length_take]; rfl)) ?_; (with_reducible refine (caulkref19_right.calls a0 a1 a2 true _ A4.out).mono ?_); rintro e w' ⟨rfl, ⟨nd, rfl⟩⟩; refine ⟨_, rfl, ?_⟩))
   (try simp only [Act.put, List.setIfInBounds_toArray, List.set_cons_zero, List.set_cons_succ])
   go_loopg [1, 2, 8] k (fun kq v1 v2 v8 w' => ∃ (x1_1 : Int) (x2_1 : Int) (x8_1 : List (S43)), v1 = .int .i64 x1_1 ∧ v2 = .int .i64 x2_1 ∧ Aside0 (caulkref19_Cut.l0 kq a0 x1_1 x2_1 x8_1 = some (r1, r2)) ∧ Aside0 (kq ≤ k) ∧ Aside0 (Kd.R k43 43 w' w.heap.size (fun _ => True) v8 x8_1) ∧ Aside0 (Below w.heap.size w w'))
   case atStart => exact ⟨(a1), (a2), (([] : List (S43))), (by first | rfl | (simp; done) | (simp [*]; done)), (by first | rfl | (simp; done) | (simp [*]; done)), H', ⟨Nat.le_refl _⟩, ⟨by first | exact Kd.R_nil _ _ _ _ _ | exact Kd.N_nil _ _ _ _ _ | exact Kd.V_nil _ _ _ _ _ | exact Kd.Q_nil _ _ _ _ _ | exact Kd.S_nil _ _ _ _ _⟩, ⟨by repeat (first | (with_reducible first | exact HB.out | apply below_alloc | apply pw_below_drewN | apply below_drew1) | exact HB.out)⟩⟩
   case round =>
    clear H'
    try clear c2
    try clear p2
    try clear c5
    try clear c6
    try clear c6b0
    obtain ⟨x1_1, x2_1, x8_1, rfl, rfl, HA, HK1, HO_8, HB⟩ := hrel
    cases gk with
    | zero => exact absurd HA.out (by simp [caulkref19_Cut.l0])
    | succ k1 =>
     have H := HA.out
     clear HA
     simp only [caulkref19_Cut.l0] at H
     by_cases c7 : x2_1 > 0
     ·rw [if_pos c7] at H
      have c7b0 : decide (0 < x2_1) = true := decide_eq_true c7
      clear c7
      by_cases c8 : a0 = 0
      ·rw [if_pos c8] at H
       exact absurd H (by simp)
      ·rw [if_neg c8] at H
       have c8b0 : (a0 == 0) = false := beq_eq_false_iff_ne.mpr c8
       have c8b1 : (a0 != 0) = true := bne_iff_ne.mpr c8
       obtain ⟨ji9, hji9⟩ : ∃ j_ : Int, (mn (wrap64 (a0 - (Int.tmod x1_1 a0))) x2_1) = j_ := ⟨_, rfl⟩
       replace H : (if x8_1.length < 5864062014805 then (caulkref19_Cut.l0 k1 a0 (wrap64 (x1_1 + (ji9))) (wrap64 (x2_1 - (ji9))) (x8_1 ++ [(⟨wrap64 (Int.tdiv x1_1 a0), Int.tmod x1_1 a0, wrap64 ((Int.tmod x1_1 a0) + (ji9))⟩ : S43)])) else (none)) = some (r1, r2) := by first | (rw [hji9] at H; exact H) | (simp only [hji9] at H ⊢; exact H)
       have hji9_ : (if x2_1 < (wrap64 (a0 - (Int.tmod x1_1 a0))) then x2_1 else (wrap64 (a0 - (Int.tmod x1_1 a0)))) = ji9 := hji9
       by_cases c10 : x8_1.length < 5864062014805
       ·rw [if_pos c10] at H
        have LMc10 := Aside0.mk c10
        clear c10
        obtain ⟨y188, hy188⟩ : ∃ y_ : List (S43), y_ = (x8_1 ++ [(⟨wrap64 (Int.tdiv x1_1 a0), Int.tmod x1_1 a0, wrap64 ((Int.tmod x1_1 a0) + (ji9))⟩ : S43)]) := ⟨_, rfl⟩
        replace H : (caulkref19_Cut.l0 k1 a0 (wrap64 (x1_1 + (ji9))) (wrap64 (x2_1 - (ji9))) y188) = some (r1, r2) := by first | (rw [hy188]; with_reducible exact H) | (have H2_ := (Option.bind_some _ _).symm.trans H; rw [hy188]; with_reducible exact H2_) | (have H2_ := (Option.bind_some _ _).symm.trans H; with_reducible exact H2_) | with_reducible exact H | (rw [hy188]; exact H) | exact H
        have Ny188 := Aside0.mk hy188
        clear hy188
        have H' := Aside0.mk H
        clear H
        go_wp2_with (first | ((with_reducible refine HOpen.gate_append ?_); simp only [List.cons_append, List.nil_append]) | ((with_reducible refine gate_builtin (b := .append) (xs := #[.tmp 28, .tmp 37]) rfl ?_); at_builtin; refine Kd.R_append k43 (w0 := w) w.heap.size rfl (.tmp 28) (.tmp 37) 23 43 (.agg #[(.int .i64 0), (.int .i64 0), (.int .i64 0)]) 24 rfl Try.underlying23 info43 rfl (by decide) (by omega) u8 x8_1 (⟨wrap64 (Int.tdiv x1_1 a0), Int.tmod x1_1 a0, wrap64 ((Int.tmod x1_1 a0) + (ji9))⟩ : S43) [.int .i64 (wrap64 (Int.tdiv x1_1 a0)), .int .i64 (Int.tmod x1_1 a0), .int .i64 (wrap64 ((Int.tmod x1_1 a0) + (ji9)))] (fun _ => True) (fun _ => False) rfl rfl ?aP (fun _ hk => hk.elim) ?aF ?aO ?aB ?aS ?aL ?_; (case aP => exact k43_mkM _ _ _ (⟨wrap64 (Int.tdiv x1_1 a0), Int.tmod x1_1 a0, wrap64 ((Int.tmod x1_1 a0) + (ji9))⟩ : S43)); (case aB => exact (by repeat (first | (with_reducible first | exact HB.out | apply below_alloc | apply pw_below_drewN | apply below_drew1) | exact HB.out))); (case aF => exact (fun _ _ => trivial)); (case aO => exact (by (with_reducible repeat (first | apply Kd.R_alloc | apply Kd.R_drewN | apply Kd.R_drew)); exact HO_8.out)); (case aS => exact (below_size (by repeat (first | (with_reducible first | exact HB.out | apply below_alloc | apply pw_below_drewN | apply below_drew1) | exact HB.out)))); (case aL => have := LMc10.out; omega); intro v189 w11 ho hb hg hat; rw [← Ny188.out] at ho; have n0_ := Aside0.mk (hb); have n1_ := Aside0.mk (ho); clear HB; clear HO_8; have HB := n0_; have HO190 := n1_; clear n0_ n1_; clear ho hb hg hat))
        go_roundg k1
        case measure => have := HK1.out; omega
        case rel => exact ⟨(wrap64 (x1_1 + (ji9))), (wrap64 (x2_1 - (ji9))), (y188), (by first | rfl | (simp; done) | (simp only [← hji9] <;> (first | rfl | simp)) | (simp [*]; done)), (by first | rfl | (simp; done) | (simp only [← hji9] <;> (first | rfl | simp)) | (simp [*]; done)), H', ⟨by have := HK1.out; omega⟩, ⟨by (with_reducible repeat (first | apply Kd.R_alloc | apply Kd.R_drewN | apply Kd.R_drew)); exact HO190.out⟩, ⟨by repeat (first | (with_reducible first | exact HB.out | apply below_alloc | apply pw_below_drewN | apply below_drew1) | exact HB.out)⟩⟩
       ·rw [if_neg c10] at H
        exact absurd H (by simp)
     ·rw [if_neg c7] at H
      have c7b0 : decide (0 < x2_1) = false := decide_eq_false c7
      clear c7
      simp only [Option.some.injEq, Prod.mk.injEq] at H
      obtain ⟨rfl, rfl⟩ := H
      go_wp2
      go_ret2
      exact ⟨_, by first | rfl | (simp [errW_none, errW_some] <;> rfl) | (simp [*, errW_none, errW_some] <;> rfl), by (with_reducible repeat (first | apply Kd.R_alloc | apply Kd.R_drewN | apply Kd.R_drew)); exact HO_8.out, by repeat (first | (with_reducible first | exact HB.out | apply below_alloc | apply pw_below_drewN | apply below_drew1) | exact HB.out)⟩
 ·replace c5 := Bool.eq_false_iff.mpr c5
  subst c5
  have H1 : (some (([] : List (S43)), 1)) = some (r1, r2) := by rw [if_neg (show ¬ (false = true) by decide)] at H; exact H
  clear H
  have H := H1
  clear H1
  simp only [Option.some.injEq, Prod.mk.injEq] at H
  obtain ⟨rfl, rfl⟩ := H
  go_enter Try.func8, Try.ntmps8
  go_wp2_with (first | ((with_reducible refine HOpen.gate_append ?_); simp only [List.cons_append, List.nil_append]) | ((with_reducible refine gate_callee (f := 26) rfl ?_); refine goesL_ (some 14) rfl rfl Try.func26 (by kernel_rfl) rfl #[.int .i64 a0, .int .i64 a1, .int .i64 a2] rfl (by (try simp only [List.map_toArray, List.map_cons, List.map_nil]); first | done | rfl | (simp only [List.length_drop, List.length_take]; rfl)) ?_; (with_reducible refine (caulkref19_right.calls a0 a1 a2 false _ A4.out).mono ?_); rintro e w' ⟨rfl, ⟨nd, rfl⟩⟩; refine ⟨_, rfl, ?_⟩))
  go_ret2
  exact ⟨_, by first | rfl | (simp [errW_none, errW_some] <;> rfl) | (simp [*, errW_none, errW_some] <;> rfl), by first | exact Kd.R_nil _ _ _ _ _ | exact Kd.N_nil _ _ _ _ _ | exact Kd.V_nil _ _ _ _ _ | exact Kd.Q_nil _ _ _ _ _ | exact Kd.S_nil _ _ _ _ _, by repeat (first | (with_reducible first | exact HB.out | apply below_alloc | apply pw_below_drewN | apply below_drew1) | exact HB.out)⟩

def caulkref19_Whole.f (a0 : Int) (a1 : Int) (a2 : Int) : Option (Int × Int × Int) := (caulkref19_right.f a0 a1 a2).bind fun t192 => (if t192 = true then (if a0 = 0 then (none) else (if (Int.tmod a1 a0) > 0 then (if (wrap64 (Int.tdiv (wrap64 (a1 + a2)) a0)) ≤ (wrap64 ((wrap64 (Int.tdiv a1 a0)) + 1)) then (some (0, 0, 0)) else (some (wrap64 ((wrap64 (Int.tdiv a1 a0)) + 1), wrap64 (Int.tdiv (wrap64 (a1 + a2)) a0), 0))) else (if (wrap64 (Int.tdiv (wrap64 (a1 + a2)) a0)) ≤ (wrap64 (Int.tdiv a1 a0)) then (some (0, 0, 0)) else (some (wrap64 (Int.tdiv a1 a0), wrap64 (Int.tdiv (wrap64 (a1 + a2)) a0), 0))))) else (some (0, 0, 1)))
set_option maxHeartbeats 8000000 in
set_option maxRecDepth 100000 in
theorem caulkref19_Whole.calls (a0 : Int) (a1 : Int) (a2 : Int) (r1 : Int) (r2 : Int) (r3 : Int) (w : World) (h : caulkref19_Whole.f a0 a1 a2 = some (r1, r2, r3)) :
  Calls Try.prog 10 #[.int .i64 a0, .int .i64 a1, .int .i64 a2] w fun e w' => e = .returned (.tuple #[.agg #[.int .i64 r1, .int .i64 r2], .int .i64 r3]) ∧ Below w.heap.size w w' := by
 have hu28 := Try.underlying28
 have HB := Aside0.mk (Below.refl w.heap.size w)
 have H : ((caulkref19_right.f a0 a1 a2).bind fun t192 => (if t192 = true then (if a0 = 0 then (none) else (if (Int.tmod a1 a0) > 0 then (if (wrap64 (Int.tdiv (wrap64 (a1 + a2)) a0)) ≤ (wrap64 ((wrap64 (Int.tdiv a1 a0)) + 1)) then (some (0, 0, 0)) else (some (wrap64 ((wrap64 (Int.tdiv a1 a0)) + 1), wrap64 (Int.tdiv (wrap64 (a1 + a2)) a0), 0))) else (if (wrap64 (Int.tdiv (wrap64 (a1 + a2)) a0)) ≤ (wrap64 (Int.tdiv a1 a0)) then (some (0, 0, 0)) else (some (wrap64 (Int.tdiv a1 a0), wrap64 (Int.tdiv (wrap64 (a1 + a2)) a0), 0))))) else (some (0, 0, 1)))) = some (r1, r2, r3) := h
 clear h
 replace H := Option.bind_eq_some_iff.mp H
 obtain ⟨t192, A40, H⟩ := H
 replace H : (if t192 = true then (if a0 = 0 then (none) else (if (Int.tmod a1 a0) > 0 then (if (wrap64 (Int.tdiv (wrap64 (a1 + a2)) a0)) ≤ (wrap64 ((wrap64 (Int.tdiv a1 a0)) + 1)) then (some (0, 0, 0)) else (some (wrap64 ((wrap64 (Int.tdiv a1 a0)) + 1), wrap64 (Int.tdiv (wrap64 (a1 + a2)) a0), 0))) else (if (wrap64 (Int.tdiv (wrap64 (a1 + a2)) a0)) ≤ (wrap64 (Int.tdiv a1 a0)) then (some (0, 0, 0)) else (some (wrap64 (Int.tdiv a1 a0), wrap64 (Int.tdiv (wrap64 (a1 + a2)) a0), 0))))) else (some (0, 0, 1))) = some (r1, r2, r3) := H
 have A4 := Aside0.mk A40
 clear A40
 by_cases c5 : t192 = true
 ·subst c5
  have H1 : (if a0 = 0 then (none) else (if (Int.tmod a1 a0) > 0 then (if (wrap64 (Int.tdiv (wrap64 (a1 + a2)) a0)) ≤ (wrap64 ((wrap64 (Int.tdiv a1 a0)) + 1)) then (some (0, 0, 0)) else (some (wrap64 ((wrap64 (Int.tdiv a1 a0)) + 1), wrap64 (Int.tdiv (wrap64 (a1 + a2)) a0), 0))) else (if (wrap64 (Int.tdiv (wrap64 (a1 + a2)) a0)) ≤ (wrap64 (Int.tdiv a1 a0)) then (some (0, 0, 0)) else (some (wrap64 (Int.tdiv a1 a0), wrap64 (Int.tdiv (wrap64 (a1 + a2)) a0), 0))))) = some (r1, r2, r3) := by rw [if_pos rfl] at H; exact H
  clear H
  have H := H1
  clear H1
  by_cases c6 : a0 = 0
  ·rw [if_pos c6] at H
   exact absurd H (by simp)
  ·rw [if_neg c6] at H
   have c6b0 : (a0 == 0) = false := beq_eq_false_iff_ne.mpr c6
   have c6b1 : (a0 != 0) = true := bne_iff_ne.mpr c6
   by_cases c7 : (Int.tmod a1 a0) > 0
   ·rw [if_pos c7] at H
    have c7b0 : decide (0 < (Int.tmod a1 a0)) = true := decide_eq_true c7
    clear c7
    by_cases c8 : (wrap64 (Int.tdiv (wrap64 (a1 + a2)) a0)) ≤ (wrap64 ((wrap64 (Int.tdiv a1 a0)) + 1))
    ·rw [if_pos c8] at H
     have c8b0 : decide ((wrap64 (Int.tdiv (wrap64 (a1 + a2)) a0)) ≤ (wrap64 ((wrap64 (Int.tdiv a1 a0)) + 1))) = true := decide_eq_true c8
     clear c8
     simp only [Option.some.injEq, Prod.mk.injEq] at H
     obtain ⟨rfl, rfl, rfl⟩ := H
     go_enter Try.func10, Try.ntmps10
     go_wp2_with (first | ((with_reducible refine HOpen.gate_append ?_); simp only [List.cons_append, List.nil_append]) | ((with_reducible refine gate_dst (N := 6) rfl ?_); refine box_event ?hg (N := 6) ?hd (cs := #[.int .i64 0, .int .i64 0]) (t := 28) ?hr ?_; (case hd => rfl); (case hg => rfl); (case hr => first | (go_simp; done) | (go_simp; rfl)); intro gb191 hg w9 hbox hb; have n0_ := Aside0.mk (below_step (by repeat (first | (with_reducible first | exact HB.out | apply below_alloc | apply pw_below_drewN | apply below_drew1) | exact HB.out)) hb); have n1_ := Aside0.mk (hbox); have n2_ := Aside0.mk ((by rw [hg]; exact (below_size (by repeat (first | (with_reducible first | exact HB.out | apply below_alloc | apply pw_below_drewN | apply below_drew1) | exact HB.out))) : w.heap.size ≤ gb191)); have n3_ := Aside0.mk ((by rw [hg]; exact (below_size (by repeat (first | (with_reducible first | exact HB.out | apply below_alloc | apply pw_below_drewN | apply below_drew1) | exact HB.out))) : w.heap.size ≤ gb191)); clear HB; have HB := n0_; have BK191 := n1_; have GW191 := n2_; have GE191 := n3_; clear n0_ n1_ n2_ n3_; clear hb hbox hg) | ((with_reducible refine gate_callee (f := 26) rfl ?_); refine goesL_ (some 13) rfl rfl Try.func26 (by kernel_rfl) rfl #[.int .i64 a0, .int .i64 a1, .int .i64 a2] rfl (by (try simp only [List.map_toArray, List.map_cons, List.map_nil]); first | done | rfl | (simp only [List.length_drop, List.length_take]; rfl)) ?_; (with_reducible refine (caulkref19_right.calls a0 a1 a2 true _ A4.out).mono ?_); rintro e w' ⟨rfl, ⟨nd, rfl⟩⟩; refine ⟨_, rfl, ?_⟩; (try (rw [drewN_self w9]; generalize hq_ : World.drewN w9 _ = w9; have n0_ : Aside0 (w9.heap[gb191]? = some (.cells #[.int .i64 0, .int .i64 0] 28 (0, 0))) := ⟨by rw [← hq_]; exact (by (with_reducible repeat (first | refine blk_drewN ?_ _ | refine blk_drew ?_ | refine blk_alloc ?_ _)); exact BK191.out)⟩; have n1_ : Aside0 (Below w.heap.size w w9) := ⟨by rw [← hq_]; exact (by repeat (first | (with_reducible first | exact HB.out | apply below_alloc | apply pw_below_drewN | apply below_drew1 | refine below_set ?_ GE191.out) | exact HB.out))⟩; clear BK191 HB hq_; have BK191 := n0_; have HB := n1_; clear n0_ n1_)); have hcz10_0 : w9.cell? ⟨gb191, 0, none⟩ = some (.int .i64 0) := (blk_cell BK191.out 0).trans rfl; have hcz10_1 : w9.cell? ⟨gb191, 1, none⟩ = some (.int .i64 0) := (blk_cell BK191.out 1).trans rfl; have hfz10_0 := blk_frozen BK191.out 0; have hfz10_1 := blk_frozen BK191.out 1))
     refine bodyPost_ret (results_ct rfl _ _ gb191 28 #[.int .i64 0, .int .i64 0] (0, 0) _ rfl (by (with_reducible repeat (first | refine blk_drewN ?_ _ | refine blk_drew ?_ | refine blk_alloc ?_ _)); refine blk_put (cs := #[.int .i64 0, .int .i64 0]) ?_ 1 _ rfl; (with_reducible repeat (first | refine blk_drewN ?_ _ | refine blk_drew ?_ | refine blk_alloc ?_ _)); refine blk_put (cs := #[.int .i64 0, .int .i64 0]) ?_ 0 _ rfl; (with_reducible repeat (first | refine blk_drewN ?_ _ | refine blk_drew ?_ | refine blk_alloc ?_ _)); exact BK191.out) Try.underlying28 rfl (by kernel_rfl)) rfl ?_
     exact ⟨by first | rfl | (simp [errW_none, errW_some] <;> rfl) | (simp [*, errW_none, errW_some] <;> rfl), by repeat (first | (with_reducible first | exact HB.out | apply below_alloc | apply pw_below_drewN | apply below_drew1 | refine below_set ?_ GE191.out) | exact HB.out)⟩
    ·rw [if_neg c8] at H
     have c8b0 : decide ((wrap64 (Int.tdiv (wrap64 (a1 + a2)) a0)) ≤ (wrap64 ((wrap64 (Int.tdiv a1 a0)) + 1))) = false := decide_eq_false c8
     clear c8
     simp only [Option.some.injEq, Prod.mk.injEq] at H
     obtain ⟨rfl, rfl, rfl⟩ := H
     go_enter Try.func10, Try.ntmps10
     go_wp2_with (first | ((with_reducible refine HOpen.gate_append ?_); simp only [List.cons_append, List.nil_append]) | ((with_reducible refine gate_dst (N := 6) rfl ?_); refine box_event ?hg (N := 6) ?hd (cs := #[.int .i64 0, .int .i64 0]) (t := 28) ?hr ?_; (case hd => rfl); (case hg => rfl); (case hr => first | (go_simp; done) | (go_simp; rfl)); intro gb191 hg w11 hbox hb; have n0_ := Aside0.mk (below_step (by repeat (first | (with_reducible first | exact HB.out | apply below_alloc | apply pw_below_drewN | apply below_drew1) | exact HB.out)) hb); have n1_ := Aside0.mk (hbox); have n2_ := Aside0.mk ((by rw [hg]; exact (below_size (by repeat (first | (with_reducible first | exact HB.out | apply below_alloc | apply pw_below_drewN | apply below_drew1) | exact HB.out))) : w.heap.size ≤ gb191)); have n3_ := Aside0.mk ((by rw [hg]; exact (below_size (by repeat (first | (with_reducible first | exact HB.out | apply below_alloc | apply pw_below_drewN | apply below_drew1) | exact HB.out))) : w.heap.size ≤ gb191)); clear HB; have HB := n0_; have BK191 := n1_; have GW191 := n2_; have GE191 := n3_; clear n0_ n1_ n2_ n3_; clear hb hbox hg) | ((with_reducible refine gate_callee (f := 26) rfl ?_); refine goesL_ (some 13) rfl rfl Try.func26 (by kernel_rfl) rfl #[.int .i64 a0, .int .i64 a1, .int .i64 a2] rfl (by (try simp only [List.map_toArray, List.map_cons, List.map_nil]); first | done | rfl | (simp only [List.length_drop, List.length_take]; rfl)) ?_; (with_reducible refine (caulkref19_right.calls a0 a1 a2 true _ A4.out).mono ?_); rintro e w' ⟨rfl, ⟨nd, rfl⟩⟩; refine ⟨_, rfl, ?_⟩; (try (rw [drewN_self w11]; generalize hq_ : World.drewN w11 _ = w11; have n0_ : Aside0 (w11.heap[gb191]? = some (.cells #[.int .i64 0, .int .i64 0] 28 (0, 0))) := ⟨by rw [← hq_]; exact (by (with_reducible repeat (first | refine blk_drewN ?_ _ | refine blk_drew ?_ | refine blk_alloc ?_ _)); exact BK191.out)⟩; have n1_ : Aside0 (Below w.heap.size w w11) := ⟨by rw [← hq_]; exact (by repeat (first | (with_reducible first | exact HB.out | apply below_alloc | apply pw_below_drewN | apply below_drew1 | refine below_set ?_ GE191.out) | exact HB.out))⟩; clear BK191 HB hq_; have BK191 := n0_; have HB := n1_; clear n0_ n1_)); have hcz12_0 : w11.cell? ⟨gb191, 0, none⟩ = some (.int .i64 0) := (blk_cell BK191.out 0).trans rfl; have hcz12_1 : w11.cell? ⟨gb191, 1, none⟩ = some (.int .i64 0) := (blk_cell BK191.out 1).trans rfl; have hfz12_0 := blk_frozen BK191.out 0; have hfz12_1 := blk_frozen BK191.out 1))
     refine bodyPost_ret (results_ct rfl _ _ gb191 28 #[.int .i64 (wrap64 ((wrap64 (Int.tdiv a1 a0)) + 1)), .int .i64 (wrap64 (Int.tdiv (wrap64 (a1 + a2)) a0))] (0, 0) _ rfl (by (with_reducible repeat (first | refine blk_drewN ?_ _ | refine blk_drew ?_ | refine blk_alloc ?_ _)); refine blk_put (cs := #[.int .i64 (wrap64 ((wrap64 (Int.tdiv a1 a0)) + 1)), .int .i64 0]) ?_ 1 _ rfl; (with_reducible repeat (first | refine blk_drewN ?_ _ | refine blk_drew ?_ | refine blk_alloc ?_ _)); refine blk_put (cs := #[.int .i64 0, .int .i64 0]) ?_ 0 _ rfl; (with_reducible repeat (first | refine blk_drewN ?_ _ | refine blk_drew ?_ | refine blk_alloc ?_ _)); exact BK191.out) Try.underlying28 rfl (by kernel_rfl)) rfl ?_
     exact ⟨by first | rfl | (simp [errW_none, errW_some] <;> rfl) | (simp [*, errW_none, errW_some] <;> rfl), by repeat (first | (with_reducible first | exact HB.out | apply below_alloc | apply pw_below_drewN | apply below_drew1 | refine below_set ?_ GE191.out) | exact HB.out)⟩
   ·rw [if_neg c7] at H
    have c7b0 : decide (0 < (Int.tmod a1 a0)) = false := decide_eq_false c7
    clear c7
    by_cases c13 : (wrap64 (Int.tdiv (wrap64 (a1 + a2)) a0)) ≤ (wrap64 (Int.tdiv a1 a0))
    ·rw [if_pos c13] at H
     have c13b0 : decide ((wrap64 (Int.tdiv (wrap64 (a1 + a2)) a0)) ≤ (wrap64 (Int.tdiv a1 a0))) = true := decide_eq_true c13
     clear c13
     simp only [Option.some.injEq, Prod.mk.injEq] at H
     obtain ⟨rfl, rfl, rfl⟩ := H
     go_enter Try.func10, Try.ntmps10
     go_wp2_with (first | ((with_reducible refine HOpen.gate_append ?_); simp only [List.cons_append, List.nil_append]) | ((with_reducible refine gate_dst (N := 6) rfl ?_); refine box_event ?hg (N := 6) ?hd (cs := #[.int .i64 0, .int .i64 0]) (t := 28) ?hr ?_; (case hd => rfl); (case hg => rfl); (case hr => first | (go_simp; done) | (go_simp; rfl)); intro gb191 hg w14 hbox hb; have n0_ := Aside0.mk (below_step (by repeat (first | (with_reducible first | exact HB.out | apply below_alloc | apply pw_below_drewN | apply below_drew1) | exact HB.out)) hb); have n1_ := Aside0.mk (hbox); have n2_ := Aside0.mk ((by rw [hg]; exact (below_size (by repeat (first | (with_reducible first | exact HB.out | apply below_alloc | apply pw_below_drewN | apply below_drew1) | exact HB.out))) : w.heap.size ≤ gb191)); have n3_ := Aside0.mk ((by rw [hg]; exact (below_size (by repeat (first | (with_reducible first | exact HB.out | apply below_alloc | apply pw_below_drewN | apply below_drew1) | exact HB.out))) : w.heap.size ≤ gb191)); clear HB; have HB := n0_; have BK191 := n1_; have GW191 := n2_; have GE191 := n3_; clear n0_ n1_ n2_ n3_; clear hb hbox hg) | ((with_reducible refine gate_callee (f := 26) rfl ?_); refine goesL_ (some 13) rfl rfl Try.func26 (by kernel_rfl) rfl #[.int .i64 a0, .int .i64 a1, .int .i64 a2] rfl (by (try simp only [List.map_toArray, List.map_cons, List.map_nil]); first | done | rfl | (simp only [List.length_drop, List.length_take]; rfl)) ?_; (with_reducible refine (caulkref19_right.calls a0 a1 a2 true _ A4.out).mono ?_); rintro e w' ⟨rfl, ⟨nd, rfl⟩⟩; refine ⟨_, rfl, ?_⟩; (try (rw [drewN_self w14]; generalize hq_ : World.drewN w14 _ = w14; have n0_ : Aside0 (w14.heap[gb191]? = some (.cells #[.int .i64 0, .int .i64 0] 28 (0, 0))) := ⟨by rw [← hq_]; exact (by (with_reducible repeat (first | refine blk_drewN ?_ _ | refine blk_drew ?_ | refine blk_alloc ?_ _)); exact BK191.out)⟩; have n1_ : Aside0 (Below w.heap.size w w14) := ⟨by rw [← hq_]; exact (by repeat (first | (with_reducible first | exact HB.out | apply below_alloc | apply pw_below_drewN | apply below_drew1 | refine below_set ?_ GE191.out) | exact HB.out))⟩; clear BK191 HB hq_; have BK191 := n0_; have HB := n1_; clear n0_ n1_)); have hcz15_0 : w14.cell? ⟨gb191, 0, none⟩ = some (.int .i64 0) := (blk_cell BK191.out 0).trans rfl; have hcz15_1 : w14.cell? ⟨gb191, 1, none⟩ = some (.int .i64 0) := (blk_cell BK191.out 1).trans rfl; have hfz15_0 := blk_frozen BK191.out 0; have hfz15_1 := blk_frozen BK191.out 1))
     refine bodyPost_ret (results_ct rfl _ _ gb191 28 #[.int .i64 0, .int .i64 0] (0, 0) _ rfl (by (with_reducible repeat (first | refine blk_drewN ?_ _ | refine blk_drew ?_ | refine blk_alloc ?_ _)); refine blk_put (cs := #[.int .i64 0, .int .i64 0]) ?_ 1 _ rfl; (with_reducible repeat (first | refine blk_drewN ?_ _ | refine blk_drew ?_ | refine blk_alloc ?_ _)); refine blk_put (cs := #[.int .i64 0, .int .i64 0]) ?_ 0 _ rfl; (with_reducible repeat (first | refine blk_drewN ?_ _ | refine blk_drew ?_ | refine blk_alloc ?_ _)); exact BK191.out) Try.underlying28 rfl (by kernel_rfl)) rfl ?_
     exact ⟨by first | rfl | (simp [errW_none, errW_some] <;> rfl) | (simp [*, errW_none, errW_some] <;> rfl), by repeat (first | (with_reducible first | exact HB.out | apply below_alloc | apply pw_below_drewN | apply below_drew1 | refine below_set ?_ GE191.out) | exact HB.out)⟩
    ·rw [if_neg c13] at H
     have c13b0 : decide ((wrap64 (Int.tdiv (wrap64 (a1 + a2)) a0)) ≤ (wrap64 (Int.tdiv a1 a0))) = false := decide_eq_false c13
     clear c13
     simp only [Option.some.injEq, Prod.mk.injEq] at H
     obtain ⟨rfl, rfl, rfl⟩ := H
     go_enter Try.func10, Try.ntmps10
     go_wp2_with (first | ((with_reducible refine HOpen.gate_append ?_); simp only [List.cons_append, List.nil_append]) | ((with_reducible refine gate_dst (N := 6) rfl ?_); refine box_event ?hg (N := 6) ?hd (cs := #[.int .i64 0, .int .i64 0]) (t := 28) ?hr ?_; (case hd => rfl); (case hg => rfl); (case hr => first | (go_simp; done) | (go_simp; rfl)); intro gb191 hg w16 hbox hb; have n0_ := Aside0.mk (below_step (by repeat (first | (with_reducible first | exact HB.out | apply below_alloc | apply pw_below_drewN | apply below_drew1) | exact HB.out)) hb); have n1_ := Aside0.mk (hbox); have n2_ := Aside0.mk ((by rw [hg]; exact (below_size (by repeat (first | (with_reducible first | exact HB.out | apply below_alloc | apply pw_below_drewN | apply below_drew1) | exact HB.out))) : w.heap.size ≤ gb191)); have n3_ := Aside0.mk ((by rw [hg]; exact (below_size (by repeat (first | (with_reducible first | exact HB.out | apply below_alloc | apply pw_below_drewN | apply below_drew1) | exact HB.out))) : w.heap.size ≤ gb191)); clear HB; have HB := n0_; have BK191 := n1_; have GW191 := n2_; have GE191 := n3_; clear n0_ n1_ n2_ n3_; clear hb hbox hg) | ((with_reducible refine gate_callee (f := 26) rfl ?_); refine goesL_ (some 13) rfl rfl Try.func26 (by kernel_rfl) rfl #[.int .i64 a0, .int .i64 a1, .int .i64 a2] rfl (by (try simp only [List.map_toArray, List.map_cons, List.map_nil]); first | done | rfl | (simp only [List.length_drop, List.length_take]; rfl)) ?_; (with_reducible refine (caulkref19_right.calls a0 a1 a2 true _ A4.out).mono ?_); rintro e w' ⟨rfl, ⟨nd, rfl⟩⟩; refine ⟨_, rfl, ?_⟩; (try (rw [drewN_self w16]; generalize hq_ : World.drewN w16 _ = w16; have n0_ : Aside0 (w16.heap[gb191]? = some (.cells #[.int .i64 0, .int .i64 0] 28 (0, 0))) := ⟨by rw [← hq_]; exact (by (with_reducible repeat (first | refine blk_drewN ?_ _ | refine blk_drew ?_ | refine blk_alloc ?_ _)); exact BK191.out)⟩; have n1_ : Aside0 (Below w.heap.size w w16) := ⟨by rw [← hq_]; exact (by repeat (first | (with_reducible first | exact HB.out | apply below_alloc | apply pw_below_drewN | apply below_drew1 | refine below_set ?_ GE191.out) | exact HB.out))⟩; clear BK191 HB hq_; have BK191 := n0_; have HB := n1_; clear n0_ n1_)); have hcz17_0 : w16.cell? ⟨gb191, 0, none⟩ = some (.int .i64 0) := (blk_cell BK191.out 0).trans rfl; have hcz17_1 : w16.cell? ⟨gb191, 1, none⟩ = some (.int .i64 0) := (blk_cell BK191.out 1).trans rfl; have hfz17_0 := blk_frozen BK191.out 0; have hfz17_1 := blk_frozen BK191.out 1))
     refine bodyPost_ret (results_ct rfl _ _ gb191 28 #[.int .i64 (wrap64 (Int.tdiv a1 a0)), .int .i64 (wrap64 (Int.tdiv (wrap64 (a1 + a2)) a0))] (0, 0) _ rfl (by (with_reducible repeat (first | refine blk_drewN ?_ _ | refine blk_drew ?_ | refine blk_alloc ?_ _)); refine blk_put (cs := #[.int .i64 (wrap64 (Int.tdiv a1 a0)), .int .i64 0]) ?_ 1 _ rfl; (with_reducible repeat (first | refine blk_drewN ?_ _ | refine blk_drew ?_ | refine blk_alloc ?_ _)); refine blk_put (cs := #[.int .i64 0, .int .i64 0]) ?_ 0 _ rfl; (with_reducible repeat (first | refine blk_drewN ?_ _ | refine blk_drew ?_ | refine blk_alloc ?_ _)); exact BK191.out) Try.underlying28 rfl (by kernel_rfl)) rfl ?_
     exact ⟨by first | rfl | (simp [errW_none, errW_some] <;> rfl) | (simp [*, errW_none, errW_some] <;> rfl), by repeat (first | (with_reducible first | exact HB.out | apply below_alloc | apply pw_below_drewN | apply below_drew1 | refine below_set ?_ GE191.out) | exact HB.out)⟩
 ·replace c5 := Bool.eq_false_iff.mpr c5
  subst c5
  have H1 : (some (0, 0, 1)) = some (r1, r2, r3) := by rw [if_neg (show ¬ (false = true) by decide)] at H; exact H
  clear H
  have H := H1
  clear H1
  simp only [Option.some.injEq, Prod.mk.injEq] at H
  obtain ⟨rfl, rfl, rfl⟩ := H
  go_enter Try.func10, Try.ntmps10
  go_wp2_with (first | ((with_reducible refine HOpen.gate_append ?_); simp only [List.cons_append, List.nil_append]) | ((with_reducible refine gate_dst (N := 6) rfl ?_); refine box_event ?hg (N := 6) ?hd (cs := #[.int .i64 0, .int .i64 0]) (t := 28) ?hr ?_; (case hd => rfl); (case hg => rfl); (case hr => first | (go_simp; done) | (go_simp; rfl)); intro gb191 hg w18 hbox hb; have n0_ := Aside0.mk (below_step (by repeat (first | (with_reducible first | exact HB.out | apply below_alloc | apply pw_below_drewN | apply below_drew1) | exact HB.out)) hb); have n1_ := Aside0.mk (hbox); have n2_ := Aside0.mk ((by rw [hg]; exact (below_size (by repeat (first | (with_reducible first | exact HB.out | apply below_alloc | apply pw_below_drewN | apply below_drew1) | exact HB.out))) : w.heap.size ≤ gb191)); have n3_ := Aside0.mk ((by rw [hg]; exact (below_size (by repeat (first | (with_reducible first | exact HB.out | apply below_alloc | apply pw_below_drewN | apply below_drew1) | exact HB.out))) : w.heap.size ≤ gb191)); clear HB; have HB := n0_; have BK191 := n1_; have GW191 := n2_; have GE191 := n3_; clear n0_ n1_ n2_ n3_; clear hb hbox hg) | ((with_reducible refine gate_callee (f := 26) rfl ?_); refine goesL_ (some 13) rfl rfl Try.func26 (by kernel_rfl) rfl #[.int .i64 a0, .int .i64 a1, .int .i64 a2] rfl (by (try simp only [List.map_toArray, List.map_cons, List.map_nil]); first | done | rfl | (simp only [List.length_drop, List.length_take]; rfl)) ?_; (with_reducible refine (caulkref19_right.calls a0 a1 a2 false _ A4.out).mono ?_); rintro e w' ⟨rfl, ⟨nd, rfl⟩⟩; refine ⟨_, rfl, ?_⟩; (try (rw [drewN_self w18]; generalize hq_ : World.drewN w18 _ = w18; have n0_ : Aside0 (w18.heap[gb191]? = some (.cells #[.int .i64 0, .int .i64 0] 28 (0, 0))) := ⟨by rw [← hq_]; exact (by (with_reducible repeat (first | refine blk_drewN ?_ _ | refine blk_drew ?_ | refine blk_alloc ?_ _)); exact BK191.out)⟩; have n1_ : Aside0 (Below w.heap.size w w18) := ⟨by rw [← hq_]; exact (by repeat (first | (with_reducible first | exact HB.out | apply below_alloc | apply pw_below_drewN | apply below_drew1 | refine below_set ?_ GE191.out) | exact HB.out))⟩; clear BK191 HB hq_; have BK191 := n0_; have HB := n1_; clear n0_ n1_)); have hcz19_0 : w18.cell? ⟨gb191, 0, none⟩ = some (.int .i64 0) := (blk_cell BK191.out 0).trans rfl; have hcz19_1 : w18.cell? ⟨gb191, 1, none⟩ = some (.int .i64 0) := (blk_cell BK191.out 1).trans rfl; have hfz19_0 := blk_frozen BK191.out 0; have hfz19_1 := blk_frozen BK191.out 1))
  refine bodyPost_ret (results_ct rfl _ _ gb191 28 #[.int .i64 0, .int .i64 0] (0, 0) _ rfl (by (with_reducible repeat (first | refine blk_drewN ?_ _ | refine blk_drew ?_ | refine blk_alloc ?_ _)); refine blk_put (cs := #[.int .i64 0, .int .i64 0]) ?_ 1 _ rfl; (with_reducible repeat (first | refine blk_drewN ?_ _ | refine blk_drew ?_ | refine blk_alloc ?_ _)); refine blk_put (cs := #[.int .i64 0, .int .i64 0]) ?_ 0 _ rfl; (with_reducible repeat (first | refine blk_drewN ?_ _ | refine blk_drew ?_ | refine blk_alloc ?_ _)); exact BK191.out) Try.underlying28 rfl (by kernel_rfl)) rfl ?_
  exact ⟨by first | rfl | (simp [errW_none, errW_some] <;> rfl) | (simp [*, errW_none, errW_some] <;> rfl), by repeat (first | (with_reducible first | exact HB.out | apply below_alloc | apply pw_below_drewN | apply below_drew1 | refine below_set ?_ GE191.out) | exact HB.out)⟩

def caulklaw19_SpanCuts.j0 : Nat → Int → Int → Int → Bool → Option (Bool)
 | 0, _, _, _, _ => none
 | k + 1, x0, x1, x2, x28 => if x28 = true then ((caulklaw19_lives.f).bind fun t193 => (some t193)) else ((span_Cut.f x0 x1 x2).bind fun bt194 => ((caulkref19_Cut.f k x0 x1 x2).bind fun bt198 => ((span_Whole.f x0 x1 x2).bind fun bt202 => ((caulkref19_Whole.f x0 x1 x2).bind fun bt206 => ((caulklaw19_lives.f).bind fun t210 => (if t210 = true then ((caulkref19_Same.f k bt194.1 bt198.1).bind fun t211 => (if t211 = true then (if bt194.2 = bt198.2 then (if (bt202.1 == bt206.1 && (bt202.2.1 == bt206.2.1)) = true then (some (bt202.2.2 == bt206.2.2)) else (some false)) else (some false)) else (some false))) else (some false)))))))
def caulklaw19_SpanCuts.f (k : Nat) (a0 : Int) (a1 : Int) (a2 : Int) : Option (Bool) := if a0 > 0 then (if a0 < 64 then (if a2 > 16384 then (caulklaw19_SpanCuts.j0 k a0 a1 a2 (decide (a2 ≤ 1048576))) else (caulklaw19_SpanCuts.j0 k a0 a1 a2 false)) else (caulklaw19_SpanCuts.j0 k a0 a1 a2 false)) else (caulklaw19_SpanCuts.j0 k a0 a1 a2 false)
theorem caulklaw19_SpanCuts.mono_l : ∀ k, (∀ y0 y1 y2 y3, LeO (caulklaw19_SpanCuts.j0 k y0 y1 y2 y3) (caulklaw19_SpanCuts.j0 (k + 1) y0 y1 y2 y3))
 | 0 => fun _ _ _ _ r h => by simp [caulklaw19_SpanCuts.j0] at h
 | k + 1 => by
  have ih0 := caulklaw19_SpanCuts.mono_l k
  ·intro y0 y1 y2 y3
   unfold caulklaw19_SpanCuts.j0
   repeat' first
   | (with_reducible exact ih0 _ _ _ _)
   | (with_reducible exact caulkref19_Cut.mono _ _ _ _)
   | (with_reducible exact caulkref19_Same.mono _ _ _)
   | (with_reducible exact LeO.refl _)
   | (with_reducible exact LeO.none _)
   | (with_reducible refine LeO.ite ?_ ?_)
   | (with_reducible refine LeO.bind ?_ (fun _ => ?_))
   | exact ih0 _ _ _ _
   | exact caulkref19_Cut.mono _ _ _ _
   | exact caulkref19_Same.mono _ _ _
   | exact LeO.none _
   | refine LeO.ite ?_ ?_
   | refine LeO.bind ?_ (fun _ => ?_)
theorem caulklaw19_SpanCuts.mono : ∀ a0 a1 a2 k, LeO (caulklaw19_SpanCuts.f k a0 a1 a2) (caulklaw19_SpanCuts.f (k + 1) a0 a1 a2) := by
 intro a0 a1 a2 k
 have ih0 := caulklaw19_SpanCuts.mono_l k
 unfold caulklaw19_SpanCuts.f
 repeat' first
   | (with_reducible exact ih0 _ _ _ _)
   | (with_reducible exact caulkref19_Cut.mono _ _ _ _)
   | (with_reducible exact caulkref19_Same.mono _ _ _)
   | (with_reducible exact LeO.refl _)
   | (with_reducible exact LeO.none _)
   | (with_reducible refine LeO.ite ?_ ?_)
   | (with_reducible refine LeO.bind ?_ (fun _ => ?_))
   | exact ih0 _ _ _ _
   | exact caulkref19_Cut.mono _ _ _ _
   | exact caulkref19_Same.mono _ _ _
   | exact LeO.none _
   | refine LeO.ite ?_ ?_
   | refine LeO.bind ?_ (fun _ => ?_)
set_option maxHeartbeats 8000000 in
set_option maxRecDepth 100000 in
theorem caulklaw19_SpanCuts.calls (k : Nat) (a0 : Int) (a1 : Int) (a2 : Int) (r : Bool) (w : World) (hrt : Aside0 (r = true)) (h : caulklaw19_SpanCuts.f k a0 a1 a2 = some r) :
  Calls Try.prog 3 #[.int .i64 a0, .int .i64 a1, .int .i64 a2] w fun e w' => e = .returned (.bool r) ∧ Below w.heap.size w w' := by
 have hu28 := Try.underlying28
 have HB := Aside0.mk (Below.refl w.heap.size w)
 have H : (if a0 > 0 then (if a0 < 64 then (if a2 > 16384 then (caulklaw19_SpanCuts.j0 k a0 a1 a2 (decide (a2 ≤ 1048576))) else (caulklaw19_SpanCuts.j0 k a0 a1 a2 false)) else (caulklaw19_SpanCuts.j0 k a0 a1 a2 false)) else (caulklaw19_SpanCuts.j0 k a0 a1 a2 false)) = some r := h
 clear h
 have HC4 := Aside0.mk H
 clear H
 go_enter Try.func3, Try.ntmps3
 (try simp only [List.append_eq, List.cons_append, List.nil_append])
 go_upto_region 1 with (fail)
 go_cut [28] (fun v28 wc => ∃ (kq : Nat) (x28_3 : Bool), v28 = .bool x28_3 ∧ Aside0 (caulklaw19_SpanCuts.j0 kq a0 a1 a2 x28_3 = some r) ∧ Aside0 (kq ≤ k) ∧ Aside0 (Below w.heap.size w wc))
 case first =>
  have H := HC4.out
  clear HC4
  by_cases c5 : a0 > 0
  ·rw [if_pos c5] at H
   have c5b0 : decide (0 < a0) = true := decide_eq_true c5
   clear c5
   (first | rw [c5b0] | (simp only [i64_w, i32_w]; rw [c5b0]) | skip)
   by_cases c6 : a0 < 64
   ·rw [if_pos c6] at H
    have c6b0 : decide (a0 < 64) = true := decide_eq_true c6
    clear c6
    by_cases c7 : a2 > 16384
    ·rw [if_pos c7] at H
     have c7b0 : decide (16384 < a2) = true := decide_eq_true c7
     clear c7
     have H' := Aside0.mk H
     clear H
     go_wp2
     go_meet
     case rel => exact ⟨_, (decide (a2 ≤ 1048576)), (by first | rfl | (simp; done) | (simp [*]; done)), H', ⟨by first | omega | exact Nat.le_refl _⟩, ⟨by repeat (first | (with_reducible first | exact HB.out | apply below_alloc | apply pw_below_drewN | apply below_drew1) | exact HB.out)⟩⟩
    ·rw [if_neg c7] at H
     have c7b0 : decide (16384 < a2) = false := decide_eq_false c7
     clear c7
     have H' := Aside0.mk H
     clear H
     go_wp2
     go_meet
     case rel => exact ⟨_, (false), (by first | rfl | (simp; done) | (simp [*]; done)), H', ⟨by first | omega | exact Nat.le_refl _⟩, ⟨by repeat (first | (with_reducible first | exact HB.out | apply below_alloc | apply pw_below_drewN | apply below_drew1) | exact HB.out)⟩⟩
   ·rw [if_neg c6] at H
    have c6b0 : decide (a0 < 64) = false := decide_eq_false c6
    clear c6
    have H' := Aside0.mk H
    clear H
    go_wp2
    go_meet
    case rel => exact ⟨_, (false), (by first | rfl | (simp; done) | (simp [*]; done)), H', ⟨by first | omega | exact Nat.le_refl _⟩, ⟨by repeat (first | (with_reducible first | exact HB.out | apply below_alloc | apply pw_below_drewN | apply below_drew1) | exact HB.out)⟩⟩
  ·rw [if_neg c5] at H
   have c5b0 : decide (0 < a0) = false := decide_eq_false c5
   clear c5
   (first | rw [c5b0] | (simp only [i64_w, i32_w]; rw [c5b0]) | skip)
   have H' := Aside0.mk H
   clear H
   go_wp2
   go_meet
   case rel => exact ⟨_, (false), (by first | rfl | (simp; done) | (simp [*]; done)), H', ⟨by first | omega | exact Nat.le_refl _⟩, ⟨by repeat (first | (with_reducible first | exact HB.out | apply below_alloc | apply pw_below_drewN | apply below_drew1) | exact HB.out)⟩⟩
 case rest =>
  clear HC4
  try clear p2
  try clear c3
  try clear c5
  try clear c5b0
  try clear c6
  try clear c6b0
  try clear c7
  try clear c7b0
  obtain ⟨kq, x28_3, rfl, HA, HJ3, HB⟩ := hcut
  cases kq with
  | zero => exact absurd HA.out (by simp [caulklaw19_SpanCuts.j0])
  | succ kj3 =>
   have H := HA.out
   clear HA
   simp only [caulklaw19_SpanCuts.j0] at H
   by_cases c8 : x28_3 = true
   ·subst c8
    have H1 : ((caulklaw19_lives.f).bind fun t193 => (some t193)) = some r := by rw [if_pos rfl] at H; exact H
    clear H
    have H := H1
    clear H1
    replace H := Option.bind_eq_some_iff.mp H
    obtain ⟨t193, A90, H⟩ := H
    replace H : (some t193) = some r := H
    have A9 := Aside0.mk A90
    clear A90
    obtain rfl := Option.some.inj H
    go_wp2_with (first | ((with_reducible refine HOpen.gate_append ?_); simp only [List.cons_append, List.nil_append]) | ((with_reducible refine gate_callee (f := 6) rfl ?_); refine goesL_ (some 29) rfl rfl Try.func6 (by kernel_rfl) rfl #[] rfl (by (try simp only [List.map_toArray, List.map_cons, List.map_nil]); first | done | rfl | (simp only [List.length_drop, List.length_take]; rfl)) ?_; (with_reducible refine (caulklaw19_lives.calls  t193 _ A9.out).mono ?_); rintro e w10 ⟨rfl, hb⟩; refine ⟨_, rfl, ?_⟩; have n0_ := Aside0.mk (below_step (by repeat (first | (with_reducible first | exact HB.out | apply below_alloc | apply pw_below_drewN | apply below_drew1) | exact HB.out)) hb); clear HB; have HB := n0_; clear n0_; (try clear hb); (try clear hb2); (try clear hk); (try clear hi)))
    go_ret
    exact ⟨by first | rfl | (simp [errW_none, errW_some] <;> rfl) | (simp [*, errW_none, errW_some] <;> rfl), by repeat (first | (with_reducible first | exact HB.out | apply below_alloc | apply pw_below_drewN | apply below_drew1) | exact HB.out)⟩
   ·replace c8 := Bool.eq_false_iff.mpr c8
    subst c8
    have H1 : ((span_Cut.f a0 a1 a2).bind fun bt194 => ((caulkref19_Cut.f kj3 a0 a1 a2).bind fun bt198 => ((span_Whole.f a0 a1 a2).bind fun bt202 => ((caulkref19_Whole.f a0 a1 a2).bind fun bt206 => ((caulklaw19_lives.f).bind fun t210 => (if t210 = true then ((caulkref19_Same.f kj3 bt194.1 bt198.1).bind fun t211 => (if t211 = true then (if bt194.2 = bt198.2 then (if (bt202.1 == bt206.1 && (bt202.2.1 == bt206.2.1)) = true then (some (bt202.2.2 == bt206.2.2)) else (some false)) else (some false)) else (some false))) else (some false))))))) = some r := by rw [if_neg (show ¬ (false = true) by decide)] at H; exact H
    clear H
    have H := H1
    clear H1
    replace H := Option.bind_eq_some_iff.mp H
    obtain ⟨⟨t194, t195⟩, A110, H⟩ := H
    replace H : ((caulkref19_Cut.f kj3 a0 a1 a2).bind fun bt198 => ((span_Whole.f a0 a1 a2).bind fun bt202 => ((caulkref19_Whole.f a0 a1 a2).bind fun bt206 => ((caulklaw19_lives.f).bind fun t210 => (if t210 = true then ((caulkref19_Same.f kj3 t194 bt198.1).bind fun t211 => (if t211 = true then (if t195 = bt198.2 then (if (bt202.1 == bt206.1 && (bt202.2.1 == bt206.2.1)) = true then (some (bt202.2.2 == bt206.2.2)) else (some false)) else (some false)) else (some false))) else (some false)))))) = some r := H
    have A11 := Aside0.mk A110
    clear A110
    replace H := Option.bind_eq_some_iff.mp H
    obtain ⟨⟨t198, t199⟩, A120, H⟩ := H
    replace H : ((span_Whole.f a0 a1 a2).bind fun bt202 => ((caulkref19_Whole.f a0 a1 a2).bind fun bt206 => ((caulklaw19_lives.f).bind fun t210 => (if t210 = true then ((caulkref19_Same.f kj3 t194 t198).bind fun t211 => (if t211 = true then (if t195 = t199 then (if (bt202.1 == bt206.1 && (bt202.2.1 == bt206.2.1)) = true then (some (bt202.2.2 == bt206.2.2)) else (some false)) else (some false)) else (some false))) else (some false))))) = some r := H
    have A12 := Aside0.mk A120
    clear A120
    replace H := Option.bind_eq_some_iff.mp H
    obtain ⟨⟨t202, t203, t204⟩, A130, H⟩ := H
    replace H : ((caulkref19_Whole.f a0 a1 a2).bind fun bt206 => ((caulklaw19_lives.f).bind fun t210 => (if t210 = true then ((caulkref19_Same.f kj3 t194 t198).bind fun t211 => (if t211 = true then (if t195 = t199 then (if (t202 == bt206.1 && (t203 == bt206.2.1)) = true then (some (t204 == bt206.2.2)) else (some false)) else (some false)) else (some false))) else (some false)))) = some r := H
    have A13 := Aside0.mk A130
    clear A130
    replace H := Option.bind_eq_some_iff.mp H
    obtain ⟨⟨t206, t207, t208⟩, A140, H⟩ := H
    replace H : ((caulklaw19_lives.f).bind fun t210 => (if t210 = true then ((caulkref19_Same.f kj3 t194 t198).bind fun t211 => (if t211 = true then (if t195 = t199 then (if (t202 == t206 && (t203 == t207)) = true then (some (t204 == t208)) else (some false)) else (some false)) else (some false))) else (some false))) = some r := H
    have A14 := Aside0.mk A140
    clear A140
    replace H := Option.bind_eq_some_iff.mp H
    obtain ⟨t210, A150, H⟩ := H
    replace H : (if t210 = true then ((caulkref19_Same.f kj3 t194 t198).bind fun t211 => (if t211 = true then (if t195 = t199 then (if (t202 == t206 && (t203 == t207)) = true then (some (t204 == t208)) else (some false)) else (some false)) else (some false))) else (some false)) = some r := H
    have A15 := Aside0.mk A150
    clear A150
    by_cases c16 : t210 = true
    ·subst c16
     have H1 : ((caulkref19_Same.f kj3 t194 t198).bind fun t211 => (if t211 = true then (if t195 = t199 then (if (t202 == t206 && (t203 == t207)) = true then (some (t204 == t208)) else (some false)) else (some false)) else (some false))) = some r := by rw [if_pos rfl] at H; exact H
     clear H
     have H := H1
     clear H1
     replace H := Option.bind_eq_some_iff.mp H
     obtain ⟨t211, A170, H⟩ := H
     replace H : (if t211 = true then (if t195 = t199 then (if (t202 == t206 && (t203 == t207)) = true then (some (t204 == t208)) else (some false)) else (some false)) else (some false)) = some r := H
     have A17 := Aside0.mk A170
     clear A170
     by_cases c18 : t211 = true
     ·subst c18
      have H1 : (if t195 = t199 then (if (t202 == t206 && (t203 == t207)) = true then (some (t204 == t208)) else (some false)) else (some false)) = some r := by rw [if_pos rfl] at H; exact H
      clear H
      have H := H1
      clear H1
      by_cases c19 : t195 = t199
      ·rw [if_pos c19] at H
       have c19b0 : (t195 == t199) = true := beq_iff_eq.mpr c19
       have c19b1 : (t195 != t199) = false := bne_eq_false_iff_eq.mpr c19
       clear c19
       by_cases c20 : (t202 == t206 && (t203 == t207)) = true
       ·rw [if_pos c20] at H
        have c20b0 : (t202 == t206 && (t203 == t207)) = true := c20
        (try (have c20b1 : decide (t202 = t206 && (t203 == t207)) = true := by simpa using c20))
        (try (have c20b2 : (t202 == t206 && (t203 == t207)) = true := by simpa using c20))
        clear c20
        obtain rfl := Option.some.inj H
        go_wp2_with (first | ((with_reducible refine HOpen.gate_append ?_); simp only [List.cons_append, List.nil_append]) | ((with_reducible refine gate_callee (f := 7) rfl ?_); refine goesL_ (some 34) rfl rfl Try.func7 (by kernel_rfl) rfl #[.int .i64 a0, .int .i64 a1, .int .i64 a2] rfl (by (try simp only [List.map_toArray, List.map_cons, List.map_nil]); first | done | rfl | (simp only [List.length_drop, List.length_take]; rfl)) ?_; (with_reducible refine (span_Cut.calls a0 a1 a2 t194 t195 _ A11.out).mono ?_); rintro e w21 ⟨v196, rfl, ho0, hb⟩; refine ⟨_, rfl, ?_⟩; have n0_ := Aside0.mk (Kd.R_lower ho0 (below_size (by repeat (first | (with_reducible first | exact HB.out | apply below_alloc | apply pw_below_drewN | apply below_drew1) | exact HB.out)))); have n1_ := Aside0.mk (below_step (by repeat (first | (with_reducible first | exact HB.out | apply below_alloc | apply pw_below_drewN | apply below_drew1) | exact HB.out)) hb); clear HB; have HO197 := n0_; have HB := n1_; clear n0_ n1_; (try clear hb); (try clear hb2); (try clear hk); (try clear hi); (try clear ho0)) | ((with_reducible refine gate_callee (f := 8) rfl ?_); refine goesL_ (some 41) rfl rfl Try.func8 (by kernel_rfl) rfl #[.int .i64 a0, .int .i64 a1, .int .i64 a2] rfl (by (try simp only [List.map_toArray, List.map_cons, List.map_nil]); first | done | rfl | (simp only [List.length_drop, List.length_take]; rfl)) ?_; (with_reducible refine (caulkref19_Cut.calls kj3 a0 a1 a2 t198 t199 _ A12.out).mono ?_); rintro e w22 ⟨v200, rfl, ho0, hb⟩; refine ⟨_, rfl, ?_⟩; have n0_ := Aside0.mk (Kd.R_elder' (by (with_reducible repeat (first | apply Kd.R_alloc | apply Kd.R_drewN | apply Kd.R_drew)); exact HO197.out) (Kd.R_base ho0) hb); have n1_ := Aside0.mk (Kd.R_lower (Kd.R_new' ho0 (Kd.R_lt (by (with_reducible repeat (first | apply Kd.R_alloc | apply Kd.R_drewN | apply Kd.R_drew)); exact HO197.out))) (below_size (by repeat (first | (with_reducible first | exact HB.out | apply below_alloc | apply pw_below_drewN | apply below_drew1) | exact HB.out)))); have n2_ := Aside0.mk (below_step (by repeat (first | (with_reducible first | exact HB.out | apply below_alloc | apply pw_below_drewN | apply below_drew1) | exact HB.out)) hb); clear HO197; clear HB; have HO197 := n0_; have HO201 := n1_; have HB := n2_; clear n0_ n1_ n2_; (try clear hb); (try clear hb2); (try clear hk); (try clear hi); (try clear ho0)) | ((with_reducible refine gate_callee (f := 9) rfl ?_); refine goesL_ (some 48) rfl rfl Try.func9 (by kernel_rfl) rfl #[.int .i64 a0, .int .i64 a1, .int .i64 a2] rfl (by (try simp only [List.map_toArray, List.map_cons, List.map_nil]); first | done | rfl | (simp only [List.length_drop, List.length_take]; rfl)) ?_; (with_reducible refine (span_Whole.calls a0 a1 a2 t202 t203 t204 _ A13.out).mono ?_); rintro e w23 ⟨rfl, hb⟩; refine ⟨_, rfl, ?_⟩; have n0_ := Aside0.mk (Kd.R_below (by (with_reducible repeat (first | apply Kd.R_alloc | apply Kd.R_drewN | apply Kd.R_drew)); exact HO197.out) hb); have n1_ := Aside0.mk (Kd.R_below (by (with_reducible repeat (first | apply Kd.R_alloc | apply Kd.R_drewN | apply Kd.R_drew)); exact HO201.out) hb); have n2_ := Aside0.mk (below_step (by repeat (first | (with_reducible first | exact HB.out | apply below_alloc | apply pw_below_drewN | apply below_drew1) | exact HB.out)) hb); clear HO197; clear HO201; clear HB; have HO197 := n0_; have HO201 := n1_; have HB := n2_; clear n0_ n1_ n2_; (try clear hb); (try clear hb2); (try clear hk); (try clear hi)) | ((with_reducible refine gate_dst (N := 11) rfl ?_); refine box_event ?hg (N := 11) ?hd (cs := #[.int .i64 0, .int .i64 0]) (t := 28) ?hr ?_; (case hd => rfl); (case hg => rfl); (case hr => first | (go_simp; done) | (go_simp; rfl)); intro gb205 hg w24 hbox hb; have n0_ := Aside0.mk (Kd.R_below (by (with_reducible repeat (first | apply Kd.R_alloc | apply Kd.R_drewN | apply Kd.R_drew)); exact HO197.out) hb); have n1_ := Aside0.mk (Kd.R_below (by (with_reducible repeat (first | apply Kd.R_alloc | apply Kd.R_drewN | apply Kd.R_drew)); exact HO201.out) hb); have n2_ := Aside0.mk (below_step (by repeat (first | (with_reducible first | exact HB.out | apply below_alloc | apply pw_below_drewN | apply below_drew1) | exact HB.out)) hb); have n3_ := Aside0.mk (hbox); have n4_ := Aside0.mk ((by rw [hg]; exact (below_size (by repeat (first | (with_reducible first | exact HB.out | apply below_alloc | apply pw_below_drewN | apply below_drew1) | exact HB.out))) : w.heap.size ≤ gb205)); have n5_ := Aside0.mk ((by rw [hg]; exact (below_size (by repeat (first | (with_reducible first | exact HB.out | apply below_alloc | apply pw_below_drewN | apply below_drew1) | exact HB.out))) : w.heap.size ≤ gb205)); clear HO197; clear HO201; clear HB; have HO197 := n0_; have HO201 := n1_; have HB := n2_; have BK205 := n3_; have GW205 := n4_; have GE205 := n5_; clear n0_ n1_ n2_ n3_ n4_ n5_; clear hb hbox hg; have hcz25_0 : w24.cell? ⟨gb205, 0, none⟩ = some (.int .i64 0) := (blk_cell BK205.out 0).trans rfl; have hcz25_1 : w24.cell? ⟨gb205, 1, none⟩ = some (.int .i64 0) := (blk_cell BK205.out 1).trans rfl; have hfz25_0 := blk_frozen BK205.out 0; have hfz25_1 := blk_frozen BK205.out 1) | ((with_reducible refine gate_callee (f := 10) rfl ?_); refine goesL_ (some 55) rfl rfl Try.func10 (by kernel_rfl) rfl #[.int .i64 a0, .int .i64 a1, .int .i64 a2] rfl (by (try simp only [List.map_toArray, List.map_cons, List.map_nil]); first | done | rfl | (simp only [List.length_drop, List.length_take]; rfl)) ?_; (with_reducible refine (caulkref19_Whole.calls a0 a1 a2 t206 t207 t208 _ A14.out).mono ?_); rintro e w26 ⟨rfl, hb⟩; refine ⟨_, rfl, ?_⟩; have n0_ := Aside0.mk (Kd.R_below (by (with_reducible repeat (first | apply Kd.R_alloc | apply Kd.R_drewN | apply Kd.R_drew)); exact (Kd.R_mono (Kd.R_far (p := ⟨gb205, 1, none⟩) (Kd.R_far (p := ⟨gb205, 0, none⟩) (Kd.R_types HO197.out BK205.out (by decide)) (fun _ hk => hk.2) (.int .i64 t202)) (fun _ hk => hk.2) (.int .i64 t203)) (fun _ h_ => h_.1))) hb); have n1_ := Aside0.mk (Kd.R_below (by (with_reducible repeat (first | apply Kd.R_alloc | apply Kd.R_drewN | apply Kd.R_drew)); exact (Kd.R_mono (Kd.R_far (p := ⟨gb205, 1, none⟩) (Kd.R_far (p := ⟨gb205, 0, none⟩) (Kd.R_types HO201.out BK205.out (by decide)) (fun _ hk => hk.2) (.int .i64 t202)) (fun _ hk => hk.2) (.int .i64 t203)) (fun _ h_ => h_.1))) hb); have n2_ := Aside0.mk (blk_below (g := gb205) (o := .cells #[.int .i64 t202, .int .i64 t203] 28 (0, 0)) (by (with_reducible repeat (first | refine blk_drewN ?_ _ | refine blk_drew ?_ | refine blk_alloc ?_ _)); refine blk_put (cs := #[.int .i64 t202, .int .i64 0]) ?_ 1 _ rfl; (with_reducible repeat (first | refine blk_drewN ?_ _ | refine blk_drew ?_ | refine blk_alloc ?_ _)); refine blk_put (cs := #[.int .i64 0, .int .i64 0]) ?_ 0 _ rfl; (with_reducible repeat (first | refine blk_drewN ?_ _ | refine blk_drew ?_ | refine blk_alloc ?_ _)); exact BK205.out) hb); have n3_ := Aside0.mk (below_step (by repeat (first | (with_reducible first | exact HB.out | apply below_alloc | apply pw_below_drewN | apply below_drew1 | refine below_set ?_ GE205.out) | exact HB.out)) hb); clear HO197; clear HO201; clear BK205; clear HB; have HO197 := n0_; have HO201 := n1_; have BK205 := n2_; have HB := n3_; clear n0_ n1_ n2_ n3_; (try clear hb); (try clear hb2); (try clear hk); (try clear hi)) | ((with_reducible refine gate_dst (N := 13) rfl ?_); refine box_event ?hg (N := 13) ?hd (cs := #[.int .i64 0, .int .i64 0]) (t := 28) ?hr ?_; (case hd => rfl); (case hg => rfl); (case hr => first | (go_simp; done) | (go_simp; rfl)); intro gb209 hg w27 hbox hb; have n0_ := Aside0.mk (Kd.R_below (by (with_reducible repeat (first | apply Kd.R_alloc | apply Kd.R_drewN | apply Kd.R_drew)); exact HO197.out) hb); have n1_ := Aside0.mk (Kd.R_below (by (with_reducible repeat (first | apply Kd.R_alloc | apply Kd.R_drewN | apply Kd.R_drew)); exact HO201.out) hb); have n2_ := Aside0.mk (blk_below (g := gb205) (o := .cells #[.int .i64 t202, .int .i64 t203] 28 (0, 0)) (by (with_reducible repeat (first | refine blk_drewN ?_ _ | refine blk_drew ?_ | refine blk_alloc ?_ _)); exact BK205.out) hb); have n3_ := Aside0.mk (below_step (by repeat (first | (with_reducible first | exact HB.out | apply below_alloc | apply pw_below_drewN | apply below_drew1 | refine below_set ?_ GE205.out) | exact HB.out)) hb); have n4_ := Aside0.mk (hbox); have n5_ := Aside0.mk ((by rw [hg]; exact (below_size (by repeat (first | (with_reducible first | exact HB.out | apply below_alloc | apply pw_below_drewN | apply below_drew1 | refine below_set ?_ GE205.out) | exact HB.out))) : w.heap.size ≤ gb209)); have n6_ := Aside0.mk ((by rw [hg]; exact (below_size (by repeat (first | (with_reducible first | exact HB.out | apply below_alloc | apply pw_below_drewN | apply below_drew1 | refine below_set ?_ GE205.out) | exact HB.out))) : w.heap.size ≤ gb209)); have n7_ := Aside0.mk ((by rw [hg]; exact Nat.ne_of_lt (blk_lt (g := gb205) (o := .cells #[.int .i64 t202, .int .i64 t203] 28 (0, 0)) (by (with_reducible repeat (first | refine blk_drewN ?_ _ | refine blk_drew ?_ | refine blk_alloc ?_ _)); exact BK205.out)) : gb205 ≠ gb209)); have n8_ := Aside0.mk ((by rw [hg]; exact Nat.ne_of_gt (blk_lt (g := gb205) (o := .cells #[.int .i64 t202, .int .i64 t203] 28 (0, 0)) (by (with_reducible repeat (first | refine blk_drewN ?_ _ | refine blk_drew ?_ | refine blk_alloc ?_ _)); exact BK205.out)) : gb209 ≠ gb205)); clear HO197; clear HO201; clear BK205; clear HB; have HO197 := n0_; have HO201 := n1_; have BK205 := n2_; have HB := n3_; have BK209 := n4_; have GW209 := n5_; have GE209 := n6_; have NB205_209 := n7_; have NB209_205 := n8_; clear n0_ n1_ n2_ n3_ n4_ n5_ n6_ n7_ n8_; clear hb hbox hg; have hnb28 := NB209_205.out; have hnc28 := NB205_209.out; have hcz29_0 : w27.cell? ⟨gb209, 0, none⟩ = some (.int .i64 0) := (blk_cell BK209.out 0).trans rfl; have hcz29_1 : w27.cell? ⟨gb209, 1, none⟩ = some (.int .i64 0) := (blk_cell BK209.out 1).trans rfl; have hfz29_0 := blk_frozen BK209.out 0; have hfz29_1 := blk_frozen BK209.out 1) | ((with_reducible refine gate_callee (f := 6) rfl ?_); refine goesL_ (some 58) rfl rfl Try.func6 (by kernel_rfl) rfl #[] rfl (by (try simp only [List.map_toArray, List.map_cons, List.map_nil]); first | done | rfl | (simp only [List.length_drop, List.length_take]; rfl)) ?_; (with_reducible refine (caulklaw19_lives.calls  true _ A15.out).mono ?_); rintro e w30 ⟨rfl, hb⟩; refine ⟨_, rfl, ?_⟩; have n0_ := Aside0.mk (Kd.R_below (by (with_reducible repeat (first | apply Kd.R_alloc | apply Kd.R_drewN | apply Kd.R_drew)); exact (Kd.R_mono (Kd.R_far (p := ⟨gb209, 1, none⟩) (Kd.R_far (p := ⟨gb209, 0, none⟩) (Kd.R_types HO197.out BK209.out (by decide)) (fun _ hk => hk.2) (.int .i64 t206)) (fun _ hk => hk.2) (.int .i64 t207)) (fun _ h_ => h_.1))) hb); have n1_ := Aside0.mk (Kd.R_below (by (with_reducible repeat (first | apply Kd.R_alloc | apply Kd.R_drewN | apply Kd.R_drew)); exact (Kd.R_mono (Kd.R_far (p := ⟨gb209, 1, none⟩) (Kd.R_far (p := ⟨gb209, 0, none⟩) (Kd.R_types HO201.out BK209.out (by decide)) (fun _ hk => hk.2) (.int .i64 t206)) (fun _ hk => hk.2) (.int .i64 t207)) (fun _ h_ => h_.1))) hb); have n2_ := Aside0.mk (blk_below (g := gb205) (o := .cells #[.int .i64 t202, .int .i64 t203] 28 (0, 0)) (by (with_reducible repeat (first | refine blk_drewN ?_ _ | refine blk_drew ?_ | refine blk_alloc ?_ _)); refine blk_far ?_ NB205_209.out _; (with_reducible repeat (first | refine blk_drewN ?_ _ | refine blk_drew ?_ | refine blk_alloc ?_ _)); refine blk_far ?_ NB205_209.out _; (with_reducible repeat (first | refine blk_drewN ?_ _ | refine blk_drew ?_ | refine blk_alloc ?_ _)); exact BK205.out) hb); have n3_ := Aside0.mk (blk_below (g := gb209) (o := .cells #[.int .i64 t206, .int .i64 t207] 28 (0, 0)) (by (with_reducible repeat (first | refine blk_drewN ?_ _ | refine blk_drew ?_ | refine blk_alloc ?_ _)); refine blk_put (cs := #[.int .i64 t206, .int .i64 0]) ?_ 1 _ rfl; (with_reducible repeat (first | refine blk_drewN ?_ _ | refine blk_drew ?_ | refine blk_alloc ?_ _)); refine blk_put (cs := #[.int .i64 0, .int .i64 0]) ?_ 0 _ rfl; (with_reducible repeat (first | refine blk_drewN ?_ _ | refine blk_drew ?_ | refine blk_alloc ?_ _)); exact BK209.out) hb); have n4_ := Aside0.mk (below_step (by repeat (first | (with_reducible first | exact HB.out | apply below_alloc | apply pw_below_drewN | apply below_drew1 | refine below_set ?_ GE205.out | refine below_set ?_ GE209.out) | exact HB.out)) hb); clear HO197; clear HO201; clear BK205; clear BK209; clear HB; have HO197 := n0_; have HO201 := n1_; have BK205 := n2_; have BK209 := n3_; have HB := n4_; clear n0_ n1_ n2_ n3_ n4_; (try clear hb); (try clear hb2); (try clear hk); (try clear hi); obtain ⟨Ao31, co31, eo31⟩ := Kd.R_slice HO197.out; subst eo31; obtain ⟨Ao32, co32, eo32⟩ := Kd.R_slice HO201.out; subst eo32) | ((with_reducible refine gate_callee (f := 11) rfl ?_); (try (refine gate_guard (by rfl) ?_; dsimp only)); refine goesL_ (some 62) rfl rfl Try.func11 (by kernel_rfl) rfl #[.slice Ao31 t194.length co31, .slice Ao32 t198.length co32] rfl (by (try simp only [List.map_toArray, List.map_cons, List.map_nil]); first | done | rfl | (simp only [List.length_drop, List.length_take]; rfl)) ?_; (with_reducible refine (caulkref19_Same.calls kj3 _ _ t194 _ _ t198 true _ ?side1 ?side2 ?side3 ?side4 A17.out).mono ?_); (case side1 => repeat (first | exact (Kd.R_reads' HO197.out).2.2 | (with_reducible refine Kd.C_alloc ?_ _) | (with_reducible refine Kd.C_drewN ?_ _) | (with_reducible refine Kd.C_drew ?_))); (case side2 => exact (Kd.R_reads' HO197.out).2.1); (case side3 => repeat (first | exact (Kd.R_reads' HO201.out).2.2 | (with_reducible refine Kd.C_alloc ?_ _) | (with_reducible refine Kd.C_drewN ?_ _) | (with_reducible refine Kd.C_drew ?_))); (case side4 => exact (Kd.R_reads' HO201.out).2.1); rintro e w' ⟨rfl, ⟨nd, rfl⟩⟩; refine ⟨_, rfl, ?_⟩; have hcz33_0 : w30.cell? ⟨gb205, 0, none⟩ = some (.int .i64 t202) := (blk_cell BK205.out 0).trans rfl; have hcz33_1 : w30.cell? ⟨gb205, 1, none⟩ = some (.int .i64 t203) := (blk_cell BK205.out 1).trans rfl; have hfz33_0 := blk_frozen BK205.out 0; have hfz33_1 := blk_frozen BK205.out 1; have hcz34_0 : w30.cell? ⟨gb209, 0, none⟩ = some (.int .i64 t206) := (blk_cell BK209.out 0).trans rfl; have hcz34_1 : w30.cell? ⟨gb209, 1, none⟩ = some (.int .i64 t207) := (blk_cell BK209.out 1).trans rfl; have hfz34_0 := blk_frozen BK209.out 0; have hfz34_1 := blk_frozen BK209.out 1))
        go_ret
        exact ⟨by first | rfl | (simp [errW_none, errW_some] <;> rfl) | (simp [*, errW_none, errW_some] <;> rfl), by repeat (first | (with_reducible first | exact HB.out | apply below_alloc | apply pw_below_drewN | apply below_drew1 | refine below_set ?_ GE205.out | refine below_set ?_ GE209.out) | exact HB.out)⟩
       ·rw [if_neg c20] at H
        have c20b0 : (t202 == t206 && (t203 == t207)) = false := by simpa using c20
        (try (have c20b1 : decide (t202 = t206 && (t203 == t207)) = false := by simpa using c20))
        (try (have c20b2 : (t202 == t206 && (t203 == t207)) = false := by simpa using c20))
        (try (have c20b3 : ¬ (t202 = t206 && (t203 == t207)) := by simpa using c20))
        clear c20
        exact absurd ((Option.some.inj H).trans hrt.out) (by simp)
      ·rw [if_neg c19] at H
       have c19b0 : (t195 == t199) = false := beq_eq_false_iff_ne.mpr c19
       have c19b1 : (t195 != t199) = true := bne_iff_ne.mpr c19
       exact absurd ((Option.some.inj H).trans hrt.out) (by simp)
     ·replace c18 := Bool.eq_false_iff.mpr c18
      subst c18
      have H1 : (some false) = some r := by rw [if_neg (show ¬ (false = true) by decide)] at H; exact H
      clear H
      have H := H1
      clear H1
      exact absurd ((Option.some.inj H).trans hrt.out) (by simp)
    ·replace c16 := Bool.eq_false_iff.mpr c16
     subst c16
     have H1 : (some false) = some r := by rw [if_neg (show ¬ (false = true) by decide)] at H; exact H
     clear H
     have H := H1
     clear H1
     exact absurd ((Option.some.inj H).trans hrt.out) (by simp)

def caulklaw19_SpanCuts.Pure : Prop := ∀ (a0 : Int) (a1 : Int) (a2 : Int), (Lit.int .i64 a0).wf = true → (Lit.int .i64 a1).wf = true → (Lit.int .i64 a2).wf = true → ∃ k, caulklaw19_SpanCuts.f k a0 a1 a2 = some true
theorem caulklaw19_SpanCuts.walk (P : caulklaw19_SpanCuts.Pure) (a0 : Int) (a1 : Int) (a2 : Int) (w : World)  (hw0 : (Lit.int .i64 a0).wf = true) (hw1 : (Lit.int .i64 a1).wf = true) (hw2 : (Lit.int .i64 a2).wf = true) :
  Calls Try.prog 3 #[.int .i64 a0, .int .i64 a1, .int .i64 a2] w fun e w' => e = .returned (.bool true) ∧ Below w.heap.size w w' := by
 obtain ⟨k, h⟩ := P a0 a1 a2 hw0 hw1 hw2
 refine (caulklaw19_SpanCuts.calls k a0 a1 a2 true w  ⟨rfl⟩ h).mono ?_
 rintro e w' ⟨rfl, hd⟩
 exact ⟨rfl, hd⟩

end Go.Proofs.Ytepbhlngcaiklaa.HSpan
