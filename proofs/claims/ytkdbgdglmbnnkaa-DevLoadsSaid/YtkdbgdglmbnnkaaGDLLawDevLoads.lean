/- For every input the law DevLoads answers true, and each argument reads afterwards as it read before: out of the plain law and the walk. Conditions: none. -/
import Derived.Test.YtkdbgdglmbnnkaaRows
import Derived.Test.YtkdbgdglmbnnkaaGDLx5
import Derived.Test.YtkdbgdglmbnnkaaGDLPureDevLoads
import Derived.WalkKit
import Derived.ProofKit
import Derived.OpenShut
import Derived.ShutString
import Derived.ChangeOld
import Derived.Below
import Derived.SizedLaws
namespace Go.Proofs.Ytkdbgdglmbnnkaa.devLoads
open Go.ChangeShapes Go.WideShapes Go.ChangeAt Go.RowKit Go.Proofs.Ytkdbgdglmbnnkaa.HDL Go.Proofs.Ytkdbgdglmbnnkaa.HOpen Go.Proofs.YtkdbgdglmbnnkaaW.PrintWords
open Go.ChangeMaps (open_string shut_string)
set_option linter.unusedVariables false
theorem own : ownKnob Try.prog.godebug = none := by kernel_rfl
theorem laidOut : laidOutB Try.prog = true := by kernel_rfl
set_option maxRecDepth 100000 in
theorem lifted (os : Os) (started : os.Started) (H : Type) (enc : TypeId × Value → H) :
    ReturnsInHanded {} Try.checked os 5 .any (Rows.devLoadsSpec.pre6 enc Try.prog Try.f5 Rows.devLoadsRow.domain false) (Rows.devLoadsSpec.post enc Try.prog Try.f5 false true false false) := by
  refine returnsInHanded_of_change_sized (C := Try.checked) own started (by kernel_rfl) Try.func5
    (ChangeSpec.witness6 (enc := enc) (C := Try.checked) false ⟨#[], #[.string ByteArray.empty, .int .i64 0, .int .u8 0], []⟩ 8 (by kernel_rfl) (by kernel_rfl) (by kernel_rfl) (by kernel_rfl)) ?_
  intro W base args ds gs before hval0 hW hcnd hsz0 _
  have hsz : (DataW.weightsEach Try.prog (Try.f5.params.toList ++ Rows.devLoadsSpec.plain.varTypes Try.prog) (ds ++ gs)).all (· ≤ reachBytes) = true := hsz0
  have hval : ∀ (j : Nat) t v, Try.f5.params[j]? = some t → args[j]? = some v → Value.okWide Try.prog W .any base t v := hval0
  have hW' := hW
  obtain ⟨p, q, hA0, hV, rfl, hfz, hnd⟩ := hW
  have hA : DataW.TrodAll enc Try.prog W 0 (fun _ => true) true Try.f5.params.toList args.toList ds p := hA0
  rw [Try.params5] at hA hval hsz
  obtain ⟨v0, vs0, d0, ds0, p0, q0, hargs, rfl, rfl, h0, r0⟩ := trodAll_cons hA
  obtain ⟨v1, vs1, d1, ds1, p1, q1, rfl, rfl, rfl, h1, r1⟩ := trodAll_cons r0
  obtain ⟨v2, vs2, d2, ds2, p2, q2, rfl, rfl, rfl, h2, r2⟩ := trodAll_cons r1
  obtain ⟨rfl, rfl, rfl⟩ := trodAll_nil r2
  obtain rfl : args = #[v0, v1, v2] := by cases args; simp_all
  obtain ⟨rfl, rfl⟩ := trodVars_none hV
  have k0 := h0
  have lt0 : ∀ x ∈ p0, x.block < W.heap.size := by obtain ⟨m, hm⟩ := k0; exact DataW.trod_lt m _ _ _ hm
  obtain ⟨y0, K0, F0⟩ := (show Opens Try.prog 9 Kd.string (fun x => x.size ≤ 140737488351232) from (Opens.string Try.underlying9 (by kernel_rfl))).arg hsz (j := 0) (t := 9) rfl rfl h0
  obtain ⟨b0, rfl⟩ := okWide_string Try.underlying9 (hval 0 9 v0 rfl rfl)
  have e0 : [_] = [_] := K0
  simp only [List.cons.injEq, and_true, Value.string.injEq] at e0
  subst e0
  have k1 := h1
  have lt1 : ∀ x ∈ p1, x.block < W.heap.size := by obtain ⟨m, hm⟩ := k1; exact DataW.trod_lt m _ _ _ hm
  obtain ⟨y1, K1, F1⟩ := (show Opens Try.prog 3 (Kd.int .i64) (fun x => (Lit.int .i64 x).wf = true) from (Opens.int Try.underlying3 (by kernel_rfl))).arg hsz (j := 1) (t := 3) rfl rfl h1
  obtain ⟨b1, rfl⟩ := okWide_int Try.underlying3 (hval 1 3 v1 rfl rfl)
  have e1 : [_] = [_] := K1
  simp only [List.cons.injEq, and_true, Value.int.injEq, true_and] at e1
  subst e1
  have k2 := h2
  have lt2 : ∀ x ∈ p2, x.block < W.heap.size := by obtain ⟨m, hm⟩ := k2; exact DataW.trod_lt m _ _ _ hm
  obtain ⟨y2, K2, F2⟩ := (show Opens Try.prog 5 (Kd.int .u8) (fun x => (Lit.int .u8 x).wf = true) from (Opens.int Try.underlying5 (by kernel_rfl))).arg hsz (j := 2) (t := 5) rfl rfl h2
  obtain ⟨b2, rfl⟩ := okWide_int Try.underlying5 (hval 2 5 v2 rfl rfl)
  have e2 : [_] = [_] := K2
  simp only [List.cons.injEq, and_true, Value.int.injEq, true_and] at e2
  subst e2
  clear hA0 hval0 hsz0 hsz
  refine (HDL.caulklaw05_DevLoads.walk Pure.DevLoads _ _ _ W  F0 F1 F2).mono fun e W' ⟨he, bel⟩ => ?_
  subst he
  exact ⟨_, rfl, _, _, _, [], _, [], hW', trodAll_mk1 (shut_bool Try.underlying4 _), (trodAll_cons_mk (Below.trod laidOut (by kernel_rfl) (of_decide_eq_true (by kernel_rfl)) k0 bel lt0) (trodAll_cons_mk (Below.trod laidOut (by kernel_rfl) (of_decide_eq_true (by kernel_rfl)) k1 bel lt1) (trodAll_cons_mk (Below.trod laidOut (by kernel_rfl) (of_decide_eq_true (by kernel_rfl)) k2 bel lt2) trodAll_mk0))), rfl, bel.frame _, fun h => by cases h⟩
theorem over : Rows.devLoadsRow.holds Try.pinned (OpenSpec.ofChange Rows.devLoadsSpec) :=
  OpenClaim.holds_of_wide 5 Try.f5 rfl rfl rfl rfl rfl rfl rfl ⟨rfl, rfl, rfl, rfl, rfl⟩ rfl rfl rfl rfl rfl (by kernel_rfl) Try.func5 (by kernel_rfl)
    (of_decide_eq_true (by kernel_rfl)) (by unfold Func.isWrapper; first | (rw [if_pos (by decide +kernel)]; kernel_rfl) | (rw [if_neg (by decide +kernel)]; exact ⟨rfl, rfl⟩))
    (fun os started H enc _ => lifted os started H enc)
theorem proved : Rows.DevLoadsSaid := over
#print axioms proved
end Go.Proofs.Ytkdbgdglmbnnkaa.devLoads
namespace Go.Proofs.Ytkdbgdglmbnnkaa
/-- The row, under a short name, for the claim. -/
theorem devLoads_holds : Rows.DevLoadsSaid := devLoads.proved
end Go.Proofs.Ytkdbgdglmbnnkaa
