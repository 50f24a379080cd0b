/- WRITTEN BY wip/hyb.py, a program of this workplace (out of the kit's printer and this workplace's own contracts). -/
import Derived.Test.YtkdbgdglmbnnkaaGDLx0
import Derived.Test.YtkdbgdglmbnnkaaGDLx2
import Derived.Test.YtkdbgdglmbnnkaaGDLx3
import Derived.Test.YtkdbgdglmbnnkaaGDLx4
namespace Go.Proofs.Ytkdbgdglmbnnkaa.HDL
open Go.RowKit Go.Proofs.YtkdbgdglmbnnkaaW.PrintWords Go.Proofs.YtkdbgdglmbnnkaaW.PrintLast Go.Proofs.YtkdbgdglmbnnkaaW.PrintMore
attribute [local go_sem] max2_int min2_int max_two min_two max_three min_three max_four min_four   -- for this text's walks alone
set_option linter.unusedVariables false
set_option linter.unusedSimpArgs false

section
open Go Go.Shelf Go.Maps Go.Proofs.Ytkdbgdglmbnnkaa.Seq Go.Proofs.Ytkdbgdglmbnnkaa.MapL Go.Proofs.YtkdbgdglmbnnkaaW.PrintLast
attribute [local go_sem] Oper.semAt_some max2_int min2_int max_two min_two
set_option maxRecDepth 100000 in
set_option maxHeartbeats 4000000 in
theorem devLoads_no (hl : ∀ w, Calls Try.prog 9 #[] w fun e w' => e = .returned (.bool true) ∧ Below w.heap.size w w') (w : World) (s : ByteArray) (at_ c : Int) (hs : s.size ≤ maxLen) (h : 32768 < s.size ∨ s.size % 512 ≠ 0 ∨ s.size = 0) :
  Calls Try.prog 5 #[.string s, .int .i64 at_, .int .u8 c] w fun e w' => e = .returned (.bool true) ∧ Below w.heap.size w w' := by
 unfold maxLen at hs
 refine (callsIn_wide (n := 4)).1 ?_
 refine callsIn_of_wp_marks Try.func5 rfl trivial ?_ rfl
 simp only [Try.ntmps5, List.size_toArray, List.length_cons, List.length_nil, Nat.reduceAdd, Nat.reduceSub, Array.replicate_succ, Array.replicate_zero, List.push_toArray, List.append_toArray, List.nil_append, List.cons_append]
 have hL := hl w
 gi_wp2
 refine ⟨trivial, ?_⟩
 gi_at_call 9
 refine (callsIn_wide.2 hL).mono ?_
 rintro e w1 ⟨rfl, hb1⟩
 by_cases h1 : 32768 < s.size
 ·have d1 : decide ((32768 : Int) < s.size) = true := decide_eq_true (by omega)
  gi_wp2
  exact ⟨_, results_tmp rfl _ _ _, rfl, hb1⟩
 ·have h2 : s.size % 512 ≠ 0 ∨ s.size = 0 := by omega
  have hLo := dev_Load_no w1 s (by omega) (by unfold maxLen; omega)
  gi_wp2
  refine ⟨trivial, ?_⟩
  gi_at_call 29
  refine (callsIn_wide.2 hLo).mono ?_
  rintro e w2 ⟨rfl, hb2⟩
  by_cases h3 : s.size = 0
  ·gi_wp2
   exact ⟨_, results_tmp rfl _ _ _, rfl, hb1.trans (hb2.mono hb1.size)⟩
  ·gi_wp2
   exact ⟨_, results_tmp rfl _ _ _, rfl, hb1.trans (hb2.mono hb1.size)⟩
theorem outS_nil (xs : List ByteArray) : outS xs [] = xs := by
 apply List.ext_getElem
 ·rw [outS_len]
 ·intro k h1 h2
  rw [outS_at xs [] k h2 h1, if_neg (by simp [getL])]
theorem catS_cons (x : ByteArray) (l : List ByteArray) : catS (x :: l) = x ++ catS l := by
 apply ByteArray.ext
 simp [catS]
theorem catS_secs : ∀ (k : Nat) (s : ByteArray), s.size = 512 * k → catS (secs k s) = s
 | 0, s, h => by
  have h0 : s.data.size = 0 := by simpa using h
  apply ByteArray.ext
  simp [catS, secs, Array.eq_empty_of_size_eq_zero h0]
 | k + 1, s, h => by
  rw [secs, catS_cons, catS_secs k _ (by rw [ByteArray.size_extract]; omega)]
  apply ByteArray.ext
  rw [ByteArray.data_append, ByteArray.data_extract, ByteArray.data_extract, Array.extract_append_extract]
  have h1 : s.data.size = s.size := rfl
  rw [show min 0 512 = 0 by decide, show max 512 s.size = s.data.size by omega, Array.extract_size]
set_option maxRecDepth 100000 in
set_option maxHeartbeats 4000000 in
theorem devLoads_yes (hl : ∀ w, Calls Try.prog 9 #[] w fun e w' => e = .returned (.bool true) ∧ Below w.heap.size w w') (w : World) (s : ByteArray) (at_ c : Int) (K : Nat) (hK : 512 * K = s.size) (hK1 : 1 ≤ K) (hK2 : K ≤ 64) :
  Calls Try.prog 5 #[.string s, .int .i64 at_, .int .u8 c] w fun e w' => e = .returned (.bool true) ∧ Below w.heap.size w w' := by
 refine (callsIn_wide (n := 4)).1 ?_
 refine callsIn_of_wp_marks Try.func5 rfl trivial ?_ rfl
 simp only [Try.ntmps5, List.size_toArray, List.length_cons, List.length_nil, Nat.reduceAdd, Nat.reduceSub, Array.replicate_succ, Array.replicate_zero, List.push_toArray, List.append_toArray, List.nil_append, List.cons_append]
 have hL := hl w
 gi_wp2
 refine ⟨trivial, ?_⟩
 gi_at_call 9
 refine (callsIn_wide.2 hL).mono ?_
 rintro e w1 ⟨rfl, hb1⟩
 have hLo := dev_Load_yes w1 s K hK hK1 (by omega)
 have e1 : (s.size : Int) % 512 = 0 := by omega
 have e2 : (s.size : Int) ≤ 32768 := by omega
 have e3 : s.size ≠ 0 := by omega
 have b1 : ((s.size : Int) == 0) = false := beq_eq_false_iff_ne.2 (by omega)
 gi_wp2
 refine ⟨trivial, ?_⟩
 gi_at_call 29
 refine (callsIn_wide.2 hLo).mono ?_
 rintro e w2 ⟨i, rfl, hD, hi, hb2⟩
 have hC := dev_Clone_any w2 i _ _ _ _ _ _ hD
 gi_wp2
 refine ⟨trivial, ?_⟩
 gi_at_call 25
 refine (callsIn_wide.2 hC).mono ?_
 rintro e w3 ⟨i', rfl, hE, hi', hb3⟩
 have hD3 := hD.step (Step.of_below (S := fun _ => False) hb3) (fun _ _ h => h)
 have hlt := hD.lt
 have hdis : ∀ k, i.In k → ¬ i'.In k := fun k h1 h2 => by have := hlt k h1; have := hi' k h2; omega
 have hF := fill_any w3 c
 gi_wp2
 refine ⟨trivial, ?_⟩
 gi_at_call 12
 refine (callsIn_wide.2 hF).mono ?_
 rintro e w4 ⟨rfl, hb4⟩
 have hD4 := hD3.step (Step.of_below (S := fun _ => False) hb4) (fun _ _ h => h)
 have hE4 := hE.step (Step.of_below (S := fun _ => False) hb4) (fun _ _ h => h)
 have hW := dev_Write_any w4 i' _ _ _ _ _ _ at_ (fillS c) hE4
 gi_wp2
 refine ⟨trivial, ?_⟩
 gi_at_call 11
 refine (callsIn_wide.2 hW).mono ?_
 rintro e w5 ⟨rfl, hE5, hs5⟩
 have hD5 := hD4.step hs5 hdis
 have hFl := dev_Flush_any w5 i' _ _ _ _ _ _ hE5
 gi_wp2
 refine ⟨trivial, ?_⟩
 gi_at_call 13
 refine (callsIn_wide.2 hFl).mono ?_
 rintro e w6 ⟨xs6, F6, B6, of6, fu6, why6, _, rfl, hE6, hs6⟩
 have hD6 := hD5.step hs6 hdis
 have hEr := dev_Erase_any w6 i' _ _ _ _ _ _ at_ hE6
 gi_wp2
 refine ⟨trivial, ?_⟩
 gi_at_call 30
 refine (callsIn_wide.2 hEr).mono ?_
 rintro e w7 ⟨rfl, hE7, hs7⟩
 have hD7 := hD6.step hs7 hdis
 have hB2 := hb1.trans (hb2.mono hb1.size)
 have hB3 := hB2.trans (hb3.mono hB2.size)
 have hB4 := hB3.trans (hb4.mono hB3.size)
 have hB5 := hB4.trans (hs5.below hB4.size (fun k hk => Nat.le_trans hB2.size (hi' k hk)))
 have hB6 := hB5.trans (hs6.below hB5.size (fun k hk => Nat.le_trans hB2.size (hi' k hk)))
 have hB7 := hB6.trans (hs7.below hB6.size (fun k hk => Nat.le_trans hB2.size (hi' k hk)))
 clear hB2 hB3 hB4 hB5 hB6 hD hD3 hD4 hD5 hD6 hE hE4 hE5 hE6 hE7 hs5 hs6 hs7 hb1 hb2 hb3 hb4 hi hi' hlt hdis hL hLo hC hF hW hFl hEr
 have hBy := dev_Bytes_any w7 i _ _ _ _ _ _ hD7
 rw [outS_nil, catS_secs K s hK.symm] at hBy
 gi_wp2
 refine ⟨trivial, ?_⟩
 gi_at_call 26
 refine (callsIn_wide.2 hBy).mono ?_
 rintro e w8 ⟨rfl, hb8⟩
 have hD8 := hD7.step (Step.of_below (S := fun _ => False) hb8) (fun _ _ h => h)
 have hBd := dev_Bad_any w8 i _ _ _ _ _ _ hD8
 gi_wp2
 refine ⟨trivial, ?_⟩
 gi_at_call 23
 refine (callsIn_wide.2 hBd).mono ?_
 rintro e w9 ⟨A9, c9, rfl, hc9, hC9, hb9, _⟩
 have hD9 := hD8.step (Step.of_below (S := fun _ => False) hb9) (fun _ _ h => h)
 have hWr := dev_Writes_any w9 i _ _ _ _ _ _ hD9
 gi_wp2
 refine ⟨trivial, ?_⟩
 gi_at_call 20
 refine (callsIn_wide.2 hWr).mono ?_
 rintro e w10 ⟨rfl, rfl⟩
 have hSe := dev_Sectors_any w10 i _ _ _ _ _ _ hD9
 rw [secs_len] at hSe
 gi_wp2
 refine ⟨trivial, ?_⟩
 gi_at_call 28
 refine (callsIn_wide.2 hSe).mono ?_
 rintro e w11 ⟨rfl, rfl⟩
 have e9 : (s.size : Int) / 512 = (K : Int) := by omega
 gi_wp2
 have hB8 := hB7.trans (hb8.mono hB7.size)
 exact ⟨_, results_tmp rfl _ _ _, rfl, hB8.trans (hb9.mono hB8.size)⟩
def caulklaw05_DevLoads.Pure : Prop := True
theorem caulklaw05_DevLoads.walk (P : caulklaw05_DevLoads.Pure) (a0 : ByteArray) (a1 a2 : Int) (w : World) (hw0 : a0.size ≤ 140737488351232) (hw1 : (Lit.int .i64 a1).wf = true) (hw2 : (Lit.int .u8 a2).wf = true) :
  Calls Try.prog 5 #[.string a0, .int .i64 a1, .int .u8 a2] w fun e w' => e = .returned (.bool true) ∧ Below w.heap.size w w' := by
 by_cases h : 32768 < a0.size ∨ a0.size % 512 ≠ 0 ∨ a0.size = 0
 ·exact devLoads_no lives_any w a0 a1 a2 (by unfold maxLen; omega) h
 ·exact devLoads_yes lives_any w a0 a1 a2 (a0.size / 512) (by omega) (by omega) (by omega)
end

end Go.Proofs.Ytkdbgdglmbnnkaa.HDL
