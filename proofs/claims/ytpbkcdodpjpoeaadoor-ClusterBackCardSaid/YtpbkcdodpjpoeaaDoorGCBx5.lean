/- WRITTEN BY wip/hyb.py, a program of this workplace (out of the kit's printer and this workplace's own contracts). -/
import Derived.Test.YtpbkcdodpjpoeaaDoorGCBx0
import Derived.Test.YtpbkcdodpjpoeaaDoorGCBx2
import Derived.Test.YtpbkcdodpjpoeaaDoorGCBx3
import Derived.Test.YtpbkcdodpjpoeaaDoorGCBx4
namespace Go.Proofs.YtpbkcdodpjpoeaaDoor.HCB
open Go.RowKit Go.Proofs.YtpbkcdodpjpoeaaDoorW.PrintWords Go.Proofs.YtpbkcdodpjpoeaaDoorW.PrintLast Go.Proofs.YtpbkcdodpjpoeaaDoorW.PrintMore
attribute [local go_sem] max2_int min2_int max_two min_two max_three min_three max_four min_four   -- for this text's walks alone
set_option linter.unusedVariables false
set_option linter.unusedSimpArgs false

section
open Go Go.Shelf Go.Maps Go.Proofs.YtpbkcdodpjpoeaaDoor.Seq Go.Proofs.YtpbkcdodpjpoeaaDoor.MapL Go.Proofs.YtpbkcdodpjpoeaaDoorW.PrintLast
attribute [local go_sem] Oper.semAt_some max2_int min2_int max_two min_two
structure GS (w W : World) (sh gk gm C : Int) : Prop where
 geo : W.heap[w.heap.size]? = some (.cells #[.int .i64 sh, .int .i64 gk, .int .i64 gm, .int .i64 C] 23 (0, 0))
 tab : TabAt W
 st : Step (fun _ => False) w W
theorem GS.step {w W W' : World} {sh gk gm C : Int} {S : Nat → Prop} (h : GS w W sh gk gm C) (hs : Step S W W') (hS : ∀ k, S k → w.heap.size < k) : GS w W' sh gk gm C :=
 ⟨hs.block h.geo (fun h => by have := hS _ h; omega), h.tab.step hs (fun h => by have := hS _ h; omega), h.st.trans hs (fun _ h => h) (fun k hk => Or.inr (by have := hS k hk; omega))⟩
theorem GS.sf {w W W' : World} {sh gk gm C : Int} (h : GS w W sh gk gm C) (hs : Step (fun _ => False) W W') : GS w W' sh gk gm C := h.step hs (fun _ h => h.elim)
theorem GS.bel {w W W' : World} {sh gk gm C : Int} (h : GS w W sh gk gm C) (hb : Below W.heap.size W W') : GS w W' sh gk gm C := h.sf (Step.of_below hb)
theorem GS.cells {w W : World} {sh gk gm C : Int} (h : GS w W sh gk gm C) : W.cell? ⟨w.heap.size, 0, none⟩ = some (.int .i64 sh) ∧ W.cell? ⟨w.heap.size, 1, none⟩ = some (.int .i64 gk) ∧ W.cell? ⟨w.heap.size, 2, none⟩ = some (.int .i64 gm) ∧ W.cell? ⟨w.heap.size, 3, none⟩ = some (.int .i64 C) := by
 rw [Lib.cell_of_heap h.geo, Lib.cell_of_heap h.geo, Lib.cell_of_heap h.geo, Lib.cell_of_heap h.geo]
 exact ⟨rfl, rfl, rfl, rfl⟩
theorem GS.new (w : World) (sh gk gm C : Int) (hT : TabAt w) : GS w (w.alloc (.cells #[.int .i64 sh, .int .i64 gk, .int .i64 gm, .int .i64 C] 23)) sh gk gm C :=
 ⟨World.alloc_heap_new w _, hT.step (Step.alloc (fun _ => False) w _) (fun h => h), Step.alloc (fun _ => False) w _⟩
theorem live2 (W : World) (hT : TabAt W) : Calls Tryd.prog 5 #[] W fun e w' => e = .returned (.bool true) ∧ Step (fun _ => False) W w' :=
 lives_any W hT (by have := hT 0 (by decide); simp only [World.cell?] at this; exact (show 0 < W.heap.size from by rcases Nat.eq_zero_or_pos W.heap.size with h | h; (have hn : W.heap[0]? = none := Array.getElem?_eq_none (by omega)); rw [hn] at this; simp at this; exact h))
set_option maxRecDepth 100000 in
set_option maxHeartbeats 8000000 in
theorem law_small (w : World) (sh gk gm C at_ other sum : Int) (s : ByteArray) (hT : TabAt w) (h : sectorsP sh gk gm C < 1 ∨ 128 < sectorsP sh gk gm C) :
  Calls Tryd.prog 3 #[.agg #[.int .i64 sh, .int .i64 gk, .int .i64 gm, .int .i64 C], .int .i64 at_, .int .i64 other, .string s, .int .u32 sum] w fun e w' => e = .returned (.bool true) ∧ Step (fun _ => False) w w' := by
 have hu23 := Tryd.underlying23
 have h1 := GS.new w sh gk gm C hT
 have hSec : ∀ W, Calls Tryd.prog 6 #[.agg #[.int .i64 sh, .int .i64 gk, .int .i64 gm, .int .i64 C]] W fun e w' => e = .returned (.int .i64 (sectorsP sh gk gm C)) ∧ Below W.heap.size W w' := fun W => geom_Sectors_any sh gk gm C W
 generalize sectorsP sh gk gm C = N at *
 by_cases hq : N < 1
 ·have d1 : decide (N < 1) = true := decide_eq_true hq
  clear hq h
  go_enter Tryd.func3, Tryd.ntmps3
  try simp only [List.append_eq, List.cons_append, List.nil_append]
  go_wp2_with (first
   | (go_at_call 5; with_reducible refine (live2 _ h1.tab).mono ?_; rintro e w2 ⟨rfl, hs2⟩; have h2 := h1.sf hs2; obtain ⟨a0, a1, a2, a3⟩ := h2.cells)
   | (go_at_call 6; with_reducible refine (hSec _).mono ?_; rintro e w3 ⟨rfl, hb3⟩; have h3 := h2.bel hb3))
  go_ret
  exact ⟨rfl, h3.st⟩
 ·have d1 : decide (N < 1) = false := decide_eq_false hq
  have d2 : decide (128 < N) = true := decide_eq_true (by omega)
  go_enter Tryd.func3, Tryd.ntmps3
  try simp only [List.append_eq, List.cons_append, List.nil_append]
  go_wp2_with (first
   | (go_at_call 5; with_reducible refine (live2 _ h1.tab).mono ?_; rintro e w2 ⟨rfl, hs2⟩; have h2 := h1.sf hs2; obtain ⟨a0, a1, a2, a3⟩ := h2.cells)
   | (go_at_call 6; with_reducible refine (hSec _).mono ?_; rintro e w3 ⟨rfl, hb3⟩; have h3 := h2.bel hb3))
  go_ret
  exact ⟨rfl, h3.st⟩
theorem raw_both (X : List ByteArray) (F : FL) (nw : Int) (sh gk gm C o : Int) (hg : GeoOk sh gk gm C) (hX : (X.length : Int) = C * (nS sh : Int)) (W : World) (i : DevIds) (hD : DevAt W i X F [] false (-1) nw) :
  Calls Tryd.prog 9 #[.pointer (some ⟨i.d, 0, none⟩), .agg #[.int .i64 sh, .int .i64 gk, .int .i64 gm, .int .i64 C], .int .i64 o] W fun e w' => e = .returned (.tuple #[.string (if 0 ≤ o ∧ o < C then rawS X F (o * (nS sh : Int)) (nS sh) else ⟨#[]⟩), .int .i64 (if 0 ≤ o ∧ o < C then 0 else 1)]) ∧ Step (fun _ => False) W w' := by
 by_cases h : 0 ≤ o ∧ o < C
 ·rw [if_pos h, if_pos h]
  exact cluster_Raw_any W i X F nw sh gk gm C o hD hg hX h.1 h.2
 ·rw [if_neg h, if_neg h]
  exact cluster_Raw_far W i sh gk gm C o hg h
set_option maxRecDepth 100000 in
set_option maxHeartbeats 8000000 in
theorem law_no (w : World) (sh gk gm C at_ other sum : Int) (s : ByteArray) (hT : TabAt w) (hs : s.size ≤ 9223372036854775807) (hg : GeoOk sh gk gm C) (hN : C * (nS sh : Int) ≤ 128) (full : ByteArray) (w1c w3c : Int) (hf : fillP sh gk gm C s = (full, w1c))
  (hw : ∀ W i, DevAt W i (List.replicate (C * (nS sh : Int)).toNat zeroS) [] [] false (-1) 0 → Calls Tryd.prog 10 #[.pointer (some ⟨i.d, 0, none⟩), .agg #[.int .i64 sh, .int .i64 gk, .int .i64 gm, .int .i64 C], .int .i64 at_, .string full] W fun e w' => e = .returned (.int .i64 w3c) ∧ Step (fun _ => False) W w')
  (hc : (w1c = 7 ∧ (w3c = 1 ∨ w3c = 2)) ∨ (w1c = 0 ∧ w3c = 1)) :
  Calls Tryd.prog 3 #[.agg #[.int .i64 sh, .int .i64 gk, .int .i64 gm, .int .i64 C], .int .i64 at_, .int .i64 other, .string s, .int .u32 sum] w fun e w' => e = .returned (.bool true) ∧ Step (fun _ => False) w w' := by
 have hu23 := Tryd.underlying23
 have h1 := GS.new w sh gk gm C hT
 have hn1 := nS_pos sh
 have hg2 := hg.2.2.2.2.2.2
 have hN1 : 1 ≤ C * (nS sh : Int) := by
  have := Int.mul_le_mul_of_nonneg_right (show 4 ≤ C by omega) (Int.natCast_nonneg (nS sh))
  omega
 have hSec : ∀ W, Calls Tryd.prog 6 #[.agg #[.int .i64 sh, .int .i64 gk, .int .i64 gm, .int .i64 C]] W fun e w' => e = .returned (.int .i64 (C * (nS sh : Int))) ∧ Below W.heap.size W w' := fun W => by
  have := geom_Sectors_any sh gk gm C W
  rw [sectorsP, if_pos hg] at this
  exact this
 have hXl : ((List.replicate (C * (nS sh : Int)).toNat zeroS).length : Int) = C * (nS sh : Int) := by rw [List.length_replicate]; omega
 have hRaw := fun W i hD => raw_both (List.replicate (C * (nS sh : Int)).toNat zeroS) [] 0 sh gk gm C other hg hXl W i hD
 have hNew := fun W => dev_New_any W (C * (nS sh : Int)) hN1 (by omega)
 have hFill : ∀ W, Calls Tryd.prog 8 #[.agg #[.int .i64 sh, .int .i64 gk, .int .i64 gm, .int .i64 C], .string s] W fun e w' => e = .returned (.tuple #[.string full, .int .i64 w1c]) ∧ Below W.heap.size W w' := fun W => by
  have := cluster_Fill_any sh gk gm C s W hs
  rw [hf] at this
  exact this
 clear hf hg hg2 hn1 hXl
 generalize List.replicate (C * (nS sh : Int)).toNat zeroS = X at *
 generalize C * (nS sh : Int) = N at *
 generalize (if 0 ≤ other ∧ other < C then rawS X [] (other * (nS sh : Int)) (nS sh) else ⟨#[]⟩) = R0 at hRaw
 generalize (if 0 ≤ other ∧ other < C then (0 : Int) else 1) = oc at hRaw
 have d1 : decide (N < 1) = false := decide_eq_false (by omega)
 have d2 : decide (128 < N) = false := decide_eq_false (by omega)
 rcases hc with ⟨rfl, rfl | rfl⟩ | ⟨rfl, rfl⟩
 all_goals
  go_enter Tryd.func3, Tryd.ntmps3
  try simp only [List.append_eq, List.cons_append, List.nil_append]
  go_wp2_with (first
   | (go_at_call 5; with_reducible refine (live2 _ h1.tab).mono ?_; rintro e w2 ⟨rfl, hs2⟩; have h2 := h1.sf hs2; obtain ⟨a0, a1, a2, a3⟩ := h2.cells)
   | (go_at_call 6; with_reducible refine (hSec _).mono ?_; rintro e w3 ⟨rfl, hb3⟩; have h3 := h2.bel hb3)
   | (go_at_call 7; with_reducible refine (hNew _).mono ?_; rintro e w4 ⟨i, rfl, hD4, hlo, hb4⟩; have h4 := h3.bel hb4; obtain ⟨b0, b1, b2, b3⟩ := h4.cells)
   | (go_at_call 8; with_reducible refine (hFill _).mono ?_; rintro e w5 ⟨rfl, hb5⟩; have h5 := h4.bel hb5; have hD5 := hD4.bel hb5; obtain ⟨c0, c1, c2, c3⟩ := h5.cells)
   | (go_at_call 9; with_reducible refine (hRaw _ i hD5).mono ?_; rintro e w6 ⟨rfl, hs6⟩; have h6 := h5.sf hs6; have hD6 := hD5.step hs6 (fun _ _ h => h); obtain ⟨e0, e1, e2, e3⟩ := h6.cells)
   | (go_at_call 10; with_reducible refine (hw _ i hD6).mono ?_; rintro e w7 ⟨rfl, hs7⟩; have h7 := h6.sf hs7))
  go_ret
  exact ⟨rfl, h7.st⟩
set_option maxRecDepth 100000 in
set_option maxHeartbeats 16000000 in
theorem law_ok (w : World) (sh gk gm C at_ other sum N nw1 oc w5 : Int) (s full R0 R1 u : ByteArray) (X : List ByteArray) (F1 : FL) (hT : TabAt w) (d1 : decide (N < 1) = false) (d2 : decide (128 < N) = false)
  (hSec : ∀ W, Calls Tryd.prog 6 #[.agg #[.int .i64 sh, .int .i64 gk, .int .i64 gm, .int .i64 C]] W fun e w' => e = .returned (.int .i64 N) ∧ Below W.heap.size W w')
  (hNew : ∀ W, Calls Tryd.prog 7 #[.int .i64 N] W fun e w' => ∃ i, e = .returned (.tuple #[.pointer (some ⟨i.d, 0, none⟩), .int .i64 0]) ∧ DevAt w' i X [] [] false (-1) 0 ∧ (∀ k, i.In k → W.heap.size ≤ k) ∧ Below W.heap.size W w')
  (hFill : ∀ W, Calls Tryd.prog 8 #[.agg #[.int .i64 sh, .int .i64 gk, .int .i64 gm, .int .i64 C], .string s] W fun e w' => e = .returned (.tuple #[.string full, .int .i64 0]) ∧ Below W.heap.size W w')
  (hRaw : ∀ W i, DevAt W i X [] [] false (-1) 0 → Calls Tryd.prog 9 #[.pointer (some ⟨i.d, 0, none⟩), .agg #[.int .i64 sh, .int .i64 gk, .int .i64 gm, .int .i64 C], .int .i64 other] W fun e w' => e = .returned (.tuple #[.string R0, .int .i64 oc]) ∧ Step (fun _ => False) W w')
  (hRaw1 : ∀ W i, DevAt W i X F1 [] false (-1) nw1 → Calls Tryd.prog 9 #[.pointer (some ⟨i.d, 0, none⟩), .agg #[.int .i64 sh, .int .i64 gk, .int .i64 gm, .int .i64 C], .int .i64 other] W fun e w' => e = .returned (.tuple #[.string R1, .int .i64 oc]) ∧ Step (fun _ => False) W w')
  (hw : ∀ W i, DevAt W i X [] [] false (-1) 0 → Calls Tryd.prog 10 #[.pointer (some ⟨i.d, 0, none⟩), .agg #[.int .i64 sh, .int .i64 gk, .int .i64 gm, .int .i64 C], .int .i64 at_, .string full] W fun e w' => e = .returned (.int .i64 0) ∧ DevAt w' i X F1 [] false (-1) nw1 ∧ Step i.In W w')
  (hSum : ∀ W, TabAt W → Calls Tryd.prog 12 #[.string full] W fun e w' => e = .returned (.int .u32 (sumC full)) ∧ Below W.heap.size W w')
  (hRd1 : ∀ W i, TabAt W → DevAt W i X F1 [] false (-1) nw1 → Calls Tryd.prog 11 #[.pointer (some ⟨i.d, 0, none⟩), .agg #[.int .i64 sh, .int .i64 gk, .int .i64 gm, .int .i64 C], .int .i64 at_, .int .u32 (sumC full)] W fun e w' => e = .returned (.tuple #[.string full, .int .i64 0]) ∧ Step (fun _ => False) W w')
  (hRd2 : ∀ W i, TabAt W → DevAt W i X F1 [] false (-1) nw1 → Calls Tryd.prog 11 #[.pointer (some ⟨i.d, 0, none⟩), .agg #[.int .i64 sh, .int .i64 gk, .int .i64 gm, .int .i64 C], .int .i64 at_, .int .u32 sum] W fun e w' => e = .returned (.tuple #[.string u, .int .i64 w5]) ∧ Step (fun _ => False) W w')
  (hs : (w5 = 0 ∧ u = full ∧ sum = sumC full) ∨ (w5 = 9 ∧ (sum == sumC full) = false)) (ho : (other == at_) = true ∨ ((other == at_) = false ∧ R1 = R0)) :
  Calls Tryd.prog 3 #[.agg #[.int .i64 sh, .int .i64 gk, .int .i64 gm, .int .i64 C], .int .i64 at_, .int .i64 other, .string s, .int .u32 sum] w fun e w' => e = .returned (.bool true) ∧ Step (fun _ => False) w w' := by
 have hu23 := Tryd.underlying23
 have h1 := GS.new w sh gk gm C hT
 go_enter Tryd.func3, Tryd.ntmps3
 try simp only [List.append_eq, List.cons_append, List.nil_append]
 go_wp2_with (first
  | (go_at_call 5; with_reducible refine (live2 _ h1.tab).mono ?_; rintro e w2 ⟨rfl, hs2⟩; have h2 := h1.sf hs2; obtain ⟨a0, a1, a2, a3⟩ := h2.cells)
  | (go_at_call 6; with_reducible refine (hSec _).mono ?_; rintro e w3 ⟨rfl, hb3⟩; have h3 := h2.bel hb3)
  | (go_at_call 7; with_reducible refine (hNew _).mono ?_; rintro e w4 ⟨i, rfl, hD4, hlo, hb4⟩; have h4 := h3.bel hb4; obtain ⟨b0, b1, b2, b3⟩ := h4.cells)
  | (go_at_call 8; with_reducible refine (hFill _).mono ?_; rintro e w5 ⟨rfl, hb5⟩; have h5 := h4.bel hb5; have hD5 := hD4.bel hb5; obtain ⟨c0, c1, c2, c3⟩ := h5.cells)
  | (go_at_call 9; with_reducible refine (hRaw _ i hD5).mono ?_; rintro e w6 ⟨rfl, hs6⟩; have h6 := h5.sf hs6; have hD6 := hD5.step hs6 (fun _ _ h => h); obtain ⟨e0, e1, e2, e3⟩ := h6.cells)
  | (go_at_call 10; with_reducible refine (hw _ i hD6).mono ?_; rintro e w7 ⟨rfl, hD7, hs7⟩))
 have h7 := h6.step hs7 (fun k hk => by
  have h8 := hlo k hk
  have h9 := blk_lt h3.geo
  omega)
 have h7d := h7.sf (step_drew w7)
 have hD7d := hD7.step (step_drew w7) (fun _ _ h => h)
 obtain ⟨y0, y1, y2, y3⟩ := h7d.cells
 refine start_ (n := 11) (S := fun w' => w'.cell? ⟨w.heap.size, 0, none⟩ = some (.int .i64 sh) ∧ w'.cell? ⟨w.heap.size, 1, none⟩ = some (.int .i64 gk) ∧ w'.cell? ⟨w.heap.size, 2, none⟩ = some (.int .i64 gm) ∧ w'.cell? ⟨w.heap.size, 3, none⟩ = some (.int .i64 C)) (ds := []) #[false, false, false, false, false, false, false, false, false, false, false] (by kernel_rfl) rfl rfl ⟨y0, y1, y2, y3⟩ (fun hHeld => ?_)
 refine pure_ (i := 0) (N := some 81) (v := ?_) (a' := ?_) #[true, false, false, false, false, false, false, false, false, false, false] rfl rfl (by kernel_rfl) (fun _ _ _ h => h) (Or.inl ⟨by rfl, ?_⟩) ?_ ?_
 rotate_left
 ·intro w'
  go_simp
  with_reducible rfl
 rotate_left
 ·simp only [Act.put, List.setIfInBounds_toArray, List.set_cons_zero, List.set_cons_succ, i64_w, i32_w]
  rfl
 refine pure_ (i := 2) (N := some 83) (v := ?_) (a' := ?_) #[true, false, true, false, false, false, false, false, false, false, false] rfl rfl (by kernel_rfl) (fun _ _ _ h => h) (Or.inl ⟨by rfl, ?_⟩) ?_ ?_
 rotate_left
 ·intro w'
  go_simp
  with_reducible rfl
 rotate_left
 ·simp only [Act.put, List.setIfInBounds_toArray, List.set_cons_zero, List.set_cons_succ, i64_w, i32_w]
  rfl
 refine pure_ (i := 3) (N := some 84) (v := ?_) (a' := ?_) #[true, false, true, true, false, false, false, false, false, false, false] rfl rfl (by kernel_rfl) (fun _ _ _ h => h) (Or.inl ⟨by rfl, ?_⟩) ?_ ?_
 rotate_left
 ·intro w'
  go_simp
  with_reducible rfl
 rotate_left
 ·simp only [Act.put, List.setIfInBounds_toArray, List.set_cons_zero, List.set_cons_succ, i64_w, i32_w]
  rfl
 refine take_ (i := 1) (N := some 82) (v := ?_) (a' := ?_) #[true, true, true, true, false, false, false, false, false, false, false] rfl rfl (by kernel_rfl) (fun _ _ _ h => h) (Or.inl ⟨by rfl, ?_⟩) hHeld ?_ ?_
 rotate_left
 ·rintro w' ⟨s0, s1, s2, s3⟩
  go_simp
  with_reducible rfl
 rotate_left
 ·simp only [Act.put, List.setIfInBounds_toArray, List.set_cons_zero, List.set_cons_succ, i64_w, i32_w]
  rfl
 refine one_ (i := 4) (N := some 85) #[true, true, true, true, true, false, false, false, false, false, false] rfl rfl (by kernel_rfl) (by decide) (fun K hK => ?_)
 refine goes_ Tryd.func12 (by kernel_rfl) rfl #[.string full] (by rfl) rfl rfl (by simp only [List.map_toArray, List.map_cons, List.map_nil]; rfl) ?_
 with_reducible refine (hSum _ h7d.tab).mono ?_
 rintro e w8 ⟨rfl, hb8⟩
 refine ⟨_, rfl, ?_⟩
 have hT8 := h7d.tab.below hb8
 have hD8 := hD7d.bel hb8
 refine hK.out _ _ ⟨pw_cell_below hb8 hHeld.1, pw_cell_below hb8 hHeld.2.1, pw_cell_below hb8 hHeld.2.2.1, pw_cell_below hb8 hHeld.2.2.2⟩ (fun hHeld => ?_)
 clear hK K
 refine norm_ (a' := ?_) ?_ ?_
 rotate_left
 ·show Act.put _ (some 85) _ = _
  simp only [Act.put, List.setIfInBounds_toArray, List.set_cons_zero, List.set_cons_succ, i64_w, i32_w]
  rfl
 refine one_ (i := 5) (N := some 86) #[true, true, true, true, true, true, false, false, false, false, false] rfl rfl (by kernel_rfl) (by decide) (fun K hK => ?_)
 refine goes_ Tryd.func11 (by kernel_rfl) rfl #[.pointer (some ⟨i.d, 0, none⟩), .agg #[.int .i64 sh, .int .i64 gk, .int .i64 gm, .int .i64 C], .int .i64 at_, .int .u32 (sumC full)] (by rfl) rfl rfl (by simp only [List.map_toArray, List.map_cons, List.map_nil]; rfl) ?_
 with_reducible refine (hRd1 _ i hT8 hD8).mono ?_
 rintro e w9 ⟨rfl, hs9⟩
 refine ⟨_, rfl, ?_⟩
 refine hK.out _ _ ⟨hs9.cell hHeld.1 (fun h => h), hs9.cell hHeld.2.1 (fun h => h), hs9.cell hHeld.2.2.1 (fun h => h), hs9.cell hHeld.2.2.2 (fun h => h)⟩ (fun hHeld => ?_)
 clear hK K
 refine norm_ (a' := ?_) ?_ ?_
 rotate_left
 ·show Act.put _ (some 86) _ = _
  simp only [Act.put, List.setIfInBounds_toArray, List.set_cons_zero, List.set_cons_succ, i64_w, i32_w]
  rfl
 refine pure_ (i := 6) (N := some 80) (v := ?_) (a' := ?_) #[true, true, true, true, true, true, true, false, false, false, false] rfl rfl (by kernel_rfl) (fun _ _ _ h => h) (Or.inl ⟨by rfl, ?_⟩) ?_ ?_
 rotate_left
 ·intro w'
  go_simp
  with_reducible rfl
 rotate_left
 ·simp only [Act.put, List.setIfInBounds_toArray, List.set_cons_zero, List.set_cons_succ, i64_w, i32_w]
  rfl
 refine pure_ (i := 7) (N := some 87) (v := ?_) (a' := ?_) #[true, true, true, true, true, true, true, true, false, false, false] rfl rfl (by kernel_rfl) (fun _ _ _ h => h) (Or.inl ⟨by rfl, ?_⟩) ?_ ?_
 rotate_left
 ·intro w'
  go_simp
  with_reducible rfl
 rotate_left
 ·simp only [Act.put, List.setIfInBounds_toArray, List.set_cons_zero, List.set_cons_succ, i64_w, i32_w]
  rfl
 refine pure_ (i := 8) (N := some 88) (v := ?_) (a' := ?_) #[true, true, true, true, true, true, true, true, true, false, false] rfl rfl (by kernel_rfl) (fun _ _ _ h => h) (Or.inl ⟨by rfl, ?_⟩) ?_ ?_
 rotate_left
 ·intro w'
  go_simp
  with_reducible rfl
 rotate_left
 ·simp only [Act.put, List.setIfInBounds_toArray, List.set_cons_zero, List.set_cons_succ, i64_w, i32_w]
  rfl
 refine pure_ (i := 9) (N := some 19) (v := ?_) (a' := ?_) #[true, true, true, true, true, true, true, true, true, true, false] rfl rfl (by kernel_rfl) (fun _ _ _ h => h) (Or.inl ⟨by rfl, ?_⟩) ?_ ?_
 rotate_left
 ·intro w'
  go_simp
  with_reducible rfl
 rotate_left
 ·simp only [Act.put, List.setIfInBounds_toArray, List.set_cons_zero, List.set_cons_succ, i64_w, i32_w]
  rfl
 refine pure_ (i := 10) (N := some 20) (v := ?_) (a' := ?_) #[true, true, true, true, true, true, true, true, true, true, true] rfl rfl (by kernel_rfl) (fun _ _ _ h => h) (Or.inl ⟨by rfl, ?_⟩) ?_ ?_
 rotate_left
 ·intro w'
  go_simp
  with_reducible rfl
 rotate_left
 ·simp only [Act.put, List.setIfInBounds_toArray, List.set_cons_zero, List.set_cons_succ, i64_w, i32_w]
  rfl
 refine done_ (by kernel_rfl) ?_

 clear hHeld
 have h9 := (h7d.bel hb8).sf hs9
 have hD9 := hD8.step hs9 (fun _ _ h => h)
 obtain ⟨f0, f1, f2, f3⟩ := h9.cells
 rcases hs with ⟨rfl, rfl, rfl⟩ | ⟨rfl, hsm⟩
 ·rcases ho with ho | ⟨ho, rfl⟩
  all_goals
   go_wp2_with (first
    | (go_at_call 11; with_reducible refine (hRd2 _ i h9.tab hD9).mono ?_; rintro e wa ⟨rfl, hsa⟩; have ha := h9.sf hsa; have hDa := hD9.step hsa (fun _ _ h => h); obtain ⟨n0, n1, n2, n3⟩ := ha.cells)
    | (go_at_call 9; with_reducible refine (hRaw1 _ i hDa).mono ?_; rintro e wb ⟨rfl, hsb⟩; have hb := ha.sf hsb)
    | (go_at_call 12; with_reducible refine (hSum _ hb.tab).mono ?_; rintro e wc ⟨rfl, hbc⟩; have hc := hb.bel hbc))
   go_ret
   exact ⟨rfl, hc.st⟩
 ·rcases ho with ho | ⟨ho, rfl⟩
  all_goals
   go_wp2_with (first
    | (go_at_call 11; with_reducible refine (hRd2 _ i h9.tab hD9).mono ?_; rintro e wa ⟨rfl, hsa⟩; have ha := h9.sf hsa; have hDa := hD9.step hsa (fun _ _ h => h); obtain ⟨n0, n1, n2, n3⟩ := ha.cells)
    | (go_at_call 9; with_reducible refine (hRaw1 _ i hDa).mono ?_; rintro e wb ⟨rfl, hsb⟩; have hb := ha.sf hsb)
    | (go_at_call 12; with_reducible refine (hSum _ hb.tab).mono ?_; rintro e wc ⟨rfl, hbc⟩; have hc := hb.bel hbc))
   go_ret
   exact ⟨rfl, hc.st⟩
theorem law_any (w : World) (sh gk gm C at_ other sum : Int) (s : ByteArray) (hT : TabAt w) (hs : s.size ≤ 9223372036854775807) :
  Calls Tryd.prog 3 #[.agg #[.int .i64 sh, .int .i64 gk, .int .i64 gm, .int .i64 C], .int .i64 at_, .int .i64 other, .string s, .int .u32 sum] w fun e w' => e = .returned (.bool true) ∧ Step (fun _ => False) w w' := by
 by_cases hg : GeoOk sh gk gm C
 ·by_cases hN : C * (nS sh : Int) ≤ 128
  ·have hn1 := nS_pos sh
   have hg2 := hg.2.2.2.2.2.2
   have hN1 : 1 ≤ C * (nS sh : Int) := by
    have := Int.mul_le_mul_of_nonneg_right (show 4 ≤ C by omega) (Int.natCast_nonneg (nS sh))
    omega
   have hXl : ((List.replicate (C * (nS sh : Int)).toNat zeroS).length : Int) = C * (nS sh : Int) := by rw [List.length_replicate]; omega
   by_cases ha : 0 ≤ at_ ∧ at_ < C
   ·by_cases hl : s.size ≤ 512 * nS sh
    ·have hf : fillP sh gk gm C s = (fillG (512 * nS sh) s, 0) := by rw [fillP, if_pos hg, if_pos hl]
     have hfz := fillG_size (512 * nS sh) s hl
     have hn2 := nS_le hg.2.1
     have hFill : ∀ W, Calls Tryd.prog 8 #[.agg #[.int .i64 sh, .int .i64 gk, .int .i64 gm, .int .i64 C], .string s] W fun e w' => e = .returned (.tuple #[.string (fillG (512 * nS sh) s), .int .i64 0]) ∧ Below W.heap.size W w' := fun W => by
      have := cluster_Fill_any sh gk gm C s W hs
      rw [hf] at this
      exact this
     have hSec : ∀ W, Calls Tryd.prog 6 #[.agg #[.int .i64 sh, .int .i64 gk, .int .i64 gm, .int .i64 C]] W fun e w' => e = .returned (.int .i64 (C * (nS sh : Int))) ∧ Below W.heap.size W w' := fun W => by
      have := geom_Sectors_any sh gk gm C W
      rw [sectorsP, if_pos hg] at this
      exact this
     generalize hfe : fillG (512 * nS sh) s = full at *
     have hBack : rawS (List.replicate (C * (nS sh : Int)).toNat zeroS) (writesP (at_ * (nS sh : Int)) full (nS sh) []) (at_ * (nS sh : Int)) (nS sh) = full := raw_back hfz
     have hRd := fun W i c hT hD => cluster_Read_any W i (List.replicate (C * (nS sh : Int)).toNat zeroS) (writesP (at_ * (nS sh : Int)) full (nS sh) []) (0 + (nS sh : Int)) sh gk gm C at_ c hT hD hg hXl ha.1 ha.2 full hBack (by omega)
     refine law_ok w sh gk gm C at_ other sum (C * (nS sh : Int)) (0 + (nS sh : Int)) (if 0 ≤ other ∧ other < C then 0 else 1) (if sumC full = sum then 0 else 9) s full
      (if 0 ≤ other ∧ other < C then rawS (List.replicate (C * (nS sh : Int)).toNat zeroS) [] (other * (nS sh : Int)) (nS sh) else ⟨#[]⟩) (if 0 ≤ other ∧ other < C then rawS (List.replicate (C * (nS sh : Int)).toNat zeroS) (writesP (at_ * (nS sh : Int)) full (nS sh) []) (other * (nS sh : Int)) (nS sh) else ⟨#[]⟩) (if sumC full = sum then full else ⟨#[]⟩)
      (List.replicate (C * (nS sh : Int)).toNat zeroS) (writesP (at_ * (nS sh : Int)) full (nS sh) []) hT (decide_eq_false (by omega)) (decide_eq_false (by omega)) hSec (fun W => dev_New_any W (C * (nS sh : Int)) hN1 (by omega)) hFill
      (fun W i hD => raw_both _ [] 0 sh gk gm C other hg hXl W i hD) (fun W i hD => raw_both _ _ _ sh gk gm C other hg hXl W i hD)
      (fun W i hD => cluster_Write_any W i _ [] [] 0 sh gk gm C at_ full hD hg hXl ha.1 ha.2 hfz (by omega) (by omega))
      (fun W hT => crc_Sum_any full W hT (by omega)) (fun W i hT hD => ?_) (fun W i hT hD => hRd W i sum hT hD) ?_ ?_
     ·have := hRd W i (sumC full) hT hD
      rw [if_pos rfl, if_pos rfl] at this
      exact this
     ·by_cases e : sumC full = sum
      ·rw [if_pos e, if_pos e]; exact Or.inl ⟨rfl, rfl, e.symm⟩
      ·rw [if_neg e]; exact Or.inr ⟨rfl, beq_eq_false_iff_ne.2 (fun h => e h.symm)⟩
     ·by_cases e : other = at_
      ·exact Or.inl (beq_iff_eq.2 e)
      ·refine Or.inr ⟨beq_eq_false_iff_ne.2 e, ?_⟩
       rw [raw_beside e]
    ·refine law_no w sh gk gm C at_ other sum s hT hs hg hN ⟨#[]⟩ 7 2 (by rw [fillP, if_pos hg, if_neg hl]) (fun W i hD => cluster_Write_form W i _ [] [] 0 sh gk gm C at_ ⟨#[]⟩ hD hg hXl ha.1 ha.2 ?_) (Or.inl ⟨rfl, Or.inr rfl⟩)
     show (0 : Nat) ≠ _
     omega
   ·by_cases hl : s.size ≤ 512 * nS sh
    ·exact law_no w sh gk gm C at_ other sum s hT hs hg hN (fillG (512 * nS sh) s) 0 1 (by rw [fillP, if_pos hg, if_pos hl]) (fun W i hD => cluster_Write_far W i sh gk gm C at_ _ hg ha) (Or.inr ⟨rfl, rfl⟩)
    ·exact law_no w sh gk gm C at_ other sum s hT hs hg hN ⟨#[]⟩ 7 1 (by rw [fillP, if_pos hg, if_neg hl]) (fun W i hD => cluster_Write_far W i sh gk gm C at_ _ hg ha) (Or.inl ⟨rfl, Or.inl rfl⟩)
  ·exact law_small w sh gk gm C at_ other sum s hT (by rw [sectorsP, if_pos hg]; omega)
 ·exact law_small w sh gk gm C at_ other sum s hT (by rw [sectorsP, if_neg hg]; omega)
def caulklaw08_ClusterBack.Pure : Prop := True
theorem caulklaw08_ClusterBack.walk (P : caulklaw08_ClusterBack.Pure) (a0_0 a0_1 a0_2 a0_3 a1 a2 : Int) (a3 : ByteArray) (a4 : Int) (w : World) (hT : TabAt w) (h3 : a3.size ≤ 140737488351232) :
  Calls Tryd.prog 3 #[.agg #[.int .i64 a0_0, .int .i64 a0_1, .int .i64 a0_2, .int .i64 a0_3], .int .i64 a1, .int .i64 a2, .string a3, .int .u32 a4] w fun e w' => e = .returned (.bool true) ∧ Below w.heap.size w w' :=
 (law_any w a0_0 a0_1 a0_2 a0_3 a1 a2 a4 a3 hT (by omega)).mono fun _ _ h => ⟨h.1, h.2.below (Nat.le_refl _) (fun _ h => h.elim)⟩
end

end Go.Proofs.YtpbkcdodpjpoeaaDoor.HCB
