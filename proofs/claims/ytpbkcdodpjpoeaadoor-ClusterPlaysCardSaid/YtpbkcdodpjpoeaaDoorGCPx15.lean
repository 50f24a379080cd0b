/- WRITTEN BY wip/hyb.py, a program of this workplace (out of the kit's printer and this workplace's own contracts). -/
import Derived.Test.YtpbkcdodpjpoeaaDoorGCPx0
import Derived.Test.YtpbkcdodpjpoeaaDoorGCPx2
import Derived.Test.YtpbkcdodpjpoeaaDoorGCPx6
namespace Go.Proofs.YtpbkcdodpjpoeaaDoor.HCP
open Go.RowKit Go.Proofs.YtpbkcdodpjpoeaaDoorW.PrintWords Go.Proofs.YtpbkcdodpjpoeaaDoorW.PrintLast Go.Proofs.YtpbkcdodpjpoeaaDoorW.PrintMore
attribute [local go_sem] max2_int min2_int max_two min_two max_three min_three max_four min_four   -- for this text's walks alone
set_option linter.unusedVariables false
set_option linter.unusedSimpArgs false

section
open Go Go.Shelf Go.Maps Go.Proofs.YtpbkcdodpjpoeaaDoor.Seq Go.Proofs.YtpbkcdodpjpoeaaDoor.MapL Go.Proofs.YtpbkcdodpjpoeaaDoorW.PrintLast
attribute [local go_sem] Oper.semAt_some max2_int min2_int max_two min_two
theorem getL_writes_out (f0 : Int) (s : ByteArray) (F : FL) (a : Int) : ∀ k : Nat, (∀ j : Nat, j < k → a ≠ f0 + (j : Int)) → getL a (writesP f0 s k F) = getL a F
 | 0, _ => rfl
 | k + 1, h => by
  rw [writesP, getL_putL, if_neg (fun e => h k (by omega) (by omega))]
  exact getL_writes_out f0 s F a k (fun j hj => h j (by omega))
theorem getL_writes_in (f0 : Int) (s : ByteArray) (F : FL) (j : Nat) : ∀ k : Nat, j < k → getL (f0 + (j : Int)) (writesP f0 s k F) = some (s.extract (512 * j) (512 * j + 512))
 | 0, h => by omega
 | k + 1, h => by
  rw [writesP, getL_putL]
  by_cases e : j = k
  ·subst e; rw [if_pos rfl]
  ·rw [if_neg (by omega)]; exact getL_writes_in f0 s F j k (by omega)
theorem rawL_congr {xs : List ByteArray} {F1 F2 : FL} {f : Int} : ∀ k : Nat, (∀ j : Nat, j < k → getL (f + (j : Int)) F1 = getL (f + (j : Int)) F2) → rawL xs F1 f k = rawL xs F2 f k
 | 0, _ => rfl
 | k + 1, h => by
  rw [rawL, rawL, rawL_congr k (fun j hj => h j (by omega)), rdV, rdV, h k (by omega)]
theorem rawL_written {xs : List ByteArray} {F : FL} {f : Int} {s : ByteArray} : ∀ k : Nat, 512 * k ≤ s.size → (∀ j : Nat, j < k → getL (f + (j : Int)) F = some (s.extract (512 * j) (512 * j + 512))) → rawL xs F f k = s.data.toList.take (512 * k)
 | 0, _, _ => rfl
 | k + 1, hk, h => by
  rw [rawL, rawL_written k (by omega) (fun j hj => h j (by omega)), rdV, h k (by omega)]
  show _ ++ (s.extract (512 * k) (512 * k + 512)).data.toList = _
  rw [ByteArray.data_extract, Array.toList_extract, List.extract_eq_take_drop, show 512 * k + 512 - 512 * k = 512 by omega, show 512 * (k + 1) = 512 * k + 512 by omega, List.take_add]
theorem raw_back {xs : List ByteArray} {F : FL} {f0 : Int} {s : ByteArray} {n : Nat} (hs : s.size = 512 * n) : rawS xs (writesP f0 s n F) f0 n = s := by
 unfold rawS
 rw [rawL_written n (by omega) (fun j hj => getL_writes_in f0 s F j n hj), List.take_of_length_le (by rw [data_length]; omega)]
theorem raw_beside {xs : List ByteArray} {F : FL} {a o : Int} {s : ByteArray} {n : Nat} (h : o ≠ a) : rawS xs (writesP (a * (n : Int)) s n F) (o * (n : Int)) n = rawS xs F (o * (n : Int)) n := by
 unfold rawS
 congr 2
 refine rawL_congr n (fun k hk => getL_writes_out _ s F _ n (fun j hj e => ?_))
 rcases Int.lt_or_gt_of_ne h with h1 | h1
 ·have := Int.mul_le_mul_of_nonneg_right (show o + 1 ≤ a by omega) (Int.natCast_nonneg n)
  rw [Int.add_mul, Int.one_mul] at this
  omega
 ·have := Int.mul_le_mul_of_nonneg_right (show a + 1 ≤ o by omega) (Int.natCast_nonneg n)
  rw [Int.add_mul, Int.one_mul] at this
  omega
abbrev abcS : ByteArray := ⟨#[97, 98, 99]⟩
theorem geo4 : GeoOk 1 1 0 4 := by decide
theorem DevAt.bel {w w' : World} {i : DevIds} {xs : List ByteArray} {F : FL} {B : BL} {off : Bool} {fuse nw : Int} (h : DevAt w i xs F B off fuse nw) (hb : Below w.heap.size w w') : DevAt w' i xs F B off fuse nw := h.step (Step.of_below (S := fun _ => False) hb) (fun _ _ h => h)
theorem step_drew (w : World) : Step (fun _ => False) w w.drew := ⟨pw_below_drewN (Below.refl _ _) 1, fun _ _ _ => rfl⟩
theorem sum_next (x : Int) (h0 : 0 ≤ x) (h1 : x < 4294967296) : x ≠ (x + 1) % 4294967296 := by omega
set_option maxRecDepth 100000 in
set_option maxHeartbeats 8000000 in
theorem lives_any (w : World) (hT : TabAt w) (h0 : 0 < w.heap.size) : Calls Tryd.prog 5 #[] w fun e w' => e = .returned (.bool true) ∧ Step (fun _ => False) w w' := by
 have hu23 := Tryd.underlying23
 obtain ⟨S, hS⟩ : ∃ S, S = fillG 1024 abcS := ⟨_, rfl⟩
 have hSz : S.size = 1024 := by rw [hS]; exact fillG_size 1024 abcS (by decide)
 have hS3 : S.extract 0 3 = abcS := by rw [hS]; kernel_rfl
 have hn1 : nS 1 = 2 := by decide
 obtain ⟨X, hX⟩ : ∃ X, X = List.replicate 8 zeroS := ⟨_, rfl⟩
 have hXl : (X.length : Int) = 4 * (nS 1 : Int) := by rw [hX, hn1]; rfl
 obtain ⟨F1, hF1⟩ : ∃ F1, F1 = writesP (2 * (nS 1 : Int)) S (nS 1) [] := ⟨_, rfl⟩
 have hNew : ∀ W, Calls Tryd.prog 7 #[.int .i64 8] W fun e w' => ∃ i, e = .returned (.tuple #[.pointer (some ⟨i.d, 0, none⟩), .int .i64 0]) ∧ DevAt w' i X [] [] false (-1) 0 ∧ (∀ k, i.In k → W.heap.size ≤ k) ∧ Below W.heap.size W w' := by
  intro W; rw [hX]; exact dev_New_any W 8 (by omega) (by omega)
 have hFill : ∀ W, Calls Tryd.prog 8 #[.agg #[.int .i64 1, .int .i64 1, .int .i64 0, .int .i64 4], .string ⟨#[97, 98, 99]⟩] W fun e w' => e = .returned (.tuple #[.string S, .int .i64 0]) ∧ Below W.heap.size W w' := by
  intro W
  have := cluster_Fill_any 1 1 0 4 abcS W (by decide)
  rw [fillP, if_pos geo4, hn1, if_pos (by decide), ← hS] at this
  exact this
 have hFill2 : ∀ W, Calls Tryd.prog 8 #[.agg #[.int .i64 1, .int .i64 1, .int .i64 0, .int .i64 4], .string (S ++ ⟨#[33]⟩)] W fun e w' => e = .returned (.tuple #[.string ⟨#[]⟩, .int .i64 7]) ∧ Below W.heap.size W w' := by
  intro W
  have hz : (S ++ (⟨#[33]⟩ : ByteArray)).size = 1025 := by rw [ByteArray.size_append, hSz]; rfl
  have := cluster_Fill_any 1 1 0 4 (S ++ ⟨#[33]⟩) W (by omega)
  rw [fillP, if_pos geo4, hn1, if_neg (by omega)] at this
  exact this
 have hW : ∀ W i, DevAt W i X [] [] false (-1) 0 → Calls Tryd.prog 10 #[.pointer (some ⟨i.d, 0, none⟩), .agg #[.int .i64 1, .int .i64 1, .int .i64 0, .int .i64 4], .int .i64 2, .string S] W fun e w' => e = .returned (.int .i64 0) ∧ DevAt w' i X F1 [] false (-1) 2 ∧ Step i.In W w' := by
  intro W i hD
  have := cluster_Write_any W i X [] [] 0 1 1 0 4 2 S hD geo4 hXl (by decide) (by decide) (by rw [hn1]; exact hSz) (by decide) (by decide)
  rw [← hF1, hn1] at this
  exact this
 have hBack : rawS X F1 (2 * (nS 1 : Int)) (nS 1) = S := by rw [hF1]; exact raw_back (by rw [hn1]; exact hSz)
 have hRd1 : ∀ W i, TabAt W → DevAt W i X F1 [] false (-1) 2 → Calls Tryd.prog 11 #[.pointer (some ⟨i.d, 0, none⟩), .agg #[.int .i64 1, .int .i64 1, .int .i64 0, .int .i64 4], .int .i64 2, .int .u32 (sumC S)] W fun e w' => e = .returned (.tuple #[.string S, .int .i64 0]) ∧ Step (fun _ => False) W w' := by
  intro W i hT hD
  have := cluster_Read_any W i X F1 2 1 1 0 4 2 (sumC S) hT hD geo4 hXl (by decide) (by decide) S hBack (by omega)
  rw [if_pos rfl, if_pos rfl] at this
  exact this
 have hRd2 : ∀ W i, TabAt W → DevAt W i X F1 [] false (-1) 2 → Calls Tryd.prog 11 #[.pointer (some ⟨i.d, 0, none⟩), .agg #[.int .i64 1, .int .i64 1, .int .i64 0, .int .i64 4], .int .i64 2, .int .u32 ((sumC S + 1) % 4294967296)] W fun e w' => e = .returned (.tuple #[.string ⟨#[]⟩, .int .i64 9]) ∧ Step (fun _ => False) W w' := by
  intro W i hT hD
  have hne := sum_next (sumC S) (sumC_in S).1 (sumC_in S).2
  have := cluster_Read_any W i X F1 2 1 1 0 4 2 ((sumC S + 1) % 4294967296) hT hD geo4 hXl (by decide) (by decide) S hBack (by omega)
  rw [if_neg hne, if_neg hne] at this
  exact this
 have hRaw : ∀ W (i : DevIds), Calls Tryd.prog 9 #[.pointer (some ⟨i.d, 0, none⟩), .agg #[.int .i64 1, .int .i64 1, .int .i64 0, .int .i64 4], .int .i64 4] W fun e w' => e = .returned (.tuple #[.string ⟨#[]⟩, .int .i64 1]) ∧ Step (fun _ => False) W w' := fun W i => cluster_Raw_far W i 1 1 0 4 4 geo4 (by decide)
 have hWf : ∀ W i, DevAt W i X F1 [] false (-1) 2 → Calls Tryd.prog 10 #[.pointer (some ⟨i.d, 0, none⟩), .agg #[.int .i64 1, .int .i64 1, .int .i64 0, .int .i64 4], .int .i64 2, .string ⟨#[97, 98, 99]⟩] W fun e w' => e = .returned (.int .i64 2) ∧ Step (fun _ => False) W w' := by
  intro W i hD
  exact cluster_Write_form W i X F1 [] 2 1 1 0 4 2 abcS hD geo4 hXl (by decide) (by decide) (by rw [hn1]; decide)
 have hSum : ∀ W, TabAt W → Calls Tryd.prog 12 #[.string S] W fun e w' => e = .returned (.int .u32 (sumC S)) ∧ Below W.heap.size W w' := fun W hT => crc_Sum_any S W hT (by omega)
 clear hF1 hBack hXl hX hS hn1
 have hs1 := Step.alloc (fun _ => False) w (.cells #[.int .i64 1, .int .i64 1, .int .i64 0, .int .i64 4] 23)
 have k1 := World.alloc_heap_new w (.cells #[.int .i64 1, .int .i64 1, .int .i64 0, .int .i64 4] 23)
 go_enter Tryd.func5, Tryd.ntmps5
 try simp only [List.append_eq, List.cons_append, List.nil_append]
 go_wp2_with (first
  | (go_at_call 7; with_reducible refine (hNew _).mono ?_; rintro e w2 ⟨i, rfl, hD2, hlo, hb2⟩; have k2 := (Step.of_below (S := fun _ => False) hb2).block k1 (fun h => h); have hs2 := step2 hs1 (Step.of_below (S := fun _ => False) hb2); have g0 := Lib.cell_of_heap k2 0; have g1 := Lib.cell_of_heap k2 1; have g2 := Lib.cell_of_heap k2 2; have g3 := Lib.cell_of_heap k2 3; simp at g0 g1 g2 g3)
  | (go_at_call 8; with_reducible refine (hFill _).mono ?_; rintro e w3 ⟨rfl, hb3⟩; have k3 := (Step.of_below (S := fun _ => False) hb3).block k2 (fun h => h); have hs3 := step2 hs2 (Step.of_below (S := fun _ => False) hb3); have hD3 := hD2.bel hb3; have m0 := Lib.cell_of_heap k3 0; have m1 := Lib.cell_of_heap k3 1; have m2 := Lib.cell_of_heap k3 2; have m3 := Lib.cell_of_heap k3 3; simp at m0 m1 m2 m3)
  | (go_at_call 10; with_reducible refine (hW _ i hD3).mono ?_; rintro e w4 ⟨rfl, hD4, hs4⟩))
 have hng : ¬ i.In w.heap.size := fun h => by have := hlo _ h; simp at this; omega
 have hw4 : Step (fun _ => False) w w4 := hs3.trans hs4 (fun _ h => h) (fun k hk => Or.inr (by have := hlo k hk; simp at this; omega))
 have k4 := hs4.block k3 hng
 have hT4 : TabAt w4.drew := hT.step (step2 hw4 (step_drew w4)) (fun h => h)
 have hD4d : DevAt w4.drew i X F1 [] false (-1) 2 := hD4.step (step_drew w4) (fun _ _ h => h)
 have k4d := (step_drew w4).block k4 (fun h => h)
 have hw4d := step2 hw4 (step_drew w4)
 have y0 : w4.drew.cell? ⟨w.heap.size, 0, none⟩ = some (.int .i64 1) := by rw [Lib.cell_of_heap k4d]; rfl
 have y1 : w4.drew.cell? ⟨w.heap.size, 1, none⟩ = some (.int .i64 1) := by rw [Lib.cell_of_heap k4d]; rfl
 have y2 : w4.drew.cell? ⟨w.heap.size, 2, none⟩ = some (.int .i64 0) := by rw [Lib.cell_of_heap k4d]; rfl
 have y3 : w4.drew.cell? ⟨w.heap.size, 3, none⟩ = some (.int .i64 4) := by rw [Lib.cell_of_heap k4d]; rfl
 refine start_ (n := 10) (S := fun w' => w'.cell? ⟨w.heap.size, 0, none⟩ = some (.int .i64 1) ∧ w'.cell? ⟨w.heap.size, 1, none⟩ = some (.int .i64 1) ∧ w'.cell? ⟨w.heap.size, 2, none⟩ = some (.int .i64 0) ∧ w'.cell? ⟨w.heap.size, 3, none⟩ = some (.int .i64 4)) (ds := []) #[false, false, false, false, false, false, false, false, false, false] (by kernel_rfl) rfl rfl ⟨y0, y1, y2, y3⟩ (fun hHeld => ?_)
 refine pure_ (i := 0) (N := some 42) (v := ?_) (a' := ?_) #[true, false, false, false, false, false, false, false, false, false] rfl rfl (by kernel_rfl) (fun _ _ _ h => h) (Or.inl ⟨by rfl, ?_⟩) ?_ ?_
 rotate_left
 ·intro w'
  go_simp
  with_reducible rfl
 rotate_left
 ·simp only [Act.put, List.setIfInBounds_toArray, List.set_cons_zero, List.set_cons_succ, i64_w, i32_w]
  rfl
 refine pure_ (i := 2) (N := some 44) (v := ?_) (a' := ?_) #[true, false, true, false, false, false, false, false, false, false] rfl rfl (by kernel_rfl) (fun _ _ _ h => h) (Or.inl ⟨by rfl, ?_⟩) ?_ ?_
 rotate_left
 ·intro w'
  go_simp
  with_reducible rfl
 rotate_left
 ·simp only [Act.put, List.setIfInBounds_toArray, List.set_cons_zero, List.set_cons_succ, i64_w, i32_w]
  rfl
 refine take_ (i := 1) (N := some 43) (v := ?_) (a' := ?_) #[true, true, true, false, false, false, false, false, false, false] rfl rfl (by kernel_rfl) (fun _ _ _ h => h) (Or.inl ⟨by rfl, ?_⟩) hHeld ?_ ?_
 rotate_left
 ·rintro w' ⟨s0, s1, s2, s3⟩
  go_simp
  with_reducible rfl
 rotate_left
 ·simp only [Act.put, List.setIfInBounds_toArray, List.set_cons_zero, List.set_cons_succ, i64_w, i32_w]
  rfl
 refine one_ (i := 3) (N := some 45) #[true, true, true, true, false, false, false, false, false, false] rfl rfl (by kernel_rfl) (by decide) (fun K hK => ?_)
 refine goes_ Tryd.func12 (by kernel_rfl) rfl #[.string S] (by rfl) rfl rfl (by simp only [List.map_toArray, List.map_cons, List.map_nil]; rfl) ?_
 with_reducible refine (hSum _ hT4).mono ?_
 rintro e w5 ⟨rfl, hb5⟩
 refine ⟨_, rfl, ?_⟩
 have hT5 := hT4.below hb5
 have hD5 := hD4d.bel hb5
 refine hK.out _ _ ⟨pw_cell_below hb5 hHeld.1, pw_cell_below hb5 hHeld.2.1, pw_cell_below hb5 hHeld.2.2.1, pw_cell_below hb5 hHeld.2.2.2⟩ (fun hHeld => ?_)
 clear hK K
 refine norm_ (a' := ?_) ?_ ?_
 rotate_left
 ·show Act.put _ (some 45) _ = _
  simp only [Act.put, List.setIfInBounds_toArray, List.set_cons_zero, List.set_cons_succ, i64_w, i32_w]
  rfl
 refine one_ (i := 4) (N := some 46) #[true, true, true, true, true, false, false, false, false, false] rfl rfl (by kernel_rfl) (by decide) (fun K hK => ?_)
 refine goes_ Tryd.func11 (by kernel_rfl) rfl #[.pointer (some ⟨i.d, 0, none⟩), .agg #[.int .i64 1, .int .i64 1, .int .i64 0, .int .i64 4], .int .i64 2, .int .u32 (sumC S)] (by rfl) rfl rfl (by simp only [List.map_toArray, List.map_cons, List.map_nil]; rfl) ?_
 with_reducible refine (hRd1 _ i hT5 hD5).mono ?_
 rintro e w6 ⟨rfl, hs6⟩
 refine ⟨_, rfl, ?_⟩
 refine hK.out _ _ ⟨hs6.cell hHeld.1 (fun h => h), hs6.cell hHeld.2.1 (fun h => h), hs6.cell hHeld.2.2.1 (fun h => h), hs6.cell hHeld.2.2.2 (fun h => h)⟩ (fun hHeld => ?_)
 clear hK K
 refine norm_ (a' := ?_) ?_ ?_
 rotate_left
 ·show Act.put _ (some 46) _ = _
  simp only [Act.put, List.setIfInBounds_toArray, List.set_cons_zero, List.set_cons_succ, i64_w, i32_w]
  rfl
 refine pure_ (i := 5) (N := some 41) (v := ?_) (a' := ?_) #[true, true, true, true, true, true, false, false, false, false] rfl rfl (by kernel_rfl) (fun _ _ _ h => h) (Or.inl ⟨by rfl, ?_⟩) ?_ ?_
 rotate_left
 ·intro w'
  go_simp
  with_reducible rfl
 rotate_left
 ·simp only [Act.put, List.setIfInBounds_toArray, List.set_cons_zero, List.set_cons_succ, i64_w, i32_w]
  rfl
 refine pure_ (i := 6) (N := some 47) (v := ?_) (a' := ?_) #[true, true, true, true, true, true, true, false, false, false] rfl rfl (by kernel_rfl) (fun _ _ _ h => h) (Or.inl ⟨by rfl, ?_⟩) ?_ ?_
 rotate_left
 ·intro w'
  go_simp
  with_reducible rfl
 rotate_left
 ·simp only [Act.put, List.setIfInBounds_toArray, List.set_cons_zero, List.set_cons_succ, i64_w, i32_w]
  rfl
 refine pure_ (i := 7) (N := some 48) (v := ?_) (a' := ?_) #[true, true, true, true, true, true, true, true, false, false] rfl rfl (by kernel_rfl) (fun _ _ _ h => h) (Or.inl ⟨by rfl, ?_⟩) ?_ ?_
 rotate_left
 ·intro w'
  go_simp
  with_reducible rfl
 rotate_left
 ·simp only [Act.put, List.setIfInBounds_toArray, List.set_cons_zero, List.set_cons_succ, i64_w, i32_w]
  rfl
 refine pure_ (i := 8) (N := some 7) (v := ?_) (a' := ?_) #[true, true, true, true, true, true, true, true, true, false] rfl rfl (by kernel_rfl) (fun _ _ _ h => h) (Or.inl ⟨by rfl, ?_⟩) ?_ ?_
 rotate_left
 ·intro w'
  go_simp
  with_reducible rfl
 rotate_left
 ·simp only [Act.put, List.setIfInBounds_toArray, List.set_cons_zero, List.set_cons_succ, i64_w, i32_w]
  rfl
 refine pure_ (i := 9) (N := some 8) (v := ?_) (a' := ?_) #[true, true, true, true, true, true, true, true, true, true] rfl rfl (by kernel_rfl) (fun _ _ _ h => h) (Or.inl ⟨by rfl, ?_⟩) ?_ ?_
 rotate_left
 ·intro w'
  go_simp
  with_reducible rfl
 rotate_left
 ·simp only [Act.put, List.setIfInBounds_toArray, List.set_cons_zero, List.set_cons_succ, i64_w, i32_w]
  rfl
 refine done_ (by kernel_rfl) ?_

 have hw6 := step2 hw4d (step2 (Step.of_below (S := fun _ => False) hb5) hs6)
 have k6 := (step2 (Step.of_below (S := fun _ => False) hb5) hs6).block k4d (fun h => h)
 have hD6 := hD5.step hs6 (fun _ _ h => h)
 clear hHeld y0 y1 y2 y3
 go_wp2
 have hT6 : TabAt w6.drew := hT.step (step2 hw6 (step_drew w6)) (fun h => h)
 have hD6d : DevAt w6.drew i X F1 [] false (-1) 2 := hD6.step (step_drew w6) (fun _ _ h => h)
 have k6d := (step_drew w6).block k6 (fun h => h)
 have hw6d := step2 hw6 (step_drew w6)
 have y0 : w6.drew.cell? ⟨w.heap.size, 0, none⟩ = some (.int .i64 1) := by rw [Lib.cell_of_heap k6d]; rfl
 have y1 : w6.drew.cell? ⟨w.heap.size, 1, none⟩ = some (.int .i64 1) := by rw [Lib.cell_of_heap k6d]; rfl
 have y2 : w6.drew.cell? ⟨w.heap.size, 2, none⟩ = some (.int .i64 0) := by rw [Lib.cell_of_heap k6d]; rfl
 have y3 : w6.drew.cell? ⟨w.heap.size, 3, none⟩ = some (.int .i64 4) := by rw [Lib.cell_of_heap k6d]; rfl
 refine start_ (n := 11) (S := fun w' => w'.cell? ⟨w.heap.size, 0, none⟩ = some (.int .i64 1) ∧ w'.cell? ⟨w.heap.size, 1, none⟩ = some (.int .i64 1) ∧ w'.cell? ⟨w.heap.size, 2, none⟩ = some (.int .i64 0) ∧ w'.cell? ⟨w.heap.size, 3, none⟩ = some (.int .i64 4)) (ds := []) #[false, false, false, false, false, false, false, false, false, false, false] (by kernel_rfl) rfl rfl ⟨y0, y1, y2, y3⟩ (fun hHeld => ?_)
 refine pure_ (i := 0) (N := some 50) (v := ?_) (a' := ?_) #[true, false, false, false, false, false, false, false, false, false, false] rfl rfl (by kernel_rfl) (fun _ _ _ h => h) (Or.inl ⟨by rfl, ?_⟩) ?_ ?_
 rotate_left
 ·intro w'
  go_simp
  with_reducible rfl
 rotate_left
 ·simp only [Act.put, List.setIfInBounds_toArray, List.set_cons_zero, List.set_cons_succ, i64_w, i32_w]
  rfl
 refine pure_ (i := 2) (N := some 52) (v := ?_) (a' := ?_) #[true, false, true, false, false, false, false, false, false, false, false] rfl rfl (by kernel_rfl) (fun _ _ _ h => h) (Or.inl ⟨by rfl, ?_⟩) ?_ ?_
 rotate_left
 ·intro w'
  go_simp
  with_reducible rfl
 rotate_left
 ·simp only [Act.put, List.setIfInBounds_toArray, List.set_cons_zero, List.set_cons_succ, i64_w, i32_w]
  rfl
 refine take_ (i := 1) (N := some 51) (v := ?_) (a' := ?_) #[true, true, true, false, false, false, false, false, false, false, false] rfl rfl (by kernel_rfl) (fun _ _ _ h => h) (Or.inl ⟨by rfl, ?_⟩) hHeld ?_ ?_
 rotate_left
 ·rintro w' ⟨s0, s1, s2, s3⟩
  go_simp
  with_reducible rfl
 rotate_left
 ·simp only [Act.put, List.setIfInBounds_toArray, List.set_cons_zero, List.set_cons_succ, i64_w, i32_w]
  rfl
 refine one_ (i := 3) (N := some 53) #[true, true, true, true, false, false, false, false, false, false, false] rfl rfl (by kernel_rfl) (by decide) (fun K hK => ?_)
 refine goes_ Tryd.func12 (by kernel_rfl) rfl #[.string S] (by rfl) rfl rfl (by simp only [List.map_toArray, List.map_cons, List.map_nil]; rfl) ?_
 with_reducible refine (hSum _ hT6).mono ?_
 rintro e w7 ⟨rfl, hb7⟩
 refine ⟨_, rfl, ?_⟩
 have hT7 := hT6.below hb7
 have hD7 := hD6d.bel hb7
 refine hK.out _ _ ⟨pw_cell_below hb7 hHeld.1, pw_cell_below hb7 hHeld.2.1, pw_cell_below hb7 hHeld.2.2.1, pw_cell_below hb7 hHeld.2.2.2⟩ (fun hHeld => ?_)
 clear hK K
 refine norm_ (a' := ?_) ?_ ?_
 rotate_left
 ·show Act.put _ (some 53) _ = _
  simp only [Act.put, List.setIfInBounds_toArray, List.set_cons_zero, List.set_cons_succ, i64_w, i32_w]
  rfl
 refine pure_ (i := 4) (N := some 54) (v := ?_) (a' := ?_) #[true, true, true, true, true, false, false, false, false, false, false] rfl rfl (by kernel_rfl) (fun _ _ _ h => h) (Or.inl ⟨by rfl, ?_⟩) ?_ ?_
 rotate_left
 ·intro w'
  go_simp
  with_reducible rfl
 rotate_left
 ·simp only [Act.put, List.setIfInBounds_toArray, List.set_cons_zero, List.set_cons_succ, i64_w, i32_w]
  rfl
 refine one_ (i := 5) (N := some 55) #[true, true, true, true, true, true, false, false, false, false, false] rfl rfl (by kernel_rfl) (by decide) (fun K hK => ?_)
 refine goes_ Tryd.func11 (by kernel_rfl) rfl #[.pointer (some ⟨i.d, 0, none⟩), .agg #[.int .i64 1, .int .i64 1, .int .i64 0, .int .i64 4], .int .i64 2, .int .u32 ((sumC S + 1) % 4294967296)] (by rfl) rfl rfl (by simp only [List.map_toArray, List.map_cons, List.map_nil]; rfl) ?_
 with_reducible refine (hRd2 _ i hT7 hD7).mono ?_
 rintro e w8 ⟨rfl, hs8⟩
 refine ⟨_, rfl, ?_⟩
 refine hK.out _ _ ⟨hs8.cell hHeld.1 (fun h => h), hs8.cell hHeld.2.1 (fun h => h), hs8.cell hHeld.2.2.1 (fun h => h), hs8.cell hHeld.2.2.2 (fun h => h)⟩ (fun hHeld => ?_)
 clear hK K
 refine norm_ (a' := ?_) ?_ ?_
 rotate_left
 ·show Act.put _ (some 55) _ = _
  simp only [Act.put, List.setIfInBounds_toArray, List.set_cons_zero, List.set_cons_succ, i64_w, i32_w]
  rfl
 refine pure_ (i := 6) (N := some 49) (v := ?_) (a' := ?_) #[true, true, true, true, true, true, true, false, false, false, false] rfl rfl (by kernel_rfl) (fun _ _ _ h => h) (Or.inl ⟨by rfl, ?_⟩) ?_ ?_
 rotate_left
 ·intro w'
  go_simp
  with_reducible rfl
 rotate_left
 ·simp only [Act.put, List.setIfInBounds_toArray, List.set_cons_zero, List.set_cons_succ, i64_w, i32_w]
  rfl
 refine pure_ (i := 7) (N := some 56) (v := ?_) (a' := ?_) #[true, true, true, true, true, true, true, true, false, false, false] rfl rfl (by kernel_rfl) (fun _ _ _ h => h) (Or.inl ⟨by rfl, ?_⟩) ?_ ?_
 rotate_left
 ·intro w'
  go_simp
  with_reducible rfl
 rotate_left
 ·simp only [Act.put, List.setIfInBounds_toArray, List.set_cons_zero, List.set_cons_succ, i64_w, i32_w]
  rfl
 refine pure_ (i := 8) (N := some 57) (v := ?_) (a' := ?_) #[true, true, true, true, true, true, true, true, true, false, false] rfl rfl (by kernel_rfl) (fun _ _ _ h => h) (Or.inl ⟨by rfl, ?_⟩) ?_ ?_
 rotate_left
 ·intro w'
  go_simp
  with_reducible rfl
 rotate_left
 ·simp only [Act.put, List.setIfInBounds_toArray, List.set_cons_zero, List.set_cons_succ, i64_w, i32_w]
  rfl
 refine pure_ (i := 9) (N := some 9) (v := ?_) (a' := ?_) #[true, true, true, true, true, true, true, true, true, true, false] rfl rfl (by kernel_rfl) (fun _ _ _ h => h) (Or.inl ⟨by rfl, ?_⟩) ?_ ?_
 rotate_left
 ·intro w'
  go_simp
  with_reducible rfl
 rotate_left
 ·simp only [Act.put, List.setIfInBounds_toArray, List.set_cons_zero, List.set_cons_succ, i64_w, i32_w]
  rfl
 refine pure_ (i := 10) (N := some 10) (v := ?_) (a' := ?_) #[true, true, true, true, true, true, true, true, true, true, true] rfl rfl (by kernel_rfl) (fun _ _ _ h => h) (Or.inl ⟨by rfl, ?_⟩) ?_ ?_
 rotate_left
 ·intro w'
  go_simp
  with_reducible rfl
 rotate_left
 ·simp only [Act.put, List.setIfInBounds_toArray, List.set_cons_zero, List.set_cons_succ, i64_w, i32_w]
  rfl
 refine done_ (by kernel_rfl) ?_

 have hw8 := step2 hw6d (step2 (Step.of_below (S := fun _ => False) hb7) hs8)
 have k8 := (step2 (Step.of_below (S := fun _ => False) hb7) hs8).block k6d (fun h => h)
 have hD8 := hD7.step hs8 (fun _ _ h => h)
 clear hHeld y0 y1 y2 y3
 have c0 : w8.cell? ⟨w.heap.size, 0, none⟩ = some (.int .i64 1) := by rw [Lib.cell_of_heap k8]; rfl
 have c1 : w8.cell? ⟨w.heap.size, 1, none⟩ = some (.int .i64 1) := by rw [Lib.cell_of_heap k8]; rfl
 have c2 : w8.cell? ⟨w.heap.size, 2, none⟩ = some (.int .i64 0) := by rw [Lib.cell_of_heap k8]; rfl
 have c3 : w8.cell? ⟨w.heap.size, 3, none⟩ = some (.int .i64 4) := by rw [Lib.cell_of_heap k8]; rfl
 have hS3' : (Instr.slice 9 (.string S) none (some (.int .i64 3)) none).run Tryd.prog = fun w => .ok (.string ⟨#[97, 98, 99]⟩) w := by
  funext w
  have := run_slice_string_h (P := Tryd.prog) w 9 S Tryd.underlying9 .i64 3 (by decide) (by omega)
  rw [show (3 : Int).toNat = 3 from rfl, hS3] at this
  exact this
 go_wp2_with (first
  | (go_at_call 9; with_reducible refine (hRaw _ i).mono ?_; rintro e w9 ⟨rfl, hs9⟩; have k9 := hs9.block k8 (fun h => h); have hD9 := hD8.step hs9 (fun _ _ h => h); have hw9 := step2 hw8 hs9; have n0 := hs9.cell c0 (fun h => h); have n1 := hs9.cell c1 (fun h => h); have n2 := hs9.cell c2 (fun h => h); have n3 := hs9.cell c3 (fun h => h))
  | (go_at_call 10; with_reducible refine (hWf _ i hD9).mono ?_; rintro e wa ⟨rfl, hsa⟩; have hDa := hD9.step hsa (fun _ _ h => h); have hwa := step2 hw9 hsa; have p0 := hsa.cell n0 (fun h => h); have p1 := hsa.cell n1 (fun h => h); have p2 := hsa.cell n2 (fun h => h); have p3 := hsa.cell n3 (fun h => h))
  | (go_at_call 8; with_reducible refine (hFill2 _).mono ?_; rintro e wb ⟨rfl, hbb⟩; have hDb := hDa.bel hbb; have hwb := step2 hwa (Step.of_below (S := fun _ => False) hbb))
  | (go_at_call 16; with_reducible refine (dev_Writes_any _ i _ _ _ _ _ _ hDb).mono ?_; rintro e wc ⟨rfl, rfl⟩))
 go_ret
 exact ⟨rfl, hwb⟩
end

end Go.Proofs.YtpbkcdodpjpoeaaDoor.HCP
