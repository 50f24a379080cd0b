/- WRITTEN BY wip/hyb.py, a program of this workplace (out of the kit's printer and this workplace's own contracts). -/
import Derived.Test.YtpbkcdodpjpoeaaDoorGCPx0
import Derived.Test.YtpbkcdodpjpoeaaDoorGCPx2
import Derived.Test.YtpbkcdodpjpoeaaDoorGCPx6
namespace Go.Proofs.YtpbkcdodpjpoeaaDoor.HCP
open Go.RowKit Go.Proofs.YtpbkcdodpjpoeaaDoorW.PrintWords Go.Proofs.YtpbkcdodpjpoeaaDoorW.PrintLast Go.Proofs.YtpbkcdodpjpoeaaDoorW.PrintMore
attribute [local go_sem] max2_int min2_int max_two min_two max_three min_three max_four min_four   -- for this text's walks alone
set_option linter.unusedVariables false
set_option linter.unusedSimpArgs false

section
open Go Go.Shelf Go.Maps Go.Proofs.YtpbkcdodpjpoeaaDoor.Seq Go.Proofs.YtpbkcdodpjpoeaaDoor.MapL Go.Proofs.YtpbkcdodpjpoeaaDoorW.PrintLast
attribute [local go_sem] Oper.semAt_some max2_int min2_int max_two min_two
structure WrS where
 F : FL
 off : Bool
 fuse : Int
 nw : Int
 e : Int
def wr1 (n : Nat) (f0 : Int) (s : ByteArray) (k : Nat) (r : WrS) : WrS :=
 let q := writeP n r.F r.off r.fuse r.nw (f0 + (k : Int)) (s.extract (512 * k) (512 * k + 512))
 ⟨q.1, q.2.1, q.2.2.1, q.2.2.2.1, q.2.2.2.2⟩
def wrK (n : Nat) (f0 : Int) (s : ByteArray) (r : WrS) : Nat → WrS
 | 0 => r
 | k + 1 => if (wrK n f0 s r k).e = 0 then wr1 n f0 s k (wrK n f0 s r k) else wrK n f0 s r k
theorem wrK_stop {n : Nat} {f0 : Int} {s : ByteArray} {r : WrS} {k : Nat} (h : (wrK n f0 s r k).e ≠ 0) : ∀ m, k ≤ m → wrK n f0 s r m = wrK n f0 s r k := by
 intro m hm
 induction m with
 | zero =>
  have : k = 0 := by omega
  rw [this]
 | succ m ih =>
  by_cases e : k = m + 1
  ·rw [e]
  ·rw [wrK, ih (by omega), if_neg h]
set_option maxRecDepth 100000 in
set_option maxHeartbeats 4000000 in
theorem cluster_Write_gen (w : World) (i : DevIds) (xs : List ByteArray) (F : FL) (B : BL) (off : Bool) (fuse nw : Int) (sh gk gm C at_ : Int) (s : ByteArray) (h : DevAt w i xs F B off fuse nw) (hg : GeoOk sh gk gm C) (ha : 0 ≤ at_) (hb : at_ < C) (hs : s.size = 512 * nS sh) (R : WrS) (hR : R = wrK xs.length (at_ * (nS sh : Int)) s ⟨F, off, fuse, nw, 0⟩ (nS sh)) :
  Calls Tryd.prog 10 #[.pointer (some ⟨i.d, 0, none⟩), geoV sh gk gm C, .int .i64 at_, .string s] w fun e w' => e = .returned (.int .i64 R.e) ∧ DevAt w' i xs R.F B R.off R.fuse R.nw ∧ Step i.In w w' := by
 unfold geoV
 have hu23 := Tryd.underlying23
 have hF : firstP sh gk gm C at_ = (at_ * (nS sh : Int), 0) := by rw [firstP, if_pos hg, if_pos ⟨ha, hb⟩]
 have hS : sizeP sh gk gm C = 512 * (nS sh : Int) := if_pos hg
 refine (callsIn_wide (n := 4)).1 ?_
 refine callsIn_of_wp_marks Tryd.func10 rfl trivial ?_ rfl
 simp only [Tryd.ntmps10, List.size_toArray, List.length_cons, List.length_nil, Nat.reduceAdd, Nat.reduceSub, Array.replicate_succ, Array.replicate_zero, List.push_toArray, List.append_toArray, List.nil_append, List.cons_append]
 obtain ⟨W0, hW0, hs0, hz0, k0, k1, k2, k3⟩ := four w #[.pointer (some ⟨i.d, 0, none⟩)] #[.int .i64 sh, .int .i64 gk, .int .i64 gm, .int .i64 C] #[.string s] #[.int .i64 0] 27 23 9 28
 gi_wp2
 refine ⟨trivial, ?_⟩
 gi_at_call 23
 refine (callsIn_wide.2 (geom_First_any sh gk gm C at_ _)).mono ?_
 rintro e w1 ⟨rfl, hb1⟩
 rw [hF]
 dsimp only
 rw [← hW0] at hb1
 have hs1 := step2 hs0 (Step.of_below (S := fun _ => False) hb1)
 have q0 := (Step.of_below (S := fun _ => False) hb1).block k0 (fun h => h)
 have q1 := (Step.of_below (S := fun _ => False) hb1).block k1 (fun h => h)
 have q2 := (Step.of_below (S := fun _ => False) hb1).block k2 (fun h => h)
 have q3 := (Step.of_below (S := fun _ => False) hb1).block k3 (fun h => h)
 have hz1 := hb1.size
 rw [hz0] at hz1
 clear hW0 hb1 k0 k1 k2 k3 hs0 hz0
 obtain ⟨b, hbe⟩ : ∃ b, b = w.heap.size := ⟨_, rfl⟩
 have hD1 := h.step hs1 (fun _ _ h => h)
 have hlt := h.lt
 have hbw : w.heap.size ≤ b := by omega
 rw [← hbe] at q0 q1 q2 q3 hz1 hlt ⊢
 clear hbe
 have hn1 := nS_pos sh
 have hn2 := nS_le hg.2.1
 have hln := h.ok.2.1
 have hf1 : 0 ≤ at_ * (nS sh : Int) := Int.mul_nonneg ha (Int.natCast_nonneg _)
 have hf3 : at_ * (nS sh : Int) ≤ 524288 := by
  have h1 := Int.mul_le_mul_of_nonneg_right (show at_ ≤ 4096 by have := hg.2.2.2.2.2.2.2.1; omega) (Int.natCast_nonneg (nS sh))
  have h2 := Int.mul_le_mul_of_nonneg_left (show (nS sh : Int) ≤ 128 by omega) (show (0 : Int) ≤ 4096 by omega)
  omega
 generalize hf0 : at_ * (nS sh : Int) = f0 at *
 gi_wp2
 have hs2 := Step.alloc (fun _ => False) w1 (.cells #[.int .i64 f0] 3)
 have r0 := hs2.block q0 (fun h => h)
 have r1 := hs2.block q1 (fun h => h)
 have r2 := hs2.block q2 (fun h => h)
 have r3 := hs2.block q3 (fun h => h)
 have r4 := World.alloc_heap_new w1 (.cells #[.int .i64 f0] 3)
 have hD2 := hD1.step hs2 (fun _ _ h => h)
 have hs2' := step2 hs1 hs2
 have hz2 : (w1.alloc (.cells #[.int .i64 f0] 3)).heap.size = w1.heap.size + 1 := by simp
 obtain ⟨p, hpe⟩ : ∃ p, p = w1.heap.size := ⟨_, rfl⟩
 rw [← hpe] at r4 hz1 hz2 ⊢
 generalize w1.alloc (.cells #[.int .i64 f0] 3) = W at *
 clear q0 q1 q2 q3 hs1 hs2 hD1 hpe
 have y2 : W.drew.cell? ⟨b + 1 + 1, 0, none⟩ = some (.string s) := by show W.cell? _ = _; rw [Lib.cell_of_heap r2]; rfl
 have y10 : W.drew.cell? ⟨b + 1, 0, none⟩ = some (.int .i64 sh) := by show W.cell? _ = _; rw [Lib.cell_of_heap r1]; rfl
 have y11 : W.drew.cell? ⟨b + 1, 1, none⟩ = some (.int .i64 gk) := by show W.cell? _ = _; rw [Lib.cell_of_heap r1]; rfl
 have y12 : W.drew.cell? ⟨b + 1, 2, none⟩ = some (.int .i64 gm) := by show W.cell? _ = _; rw [Lib.cell_of_heap r1]; rfl
 have y13 : W.drew.cell? ⟨b + 1, 3, none⟩ = some (.int .i64 C) := by show W.cell? _ = _; rw [Lib.cell_of_heap r1]; rfl
 have hSize : ∀ w, Calls Tryd.prog 22 #[.agg #[.int .i64 sh, .int .i64 gk, .int .i64 gm, .int .i64 C]] w fun e w' => e = .returned (.int .i64 (512 * (nS sh : Int))) ∧ Below w.heap.size w w' := by
  intro w
  have := geom_Size_any sh gk gm C w
  rwa [hS] at this
 have hne : ((s.size : Int) != 512 * (nS sh : Int)) = false := by rw [hs]; simp
 refine region_only ?_
 refine start_ (n := 6) (S := fun w' => w'.cell? ⟨b + 1 + 1, 0, none⟩ = some (.string s) ∧ w'.cell? ⟨b + 1, 0, none⟩ = some (.int .i64 sh) ∧ w'.cell? ⟨b + 1, 1, none⟩ = some (.int .i64 gk) ∧ w'.cell? ⟨b + 1, 2, none⟩ = some (.int .i64 gm) ∧ w'.cell? ⟨b + 1, 3, none⟩ = some (.int .i64 C)) (ds := []) #[false, false, false, false, false, false] (by kernel_rfl) rfl rfl ⟨y2, y10, y11, y12, y13⟩ (fun hHeld => ?_)
 refine take_ (i := 0) (N := some 25) (v := ?_) (a' := ?_) #[true, false, false, false, false, false] rfl rfl (by kernel_rfl) (fun _ _ _ h => h) (Or.inl ⟨by rfl, ?_⟩) hHeld ?_ ?_
 rotate_left
 ·rintro w' ⟨s0, s1, s2, s3, s4⟩
  go_simp
  with_reducible rfl
 rotate_left
 ·simp only [Act.put, List.setIfInBounds_toArray, List.set_cons_zero, List.set_cons_succ, i64_w, i32_w]
  rfl
 refine pure_ (i := 1) (N := some 26) (v := ?_) (a' := ?_) #[true, true, false, false, false, false] rfl rfl (by kernel_rfl) (fun _ _ _ h => h) (Or.inl ⟨by rfl, ?_⟩) ?_ ?_
 rotate_left
 ·intro w'
  go_simp
  with_reducible rfl
 rotate_left
 ·simp only [Act.put, List.setIfInBounds_toArray, List.set_cons_zero, List.set_cons_succ, i64_w, i32_w]
  rfl
 refine take_ (i := 2) (N := some 27) (v := ?_) (a' := ?_) #[true, true, true, false, false, false] rfl rfl (by kernel_rfl) (fun _ _ _ h => h) (Or.inl ⟨by rfl, ?_⟩) hHeld ?_ ?_
 rotate_left
 ·rintro w' ⟨s0, s1, s2, s3, s4⟩
  go_simp
  with_reducible rfl
 rotate_left
 ·simp only [Act.put, List.setIfInBounds_toArray, List.set_cons_zero, List.set_cons_succ, i64_w, i32_w]
  rfl
 refine one_ (i := 3) (N := some 28) #[true, true, true, true, false, false] rfl rfl (by kernel_rfl) (by decide) (fun K hK => ?_)
 refine goes_ Tryd.func22 (by kernel_rfl) rfl #[.agg #[.int .i64 sh, .int .i64 gk, .int .i64 gm, .int .i64 C]] (by rfl) rfl rfl (by simp only [List.map_toArray, List.map_cons, List.map_nil]; rfl) ?_
 with_reducible refine (hSize _).mono ?_
 rintro e w3 ⟨rfl, hb3⟩
 refine ⟨_, rfl, ?_⟩
 refine hK.out _ _ ⟨pw_cell_below hb3 hHeld.1, pw_cell_below hb3 hHeld.2.1, pw_cell_below hb3 hHeld.2.2.1, pw_cell_below hb3 hHeld.2.2.2.1, pw_cell_below hb3 hHeld.2.2.2.2⟩ (fun hHeld => ?_)
 clear hK K
 refine norm_ (a' := ?_) ?_ ?_
 rotate_left
 ·show Act.put _ (some 28) _ = _
  simp only [Act.put, List.setIfInBounds_toArray, List.set_cons_zero, List.set_cons_succ, i64_w, i32_w]
  rfl
 refine pure_ (i := 4) (N := some 29) (v := ?_) (a' := ?_) #[true, true, true, true, true, false] rfl rfl (by kernel_rfl) (fun _ _ _ h => h) (Or.inl ⟨by rfl, ?_⟩) ?_ ?_
 rotate_left
 ·intro w'
  go_simp
  with_reducible rfl
 rotate_left
 ·simp only [Act.put, List.setIfInBounds_toArray, List.set_cons_zero, List.set_cons_succ, i64_w, i32_w]
  rfl
 refine pure_ (i := 5) (N := some 24) (v := ?_) (a' := ?_) #[true, true, true, true, true, true] rfl rfl (by kernel_rfl) (fun _ _ _ h => h) (Or.inl ⟨by rfl, ?_⟩) ?_ ?_
 rotate_left
 ·intro w'
  go_simp
  with_reducible rfl
 rotate_left
 ·simp only [Act.put, List.setIfInBounds_toArray, List.set_cons_zero, List.set_cons_succ, i64_w, i32_w]
  rfl
 refine done_ (by kernel_rfl) ?_

 dsimp only [onlyN]
 gi_wp2
 have hsW : Step (fun _ => False) W w3 := step2 ⟨pw_below_drewN (Below.refl _ _) 1, fun _ _ _ => rfl⟩ (Step.of_below hb3)
 refine ⟨trivial, ?_⟩
 gi_at_call 24
 refine (callsIn_wide.2 (cluster_parts_any sh gk gm C _)).mono ?_
 rintro e w4 ⟨rfl, rfl⟩
 have hs3 := step2 hsW (Step.alloc (fun _ => False) w3 (.cells #[.int .i64 sh, .int .i64 gk, .int .i64 gm, .int .i64 C] 23))
 have hgeo : GeoAt (w3.alloc (.cells #[.int .i64 sh, .int .i64 gk, .int .i64 gm, .int .i64 C] 23)) w3.heap.size sh gk gm C := World.alloc_heap_new w3 _
 have u0 := hs3.block r0 (fun h => h)
 have u2 := hs3.block r2 (fun h => h)
 have u3 := hs3.block r3 (fun h => h)
 have u4 := hs3.block r4 (fun h => h)
 have hD3 := hD2.step hs3 (fun _ _ h => h)
 have hs4 := step2 hs2' hs3
 have hz3 := hsW.size
 have hz4 : (w3.alloc (.cells #[.int .i64 sh, .int .i64 gk, .int .i64 gm, .int .i64 C] 23)).heap.size = w3.heap.size + 1 := by simp
 gi_wp2
 obtain ⟨G, hG⟩ : ∃ G, G = w3.heap.size := ⟨_, rfl⟩
 rw [← hG] at hgeo hz4 hz3 ⊢
 generalize w3.alloc (.cells #[.int .i64 sh, .int .i64 gk, .int .i64 gm, .int .i64 C] 23) = V at *
 clear hG
 refine wpIn_rangeFunc_O (gf := 49) (lb := #[.pointer (some ⟨G, 0, none⟩)]) rfl (enters_of Tryd.func49 (by kernel_rfl) rfl) (parts_seq V G sh gk gm C hg hgeo) (fun r hr => by omega) (fun _ => rfl)
  (fun O pre Wc => (∀ k, O k ↔ i.In k ∨ k = b + 1 + 1 + 1) ∧ (wrK xs.length f0 s ⟨F, off, fuse, nw, 0⟩ pre.length).e = 0 ∧ DevAt Wc i xs (wrK xs.length f0 s ⟨F, off, fuse, nw, 0⟩ pre.length).F B (wrK xs.length f0 s ⟨F, off, fuse, nw, 0⟩ pre.length).off (wrK xs.length f0 s ⟨F, off, fuse, nw, 0⟩ pre.length).fuse (wrK xs.length f0 s ⟨F, off, fuse, nw, 0⟩ pre.length).nw ∧ Wc.heap[b]? = some (.cells #[.pointer (some ⟨i.d, 0, none⟩)] 27 (0, 0)) ∧ Wc.heap[b + 1 + 1]? = some (.cells #[.string s] 9 (0, 0)) ∧ Wc.heap[b + 1 + 1 + 1]? = some (.cells #[.int .i64 0] 28 (0, 0)) ∧ Wc.heap[p]? = some (.cells #[.int .i64 f0] 3 (0, 0)) ∧ Step i.In w Wc)
  (fun c O pre Wc => c = .ret ∧ (∀ k, O k ↔ i.In k ∨ k = b + 1 + 1 + 1) ∧ (wrK xs.length f0 s ⟨F, off, fuse, nw, 0⟩ pre.length).e ≠ 0 ∧ pre.length ≤ nS sh ∧ DevAt Wc i xs (wrK xs.length f0 s ⟨F, off, fuse, nw, 0⟩ pre.length).F B (wrK xs.length f0 s ⟨F, off, fuse, nw, 0⟩ pre.length).off (wrK xs.length f0 s ⟨F, off, fuse, nw, 0⟩ pre.length).fuse (wrK xs.length f0 s ⟨F, off, fuse, nw, 0⟩ pre.length).nw ∧ Wc.heap[b + 1 + 1 + 1]? = some (.cells #[.int .i64 (wrK xs.length f0 s ⟨F, off, fuse, nw, 0⟩ pre.length).e] 28 (0, 0)) ∧ Step i.In w Wc)
  ⟨?lt, ?step⟩ (fun _ => ⟨?ltx, ?stepx⟩) (fun k => i.In k ∨ k = b + 1 + 1 + 1) (fun k hk hz => by rcases hk with hk | hk; have := hlt k hk; omega; omega) ⟨fun _ => Iff.rfl, rfl, hD3, u0, u2, u3, u4, hs4.mono (fun _ h => h.elim)⟩ ?round ?done ?stop
 case lt =>
  rintro O pre Wc ⟨h1, _, h2, _, _, h5, _⟩ k hk
  rcases (h1 k).1 hk with hk | rfl
  ·exact h2.lt k hk
  ·exact blk_lt h5
 case ltx =>
  rintro O pre Wc ⟨_, h1, _, _, h2, h5, _⟩ k hk
  rcases (h1 k).1 hk with hk | rfl
  ·exact h2.lt k hk
  ·exact blk_lt h5
 case stepx =>
  rintro O pre Wc W' S ⟨h0, h1, he, hl, h2, h5, h7⟩ hS hs
  have hno : ∀ k, k < V.heap.size → ¬ S k := fun k hk h => (hs k h).2.elim (fun h => h) (fun h => by omega)
  exact ⟨h0, h1, he, hl, h2.step hS (fun k hk h => (hs k h).1 ((h1 k).2 (Or.inl hk))), hS.block h5 (hno _ (by omega)), h7.trans hS (fun _ h => h) (fun k hk => Or.inr ((hs k hk).2.elim (fun h => h.elim) (fun h => by omega)))⟩
 case step =>
  rintro O pre Wc W' S ⟨h1, he, h2, h3, h4, h5, h6, h7⟩ hS hs
  have hno : ∀ k, k < V.heap.size → ¬ S k := fun k hk h => (hs k h).2.elim (fun h => h) (fun h => by omega)
  exact ⟨h1, he, h2.step hS (fun k hk h => (hs k h).1 ((h1 k).2 (Or.inl hk))), hS.block h3 (hno _ (by omega)), hS.block h4 (hno _ (by omega)), hS.block h5 (hno _ (by omega)), hS.block h6 (hno _ (by omega)), h7.trans hS (fun _ h => h) (fun k hk => Or.inr ((hs k hk).2.elim (fun h => h.elim) (fun h => by omega)))⟩
 case round =>
  rintro l O pre x Wc hl hWs - hpre
  obtain ⟨hx1, hx2⟩ := part_pre hpre
  replace hx1 := hx1.symm
  dsimp only [partE]
  gi_wp2
  refine ⟨Step.refl _ _, ?_⟩
  rintro Wb hsb ⟨h1, he, h2, h3, h4, h5, h6, h7⟩
  gi_wp2
  have y0 : Wb.drew.cell? ⟨b, 0, none⟩ = some (.pointer (some ⟨i.d, 0, none⟩)) := by show Wb.cell? _ = _; rw [Lib.cell_of_heap h3]; rfl
  have yp : Wb.drew.cell? ⟨p, 0, none⟩ = some (.int .i64 f0) := by show Wb.cell? _ = _; rw [Lib.cell_of_heap h6]; rfl
  have y2 : Wb.drew.cell? ⟨b + 1 + 1, 0, none⟩ = some (.string s) := by show Wb.cell? _ = _; rw [Lib.cell_of_heap h4]; rfl
  have nb : ¬ i.In b := fun h => by have := hlt b h; omega
  have np : ¬ i.In p := fun h => by have := hlt p h; omega
  have ns : ¬ i.In (b + 1 + 1) := fun h => by have := hlt _ h; omega
  have nr : ¬ i.In (b + 1 + 1 + 1) := fun h => by have := hlt _ h; omega
  rw [hx1] at h2 he
  have hk1 : wrK xs.length f0 s ⟨F, off, fuse, nw, 0⟩ (x + 1) = wr1 xs.length f0 s x (wrK xs.length f0 s ⟨F, off, fuse, nw, 0⟩ x) := by rw [wrK, if_pos he]
  generalize wrK xs.length f0 s ⟨F, off, fuse, nw, 0⟩ x = r at h2 he hk1
  have hDd : DevAt Wb.drew i xs r.F B r.off r.fuse r.nw := h2.step (Z := fun _ => False) ⟨pw_below_drewN (Below.refl _ _) 1, fun _ _ _ => rfl⟩ (fun _ _ h => h)
  have hxI : (x : Int) < (nS sh : Int) := by omega
  have hWr : Calls Tryd.prog 26 #[.pointer (some ⟨i.d, 0, none⟩), .int .i64 (wrap64 (f0 + (x : Int))), .string (s.extract (512 * x) (512 * x + 512))] Wb.drew fun e w' => e = .returned (.int .i64 (wr1 xs.length f0 s x r).e) ∧ DevAt w' i xs (wr1 xs.length f0 s x r).F B (wr1 xs.length f0 s x r).off (wr1 xs.length f0 s x r).fuse (wr1 xs.length f0 s x r).nw ∧ Step i.In Wb.drew w' := by
   rw [wrap64_id (by omega) (by omega)]
   exact dev_Write_any Wb.drew i xs r.F B r.off r.fuse r.nw (f0 + (x : Int)) (s.extract (512 * x) (512 * x + 512)) hDd
  generalize wr1 xs.length f0 s x r = r1 at hk1 hWr
  have hsl : ∀ w' : World, (Instr.slice 9 (.string s) (some (.int .i64 ((x : Int) * 512))) (some (.int .i64 (wrap64 ((x : Int) * 512 + 512)))) none).run Tryd.prog w' = .ok (.string (s.extract (512 * x) (512 * x + 512))) w' := by
   intro w'
   have e1 : (((x : Int) * 512).toNat) = 512 * x := by omega
   have e2 : (((x : Int) * 512 + 512).toNat) = 512 * x + 512 := by omega
   rw [wrap64_id (by omega) (by omega)]
   have := run_slice_lh w' s ((x : Int) * 512) ((x : Int) * 512 + 512) (by omega) (by omega) (by omega)
   rw [e1, e2] at this
   exact this
  refine startIn_ (n := 11) (S := fun w' => w'.cell? ⟨b, 0, none⟩ = some (.pointer (some ⟨i.d, 0, none⟩)) ∧ w'.cell? ⟨p, 0, none⟩ = some (.int .i64 f0) ∧ w'.cell? ⟨b + 1 + 1, 0, none⟩ = some (.string s)) (ds := []) (by rintro ⟨_, _, h⟩; exact h) (by kernel_rfl) #[false, false, false, false, false, false, false, false, false, false, false] (by kernel_rfl) rfl rfl ⟨y0, yp, y2⟩ (fun hHeld => ?_)
  refine pure_ (i := 2) (N := some 36) (v := ?_) (a' := ?_) #[false, false, true, false, false, false, false, false, false, false, false] rfl rfl (by kernel_rfl) (fun _ _ _ h => h) (Or.inl ⟨by rfl, ?_⟩) ?_ ?_
  rotate_left
  ·intro w'
   go_simp
   with_reducible rfl
  rotate_left
  ·simp only [Act.put, List.setIfInBounds_toArray, List.set_cons_zero, List.set_cons_succ, i64_w, i32_w]
   rfl
  refine pure_ (i := 5) (N := some 39) (v := ?_) (a' := ?_) #[false, false, true, false, false, true, false, false, false, false, false] rfl rfl (by kernel_rfl) (fun _ _ _ h => h) (Or.inl ⟨by rfl, ?_⟩) ?_ ?_
  rotate_left
  ·intro w'
   go_simp
   with_reducible rfl
  rotate_left
  ·simp only [Act.put, List.setIfInBounds_toArray, List.set_cons_zero, List.set_cons_succ, i64_w, i32_w]
   rfl
  refine pure_ (i := 6) (N := some 40) (v := ?_) (a' := ?_) #[false, false, true, false, false, true, true, false, false, false, false] rfl rfl (by kernel_rfl) (fun _ _ _ h => h) (Or.inl ⟨by rfl, ?_⟩) ?_ ?_
  rotate_left
  ·intro w'
   go_simp
   with_reducible rfl
  rotate_left
  ·simp only [Act.put, List.setIfInBounds_toArray, List.set_cons_zero, List.set_cons_succ, i64_w, i32_w]
   rfl
  refine pure_ (i := 7) (N := some 41) (v := ?_) (a' := ?_) #[false, false, true, false, false, true, true, true, false, false, false] rfl rfl (by kernel_rfl) (fun _ _ _ h => h) (Or.inl ⟨by rfl, ?_⟩) ?_ ?_
  rotate_left
  ·intro w'
   go_simp
   with_reducible rfl
  rotate_left
  ·simp only [Act.put, List.setIfInBounds_toArray, List.set_cons_zero, List.set_cons_succ, i64_w, i32_w]
   rfl
  refine take_ (i := 0) (N := some 34) (v := ?_) (a' := ?_) #[true, false, true, false, false, true, true, true, false, false, false] rfl rfl (by kernel_rfl) (fun _ _ _ h => h) (Or.inl ⟨by rfl, ?_⟩) hHeld ?_ ?_
  rotate_left
  ·rintro w' ⟨s0, s1, s2⟩
   go_simp
   with_reducible rfl
  rotate_left
  ·simp only [Act.put, List.setIfInBounds_toArray, List.set_cons_zero, List.set_cons_succ, i64_w, i32_w]
   rfl
  refine take_ (i := 1) (N := some 35) (v := ?_) (a' := ?_) #[true, true, true, false, false, true, true, true, false, false, false] rfl rfl (by kernel_rfl) (fun _ _ _ h => h) (Or.inl ⟨by rfl, ?_⟩) hHeld ?_ ?_
  rotate_left
  ·rintro w' ⟨s0, s1, s2⟩
   go_simp
   with_reducible rfl
  rotate_left
  ·simp only [Act.put, List.setIfInBounds_toArray, List.set_cons_zero, List.set_cons_succ, i64_w, i32_w]
   rfl
  refine pure_ (i := 3) (N := some 37) (v := ?_) (a' := ?_) #[true, true, true, true, false, true, true, true, false, false, false] rfl rfl (by kernel_rfl) (fun _ _ _ h => h) (Or.inl ⟨by rfl, ?_⟩) ?_ ?_
  rotate_left
  ·intro w'
   go_simp
   with_reducible rfl
  rotate_left
  ·simp only [Act.put, List.setIfInBounds_toArray, List.set_cons_zero, List.set_cons_succ, i64_w, i32_w]
   rfl
  refine take_ (i := 4) (N := some 38) (v := ?_) (a' := ?_) #[true, true, true, true, true, true, true, true, false, false, false] rfl rfl (by kernel_rfl) (fun _ _ _ h => h) (Or.inl ⟨by rfl, ?_⟩) hHeld ?_ ?_
  rotate_left
  ·rintro w' ⟨s0, s1, s2⟩
   go_simp
   with_reducible rfl
  rotate_left
  ·simp only [Act.put, List.setIfInBounds_toArray, List.set_cons_zero, List.set_cons_succ, i64_w, i32_w]
   rfl
  refine pure_ (i := 8) (N := some 42) (v := ?_) (a' := ?_) #[true, true, true, true, true, true, true, true, true, false, false] rfl rfl (by kernel_rfl) (fun _ _ _ h => h) (Or.inl ⟨by rfl, ?_⟩) ?_ ?_
  rotate_left
  ·intro w'
   go_simp
   with_reducible rfl
  rotate_left
  ·simp only [Act.put, List.setIfInBounds_toArray, List.set_cons_zero, List.set_cons_succ, i64_w, i32_w]
   rfl
  refine one_ (i := 9) (N := some 43) #[true, true, true, true, true, true, true, true, true, true, false] rfl rfl (by kernel_rfl) (by decide) (fun K hK => ?_)
  refine goes_ Tryd.func26 (by kernel_rfl) rfl #[.pointer (some ⟨i.d, 0, none⟩), .int .i64 (wrap64 (f0 + (x : Int))), .string (s.extract (512 * x) (512 * x + 512))] (by rfl) rfl rfl (by simp only [List.map_toArray, List.map_cons, List.map_nil]; rfl) ?_
  with_reducible refine (hWr).mono ?_
  rintro e w4 ⟨rfl, hD4, hs4⟩
  refine ⟨_, rfl, ?_⟩
  refine hK.out _ _ ⟨hs4.cell hHeld.1 nb, hs4.cell hHeld.2.1 np, hs4.cell hHeld.2.2 ns⟩ (fun hHeld => ?_)
  clear hK K
  refine norm_ (a' := ?_) ?_ ?_
  rotate_left
  ·show Act.put _ (some 43) _ = _
   simp only [Act.put, List.setIfInBounds_toArray, List.set_cons_zero, List.set_cons_succ, i64_w, i32_w]
   rfl
  refine pure_ (i := 10) (N := some 13) (v := ?_) (a' := ?_) #[true, true, true, true, true, true, true, true, true, true, true] rfl rfl (by kernel_rfl) (fun _ _ _ h => h) (Or.inl ⟨by rfl, ?_⟩) ?_ ?_
  rotate_left
  ·intro w'
   go_simp
   with_reducible rfl
  rotate_left
  ·simp only [Act.put, List.setIfInBounds_toArray, List.set_cons_zero, List.set_cons_succ, i64_w, i32_w]
   rfl
  refine done_ (by kernel_rfl) ?_

  have hst : Step i.In Wb w4 := Step.trans (T := i.In) (S := fun _ => False) ⟨pw_below_drewN (Below.refl _ _) 1, fun _ _ _ => rfl⟩ hs4 (fun _ h => h.elim) (fun _ h => Or.inl h)
  have g5 := hst.block h5 nr
  by_cases hz : r1.e = 0
  ·have hzz : (r1.e != 0) = false := by simpa using hz
   gi_wp2
   refine ⟨fun k => i.In k ∨ k = b + 1 + 1 + 1, fun k hk => Or.inl ((h1 k).2 hk), hst.mono (fun k hk => (h1 k).2 (Or.inl hk)), fun _ => Iff.rfl, ?_, ?_, hst.block h3 nb, hst.block h4 ns, g5, hst.block h6 np, h7.trans hst (fun _ h => h) (fun _ h => Or.inl h)⟩
   ·rw [List.length_append, hx1]
    show (wrK xs.length f0 s ⟨F, off, fuse, nw, 0⟩ (x + 1)).e = 0
    rw [hk1]; exact hz
   ·rw [List.length_append, hx1]
    show DevAt w4 i xs (wrK xs.length f0 s ⟨F, off, fuse, nw, 0⟩ (x + 1)).F B (wrK xs.length f0 s ⟨F, off, fuse, nw, 0⟩ (x + 1)).off (wrK xs.length f0 s ⟨F, off, fuse, nw, 0⟩ (x + 1)).fuse (wrK xs.length f0 s ⟨F, off, fuse, nw, 0⟩ (x + 1)).nw
    rw [hk1]; exact hD4
  ·have hzz : (r1.e != 0) = true := by simpa using hz
   have c5 : w4.cell? ⟨b + 1 + 1 + 1, 0, none⟩ = some (.int .i64 0) := by rw [Lib.cell_of_heap g5]; rfl
   have f5 := Lib.frozen_of_heap g5 0
   gi_wp2
   have hsr : Step (fun q => q = b + 1 + 1 + 1) w4 (w4.setCell ⟨b + 1 + 1 + 1, 0, none⟩ (.int .i64 r1.e)) := Step.setCell w4 (p := ⟨b + 1 + 1 + 1, 0, none⟩) (S := fun q => q = b + 1 + 1 + 1) rfl _
   have hbz := hsb.size
   have hzV : b + 1 + 1 + 1 < V.heap.size := by omega
   have hDr := hD4.step hsr (fun k hk e => nr (e ▸ hk))
   have hwb := Step.size h7
   refine ⟨fun k => i.In k ∨ k = b + 1 + 1 + 1, fun k hk => Or.inl ((h1 k).2 hk), hst.trans hsr (fun k hk => (h1 k).2 (Or.inl hk)) (fun k hk => Or.inl ((h1 k).2 (Or.inr hk))), rfl, fun _ => Iff.rfl, ?_, ?_, ?_, ?_, (h7.trans hst (fun _ h => h) (fun _ h => Or.inl h)).trans hsr (fun _ h => h) (fun k hk => Or.inr (by omega))⟩
   ·rw [List.length_append, hx1]
    show (wrK xs.length f0 s ⟨F, off, fuse, nw, 0⟩ (x + 1)).e ≠ 0
    rw [hk1]; exact hz
   ·rw [List.length_append, hx1]
    show x + 1 ≤ nS sh
    omega
   ·rw [List.length_append, hx1]
    show DevAt _ i xs (wrK xs.length f0 s ⟨F, off, fuse, nw, 0⟩ (x + 1)).F B (wrK xs.length f0 s ⟨F, off, fuse, nw, 0⟩ (x + 1)).off (wrK xs.length f0 s ⟨F, off, fuse, nw, 0⟩ (x + 1)).fuse (wrK xs.length f0 s ⟨F, off, fuse, nw, 0⟩ (x + 1)).nw
    rw [hk1]; exact hDr
   ·rw [List.length_append, hx1]
    show _ = some (Obj.cells #[.int .i64 (wrK xs.length f0 s ⟨F, off, fuse, nw, 0⟩ (x + 1)).e] 28 (0, 0))
    rw [hk1]; exact blk_set g5 0 (.int .i64 r1.e)
 case done =>
  rintro D O Wc hD hOD ⟨h1, he, h2, h3, h4, h5, h6, h7⟩ hK
  have hpl : (partL (nS sh)).length = nS sh := by simp [partL]
  rw [hpl] at h2 he
  rw [← hR] at h2 he
  have c5 : Wc.cell? ⟨b + 1 + 1 + 1, 0, none⟩ = some (.int .i64 0) := by rw [Lib.cell_of_heap h5]; rfl
  have f5 := Lib.frozen_of_heap h5 0
  gi_wp2
  have hk5 := blk_set h5 0 (.int .i64 0)
  have nr : ¬ i.In (b + 1 + 1 + 1) := fun h => by have := hlt _ h; omega
  have hsc : Step (fun q => q = b + 1 + 1 + 1) Wc (Wc.setCell ⟨b + 1 + 1 + 1, 0, none⟩ (.int .i64 0)) := Step.setCell Wc (p := ⟨b + 1 + 1 + 1, 0, none⟩) (S := fun q => q = b + 1 + 1 + 1) rfl _
  have hK2 := hsc.block hK (by omega)
  have hD5 := h2.step hsc (fun k hk e => nr (e ▸ hk))
  have h75 := h7.trans hsc (fun _ h => h) (fun k hk => Or.inr (by omega))
  generalize Wc.setCell ⟨b + 1 + 1 + 1, 0, none⟩ (.int .i64 0) = Wd at *
  refine ⟨by simp, .inl ⟨_, _, rfl, run_takeDeferred hK2, ?_⟩⟩
  have hsp : Step (fun q => q = D) Wd (Wd.putObj D (.deferred none)) := Step.put Wd D _
  have hkD := hsp.block hk5 (by omega)
  refine ⟨_, results_c1 rfl _ _ ⟨b + 1 + 1 + 1, 0, none⟩ rfl (loadVar28 _ _ 0 (by rw [Lib.cell_of_heap hkD]; rfl)), by rw [he], ?_, ?_⟩
  ·exact hD5.step hsp (fun k hk e => by have := hlt k hk; omega)
  ·exact h75.trans hsp (fun _ h => h) (fun k hk => Or.inr (by omega))
 case stop =>
  rintro D O c pre Wc hD hOD hpre ⟨rfl, h1, he, hl, h2, h5, h7⟩ hK
  have hst := wrK_stop he (nS sh) hl
  rw [← hst, ← hR] at h2 h5
  gi_wp2
  refine ⟨by simp, .inl ⟨_, _, rfl, run_takeDeferred hK, ?_⟩⟩
  have hsp : Step (fun q => q = D) Wc (Wc.putObj D (.deferred none)) := Step.put Wc D _
  have hkD := hsp.block h5 (by omega)
  refine ⟨_, results_c1 rfl _ _ ⟨b + 1 + 1 + 1, 0, none⟩ rfl (loadVar28 _ _ R.e (by rw [Lib.cell_of_heap hkD]; rfl)), rfl, ?_, ?_⟩
  ·exact h2.step hsp (fun k hk e => by have := hlt k hk; omega)
  ·exact h7.trans hsp (fun _ h => h) (fun k hk => Or.inr (by omega))
def rawG (xs : List ByteArray) (F : FL) (B : BL) (off : Bool) (f0 : Int) : Nat → List UInt8 × Int
 | 0 => ([], 0)
 | k + 1 => if (rawG xs F B off f0 k).2 = 0 then
   (if (readP xs F B off (f0 + (k : Int))).2 = 0 then ((rawG xs F B off f0 k).1 ++ (readP xs F B off (f0 + (k : Int))).1.data.toList, 0) else ([], (readP xs F B off (f0 + (k : Int))).2))
  else rawG xs F B off f0 k
theorem rawG_stop {xs : List ByteArray} {F : FL} {B : BL} {off : Bool} {f0 : Int} {k : Nat} (h : (rawG xs F B off f0 k).2 ≠ 0) : ∀ m, k ≤ m → rawG xs F B off f0 m = rawG xs F B off f0 k := by
 intro m hm
 induction m with
 | zero =>
  have : k = 0 := by omega
  rw [this]
 | succ m ih =>
  by_cases e : k = m + 1
  ·rw [e]
  ·rw [rawG, ih (by omega), if_neg h]
theorem rawG_err {xs : List ByteArray} {F : FL} {B : BL} {off : Bool} {f0 : Int} : ∀ k, (rawG xs F B off f0 k).2 ≠ 0 → (rawG xs F B off f0 k).1 = []
 | 0, h => rfl
 | k + 1, h => by
  rw [rawG] at h ⊢
  split
  ·rename_i h0
   rw [if_pos h0] at h
   split
   ·rename_i h1; rw [if_pos h1] at h; exact absurd rfl h
   ·rfl
  ·rename_i h0
   exact rawG_err k h0
theorem readP_size {xs : List ByteArray} {F : FL} {B : BL} {fuse : Int} {off : Bool} (h : DevOk xs F B fuse) {at_ : Int} (h0 : (readP xs F B off at_).2 = 0) : (readP xs F B off at_).1.size = 512 := by
 unfold readP at h0 ⊢
 by_cases hr : reachP xs.length off at_ ≠ 0
 ·rw [if_pos hr] at h0; exact absurd h0 hr
 ·rw [if_neg hr] at h0 ⊢
  obtain ⟨_, h1, h2⟩ := reach_ok (by simpa using hr)
  cases hg : getL at_ F with
  | some s => exact (h.2.2.2.1 _ (getL_mem hg)).2.2
  | none =>
   have hx : (xs.getD at_.toNat ⟨#[]⟩).size = 512 := by
    rw [List.getD_eq_getElem?_getD, List.getElem?_eq_getElem (show at_.toNat < xs.length by omega)]
    exact h.2.2.1 _ (List.getElem_mem _)
   rw [hg] at h0
   cases hb : getL at_ B with
   | none => exact hx
   | some v =>
    rw [hb] at h0
    cases v
    ·exact hx
    ·cases h0
theorem rawG_len {xs : List ByteArray} {F : FL} {B : BL} {fuse : Int} {off : Bool} (h : DevOk xs F B fuse) {f0 : Int} : ∀ k : Nat, (rawG xs F B off f0 k).2 = 0 → (rawG xs F B off f0 k).1.length = 512 * k
 | 0, _ => rfl
 | k + 1, h1 => by
  rw [rawG] at h1 ⊢
  by_cases h0 : (rawG xs F B off f0 k).2 = 0
  ·rw [if_pos h0] at h1 ⊢
   by_cases h2 : (readP xs F B off (f0 + (k : Int))).2 = 0
   ·rw [if_pos h2, List.length_append, rawG_len h k h0, data_length, readP_size h h2]; omega
   ·rw [if_neg h2] at h1; exact absurd h1 h2
  ·rw [if_neg h0] at h1; exact absurd h1 h0
structure RawJ (w Wc : World) (i : DevIds) (xs : List ByteArray) (F : FL) (B : BL) (off : Bool) (fuse nw : Int) (b p q : Nat) (f0 : Int) (v : Value) (l : List UInt8) : Prop where
 dev : DevAt Wc i xs F B off fuse nw
 h0 : Wc.heap[b]? = some (.cells #[.pointer (some ⟨i.d, 0, none⟩)] 27 (0, 0))
 h2 : Wc.heap[b + 1 + 1]? = some (.cells #[.string ⟨#[]⟩] 9 (0, 0))
 h3 : Wc.heap[b + 1 + 1 + 1]? = some (.cells #[.int .i64 0] 28 (0, 0))
 hp : Wc.heap[p]? = some (.cells #[.int .i64 f0] 3 (0, 0))
 hq : Wc.heap[q]? = some (.cells #[v] 59 (0, 0))
 row : Wc.ownsRowF (q + 1) 5 1 v l.length (Lib.byteCells l)
 st : Step (fun _ => False) w Wc
theorem RawJ.step {w Wc W' : World} {i : DevIds} {xs : List ByteArray} {F : FL} {B : BL} {off : Bool} {fuse nw : Int} {b p q : Nat} {f0 : Int} {v : Value} {l : List UInt8} {S : Nat → Prop} (h : RawJ w Wc i xs F B off fuse nw b p q f0 v l) (hS : Step S Wc W') (hn : ∀ j, j < q → ¬ S j) (hq : ¬ S q) (hv : ∀ g, v.ownBlock = some g → ¬ S g) (hi : ∀ j, i.In j → j < q) (hb : b + 1 + 1 + 1 < p) (hp : p < q) (hw : w.heap.size ≤ q) : RawJ w W' i xs F B off fuse nw b p q f0 v l :=
 ⟨h.dev.step hS (fun j hj => hn j (hi j hj)), hS.block h.h0 (hn _ (by omega)), hS.block h.h2 (hn _ (by omega)), hS.block h.h3 (hn _ (by omega)), hS.block h.hp (hn _ hp), hS.block h.hq hq, ownsRowF_step hS h.row hv, h.st.trans hS (fun _ h => h) (fun j hj => Or.inr (by
  rcases Nat.lt_or_ge j q with h1 | h1
  ·exact absurd hj (hn j h1)
  ·omega))⟩
set_option maxRecDepth 100000 in
set_option maxHeartbeats 4000000 in
theorem cluster_Raw_gen (w : World) (i : DevIds) (xs : List ByteArray) (F : FL) (B : BL) (off : Bool) (fuse nw : Int) (sh gk gm C at_ : Int) (h : DevAt w i xs F B off fuse nw) (hg : GeoOk sh gk gm C) (ha : 0 ≤ at_) (hb : at_ < C) (R : List UInt8 × Int) (hR : R = rawG xs F B off (at_ * (nS sh : Int)) (nS sh)) :
  Calls Tryd.prog 9 #[.pointer (some ⟨i.d, 0, none⟩), geoV sh gk gm C, .int .i64 at_] w fun e w' => e = .returned (.tuple #[.string ⟨R.1.toArray⟩, .int .i64 R.2]) ∧ Step (fun _ => False) w w' := by
 unfold geoV
 have hu23 := Tryd.underlying23
 have hF : firstP sh gk gm C at_ = (at_ * (nS sh : Int), 0) := by rw [firstP, if_pos hg, if_pos ⟨ha, hb⟩]
 refine (callsIn_wide (n := 4)).1 ?_
 refine callsIn_of_wp_marks Tryd.func9 rfl trivial ?_ rfl
 simp only [Tryd.ntmps9, List.size_toArray, List.length_cons, List.length_nil, Nat.reduceAdd, Nat.reduceSub, Array.replicate_succ, Array.replicate_zero, List.push_toArray, List.append_toArray, List.nil_append, List.cons_append]
 obtain ⟨W0, hW0, hs0, hz0, k0, k1, k2, k3⟩ := four w #[.pointer (some ⟨i.d, 0, none⟩)] #[.int .i64 sh, .int .i64 gk, .int .i64 gm, .int .i64 C] #[.string ⟨#[]⟩] #[.int .i64 0] 27 23 9 28
 gi_wp2
 refine ⟨trivial, ?_⟩
 gi_at_call 23
 refine (callsIn_wide.2 (geom_First_any sh gk gm C at_ _)).mono ?_
 rintro e w1 ⟨rfl, hb1⟩
 rw [hF]
 dsimp only
 rw [show (((w.alloc (.cells #[.pointer (some ⟨i.d, 0, none⟩)] 27)).alloc (.cells #[.int .i64 sh, .int .i64 gk, .int .i64 gm, .int .i64 C] 23)).alloc (.cells #[.string ⟨#[]⟩] 9)).alloc (.cells #[.int .i64 0] 28) = W0 from hW0.symm] at hb1
 have hs1 := step2 hs0 (Step.of_below (S := fun _ => False) hb1)
 have q0 := (Step.of_below (S := fun _ => False) hb1).block k0 (fun h => h)
 have q1 := (Step.of_below (S := fun _ => False) hb1).block k1 (fun h => h)
 have q2 := (Step.of_below (S := fun _ => False) hb1).block k2 (fun h => h)
 have q3 := (Step.of_below (S := fun _ => False) hb1).block k3 (fun h => h)
 have hz1 := hb1.size
 rw [hz0] at hz1
 clear hW0 hb1 k0 k1 k2 k3 hs0 hz0
 obtain ⟨b, hbe⟩ : ∃ b, b = w.heap.size := ⟨_, rfl⟩
 have hD1 := h.step hs1 (fun _ _ h => h)
 have hlt := h.lt
 have hbw : w.heap.size ≤ b := by omega
 rw [← hbe] at q0 q1 q2 q3 hz1 hlt ⊢
 clear hbe
 have hn1 := nS_pos sh
 have hn2 := nS_le hg.2.1
 have hln := h.ok.2.1
 have hf1 : 0 ≤ at_ * (nS sh : Int) := Int.mul_nonneg ha (Int.natCast_nonneg _)
 have hf3 : at_ * (nS sh : Int) ≤ 524288 := by
  have h1 := Int.mul_le_mul_of_nonneg_right (show at_ ≤ 4096 by have := hg.2.2.2.2.2.2.2.1; omega) (Int.natCast_nonneg (nS sh))
  have h2 := Int.mul_le_mul_of_nonneg_left (show (nS sh : Int) ≤ 128 by omega) (show (0 : Int) ≤ 4096 by omega)
  omega
 generalize hf0 : at_ * (nS sh : Int) = f0 at *
 obtain ⟨W, hW, hs2, hz2, r4, r5⟩ := two w1 #[.int .i64 f0] #[.slice none 0 0] 3 59
 have r0 := hs2.block q0 (fun h => h)
 have r1 := hs2.block q1 (fun h => h)
 have r2 := hs2.block q2 (fun h => h)
 have r3 := hs2.block q3 (fun h => h)
 have hD2 := hD1.step hs2 (fun _ _ h => h)
 have z0 : ((w1.alloc (.cells #[.int .i64 f0] 3)).alloc (.cells #[.slice none 0 0] 59)).cell? ⟨b + 1, 0, none⟩ = some (.int .i64 sh) := by rw [← hW, Lib.cell_of_heap r1]; rfl
 have z1 : ((w1.alloc (.cells #[.int .i64 f0] 3)).alloc (.cells #[.slice none 0 0] 59)).cell? ⟨b + 1, 1, none⟩ = some (.int .i64 gk) := by rw [← hW, Lib.cell_of_heap r1]; rfl
 have z2 : ((w1.alloc (.cells #[.int .i64 f0] 3)).alloc (.cells #[.slice none 0 0] 59)).cell? ⟨b + 1, 2, none⟩ = some (.int .i64 gm) := by rw [← hW, Lib.cell_of_heap r1]; rfl
 have z3 : ((w1.alloc (.cells #[.int .i64 f0] 3)).alloc (.cells #[.slice none 0 0] 59)).cell? ⟨b + 1, 3, none⟩ = some (.int .i64 C) := by rw [← hW, Lib.cell_of_heap r1]; rfl
 gi_wp2
 refine ⟨trivial, ?_⟩
 gi_at_call 24
 refine (callsIn_wide.2 (cluster_parts_any sh gk gm C _)).mono ?_
 rintro e w4 ⟨rfl, rfl⟩
 rw [← hW]
 clear z0 z1 z2 z3 hW
 have hs3 := Step.alloc (fun _ => False) W (.cells #[.int .i64 sh, .int .i64 gk, .int .i64 gm, .int .i64 C] 23)
 have hgeo : GeoAt (W.alloc (.cells #[.int .i64 sh, .int .i64 gk, .int .i64 gm, .int .i64 C] 23)) W.heap.size sh gk gm C := World.alloc_heap_new W _
 have u0 := hs3.block r0 (fun h => h)
 have u2 := hs3.block r2 (fun h => h)
 have u3 := hs3.block r3 (fun h => h)
 have u4 := hs3.block r4 (fun h => h)
 have u5 := hs3.block r5 (fun h => h)
 have hD3 := hD2.step hs3 (fun _ _ h => h)
 have hs4 := step2 (step2 hs1 hs2) hs3
 have hz4 : (W.alloc (.cells #[.int .i64 sh, .int .i64 gk, .int .i64 gm, .int .i64 C] 23)).heap.size = W.heap.size + 1 := by simp
 have hz2a : w1.heap.size + 2 ≤ W.heap.size := by omega
 clear hz2 hs1 hs2 hs3 q0 q1 q2 q3 r0 r1 r2 r3 r4 r5 hD1 hD2
 gi_wp2
 obtain ⟨p, hp⟩ : ∃ p, p = w1.heap.size := ⟨_, rfl⟩
 obtain ⟨q, hq⟩ : ∃ q, q = p + 1 := ⟨_, rfl⟩
 obtain ⟨G, hG⟩ : ∃ G, G = W.heap.size := ⟨_, rfl⟩
 rw [← hp] at u4 u5 hz1 hz2a ⊢
 rw [← hq] at u5 ⊢
 rw [← hG] at hgeo hz4 hz2a ⊢
 generalize W.alloc (.cells #[.int .i64 sh, .int .i64 gk, .int .i64 gm, .int .i64 C] 23) = V at *
 have hpq : p < q := by omega
 have hGq : q < G := by omega
 clear hG hp hq hz2a
 have hiq : ∀ j, i.In j → j < q := fun j hj => by have := hlt j hj; omega
 have hok := h.ok
 refine wpIn_rangeFunc_O (gf := 49) (lb := #[.pointer (some ⟨G, 0, none⟩)]) rfl (enters_of Tryd.func49 (by kernel_rfl) rfl) (parts_seq V G sh gk gm C hg hgeo) (fun r hr => by omega) (fun _ => rfl)
  (fun O pre Wc => ∃ v, (∀ k, O k ↔ (k = q ∨ k = b + 1 + 1 ∨ k = b + 1 + 1 + 1) ∨ v.ownBlock = some k) ∧ (rawG xs F B off f0 pre.length).2 = 0 ∧ RawJ w Wc i xs F B off fuse nw b p q f0 v (rawG xs F B off f0 pre.length).1)
  (fun c O pre Wc => c = .ret ∧ (∀ k, O k ↔ k = b + 1 + 1 ∨ k = b + 1 + 1 + 1) ∧ (rawG xs F B off f0 pre.length).2 ≠ 0 ∧ pre.length ≤ nS sh ∧ Wc.heap[b + 1 + 1]? = some (.cells #[.string ⟨#[]⟩] 9 (0, 0)) ∧ Wc.heap[b + 1 + 1 + 1]? = some (.cells #[.int .i64 (rawG xs F B off f0 pre.length).2] 28 (0, 0)) ∧ Step (fun _ => False) w Wc)
  ⟨?lt, ?step⟩ (fun _ => ⟨?ltx, ?stepx⟩) (fun k => k = q ∨ k = b + 1 + 1 ∨ k = b + 1 + 1 + 1) (fun k hk hz => by omega) ⟨.slice none 0 0, by simp [Value.ownBlock], rfl, ⟨hD3, u0, u2, u3, u4, u5, World.ownsRowF_nil _ _ _ _, hs4⟩⟩ ?round ?done ?stop
 case lt =>
  rintro O pre Wc ⟨v, h1, _, h2⟩ k hk
  rcases (h1 k).1 hk with (rfl | rfl | rfl) | hk
  ·exact blk_lt h2.hq
  ·exact blk_lt h2.h2
  ·exact blk_lt h2.h3
  ·exact (h2.row.lt k hk).2
 case step =>
  rintro O pre Wc W' S ⟨v, h1, he, h2⟩ hS hs
  exact ⟨v, h1, he, h2.step hS (fun j hj h => (hs j h).2.elim (fun h => h) (fun h => by omega)) (fun h => (hs _ h).1 ((h1 _).2 (Or.inl (Or.inl rfl)))) (fun g hg h => (hs _ h).1 ((h1 _).2 (Or.inr hg))) hiq (by omega) hpq (by omega)⟩
 case ltx =>
  rintro O pre Wc ⟨_, h1, _, _, h2, h3, _⟩ k hk
  rcases (h1 k).1 hk with rfl | rfl
  ·exact blk_lt h2
  ·exact blk_lt h3
 case stepx =>
  rintro O pre Wc W' S ⟨h0, h1, he, hl, h2, h3, h7⟩ hS hs
  exact ⟨h0, h1, he, hl, hS.block h2 (fun h => (hs _ h).1 ((h1 _).2 (Or.inl rfl))), hS.block h3 (fun h => (hs _ h).1 ((h1 _).2 (Or.inr rfl))), h7.trans hS (fun _ h => h) (fun k hk => Or.inr ((hs k hk).2.elim (fun h => h.elim) (fun h => by omega)))⟩
 case round =>
  rintro l O pre x Wc hl hWs - hpre
  obtain ⟨hx1, hx2⟩ := part_pre hpre
  replace hx1 := hx1.symm
  dsimp only [partE]
  gi_wp2
  refine ⟨Step.refl _ _, ?_⟩
  rintro Wb hsb ⟨v, h1, he, h2⟩
  rw [hx1] at h2 he
  have y0 : Wb.cell? ⟨b, 0, none⟩ = some (.pointer (some ⟨i.d, 0, none⟩)) := by rw [Lib.cell_of_heap h2.h0]; rfl
  have yp : Wb.cell? ⟨p, 0, none⟩ = some (.int .i64 f0) := by rw [Lib.cell_of_heap h2.hp]; rfl
  have hRd := dev_Read_any Wb i xs F B off fuse nw (f0 + (x : Int)) h2.dev
  have hsz := fun h => readP_size (off := off) (at_ := f0 + (x : Int)) h2.dev.ok h
  have hrl := rawG_len (off := off) h2.dev.ok x he
  have hk1 : rawG xs F B off f0 (x + 1) = if (readP xs F B off (f0 + (x : Int))).2 = 0 then ((rawG xs F B off f0 x).1 ++ (readP xs F B off (f0 + (x : Int))).1.data.toList, 0) else ([], (readP xs F B off (f0 + (x : Int))).2) := by rw [rawG, if_pos he]
  generalize readP xs F B off (f0 + (x : Int)) = rp at hRd hsz hk1
  generalize (rawG xs F B off f0 x).1 = rl at h2 hrl hk1
  obtain ⟨rs, re⟩ := rp
  dsimp only at hRd hsz hk1
  gi_wp2
  refine ⟨trivial, ?_⟩
  gi_at_call 25
  refine (callsIn_wide.2 hRd).mono ?_
  rintro e W2 ⟨rfl, hs2⟩
  have h4 := h2.step hs2 (fun _ _ h => h) (fun h => h) (fun _ _ h => h) hiq (by omega) hpq (by omega)
  have hzb := hsb.size
  by_cases hre : re ≠ 0
  ·have hzz : (re != 0) = true := by simpa using hre
   rw [if_neg hre] at hk1
   have c2 : W2.cell? ⟨b + 1 + 1, 0, none⟩ = some (.string ⟨#[]⟩) := by rw [Lib.cell_of_heap h4.h2]; rfl
   have f2 := Lib.frozen_of_heap h4.h2 0
   have hT1 : Step (fun k => k = b + 1 + 1) W2 (W2.setCell ⟨b + 1 + 1, 0, none⟩ (.string ⟨#[]⟩)) := Step.setCell W2 (p := ⟨b + 1 + 1, 0, none⟩) (S := fun k => k = b + 1 + 1) rfl _
   have m3 := hT1.block h4.h3 (by omega)
   have m2 := blk_set h4.h2 0 (.string ⟨#[]⟩)
   have c3 : (W2.setCell ⟨b + 1 + 1, 0, none⟩ (.string ⟨#[]⟩)).cell? ⟨b + 1 + 1 + 1, 0, none⟩ = some (.int .i64 0) := by rw [Lib.cell_of_heap m3]; rfl
   have f3 := Lib.frozen_of_heap m3 0
   gi_wp2
   have hT2 : Step (fun k => k = b + 1 + 1 + 1) (W2.setCell ⟨b + 1 + 1, 0, none⟩ (.string ⟨#[]⟩)) ((W2.setCell ⟨b + 1 + 1, 0, none⟩ (.string ⟨#[]⟩)).setCell ⟨b + 1 + 1 + 1, 0, none⟩ (.int .i64 re)) := Step.setCell _ (p := ⟨b + 1 + 1 + 1, 0, none⟩) (S := fun k => k = b + 1 + 1 + 1) rfl _
   refine ⟨fun k => k = b + 1 + 1 ∨ k = b + 1 + 1 + 1, fun k hk => Or.inl ((h1 k).2 (Or.inl (Or.inr hk))), (hs2.trans hT1 (fun _ h => h.elim) (fun k hk => Or.inl ((h1 k).2 (Or.inl (Or.inr (Or.inl hk)))))).trans hT2 (fun _ h => h) (fun k hk => Or.inl ((h1 k).2 (Or.inl (Or.inr (Or.inr hk))))), rfl, fun _ => Iff.rfl, ?_, ?_, hT2.block m2 (by omega), ?_, (h4.st.trans hT1 (fun _ h => h) (fun k hk => Or.inr (by omega))).trans hT2 (fun _ h => h) (fun k hk => Or.inr (by omega))⟩
   ·rw [List.length_append, hx1]
    show (rawG xs F B off f0 (x + 1)).2 ≠ 0
    rw [hk1]; exact hre
   ·rw [List.length_append, hx1]
    show x + 1 ≤ nS sh
    omega
   ·rw [List.length_append, hx1]
    show _ = some (Obj.cells #[.int .i64 (rawG xs F B off f0 (x + 1)).2] 28 (0, 0))
    rw [hk1]; exact blk_set m3 0 (.int .i64 re)
  replace hre : re = 0 := by simpa using hre
  subst hre
  rw [if_pos rfl] at hk1
  replace hsz := hsz rfl
  have hq2 := blk_lt h4.hq
  have hnq : ∀ g, v.ownBlock = some g → g ≠ q := fun g hg => by have := (h4.row.lt g hg).1; omega
  obtain ⟨v', W3, hrun, hown3, hgr, hat⟩ := append_str_at h4.row (rs) (by rw [hrl, hsz]; omega) (by omega)
  have hg3 : Step (fun k => v.ownBlock = some k) W2 W3 := Step.grown hgr (fun k hk => hk)
  have k3 := hg3.block h4.hq (fun e => hnq q e rfl)
  have c2 : W2.cell? ⟨q, 0, none⟩ = some v := by rw [Lib.cell_of_heap h4.hq]; rfl
  have c3 : W3.cell? ⟨q, 0, none⟩ = some v := by rw [Lib.cell_of_heap k3]; rfl
  have f3 := Lib.frozen_of_heap k3 0
  obtain ⟨av, nv, cv, rfl⟩ : ∃ ao n' cap, v = .slice ao n' cap := by
   rcases h4.row.2 with ⟨hv, _⟩ | ⟨g, cap, cur, fz, hv, _⟩
   ·exact ⟨_, _, _, hv⟩
   ·exact ⟨_, _, _, hv⟩
  obtain ⟨ao, n', cap, rfl⟩ : ∃ ao n' cap, v' = .slice ao n' cap := by
   rcases hown3.2 with ⟨hv, _⟩ | ⟨g, cap, cur, fz, hv, _⟩
   ·exact ⟨_, _, _, hv⟩
   ·exact ⟨_, _, _, hv⟩
  gi_wp2_with (gi_at_builtin; refine wpListIn_append_str_at rfl _ _ rfl rfl _ (rs) rfl rfl _ _ hrun ?_)
  have hset := Step.setCell W3 (p := ⟨q, 0, none⟩) (S := fun k => k = q) rfl (.slice ao n' cap)
  have hT : Step (fun k => k = q ∨ (Value.slice av nv cv).ownBlock = some k) W2 (W3.setCell ⟨q, 0, none⟩ (.slice ao n' cap)) := hg3.trans hset (fun _ h => Or.inr h) (fun _ h => Or.inl (Or.inl h))
  have hvq : ∀ g, (Value.slice ao n' cap).ownBlock = some g → g ≠ q := fun g hg => by
   rcases hat g hg with h | h
   ·exact hnq g h
   ·omega
  have hlow : ∀ j, j < q → ¬ (j = q ∨ (Value.slice av nv cv).ownBlock = some j) := fun j hj h => h.elim (fun h => by omega) (fun h => by have := (h4.row.lt j h).1; omega)
  have hz2' := hs2.size
  have hk3 := blk_set k3 0 (.slice ao n' cap)
  have hown4 := ownsRowF_step hset hown3 (fun g hg e => hvq g hg e)
  refine ⟨fun k => (k = q ∨ k = b + 1 + 1 ∨ k = b + 1 + 1 + 1) ∨ (Value.slice ao n' cap).ownBlock = some k, fun k hk => ?_, ?_, .slice ao n' cap, fun _ => Iff.rfl, ?_, ?_⟩
  ·rcases hk with hk | hk
   ·exact Or.inl ((h1 k).2 (Or.inl hk))
   ·rcases hat k hk with h | h
    ·exact Or.inl ((h1 k).2 (Or.inr h))
    ·exact Or.inr (by omega)
  ·exact (hs2.trans hT (fun _ h => h.elim) (fun k h => Or.inl h)).mono (fun k hk => (h1 k).2 (hk.elim (fun h => Or.inl (Or.inl h)) Or.inr))
  ·rw [List.length_append, hx1]
   show (rawG xs F B off f0 (x + 1)).2 = 0
   rw [hk1]
  ·rw [List.length_append, hx1]
   show RawJ w _ i xs F B off fuse nw b p q f0 _ (rawG xs F B off f0 (x + 1)).1
   rw [hk1]
   refine ⟨h4.dev.step hT (fun j hj => hlow j (hiq j hj)), hT.block h4.h0 (hlow _ (by omega)), hT.block h4.h2 (hlow _ (by omega)), hT.block h4.h3 (hlow _ (by omega)), hT.block h4.hp (hlow _ hpq), hk3, ?_, h4.st.trans hT (fun _ h => h) (fun j hj => Or.inr ?_)⟩
   ·rw [Lib.byteCells_append, List.length_append, data_length, ← Lib.strCells_eq]
    exact hown4
   ·rcases hj with hj | hj
    ·omega
    ·have := (h4.row.lt j hj).1; omega
 case done =>
  rintro D O Wc hD hOD ⟨v, h1, he, h2⟩ hK
  have hpl : (partL (nS sh)).length = nS sh := by simp [partL]
  rw [hpl] at h2 he
  have hrl := rawG_len (off := off) h2.dev.ok (nS sh) he
  rw [← hR] at h2 he hrl
  obtain ⟨l, e⟩ := R
  dsimp only at h2 he hrl ⊢
  subst he
  obtain ⟨g, cap, rfl, hconv⟩ := conv_row h2.row (by omega)
  have cq : Wc.cell? ⟨q, 0, none⟩ = some (.slice (some ⟨g, 0, none⟩) l.length cap) := by rw [Lib.cell_of_heap h2.hq]; rfl
  have c2 : Wc.cell? ⟨b + 1 + 1, 0, none⟩ = some (.string ⟨#[]⟩) := by rw [Lib.cell_of_heap h2.h2]; rfl
  have f2 := Lib.frozen_of_heap h2.h2 0
  have hT1 : Step (fun k => k = b + 1 + 1) Wc (Wc.setCell ⟨b + 1 + 1, 0, none⟩ (.string ⟨l.toArray⟩)) := Step.setCell Wc (p := ⟨b + 1 + 1, 0, none⟩) (S := fun k => k = b + 1 + 1) rfl _
  have m3 := hT1.block h2.h3 (by omega)
  have m2 := blk_set h2.h2 0 (.string ⟨l.toArray⟩)
  have c3 : (Wc.setCell ⟨b + 1 + 1, 0, none⟩ (.string ⟨l.toArray⟩)).cell? ⟨b + 1 + 1 + 1, 0, none⟩ = some (.int .i64 0) := by rw [Lib.cell_of_heap m3]; rfl
  have f3 := Lib.frozen_of_heap m3 0
  have hKa := hT1.block hK (by omega)
  have hs := h2.st
  clear hrl
  gi_wp2
  generalize Wc.setCell ⟨b + 1 + 1, 0, none⟩ (.string ⟨l.toArray⟩) = Wd at *
  have hT2 : Step (fun k => k = b + 1 + 1 + 1) Wd (Wd.setCell ⟨b + 1 + 1 + 1, 0, none⟩ (.int .i64 0)) := Step.setCell Wd (p := ⟨b + 1 + 1 + 1, 0, none⟩) (S := fun k => k = b + 1 + 1 + 1) rfl _
  have n3 := blk_set m3 0 (.int .i64 0)
  have n2 := hT2.block m2 (by omega)
  have hKb := hT2.block hKa (by omega)
  have hsz := hT1.size
  generalize Wd.setCell ⟨b + 1 + 1 + 1, 0, none⟩ (.int .i64 0) = We at *
  have hsp : Step (fun j => j = D) We (We.putObj D (.deferred none)) := Step.put We D _
  have o3 := hsp.block n3 (by omega)
  have o2 := hsp.block n2 (by omega)
  refine ⟨by simp, .inl ⟨_, _, rfl, run_takeDeferred hKb, ?_⟩⟩
  refine ⟨_, results_c2 rfl _ _ ⟨b + 1 + 1, 0, none⟩ ⟨b + 1 + 1 + 1, 0, none⟩ rfl (loadVar9 _ _ ⟨l.toArray⟩ (by rw [Lib.cell_of_heap o2]; rfl)) rfl (loadVar28 _ _ 0 (by rw [Lib.cell_of_heap o3]; rfl)), rfl, ?_⟩
  exact ((hs.trans hT1 (fun _ h => h) (fun k hk => Or.inr (by omega))).trans hT2 (fun _ h => h) (fun k hk => Or.inr (by omega))).trans hsp (fun _ h => h) (fun k hk => Or.inr (by omega))
 case stop =>
  rintro D O c pre Wc hD hOD hpre ⟨rfl, h1, he, hl, h2, h3, h7⟩ hK
  have hst := rawG_stop he (nS sh) hl
  have hem := rawG_err _ he
  rw [← hst, ← hR] at h3 hem
  gi_wp2
  refine ⟨by simp, .inl ⟨_, _, rfl, run_takeDeferred hK, ?_⟩⟩
  have hsp : Step (fun j => j = D) Wc (Wc.putObj D (.deferred none)) := Step.put Wc D _
  have o3 := hsp.block h3 (by omega)
  have o2 := hsp.block h2 (by omega)
  rw [hem]
  exact ⟨_, results_c2 rfl _ _ ⟨b + 1 + 1, 0, none⟩ ⟨b + 1 + 1 + 1, 0, none⟩ rfl (loadVar9 _ _ ⟨#[]⟩ (by rw [Lib.cell_of_heap o2]; rfl)) rfl (loadVar28 _ _ R.2 (by rw [Lib.cell_of_heap o3]; rfl)), rfl, h7.trans hsp (fun _ h => h) (fun k hk => Or.inr (by omega))⟩
set_option maxRecDepth 100000 in
set_option maxHeartbeats 4000000 in
theorem cluster_Write_why (w : World) (i : DevIds) (sh gk gm C at_ : Int) (s : ByteArray) (y : Int) (hF : firstP sh gk gm C at_ = (0, y)) (hy : (y != 0) = true) :
  Calls Tryd.prog 10 #[.pointer (some ⟨i.d, 0, none⟩), geoV sh gk gm C, .int .i64 at_, .string s] w fun e w' => e = .returned (.int .i64 y) ∧ Step (fun _ => False) w w' := by
 unfold geoV
 have hu23 := Tryd.underlying23
 refine (callsIn_wide (n := 4)).1 ?_
 refine callsIn_of_wp_marks Tryd.func10 rfl trivial ?_ rfl
 simp only [Tryd.ntmps10, List.size_toArray, List.length_cons, List.length_nil, Nat.reduceAdd, Nat.reduceSub, Array.replicate_succ, Array.replicate_zero, List.push_toArray, List.append_toArray, List.nil_append, List.cons_append]
 obtain ⟨W0, hW0, hs0, hz0, k0, k1, k2, k3⟩ := four w #[.pointer (some ⟨i.d, 0, none⟩)] #[.int .i64 sh, .int .i64 gk, .int .i64 gm, .int .i64 C] #[.string s] #[.int .i64 0] 27 23 9 28
 gi_wp2
 refine ⟨trivial, ?_⟩
 gi_at_call 23
 refine (callsIn_wide.2 (geom_First_any sh gk gm C at_ _)).mono ?_
 rintro e w1 ⟨rfl, hb1⟩
 rw [hF]
 dsimp only
 rw [← hW0] at hb1
 have hs1 := step2 hs0 (Step.of_below (S := fun _ => False) hb1)
 have q3 := (Step.of_below (S := fun _ => False) hb1).block k3 (fun h => h)
 clear hW0 hb1 k0 k1 k2 k3 hs0 hz0
 have hs2 := step2 hs1 (Step.alloc (fun _ => False) w1 (.cells #[.int .i64 0] 3))
 have r3 := (Step.alloc (fun _ => False) w1 (.cells #[.int .i64 0] 3)).block q3 (fun h => h)
 have c3 : (w1.alloc (.cells #[.int .i64 0] 3)).cell? ⟨w.heap.size + 1 + 1 + 1, 0, none⟩ = some (.int .i64 0) := by rw [Lib.cell_of_heap r3]; rfl
 have f3 := Lib.frozen_of_heap r3 0
 gi_wp2
 have hk3 := blk_set r3 0 (.int .i64 y)
 have hsc : Step (fun q => q = w.heap.size + 1 + 1 + 1) (w1.alloc (.cells #[.int .i64 0] 3)) ((w1.alloc (.cells #[.int .i64 0] 3)).setCell ⟨w.heap.size + 1 + 1 + 1, 0, none⟩ (.int .i64 y)) := Step.setCell _ (p := ⟨w.heap.size + 1 + 1 + 1, 0, none⟩) (S := fun q => q = w.heap.size + 1 + 1 + 1) rfl _
 refine ⟨_, results_c1 rfl _ _ ⟨w.heap.size + 1 + 1 + 1, 0, none⟩ rfl (loadVar28 _ _ y (by rw [Lib.cell_of_heap hk3]; rfl)), rfl, hs2.trans hsc (fun _ h => h) (fun k hk => Or.inr (by omega))⟩
set_option maxRecDepth 100000 in
set_option maxHeartbeats 4000000 in
theorem cluster_Raw_why (w : World) (i : DevIds) (sh gk gm C at_ : Int) (y : Int) (hF : firstP sh gk gm C at_ = (0, y)) (hy : (y != 0) = true) :
  Calls Tryd.prog 9 #[.pointer (some ⟨i.d, 0, none⟩), geoV sh gk gm C, .int .i64 at_] w fun e w' => e = .returned (.tuple #[.string ⟨#[]⟩, .int .i64 y]) ∧ Step (fun _ => False) w w' := by
 unfold geoV
 have hu23 := Tryd.underlying23
 refine (callsIn_wide (n := 4)).1 ?_
 refine callsIn_of_wp_marks Tryd.func9 rfl trivial ?_ rfl
 simp only [Tryd.ntmps9, List.size_toArray, List.length_cons, List.length_nil, Nat.reduceAdd, Nat.reduceSub, Array.replicate_succ, Array.replicate_zero, List.push_toArray, List.append_toArray, List.nil_append, List.cons_append]
 obtain ⟨W0, hW0, hs0, hz0, k0, k1, k2, k3⟩ := four w #[.pointer (some ⟨i.d, 0, none⟩)] #[.int .i64 sh, .int .i64 gk, .int .i64 gm, .int .i64 C] #[.string ⟨#[]⟩] #[.int .i64 0] 27 23 9 28
 gi_wp2
 refine ⟨trivial, ?_⟩
 gi_at_call 23
 refine (callsIn_wide.2 (geom_First_any sh gk gm C at_ _)).mono ?_
 rintro e w1 ⟨rfl, hb1⟩
 rw [hF]
 dsimp only
 rw [show (((w.alloc (.cells #[.pointer (some ⟨i.d, 0, none⟩)] 27)).alloc (.cells #[.int .i64 sh, .int .i64 gk, .int .i64 gm, .int .i64 C] 23)).alloc (.cells #[.string ⟨#[]⟩] 9)).alloc (.cells #[.int .i64 0] 28) = W0 from hW0.symm] at hb1
 have hs1 := step2 hs0 (Step.of_below (S := fun _ => False) hb1)
 have q2 := (Step.of_below (S := fun _ => False) hb1).block k2 (fun h => h)
 have q3 := (Step.of_below (S := fun _ => False) hb1).block k3 (fun h => h)
 clear hW0 hb1 k0 k1 k2 k3 hs0 hz0
 have hs2 := step2 hs1 (Step.alloc (fun _ => False) w1 (.cells #[.int .i64 0] 3))
 have r2 := (Step.alloc (fun _ => False) w1 (.cells #[.int .i64 0] 3)).block q2 (fun h => h)
 have r3 := (Step.alloc (fun _ => False) w1 (.cells #[.int .i64 0] 3)).block q3 (fun h => h)
 have c2 : (w1.alloc (.cells #[.int .i64 0] 3)).cell? ⟨w.heap.size + 1 + 1, 0, none⟩ = some (.string ⟨#[]⟩) := by rw [Lib.cell_of_heap r2]; rfl
 have f2 := Lib.frozen_of_heap r2 0
 have hT1 : Step (fun q => q = w.heap.size + 1 + 1) (w1.alloc (.cells #[.int .i64 0] 3)) ((w1.alloc (.cells #[.int .i64 0] 3)).setCell ⟨w.heap.size + 1 + 1, 0, none⟩ (.string ⟨#[]⟩)) := Step.setCell _ (p := ⟨w.heap.size + 1 + 1, 0, none⟩) (S := fun q => q = w.heap.size + 1 + 1) rfl _
 have m2 := blk_set r2 0 (.string ⟨#[]⟩)
 have m3 := hT1.block r3 (by omega)
 have c3 : ((w1.alloc (.cells #[.int .i64 0] 3)).setCell ⟨w.heap.size + 1 + 1, 0, none⟩ (.string ⟨#[]⟩)).cell? ⟨w.heap.size + 1 + 1 + 1, 0, none⟩ = some (.int .i64 0) := by rw [Lib.cell_of_heap m3]; rfl
 have f3 := Lib.frozen_of_heap m3 0
 gi_wp2
 have hT2 : Step (fun q => q = w.heap.size + 1 + 1 + 1) ((w1.alloc (.cells #[.int .i64 0] 3)).setCell ⟨w.heap.size + 1 + 1, 0, none⟩ (.string ⟨#[]⟩)) (((w1.alloc (.cells #[.int .i64 0] 3)).setCell ⟨w.heap.size + 1 + 1, 0, none⟩ (.string ⟨#[]⟩)).setCell ⟨w.heap.size + 1 + 1 + 1, 0, none⟩ (.int .i64 y)) := Step.setCell _ (p := ⟨w.heap.size + 1 + 1 + 1, 0, none⟩) (S := fun q => q = w.heap.size + 1 + 1 + 1) rfl _
 have n3 := blk_set m3 0 (.int .i64 y)
 have n2 := hT2.block m2 (by omega)
 refine ⟨_, results_c2 rfl _ _ ⟨w.heap.size + 1 + 1, 0, none⟩ ⟨w.heap.size + 1 + 1 + 1, 0, none⟩ rfl (loadVar9 _ _ ⟨#[]⟩ (by rw [Lib.cell_of_heap n2]; rfl)) rfl (loadVar28 _ _ y (by rw [Lib.cell_of_heap n3]; rfl)), rfl, (hs2.trans hT1 (fun _ h => h) (fun k hk => Or.inr (by omega))).trans hT2 (fun _ h => h) (fun k hk => Or.inr (by omega))⟩
set_option maxRecDepth 100000 in
set_option maxHeartbeats 4000000 in
theorem cluster_Write_formG (w : World) (i : DevIds) (xs : List ByteArray) (F : FL) (B : BL) (off : Bool) (fuse nw : Int) (sh gk gm C at_ : Int) (s : ByteArray) (h : DevAt w i xs F B off fuse nw) (hg : GeoOk sh gk gm C) (ha : 0 ≤ at_) (hb : at_ < C) (hs : s.size ≠ 512 * nS sh) :
  Calls Tryd.prog 10 #[.pointer (some ⟨i.d, 0, none⟩), geoV sh gk gm C, .int .i64 at_, .string s] w fun e w' => e = .returned (.int .i64 2) ∧ Step (fun _ => False) w w' := by
 unfold geoV
 have hu23 := Tryd.underlying23
 have hF : firstP sh gk gm C at_ = (at_ * (nS sh : Int), 0) := by rw [firstP, if_pos hg, if_pos ⟨ha, hb⟩]
 have hS : sizeP sh gk gm C = 512 * (nS sh : Int) := if_pos hg
 refine (callsIn_wide (n := 4)).1 ?_
 refine callsIn_of_wp_marks Tryd.func10 rfl trivial ?_ rfl
 simp only [Tryd.ntmps10, List.size_toArray, List.length_cons, List.length_nil, Nat.reduceAdd, Nat.reduceSub, Array.replicate_succ, Array.replicate_zero, List.push_toArray, List.append_toArray, List.nil_append, List.cons_append]
 obtain ⟨W0, hW0, hs0, hz0, k0, k1, k2, k3⟩ := four w #[.pointer (some ⟨i.d, 0, none⟩)] #[.int .i64 sh, .int .i64 gk, .int .i64 gm, .int .i64 C] #[.string s] #[.int .i64 0] 27 23 9 28
 gi_wp2
 refine ⟨trivial, ?_⟩
 gi_at_call 23
 refine (callsIn_wide.2 (geom_First_any sh gk gm C at_ _)).mono ?_
 rintro e w1 ⟨rfl, hb1⟩
 rw [hF]
 dsimp only
 rw [← hW0] at hb1
 have hs1 := step2 hs0 (Step.of_below (S := fun _ => False) hb1)
 have q0 := (Step.of_below (S := fun _ => False) hb1).block k0 (fun h => h)
 have q1 := (Step.of_below (S := fun _ => False) hb1).block k1 (fun h => h)
 have q2 := (Step.of_below (S := fun _ => False) hb1).block k2 (fun h => h)
 have q3 := (Step.of_below (S := fun _ => False) hb1).block k3 (fun h => h)
 have hz1 := hb1.size
 rw [hz0] at hz1
 clear hW0 hb1 k0 k1 k2 k3 hs0 hz0
 obtain ⟨b, hbe⟩ : ∃ b, b = w.heap.size := ⟨_, rfl⟩
 have hD1 := h.step hs1 (fun _ _ h => h)
 have hlt := h.lt
 have hbw : w.heap.size ≤ b := by omega
 rw [← hbe] at q0 q1 q2 q3 hz1 hlt ⊢
 clear hbe
 have hn1 := nS_pos sh
 have hn2 := nS_le hg.2.1
 have hln := h.ok.2.1
 have hf1 : 0 ≤ at_ * (nS sh : Int) := Int.mul_nonneg ha (Int.natCast_nonneg _)
 generalize hf0 : at_ * (nS sh : Int) = f0 at *
 gi_wp2
 have hs2 := Step.alloc (fun _ => False) w1 (.cells #[.int .i64 f0] 3)
 have r0 := hs2.block q0 (fun h => h)
 have r1 := hs2.block q1 (fun h => h)
 have r2 := hs2.block q2 (fun h => h)
 have r3 := hs2.block q3 (fun h => h)
 have r4 := World.alloc_heap_new w1 (.cells #[.int .i64 f0] 3)
 have hD2 := hD1.step hs2 (fun _ _ h => h)
 have hs2' := step2 hs1 hs2
 have hz2 : (w1.alloc (.cells #[.int .i64 f0] 3)).heap.size = w1.heap.size + 1 := by simp
 obtain ⟨p, hpe⟩ : ∃ p, p = w1.heap.size := ⟨_, rfl⟩
 rw [← hpe] at r4 hz1 hz2 ⊢
 generalize w1.alloc (.cells #[.int .i64 f0] 3) = W at *
 clear q0 q1 q2 q3 hs1 hs2 hD1 hpe
 have y2 : W.drew.cell? ⟨b + 1 + 1, 0, none⟩ = some (.string s) := by show W.cell? _ = _; rw [Lib.cell_of_heap r2]; rfl
 have y10 : W.drew.cell? ⟨b + 1, 0, none⟩ = some (.int .i64 sh) := by show W.cell? _ = _; rw [Lib.cell_of_heap r1]; rfl
 have y11 : W.drew.cell? ⟨b + 1, 1, none⟩ = some (.int .i64 gk) := by show W.cell? _ = _; rw [Lib.cell_of_heap r1]; rfl
 have y12 : W.drew.cell? ⟨b + 1, 2, none⟩ = some (.int .i64 gm) := by show W.cell? _ = _; rw [Lib.cell_of_heap r1]; rfl
 have y13 : W.drew.cell? ⟨b + 1, 3, none⟩ = some (.int .i64 C) := by show W.cell? _ = _; rw [Lib.cell_of_heap r1]; rfl
 have hSize : ∀ w, Calls Tryd.prog 22 #[.agg #[.int .i64 sh, .int .i64 gk, .int .i64 gm, .int .i64 C]] w fun e w' => e = .returned (.int .i64 (512 * (nS sh : Int))) ∧ Below w.heap.size w w' := by
  intro w
  have := geom_Size_any sh gk gm C w
  rwa [hS] at this
 have hne : ((s.size : Int) != 512 * (nS sh : Int)) = true := by simp; omega
 refine region_only ?_
 refine start_ (n := 6) (S := fun w' => w'.cell? ⟨b + 1 + 1, 0, none⟩ = some (.string s) ∧ w'.cell? ⟨b + 1, 0, none⟩ = some (.int .i64 sh) ∧ w'.cell? ⟨b + 1, 1, none⟩ = some (.int .i64 gk) ∧ w'.cell? ⟨b + 1, 2, none⟩ = some (.int .i64 gm) ∧ w'.cell? ⟨b + 1, 3, none⟩ = some (.int .i64 C)) (ds := []) #[false, false, false, false, false, false] (by kernel_rfl) rfl rfl ⟨y2, y10, y11, y12, y13⟩ (fun hHeld => ?_)
 refine take_ (i := 0) (N := some 25) (v := ?_) (a' := ?_) #[true, false, false, false, false, false] rfl rfl (by kernel_rfl) (fun _ _ _ h => h) (Or.inl ⟨by rfl, ?_⟩) hHeld ?_ ?_
 rotate_left
 ·rintro w' ⟨s0, s1, s2, s3, s4⟩
  go_simp
  with_reducible rfl
 rotate_left
 ·simp only [Act.put, List.setIfInBounds_toArray, List.set_cons_zero, List.set_cons_succ, i64_w, i32_w]
  rfl
 refine pure_ (i := 1) (N := some 26) (v := ?_) (a' := ?_) #[true, true, false, false, false, false] rfl rfl (by kernel_rfl) (fun _ _ _ h => h) (Or.inl ⟨by rfl, ?_⟩) ?_ ?_
 rotate_left
 ·intro w'
  go_simp
  with_reducible rfl
 rotate_left
 ·simp only [Act.put, List.setIfInBounds_toArray, List.set_cons_zero, List.set_cons_succ, i64_w, i32_w]
  rfl
 refine take_ (i := 2) (N := some 27) (v := ?_) (a' := ?_) #[true, true, true, false, false, false] rfl rfl (by kernel_rfl) (fun _ _ _ h => h) (Or.inl ⟨by rfl, ?_⟩) hHeld ?_ ?_
 rotate_left
 ·rintro w' ⟨s0, s1, s2, s3, s4⟩
  go_simp
  with_reducible rfl
 rotate_left
 ·simp only [Act.put, List.setIfInBounds_toArray, List.set_cons_zero, List.set_cons_succ, i64_w, i32_w]
  rfl
 refine one_ (i := 3) (N := some 28) #[true, true, true, true, false, false] rfl rfl (by kernel_rfl) (by decide) (fun K hK => ?_)
 refine goes_ Tryd.func22 (by kernel_rfl) rfl #[.agg #[.int .i64 sh, .int .i64 gk, .int .i64 gm, .int .i64 C]] (by rfl) rfl rfl (by simp only [List.map_toArray, List.map_cons, List.map_nil]; rfl) ?_
 with_reducible refine (hSize _).mono ?_
 rintro e w3 ⟨rfl, hb3⟩
 refine ⟨_, rfl, ?_⟩
 refine hK.out _ _ ⟨pw_cell_below hb3 hHeld.1, pw_cell_below hb3 hHeld.2.1, pw_cell_below hb3 hHeld.2.2.1, pw_cell_below hb3 hHeld.2.2.2.1, pw_cell_below hb3 hHeld.2.2.2.2⟩ (fun hHeld => ?_)
 clear hK K
 refine norm_ (a' := ?_) ?_ ?_
 rotate_left
 ·show Act.put _ (some 28) _ = _
  simp only [Act.put, List.setIfInBounds_toArray, List.set_cons_zero, List.set_cons_succ, i64_w, i32_w]
  rfl
 refine pure_ (i := 4) (N := some 29) (v := ?_) (a' := ?_) #[true, true, true, true, true, false] rfl rfl (by kernel_rfl) (fun _ _ _ h => h) (Or.inl ⟨by rfl, ?_⟩) ?_ ?_
 rotate_left
 ·intro w'
  go_simp
  with_reducible rfl
 rotate_left
 ·simp only [Act.put, List.setIfInBounds_toArray, List.set_cons_zero, List.set_cons_succ, i64_w, i32_w]
  rfl
 refine pure_ (i := 5) (N := some 24) (v := ?_) (a' := ?_) #[true, true, true, true, true, true] rfl rfl (by kernel_rfl) (fun _ _ _ h => h) (Or.inl ⟨by rfl, ?_⟩) ?_ ?_
 rotate_left
 ·intro w'
  go_simp
  with_reducible rfl
 rotate_left
 ·simp only [Act.put, List.setIfInBounds_toArray, List.set_cons_zero, List.set_cons_succ, i64_w, i32_w]
  rfl
 refine done_ (by kernel_rfl) ?_

 have hsW : Step (fun _ => False) W w3 := step2 ⟨pw_below_drewN (Below.refl _ _) 1, fun _ _ _ => rfl⟩ (Step.of_below hb3)
 have u3 := hsW.block r3 (fun h => h)
 have c3 : w3.cell? ⟨b + 1 + 1 + 1, 0, none⟩ = some (.int .i64 0) := by rw [Lib.cell_of_heap u3]; rfl
 have f3 := Lib.frozen_of_heap u3 0
 dsimp only [onlyN]
 gi_wp2
 have hk3 := blk_set u3 0 (.int .i64 2)
 have hsc : Step (fun q => q = b + 1 + 1 + 1) w3 (w3.setCell ⟨b + 1 + 1 + 1, 0, none⟩ (.int .i64 2)) := Step.setCell _ (p := ⟨b + 1 + 1 + 1, 0, none⟩) (S := fun q => q = b + 1 + 1 + 1) rfl _
 refine ⟨_, results_c1 rfl _ _ ⟨b + 1 + 1 + 1, 0, none⟩ rfl (loadVar28 _ _ 2 (by rw [Lib.cell_of_heap hk3]; rfl)), rfl, (step2 hs2' hsW).trans hsc (fun _ h => h) (fun k hk => Or.inr (by omega))⟩
def rawA (xs : List ByteArray) (F : FL) (B : BL) (off : Bool) (sh gk gm C at_ : Int) : ByteArray × Int :=
 if (firstP sh gk gm C at_).2 ≠ 0 then (⟨#[]⟩, (firstP sh gk gm C at_).2) else (⟨(rawG xs F B off (at_ * (nS sh : Int)) (nS sh)).1.toArray⟩, (rawG xs F B off (at_ * (nS sh : Int)) (nS sh)).2)
theorem firstP_ok {sh gk gm C at_ : Int} (h : (firstP sh gk gm C at_).2 = 0) : GeoOk sh gk gm C ∧ 0 ≤ at_ ∧ at_ < C := by
 unfold firstP at h
 by_cases hg : GeoOk sh gk gm C
 ·rw [if_pos hg] at h
  by_cases ha : 0 ≤ at_ ∧ at_ < C
  ·exact ⟨hg, ha⟩
  ·rw [if_neg ha] at h; exact absurd h (by decide)
 ·rw [if_neg hg] at h; exact absurd h (by decide)
theorem firstP_no {sh gk gm C at_ : Int} (h : (firstP sh gk gm C at_).2 ≠ 0) : firstP sh gk gm C at_ = (0, (firstP sh gk gm C at_).2) := by
 unfold firstP at h ⊢
 by_cases hg : GeoOk sh gk gm C
 ·rw [if_pos hg] at h ⊢
  by_cases ha : 0 ≤ at_ ∧ at_ < C
  ·rw [if_pos ha] at h; exact absurd rfl h
  ·rw [if_neg ha]
 ·rw [if_neg hg]
theorem cluster_Raw_all (w : World) (i : DevIds) (xs : List ByteArray) (F : FL) (B : BL) (off : Bool) (fuse nw : Int) (sh gk gm C at_ : Int) (h : DevAt w i xs F B off fuse nw) :
  Calls Tryd.prog 9 #[.pointer (some ⟨i.d, 0, none⟩), geoV sh gk gm C, .int .i64 at_] w fun e w' => e = .returned (.tuple #[.string (rawA xs F B off sh gk gm C at_).1, .int .i64 (rawA xs F B off sh gk gm C at_).2]) ∧ Step (fun _ => False) w w' := by
 unfold rawA
 by_cases h0 : (firstP sh gk gm C at_).2 ≠ 0
 ·rw [if_pos h0]
  exact cluster_Raw_why w i sh gk gm C at_ _ (firstP_no h0) (by simpa using h0)
 ·rw [if_neg h0]
  obtain ⟨hg, ha, hb⟩ := firstP_ok (by simpa using h0)
  exact cluster_Raw_gen w i xs F B off fuse nw sh gk gm C at_ h hg ha hb _ rfl
def writeA (n : Nat) (r : WrS) (sh gk gm C at_ : Int) (s : ByteArray) : WrS :=
 if (firstP sh gk gm C at_).2 ≠ 0 then { r with e := (firstP sh gk gm C at_).2 } else if s.size ≠ 512 * nS sh then { r with e := 2 } else wrK n (at_ * (nS sh : Int)) s { r with e := 0 } (nS sh)
theorem cluster_Write_all (w : World) (i : DevIds) (xs : List ByteArray) (F : FL) (B : BL) (off : Bool) (fuse nw : Int) (sh gk gm C at_ : Int) (s : ByteArray) (h : DevAt w i xs F B off fuse nw) (R : WrS) (hR : R = writeA xs.length ⟨F, off, fuse, nw, 0⟩ sh gk gm C at_ s) :
  Calls Tryd.prog 10 #[.pointer (some ⟨i.d, 0, none⟩), geoV sh gk gm C, .int .i64 at_, .string s] w fun e w' => e = .returned (.int .i64 R.e) ∧ DevAt w' i xs R.F B R.off R.fuse R.nw ∧ Step i.In w w' := by
 unfold writeA at hR
 by_cases h0 : (firstP sh gk gm C at_).2 ≠ 0
 ·rw [if_pos h0] at hR
  subst hR
  exact (cluster_Write_why w i sh gk gm C at_ s _ (firstP_no h0) (by simpa using h0)).mono fun e w' ⟨h1, h2⟩ => ⟨h1, h.step h2 (fun _ _ h => h), h2.mono (fun _ h => h.elim)⟩
 ·rw [if_neg h0] at hR
  obtain ⟨hg, ha, hb⟩ := firstP_ok (by simpa using h0)
  by_cases hs : s.size ≠ 512 * nS sh
  ·rw [if_pos hs] at hR
   subst hR
   exact (cluster_Write_formG w i xs F B off fuse nw sh gk gm C at_ s h hg ha hb hs).mono fun e w' ⟨h1, h2⟩ => ⟨h1, h.step h2 (fun _ _ h => h), h2.mono (fun _ h => h.elim)⟩
  ·rw [if_neg hs] at hR
   exact cluster_Write_gen w i xs F B off fuse nw sh gk gm C at_ s h hg ha hb (by omega) R hR
def readA (xs : List ByteArray) (F : FL) (B : BL) (off : Bool) (sh gk gm C at_ sum : Int) : ByteArray × Int :=
 if (rawA xs F B off sh gk gm C at_).2 ≠ 0 then (⟨#[]⟩, (rawA xs F B off sh gk gm C at_).2) else if sumC (rawA xs F B off sh gk gm C at_).1 = sum then ((rawA xs F B off sh gk gm C at_).1, 0) else (⟨#[]⟩, 9)
theorem rawA_size {xs : List ByteArray} {F : FL} {B : BL} {fuse : Int} {off : Bool} (h : DevOk xs F B fuse) {sh gk gm C at_ : Int} (h0 : (rawA xs F B off sh gk gm C at_).2 = 0) : (rawA xs F B off sh gk gm C at_).1.size ≤ 65536 := by
 unfold rawA at h0 ⊢
 by_cases h1 : (firstP sh gk gm C at_).2 ≠ 0
 ·rw [if_pos h1] at h0; exact absurd h0 h1
 ·rw [if_neg h1] at h0 ⊢
  obtain ⟨hg, _⟩ := firstP_ok (by simpa using h1)
  have hn := nS_le hg.2.1
  have hl := rawG_len h (nS sh) h0
  show (rawG xs F B off (at_ * (nS sh : Int)) (nS sh)).1.toArray.size ≤ 65536
  rw [List.size_toArray, hl]
  omega
set_option maxRecDepth 100000 in
set_option maxHeartbeats 4000000 in
theorem cluster_Read_all (w : World) (i : DevIds) (xs : List ByteArray) (F : FL) (B : BL) (off : Bool) (fuse nw : Int) (sh gk gm C at_ sum : Int) (hT : TabAt w) (h : DevAt w i xs F B off fuse nw) :
  Calls Tryd.prog 11 #[.pointer (some ⟨i.d, 0, none⟩), geoV sh gk gm C, .int .i64 at_, .int .u32 sum] w fun e w' => e = .returned (.tuple #[.string (readA xs F B off sh gk gm C at_ sum).1, .int .i64 (readA xs F B off sh gk gm C at_ sum).2]) ∧ Step (fun _ => False) w w' := by
 have hW : ∀ W, Step (fun _ => False) w W → Calls Tryd.prog 9 #[.pointer (some ⟨i.d, 0, none⟩), .agg #[.int .i64 sh, .int .i64 gk, .int .i64 gm, .int .i64 C], .int .i64 at_] W fun e w' => e = .returned (.tuple #[.string (rawA xs F B off sh gk gm C at_).1, .int .i64 (rawA xs F B off sh gk gm C at_).2]) ∧ Step (fun _ => False) W w' := fun W hW => cluster_Raw_all W i xs F B off fuse nw sh gk gm C at_ (h.step hW (fun _ _ h => h))
 have hz := rawA_size (off := off) h.ok (sh := sh) (gk := gk) (gm := gm) (C := C) (at_ := at_)
 unfold readA geoV
 generalize rawA xs F B off sh gk gm C at_ = r at *
 obtain ⟨R, y⟩ := r
 dsimp only at hW hz ⊢
 have hu23 := Tryd.underlying23
 have hs0 := Step.alloc (fun _ => False) w (.cells #[.int .i64 sh, .int .i64 gk, .int .i64 gm, .int .i64 C] 23)
 by_cases hy : y ≠ 0
 ·have hyy : (y != 0) = true := by simpa using hy
  rw [if_pos hy]
  go_enter Tryd.func11, Tryd.ntmps11
  go_wp2_with (first
   | (go_at_call 9; refine (hW _ hs0).mono ?_; rintro e w1 ⟨rfl, hs1⟩; have hs2 := step2 hs0 hs1))
  go_ret2
  exact ⟨rfl, hs2⟩
 replace hy : y = 0 := by simpa using hy
 subst hy
 replace hz := hz rfl
 rw [if_neg (by decide)]
 by_cases hc : sumC R = sum
 ·have hcc : (sumC R != sum) = false := by simpa using hc
  rw [if_pos hc]
  go_enter Tryd.func11, Tryd.ntmps11
  go_wp2_with (first
   | (go_at_call 9; refine (hW _ hs0).mono ?_; rintro e w1 ⟨rfl, hs1⟩; have hs2 := step2 hs0 hs1)
   | (go_at_call 12; refine (crc_Sum_any R _ (hT.step hs2 (fun h => h)) (by omega)).mono ?_; rintro e w2 ⟨rfl, hb2⟩))
  go_ret2
  exact ⟨rfl, step2 hs2 (Step.of_below hb2)⟩
 ·have hcc : (sumC R != sum) = true := by simpa using hc
  rw [if_neg hc]
  go_enter Tryd.func11, Tryd.ntmps11
  go_wp2_with (first
   | (go_at_call 9; refine (hW _ hs0).mono ?_; rintro e w1 ⟨rfl, hs1⟩; have hs2 := step2 hs0 hs1)
   | (go_at_call 12; refine (crc_Sum_any R _ (hT.step hs2 (fun h => h)) (by omega)).mono ?_; rintro e w2 ⟨rfl, hb2⟩))
  go_ret2
  exact ⟨rfl, step2 hs2 (Step.of_below hb2)⟩
end

end Go.Proofs.YtpbkcdodpjpoeaaDoor.HCP
