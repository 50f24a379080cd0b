/- WRITTEN BY wip/hyb.py, a program of this workplace (out of the kit's printer and this workplace's own contracts). -/
import Derived.Test.YtpbkcdodpjpoeaaDoorGCBx0
import Derived.Test.YtpbkcdodpjpoeaaDoorGCBx2
namespace Go.Proofs.YtpbkcdodpjpoeaaDoor.HCB
open Go.RowKit Go.Proofs.YtpbkcdodpjpoeaaDoorW.PrintWords Go.Proofs.YtpbkcdodpjpoeaaDoorW.PrintLast Go.Proofs.YtpbkcdodpjpoeaaDoorW.PrintMore
attribute [local go_sem] max2_int min2_int max_two min_two max_three min_three max_four min_four   -- for this text's walks alone
set_option linter.unusedVariables false
set_option linter.unusedSimpArgs false

section
open Go Go.Shelf Go.Maps Go.Proofs.YtpbkcdodpjpoeaaDoor.Seq Go.Proofs.YtpbkcdodpjpoeaaDoor.MapL Go.Proofs.YtpbkcdodpjpoeaaDoorW.PrintLast
attribute [local go_sem] Oper.semAt_some max2_int min2_int max_two min_two
theorem cluster_parts_any (sh K M C : Int) (w : World) : Calls Tryd.prog 24 #[geoV sh K M C] w fun e w' => e = .returned (.func (.func 49) #[] #[.pointer (some ⟨w.heap.size, 0, none⟩)]) ∧ w' = w.alloc (.cells #[.int .i64 sh, .int .i64 K, .int .i64 M, .int .i64 C] 23) := by
 unfold geoV
 have hu23 := Tryd.underlying23
 go_enter Tryd.func24, Tryd.ntmps24
 go_wp2
 go_ret
 exact ⟨rfl, rfl⟩
def partL (n : Nat) : List Nat := List.range n
def partE (i : Nat) : Array Value := #[.int .i64 (i : Int), .int .i64 ((i : Int) * 512)]
def GeoAt (w : World) (b : Nat) (sh K M C : Int) : Prop := w.heap[b]? = some (.cells #[.int .i64 sh, .int .i64 K, .int .i64 M, .int .i64 C] 23 (0, 0))
theorem GeoAt.step {Z : Nat → Prop} {w w' : World} {b : Nat} {sh K M C : Int} (h : GeoAt w b sh K M C) (hs : Step Z w w') (hz : ¬ Z b) : GeoAt w' b sh K M C := hs.block h hz
set_option maxRecDepth 100000 in
set_option maxHeartbeats 2000000 in
theorem parts_seq (w : World) (Bx : Nat) (sh K M C : Int) (hg : GeoOk sh K M C) (hB : GeoAt w Bx sh K M C) :
  SeqO (fun r => r = Bx) (fun _ => False) Tryd.prog 49 #[.pointer (some ⟨Bx, 0, none⟩)] partE (partL (nS sh)) w := by
 intro l J Jx O W hW hO hJ hY h0
 replace hB := hW.block hB (by simp)
 have hBl := blk_lt hB
 have hnl := nS_le hg.2.1
 have hS : sizeP sh K M C = 512 * (nS sh : Int) := if_pos hg
 generalize nS sh = n at hnl hY hS ⊢
 refine callsIn_of_wp Tryd.func49 rfl trivial ?_ rfl
 simp only [Tryd.ntmps49, List.size_toArray, List.length_cons, List.length_nil, Nat.reduceAdd, Nat.reduceSub, Array.replicate_succ, Array.replicate_zero, List.push_toArray, List.append_toArray, List.nil_append, List.cons_append]
 have hu23 := Tryd.underlying23
 have z0 : W.cell? ⟨Bx, 0, none⟩ = some (.int .i64 sh) := by rw [Lib.cell_of_heap hB]; rfl
 have z1 : W.cell? ⟨Bx, 1, none⟩ = some (.int .i64 K) := by rw [Lib.cell_of_heap hB]; rfl
 have z2 : W.cell? ⟨Bx, 2, none⟩ = some (.int .i64 M) := by rw [Lib.cell_of_heap hB]; rfl
 have z3 : W.cell? ⟨Bx, 3, none⟩ = some (.int .i64 C) := by rw [Lib.cell_of_heap hB]; rfl
 gi_wp2
 refine ⟨trivial, ?_⟩
 gi_at_call 22
 refine (callsIn_wide.2 (geom_Size_any sh K M C _)).mono ?_
 rintro e w1 ⟨rfl, hb1⟩
 rw [hS]
 gi_wp2
 have hs0 : Step (fun _ => False) W w1 := Step.of_below hb1
 have hB1 : GeoAt w1 Bx sh K M C := hs0.block hB (fun h => h)
 have hJ1 := hJ.step O [] W w1 _ h0 hs0 (fun _ h => h.elim)
 have hz1 := hb1.size
 gi_loopw [7] (fun t wr => ∃ k : Nat, k ≤ n ∧ t = .int .i64 k ∧ GeoAt wr Bx sh K M C ∧ ∃ O', J O' ((partL n).take k) wr ∧ (∀ q, O' q → q ≠ Bx)) (fun t _ => n - (intOf t).toNat)
 case atStart => exact ⟨0, Nat.zero_le _, rfl, hB1, O, hJ1, fun q hq => hO q hq⟩
 case round =>
  obtain ⟨k, hk, rfl, hBr, O1, hJr, hO1⟩ := hrel
  by_cases hkl : k < n
  ·have hpre : (partL n).take k ++ [k] <+: partL n := by
    have h1 : (partL n)[k]'(by simpa [partL] using hkl) = k := by simp [partL]
    have h2 := List.take_succ_eq_append_getElem (l := partL n) (i := k) (by simpa [partL] using hkl)
    rw [h1] at h2
    rw [← h2]; exact List.take_prefix _ _
   have htk : (partL n).take (k + 1) = (partL n).take k ++ [k] := by
    have h1 : (partL n)[k]'(by simpa [partL] using hkl) = k := by simp [partL]
    have h2 := List.take_succ_eq_append_getElem (l := partL n) (i := k) (by simpa [partL] using hkl)
    rwa [h1] at h2
   obtain ⟨fn, tmps, assign, body, hy, hR⟩ := hY O1 _ _ wr hJr hpre
   dsimp only [partE] at hy
   gi_wp2
   refine hR.mono ?_
   rintro e W' ⟨O3, hO3, hs3, ⟨rfl, hJ3⟩ | ⟨rfl, hJ3⟩⟩
   ·gi_wp2
    go_roundw
    case rel => exact ⟨k + 1, by omega, by simp, hBr.step hs3 (fun h => hO1 _ h rfl), O3, by rw [htk]; exact hJ3, fun q hq => (hO3 q hq).elim (hO1 q) (fun h => by have := blk_lt hBr; omega)⟩
    case measure => simp [intOf]; omega
   ·gi_wp2
    refine bodyPost_ret (results_none rfl _ _ _) rfl ?_
    exact ⟨⟨_, rfl⟩, O3, .inr ⟨_, hpre, hJ3⟩⟩
  ·have ek : k = n := by omega
   gi_wp2
   go_end0
   exact ⟨⟨_, rfl⟩, O1, .inl (by rw [List.take_of_length_le (by simp [partL]; omega)] at hJr; exact hJr)⟩
theorem write_ok (w : World) (i : DevIds) (xs : List ByteArray) (F : FL) (B : BL) (nw at_ : Int) (s : ByteArray) (h : DevAt w i xs F B false (-1) nw) (h0 : 0 ≤ at_) (h1 : at_ < (xs.length : Int)) (hs : s.size = 512) (n0 : 0 ≤ nw) (n1 : nw ≤ 2000000) :
  Calls Tryd.prog 26 #[.pointer (some ⟨i.d, 0, none⟩), .int .i64 at_, .string s] w fun e w' => e = .returned (.int .i64 0) ∧ DevAt w' i xs (putL at_ s F) B false (-1) (nw + 1) ∧ Step i.In w w' := by
 have hW : writeP xs.length F false (-1) nw at_ s = (putL at_ s F, false, -1, nw + 1, 0) := by
  have hr : reachP xs.length false at_ = 0 := by unfold reachP; rw [if_neg (by decide), if_pos ⟨h0, h1⟩]
  have hb : burnP false (-1) = (false, -1, 0) := rfl
  unfold writeP
  rw [hr, hb, if_neg (by decide), if_neg (by omega), if_neg (by decide), wrap64_id (by omega) (by omega)]
 have := dev_Write_any w i xs F B false (-1) nw at_ s h
 rw [hW] at this
 exact this
def writesP (first : Int) (s : ByteArray) : Nat → FL → FL
 | 0, F => F
 | k + 1, F => putL (first + (k : Int)) (s.extract (512 * k) (512 * k + 512)) (writesP first s k F)
theorem step2 {w w1 w2 : World} (h1 : Step (fun _ => False) w w1) (h2 : Step (fun _ => False) w1 w2) : Step (fun _ => False) w w2 := h1.trans h2 (fun _ h => h) (fun _ h => h.elim)
theorem four (w : World) (c0 c1 c2 c3 : Array Value) (t0 t1 t2 t3 : TypeId) : ∃ W, W = (((w.alloc (.cells c0 t0)).alloc (.cells c1 t1)).alloc (.cells c2 t2)).alloc (.cells c3 t3) ∧ Step (fun _ => False) w W ∧ W.heap.size = w.heap.size + 4 ∧
  W.heap[w.heap.size]? = some (.cells c0 t0 (0, 0)) ∧ W.heap[w.heap.size + 1]? = some (.cells c1 t1 (0, 0)) ∧ W.heap[w.heap.size + 1 + 1]? = some (.cells c2 t2 (0, 0)) ∧ W.heap[w.heap.size + 1 + 1 + 1]? = some (.cells c3 t3 (0, 0)) := by
 have n0 := World.alloc_heap_new w (.cells c0 t0)
 have n1 := World.alloc_heap_new (w.alloc (.cells c0 t0)) (.cells c1 t1)
 have n2 := World.alloc_heap_new ((w.alloc (.cells c0 t0)).alloc (.cells c1 t1)) (.cells c2 t2)
 have n3 := World.alloc_heap_new (((w.alloc (.cells c0 t0)).alloc (.cells c1 t1)).alloc (.cells c2 t2)) (.cells c3 t3)
 simp only [World.size_alloc] at n0 n1 n2 n3
 have s3 := Step.alloc (fun _ => False) (((w.alloc (.cells c0 t0)).alloc (.cells c1 t1)).alloc (.cells c2 t2)) (.cells c3 t3)
 have s2 := Step.alloc (fun _ => False) ((w.alloc (.cells c0 t0)).alloc (.cells c1 t1)) (.cells c2 t2)
 have s1 := Step.alloc (fun _ => False) (w.alloc (.cells c0 t0)) (.cells c1 t1)
 have s0 := Step.alloc (fun _ => False) w (.cells c0 t0)
 exact ⟨_, rfl, step2 s0 (step2 s1 (step2 s2 s3)), by simp, (step2 s1 (step2 s2 s3)).block n0 (fun h => h), (step2 s2 s3).block n1 (fun h => h), s3.block n2 (fun h => h), n3⟩
theorem run_slice_lh (w : World) (s : ByteArray) (l h : Int) (h0 : 0 ≤ l) (h1 : l ≤ h) (h2 : h ≤ s.size) : (Instr.slice 9 (.string s) (some (.int .i64 l)) (some (.int .i64 h)) none).run Tryd.prog w = .ok (.string (s.extract l.toNat h.toNat)) w := by
 have ht := Tryd.underlying9
 have eh : (h.toNat : Int) = h := Int.toNat_of_nonneg (by omega)
 simp [Instr.slice, run_underlying ht, Instr.sliceBounds, run_sliceBound, sliced, *, eh, (by omega : 0 ≤ l), (by omega : 0 ≤ h)]
theorem results_c1 {P : Program} {fn : Func} {p : Tmp} {ty : TypeId} (h : fn.results = #[.cell p ty]) (tmps : Array Value) (w : World) (ad : Addr) {v : Value} (hp : tmps.getD p undef = .pointer (some ad)) (hv : (loadVar ty ad).run P w = .ok v w) : (results fn tmps).run P w = .ok v w := by
 have hp' : tmps[p]?.getD undef = .pointer (some ad) := by simpa using hp
 simp [results, h, hp', asAddr, hv]
theorem results_c2 {P : Program} {fn : Func} {p q : Tmp} {ty tq : TypeId} (h : fn.results = #[.cell p ty, .cell q tq]) (tmps : Array Value) (w : World) (ad bd : Addr) {v u : Value} (hp : tmps.getD p undef = .pointer (some ad)) (hv : (loadVar ty ad).run P w = .ok v w) (hq : tmps.getD q undef = .pointer (some bd)) (hu : (loadVar tq bd).run P w = .ok u w) : (results fn tmps).run P w = .ok (.tuple #[v, u]) w := by
 have hp' : tmps[p]?.getD undef = .pointer (some ad) := by simpa using hp
 have hq' : tmps[q]?.getD undef = .pointer (some bd) := by simpa using hq
 simp [results, h, hp', hq', asAddr, hv, hu]
theorem loadVar28 (w : World) (ad : Addr) (n : Int) (h : w.cell? ad = some (.int .i64 n)) : (loadVar 28 ad).run Tryd.prog w = .ok (.int .i64 n) w := by
 have u := Tryd.underlying28
 go_simp
theorem loadVar9 (w : World) (ad : Addr) (s : ByteArray) (h : w.cell? ad = some (.string s)) : (loadVar 9 ad).run Tryd.prog w = .ok (.string s) w := by
 have u := Tryd.underlying9
 go_simp
def onlyN (R : Act → World → Prop) : Exit → Act → World → Prop
 | .normal, a, w => R a w
 | _, _, _ => False
theorem region_only {c : Code} {n : Nat} {Q : Exit → Act → World → Prop} {a : Act} {w : World} (h : c.wp Tryd.prog (onlyN (Q .normal)) a w) : c.wpIn Fence.wide n Tryd.prog Q a w := by
 refine wpIn_wide.2 (Code.wp_mono ?_ h)
 intro e a w h
 cases e <;> first | exact h | exact h.elim
theorem part_pre {n x : Nat} {pre : List Nat} (h : (pre ++ [x]) <+: partL n) : x = pre.length ∧ x < n := by
 obtain ⟨t, ht⟩ := h
 have h1 : (partL n)[pre.length]? = some x := by rw [← ht]; simp
 obtain ⟨hlt, he⟩ := List.getElem?_eq_some_iff.1 h1
 simp [partL] at hlt he
 omega
set_option maxRecDepth 100000 in
set_option maxHeartbeats 4000000 in
theorem cluster_Write_any (w : World) (i : DevIds) (xs : List ByteArray) (F : FL) (B : BL) (nw : Int) (sh gk gm C at_ : Int) (s : ByteArray) (h : DevAt w i xs F B false (-1) nw) (hg : GeoOk sh gk gm C) (hn : (xs.length : Int) = C * (nS sh : Int)) (ha : 0 ≤ at_) (hb : at_ < C) (hs : s.size = 512 * nS sh) (hnw0 : 0 ≤ nw) (hnw : nw ≤ 1000000) :
  Calls Tryd.prog 10 #[.pointer (some ⟨i.d, 0, none⟩), geoV sh gk gm C, .int .i64 at_, .string s] w fun e w' => e = .returned (.int .i64 0) ∧ DevAt w' i xs (writesP (at_ * (nS sh : Int)) s (nS sh) F) B false (-1) (nw + (nS sh : Int)) ∧ Step i.In w w' := by
 unfold geoV
 have hu23 := Tryd.underlying23
 have hF : firstP sh gk gm C at_ = (at_ * (nS sh : Int), 0) := by rw [firstP, if_pos hg, if_pos ⟨ha, hb⟩]
 have hS : sizeP sh gk gm C = 512 * (nS sh : Int) := if_pos hg
 refine (callsIn_wide (n := 4)).1 ?_
 refine callsIn_of_wp_marks Tryd.func10 rfl trivial ?_ rfl
 simp only [Tryd.ntmps10, List.size_toArray, List.length_cons, List.length_nil, Nat.reduceAdd, Nat.reduceSub, Array.replicate_succ, Array.replicate_zero, List.push_toArray, List.append_toArray, List.nil_append, List.cons_append]
 obtain ⟨W0, hW0, hs0, hz0, k0, k1, k2, k3⟩ := four w #[.pointer (some ⟨i.d, 0, none⟩)] #[.int .i64 sh, .int .i64 gk, .int .i64 gm, .int .i64 C] #[.string s] #[.int .i64 0] 27 23 9 28
 gi_wp2
 refine ⟨trivial, ?_⟩
 gi_at_call 23
 refine (callsIn_wide.2 (geom_First_any sh gk gm C at_ _)).mono ?_
 rintro e w1 ⟨rfl, hb1⟩
 rw [hF]
 dsimp only
 rw [← hW0] at hb1
 have hs1 := step2 hs0 (Step.of_below (S := fun _ => False) hb1)
 have q0 := (Step.of_below (S := fun _ => False) hb1).block k0 (fun h => h)
 have q1 := (Step.of_below (S := fun _ => False) hb1).block k1 (fun h => h)
 have q2 := (Step.of_below (S := fun _ => False) hb1).block k2 (fun h => h)
 have q3 := (Step.of_below (S := fun _ => False) hb1).block k3 (fun h => h)
 have hz1 := hb1.size
 rw [hz0] at hz1
 clear hW0 hb1 k0 k1 k2 k3 hs0 hz0
 obtain ⟨b, hbe⟩ : ∃ b, b = w.heap.size := ⟨_, rfl⟩
 have hD1 := h.step hs1 (fun _ _ h => h)
 have hlt := h.lt
 have hbw : w.heap.size ≤ b := by omega
 rw [← hbe] at q0 q1 q2 q3 hz1 hlt ⊢
 clear hbe
 have hn1 := nS_pos sh
 have hn2 := nS_le hg.2.1
 have hln := h.ok.2.1
 have hf1 : 0 ≤ at_ * (nS sh : Int) := Int.mul_nonneg ha (Int.natCast_nonneg _)
 have hf2 : at_ * (nS sh : Int) + (nS sh : Int) ≤ (xs.length : Int) := by
  rw [hn]
  have := Int.mul_le_mul_of_nonneg_right (show at_ + 1 ≤ C by omega) (Int.natCast_nonneg (nS sh))
  rw [Int.add_mul, Int.one_mul] at this
  exact this
 generalize hf0 : at_ * (nS sh : Int) = f0 at *
 gi_wp2
 have hs2 := Step.alloc (fun _ => False) w1 (.cells #[.int .i64 f0] 3)
 have r0 := hs2.block q0 (fun h => h)
 have r1 := hs2.block q1 (fun h => h)
 have r2 := hs2.block q2 (fun h => h)
 have r3 := hs2.block q3 (fun h => h)
 have r4 := World.alloc_heap_new w1 (.cells #[.int .i64 f0] 3)
 have hD2 := hD1.step hs2 (fun _ _ h => h)
 have hs2' := step2 hs1 hs2
 have hz2 : (w1.alloc (.cells #[.int .i64 f0] 3)).heap.size = w1.heap.size + 1 := by simp
 obtain ⟨p, hpe⟩ : ∃ p, p = w1.heap.size := ⟨_, rfl⟩
 rw [← hpe] at r4 hz1 hz2 ⊢
 generalize w1.alloc (.cells #[.int .i64 f0] 3) = W at *
 clear q0 q1 q2 q3 hs1 hs2 hD1 hpe
 have y2 : W.drew.cell? ⟨b + 1 + 1, 0, none⟩ = some (.string s) := by show W.cell? _ = _; rw [Lib.cell_of_heap r2]; rfl
 have y10 : W.drew.cell? ⟨b + 1, 0, none⟩ = some (.int .i64 sh) := by show W.cell? _ = _; rw [Lib.cell_of_heap r1]; rfl
 have y11 : W.drew.cell? ⟨b + 1, 1, none⟩ = some (.int .i64 gk) := by show W.cell? _ = _; rw [Lib.cell_of_heap r1]; rfl
 have y12 : W.drew.cell? ⟨b + 1, 2, none⟩ = some (.int .i64 gm) := by show W.cell? _ = _; rw [Lib.cell_of_heap r1]; rfl
 have y13 : W.drew.cell? ⟨b + 1, 3, none⟩ = some (.int .i64 C) := by show W.cell? _ = _; rw [Lib.cell_of_heap r1]; rfl
 have hSize : ∀ w, Calls Tryd.prog 22 #[.agg #[.int .i64 sh, .int .i64 gk, .int .i64 gm, .int .i64 C]] w fun e w' => e = .returned (.int .i64 (512 * (nS sh : Int))) ∧ Below w.heap.size w w' := by
  intro w
  have := geom_Size_any sh gk gm C w
  rwa [hS] at this
 have hne : ((s.size : Int) != 512 * (nS sh : Int)) = false := by rw [hs]; simp
 refine region_only ?_
 refine start_ (n := 6) (S := fun w' => w'.cell? ⟨b + 1 + 1, 0, none⟩ = some (.string s) ∧ w'.cell? ⟨b + 1, 0, none⟩ = some (.int .i64 sh) ∧ w'.cell? ⟨b + 1, 1, none⟩ = some (.int .i64 gk) ∧ w'.cell? ⟨b + 1, 2, none⟩ = some (.int .i64 gm) ∧ w'.cell? ⟨b + 1, 3, none⟩ = some (.int .i64 C)) (ds := []) #[false, false, false, false, false, false] (by kernel_rfl) rfl rfl ⟨y2, y10, y11, y12, y13⟩ (fun hHeld => ?_)
 refine take_ (i := 0) (N := some 25) (v := ?_) (a' := ?_) #[true, false, false, false, false, false] rfl rfl (by kernel_rfl) (fun _ _ _ h => h) (Or.inl ⟨by rfl, ?_⟩) hHeld ?_ ?_
 rotate_left
 ·rintro w' ⟨s0, s1, s2, s3, s4⟩
  go_simp
  with_reducible rfl
 rotate_left
 ·simp only [Act.put, List.setIfInBounds_toArray, List.set_cons_zero, List.set_cons_succ, i64_w, i32_w]
  rfl
 refine pure_ (i := 1) (N := some 26) (v := ?_) (a' := ?_) #[true, true, false, false, false, false] rfl rfl (by kernel_rfl) (fun _ _ _ h => h) (Or.inl ⟨by rfl, ?_⟩) ?_ ?_
 rotate_left
 ·intro w'
  go_simp
  with_reducible rfl
 rotate_left
 ·simp only [Act.put, List.setIfInBounds_toArray, List.set_cons_zero, List.set_cons_succ, i64_w, i32_w]
  rfl
 refine take_ (i := 2) (N := some 27) (v := ?_) (a' := ?_) #[true, true, true, false, false, false] rfl rfl (by kernel_rfl) (fun _ _ _ h => h) (Or.inl ⟨by rfl, ?_⟩) hHeld ?_ ?_
 rotate_left
 ·rintro w' ⟨s0, s1, s2, s3, s4⟩
  go_simp
  with_reducible rfl
 rotate_left
 ·simp only [Act.put, List.setIfInBounds_toArray, List.set_cons_zero, List.set_cons_succ, i64_w, i32_w]
  rfl
 refine one_ (i := 3) (N := some 28) #[true, true, true, true, false, false] rfl rfl (by kernel_rfl) (by decide) (fun K hK => ?_)
 refine goes_ Tryd.func22 (by kernel_rfl) rfl #[.agg #[.int .i64 sh, .int .i64 gk, .int .i64 gm, .int .i64 C]] (by rfl) rfl rfl (by simp only [List.map_toArray, List.map_cons, List.map_nil]; rfl) ?_
 with_reducible refine (hSize _).mono ?_
 rintro e w3 ⟨rfl, hb3⟩
 refine ⟨_, rfl, ?_⟩
 refine hK.out _ _ ⟨pw_cell_below hb3 hHeld.1, pw_cell_below hb3 hHeld.2.1, pw_cell_below hb3 hHeld.2.2.1, pw_cell_below hb3 hHeld.2.2.2.1, pw_cell_below hb3 hHeld.2.2.2.2⟩ (fun hHeld => ?_)
 clear hK K
 refine norm_ (a' := ?_) ?_ ?_
 rotate_left
 ·show Act.put _ (some 28) _ = _
  simp only [Act.put, List.setIfInBounds_toArray, List.set_cons_zero, List.set_cons_succ, i64_w, i32_w]
  rfl
 refine pure_ (i := 4) (N := some 29) (v := ?_) (a' := ?_) #[true, true, true, true, true, false] rfl rfl (by kernel_rfl) (fun _ _ _ h => h) (Or.inl ⟨by rfl, ?_⟩) ?_ ?_
 rotate_left
 ·intro w'
  go_simp
  with_reducible rfl
 rotate_left
 ·simp only [Act.put, List.setIfInBounds_toArray, List.set_cons_zero, List.set_cons_succ, i64_w, i32_w]
  rfl
 refine pure_ (i := 5) (N := some 24) (v := ?_) (a' := ?_) #[true, true, true, true, true, true] rfl rfl (by kernel_rfl) (fun _ _ _ h => h) (Or.inl ⟨by rfl, ?_⟩) ?_ ?_
 rotate_left
 ·intro w'
  go_simp
  with_reducible rfl
 rotate_left
 ·simp only [Act.put, List.setIfInBounds_toArray, List.set_cons_zero, List.set_cons_succ, i64_w, i32_w]
  rfl
 refine done_ (by kernel_rfl) ?_

 dsimp only [onlyN]
 gi_wp2
 have hsW : Step (fun _ => False) W w3 := step2 ⟨pw_below_drewN (Below.refl _ _) 1, fun _ _ _ => rfl⟩ (Step.of_below hb3)
 refine ⟨trivial, ?_⟩
 gi_at_call 24
 refine (callsIn_wide.2 (cluster_parts_any sh gk gm C _)).mono ?_
 rintro e w4 ⟨rfl, rfl⟩
 have hs3 := step2 hsW (Step.alloc (fun _ => False) w3 (.cells #[.int .i64 sh, .int .i64 gk, .int .i64 gm, .int .i64 C] 23))
 have hgeo : GeoAt (w3.alloc (.cells #[.int .i64 sh, .int .i64 gk, .int .i64 gm, .int .i64 C] 23)) w3.heap.size sh gk gm C := World.alloc_heap_new w3 _
 have u0 := hs3.block r0 (fun h => h)
 have u2 := hs3.block r2 (fun h => h)
 have u3 := hs3.block r3 (fun h => h)
 have u4 := hs3.block r4 (fun h => h)
 have hD3 := hD2.step hs3 (fun _ _ h => h)
 have hs4 := step2 hs2' hs3
 have hz3 := hsW.size
 have hz4 : (w3.alloc (.cells #[.int .i64 sh, .int .i64 gk, .int .i64 gm, .int .i64 C] 23)).heap.size = w3.heap.size + 1 := by simp
 gi_wp2
 obtain ⟨G, hG⟩ : ∃ G, G = w3.heap.size := ⟨_, rfl⟩
 rw [← hG] at hgeo hz4 hz3 ⊢
 generalize w3.alloc (.cells #[.int .i64 sh, .int .i64 gk, .int .i64 gm, .int .i64 C] 23) = V at *
 clear hG
 refine wpIn_rangeFunc_O (gf := 49) (lb := #[.pointer (some ⟨G, 0, none⟩)]) rfl (enters_of Tryd.func49 (by kernel_rfl) rfl) (parts_seq V G sh gk gm C hg hgeo) (fun r hr => by omega) (fun _ => rfl)
  (fun O pre Wc => (∀ k, O k ↔ i.In k) ∧ DevAt Wc i xs (writesP f0 s pre.length F) B false (-1) (nw + (pre.length : Int)) ∧ Wc.heap[b]? = some (.cells #[.pointer (some ⟨i.d, 0, none⟩)] 27 (0, 0)) ∧ Wc.heap[b + 1 + 1]? = some (.cells #[.string s] 9 (0, 0)) ∧ Wc.heap[b + 1 + 1 + 1]? = some (.cells #[.int .i64 0] 28 (0, 0)) ∧ Wc.heap[p]? = some (.cells #[.int .i64 f0] 3 (0, 0)) ∧ Step i.In w Wc)
  (fun _ _ _ _ => False) ⟨?lt, ?step⟩ (fun _ => ⟨fun _ _ _ h => h.elim, fun _ _ _ _ _ h => h.elim⟩) i.In (fun k hk hz => by have := hlt k hk; omega) ⟨fun _ => Iff.rfl, by simpa [writesP] using hD3, u0, u2, u3, u4, hs4.mono (fun _ h => h.elim)⟩ ?round ?done ?stop
 case lt =>
  rintro O pre Wc ⟨h1, h2, _⟩ k hk
  exact h2.lt k ((h1 k).1 hk)
 case step =>
  rintro O pre Wc W' S ⟨h1, h2, h3, h4, h5, h6, h7⟩ hS hs
  have hno : ∀ k, k < V.heap.size → ¬ S k := fun k hk h => (hs k h).2.elim (fun h => h) (fun h => by omega)
  exact ⟨h1, h2.step hS (fun k hk h => (hs k h).1 ((h1 k).2 hk)), hS.block h3 (hno _ (by omega)), hS.block h4 (hno _ (by omega)), hS.block h5 (hno _ (by omega)), hS.block h6 (hno _ (by omega)), h7.trans hS (fun _ h => h) (fun k hk => Or.inr ((hs k hk).2.elim (fun h => h.elim) (fun h => by omega)))⟩
 case round =>
  rintro l O pre x Wc hl hWs - hpre
  obtain ⟨hx1, hx2⟩ := part_pre hpre
  replace hx1 := hx1.symm
  dsimp only [partE]
  gi_wp2
  refine ⟨Step.refl _ _, ?_⟩
  rintro Wb hsb ⟨h1, h2, h3, h4, h5, h6, h7⟩
  gi_wp2
  have y0 : Wb.drew.cell? ⟨b, 0, none⟩ = some (.pointer (some ⟨i.d, 0, none⟩)) := by show Wb.cell? _ = _; rw [Lib.cell_of_heap h3]; rfl
  have yp : Wb.drew.cell? ⟨p, 0, none⟩ = some (.int .i64 f0) := by show Wb.cell? _ = _; rw [Lib.cell_of_heap h6]; rfl
  have y2 : Wb.drew.cell? ⟨b + 1 + 1, 0, none⟩ = some (.string s) := by show Wb.cell? _ = _; rw [Lib.cell_of_heap h4]; rfl
  have nb : ¬ i.In b := fun h => by have := hlt b h; omega
  have np : ¬ i.In p := fun h => by have := hlt p h; omega
  have ns : ¬ i.In (b + 1 + 1) := fun h => by have := hlt _ h; omega
  have nr : ¬ i.In (b + 1 + 1 + 1) := fun h => by have := hlt _ h; omega
  rw [hx1] at h2
  have hDd : DevAt Wb.drew i xs (writesP f0 s x F) B false (-1) (nw + (x : Int)) := h2.step (Z := fun _ => False) ⟨pw_below_drewN (Below.refl _ _) 1, fun _ _ _ => rfl⟩ (fun _ _ h => h)
  have hxI : (x : Int) < (nS sh : Int) := by omega
  have hez : (s.extract (512 * x) (512 * x + 512)).size = 512 := by rw [ByteArray.size_extract]; omega
  have hWr : Calls Tryd.prog 26 #[.pointer (some ⟨i.d, 0, none⟩), .int .i64 (wrap64 (f0 + (x : Int))), .string (s.extract (512 * x) (512 * x + 512))] Wb.drew fun e w' => e = .returned (.int .i64 0) ∧ DevAt w' i xs (putL (f0 + (x : Int)) (s.extract (512 * x) (512 * x + 512)) (writesP f0 s x F)) B false (-1) (nw + (x : Int) + 1) ∧ Step i.In Wb.drew w' := by
   rw [wrap64_id (by omega) (by omega)]
   exact write_ok Wb.drew i xs _ B _ (f0 + (x : Int)) (s.extract (512 * x) (512 * x + 512)) hDd (by omega) (by omega) hez (by omega) (by omega)
  have hsl : ∀ w' : World, (Instr.slice 9 (.string s) (some (.int .i64 ((x : Int) * 512))) (some (.int .i64 (wrap64 ((x : Int) * 512 + 512)))) none).run Tryd.prog w' = .ok (.string (s.extract (512 * x) (512 * x + 512))) w' := by
   intro w'
   have e1 : (((x : Int) * 512).toNat) = 512 * x := by omega
   have e2 : (((x : Int) * 512 + 512).toNat) = 512 * x + 512 := by omega
   rw [wrap64_id (by omega) (by omega)]
   have := run_slice_lh w' s ((x : Int) * 512) ((x : Int) * 512 + 512) (by omega) (by omega) (by omega)
   rw [e1, e2] at this
   exact this
  refine startIn_ (n := 11) (S := fun w' => w'.cell? ⟨b, 0, none⟩ = some (.pointer (some ⟨i.d, 0, none⟩)) ∧ w'.cell? ⟨p, 0, none⟩ = some (.int .i64 f0) ∧ w'.cell? ⟨b + 1 + 1, 0, none⟩ = some (.string s)) (ds := []) (by rintro ⟨_, _, h⟩; exact h) (by kernel_rfl) #[false, false, false, false, false, false, false, false, false, false, false] (by kernel_rfl) rfl rfl ⟨y0, yp, y2⟩ (fun hHeld => ?_)
  refine pure_ (i := 2) (N := some 36) (v := ?_) (a' := ?_) #[false, false, true, false, false, false, false, false, false, false, false] rfl rfl (by kernel_rfl) (fun _ _ _ h => h) (Or.inl ⟨by rfl, ?_⟩) ?_ ?_
  rotate_left
  ·intro w'
   go_simp
   with_reducible rfl
  rotate_left
  ·simp only [Act.put, List.setIfInBounds_toArray, List.set_cons_zero, List.set_cons_succ, i64_w, i32_w]
   rfl
  refine pure_ (i := 5) (N := some 39) (v := ?_) (a' := ?_) #[false, false, true, false, false, true, false, false, false, false, false] rfl rfl (by kernel_rfl) (fun _ _ _ h => h) (Or.inl ⟨by rfl, ?_⟩) ?_ ?_
  rotate_left
  ·intro w'
   go_simp
   with_reducible rfl
  rotate_left
  ·simp only [Act.put, List.setIfInBounds_toArray, List.set_cons_zero, List.set_cons_succ, i64_w, i32_w]
   rfl
  refine pure_ (i := 6) (N := some 40) (v := ?_) (a' := ?_) #[false, false, true, false, false, true, true, false, false, false, false] rfl rfl (by kernel_rfl) (fun _ _ _ h => h) (Or.inl ⟨by rfl, ?_⟩) ?_ ?_
  rotate_left
  ·intro w'
   go_simp
   with_reducible rfl
  rotate_left
  ·simp only [Act.put, List.setIfInBounds_toArray, List.set_cons_zero, List.set_cons_succ, i64_w, i32_w]
   rfl
  refine pure_ (i := 7) (N := some 41) (v := ?_) (a' := ?_) #[false, false, true, false, false, true, true, true, false, false, false] rfl rfl (by kernel_rfl) (fun _ _ _ h => h) (Or.inl ⟨by rfl, ?_⟩) ?_ ?_
  rotate_left
  ·intro w'
   go_simp
   with_reducible rfl
  rotate_left
  ·simp only [Act.put, List.setIfInBounds_toArray, List.set_cons_zero, List.set_cons_succ, i64_w, i32_w]
   rfl
  refine take_ (i := 0) (N := some 34) (v := ?_) (a' := ?_) #[true, false, true, false, false, true, true, true, false, false, false] rfl rfl (by kernel_rfl) (fun _ _ _ h => h) (Or.inl ⟨by rfl, ?_⟩) hHeld ?_ ?_
  rotate_left
  ·rintro w' ⟨s0, s1, s2⟩
   go_simp
   with_reducible rfl
  rotate_left
  ·simp only [Act.put, List.setIfInBounds_toArray, List.set_cons_zero, List.set_cons_succ, i64_w, i32_w]
   rfl
  refine take_ (i := 1) (N := some 35) (v := ?_) (a' := ?_) #[true, true, true, false, false, true, true, true, false, false, false] rfl rfl (by kernel_rfl) (fun _ _ _ h => h) (Or.inl ⟨by rfl, ?_⟩) hHeld ?_ ?_
  rotate_left
  ·rintro w' ⟨s0, s1, s2⟩
   go_simp
   with_reducible rfl
  rotate_left
  ·simp only [Act.put, List.setIfInBounds_toArray, List.set_cons_zero, List.set_cons_succ, i64_w, i32_w]
   rfl
  refine pure_ (i := 3) (N := some 37) (v := ?_) (a' := ?_) #[true, true, true, true, false, true, true, true, false, false, false] rfl rfl (by kernel_rfl) (fun _ _ _ h => h) (Or.inl ⟨by rfl, ?_⟩) ?_ ?_
  rotate_left
  ·intro w'
   go_simp
   with_reducible rfl
  rotate_left
  ·simp only [Act.put, List.setIfInBounds_toArray, List.set_cons_zero, List.set_cons_succ, i64_w, i32_w]
   rfl
  refine take_ (i := 4) (N := some 38) (v := ?_) (a' := ?_) #[true, true, true, true, true, true, true, true, false, false, false] rfl rfl (by kernel_rfl) (fun _ _ _ h => h) (Or.inl ⟨by rfl, ?_⟩) hHeld ?_ ?_
  rotate_left
  ·rintro w' ⟨s0, s1, s2⟩
   go_simp
   with_reducible rfl
  rotate_left
  ·simp only [Act.put, List.setIfInBounds_toArray, List.set_cons_zero, List.set_cons_succ, i64_w, i32_w]
   rfl
  refine pure_ (i := 8) (N := some 42) (v := ?_) (a' := ?_) #[true, true, true, true, true, true, true, true, true, false, false] rfl rfl (by kernel_rfl) (fun _ _ _ h => h) (Or.inl ⟨by rfl, ?_⟩) ?_ ?_
  rotate_left
  ·intro w'
   go_simp
   with_reducible rfl
  rotate_left
  ·simp only [Act.put, List.setIfInBounds_toArray, List.set_cons_zero, List.set_cons_succ, i64_w, i32_w]
   rfl
  refine one_ (i := 9) (N := some 43) #[true, true, true, true, true, true, true, true, true, true, false] rfl rfl (by kernel_rfl) (by decide) (fun K hK => ?_)
  refine goes_ Tryd.func26 (by kernel_rfl) rfl #[.pointer (some ⟨i.d, 0, none⟩), .int .i64 (wrap64 (f0 + (x : Int))), .string (s.extract (512 * x) (512 * x + 512))] (by rfl) rfl rfl (by simp only [List.map_toArray, List.map_cons, List.map_nil]; rfl) ?_
  with_reducible refine (hWr).mono ?_
  rintro e w4 ⟨rfl, hD4, hs4⟩
  refine ⟨_, rfl, ?_⟩
  refine hK.out _ _ ⟨hs4.cell hHeld.1 nb, hs4.cell hHeld.2.1 np, hs4.cell hHeld.2.2 ns⟩ (fun hHeld => ?_)
  clear hK K
  refine norm_ (a' := ?_) ?_ ?_
  rotate_left
  ·show Act.put _ (some 43) _ = _
   simp only [Act.put, List.setIfInBounds_toArray, List.set_cons_zero, List.set_cons_succ, i64_w, i32_w]
   rfl
  refine pure_ (i := 10) (N := some 13) (v := ?_) (a' := ?_) #[true, true, true, true, true, true, true, true, true, true, true] rfl rfl (by kernel_rfl) (fun _ _ _ h => h) (Or.inl ⟨by rfl, ?_⟩) ?_ ?_
  rotate_left
  ·intro w'
   go_simp
   with_reducible rfl
  rotate_left
  ·simp only [Act.put, List.setIfInBounds_toArray, List.set_cons_zero, List.set_cons_succ, i64_w, i32_w]
   rfl
  refine done_ (by kernel_rfl) ?_

  have hst : Step i.In Wb w4 := Step.trans (T := i.In) (S := fun _ => False) ⟨pw_below_drewN (Below.refl _ _) 1, fun _ _ _ => rfl⟩ hs4 (fun _ h => h.elim) (fun _ h => Or.inl h)
  gi_wp2
  refine ⟨i.In, fun k hk => Or.inl ((h1 k).2 hk), hst.mono (fun k hk => (h1 k).2 hk), fun _ => Iff.rfl, ?_, hst.block h3 nb, hst.block h4 ns, hst.block h5 nr, hst.block h6 np, h7.trans hst (fun _ h => h) (fun _ h => Or.inl h)⟩
  rw [List.length_append, hx1]
  show DevAt w4 i xs (writesP f0 s (x + 1) F) B false (-1) (nw + ((x + 1 : Nat) : Int))
  rw [show nw + ((x + 1 : Nat) : Int) = nw + (x : Int) + 1 by omega]
  exact hD4
 case done =>
  rintro D O Wc hD hOD ⟨h1, h2, h3, h4, h5, h6, h7⟩ hK
  have c5 : Wc.cell? ⟨b + 1 + 1 + 1, 0, none⟩ = some (.int .i64 0) := by rw [Lib.cell_of_heap h5]; rfl
  have f5 := Lib.frozen_of_heap h5 0
  gi_wp2
  have hk5 := blk_set h5 0 (.int .i64 0)
  have nr : ¬ i.In (b + 1 + 1 + 1) := fun h => by have := hlt _ h; omega
  have hsc : Step (fun q => q = b + 1 + 1 + 1) Wc (Wc.setCell ⟨b + 1 + 1 + 1, 0, none⟩ (.int .i64 0)) := Step.setCell Wc (p := ⟨b + 1 + 1 + 1, 0, none⟩) (S := fun q => q = b + 1 + 1 + 1) rfl _
  have hK2 := hsc.block hK (by omega)
  have hD5 := h2.step hsc (fun k hk e => nr (e ▸ hk))
  have h75 := h7.trans hsc (fun _ h => h) (fun k hk => Or.inr (by omega))
  generalize Wc.setCell ⟨b + 1 + 1 + 1, 0, none⟩ (.int .i64 0) = Wd at *
  refine ⟨by simp, .inl ⟨_, _, rfl, run_takeDeferred hK2, ?_⟩⟩
  have hsp : Step (fun q => q = D) Wd (Wd.putObj D (.deferred none)) := Step.put Wd D _
  have hkD := hsp.block hk5 (by omega)
  refine ⟨_, results_c1 rfl _ _ ⟨b + 1 + 1 + 1, 0, none⟩ rfl (loadVar28 _ _ 0 (by rw [Lib.cell_of_heap hkD]; rfl)), rfl, ?_, ?_⟩
  ·have hD6 := hD5.step hsp (fun k hk e => by have := hlt k hk; omega)
   have hpl : (partL (nS sh)).length = nS sh := by simp [partL]
   rw [hpl] at hD6
   rw [hf0]
   exact hD6
  ·exact h75.trans hsp (fun _ h => h) (fun k hk => Or.inr (by omega))
 case stop => rintro D O c pre Wc _ _ _ h; exact h.elim
end

end Go.Proofs.YtpbkcdodpjpoeaaDoor.HCB
