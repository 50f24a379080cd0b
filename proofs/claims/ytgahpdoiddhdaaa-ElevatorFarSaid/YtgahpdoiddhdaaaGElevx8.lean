/- WRITTEN BY wip/hyb.py, a program of this workplace (out of the kit's printer and this workplace's own contracts). -/
import Derived.Test.YtgahpdoiddhdaaaGElevx0
import Derived.Test.YtgahpdoiddhdaaaGElevx1
import Derived.Test.YtgahpdoiddhdaaaGElevx2
import Derived.Test.YtgahpdoiddhdaaaGElevx3
import Derived.Test.YtgahpdoiddhdaaaGElevx7
namespace Go.Proofs.Ytgahpdoiddhdaaa.HElev
open Go.RowKit Go.Proofs.YtgahpdoiddhdaaaW.PrintWords Go.Proofs.YtgahpdoiddhdaaaW.PrintLast Go.Proofs.YtgahpdoiddhdaaaW.PrintMore
attribute [local go_sem] max2_int min2_int max_two min_two max_three min_three max_four min_four   -- for this text's walks alone
set_option linter.unusedVariables false
set_option linter.unusedSimpArgs false

attribute [local go_sem high] eqA37 eqA39
section
open Go Go.Shelf Go.Proofs.Ytgahpdoiddhdaaa.Seq Go.Proofs.YtgahpdoiddhdaaaW.PrintLast
attribute [local go_sem] Oper.semAt_some
def flat39 (xs : List S39) : List Value := xs.flatMap fun x => [.int .i64 x.f0, .int .i64 x.f1]
theorem flat39_len (xs : List S39) : (flat39 xs).length = xs.length * 2 := by
 induction xs with
 | nil => rfl
 | cons x xs ih => simp only [flat39, List.flatMap_cons, List.length_append, List.length_cons, List.length_nil] at *; omega
theorem flat39_append (xs ys : List S39) : flat39 (xs ++ ys) = flat39 xs ++ flat39 ys := by simp [flat39]
theorem flat39_at (xs ys : List S39) (x : S39) (j : Nat) : (flat39 (xs ++ x :: ys))[xs.length * 2 + j]? = ([Value.int .i64 x.f0, .int .i64 x.f1] ++ flat39 ys)[j]? := by
 rw [flat39_append, List.getElem?_append_right (by rw [flat39_len]; omega), flat39_len, Nat.add_sub_cancel_left]
 rfl
theorem flat39_set1 (xs : List S39) (x : S39) (v : Int) : (flat39 (xs ++ [x])).set (xs.length * 2 + 1) (.int .i64 v) = flat39 (xs ++ [⟨x.f0, v⟩]) := by
 rw [flat39_append, flat39_append, List.set_append_right _ _ (by rw [flat39_len]; omega), flat39_len, Nat.add_sub_cancel_left]
 rfl
theorem R39_of_own {W : World} {base : Nat} {v : Value} {xs : List S39} (h : W.ownsRow base 39 2 v xs.length (flat39 xs)) : Kd.R k39 39 W base (fun _ => True) v xs := by
 refine ⟨fun _ _ => trivial, flat39 xs, h, ?_⟩
 refine ⟨by rw [flat39_len]; rfl, fun j p hp => ?_⟩
 obtain ⟨hj, e⟩ := List.getElem?_eq_some_iff.1 hp
 have e2 : xs = xs.take j ++ p :: xs.drop (j + 1) := by rw [← e]; simp
 have e3 : (flat39 xs).drop (j * 2) = [Value.int .i64 p.f0, .int .i64 p.f1] ++ flat39 (xs.drop (j + 1)) := by
  have e4 : (flat39 (xs.take j)).length = j * 2 := by rw [flat39_len, List.length_take]; omega
  have e6 : flat39 xs = flat39 (xs.take j) ++ flat39 (p :: xs.drop (j + 1)) := by rw [← flat39_append]; exact congrArg flat39 e2
  rw [e6, ← e4, List.drop_left]
  rfl
 have e5 : ((flat39 xs).drop (j * k39.sz)).take k39.sz = [Value.int .i64 p.f0, .int .i64 p.f1] := by
  show ((flat39 xs).drop (j * 2)).take 2 = _
  rw [e3]
  rfl
 rw [e5]
 exact k39_mkM W base _ p

def elevator_Runs.T9 : Bool × List (List Nat × List Nat) := (true, [([], []), ([], []), ([1], [1]), ([2], [2]), ([0, 3], [0, 3]), ([4], [4]), ([5], [5]), ([], []), ([7], [7]), ([6, 8], [6, 8]), ([0, 3, 0, 1, 2, 3, 4, 5, 6, 7, 8, 9], [0, 3]), ([10, 0, 1, 2, 3, 4, 5, 6, 7, 8, 9], [10]), ([11, 9, 0, 1, 2, 3, 4, 5, 6, 7, 8, 9], [9, 11])])
def elevator_Runs.B9 : List Nat := [0, 0, 2, 6, 15, 31, 63, 0, 128, 511, 1023, 2047, 4095]
theorem elevator_Runs.tab9 : rtab .any (opsOf Try.f16 9) = elevator_Runs.T9 := by kernel_rfl
theorem elevator_Runs.bits9 : waitsOk elevator_Runs.T9.2 elevator_Runs.B9 = true := by kernel_rfl
def runsS (out : List S39) (x : Int × S37) : Option (List S39) :=
 if x.1 = x.2.f0 then (if out.length = 0 then none else some (out.dropLast ++ [⟨(out.getD (out.length - 1) z39).f0, wrap64 ((out.getD (out.length - 1) z39).f1 + x.2.f1)⟩]))
 else if out.length < 8796093022208 then some (out ++ [⟨x.2.f0, wrap64 (x.2.f0 + x.2.f1)⟩]) else none
def elevator_Runs.f (k : Nat) (l0 : List (S37)) : Option (List S39 × Int) := if l0.length ≤ 4611686018427387904 then (elevator_Check.f k l0).bind fun t => (if t = 0 then ((servedL (-1) l0).foldlM runsS []).bind fun r => some (r, 0) else some ([], t)) else none
theorem elevator_Runs.mono : ∀ a0 k, LeO (elevator_Runs.f k a0) (elevator_Runs.f (k + 1) a0) := by
 intro a1 k r h
 unfold elevator_Runs.f at h ⊢
 by_cases hl : a1.length ≤ 4611686018427387904
 ·rw [if_pos hl] at h ⊢
  obtain ⟨t, ht, h⟩ := Option.bind_eq_some_iff.mp h
  exact Option.bind_eq_some_iff.mpr ⟨t, elevator_Check.mono a1 k _ ht, h⟩
 ·rw [if_neg hl] at h; cases h
theorem foldlM_pre {α β : Type} {f : β → α → Option β} {b r : β} {pre ys : List α} (h : ys.foldlM f b = some r) (hp : pre <+: ys) : ∃ r', pre.foldlM f b = some r' := by
 obtain ⟨t, rfl⟩ := hp
 rw [List.foldlM_append] at h
 exact (Option.bind_eq_some_iff.mp h).imp fun _ h => h.1

set_option maxRecDepth 100000 in
set_option maxHeartbeats 2000000 in
theorem elevator_Runs.calls (k : Nat) (A0 : Option Addr) (c0 : Nat) (l0 : List (S37)) (r1 : List (S39)) (r2 : Int) (w : World) (hr0 : Kd.C k37 w A0 l0.length l0) (hc0 : l0.length ≤ c0) (h : elevator_Runs.f k l0 = some (r1, r2)) :
  Calls Try.prog 16 #[.slice A0 l0.length c0] w fun e w' => ∃ v0_ : Value, e = .returned (.tuple #[v0_, .int .i64 r2]) ∧ Kd.R k39 39 w' w.heap.size (fun _ => True) v0_ r1 ∧ Below w.heap.size w w' := by
 unfold elevator_Runs.f at h
 by_cases hl : l0.length ≤ 4611686018427387904
 case neg => rw [if_neg hl] at h; cases h
 rw [if_pos hl] at h
 obtain ⟨t, ht, h⟩ := Option.bind_eq_some_iff.mp h
 have hR := elevator_Check.calls k A0 c0 l0 t w hr0 hc0 ht
 refine (callsIn_wide (n := 4)).1 ?_
 refine callsIn_of_wp_marks Try.func16 rfl trivial ?_ rfl
 simp only [Try.ntmps16, List.size_toArray, List.length_cons, List.length_nil, Nat.reduceAdd, Nat.reduceSub, Array.replicate_succ, Array.replicate_zero, List.push_toArray, List.append_toArray, List.nil_append, List.cons_append]
 by_cases h0 : t = 0
 case neg =>
  have hb : (t != 0) = true := by simpa using h0
  rw [if_neg h0] at h
  cases h
  gi_wp2_with (refine ⟨trivial, ?_⟩; gi_at_call 20; refine (callsIn_wide.2 hR).mono ?_; rintro e w' ⟨rfl, hb⟩)
  exact ⟨_, results_tmp2 rfl _ _ _, _, rfl, Kd.R_nil _ _ _ _ _, hb⟩
 case pos =>
  subst h0
  rw [if_pos rfl] at h
  obtain ⟨rr, hrr, h⟩ := Option.bind_eq_some_iff.mp h
  cases h
  gi_wp2_with (first | (refine ⟨trivial, ?_⟩; gi_at_call 20; refine (callsIn_wide.2 hR).mono ?_; rintro e w' ⟨rfl, hb⟩) | (refine ⟨trivial, ?_⟩; gi_at_call 70; refine (served_in _ _ _ _ _).mono ?_; rintro e w' ⟨rfl, rfl⟩))
  obtain ⟨W0, hW0⟩ : ∃ W0, W0 = ((w'.alloc (.cells #[.slice none 0 0] 27)).alloc (.cells #[.int .i64 (-1)] 3)).alloc (.cells #[.slice A0 l0.length c0] 22) := ⟨_, rfl⟩
  have hsz := hb.size
  have hW0s : W0.heap.size = w'.heap.size + 3 := by rw [hW0]; simp
  have b0 : Boxed W0 w'.heap.size 27 (.slice none 0 0) := by rw [hW0]; exact ((Boxed.new w' 27 (.slice none 0 0)).alloc _).alloc _
  have b1 : Boxed W0 (w'.heap.size + 1) 3 (.int .i64 (-1)) := by
   have := (Boxed.new (w'.alloc (.cells #[.slice none 0 0] 27)) 3 (.int .i64 (-1))).alloc (.cells #[.slice A0 l0.length c0] 22)
   rw [hW0]; simpa using this
  have b2 : Boxed W0 (w'.heap.size + 2) 22 (.slice A0 l0.length c0) := by
   have := Boxed.new ((w'.alloc (.cells #[.slice none 0 0] 27)).alloc (.cells #[.int .i64 (-1)] 3)) 22 (.slice A0 l0.length c0)
   rw [hW0]; simpa using this
  have hB0 : Below w.heap.size w W0 := by rw [hW0]; exact ((hb.alloc hsz _).alloc (by simp; omega) _).alloc (by simp; omega) _
  rw [← hW0]
  clear hW0
  refine wpIn_rangeFunc_O (gf := 101) (lb := #[.pointer (some ⟨w'.heap.size + 2, 0, none⟩), .pointer (some ⟨w'.heap.size + 1, 0, none⟩)]) rfl (enters_of Try.func101 (by kernel_rfl) rfl)
   (served_seq w W0 (w'.heap.size + 2) (w'.heap.size + 1) A0 c0 l0 (-1) hB0 (by omega) (by omega) (by omega) b2 b1 hr0 hl) (fun r hr => by omega) (fun _ => rfl)
   (fun O pre W => ∃ out v, pre.foldlM runsS [] = some out ∧ (∀ k, O k ↔ k = w'.heap.size ∨ v.ownBlock = some k) ∧ Boxed W w'.heap.size 27 v ∧ W.ownsRow (w'.heap.size + 3) 39 2 v out.length (flat39 out) ∧ Below w.heap.size w W)
   (fun _ _ _ _ => False) ⟨?lt, ?step⟩ (fun _ => ⟨fun _ _ _ h => h.elim, fun _ _ _ _ _ h => h.elim⟩) (fun k => k = w'.heap.size) (fun k hk => by omega) ⟨[], .slice none 0 0, rfl, by simp [Value.ownBlock], b0, World.ownsRow_nil _ _ _ _, hB0⟩ ?round ?done ?stop
  case lt =>
   rintro O pre W ⟨out, v, _, h1, h2, h3, _⟩ k hk
   rcases (h1 k).1 hk with rfl | hk
   ·exact h2.lt
   ·rcases h3.2 with ⟨rfl, _⟩ | ⟨g, cap, cur, rfl, _, hg, _⟩
    ·cases hk
    ·cases hk; exact (Array.getElem?_eq_some_iff.1 hg).1
  case step =>
   rintro O pre W W' S ⟨out, v, hf, h1, h2, h3, h4⟩ hS hs
   exact ⟨out, v, hf, h1, hS.boxed h2 (fun h => (hs _ h).1 ((h1 _).2 (Or.inl rfl))), ownsRow_step hS h3 (fun g hg h => (hs _ h).1 ((h1 _).2 (Or.inr hg))), h4.trans (hS.below h4.size (fun k hk => by have := (hs k hk).2; omega))⟩
  case round =>
   rintro l O pre x W hl hWs - hpre
   obtain ⟨out', hf'⟩ := foldlM_pre hrr hpre
   dsimp only [encH]
   gi_wp2
   refine ⟨Step.alloc _ _ _, ?_⟩
   rintro Wb hsb ⟨out, v, hf, h1, h2, h3, h4⟩
   have hst : runsS out x = some out' := by rw [List.foldlM_append, hf] at hf'; simpa using hf'
   have hx := hsb.block (World.alloc_heap_new W (.cells #[.int .i64 x.2.f0, .int .i64 x.2.f1, .int .i64 x.2.f2] 37)) (by omega)
   have hx0 : Wb.cell? ⟨W.heap.size, 0, none⟩ = some (.int .i64 x.2.f0) := by simp [World.cell?, hx]
   have hx1 : Wb.cell? ⟨W.heap.size, 1, none⟩ = some (.int .i64 x.2.f1) := by simp [World.cell?, hx]
   have hc4 := h2.cell
   have hf4 := h2.frozen
   unfold runsS at hst
   by_cases hc : x.1 = x.2.f0
   ·rw [if_pos hc] at hst
    have hcb : (x.1 == x.2.f0) = true := beq_iff_eq.mpr hc
    rcases List.eq_nil_or_concat out with rfl | ⟨init, last, rfl⟩
    ·simp at hst
    ·simp only [List.concat_eq_append] at hf h3 hst
     rw [if_neg (by simp)] at hst
     simp only [List.dropLast_concat, List.length_append, List.length_cons, List.length_nil, Nat.zero_add, Nat.add_sub_cancel, Option.some.injEq] at hst
     have hget : (init ++ [last]).getD init.length z39 = last := by simp [List.getD]
     rw [hget] at hst
     rw [List.length_append, List.length_singleton] at h3
     obtain ⟨nn, hnn⟩ : ∃ nn, nn = init.length + 1 := ⟨_, rfl⟩
     rw [← hnn] at h3
     obtain ⟨g, cap, rfl, hgn, hgs, hgf⟩ := ownsRow_form h3 (by omega)
     have hg1 := ownsRow_cell h3 (j := init.length * 2 + 1) (by rw [flat39_at]; rfl)
     have hgf1 := ownsRow_frozen h3 (init.length * 2 + 1)
     have hw1 : wrap64 ((nn : Int) - 1) = (init.length : Int) := by unfold maxLen at hgf; unfold wrap64; omega
     have hw2 : init.length < nn := by omega
     have hnn' := Aside0.mk hnn
     clear hnn
     gi_wp2
     refine startIn_ (n := 13) (S := fun u => u.cell? ⟨w'.heap.size, 0, none⟩ = some (.slice (some ⟨g, 0, none⟩) nn cap) ∧ u.cell? ⟨W.heap.size, 1, none⟩ = some (.int .i64 x.2.f1) ∧ u.cell? ⟨g, init.length * 2 + 1, none⟩ = some (.int .i64 last.f1)) (ds := [12]) (by rintro ⟨_, _, h⟩; exact h) (by kernel_rfl) #[false, false, false, false, false, false, false, false, false, false, false, false, false] (by kernel_rfl) rfl rfl ⟨hc4, hx1, hg1⟩ (fun hHeld => ?_); refine with_tabW elevator_Runs.tab9 elevator_Runs.bits9 (fun HT_ HW_ => ?_)
     have hgf2 : (Wb.drew).frozen? ⟨g, init.length * 2 + 1, none⟩ = false := hgf1
     refine take_ (i := 0) (N := some 21) (v := ?_) (a' := ?_) #[true, false, false, false, false, false, false, false, false, false, false, false, false] rfl rfl (take_ofW HT_.out HW_.out (by kernel_rfl)) (fun _ _ _ h => h) (Or.inl ⟨by rfl, ?_⟩) hHeld ?_ ?_
     rotate_left
     ·rintro w' ⟨s0, s1, s2⟩
      go_simp
      with_reducible rfl
     rotate_left
     ·simp only [Act.put, List.setIfInBounds_toArray, List.set_cons_zero, List.set_cons_succ, i64_w, i32_w]
      rfl
     refine take_ (i := 1) (N := some 22) (v := ?_) (a' := ?_) #[true, true, false, false, false, false, false, false, false, false, false, false, false] rfl rfl (take_ofW HT_.out HW_.out (by kernel_rfl)) (fun _ _ _ h => h) (Or.inl ⟨by rfl, ?_⟩) hHeld ?_ ?_
     rotate_left
     ·rintro w' ⟨s0, s1, s2⟩
      go_simp
      with_reducible rfl
     rotate_left
     ·simp only [Act.put, List.setIfInBounds_toArray, List.set_cons_zero, List.set_cons_succ, i64_w, i32_w]
      rfl
     refine pure_ (i := 2) (N := some 23) (v := ?_) (a' := ?_) #[true, true, true, false, false, false, false, false, false, false, false, false, false] rfl rfl (any_of HT_.out (by kernel_rfl)) (fun _ _ _ h => h) (Or.inl ⟨by rfl, ?_⟩) ?_ ?_
     rotate_left
     ·intro w'
      go_simp
      with_reducible rfl
     rotate_left
     ·simp only [Act.put, List.setIfInBounds_toArray, List.set_cons_zero, List.set_cons_succ, i64_w, i32_w]
      rfl
     refine pure_ (i := 3) (N := some 24) (v := ?_) (a' := ?_) #[true, true, true, true, false, false, false, false, false, false, false, false, false] rfl rfl (any_of HT_.out (by kernel_rfl)) (fun _ _ _ h => h) (Or.inl ⟨by rfl, ?_⟩) ?_ ?_
     rotate_left
     ·intro w'
      go_simp
      with_reducible rfl
     rotate_left
     ·simp only [Act.put, List.setIfInBounds_toArray, List.set_cons_zero, List.set_cons_succ, i64_w, i32_w]
      rfl
     refine pure_ (i := 4) (N := some 25) (v := ?_) (a' := ?_) #[true, true, true, true, true, false, false, false, false, false, false, false, false] rfl rfl (any_of HT_.out (by kernel_rfl)) (fun _ _ _ h => h) (Or.inl ⟨by rfl, ?_⟩) ?_ ?_
     rotate_left
     ·intro w'
      go_simp
      with_reducible rfl
     rotate_left
     ·simp only [Act.put, List.setIfInBounds_toArray, List.set_cons_zero, List.set_cons_succ, i64_w, i32_w]
      rfl
     refine pure_ (i := 5) (N := some 26) (v := ?_) (a' := ?_) #[true, true, true, true, true, true, false, false, false, false, false, false, false] rfl rfl (any_of HT_.out (by kernel_rfl)) (fun _ _ _ h => h) (Or.inl ⟨by rfl, ?_⟩) ?_ ?_
     rotate_left
     ·intro w'
      go_simp
      with_reducible rfl
     rotate_left
     ·simp only [Act.put, List.setIfInBounds_toArray, List.set_cons_zero, List.set_cons_succ, i64_w, i32_w]
      rfl
     refine take_ (i := 6) (N := some 27) (v := ?_) (a' := ?_) #[true, true, true, true, true, true, true, false, false, false, false, false, false] rfl rfl (take_ofW HT_.out HW_.out (by kernel_rfl)) (fun _ _ _ h => h) (Or.inl ⟨by rfl, ?_⟩) hHeld ?_ ?_
     rotate_left
     ·rintro w' ⟨s0, s1, s2⟩
      go_simp
      with_reducible rfl
     rotate_left
     ·simp only [Act.put, List.setIfInBounds_toArray, List.set_cons_zero, List.set_cons_succ, i64_w, i32_w]
      rfl
     refine pure_ (i := 7) (N := some 28) (v := ?_) (a' := ?_) #[true, true, true, true, true, true, true, true, false, false, false, false, false] rfl rfl (any_of HT_.out (by kernel_rfl)) (fun _ _ _ h => h) (Or.inl ⟨by rfl, ?_⟩) ?_ ?_
     rotate_left
     ·intro w'
      go_simp
      with_reducible rfl
     rotate_left
     ·simp only [Act.put, List.setIfInBounds_toArray, List.set_cons_zero, List.set_cons_succ, i64_w, i32_w]
      rfl
     refine take_ (i := 8) (N := some 29) (v := ?_) (a' := ?_) #[true, true, true, true, true, true, true, true, true, false, false, false, false] rfl rfl (take_ofW HT_.out HW_.out (by kernel_rfl)) (fun _ _ _ h => h) (Or.inl ⟨by rfl, ?_⟩) hHeld ?_ ?_
     rotate_left
     ·rintro w' ⟨s0, s1, s2⟩
      go_simp
      with_reducible rfl
     rotate_left
     ·simp only [Act.put, List.setIfInBounds_toArray, List.set_cons_zero, List.set_cons_succ, i64_w, i32_w]
      rfl
     refine pure_ (i := 9) (N := some 30) (v := ?_) (a' := ?_) #[true, true, true, true, true, true, true, true, true, true, false, false, false] rfl rfl (any_of HT_.out (by kernel_rfl)) (fun _ _ _ h => h) (Or.inl ⟨by rfl, ?_⟩) ?_ ?_
     rotate_left
     ·intro w'
      go_simp
      with_reducible rfl
     rotate_left
     ·simp only [Act.put, List.setIfInBounds_toArray, List.set_cons_zero, List.set_cons_succ, i64_w, i32_w]
      rfl
     refine pure_ (i := 10) (N := some 31) (v := ?_) (a' := ?_) #[true, true, true, true, true, true, true, true, true, true, true, false, false] rfl rfl (any_of HT_.out (by kernel_rfl)) (fun _ _ _ h => h) (Or.inl ⟨by rfl, ?_⟩) ?_ ?_
     rotate_left
     ·intro w'
      go_simp
      with_reducible rfl
     rotate_left
     ·simp only [Act.put, List.setIfInBounds_toArray, List.set_cons_zero, List.set_cons_succ, i64_w, i32_w]
      rfl
     refine pure_ (i := 11) (N := some 32) (v := ?_) (a' := ?_) #[true, true, true, true, true, true, true, true, true, true, true, true, false] rfl rfl (any_of HT_.out (by kernel_rfl)) (fun _ _ _ h => h) (Or.inl ⟨by rfl, ?_⟩) ?_ ?_
     rotate_left
     ·intro w'
      go_simp
      with_reducible rfl
     rotate_left
     ·simp only [Act.put, List.setIfInBounds_toArray, List.set_cons_zero, List.set_cons_succ, i64_w, i32_w]
      rfl
     refine last_ (i := 12) (N := none) #[true, true, true, true, true, true, true, true, true, true, true, true, true] rfl rfl (one_of HT_.out (by kernel_rfl)) (by decide) (fun K hK => ?_)
     refine skip_ (w1 := ?_) (by rfl) rfl ?_ ?_
     rotate_left
     ·go_simp
      rfl
     refine hK.out _ _ ?_
     clear hK K
     refine done_ (done_of HT_.out (by kernel_rfl)) ?_
     gi_wp2
     have hs1 : Step O Wb (Wb.drew.setCell ⟨g, init.length * 2 + 1, none⟩ (.int .i64 (wrap64 (last.f1 + x.2.f1)))) :=
      (Step.drew O Wb).trans (Step.setCell (S := O) _ (p := ⟨g, init.length * 2 + 1, none⟩) ((h1 g).2 (Or.inr rfl)) _) (fun _ h => h) (fun _ h => Or.inl h)
     subst hst
     refine ⟨O, fun q hq => Or.inl hq, hs1, _, .slice (some ⟨g, 0, none⟩) nn cap, hf', h1, ?_, ?_, ?_⟩
     ·exact (Step.setCell (S := fun q => q = g) Wb.drew (p := ⟨g, init.length * 2 + 1, none⟩) rfl _).boxed (show Boxed Wb.drew w'.heap.size 27 _ from h2) (by omega)
     ·have e : (init ++ [(⟨last.f0, wrap64 (last.f1 + x.2.f1)⟩ : S39)]).length = nn := by simp [hnn'.out]
      rw [e, ← flat39_set1]
      exact ownsRow_set (show Wb.drew.ownsRow _ _ _ _ _ _ from h3) _ _
     ·exact h4.trans (hs1.below h4.size (fun q hq => by rcases (h1 q).1 hq with rfl | h <;> first | omega | (simp [Value.ownBlock] at h; omega)))
   ·rw [if_neg hc] at hst
    have hcb : (x.1 == x.2.f0) = false := beq_eq_false_iff_ne.mpr hc
    by_cases hlo : out.length < 8796093022208
    case neg => rw [if_neg hlo] at hst; cases hst
    rw [if_pos hlo] at hst
    cases hst
    obtain ⟨hbk, A, n, c, rfl⟩ : (∀ q, v.ownBlock = some q → w'.heap.size + 3 ≤ q ∧ q < Wb.heap.size) ∧ ∃ A n c, v = .slice A n c := by
     rcases h3.2 with ⟨rfl, _⟩ | ⟨g, cap, cur, rfl, hgn, hg, _⟩
     ·exact ⟨fun q hq => by simp [Value.ownBlock] at hq, _, _, _, rfl⟩
     ·exact ⟨fun q hq => by simp [Value.ownBlock] at hq; subst hq; exact ⟨hgn, (Array.getElem?_eq_some_iff.1 hg).1⟩, _, _, _, rfl⟩
    have hcell := World.news_of_block (cs := #[.int .i64 x.2.f0, .int .i64 (wrap64 (x.2.f0 + x.2.f1))]) (t := 39) (fr := (0, 0)) (World.alloc_heap_new Wb (.cells #[.int .i64 x.2.f0, .int .i64 (wrap64 (x.2.f0 + x.2.f1))] 39))
    have hb3 : w'.heap.size + 3 ≤ (Wb.alloc (.cells #[.int .i64 x.2.f0, .int .i64 (wrap64 (x.2.f0 + x.2.f1))] 39)).heap.size := by have := hsb.size; simp at this ⊢; omega
    gi_wp2_with (gi_at_builtin; refine wpListIn_append_at _ rfl _ _ 27 rfl (w'.heap.size + 3) 39 (.agg #[(.int .i64 0), (.int .i64 0)]) 2 16 Try.underlying27 info39 rfl (by decide) (.slice A n c) out.length (flat39 out) rfl (h3.alloc _) ⟨Wb.heap.size, 0, none⟩ 1 1 [.int .i64 x.2.f0, .int .i64 (wrap64 (x.2.f0 + x.2.f1))] rfl rfl (by simpa using hcell) (by simp [Value.oneCell']) (by unfold maxLen; omega) (by omega) hb3 ?_; intro v1 w1 hown1 hg1 _ hat1; obtain ⟨g1, cap1, rfl, hgn1, hgs1, _⟩ := ownsRow_form hown1 (by omega); have hv1 := (h2.alloc (.cells #[.int .i64 x.2.f0, .int .i64 (wrap64 (x.2.f0 + x.2.f1))] 39)).kept hg1 (fun e => by have := hbk _ e.symm; omega); have hc1 := hv1.cell; have hf1 := hv1.frozen)
    have hs1 : Step O Wb w1 := (Step.alloc O Wb _).trans (Step.grown hg1 (S := O) (fun q hq => (h1 q).2 (Or.inr hq))) (fun _ h => h) (fun _ h => Or.inl h)
    have hs2 : Step O w1 (w1.setCell ⟨w'.heap.size, 0, none⟩ (.slice (some ⟨g1, 0, none⟩) (out.length + 1) cap1)) := Step.setCell (S := O) w1 (p := ⟨w'.heap.size, 0, none⟩) ((h1 _).2 (Or.inl rfl)) _
    refine ⟨fun q => q = w'.heap.size ∨ q = g1, fun q hq => ?_, hs1.trans hs2 (fun _ h => h) (fun _ h => Or.inl h), _, hf', Value.slice (some ⟨g1, 0, none⟩) (out.length + 1) cap1, fun q => ?_, hv1.set _, ?_, ?_⟩
    ·rcases hq with rfl | rfl
     ·exact Or.inl ((h1 _).2 (Or.inl rfl))
     ·rcases hat1 with e | e
      ·exact Or.inl ((h1 _).2 (Or.inr e.symm))
      ·right; simp [Value.ownBlock] at e; omega
    ·simp [Value.ownBlock, eq_comm]
    ·have e : (out ++ [(⟨x.2.f0, wrap64 (x.2.f0 + x.2.f1)⟩ : S39)]).length = out.length + 1 := by simp
     rw [e, flat39_append]
     exact ownsRow_step (Step.setCell (S := fun q => q = w'.heap.size) w1 (p := ⟨w'.heap.size, 0, none⟩) rfl _) hown1 (fun q hq => by simp [Value.ownBlock] at hq; omega)
    ·have := (hs1.trans hs2 (fun _ h => h) (fun _ h => Or.inl h)).below (n₀ := w.heap.size) h4.size (fun q hq => by rcases (h1 q).1 hq with rfl | h <;> first | omega | (have := hbk _ h; omega))
     exact h4.trans this
  case done =>
   rintro D O W hD hOD ⟨out, v, hf, h1, h2, h3, h4⟩ hK
   rw [hrr] at hf
   cases hf
   have hc4 := h2.cell
   gi_wp2
   refine ⟨by simp, .inl ⟨_, _, rfl, run_takeDeferred hK, ?_⟩⟩
   refine ⟨_, results_tmp2 rfl _ _ _, v, rfl, R39_of_own ?_, h4.trans ((Step.put _ _ _).below h4.size (fun k hk => by omega))⟩
   have h5 : W.ownsRow w.heap.size 39 2 v r1.length (flat39 r1) := ⟨h3.1, h3.2.imp id fun ⟨g, cap, cur, e, hb, h⟩ => ⟨g, cap, cur, e, by omega, h⟩⟩
   exact ownsRow_step (Step.put _ _ _) h5 (fun g hg h => by rw [h] at hg; exact hOD ((h1 D).2 (Or.inr hg)))
  case stop => rintro D O c pre W _ _ _ h; exact h.elim
end

section
open Go Go.Shelf Go.Proofs.Ytgahpdoiddhdaaa.Seq Go.Proofs.YtgahpdoiddhdaaaW.PrintLast
attribute [local go_sem] Oper.semAt_some
def wayS (n : Int) (x : Int × S37) : Int := wrap64 (n + (wrap64 ((mx (wrap64 (x.2.f0 - x.1)) (wrap64 (x.1 - x.2.f0))) + x.2.f1)))
def elevator_Way.f (k : Nat) (a0 : Int) (l1 : List (S37)) : Option (Int × Int) := if l1.length ≤ 4611686018427387904 then (elevator_ready.f k a0 l1).bind fun t => (if t = 0 then some ((servedL a0 l1).foldl wayS 0, 0) else some (0, t)) else none
theorem elevator_Way.mono : ∀ a0 a1 k, LeO (elevator_Way.f k a0 a1) (elevator_Way.f (k + 1) a0 a1) := by
 intro a0 a1 k r h
 unfold elevator_Way.f at h ⊢
 by_cases hl : a1.length ≤ 4611686018427387904
 ·rw [if_pos hl] at h ⊢
  obtain ⟨t, ht, h⟩ := Option.bind_eq_some_iff.mp h
  exact Option.bind_eq_some_iff.mpr ⟨t, elevator_ready.mono a0 a1 k _ ht, h⟩
 ·rw [if_neg hl] at h; cases h
set_option maxRecDepth 100000 in
set_option maxHeartbeats 2000000 in
theorem elevator_Way.calls (k : Nat) (a0 : Int) (A1 : Option Addr) (c1 : Nat) (l1 : List (S37)) (r1 : Int) (r2 : Int) (w : World) (hr1 : Kd.C k37 w A1 l1.length l1) (hc1 : l1.length ≤ c1) (h : elevator_Way.f k a0 l1 = some (r1, r2)) :
  Calls Try.prog 18 #[.int .i64 a0, .slice A1 l1.length c1] w fun e w' => e = .returned (.tuple #[.int .i64 r1, .int .i64 r2]) ∧ Below w.heap.size w w' := by
 unfold elevator_Way.f at h
 by_cases hl : l1.length ≤ 4611686018427387904
 case neg => rw [if_neg hl] at h; cases h
 rw [if_pos hl] at h
 obtain ⟨t, ht, h⟩ := Option.bind_eq_some_iff.mp h
 have hR := elevator_ready.calls k a0 A1 c1 l1 t w hr1 hc1 ht
 refine (callsIn_wide (n := 4)).1 ?_
 refine callsIn_of_wp_marks Try.func18 rfl trivial ?_ rfl
 simp only [Try.ntmps18, List.size_toArray, List.length_cons, List.length_nil, Nat.reduceAdd, Nat.reduceSub, Array.replicate_succ, Array.replicate_zero, List.push_toArray, List.append_toArray, List.nil_append, List.cons_append]
 by_cases h0 : t = 0
 case neg =>
  have hb : (t != 0) = true := by simpa using h0
  rw [if_neg h0] at h
  cases h
  gi_wp2_with (refine ⟨trivial, ?_⟩; gi_at_call 60; refine (callsIn_wide.2 hR).mono ?_; rintro e w' ⟨rfl, hb⟩)
  exact ⟨_, results_tmp2 rfl _ _ _, rfl, hb⟩
 case pos =>
  subst h0
  rw [if_pos rfl] at h
  cases h
  gi_wp2_with (first | (refine ⟨trivial, ?_⟩; gi_at_call 60; refine (callsIn_wide.2 hR).mono ?_; rintro e w' ⟨rfl, hb⟩) | (refine ⟨trivial, ?_⟩; gi_at_call 70; refine (served_in _ _ _ _ _).mono ?_; rintro e w' ⟨rfl, rfl⟩))
  obtain ⟨W0, hW0⟩ : ∃ W0, W0 = ((w'.alloc (.cells #[.int .i64 0] 3)).alloc (.cells #[.int .i64 a0] 3)).alloc (.cells #[.slice A1 l1.length c1] 22) := ⟨_, rfl⟩
  have hsz := hb.size
  have hW0s : W0.heap.size = w'.heap.size + 3 := by rw [hW0]; simp
  have b0 : Boxed W0 w'.heap.size 3 (.int .i64 0) := by rw [hW0]; exact ((Boxed.new w' 3 (.int .i64 0)).alloc _).alloc _
  have b1 : Boxed W0 (w'.heap.size + 1) 3 (.int .i64 a0) := by
   have := (Boxed.new (w'.alloc (.cells #[.int .i64 0] 3)) 3 (.int .i64 a0)).alloc (.cells #[.slice A1 l1.length c1] 22)
   rw [hW0]; simpa using this
  have b2 : Boxed W0 (w'.heap.size + 2) 22 (.slice A1 l1.length c1) := by
   have := Boxed.new ((w'.alloc (.cells #[.int .i64 0] 3)).alloc (.cells #[.int .i64 a0] 3)) 22 (.slice A1 l1.length c1)
   rw [hW0]; simpa using this
  have hB0 : Below w.heap.size w W0 := by rw [hW0]; exact ((hb.alloc hsz _).alloc (by simp; omega) _).alloc (by simp; omega) _
  rw [← hW0]
  clear hW0
  refine wpIn_rangeFunc_O (gf := 101) (lb := #[.pointer (some ⟨w'.heap.size + 2, 0, none⟩), .pointer (some ⟨w'.heap.size + 1, 0, none⟩)]) rfl (enters_of Try.func101 (by kernel_rfl) rfl)
   (served_seq w W0 (w'.heap.size + 2) (w'.heap.size + 1) A1 c1 l1 a0 hB0 (by omega) (by omega) (by omega) b2 b1 hr1 hl) (fun r hr => by omega) (fun _ => rfl)
   (fun O pre W => (∀ k, O k ↔ k = w'.heap.size) ∧ Boxed W w'.heap.size 3 (.int .i64 (pre.foldl wayS 0)) ∧ Below w.heap.size w W)
   (fun _ _ _ _ => False) ⟨?lt, ?step⟩ (fun _ => ⟨fun _ _ _ h => h.elim, fun _ _ _ _ _ h => h.elim⟩) (fun k => k = w'.heap.size) (fun k hk => by omega) ⟨fun k => Iff.rfl, b0, hB0⟩ ?round ?done ?stop
  case lt => rintro O pre W ⟨h1, h2, _⟩ k hk; rw [(h1 k).1 hk]; exact h2.lt
  case step =>
   rintro O pre W W' S ⟨h1, h2, h3⟩ hS hs
   exact ⟨h1, hS.boxed h2 (fun h => (hs _ h).1 ((h1 _).2 rfl)), h3.trans (hS.below h3.size (fun k hk => by have := (hs k hk).2; omega))⟩
  case round =>
   rintro l O pre x W hl hWs ⟨h1, h2, h3⟩ hpre
   dsimp only [encH]
   gi_wp2
   refine ⟨Step.alloc _ _ _, ?_⟩
   rintro Wb hsb ⟨_, h4, h5⟩
   have hx := hsb.block (World.alloc_heap_new W (.cells #[.int .i64 x.2.f0, .int .i64 x.2.f1, .int .i64 x.2.f2] 37)) (by omega)
   have hx0 : Wb.cell? ⟨W.heap.size, 0, none⟩ = some (.int .i64 x.2.f0) := by simp [World.cell?, hx]
   have hx1 : Wb.cell? ⟨W.heap.size, 1, none⟩ = some (.int .i64 x.2.f1) := by simp [World.cell?, hx]
   have hc4 := h4.cell
   have hf4 := h4.frozen
   gi_wp2
   all_goals refine ⟨O, fun k hk => Or.inl hk, Step.setCell (S := O) Wb (p := ⟨w'.heap.size, 0, none⟩) ((h1 _).2 rfl) _, h1, ?_, h5.setCell (p := ⟨w'.heap.size, 0, none⟩) hsz _⟩
   all_goals simp only [List.foldl_append, List.foldl_cons, List.foldl_nil, wayS]
   all_goals first | exact h4.set _ | (simp only [mx]; rw [if_pos (by omega)]; exact h4.set _) | (simp only [mx]; rw [if_neg (by omega)]; exact h4.set _)
  case done =>
   rintro D O W hD hOD ⟨h1, h2, h3⟩ hK
   have hc4 := h2.cell
   gi_wp2
   refine ⟨by simp, .inl ⟨_, _, rfl, run_takeDeferred hK, ?_⟩⟩
   exact ⟨_, results_tmp2 rfl _ _ _, rfl, h3.trans ((Step.put _ _ _).below h3.size (fun k hk => by omega))⟩
  case stop => rintro D O c pre W _ _ _ h; exact h.elim
end

def caulkref40_Same.l0 : Nat → List (S37) → List (S37) → Int → Int → Option (Bool)
 | 0, _, _, _, _ => none
 | k + 1, x0, x1, x12, x13 => if x13 < x12 then (if 0 ≤ x13 then (if x13 < (x0.length : Int) then (if x13 < (x1.length : Int) then (if (!(((rd_T37 x0 x13).f0) == ((rd_T37 x1 x13).f0)) || (!(((rd_T37 x0 x13).f1) == ((rd_T37 x1 x13).f1)) || (!(((rd_T37 x0 x13).f2) == ((rd_T37 x1 x13).f2))))) = true then (some false) else (caulkref40_Same.l0 k x0 x1 x12 (wrap64 (x13 + 1)))) else (none)) else (none)) else (none)) else (some true)
def caulkref40_Same.f (k : Nat) (l0 : List (S37)) (l1 : List (S37)) : Option (Bool) := if (l0.length : Int) = (l1.length : Int) then (caulkref40_Same.l0 k l0 l1 (l0.length : Int) 0) else (some false)
theorem caulkref40_Same.mono_l : ∀ k, (∀ y0 y1 y2 y3, LeO (caulkref40_Same.l0 k y0 y1 y2 y3) (caulkref40_Same.l0 (k + 1) y0 y1 y2 y3))
 | 0 => fun _ _ _ _ r h => by simp [caulkref40_Same.l0] at h
 | k + 1 => by
  have ih0 := caulkref40_Same.mono_l k
  ·intro y0 y1 y2 y3
   unfold caulkref40_Same.l0
   repeat' first
   | (with_reducible exact ih0 _ _ _ _)
   | (with_reducible exact LeO.refl _)
   | (with_reducible exact LeO.none _)
   | (with_reducible refine LeO.ite ?_ ?_)
   | (with_reducible refine LeO.bind ?_ (fun _ => ?_))
   | exact ih0 _ _ _ _
   | exact LeO.none _
   | refine LeO.ite ?_ ?_
   | refine LeO.bind ?_ (fun _ => ?_)
theorem caulkref40_Same.mono : ∀ a0 a1 k, LeO (caulkref40_Same.f k a0 a1) (caulkref40_Same.f (k + 1) a0 a1) := by
 intro a0 a1 k
 have ih0 := caulkref40_Same.mono_l k
 unfold caulkref40_Same.f
 repeat' first
   | (with_reducible exact ih0 _ _ _ _)
   | (with_reducible exact LeO.refl _)
   | (with_reducible exact LeO.none _)
   | (with_reducible refine LeO.ite ?_ ?_)
   | (with_reducible refine LeO.bind ?_ (fun _ => ?_))
   | exact ih0 _ _ _ _
   | exact LeO.none _
   | refine LeO.ite ?_ ?_
   | refine LeO.bind ?_ (fun _ => ?_)
set_option maxHeartbeats 8000000 in
set_option maxRecDepth 100000 in
theorem caulkref40_Same.calls (k : Nat) (A0 : Option Addr) (c0 : Nat) (l0 : List (S37)) (A1 : Option Addr) (c1 : Nat) (l1 : List (S37)) (r : Bool) (w : World) (hr0 : Kd.C k37 w A0 l0.length l0) (hc0 : l0.length ≤ c0) (hr1 : Kd.C k37 w A1 l1.length l1) (hc1 : l1.length ≤ c1) (h : caulkref40_Same.f k l0 l1 = some r) :
  Calls Try.prog 22 #[.slice A0 l0.length c0, .slice A1 l1.length c1] w fun e w' => e = .returned (.bool r) ∧ Drawn0 w w' := by
 have hu37 := Try.underlying37
 have HR0 := Aside0.mk hr0
 have HC0 := Aside0.mk hc0
 clear hr0 hc0
 have HR1 := Aside0.mk hr1
 have HC1 := Aside0.mk hc1
 clear hr1 hc1
 have H : (if (l0.length : Int) = (l1.length : Int) then (caulkref40_Same.l0 k l0 l1 (l0.length : Int) 0) else (some false)) = some r := h
 clear h
 by_cases c3 : (l0.length : Int) = (l1.length : Int)
 ·rw [if_pos c3] at H
  have c3b0 : ((l0.length : Int) == (l1.length : Int)) = true := beq_iff_eq.mpr c3
  have c3b1 : ((l0.length : Int) != (l1.length : Int)) = false := bne_eq_false_iff_eq.mpr c3
  have c3b2 : (l0.length == l1.length) = true := by first | simpa using c3 | (simp at c3 ⊢; omega)
  clear c3
  have H' := Aside0.mk H
  clear H
  go_enter Try.func22, Try.ntmps22
  go_wp2
  repeat (go_quiet (fail); try go_wp2)
  go_loopg [13] k (fun kq v13 w' => ∃ (x13_1 : Int), v13 = .int .i64 x13_1 ∧ Aside0 (caulkref40_Same.l0 kq l0 l1 (l0.length : Int) x13_1 = some r) ∧ Aside0 (kq ≤ k) ∧ Drawn0 w w')
  case atStart => exact ⟨(0), (by first | rfl | (simp; done) | (simp [*]; done)), H', ⟨Nat.le_refl _⟩, by repeat (first | exact Drawn0.refl _ | apply Drawn0.step)⟩
  case round =>
   clear H'
   try clear c1
   try clear c2
   try clear p2
   try clear c3
   try clear c3b0
   try clear c3b1
   try clear c3b2
   obtain ⟨x13_1, rfl, HA, HK1, ⟨m1, rfl⟩⟩ := hrel
   cases gk with
   | zero => exact absurd HA.out (by simp [caulkref40_Same.l0])
   | succ k1 =>
    have H := HA.out
    clear HA
    simp only [caulkref40_Same.l0] at H
    by_cases c4 : x13_1 < (l0.length : Int)
    ·rw [if_pos c4] at H
     have c4b0 : decide (x13_1 < (l0.length : Int)) = true := decide_eq_true c4
     clear c4
     by_cases c5 : 0 ≤ x13_1
     ·rw [if_pos c5] at H
      have c5b0 : decide (0 ≤ x13_1) = true := decide_eq_true c5
      clear c5
      by_cases c6 : x13_1 < (l0.length : Int)
      ·rw [if_pos c6] at H
       have c6b0 : decide (x13_1 < (l0.length : Int)) = true := decide_eq_true c6
       clear c6
       by_cases c7 : x13_1 < (l1.length : Int)
       ·rw [if_pos c7] at H
        have c7b0 : decide (x13_1 < (l1.length : Int)) = true := decide_eq_true c7
        clear c7
        by_cases c8 : (!(((rd_T37 l0 x13_1).f0) == ((rd_T37 l1 x13_1).f0)) || (!(((rd_T37 l0 x13_1).f1) == ((rd_T37 l1 x13_1).f1)) || (!(((rd_T37 l0 x13_1).f2) == ((rd_T37 l1 x13_1).f2))))) = true
        ·rw [if_pos c8] at H
         have c8b0 : (!(((rd_T37 l0 x13_1).f0) == ((rd_T37 l1 x13_1).f0)) || (!(((rd_T37 l0 x13_1).f1) == ((rd_T37 l1 x13_1).f1)) || (!(((rd_T37 l0 x13_1).f2) == ((rd_T37 l1 x13_1).f2))))) = true := c8
         clear c8
         obtain rfl := Option.some.inj H
         have p7214 : 0 ≤ (x13_1 : Int) := of_decide_eq_true (by first | (with_reducible assumption) | assumption)
         have q7214 : x13_1 < (l0.length : Int) := of_decide_eq_true (by first | (with_reducible assumption) | assumption)
         obtain ⟨ad7214, e7214, hx7214_0, hx7214_1, hx7214_2⟩ := at_T37 HR0.out x13_1 p7214 q7214
         cases e7214
         replace p7214 := eq_true p7214
         replace q7214 := eq_true q7214
         have p7215 : 0 ≤ (x13_1 : Int) := of_decide_eq_true (by first | (with_reducible assumption) | assumption)
         have q7215 : x13_1 < (l1.length : Int) := of_decide_eq_true (by first | (with_reducible assumption) | assumption)
         obtain ⟨ad7215, e7215, hx7215_0, hx7215_1, hx7215_2⟩ := at_T37 HR1.out x13_1 p7215 q7215
         cases e7215
         replace p7215 := eq_true p7215
         replace q7215 := eq_true q7215
         go_wp2
         repeat (go_quiet (fail); try go_wp2)
         go_ret
         exact ⟨by first | rfl | (simp; done) | (simp [*]; done), by repeat (first | exact Drawn0.refl _ | apply Drawn0.step)⟩
        ·rw [if_neg c8] at H
         have c8b0 : (!(((rd_T37 l0 x13_1).f0) == ((rd_T37 l1 x13_1).f0)) || (!(((rd_T37 l0 x13_1).f1) == ((rd_T37 l1 x13_1).f1)) || (!(((rd_T37 l0 x13_1).f2) == ((rd_T37 l1 x13_1).f2))))) = false := by simpa using c8
         clear c8
         have H' := Aside0.mk H
         clear H
         have p7214 : 0 ≤ (x13_1 : Int) := of_decide_eq_true (by first | (with_reducible assumption) | assumption)
         have q7214 : x13_1 < (l0.length : Int) := of_decide_eq_true (by first | (with_reducible assumption) | assumption)
         obtain ⟨ad7214, e7214, hx7214_0, hx7214_1, hx7214_2⟩ := at_T37 HR0.out x13_1 p7214 q7214
         cases e7214
         replace p7214 := eq_true p7214
         replace q7214 := eq_true q7214
         have p7215 : 0 ≤ (x13_1 : Int) := of_decide_eq_true (by first | (with_reducible assumption) | assumption)
         have q7215 : x13_1 < (l1.length : Int) := of_decide_eq_true (by first | (with_reducible assumption) | assumption)
         obtain ⟨ad7215, e7215, hx7215_0, hx7215_1, hx7215_2⟩ := at_T37 HR1.out x13_1 p7215 q7215
         cases e7215
         replace p7215 := eq_true p7215
         replace q7215 := eq_true q7215
         go_wp2
         repeat (go_quiet (fail); try go_wp2)
         go_roundg k1
         case measure => have := HK1.out; omega
         case rel => exact ⟨(wrap64 (x13_1 + 1)), (by first | rfl | (simp; done) | (simp [*]; done)), H', ⟨by have := HK1.out; omega⟩, by repeat (first | exact Drawn0.refl _ | apply Drawn0.step)⟩
       ·rw [if_neg c7] at H
        exact absurd H (by simp)
      ·rw [if_neg c6] at H
       exact absurd H (by simp)
     ·rw [if_neg c5] at H
      exact absurd H (by simp)
    ·rw [if_neg c4] at H
     have c4b0 : decide (x13_1 < (l0.length : Int)) = false := decide_eq_false c4
     clear c4
     obtain rfl := Option.some.inj H
     go_wp2
     repeat (go_quiet (fail); try go_wp2)
     go_ret
     exact ⟨by first | rfl | (simp; done) | (simp [*]; done), by repeat (first | exact Drawn0.refl _ | apply Drawn0.step)⟩
 ·rw [if_neg c3] at H
  have c3b0 : ((l0.length : Int) == (l1.length : Int)) = false := beq_eq_false_iff_ne.mpr c3
  have c3b1 : ((l0.length : Int) != (l1.length : Int)) = true := bne_iff_ne.mpr c3
  have c3b2 : (l0.length == l1.length) = false := by first | simpa using c3 | (simp at c3 ⊢; omega)
  obtain rfl := Option.some.inj H
  go_enter Try.func22, Try.ntmps22
  go_wp2
  repeat (go_quiet (fail); try go_wp2)
  go_ret
  exact ⟨by first | rfl | (simp; done) | (simp [*]; done), by repeat (first | exact Drawn0.refl _ | apply Drawn0.step)⟩

def caulkref19_SameRanges.l0 : Nat → List (S39) → List (S39) → Int → Int → Option (Bool)
 | 0, _, _, _, _ => none
 | k + 1, x0, x1, x12, x13 => if x13 < x12 then (if 0 ≤ x13 then (if x13 < (x0.length : Int) then (if x13 < (x1.length : Int) then (if (!(((rd_T39 x0 x13).f0) == ((rd_T39 x1 x13).f0)) || (!(((rd_T39 x0 x13).f1) == ((rd_T39 x1 x13).f1)))) = true then (some false) else (caulkref19_SameRanges.l0 k x0 x1 x12 (wrap64 (x13 + 1)))) else (none)) else (none)) else (none)) else (some true)
def caulkref19_SameRanges.f (k : Nat) (l0 : List (S39)) (l1 : List (S39)) : Option (Bool) := if (l0.length : Int) = (l1.length : Int) then (caulkref19_SameRanges.l0 k l0 l1 (l0.length : Int) 0) else (some false)
theorem caulkref19_SameRanges.mono_l : ∀ k, (∀ y0 y1 y2 y3, LeO (caulkref19_SameRanges.l0 k y0 y1 y2 y3) (caulkref19_SameRanges.l0 (k + 1) y0 y1 y2 y3))
 | 0 => fun _ _ _ _ r h => by simp [caulkref19_SameRanges.l0] at h
 | k + 1 => by
  have ih0 := caulkref19_SameRanges.mono_l k
  ·intro y0 y1 y2 y3
   unfold caulkref19_SameRanges.l0
   repeat' first
   | (with_reducible exact ih0 _ _ _ _)
   | (with_reducible exact LeO.refl _)
   | (with_reducible exact LeO.none _)
   | (with_reducible refine LeO.ite ?_ ?_)
   | (with_reducible refine LeO.bind ?_ (fun _ => ?_))
   | exact ih0 _ _ _ _
   | exact LeO.none _
   | refine LeO.ite ?_ ?_
   | refine LeO.bind ?_ (fun _ => ?_)
theorem caulkref19_SameRanges.mono : ∀ a0 a1 k, LeO (caulkref19_SameRanges.f k a0 a1) (caulkref19_SameRanges.f (k + 1) a0 a1) := by
 intro a0 a1 k
 have ih0 := caulkref19_SameRanges.mono_l k
 unfold caulkref19_SameRanges.f
 repeat' first
   | (with_reducible exact ih0 _ _ _ _)
   | (with_reducible exact LeO.refl _)
   | (with_reducible exact LeO.none _)
   | (with_reducible refine LeO.ite ?_ ?_)
   | (with_reducible refine LeO.bind ?_ (fun _ => ?_))
   | exact ih0 _ _ _ _
   | exact LeO.none _
   | refine LeO.ite ?_ ?_
   | refine LeO.bind ?_ (fun _ => ?_)
set_option maxHeartbeats 8000000 in
set_option maxRecDepth 100000 in
theorem caulkref19_SameRanges.calls (k : Nat) (A0 : Option Addr) (c0 : Nat) (l0 : List (S39)) (A1 : Option Addr) (c1 : Nat) (l1 : List (S39)) (r : Bool) (w : World) (hr0 : Kd.C k39 w A0 l0.length l0) (hc0 : l0.length ≤ c0) (hr1 : Kd.C k39 w A1 l1.length l1) (hc1 : l1.length ≤ c1) (h : caulkref19_SameRanges.f k l0 l1 = some r) :
  Calls Try.prog 23 #[.slice A0 l0.length c0, .slice A1 l1.length c1] w fun e w' => e = .returned (.bool r) ∧ Drawn0 w w' := by
 have hu39 := Try.underlying39
 have HR0 := Aside0.mk hr0
 have HC0 := Aside0.mk hc0
 clear hr0 hc0
 have HR1 := Aside0.mk hr1
 have HC1 := Aside0.mk hc1
 clear hr1 hc1
 have H : (if (l0.length : Int) = (l1.length : Int) then (caulkref19_SameRanges.l0 k l0 l1 (l0.length : Int) 0) else (some false)) = some r := h
 clear h
 by_cases c3 : (l0.length : Int) = (l1.length : Int)
 ·rw [if_pos c3] at H
  have c3b0 : ((l0.length : Int) == (l1.length : Int)) = true := beq_iff_eq.mpr c3
  have c3b1 : ((l0.length : Int) != (l1.length : Int)) = false := bne_eq_false_iff_eq.mpr c3
  have c3b2 : (l0.length == l1.length) = true := by first | simpa using c3 | (simp at c3 ⊢; omega)
  clear c3
  have H' := Aside0.mk H
  clear H
  go_enter Try.func23, Try.ntmps23
  go_wp2
  repeat (go_quiet (fail); try go_wp2)
  go_loopg [13] k (fun kq v13 w' => ∃ (x13_1 : Int), v13 = .int .i64 x13_1 ∧ Aside0 (caulkref19_SameRanges.l0 kq l0 l1 (l0.length : Int) x13_1 = some r) ∧ Aside0 (kq ≤ k) ∧ Drawn0 w w')
  case atStart => exact ⟨(0), (by first | rfl | (simp; done) | (simp [*]; done)), H', ⟨Nat.le_refl _⟩, by repeat (first | exact Drawn0.refl _ | apply Drawn0.step)⟩
  case round =>
   clear H'
   try clear c1
   try clear c2
   try clear p2
   try clear c3
   try clear c3b0
   try clear c3b1
   try clear c3b2
   obtain ⟨x13_1, rfl, HA, HK1, ⟨m1, rfl⟩⟩ := hrel
   cases gk with
   | zero => exact absurd HA.out (by simp [caulkref19_SameRanges.l0])
   | succ k1 =>
    have H := HA.out
    clear HA
    simp only [caulkref19_SameRanges.l0] at H
    by_cases c4 : x13_1 < (l0.length : Int)
    ·rw [if_pos c4] at H
     have c4b0 : decide (x13_1 < (l0.length : Int)) = true := decide_eq_true c4
     clear c4
     by_cases c5 : 0 ≤ x13_1
     ·rw [if_pos c5] at H
      have c5b0 : decide (0 ≤ x13_1) = true := decide_eq_true c5
      clear c5
      by_cases c6 : x13_1 < (l0.length : Int)
      ·rw [if_pos c6] at H
       have c6b0 : decide (x13_1 < (l0.length : Int)) = true := decide_eq_true c6
       clear c6
       by_cases c7 : x13_1 < (l1.length : Int)
       ·rw [if_pos c7] at H
        have c7b0 : decide (x13_1 < (l1.length : Int)) = true := decide_eq_true c7
        clear c7
        by_cases c8 : (!(((rd_T39 l0 x13_1).f0) == ((rd_T39 l1 x13_1).f0)) || (!(((rd_T39 l0 x13_1).f1) == ((rd_T39 l1 x13_1).f1)))) = true
        ·rw [if_pos c8] at H
         have c8b0 : (!(((rd_T39 l0 x13_1).f0) == ((rd_T39 l1 x13_1).f0)) || (!(((rd_T39 l0 x13_1).f1) == ((rd_T39 l1 x13_1).f1)))) = true := c8
         clear c8
         obtain rfl := Option.some.inj H
         have p7216 : 0 ≤ (x13_1 : Int) := of_decide_eq_true (by first | (with_reducible assumption) | assumption)
         have q7216 : x13_1 < (l0.length : Int) := of_decide_eq_true (by first | (with_reducible assumption) | assumption)
         obtain ⟨ad7216, e7216, hx7216_0, hx7216_1⟩ := at_T39 HR0.out x13_1 p7216 q7216
         cases e7216
         replace p7216 := eq_true p7216
         replace q7216 := eq_true q7216
         have p7217 : 0 ≤ (x13_1 : Int) := of_decide_eq_true (by first | (with_reducible assumption) | assumption)
         have q7217 : x13_1 < (l1.length : Int) := of_decide_eq_true (by first | (with_reducible assumption) | assumption)
         obtain ⟨ad7217, e7217, hx7217_0, hx7217_1⟩ := at_T39 HR1.out x13_1 p7217 q7217
         cases e7217
         replace p7217 := eq_true p7217
         replace q7217 := eq_true q7217
         go_wp2
         repeat (go_quiet (fail); try go_wp2)
         go_ret
         exact ⟨by first | rfl | (simp; done) | (simp [*]; done), by repeat (first | exact Drawn0.refl _ | apply Drawn0.step)⟩
        ·rw [if_neg c8] at H
         have c8b0 : (!(((rd_T39 l0 x13_1).f0) == ((rd_T39 l1 x13_1).f0)) || (!(((rd_T39 l0 x13_1).f1) == ((rd_T39 l1 x13_1).f1)))) = false := by simpa using c8
         clear c8
         have H' := Aside0.mk H
         clear H
         have p7216 : 0 ≤ (x13_1 : Int) := of_decide_eq_true (by first | (with_reducible assumption) | assumption)
         have q7216 : x13_1 < (l0.length : Int) := of_decide_eq_true (by first | (with_reducible assumption) | assumption)
         obtain ⟨ad7216, e7216, hx7216_0, hx7216_1⟩ := at_T39 HR0.out x13_1 p7216 q7216
         cases e7216
         replace p7216 := eq_true p7216
         replace q7216 := eq_true q7216
         have p7217 : 0 ≤ (x13_1 : Int) := of_decide_eq_true (by first | (with_reducible assumption) | assumption)
         have q7217 : x13_1 < (l1.length : Int) := of_decide_eq_true (by first | (with_reducible assumption) | assumption)
         obtain ⟨ad7217, e7217, hx7217_0, hx7217_1⟩ := at_T39 HR1.out x13_1 p7217 q7217
         cases e7217
         replace p7217 := eq_true p7217
         replace q7217 := eq_true q7217
         go_wp2
         repeat (go_quiet (fail); try go_wp2)
         go_roundg k1
         case measure => have := HK1.out; omega
         case rel => exact ⟨(wrap64 (x13_1 + 1)), (by first | rfl | (simp; done) | (simp [*]; done)), H', ⟨by have := HK1.out; omega⟩, by repeat (first | exact Drawn0.refl _ | apply Drawn0.step)⟩
       ·rw [if_neg c7] at H
        exact absurd H (by simp)
      ·rw [if_neg c6] at H
       exact absurd H (by simp)
     ·rw [if_neg c5] at H
      exact absurd H (by simp)
    ·rw [if_neg c4] at H
     have c4b0 : decide (x13_1 < (l0.length : Int)) = false := decide_eq_false c4
     clear c4
     obtain rfl := Option.some.inj H
     go_wp2
     repeat (go_quiet (fail); try go_wp2)
     go_ret
     exact ⟨by first | rfl | (simp; done) | (simp [*]; done), by repeat (first | exact Drawn0.refl _ | apply Drawn0.step)⟩
 ·rw [if_neg c3] at H
  have c3b0 : ((l0.length : Int) == (l1.length : Int)) = false := beq_eq_false_iff_ne.mpr c3
  have c3b1 : ((l0.length : Int) != (l1.length : Int)) = true := bne_iff_ne.mpr c3
  have c3b2 : (l0.length == l1.length) = false := by first | simpa using c3 | (simp at c3 ⊢; omega)
  obtain rfl := Option.some.inj H
  go_enter Try.func23, Try.ntmps23
  go_wp2
  repeat (go_quiet (fail); try go_wp2)
  go_ret
  exact ⟨by first | rfl | (simp; done) | (simp [*]; done), by repeat (first | exact Drawn0.refl _ | apply Drawn0.step)⟩

end Go.Proofs.Ytgahpdoiddhdaaa.HElev
