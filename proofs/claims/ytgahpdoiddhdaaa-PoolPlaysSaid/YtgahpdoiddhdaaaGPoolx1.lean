/- WRITTEN BY wip/hyb.py, a program of this workplace (out of the kit's printer and this workplace's own contracts). -/
import Derived.Test.YtgahpdoiddhdaaaGPoolx0
namespace Go.Proofs.Ytgahpdoiddhdaaa.HPool
open Go.RowKit Go.Proofs.YtgahpdoiddhdaaaW.PrintWords Go.Proofs.YtgahpdoiddhdaaaW.PrintLast Go.Proofs.YtgahpdoiddhdaaaW.PrintMore
attribute [local go_sem] max2_int min2_int max_two min_two max_three min_three max_four min_four   -- for this text's walks alone
set_option linter.unusedVariables false
set_option linter.unusedSimpArgs false

def insI (x : Int) : List Int → List Int
 | [] => [x]
 | y :: l => if x ≤ y then x :: y :: l else y :: insI x l
def sortI : List Int → List Int
 | [] => []
 | x :: l => insI x (sortI l)
theorem insI_perm (x : Int) : ∀ l, (insI x l).Perm (x :: l)
 | [] => List.Perm.refl _
 | y :: l => by
  unfold insI
  split
  ·exact List.Perm.refl _
  ·exact ((insI_perm x l).cons y).trans (List.Perm.swap x y l)
theorem sortI_perm : ∀ l : List Int, (sortI l).Perm l
 | [] => List.Perm.refl _
 | x :: l => (insI_perm x _).trans ((sortI_perm l).cons x)
theorem insI_sorted (x : Int) : ∀ l : List Int, l.Pairwise (· ≤ ·) → (insI x l).Pairwise (· ≤ ·)
 | [], _ => List.pairwise_singleton _ _
 | y :: l, h => by
  have h1 := List.pairwise_cons.1 h
  unfold insI
  split
  ·rename_i hxy
   exact List.pairwise_cons.2 ⟨fun z hz => by rcases List.mem_cons.1 hz with rfl | hz; exact hxy; exact Int.le_trans hxy (h1.1 z hz), h⟩
  ·rename_i hxy
   refine List.pairwise_cons.2 ⟨fun z hz => ?_, insI_sorted x l h1.2⟩
   rcases List.mem_cons.1 ((insI_perm x l).mem_iff.1 hz) with rfl | hz
   ·omega
   ·exact h1.1 z hz
theorem sortI_sorted : ∀ l : List Int, (sortI l).Pairwise (· ≤ ·)
 | [] => List.Pairwise.nil
 | x :: l => insI_sorted x _ (sortI_sorted l)
theorem sortI_merge (l : List Int) : (l.mergeSort fun x y => decide (x ≤ y)) = sortI l := by
 have h1 : (l.mergeSort fun x y => decide (x ≤ y)).Pairwise (· ≤ ·) := by
  have := List.pairwise_mergeSort (le := fun x y : Int => decide (x ≤ y)) (fun a b c h1 h2 => by simp at *; omega) (fun a b => by simp; omega) l
  exact this.imp (fun h => by simpa using h)
 exact List.Perm.eq_of_pairwise (fun a b _ _ h1 h2 => Int.le_antisymm h1 h2) h1 (sortI_sorted l) ((List.mergeSort_perm l _).trans (sortI_perm l).symm)
def slices_Sort_int_int.f (l0 : List Int) : Option (List Int) := if l0.length < 4611686018427387904 then some (sortI l0) else none
theorem slices_Sort_int_int.calls (P0_ : Nat → Prop) (u9000_ : Value) (l0 : List Int) (r : List Int) (w0 w : World) (hB : Below w0.heap.size w0 w) (ho0 : Kd.R (Kd.int .i64) 3 w w0.heap.size P0_ u9000_ l0) (h : slices_Sort_int_int.f l0 = some r) :
  Calls Try.prog 120 #[u9000_] w fun e w' => e = .returned (.tuple #[]) ∧ Kd.R (Kd.int .i64) 3 w' w0.heap.size (fun k_ => (P0_ k_ ∨ w.heap.size ≤ k_)) u9000_ r ∧ Below w0.heap.size w0 w' ∧ Kept w w' (fun k_ => P0_ k_) := by
 unfold slices_Sort_int_int.f at h
 by_cases hlen : l0.length < 4611686018427387904
 ·rw [if_pos hlen] at h
  have h' := Option.some.inj h
  rw [← sortI_merge] at h'
  subst h'
  by_cases h0 : 0 < l0.length
  ·have hown := Kd.own_of_R ho0
   obtain ⟨g, cap, rfl, hbase, hlt, cells, hblk⟩ := Kd.R_form ho0 h0
   obtain ⟨g', cap', hv, _, _, _, _, _, hH⟩ := Lib.holds_of_ownsRow (zs := l0) hown (by simp)
   simp only [Value.slice.injEq, Option.some.injEq, Addr.mk.injEq, and_true, true_and] at hv
   obtain ⟨rfl, rfl⟩ := hv
   refine (Try.slices_Sort_int g 0 cap l0 w hH hlt hlen).mono ?_
   rintro e w' ⟨rfl, n, os, rfl⟩
   have hl2 : (l0.mergeSort fun x y => decide (x ≤ y)).length = l0.length := List.length_mergeSort _
   have hg := grownBy_sortedI (w := w) (g := g) (n := n) (os := os) (l0.mergeSort fun x y => decide (x ≤ y)).toArray
   have hP : P0_ g := ho0.1 g rfl
   refine ⟨rfl, ?_, hB.grown hg (below_size hB) (fun k hk => by cases hk; exact hbase), ⟨hg.size, fun i hi hn => hg.block i hi (fun e => hn (by cases e; exact hP))⟩⟩
   rcases hown.2 with ⟨e0, _⟩ | ⟨g2, cap2, cur, e0, hb2, hg2, hn2, hm2, hs2, ht2⟩
   ·cases e0
   ·cases e0
    have h1 := ownsRow_sortedI (n := n) (os := os) hl2 hb2 hg2 hn2 hm2 hs2
    rw [← hl2] at h1 ⊢
    exact Kd.R_of_own h1 (fun k hk => by simp [Value.ownBlock] at hk; subst hk; exact Or.inl hP)
  ·have : l0 = [] := by cases l0 <;> simp_all
   subst this
   obtain ⟨A, c, rfl, _, _⟩ := Kd.R_reads ho0
   refine (Try.slices_Sort_int_none A c w).mono ?_
   rintro e w' ⟨rfl, rfl⟩
   refine ⟨rfl, ?_, hB, Kept.refl _ _⟩
   rw [List.mergeSort_nil]
   exact Kd.R_mono ho0 (fun k hk => Or.inl hk)
 ·rw [if_neg hlen] at h
  cases h

section
open Go Go.Shelf Go.Maps Go.Proofs.Ytgahpdoiddhdaaa.Seq Go.Proofs.Ytgahpdoiddhdaaa.MapL Go.Proofs.YtgahpdoiddhdaaaW.PrintLast
attribute [local go_sem] Oper.semAt_some max2_int min2_int max_two min_two
theorem kitP : Kit Try.prog 120 3 9 (Value.int .i64) (Lit.int .i64) (fun x => (Lit.int .i64 x).wf = true) Value.string litS (fun s => s.size ≤ maxLen) ByteArray.empty :=
 kit_is Try.underlying120 (by kernel_rfl) (by kernel_rfl) (fun w => by kernel_rfl)
theorem kitB : Kit Try.prog 126 3 4 (Value.int .i64) (Lit.int .i64) (fun x => (Lit.int .i64 x).wf = true) Value.bool Lit.bool (fun _ => True) false :=
 kit_ib Try.underlying126 (by kernel_rfl) (by kernel_rfl) (fun w => by kernel_rfl)
def PoolAt (w : World) (p b : Nat) (last : Int) (L : List (Int × ByteArray)) : Prop :=
 w.heap[p]? = some (.cells #[.int .i64 last, .map (some b)] 124 (0, 0)) ∧ MapOf Try.prog 3 9 (Lit.int .i64) litS w b L ∧ 0 ≤ last ∧ last ≤ 1073741824 ∧ (L.length : Int) ≤ last ∧ (∀ q ∈ L, 1 ≤ q.1 ∧ q.1 ≤ last ∧ q.2.size ≤ 65536) ∧ (L.map Prod.fst).Pairwise (· < ·)
theorem PoolAt.ne {w : World} {p b : Nat} {last : Int} {L : List (Int × ByteArray)} (h : PoolAt w p b last L) : p ≠ b := by
 rintro rfl
 obtain ⟨h1, ⟨D, ⟨es, clock, h2, _⟩, _⟩, _⟩ := h
 rw [h1] at h2
 cases h2
theorem PoolAt.step {w w' : World} {Z : Nat → Prop} {p b : Nat} {last : Int} {L : List (Int × ByteArray)} (h : PoolAt w p b last L) (hs : Step Z w w') (h1 : ¬ Z p) (h2 : ¬ Z b) : PoolAt w' p b last L :=
 ⟨hs.block h.1 h1, h.2.1.step hs h2, h.2.2⟩
theorem pool_New_any (w : World) : Calls Try.prog 33 #[] w fun e w' => ∃ p b, e = .returned (.pointer (some ⟨p, 0, none⟩)) ∧ PoolAt w' p b 0 [] ∧ w.heap.size ≤ p ∧ w.heap.size ≤ b ∧ Below w.heap.size w w' := by
 have hmm := @run_makeMap Try.prog
 go_enter Try.func33, Try.ntmps33
 go_wp2
 go_ret
 have hm := MapOf.made (α := Int) (β := ByteArray) w Try.prog 3 9 (Lit.int .i64) litS
 have hn := World.alloc_heap_new (w.alloc (.map #[] 0)) (.cells #[.int .i64 0, .map (some w.heap.size)] 124)
 rw [World.size_alloc] at hn
 exact ⟨w.heap.size + 1, w.heap.size, rfl, ⟨hn, hm.step (Step.alloc (fun _ => False) _ _) (fun h => h), by omega, by omega, by simp, by simp, List.Pairwise.nil⟩, by omega, Nat.le_refl _,
  ((Below.refl _ w).alloc (Nat.le_refl _) _).alloc (by simp) _⟩
theorem wf_of {x : Int} (h0 : 0 ≤ x) (h1 : x ≤ 2000000000) : (Lit.int .i64 x).wf = true := WalkArith.wf_i64 (by omega)
theorem pool_add_any (w : World) (p b : Nat) (last : Int) (L : List (Int × ByteArray)) (s : ByteArray) (h : PoolAt w p b last L) (h1 : last < 1073741824) (hs : s.size ≤ 65536) :
  Calls Try.prog 82 #[.pointer (some ⟨p, 0, none⟩), .string s] w fun e w' => e = .returned (.int .i64 (last + 1)) ∧ PoolAt w' p b (last + 1) (L ++ [(last + 1, s)]) ∧ Step (fun k => k = p ∨ k = b) w w' := by
 refine (callsIn_wide (n := 4)).1 ?_
 refine callsIn_of_wp_marks Try.func82 rfl trivial ?_ rfl
 simp only [Try.ntmps82, List.size_toArray, List.length_cons, List.length_nil, Nat.reduceAdd, Nat.reduceSub, Array.replicate_succ, Array.replicate_zero, List.push_toArray, List.append_toArray, List.nil_append, List.cons_append]
 have hne := h.ne
 obtain ⟨hp, hm, h0, _, hL, hq, hpw⟩ := h
 have c0 : w.cell? ⟨p, 0, none⟩ = some (.int .i64 last) := by simp [World.cell?, hp]
 have c1 : w.cell? ⟨p, 1, none⟩ = some (.map (some b)) := by simp [World.cell?, hp]
 have f0 : w.frozen? ⟨p, 0, none⟩ = false := by simp [World.frozen?, hp]
 have hw : wrap64 (last + 1) = last + 1 := by unfold wrap64; omega
 gi_wp2
 have hs1 : Step (fun k => k = p ∨ k = b) w (w.setCell ⟨p, 0, none⟩ (.int .i64 (last + 1))).drew := (Step.setCell w (p := ⟨p, 0, none⟩) (S := fun k => k = p ∨ k = b) (Or.inl rfl) _).trans (Step.drew (fun _ => False) _) (fun _ h => h) (fun _ h => h.elim)
 have hm1 : MapOf Try.prog 3 9 (Lit.int .i64) litS (w.setCell ⟨p, 0, none⟩ (.int .i64 (last + 1))).drew b L := hm.step ((Step.setCell w (p := ⟨p, 0, none⟩) (S := fun k => k = p) rfl _).trans (Step.drew (fun _ => False) _) (fun _ h => h) (fun _ h => h.elim)) (fun h => hne h.symm)
 have hp1 : (w.setCell ⟨p, 0, none⟩ (.int .i64 (last + 1))).drew.heap[p]? = some (.cells #[.int .i64 (last + 1), .map (some b)] 124 (0, 0)) := blk_set hp 0 _
 obtain ⟨w1, hrun, hm2, ht⟩ := hm1.store kitP (by unfold maxLen; omega) (x := last + 1) (v := s) (wf_of (by omega) (by omega)) (by unfold maxLen; omega)
 gi_region
 have hp2 : w1.heap[p]? = some (.cells #[.int .i64 (last + 1), .map (some b)] 124 (0, 0)) := (step_turned ht).block hp1 hne
 have c2 : w1.cell? ⟨p, 0, none⟩ = some (.int .i64 (last + 1)) := by simp [World.cell?, hp2]
 clear hrun c0 c1 f0
 gi_wp2
 have hx : last + 1 ∉ L.map Prod.fst := fun h => by
  obtain ⟨q, hq1, hq2⟩ := List.mem_map.1 h
  have := (hq q hq1).2.1
  omega
 rw [putL_new s hx] at hm2
 refine ⟨_, results_tmp rfl _ _ _, rfl, ⟨hp2, hm2, by omega, by omega, by simp; omega, fun q hq1 => ?_, ?_⟩, hs1.trans (step_turned ht) (fun _ h => h) (fun i h => Or.inl (Or.inr h))⟩
 ·rcases List.mem_append.1 hq1 with h | h
  ·have := hq q h; omega
  ·rw [List.mem_singleton] at h; subst h; exact ⟨by omega, Int.le_refl _, hs⟩
 ·rw [List.map_append, List.pairwise_append]
  exact ⟨hpw, List.pairwise_singleton _ _, fun a ha c hc => by
   obtain ⟨q, hq1, rfl⟩ := List.mem_map.1 ha
   have := (hq q hq1).2.1
   simp at hc; omega⟩
def addP (last : Int) (L : List (Int × ByteArray)) (s : ByteArray) : Int × List (Int × ByteArray) × Int × Int :=
 if 65536 < s.size then (last, L, 0, 7) else if last = 1073741824 then (last, L, 0, 8) else (last + 1, L ++ [(last + 1, s)], last + 1, 0)
theorem pool_Add_any (w : World) (p b : Nat) (last : Int) (L : List (Int × ByteArray)) (s : ByteArray) (h : PoolAt w p b last L) (hs : s.size ≤ maxLen) :
  Calls Try.prog 34 #[.pointer (some ⟨p, 0, none⟩), .string s] w fun e w' => e = .returned (.tuple #[.int .i64 (addP last L s).2.2.1, .int .i64 (addP last L s).2.2.2]) ∧ PoolAt w' p b (addP last L s).1 (addP last L s).2.1 ∧ Step (fun k => k = p ∨ k = b) w w' := by
 refine (callsIn_wide (n := 4)).1 ?_
 refine callsIn_of_wp_marks Try.func34 rfl trivial ?_ rfl
 simp only [Try.ntmps34, List.size_toArray, List.length_cons, List.length_nil, Nat.reduceAdd, Nat.reduceSub, Array.replicate_succ, Array.replicate_zero, List.push_toArray, List.append_toArray, List.nil_append, List.cons_append]
 have c0 : w.cell? ⟨p, 0, none⟩ = some (.int .i64 last) := by simp [World.cell?, h.1]
 unfold addP
 by_cases h1 : 65536 < s.size
 ·have d1 : decide (65536 < (s.size : Int)) = true := decide_eq_true (by omega)
  rw [if_pos h1]
  gi_wp2
  exact ⟨_, results_tmp2 rfl _ _ _, rfl, h, Step.refl _ _⟩
 ·have d1 : decide (65536 < (s.size : Int)) = false := decide_eq_false (by omega)
  rw [if_neg h1]
  by_cases h2 : last = 1073741824
  ·subst h2
   gi_wp2
   exact ⟨_, results_tmp2 rfl _ _ _, rfl, h, Step.refl _ _⟩
  ·have d2 : (last == 1073741824) = false := by simpa using h2
   have hl := h.2.2.2.1
   rw [if_neg h2]
   gi_wp2_with (refine ⟨trivial, ?_⟩; gi_at_call 82; refine (callsIn_wide.2 (pool_add_any _ p b last L s h (by omega) (by omega))).mono ?_; rintro e w' ⟨rfl, h3, h4⟩)
   exact ⟨_, results_tmp2 rfl _ _ _, rfl, h3, h4⟩
def getP (L : List (Int × ByteArray)) (id : Int) : ByteArray × Int := match getL id L with
 | some s => (s, 0)
 | none => (ByteArray.empty, 3)
theorem pool_Get_any (w : World) (p b : Nat) (last : Int) (L : List (Int × ByteArray)) (id : Int) (h : PoolAt w p b last L) (hi : (Lit.int .i64 id).wf = true) :
  Calls Try.prog 37 #[.pointer (some ⟨p, 0, none⟩), .int .i64 id] w fun e w' => e = .returned (.tuple #[.string (getP L id).1, .int .i64 (getP L id).2]) ∧ Step (fun _ => False) w w' := by
 refine (callsIn_wide (n := 4)).1 ?_
 refine callsIn_of_wp_marks Try.func37 rfl trivial ?_ rfl
 simp only [Try.ntmps37, List.size_toArray, List.length_cons, List.length_nil, Nat.reduceAdd, Nat.reduceSub, Array.replicate_succ, Array.replicate_zero, List.push_toArray, List.append_toArray, List.nil_append, List.cons_append]
 have c1 : w.cell? ⟨p, 1, none⟩ = some (.map (some b)) := by simp [World.cell?, h.1]
 unfold getP
 cases hg : getL id L with
 | some s =>
  have hr := (h.2.1.look_hit kitP hi hg).1
  gi_wp2
  exact ⟨_, results_tmp2 rfl _ _ _, rfl, Step.refl _ _⟩
 | none =>
  have hr := (h.2.1.look_miss kitP hi hg).1
  gi_wp2
  exact ⟨_, results_tmp2 rfl _ _ _, rfl, Step.refl _ _⟩
def keptP (K : List (Int × Bool)) (id : Int) : Bool := (getL id K).getD false
theorem pool_Keep1_in (w : World) (B bk : Nat) (K : List (Int × Bool)) (id : Int) (s : ByteArray) (hB : Boxed w B 126 (.map (some bk))) (hk : MapOf Try.prog 3 4 (Lit.int .i64) Lit.bool w bk K) (hi : (Lit.int .i64 id).wf = true) :
  CallsIn Fence.wide 3 Try.prog 84 #[.int .i64 id, .string s, .pointer (some ⟨B, 0, none⟩)] w fun e w' => e = .returned (.bool (!keptP K id)) ∧ Step (fun _ => False) w w' := by
 refine callsIn_of_wp_marks Try.func84 rfl trivial ?_ rfl
 simp only [Try.ntmps84, List.size_toArray, List.length_cons, List.length_nil, Nat.reduceAdd, Nat.reduceSub, Array.replicate_succ, Array.replicate_zero, List.push_toArray, List.append_toArray, List.nil_append, List.cons_append]
 have c0 := hB.cell
 unfold keptP
 cases hg : getL id K with
 | some v =>
  have hr := (hk.look_hit kitB hi hg).2
  gi_wp2
  exact ⟨_, results_tmp rfl _ _ _, by simp, Step.refl _ _⟩
 | none =>
  have hr := (hk.look_miss kitB hi hg).2
  gi_wp2
  exact ⟨_, results_tmp rfl _ _ _, by simp, Step.refl _ _⟩
def leftP (K : List (Int × Bool)) (rest L : List (Int × ByteArray)) : List (Int × ByteArray) := L.filter fun q => decide (q.1 ∈ rest.map Prod.fst) || keptP K q.1
theorem leftP_step {K : List (Int × Bool)} {rest L : List (Int × ByteArray)} {x : Int} : (if keptP K x = true then leftP K rest L else delL x (leftP K rest L)) = leftP K (delL x rest) L := by
 have hm : ∀ q : Int × ByteArray, q.1 ∈ (delL x rest).map Prod.fst ↔ q.1 ∈ rest.map Prod.fst ∧ q.1 ≠ x := fun q => by
  constructor
  ·intro h
   obtain ⟨p, hp, e⟩ := List.mem_map.1 h
   have := mem_delL.1 hp
   exact ⟨e ▸ List.mem_map.2 ⟨p, this.1, rfl⟩, e ▸ this.2⟩
  ·rintro ⟨h, hne⟩
   obtain ⟨p, hp, e⟩ := List.mem_map.1 h
   exact List.mem_map.2 ⟨p, mem_delL.2 ⟨hp, by rw [e]; exact hne⟩, e⟩
 unfold leftP
 split
 ·rename_i hk
  refine List.filter_congr fun q _ => ?_
  by_cases e : q.1 = x
  ·rw [e, hk]; simp
  ·congr 1
   rw [decide_eq_decide, hm]
   simp [e]
 ·rename_i hk
  rw [delL_filter, List.filter_filter]
  refine List.filter_congr fun q _ => ?_
  by_cases e : q.1 = x
  ·have : keptP K q.1 = false := by rw [e]; simpa using hk
   have h2 : ¬ q.1 ∈ (delL x rest).map Prod.fst := fun h => ((hm q).1 h).2 e
   rw [this, decide_eq_false h2, decide_eq_false (show ¬ q.1 ≠ x from fun h => h e)]; rfl
  ·rw [decide_eq_true (show q.1 ≠ x from e), Bool.true_and]
   congr 1
   rw [decide_eq_decide, hm]
   simp [e]
set_option maxRecDepth 100000 in
set_option maxHeartbeats 2000000 in
theorem deleteFunc_in (w : World) (b B bk : Nat) (L : List (Int × ByteArray)) (K : List (Int × Bool)) (hm : MapOf Try.prog 3 9 (Lit.int .i64) litS w b L) (hB : Boxed w B 126 (.map (some bk))) (hk : MapOf Try.prog 3 4 (Lit.int .i64) Lit.bool w bk K) (hbk : bk ≠ b) (hBb : B ≠ b) :
  CallsIn Fence.wide 4 Try.prog 83 #[.map (some b), .func (.func 84) #[] #[.pointer (some ⟨B, 0, none⟩)]] w fun e w' => e = .returned (.tuple #[]) ∧ MapOf Try.prog 3 9 (Lit.int .i64) litS w' b (L.filter fun q => keptP K q.1) ∧ Step (fun k => k = b) w w' := by
 refine callsIn_of_wp_marks Try.func83 rfl trivial ?_ rfl
 simp only [Try.ntmps83, List.size_toArray, List.length_cons, List.length_nil, Nat.reduceAdd, Nat.reduceSub, Array.replicate_succ, Array.replicate_zero, List.push_toArray, List.append_toArray, List.nil_append, List.cons_append]
 have hblt := hm.lt
 have hbklt := hk.lt
 have hBlt := hB.lt
 gi_wp2_with (gi_at_range; refine wpListIn_range _ rfl _ rfl kitP b L rfl hm ?_; intro w0 hrg hs0 hz0; go_frame)
 gi_loopg [4, 5] L.length (fun kq _ _ wr => ∃ rest, rest.length = kq ∧ Ranging Try.prog 3 9 (Lit.int .i64) litS wr b w.heap.size (leftP K rest L) rest ∧ Step (fun k => k = b) w wr)
 case atStart =>
  refine ⟨L, rfl, ?_, hs0.mono (fun _ h => h.elim)⟩
  have : leftP K L L = L := List.filter_eq_self.2 (fun q hq => by simp only [Bool.or_eq_true, decide_eq_true_eq]; exact Or.inl (List.mem_map.2 ⟨q, hq, rfl⟩))
  rw [this]; exact hrg
 case round =>
  obtain ⟨rest, hlen, hrg, hst⟩ := hrel
  gi_wp2_with (gi_at_next; refine wpListIn_next _ rfl _ rfl kitP b w.heap.size _ rest rfl hrg ?_ ?_)
  ·intro h0
   subst h0
   gi_wp2
   have : leftP K [] L = L.filter fun q => keptP K q.1 := List.filter_congr (fun q _ => by simp)
   exact ⟨_, results_none rfl _ _ _, rfl, this ▸ hrg.owns, hst⟩
  ·intro x v w1 hx hmem hrg1 hs1 hz1 hen
   have hn1 : ¬ (fun k => k = w.heap.size) b := fun h => by have h' : b = w.heap.size := h; omega
   have hst1 : Step (fun k => k = b) w w1 := hst.trans hs1 (fun _ h => h) (fun i h => Or.inr (by have h' : i = w.heap.size := h; omega))
   have hB1 : Boxed w1 B 126 (.map (some bk)) := hst1.boxed hB (fun h => hBb h)
   have hk1 : MapOf Try.prog 3 4 (Lit.int .i64) Lit.bool w1 bk K := hk.step hst1 (fun h => hbk h)
   have hstep := leftP_step (K := K) (rest := rest) (L := L) (x := x)
   have hln := delL_length (show NodupK rest from hrg.nodupR) hmem
   cases hkp : keptP K x
   ·rw [hkp, if_neg (by decide)] at hstep
    gi_wp2_with (refine ⟨trivial, ?_⟩; gi_at_call 84; refine (callsIn_wide.2 ((callsIn_wide (n := 3)).1 (pool_Keep1_in _ B bk K x v hB1 hk1 hx))).mono ?_; rw [hkp]; rintro e w2 ⟨rfl, hs2⟩; have hrg2 := hrg1.step hs2 (fun h => h) (fun h => h); obtain ⟨w3, hrun3, hrg3, ht3⟩ := hrg2.drop kitP hx (fun h => by obtain ⟨q, hq, e⟩ := List.mem_map.1 h; exact (mem_delL.1 hq).2 e) 0)
    gi_roundg ((delL x rest).length)
    case rel => exact ⟨delL x rest, rfl, hstep ▸ hrg3, (hst1.trans hs2 (fun _ h => h) (fun _ h => h.elim)).trans (step_turned ht3) (fun _ h => h) (fun _ h => Or.inl h)⟩
    case measure => omega
   ·rw [hkp, if_pos rfl] at hstep
    gi_wp2_with (refine ⟨trivial, ?_⟩; gi_at_call 84; refine (callsIn_wide.2 ((callsIn_wide (n := 3)).1 (pool_Keep1_in _ B bk K x v hB1 hk1 hx))).mono ?_; rw [hkp]; rintro e w2 ⟨rfl, hs2⟩)
    have hrg2 := hrg1.step hs2 (fun h => h) (fun h => h)
    gi_roundg ((delL x rest).length)
    case rel => exact ⟨delL x rest, rfl, hstep ▸ hrg2, hst1.trans hs2 (fun _ h => h) (fun _ h => h.elim)⟩
    case measure => omega
def idsK : List Int → List (Int × Bool) → List (Int × Bool)
 | [], K => K
 | x :: l, K => idsK l (putL x true K)
theorem keptP_put (x y : Int) (K : List (Int × Bool)) : keptP (putL x true K) y = (decide (x = y) || keptP K y) := by
 unfold keptP
 rw [getL_putL]
 by_cases e : x = y
 ·rw [if_pos e, decide_eq_true e]; rfl
 ·rw [if_neg e, decide_eq_false e]; rfl
theorem keptP_ids (y : Int) : ∀ (l : List Int) (K : List (Int × Bool)), keptP (idsK l K) y = (decide (y ∈ l) || keptP K y)
 | [], K => by simp [idsK]
 | x :: l, K => by
  rw [idsK, keptP_ids y l, keptP_put]
  by_cases e : x = y
  ·subst e; simp
  ·by_cases e2 : y ∈ l
   ·simp [e2]
   ·simp [e2, e, Ne.symm e]
theorem idsK_snoc (l : List Int) (x : Int) : ∀ K, idsK (l ++ [x]) K = putL x true (idsK l K) := by
 induction l with
 | nil => intro K; rfl
 | cons y l ih => intro K; exact ih _
theorem idsK_len : ∀ (l : List Int) (K : List (Int × Bool)), (idsK l K).length ≤ K.length + l.length
 | [], K => by simp [idsK]
 | x :: l, K => by
  have := idsK_len l (putL x true K)
  rw [length_putL] at this
  rw [idsK, List.length_cons]
  split at this <;> omega
def keepP (L : List (Int × ByteArray)) (ids : List Int) : List (Int × ByteArray) := L.filter fun q => decide (q.1 ∈ ids)
set_option maxRecDepth 100000 in
set_option maxHeartbeats 2000000 in
theorem pool_Keep_any (w : World) (p b : Nat) (last : Int) (L : List (Int × ByteArray)) (A : Option Addr) (c : Nat) (ids : List Int) (h : PoolAt w p b last L) (hr : Kd.C (Kd.int .i64) w A ids.length ids) (hlen : ids.length ≤ 4611686018427387904) (hwf : ∀ x ∈ ids, (Lit.int .i64 x).wf = true) :
  Calls Try.prog 35 #[.pointer (some ⟨p, 0, none⟩), .slice A ids.length c] w fun e w' => e = .returned (.int .i64 ((L.length : Int) - (keepP L ids).length)) ∧ PoolAt w' p b last (keepP L ids) ∧ Step (fun k => k = p ∨ k = b) w w' := by
 refine (callsIn_wide (n := 4)).1 ?_
 refine callsIn_of_wp_marks Try.func35 rfl trivial ?_ rfl
 simp only [Try.ntmps35, List.size_toArray, List.length_cons, List.length_nil, Nat.reduceAdd, Nat.reduceSub, Array.replicate_succ, Array.replicate_zero, List.push_toArray, List.append_toArray, List.nil_append, List.cons_append]
 have hmm := @run_makeMap Try.prog
 have hne := h.ne
 gi_wp2
 obtain ⟨W0, hW0⟩ : ∃ W0, W0 = (w.alloc (.map #[] 0)).alloc (.cells #[.map (some w.heap.size)] 126) := ⟨_, rfl⟩
 have hs0 : Step (fun _ => False) w W0 := by rw [hW0]; exact (Step.alloc _ _ _).trans (Step.alloc (fun _ => False) _ _) (fun _ h => h) (fun _ h => Or.inl h)
 have hz0 : W0.heap.size = w.heap.size + 2 := by rw [hW0]; simp
 have b0 : Boxed W0 (w.heap.size + 1) 126 (.map (some w.heap.size)) := by
  have := Boxed.new (w.alloc (.map #[] 0)) 126 (.map (some w.heap.size))
  rw [hW0]; simpa using this
 have k0 : MapOf Try.prog 3 4 (Lit.int .i64) Lit.bool W0 w.heap.size ([] : List (Int × Bool)) := by
  rw [hW0]; exact (MapOf.made w Try.prog 3 4 (Lit.int .i64) Lit.bool).step (Step.alloc (fun _ => False) _ _) (fun h => h)
 rw [← hW0]
 clear hW0
 gi_loopw [12] (fun i wr => ∃ k : Nat, k ≤ ids.length ∧ i = .int .i64 k ∧ Boxed wr (w.heap.size + 1) 126 (.map (some w.heap.size)) ∧ MapOf Try.prog 3 4 (Lit.int .i64) Lit.bool wr w.heap.size (idsK (ids.take k) []) ∧ Step (fun _ => False) w wr)
  (fun i _ => ids.length - (intOf i).toNat)
 case atStart => exact ⟨0, Nat.zero_le _, rfl, b0, k0, hs0⟩
 case round =>
  obtain ⟨k, hk, rfl, hB, hK, hst⟩ := hrel
  have hcB := hB.cell
  by_cases hlt : k < ids.length
  ·obtain ⟨ad, ea, hx0⟩ := Kd.at_int hr (k : Int) (by omega) (by omega)
   cases ea
   replace hx0 := hst.cell hx0 (fun h => h)
   simp only [Int.toNat_natCast] at hx0
   obtain ⟨xv, hxv⟩ : ∃ v, v = rd ids (k : Int) := ⟨_, rfl⟩
   rw [← hxv] at hx0
   have hxd : ids[k] = xv := by rw [hxv]; simp [rd, List.getD, hlt]
   clear hxv
   have hwx : (Lit.int .i64 xv).wf = true := hxd ▸ hwf _ (List.getElem_mem hlt)
   have hwk : wrap64 ((k : Int) + 1) = (k : Int) + 1 := by unfold wrap64; omega
   have hnl := idsK_len (ids.take k) []
   have htl : (ids.take k).length ≤ k := List.length_take_le _ _
   obtain ⟨w1, hrun, hK1, ht⟩ := hK.store kitB (by unfold maxLen; simp at hnl; omega) (x := xv) (v := true) hwx trivial
   rw [← idsK_snoc, ← hxd, ← List.take_succ_eq_append_getElem hlt] at hK1
   gi_wp2
   have hB1 := (step_turned ht).boxed hB (by omega)
   have hst1 : Step (fun _ => False) w w1 := hst.trans (step_turned ht) (fun _ h => h) (fun i h => Or.inr (Nat.le_of_eq h.symm))
   clear hrun ht
   gi_wp2
   go_roundw
   case rel => exact ⟨k + 1, by omega, by simp, hB1, hK1, hst1⟩
   case measure => simp [intOf]; omega
  ·obtain rfl : k = ids.length := by omega
   rw [List.take_length] at hK
   have h1 := h.step hst (fun h => h) (fun h => h)
   have c1 : wr.cell? ⟨p, 1, none⟩ = some (.map (some b)) := by simp [World.cell?, h1.1]
   have hl1 := h1.2.1.len kitP 3
   have hbw := h.2.1.lt
   have hpw : p < w.heap.size := (Array.getElem?_eq_some_iff.1 h.1).1
   have hkept : (L.filter fun q => keptP (idsK ids []) q.1) = keepP L ids := List.filter_congr (fun q _ => by rw [keptP_ids]; simp [keptP, getL])
   gi_wp2_with (refine ⟨trivial, ?_⟩; gi_at_call 83; refine (callsIn_wide.2 ((callsIn_wide (n := 4)).1 (deleteFunc_in wr b (w.heap.size + 1) w.heap.size L (idsK ids []) h1.2.1 hB hK (by omega) (by omega)))).mono ?_; rw [hkept]; rintro e w2 ⟨rfl, hm2, hs2⟩; have hp2 := hs2.block h1.1 (fun h' => h.ne h'); have c2 : w2.cell? ⟨p, 1, none⟩ = some (.map (some b)) := (by simp [World.cell?, hp2]); have hl2 := hm2.len kitP 3)
   have hll : (keepP L ids).length ≤ L.length := List.length_filter_le _ _
   have hL2 := h.2.2.2.1
   have hL3 := h.2.2.2.2.1
   refine ⟨_, results_tmp rfl _ _ _, ?_, ⟨hp2, hm2, h.2.2.1, h.2.2.2.1, by omega, fun q hq => h.2.2.2.2.2.1 q (List.mem_filter.1 hq).1, ?_⟩, ?_⟩
   ·have hw : wrap64 ((L.length : Int) - (keepP L ids).length) = (L.length : Int) - (keepP L ids).length := by unfold wrap64; omega
    first | rfl | (simp [hw])
   ·exact h.2.2.2.2.2.2.sublist (List.filter_sublist.map _)
   ·exact hst.trans hs2 (fun _ h => h.elim) (fun i h => Or.inl (Or.inr h))
def PreOf (L pre : List (Int × ByteArray)) : Prop := ∃ rest, (pre ++ rest).Perm L
theorem iter_step {L pre rest : List (Int × ByteArray)} {x : Int} {v : ByteArray} (h : (pre ++ rest).Perm L) (hn : NodupK rest) (hm : (x, v) ∈ rest) : (pre ++ [(x, v)] ++ delL x rest).Perm L :=
 (List.Perm.trans (by rw [List.append_assoc]; exact (delL_perm hn hm).symm.append_left pre) h)
set_option maxRecDepth 100000 in
set_option maxHeartbeats 2000000 in
theorem keys_seq (w : World) (B b : Nat) (L : List (Int × ByteArray)) (hB : Boxed w B 120 (.map (some b))) (hm : MapOf Try.prog 3 9 (Lit.int .i64) litS w b L) :
  SeqG (fun r => r = B ∨ r = b) (fun _ => False) Try.prog 121 #[.pointer (some ⟨B, 0, none⟩)] (fun q : Int × ByteArray => #[.int .i64 q.1]) (PreOf L) (fun ys => ys.Perm L) w := by
 intro l J Jx O W hW hO hJ hY h0
 replace hB := hW.boxed hB (by simp)
 replace hm := hm.step hW (by simp)
 have hcB := hB.cell
 refine callsIn_of_wp Try.func121 rfl trivial ?_ rfl
 simp only [Try.ntmps121, List.size_toArray, List.length_cons, List.length_nil, Nat.reduceAdd, Nat.reduceSub, Array.replicate_succ, Array.replicate_zero, List.push_toArray, List.append_toArray, List.nil_append, List.cons_append]
 gi_wp2_with (gi_at_range; refine wpListIn_range _ rfl _ rfl kitP b L rfl hm ?_; intro w0 hrg hs0 hz0; go_frame)
 have hblt := hm.lt
 have hBlt := hB.lt
 gi_loopg [3] L.length (fun kq _ wr => ∃ pre rest, rest.length = kq ∧ (pre ++ rest).Perm L ∧ Ranging Try.prog 3 9 (Lit.int .i64) litS wr b W.heap.size L rest ∧ (∃ O, J O pre wr ∧ (∀ k, O k → k ≠ B ∧ k ≠ b ∧ k ≠ W.heap.size)) ∧ W.heap.size < wr.heap.size)
 case atStart => exact ⟨[], L, rfl, List.Perm.refl _, hrg, ⟨O, hJ.step O [] W w0 _ h0 hs0 (fun _ h => h.elim), fun k hk => by have := hO k hk; have h2 := hJ.lt O [] W h0 k hk; simp at this; exact ⟨this.1, this.2, by omega⟩⟩, by omega⟩
 case round =>
  obtain ⟨pre, rest, hlen, hperm, hrg, ⟨O1, hJs, hO1⟩, hsz⟩ := hrel
  gi_wp2_with (gi_at_next; refine wpListIn_next _ rfl _ rfl kitP b W.heap.size _ rest rfl hrg ?_ ?_)
  ·intro h0
   subst h0
   gi_wp2
   go_end0
   exact ⟨⟨_, rfl⟩, O1, .inl ⟨pre, by simpa using hperm, hJs⟩⟩
  ·intro x v w1 hx hmem hrg1 hs1 hz1 hen
   have hst := iter_step hperm hrg.nodupR hmem
   have hln := delL_length hrg.nodupR hmem
   have hJ1 := hJ.step O1 pre wr w1 _ hJs hs1 (fun k hk => ⟨fun h => (hO1 k h).2.2 hk, Or.inr (by omega)⟩)
   obtain ⟨fn, tmps, assign, body, hy, hR⟩ := hY O1 pre (x, v) w1 hJ1 ⟨_, hst⟩
   gi_wp2
   refine hR.mono ?_
   rintro e W' ⟨O3, hO3, hs3, ⟨rfl, hJ3⟩ | ⟨rfl, hJ3⟩⟩
   ·gi_wp2
    have hrg3 := hrg1.step hs3 (fun h => (hO1 _ h).2.1 rfl) (fun h => (hO1 _ h).2.2 rfl)
    gi_roundg ((delL x rest).length)
    case rel => exact ⟨pre ++ [(x, v)], delL x rest, rfl, hst, hrg3, ⟨O3, hJ3, fun k hk => (hO3 k hk).elim (hO1 k) (fun h => by omega)⟩, by have := hs3.size; omega⟩
    case measure => omega
   ·gi_wp2
    refine bodyPost_ret (results_none rfl _ _ _) rfl ?_
    exact ⟨⟨_, rfl⟩, O3, .inr ⟨_, ⟨_, hst⟩, hJ3⟩⟩
theorem keys_any (w : World) (b : Nat) : Calls Try.prog 86 #[.map (some b)] w fun e w' => e = .returned (.func (.func 121) #[] #[.pointer (some ⟨w.heap.size, 0, none⟩)]) ∧ w' = w.alloc (.cells #[.map (some b)] 120) := by
 go_enter Try.func86, Try.ntmps86
 go_wp2
 go_ret
 exact ⟨rfl, rfl⟩
set_option maxRecDepth 100000 in
set_option maxHeartbeats 2000000 in
theorem values_seq (w : World) (B b : Nat) (L : List (Int × ByteArray)) (hB : Boxed w B 120 (.map (some b))) (hm : MapOf Try.prog 3 9 (Lit.int .i64) litS w b L) :
  SeqG (fun r => r = B ∨ r = b) (fun _ => False) Try.prog 123 #[.pointer (some ⟨B, 0, none⟩)] (fun q : Int × ByteArray => #[.string q.2]) (PreOf L) (fun ys => ys.Perm L) w := by
 intro l J Jx O W hW hO hJ hY h0
 replace hB := hW.boxed hB (by simp)
 replace hm := hm.step hW (by simp)
 have hcB := hB.cell
 refine callsIn_of_wp Try.func123 rfl trivial ?_ rfl
 simp only [Try.ntmps123, List.size_toArray, List.length_cons, List.length_nil, Nat.reduceAdd, Nat.reduceSub, Array.replicate_succ, Array.replicate_zero, List.push_toArray, List.append_toArray, List.nil_append, List.cons_append]
 gi_wp2_with (gi_at_range; refine wpListIn_range _ rfl _ rfl kitP b L rfl hm ?_; intro w0 hrg hs0 hz0; go_frame)
 have hblt := hm.lt
 have hBlt := hB.lt
 gi_loopg [4] L.length (fun kq _ wr => ∃ pre rest, rest.length = kq ∧ (pre ++ rest).Perm L ∧ Ranging Try.prog 3 9 (Lit.int .i64) litS wr b W.heap.size L rest ∧ (∃ O, J O pre wr ∧ (∀ k, O k → k ≠ B ∧ k ≠ b ∧ k ≠ W.heap.size)) ∧ W.heap.size < wr.heap.size)
 case atStart => exact ⟨[], L, rfl, List.Perm.refl _, hrg, ⟨O, hJ.step O [] W w0 _ h0 hs0 (fun _ h => h.elim), fun k hk => by have := hO k hk; have h2 := hJ.lt O [] W h0 k hk; simp at this; exact ⟨this.1, this.2, by omega⟩⟩, by omega⟩
 case round =>
  obtain ⟨pre, rest, hlen, hperm, hrg, ⟨O1, hJs, hO1⟩, hsz⟩ := hrel
  gi_wp2_with (gi_at_next; refine wpListIn_next _ rfl _ rfl kitP b W.heap.size _ rest rfl hrg ?_ ?_)
  ·intro h0
   subst h0
   gi_wp2
   go_end0
   exact ⟨⟨_, rfl⟩, O1, .inl ⟨pre, by simpa using hperm, hJs⟩⟩
  ·intro x v w1 hx hmem hrg1 hs1 hz1 hen
   have hst := iter_step hperm hrg.nodupR hmem
   have hln := delL_length hrg.nodupR hmem
   have hJ1 := hJ.step O1 pre wr w1 _ hJs hs1 (fun k hk => ⟨fun h => (hO1 k h).2.2 hk, Or.inr (by omega)⟩)
   obtain ⟨fn, tmps, assign, body, hy, hR⟩ := hY O1 pre (x, v) w1 hJ1 ⟨_, hst⟩
   gi_wp2
   refine hR.mono ?_
   rintro e W' ⟨O3, hO3, hs3, ⟨rfl, hJ3⟩ | ⟨rfl, hJ3⟩⟩
   ·gi_wp2
    have hrg3 := hrg1.step hs3 (fun h => (hO1 _ h).2.1 rfl) (fun h => (hO1 _ h).2.2 rfl)
    gi_roundg ((delL x rest).length)
    case rel => exact ⟨pre ++ [(x, v)], delL x rest, rfl, hst, hrg3, ⟨O3, hJ3, fun k hk => (hO3 k hk).elim (hO1 k) (fun h => by omega)⟩, by have := hs3.size; omega⟩
    case measure => omega
   ·gi_wp2
    refine bodyPost_ret (results_none rfl _ _ _) rfl ?_
    exact ⟨⟨_, rfl⟩, O3, .inr ⟨_, ⟨_, hst⟩, hJ3⟩⟩
theorem values_any (w : World) (b : Nat) : Calls Try.prog 88 #[.map (some b)] w fun e w' => e = .returned (.func (.func 123) #[] #[.pointer (some ⟨w.heap.size, 0, none⟩)]) ∧ w' = w.alloc (.cells #[.map (some b)] 120) := by
 go_enter Try.func88, Try.ntmps88
 go_wp2
 go_ret
 exact ⟨rfl, rfl⟩
theorem seqG_steps {α : Type} {Zr Z : Nat → Prop} {P : Program} {g : Nat} {lb : Array Value} {encs : α → Array Value} {Pre Fin : List α → Prop} {w w1 : World} (h : SeqG Zr Z P g lb encs Pre Fin w) (hs : Step (fun k => ¬ Zr k) w w1) : SeqG Zr Z P g lb encs Pre Fin w1 :=
 fun l J Jx O W hW hO hJ hY h0 => h l J Jx O W (hs.trans hW (fun _ h => h) (fun _ h => Or.inl h)) hO hJ hY h0
set_option maxRecDepth 100000 in
set_option maxHeartbeats 2000000 in
theorem appendSeq_in {α : Type} {Zr Z : Nat → Prop} {gf : Nat} {lb : Array Value} {f : α → Int} {Pre Fin : List α → Prop} {w : World} (eg : ∀ args w, (callFunc gf args).run Try.prog w = .ok (.enter gf args) w)
  (hseq : SeqG Zr Z Try.prog gf lb (fun x : α => #[.int .i64 (f x)]) Pre Fin w) (hZr : ∀ r, Zr r → r < w.heap.size) (hlen : ∀ ys, Pre ys → ys.length ≤ 4000000000000) :
  CallsIn Fence.wide 4 Try.prog 141 #[.slice none 0 0, .func (.func gf) #[] lb] w fun e W' => ∃ v ys, e = .returned v ∧ Fin ys ∧ W'.ownsRow w.heap.size 3 1 v ys.length (ys.map fun x => Value.int .i64 (f x)) ∧ Step Z w W' := by
 refine callsIn_of_wp_marks Try.func141 rfl trivial ?_ rfl
 simp only [Try.ntmps141, List.size_toArray, List.length_cons, List.length_nil, Nat.reduceAdd, Nat.reduceSub, Array.replicate_succ, Array.replicate_zero, List.push_toArray, List.append_toArray, List.nil_append, List.cons_append]
 gi_wp2
 obtain ⟨W0, hW0⟩ : ∃ W0, W0 = w.alloc (.cells #[.slice none 0 0] 60) := ⟨_, rfl⟩
 have hs0 : Step (fun _ => False) w W0 := by rw [hW0]; exact Step.alloc _ _ _
 have b0 : Boxed W0 w.heap.size 60 (.slice none 0 0) := by rw [hW0]; exact Boxed.new w 60 (.slice none 0 0)
 have hW0s : W0.heap.size = w.heap.size + 1 := by rw [hW0]; simp
 rw [← hW0]
 clear hW0
 refine wpIn_rangeFunc_G (gf := gf) (lb := lb) rfl eg (seqG_steps hseq (hs0.mono (fun _ h => h.elim))) (fun r hr => by have := hZr r hr; omega) (fun _ => rfl)
  (fun O pre W => ∃ v, (∀ k, O k ↔ k = w.heap.size ∨ v.ownBlock = some k) ∧ Boxed W w.heap.size 60 v ∧ W.ownsRow (w.heap.size + 1) 3 1 v pre.length (pre.map fun x => Value.int .i64 (f x)) ∧ Step Z w W)
  (fun _ _ _ _ => False) ⟨?lt, ?step⟩ (fun _ => ⟨fun _ _ _ h => h.elim, fun _ _ _ _ _ h => h.elim⟩) (fun k => k = w.heap.size) (fun k hk hz => by have := hZr k hz; omega) ⟨.slice none 0 0, by simp [Value.ownBlock], b0, World.ownsRow_nil _ _ _ _, hs0.mono (fun _ h => h.elim)⟩ ?round ?done ?stop
 case lt =>
  rintro O pre W ⟨v, h1, h2, h3, _⟩ k hk
  rcases (h1 k).1 hk with rfl | hk
  ·exact h2.lt
  ·rcases h3.2 with ⟨rfl, _⟩ | ⟨g, cap, cur, rfl, _, hg, _⟩
   ·cases hk
   ·cases hk; exact (Array.getElem?_eq_some_iff.1 hg).1
 case step =>
  rintro O pre W W' S ⟨v, h1, h2, h3, h4⟩ hS hs
  exact ⟨v, h1, hS.boxed h2 (fun h => (hs _ h).1 ((h1 _).2 (Or.inl rfl))), ownsRow_step hS h3 (fun g hg h => (hs _ h).1 ((h1 _).2 (Or.inr hg))), h4.trans hS (fun _ h => h) (fun k hk => (hs k hk).2.imp id (fun h => by omega))⟩
 case round =>
  rintro l O pre x W hl hWs - hpre
  have hlp : pre.length + 1 ≤ 4000000000000 := by have := hlen _ hpre; simpa using this
  gi_wp2
  refine ⟨Step.refl _ _, ?_⟩
  rintro Wb hsb ⟨v, h1, h2, h3, h4⟩
  have hc4 := h2.cell
  have hf4 := h2.frozen
  obtain ⟨hbk, A, n, c, rfl⟩ : (∀ q, v.ownBlock = some q → w.heap.size + 1 ≤ q ∧ q < Wb.heap.size) ∧ ∃ A n c, v = .slice A n c := by
   rcases h3.2 with ⟨rfl, _⟩ | ⟨g, cap, cur, rfl, hgn, hg, _⟩
   ·exact ⟨fun q hq => by simp [Value.ownBlock] at hq, _, _, _, rfl⟩
   ·exact ⟨fun q hq => by simp [Value.ownBlock] at hq; subst hq; exact ⟨hgn, (Array.getElem?_eq_some_iff.1 hg).1⟩, _, _, _, rfl⟩
  have hcell := World.news_of_block (cs := #[.int .i64 (f x)]) (t := 3) (fr := (0, 0)) (World.alloc_heap_new Wb (.cells #[.int .i64 (f x)] 3))
  have hb3 : w.heap.size + 1 ≤ (Wb.alloc (.cells #[.int .i64 (f x)] 3)).heap.size := by have := hsb.size; simp at this ⊢; omega
  gi_wp2_with (gi_at_builtin; refine wpListIn_append_at _ rfl _ _ 60 rfl (w.heap.size + 1) 3 (.int .i64 0) 1 8 Try.underlying60 info3 rfl (by decide) (.slice A n c) pre.length (pre.map fun x => Value.int .i64 (f x)) rfl (h3.alloc _) ⟨Wb.heap.size, 0, none⟩ 1 1 [.int .i64 (f x)] rfl rfl (by simpa using hcell) (by simp [Value.oneCell']) (by unfold maxLen; omega) (by omega) hb3 ?_; intro v1 w1 hown1 hg1 _ hat1; obtain ⟨g1, cap1, rfl, hgn1, hgs1, _⟩ := ownsRow_form hown1 (by omega); have hv1 := (h2.alloc (.cells #[.int .i64 (f x)] 3)).kept hg1 (fun e => by have := hbk _ e.symm; omega); have hc1 := hv1.cell; have hf1 := hv1.frozen)
  have hs1 : Step O Wb w1 := (Step.alloc O Wb _).trans (Step.grown hg1 (S := O) (fun q hq => (h1 q).2 (Or.inr hq))) (fun _ h => h) (fun _ h => Or.inl h)
  have hs2 : Step O w1 (w1.setCell ⟨w.heap.size, 0, none⟩ (.slice (some ⟨g1, 0, none⟩) (pre.length + 1) cap1)) := Step.setCell (S := O) w1 (p := ⟨w.heap.size, 0, none⟩) ((h1 _).2 (Or.inl rfl)) _
  refine ⟨fun q => q = w.heap.size ∨ q = g1, fun q hq => ?_, hs1.trans hs2 (fun _ h => h) (fun _ h => Or.inl h), Value.slice (some ⟨g1, 0, none⟩) (pre.length + 1) cap1, fun q => ?_, hv1.set _, ?_, ?_⟩
  ·rcases hq with rfl | rfl
   ·exact Or.inl ((h1 _).2 (Or.inl rfl))
   ·rcases hat1 with e | e
    ·exact Or.inl ((h1 _).2 (Or.inr e.symm))
    ·right; simp [Value.ownBlock] at e; omega
  ·simp [Value.ownBlock, eq_comm]
  ·rw [List.length_append, List.length_singleton, List.map_append, List.map_singleton]
   exact ownsRow_step (Step.setCell (S := fun q => q = w.heap.size) w1 (p := ⟨w.heap.size, 0, none⟩) rfl _) hown1 (fun q hq => by simp [Value.ownBlock] at hq; omega)
  ·exact h4.trans (hs1.trans hs2 (fun _ h => h) (fun _ h => Or.inl h)) (fun _ h => h) (fun q hq => Or.inr (by rcases (h1 q).1 hq with rfl | h <;> first | omega | (have := hbk _ h; omega)))
 case done =>
  rintro D O ys W hD hOD hfin ⟨v, h1, h2, h3, h4⟩ hK
  have hc4 := h2.cell
  gi_wp2
  refine ⟨by simp, .inl ⟨_, _, rfl, run_takeDeferred hK, ?_⟩⟩
  refine ⟨_, results_tmp rfl _ _ _, v, ys, rfl, hfin, ?_, h4.trans (Step.put W D _) (fun _ h => h) (fun k hk => Or.inr (by omega))⟩
  have h5 : W.ownsRow w.heap.size 3 1 v ys.length (ys.map fun x => Value.int .i64 (f x)) := ⟨h3.1, h3.2.imp id fun ⟨g, cap, cur, e, hb, h⟩ => ⟨g, cap, cur, e, by omega, h⟩⟩
  exact ownsRow_step (Step.put W D _) h5 (fun g hg h => by rw [h] at hg; exact hOD ((h1 D).2 (Or.inr hg)))
 case stop => rintro D O c pre W _ _ _ h; exact h.elim
set_option maxRecDepth 100000 in
set_option maxHeartbeats 2000000 in
theorem collect_in {α : Type} {Zr Z : Nat → Prop} {gf : Nat} {lb : Array Value} {f : α → Int} {Pre Fin : List α → Prop} {w : World} (eg : ∀ args w, (callFunc gf args).run Try.prog w = .ok (.enter gf args) w)
  (hseq : SeqG Zr Z Try.prog gf lb (fun x : α => #[.int .i64 (f x)]) Pre Fin w) (hZr : ∀ r, Zr r → r < w.heap.size) (hlen : ∀ ys, Pre ys → ys.length ≤ 4000000000000) :
  Calls Try.prog 119 #[.func (.func gf) #[] lb] w fun e W' => ∃ v ys, e = .returned v ∧ Fin ys ∧ W'.ownsRow w.heap.size 3 1 v ys.length (ys.map fun x => Value.int .i64 (f x)) ∧ Step Z w W' := by
 have hA := (callsIn_wide (n := 4)).1 (appendSeq_in eg hseq hZr hlen)
 refine (callsIn_wide (n := 4)).1 ?_
 refine callsIn_of_wp_marks Try.func119 rfl trivial ?_ rfl
 simp only [Try.ntmps119, List.size_toArray, List.length_cons, List.length_nil, Nat.reduceAdd, Nat.reduceSub, Array.replicate_succ, Array.replicate_zero, List.push_toArray, List.append_toArray, List.nil_append, List.cons_append]
 gi_wp2_with (refine ⟨trivial, ?_⟩; gi_at_call 141; refine (callsIn_wide.2 hA).mono ?_; rintro e w' ⟨v, ys, rfl, hf, ho, hs⟩)
 exact ⟨_, results_tmp rfl _ _ _, v, ys, rfl, hf, ho, hs⟩
theorem sortI_of_perm {l l' : List Int} (h : l.Perm l') (hs : l'.Pairwise (· < ·)) : sortI l = l' :=
 List.Perm.eq_of_pairwise (fun a b _ _ h1 h2 => Int.le_antisymm h1 h2) (sortI_sorted l) (hs.imp (fun h => Int.le_of_lt h)) ((sortI_perm l).trans h)
theorem R_of_map {α : Type} {f : α → Int} {w : World} {base : Nat} {v : Value} {ys : List α} (ho : w.ownsRow base 3 1 v ys.length (ys.map fun x => Value.int .i64 (f x))) : Kd.R (Kd.int .i64) 3 w base (fun _ => True) v (ys.map f) := by
 refine Kd.R_of_own ?_ (fun _ _ => trivial)
 have e : encs (Value.int .i64) (ys.map f) = ys.map fun x => Value.int .i64 (f x) := by simp [encs, List.map_map, Function.comp_def]
 rw [List.length_map, e]
 exact ho
theorem sorted_any {α : Type} {Zr : Nat → Prop} {gf : Nat} {lb : Array Value} {f : α → Int} {Pre Fin : List α → Prop} {w : World} (eg : ∀ args w, (callFunc gf args).run Try.prog w = .ok (.enter gf args) w)
  (hseq : SeqG Zr (fun _ => False) Try.prog gf lb (fun x : α => #[.int .i64 (f x)]) Pre Fin w) (hZr : ∀ r, Zr r → r < w.heap.size) (hlen : ∀ ys, Pre ys → ys.length ≤ 4000000000000) (hfin : ∀ ys, Fin ys → ys.length ≤ 4000000000000) :
  Calls Try.prog 85 #[.func (.func gf) #[] lb] w fun e W' => ∃ v ys, e = .returned v ∧ Fin ys ∧ Kd.R (Kd.int .i64) 3 W' w.heap.size (fun _ => True) v (sortI (ys.map f)) ∧ Below w.heap.size w W' := by
 have hC := collect_in eg hseq hZr hlen
 refine (callsIn_wide (n := 4)).1 ?_
 refine callsIn_of_wp_marks Try.func85 rfl trivial ?_ rfl
 simp only [Try.ntmps85, List.size_toArray, List.length_cons, List.length_nil, Nat.reduceAdd, Nat.reduceSub, Array.replicate_succ, Array.replicate_zero, List.push_toArray, List.append_toArray, List.nil_append, List.cons_append]
 gi_wp2_with (first
  | (refine ⟨trivial, ?_⟩; gi_at_call 119; refine (callsIn_wide.2 hC).mono ?_; rintro e w1 ⟨v, ys, rfl, hf, ho, hs⟩; have hb1 : Below w.heap.size w w1 := (hs.below (Nat.le_refl _) (fun _ h => h.elim)); have hR : Kd.R (Kd.int .i64) 3 w1 w.heap.size (fun _ => True) v (ys.map f) := R_of_map ho; have hy := hfin ys hf)
  | (refine ⟨trivial, ?_⟩; gi_at_call 120; refine (callsIn_wide.2 (slices_Sort_int_int.calls (fun _ => True) v (ys.map f) (sortI (ys.map f)) w w1 hb1 hR (by unfold slices_Sort_int_int.f; rw [if_pos (by rw [List.length_map]; omega)]))).mono ?_; rintro e w2 ⟨rfl, hR2, hb2, _⟩))
 exact ⟨_, results_tmp rfl _ _ _, v, ys, rfl, hf, Kd.R_mono hR2 (fun _ _ => trivial), hb2⟩
theorem pool_Ids_any (w : World) (p b : Nat) (last : Int) (L : List (Int × ByteArray)) (h : PoolAt w p b last L) :
  Calls Try.prog 36 #[.pointer (some ⟨p, 0, none⟩)] w fun e w' => ∃ v, e = .returned v ∧ Kd.R (Kd.int .i64) 3 w' w.heap.size (fun _ => True) v (L.map Prod.fst) ∧ Below w.heap.size w w' := by
 refine (callsIn_wide (n := 4)).1 ?_
 refine callsIn_of_wp_marks Try.func36 rfl trivial ?_ rfl
 simp only [Try.ntmps36, List.size_toArray, List.length_cons, List.length_nil, Nat.reduceAdd, Nat.reduceSub, Array.replicate_succ, Array.replicate_zero, List.push_toArray, List.append_toArray, List.nil_append, List.cons_append]
 have c1 : w.cell? ⟨p, 1, none⟩ = some (.map (some b)) := by simp [World.cell?, h.1]
 have hbl := h.2.1.lt
 have hL1 := h.2.2.2.1
 have hL2 := h.2.2.2.2.1
 have hseq := keys_seq (w.alloc (.cells #[.map (some b)] 120)) w.heap.size b L (Boxed.new w 120 (.map (some b))) (h.2.1.step (Step.alloc (fun _ => False) _ _) (fun h => h))
 have hS := sorted_any (enters_of Try.func121 (by kernel_rfl) rfl) hseq (fun r hr => by simp at hr ⊢; omega) (fun ys ⟨rest, hp⟩ => by have := hp.length_eq; simp at this; omega) (fun ys hp => by have := hp.length_eq; omega)
 gi_wp2_with (first
  | (refine ⟨trivial, ?_⟩; gi_at_call 86; refine (callsIn_wide.2 (keys_any _ b)).mono ?_; rintro e w1 ⟨rfl, rfl⟩)
  | (refine ⟨trivial, ?_⟩; gi_at_call 85; refine (callsIn_wide.2 hS).mono ?_; rintro e w2 ⟨v, ys, rfl, hp, hR, hb⟩))
 rw [sortI_of_perm (hp.map Prod.fst) h.2.2.2.2.2.2] at hR
 exact ⟨_, results_tmp rfl _ _ _, v, rfl, Kd.R_lower hR (by simp), ((Below.refl _ w).alloc (Nat.le_refl _) _).trans (hb.mono (by simp))⟩
def sizeP : List (Int × ByteArray) → Nat
 | [] => 0
 | q :: l => q.2.size + sizeP l
theorem sizeP_append : ∀ l l' : List (Int × ByteArray), sizeP (l ++ l') = sizeP l + sizeP l'
 | [], l' => by simp [sizeP]
 | q :: l, l' => by rw [List.cons_append, sizeP, sizeP, sizeP_append l l', Nat.add_assoc]
theorem sizeP_perm {l l' : List (Int × ByteArray)} (h : l.Perm l') : sizeP l = sizeP l' := by
 induction h with
 | nil => rfl
 | cons x _ ih => rw [sizeP, sizeP, ih]
 | swap x y l => simp only [sizeP]; omega
 | trans _ _ h1 h2 => exact h1.trans h2
theorem sizeP_le : ∀ {l : List (Int × ByteArray)}, (∀ q ∈ l, q.2.size ≤ 65536) → sizeP l ≤ 65536 * l.length
 | [], _ => by simp [sizeP]
 | q :: l, h => by
  have := sizeP_le (l := l) (fun x hx => h x (List.mem_cons_of_mem _ hx))
  have := h q List.mem_cons_self
  rw [sizeP, List.length_cons]; omega
set_option maxRecDepth 100000 in
set_option maxHeartbeats 2000000 in
theorem pool_Bytes_any (w : World) (p b : Nat) (last : Int) (L : List (Int × ByteArray)) (h : PoolAt w p b last L) :
  Calls Try.prog 44 #[.pointer (some ⟨p, 0, none⟩)] w fun e w' => e = .returned (.int .i64 (sizeP L)) ∧ Below w.heap.size w w' := by
 refine (callsIn_wide (n := 4)).1 ?_
 refine callsIn_of_wp_marks Try.func44 rfl trivial ?_ rfl
 simp only [Try.ntmps44, List.size_toArray, List.length_cons, List.length_nil, Nat.reduceAdd, Nat.reduceSub, Array.replicate_succ, Array.replicate_zero, List.push_toArray, List.append_toArray, List.nil_append, List.cons_append]
 have hpw : p < w.heap.size := (Array.getElem?_eq_some_iff.1 h.1).1
 have hbl := h.2.1.lt
 have hL1 := h.2.2.2.1
 have hL2 := h.2.2.2.2.1
 have hsz : ∀ q ∈ L, q.2.size ≤ 65536 := fun q hq => (h.2.2.2.2.2.1 q hq).2.2
 have c1 : ∀ o, (w.alloc o).cell? ⟨p, 1, none⟩ = some (.map (some b)) := fun o => by
  have : (w.alloc o).heap[p]? = some (.cells #[.int .i64 last, .map (some b)] 124 (0, 0)) := (Below.heap_alloc w o p hpw).trans h.1
  simp [World.cell?, this]
 gi_wp2_with (refine ⟨trivial, ?_⟩; gi_at_call 88; refine (callsIn_wide.2 (values_any _ b)).mono ?_; rintro e w1 ⟨rfl, rfl⟩)
 obtain ⟨W0, hW0⟩ : ∃ W0, W0 = (w.alloc (.cells #[.int .i64 0] 3)).alloc (.cells #[.map (some b)] 120) := ⟨_, rfl⟩
 have hW0s : W0.heap.size = w.heap.size + 2 := by rw [hW0]; simp
 have b0 : Boxed W0 w.heap.size 3 (.int .i64 0) := by rw [hW0]; exact (Boxed.new w 3 (.int .i64 0)).alloc _
 have b1 : Boxed W0 (w.heap.size + 1) 120 (.map (some b)) := by
  have := Boxed.new (w.alloc (.cells #[.int .i64 0] 3)) 120 (.map (some b))
  rw [hW0]; simpa using this
 have hB0 : Below w.heap.size w W0 := by rw [hW0]; exact ((Below.refl _ w).alloc (Nat.le_refl _) _).alloc (by simp) _
 have hm0 : MapOf Try.prog 3 9 (Lit.int .i64) litS W0 b L := h.2.1.below hB0 hbl
 rw [← hW0]
 clear hW0
 refine wpIn_rangeFunc_G (gf := 123) (lb := #[.pointer (some ⟨w.heap.size + 1, 0, none⟩)]) rfl (enters_of Try.func123 (by kernel_rfl) rfl)
  (values_seq W0 (w.heap.size + 1) b L b1 hm0) (fun r hr => by omega) (fun _ => rfl)
  (fun O pre W => (∀ k, O k ↔ k = w.heap.size) ∧ Boxed W w.heap.size 3 (.int .i64 (sizeP pre)) ∧ Below w.heap.size w W)
  (fun _ _ _ _ => False) ⟨?lt, ?step⟩ (fun _ => ⟨fun _ _ _ h => h.elim, fun _ _ _ _ _ h => h.elim⟩) (fun k => k = w.heap.size) (fun k hk => by omega) ⟨fun k => Iff.rfl, b0, hB0⟩ ?round ?done ?stop
 case lt => rintro O pre W ⟨h1, h2, _⟩ k hk; rw [(h1 k).1 hk]; exact h2.lt
 case step =>
  rintro O pre W W' S ⟨h1, h2, h3⟩ hS hs
  exact ⟨h1, hS.boxed h2 (fun h => (hs _ h).1 ((h1 _).2 rfl)), h3.trans (hS.below h3.size (fun k hk => by have := (hs k hk).2; simp at this; omega))⟩
 case round =>
  rintro l O pre x W hl2 hWs ⟨h1, h2, h3⟩ ⟨rest, hpre⟩
  have hle := sizeP_le (l := pre ++ [x]) (fun q hq => hsz q (hpre.mem_iff.1 (List.mem_append_left _ hq)))
  have hl3 := hpre.length_eq
  rw [List.length_append] at hl3
  rw [sizeP_append, sizeP, sizeP] at hle
  gi_wp2
  refine ⟨Step.refl _ _, ?_⟩
  rintro Wb hsb ⟨_, h4, h5⟩
  have hc4 := h4.cell
  have hf4 := h4.frozen
  have hw : wrap64 ((sizeP pre : Int) + (x.2.size : Int)) = (sizeP pre : Int) + (x.2.size : Int) := by unfold wrap64; omega
  clear hle hl3 hL1 hL2 hW0s hpre
  gi_wp2
  clear hw
  have e : ((sizeP (pre ++ [x]) : Nat) : Int) = (sizeP pre : Int) + (x.2.size : Int) := by rw [sizeP_append, sizeP, sizeP, Nat.add_zero, Int.natCast_add]
  refine ⟨O, fun k hk => Or.inl hk, Step.setCell (S := O) Wb (p := ⟨w.heap.size, 0, none⟩) ((h1 _).2 rfl) _, h1, ?_, h5.setCell (p := ⟨w.heap.size, 0, none⟩) (Nat.le_refl _) _⟩
  have h6 := h4.set (.int .i64 ((sizeP pre : Int) + (x.2.size : Int)))
  rw [e]
  exact h6
 case done =>
  rintro D O ys W hD hOD hfin ⟨h1, h2, h3⟩ hK
  rw [sizeP_perm hfin] at h2
  have hc4 := h2.cell
  gi_wp2
  refine ⟨by simp, .inl ⟨_, _, rfl, run_takeDeferred hK, ?_⟩⟩
  exact ⟨_, results_tmp rfl _ _ _, rfl, h3.trans ((Step.put _ _ _).below h3.size (fun k hk => by omega))⟩
 case stop => rintro D O c pre W _ _ _ h; exact h.elim
theorem run_clone_map {w : World} {r : Nat} {es : Array MapEntry} {clock : Nat} (t : TypeId) (hb : w.heap[r]? = some (.map es clock)) :
  (Extern.MapsClone.clone #[.iface t (.map (some r))]).run Try.prog w = .ok (.iface t (.map (some w.heap.size))) (w.alloc (.map es clock)) := by
 have e : Extern.MapsClone.clone #[.iface t (.map (some r))] = (getObj r >>= fun o => match o with
   | .map entries clock => (newObj (.map entries clock) >>= fun n => pure (.iface t (.map (some n))))
   | _ => stuck "maps.clone: a map expected") := rfl
 rw [e]
 simp [MapKept.run_getObj_map hb, Result.andThen, go_sem]
theorem run_eql_map_nil (w : World) (d : Nat) (t k e : TypeId) (p : Option Nat) (h : Try.prog.underlying t = some (.map k e)) : (Op.equalIn (d + 1) t (.map p) (.map none)).run Try.prog w = .ok p.isNone w := by
 cases p <;> simp [Op.equalIn, run_underlying h]
theorem run_binOp_map_nil (w : World) (t k e : TypeId) (p : Option Nat) (h : Try.prog.underlying t = some (.map k e)) : (binOp .eql t (.map p) (.map none)).run Try.prog w = .ok (.bool p.isNone) w := by
 simp only [binOp]
 simp [show Op.equal t (.map p) (.map none) = Op.equalIn (9999 + 1) t (.map p) (.map none) from rfl, run_eql_map_nil w 9999 t k e p h]
theorem run_typeAssert_map (w : World) (t xT k e : TypeId) (v : Value) (h : Try.prog.underlying t = some (.map k e)) : (Instr.typeAssert (.iface t v) xT t false).run Try.prog w = .ok v w := by
 simp [Instr.typeAssert, run_underlying h, go_sem, Result.andThen]
theorem mapsClone_any (w : World) (b : Nat) (L : List (Int × ByteArray)) (hm : MapOf Try.prog 3 9 (Lit.int .i64) litS w b L) :
  Calls Try.prog 87 #[.map (some b)] w fun e w' => e = .returned (.map (some w.heap.size)) ∧ MapOf Try.prog 3 9 (Lit.int .i64) litS w' w.heap.size L ∧ Below w.heap.size w w' := by
 obtain ⟨D, ⟨es, clock, hb, F, hs, hD⟩, hH⟩ := hm
 have hq := fun w => run_binOp_map_nil w 120 _ _ (some b) Try.underlying120
 have ht := fun w v => run_typeAssert_map w 120 20 _ _ v Try.underlying120
 have hx := run_clone_map (w := w) 120 hb
 have hcall := run_callFunc_extern (P := Try.prog) (f := 122) (e := Extern.MapsClone.clone) Try.func122 (by kernel_rfl) (by kernel_rfl) (by kernel_rfl) (by kernel_rfl)
 go_enter Try.func87, Try.ntmps87
 go_wp2
 go_ret
 exact ⟨rfl, ⟨D, ⟨es, clock, (MapKept.heap_alloc w _).1, F, hs, hD⟩, hH⟩, (Below.refl _ w).alloc (Nat.le_refl _) _⟩
theorem pool_Clone_any (w : World) (p b : Nat) (last : Int) (L : List (Int × ByteArray)) (h : PoolAt w p b last L) :
  Calls Try.prog 41 #[.pointer (some ⟨p, 0, none⟩)] w fun e w' => ∃ p' b', e = .returned (.pointer (some ⟨p', 0, none⟩)) ∧ PoolAt w' p' b' last L ∧ w.heap.size ≤ p' ∧ w.heap.size ≤ b' ∧ Below w.heap.size w w' := by
 refine (callsIn_wide (n := 4)).1 ?_
 refine callsIn_of_wp Try.func41 rfl trivial ?_ rfl
 simp only [Try.ntmps41, List.size_toArray, List.length_cons, List.length_nil, Nat.reduceAdd, Nat.reduceSub, Array.replicate_succ, Array.replicate_zero, List.push_toArray, List.append_toArray, List.nil_append, List.cons_append]
 have c0 : w.cell? ⟨p, 0, none⟩ = some (.int .i64 last) := by simp [World.cell?, h.1]
 have c1 : w.cell? ⟨p, 1, none⟩ = some (.map (some b)) := by simp [World.cell?, h.1]
 have hpw : p < w.heap.size := (Array.getElem?_eq_some_iff.1 h.1).1
 have hmd : MapOf Try.prog 3 9 (Lit.int .i64) litS w.drew b L := h.2.1
 gi_wp2
 gi_region_with (refine ⟨trivial, ?_⟩; gi_at_call 87; refine (callsIn_wide.2 (mapsClone_any _ b L hmd)).mono ?_; rintro e w1 ⟨rfl, hm, hb⟩; have c0' := (hb.cell (p := ⟨p, 0, none⟩) hpw).trans c0)
 all_goals have hbs := hb.size
 all_goals gi_wp2
 all_goals go_ret
 all_goals exact ⟨_, _, rfl, ⟨World.alloc_heap_new w1 _, hm.step (Step.alloc (fun _ => False) _ _) (fun h => h), h.2.2⟩, hbs, Nat.le_refl _, ((below_drew1 (Below.refl _ w)).trans hb).alloc hbs _⟩
end

def caulkref05_Same.l0 : Nat → List Int → List Int → Int → Int → Option (Bool)
 | 0, _, _, _, _ => none
 | k + 1, x0, x1, x12, x13 => if x13 < x12 then (if 0 ≤ x13 then (if x13 < (x0.length : Int) then (if x13 < (x1.length : Int) then (if (rd x0 x13) = (rd x1 x13) then (caulkref05_Same.l0 k x0 x1 x12 (wrap64 (x13 + 1))) else (some false)) else (none)) else (none)) else (none)) else (some true)
def caulkref05_Same.f (k : Nat) (l0 : List Int) (l1 : List Int) : Option (Bool) := if (l0.length : Int) = (l1.length : Int) then (caulkref05_Same.l0 k l0 l1 (l0.length : Int) 0) else (some false)
theorem caulkref05_Same.mono_l : ∀ k, (∀ y0 y1 y2 y3, LeO (caulkref05_Same.l0 k y0 y1 y2 y3) (caulkref05_Same.l0 (k + 1) y0 y1 y2 y3))
 | 0 => fun _ _ _ _ r h => by simp [caulkref05_Same.l0] at h
 | k + 1 => by
  have ih0 := caulkref05_Same.mono_l k
  ·intro y0 y1 y2 y3
   unfold caulkref05_Same.l0
   repeat' first
   | (with_reducible exact ih0 _ _ _ _)
   | (with_reducible exact LeO.refl _)
   | (with_reducible exact LeO.none _)
   | (with_reducible refine LeO.ite ?_ ?_)
   | (with_reducible refine LeO.bind ?_ (fun _ => ?_))
   | exact ih0 _ _ _ _
   | exact LeO.none _
   | refine LeO.ite ?_ ?_
   | refine LeO.bind ?_ (fun _ => ?_)
theorem caulkref05_Same.mono : ∀ a0 a1 k, LeO (caulkref05_Same.f k a0 a1) (caulkref05_Same.f (k + 1) a0 a1) := by
 intro a0 a1 k
 have ih0 := caulkref05_Same.mono_l k
 unfold caulkref05_Same.f
 repeat' first
   | (with_reducible exact ih0 _ _ _ _)
   | (with_reducible exact LeO.refl _)
   | (with_reducible exact LeO.none _)
   | (with_reducible refine LeO.ite ?_ ?_)
   | (with_reducible refine LeO.bind ?_ (fun _ => ?_))
   | exact ih0 _ _ _ _
   | exact LeO.none _
   | refine LeO.ite ?_ ?_
   | refine LeO.bind ?_ (fun _ => ?_)
set_option maxHeartbeats 8000000 in
set_option maxRecDepth 100000 in
theorem caulkref05_Same.calls (k : Nat) (A0 : Option Addr) (c0 : Nat) (l0 : List Int) (A1 : Option Addr) (c1 : Nat) (l1 : List Int) (r : Bool) (w : World) (hr0 : Kd.C (Kd.int .i64) w A0 l0.length l0) (hc0 : l0.length ≤ c0) (hr1 : Kd.C (Kd.int .i64) w A1 l1.length l1) (hc1 : l1.length ≤ c1) (h : caulkref05_Same.f k l0 l1 = some r) :
  Calls Try.prog 42 #[.slice A0 l0.length c0, .slice A1 l1.length c1] w fun e w' => e = .returned (.bool r) ∧ Drawn0 w w' := by
 have HR0 := Aside0.mk hr0
 have HC0 := Aside0.mk hc0
 clear hr0 hc0
 have HR1 := Aside0.mk hr1
 have HC1 := Aside0.mk hc1
 clear hr1 hc1
 have H : (if (l0.length : Int) = (l1.length : Int) then (caulkref05_Same.l0 k l0 l1 (l0.length : Int) 0) else (some false)) = some r := h
 clear h
 by_cases c3 : (l0.length : Int) = (l1.length : Int)
 ·rw [if_pos c3] at H
  have c3b0 : ((l0.length : Int) == (l1.length : Int)) = true := beq_iff_eq.mpr c3
  have c3b1 : ((l0.length : Int) != (l1.length : Int)) = false := bne_eq_false_iff_eq.mpr c3
  have c3b2 : (l0.length == l1.length) = true := by first | simpa using c3 | (simp at c3 ⊢; omega)
  clear c3
  have H' := Aside0.mk H
  clear H
  go_enter Try.func42, Try.ntmps42
  go_wp2
  repeat (go_quiet (fail); try go_wp2)
  go_loopg [13] k (fun kq v13 w' => ∃ (x13_1 : Int), v13 = .int .i64 x13_1 ∧ Aside0 (caulkref05_Same.l0 kq l0 l1 (l0.length : Int) x13_1 = some r) ∧ Aside0 (kq ≤ k) ∧ Drawn0 w w')
  case atStart => exact ⟨(0), (by first | rfl | (simp; done) | (simp [*]; done)), H', ⟨Nat.le_refl _⟩, by repeat (first | exact Drawn0.refl _ | apply Drawn0.step)⟩
  case round =>
   clear H'
   try clear c1
   try clear p2
   try clear c3
   try clear c3b0
   try clear c3b1
   try clear c3b2
   obtain ⟨x13_1, rfl, HA, HK1, ⟨m1, rfl⟩⟩ := hrel
   cases gk with
   | zero => exact absurd HA.out (by simp [caulkref05_Same.l0])
   | succ k1 =>
    have H := HA.out
    clear HA
    simp only [caulkref05_Same.l0] at H
    by_cases c4 : x13_1 < (l0.length : Int)
    ·rw [if_pos c4] at H
     have c4b0 : decide (x13_1 < (l0.length : Int)) = true := decide_eq_true c4
     clear c4
     by_cases c5 : 0 ≤ x13_1
     ·rw [if_pos c5] at H
      have c5b0 : decide (0 ≤ x13_1) = true := decide_eq_true c5
      clear c5
      by_cases c6 : x13_1 < (l0.length : Int)
      ·rw [if_pos c6] at H
       have c6b0 : decide (x13_1 < (l0.length : Int)) = true := decide_eq_true c6
       clear c6
       by_cases c7 : x13_1 < (l1.length : Int)
       ·rw [if_pos c7] at H
        have c7b0 : decide (x13_1 < (l1.length : Int)) = true := decide_eq_true c7
        clear c7
        by_cases c8 : (rd l0 x13_1) = (rd l1 x13_1)
        ·rw [if_pos c8] at H
         have c8b0 : ((rd l0 x13_1) == (rd l1 x13_1)) = true := beq_iff_eq.mpr c8
         have c8b1 : ((rd l0 x13_1) != (rd l1 x13_1)) = false := bne_eq_false_iff_eq.mpr c8
         clear c8
         have H' := Aside0.mk H
         clear H
         have p101 : 0 ≤ (x13_1 : Int) := of_decide_eq_true (by first | (with_reducible assumption) | assumption)
         have q101 : x13_1 < (l0.length : Int) := of_decide_eq_true (by first | (with_reducible assumption) | assumption)
         obtain ⟨ad101, e101, hx101_0⟩ := Kd.at_int HR0.out x13_1 p101 q101
         cases e101
         replace p101 := eq_true p101
         replace q101 := eq_true q101
         have p102 : 0 ≤ (x13_1 : Int) := of_decide_eq_true (by first | (with_reducible assumption) | assumption)
         have q102 : x13_1 < (l1.length : Int) := of_decide_eq_true (by first | (with_reducible assumption) | assumption)
         obtain ⟨ad102, e102, hx102_0⟩ := Kd.at_int HR1.out x13_1 p102 q102
         cases e102
         replace p102 := eq_true p102
         replace q102 := eq_true q102
         go_wp2
         repeat (go_quiet (fail); try go_wp2)
         go_roundg k1
         case measure => have := HK1.out; omega
         case rel => exact ⟨(wrap64 (x13_1 + 1)), (by first | rfl | (simp; done) | (simp [*]; done)), H', ⟨by have := HK1.out; omega⟩, by repeat (first | exact Drawn0.refl _ | apply Drawn0.step)⟩
        ·rw [if_neg c8] at H
         have c8b0 : ((rd l0 x13_1) == (rd l1 x13_1)) = false := beq_eq_false_iff_ne.mpr c8
         have c8b1 : ((rd l0 x13_1) != (rd l1 x13_1)) = true := bne_iff_ne.mpr c8
         obtain rfl := Option.some.inj H
         have p101 : 0 ≤ (x13_1 : Int) := of_decide_eq_true (by first | (with_reducible assumption) | assumption)
         have q101 : x13_1 < (l0.length : Int) := of_decide_eq_true (by first | (with_reducible assumption) | assumption)
         obtain ⟨ad101, e101, hx101_0⟩ := Kd.at_int HR0.out x13_1 p101 q101
         cases e101
         replace p101 := eq_true p101
         replace q101 := eq_true q101
         have p102 : 0 ≤ (x13_1 : Int) := of_decide_eq_true (by first | (with_reducible assumption) | assumption)
         have q102 : x13_1 < (l1.length : Int) := of_decide_eq_true (by first | (with_reducible assumption) | assumption)
         obtain ⟨ad102, e102, hx102_0⟩ := Kd.at_int HR1.out x13_1 p102 q102
         cases e102
         replace p102 := eq_true p102
         replace q102 := eq_true q102
         go_wp2
         repeat (go_quiet (fail); try go_wp2)
         go_ret
         exact ⟨by first | rfl | (simp; done) | (simp [*]; done), by repeat (first | exact Drawn0.refl _ | apply Drawn0.step)⟩
       ·rw [if_neg c7] at H
        exact absurd H (by simp)
      ·rw [if_neg c6] at H
       exact absurd H (by simp)
     ·rw [if_neg c5] at H
      exact absurd H (by simp)
    ·rw [if_neg c4] at H
     have c4b0 : decide (x13_1 < (l0.length : Int)) = false := decide_eq_false c4
     clear c4
     obtain rfl := Option.some.inj H
     go_wp2
     repeat (go_quiet (fail); try go_wp2)
     go_ret
     exact ⟨by first | rfl | (simp; done) | (simp [*]; done), by repeat (first | exact Drawn0.refl _ | apply Drawn0.step)⟩
 ·rw [if_neg c3] at H
  have c3b0 : ((l0.length : Int) == (l1.length : Int)) = false := beq_eq_false_iff_ne.mpr c3
  have c3b1 : ((l0.length : Int) != (l1.length : Int)) = true := bne_iff_ne.mpr c3
  have c3b2 : (l0.length == l1.length) = false := by first | simpa using c3 | (simp at c3 ⊢; omega)
  obtain rfl := Option.some.inj H
  go_enter Try.func42, Try.ntmps42
  go_wp2
  repeat (go_quiet (fail); try go_wp2)
  go_ret
  exact ⟨by first | rfl | (simp; done) | (simp [*]; done), by repeat (first | exact Drawn0.refl _ | apply Drawn0.step)⟩

end Go.Proofs.Ytgahpdoiddhdaaa.HPool
