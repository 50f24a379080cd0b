/- WRITTEN BY wip/hyb.py, a program of this workplace (out of the kit's printer and this workplace's own contracts). -/
import Derived.Test.YtpbkcdodpjpoeaaDoorGCBx0
import Derived.Test.YtpbkcdodpjpoeaaDoorGCBx1
namespace Go.Proofs.YtpbkcdodpjpoeaaDoor.HCB
open Go.RowKit Go.Proofs.YtpbkcdodpjpoeaaDoorW.PrintWords Go.Proofs.YtpbkcdodpjpoeaaDoorW.PrintLast Go.Proofs.YtpbkcdodpjpoeaaDoorW.PrintMore
attribute [local go_sem] max2_int min2_int max_two min_two max_three min_three max_four min_four   -- for this text's walks alone
set_option linter.unusedVariables false
set_option linter.unusedSimpArgs false

section
open Go Go.Shelf Go.Maps Go.Proofs.YtpbkcdodpjpoeaaDoor.Seq Go.Proofs.YtpbkcdodpjpoeaaDoor.MapL Go.Proofs.YtpbkcdodpjpoeaaDoorW.PrintLast
attribute [local go_sem] Oper.semAt_some max2_int min2_int max_two min_two
theorem kitS : Kit Tryd.prog 86 3 9 (Value.int .i64) (Lit.int .i64) (fun x => (Lit.int .i64 x).wf = true) Value.string litS (fun s => s.size ≤ maxLen) ByteArray.empty :=
 kit_is Tryd.underlying86 (by kernel_rfl) (by kernel_rfl) (fun w => by kernel_rfl)
theorem kitB : Kit Tryd.prog 87 3 4 (Value.int .i64) (Lit.int .i64) (fun x => (Lit.int .i64 x).wf = true) Value.bool Lit.bool (fun _ => True) false :=
 kit_ib Tryd.underlying87 (by kernel_rfl) (by kernel_rfl) (fun w => by kernel_rfl)
abbrev FL := List (Int × ByteArray)
abbrev BL := List (Int × Bool)
def DevOk (xs : List ByteArray) (F : FL) (B : BL) (fuse : Int) : Prop :=
 1 ≤ xs.length ∧ xs.length ≤ 32768 ∧ (∀ x ∈ xs, x.size = 512) ∧ (∀ q ∈ F, 0 ≤ q.1 ∧ q.1 < xs.length ∧ q.2.size = 512) ∧ (∀ q ∈ B, 0 ≤ q.1 ∧ q.1 < xs.length ∧ q.2 = true) ∧ F.length ≤ xs.length ∧ B.length ≤ xs.length ∧ -1 ≤ fuse ∧ fuse ≤ 9223372036854775807
structure DevIds where
 d : Nat
 bs : Nat
 cap : Nat
 bf : Nat
 bb : Nat
def DevIds.In (i : DevIds) : Nat → Prop := fun k => k = i.d ∨ k = i.bs ∨ k = i.bf ∨ k = i.bb
def DevAt (w : World) (i : DevIds) (xs : List ByteArray) (F : FL) (B : BL) (off : Bool) (fuse nw : Int) : Prop :=
 w.heap[i.d]? = some (.cells #[.slice (some ⟨i.bs, 0, none⟩) xs.length i.cap, .map (some i.bf), .map (some i.bb), .bool off, .int .i64 fuse, .int .i64 nw] 89 (0, 0)) ∧
 w.ownsRow 0 9 1 (.slice (some ⟨i.bs, 0, none⟩) xs.length i.cap) xs.length (xs.map Value.string) ∧
 MapOf Tryd.prog 3 9 (Lit.int .i64) litS w i.bf F ∧ MapOf Tryd.prog 3 4 (Lit.int .i64) Lit.bool w i.bb B ∧ i.bf ≠ i.bb ∧ DevOk xs F B fuse
theorem map_block {α β : Type} [DecidableEq α] {P : Program} {tk te : TypeId} {mk : α → Lit} {md : β → Lit} {w : World} {b : Nat} {L : List (α × β)} (h : MapOf P tk te mk md w b L) : ∃ es clock, w.heap[b]? = some (.map es clock) := by
 obtain ⟨D, ⟨es, clock, h2, _⟩, _⟩ := h
 exact ⟨es, clock, h2⟩
theorem row_block {w : World} {base e size n m g cap : Nat} {xs : List Value} (h : w.ownsRow base e size (.slice (some ⟨g, 0, none⟩) m cap) n xs) : ∃ cur, w.heap[g]? = some (.cells cur e (0, 0)) := by
 rcases h.2 with ⟨h0, _⟩ | ⟨g', cap', cur, e', hb, hg, _⟩
 ·cases h0
 ·cases e'; exact ⟨cur, hg⟩
section
variable {w w' : World} {i : DevIds} {xs : List ByteArray} {F : FL} {B : BL} {off : Bool} {fuse nw : Int}
theorem DevAt.ne (h : DevAt w i xs F B off fuse nw) : i.d ≠ i.bs ∧ i.d ≠ i.bf ∧ i.d ≠ i.bb ∧ i.bs ≠ i.bf ∧ i.bs ≠ i.bb ∧ i.bf ≠ i.bb := by
 obtain ⟨hd, hr, hf, hb, hn, _⟩ := h
 obtain ⟨e1, c1, m1⟩ := map_block hf
 obtain ⟨e2, c2, m2⟩ := map_block hb
 obtain ⟨cur, r⟩ := row_block hr
 refine ⟨fun e => ?_, fun e => ?_, fun e => ?_, fun e => ?_, fun e => ?_, hn⟩
 ·rw [e, r] at hd; cases hd
 ·rw [e, m1] at hd; cases hd
 ·rw [e, m2] at hd; cases hd
 ·rw [e, m1] at r; cases r
 ·rw [e, m2] at r; cases r
theorem DevAt.ok (h : DevAt w i xs F B off fuse nw) : DevOk xs F B fuse := h.2.2.2.2.2
theorem DevAt.lt (h : DevAt w i xs F B off fuse nw) : ∀ k, i.In k → k < w.heap.size := by
 obtain ⟨hd, hr, hf, hb, hn, _⟩ := h
 obtain ⟨cur, r⟩ := row_block hr
 rintro k (rfl | rfl | rfl | rfl)
 ·exact (Array.getElem?_eq_some_iff.1 hd).1
 ·exact (Array.getElem?_eq_some_iff.1 r).1
 ·exact hf.lt
 ·exact hb.lt
theorem DevAt.step {Z : Nat → Prop} (h : DevAt w i xs F B off fuse nw) (hs : Step Z w w') (hz : ∀ k, i.In k → ¬ Z k) : DevAt w' i xs F B off fuse nw := by
 obtain ⟨hd, hr, hf, hb, hn, hok⟩ := h
 refine ⟨hs.block hd (hz _ (Or.inl rfl)), ownsRow_step hs hr (fun g hg => ?_), hf.step hs (hz _ (Or.inr (Or.inr (Or.inl rfl)))), hb.step hs (hz _ (Or.inr (Or.inr (Or.inr rfl)))), hn, hok⟩
 simp [Value.ownBlock] at hg
 exact hg ▸ hz _ (Or.inr (Or.inl rfl))
theorem DevAt.cells (h : DevAt w i xs F B off fuse nw) : w.cell? ⟨i.d, 0, none⟩ = some (.slice (some ⟨i.bs, 0, none⟩) xs.length i.cap) ∧ w.cell? ⟨i.d, 1, none⟩ = some (.map (some i.bf)) ∧ w.cell? ⟨i.d, 2, none⟩ = some (.map (some i.bb)) ∧
  w.cell? ⟨i.d, 3, none⟩ = some (.bool off) ∧ w.cell? ⟨i.d, 4, none⟩ = some (.int .i64 fuse) ∧ w.cell? ⟨i.d, 5, none⟩ = some (.int .i64 nw) := by
 have hd := h.1
 refine ⟨?_, ?_, ?_, ?_, ?_, ?_⟩ <;> simp [World.cell?, hd]
theorem DevAt.frozen (h : DevAt w i xs F B off fuse nw) (j : Nat) : w.frozen? ⟨i.d, j, none⟩ = false := by simp [World.frozen?, h.1]
theorem DevAt.setOff (h : DevAt w i xs F B off fuse nw) (x : Bool) : DevAt (w.setCell ⟨i.d, 3, none⟩ (.bool x)) i xs F B x fuse nw := by
 obtain ⟨n1, n2, n3, _⟩ := h.ne
 obtain ⟨hd, hr, hf, hb, hn, hok⟩ := h
 have hs : Step (fun k => k = i.d) w (w.setCell ⟨i.d, 3, none⟩ (.bool x)) := Step.setCell w (p := ⟨i.d, 3, none⟩) (S := fun k => k = i.d) rfl _
 exact ⟨by simpa using blk_set hd 3 (.bool x), ownsRow_step hs hr (fun g hg => by simp [Value.ownBlock] at hg; exact fun e => n1 (e.symm.trans hg.symm)), hf.step hs (fun e => n2 e.symm), hb.step hs (fun e => n3 e.symm), hn, hok⟩
theorem DevAt.setFuse (h : DevAt w i xs F B off fuse nw) (x : Int) (h0 : -1 ≤ x) (h1 : x ≤ 9223372036854775807) : DevAt (w.setCell ⟨i.d, 4, none⟩ (.int .i64 x)) i xs F B off x nw := by
 obtain ⟨n1, n2, n3, _⟩ := h.ne
 obtain ⟨hd, hr, hf, hb, hn, o1, o2, o3, o4, o5, o6, o7, o8, o9⟩ := h
 have hs : Step (fun k => k = i.d) w (w.setCell ⟨i.d, 4, none⟩ (.int .i64 x)) := Step.setCell w (p := ⟨i.d, 4, none⟩) (S := fun k => k = i.d) rfl _
 exact ⟨by simpa using blk_set hd 4 (.int .i64 x), ownsRow_step hs hr (fun g hg => by simp [Value.ownBlock] at hg; exact fun e => n1 (e.symm.trans hg.symm)), hf.step hs (fun e => n2 e.symm), hb.step hs (fun e => n3 e.symm), hn, o1, o2, o3, o4, o5, o6, o7, h0, h1⟩
theorem DevAt.setWr (h : DevAt w i xs F B off fuse nw) (x : Int) : DevAt (w.setCell ⟨i.d, 5, none⟩ (.int .i64 x)) i xs F B off fuse x := by
 obtain ⟨n1, n2, n3, _⟩ := h.ne
 obtain ⟨hd, hr, hf, hb, hn, hok⟩ := h
 have hs : Step (fun k => k = i.d) w (w.setCell ⟨i.d, 5, none⟩ (.int .i64 x)) := Step.setCell w (p := ⟨i.d, 5, none⟩) (S := fun k => k = i.d) rfl _
 exact ⟨by simpa using blk_set hd 5 (.int .i64 x), ownsRow_step hs hr (fun g hg => by simp [Value.ownBlock] at hg; exact fun e => n1 (e.symm.trans hg.symm)), hf.step hs (fun e => n2 e.symm), hb.step hs (fun e => n3 e.symm), hn, hok⟩
theorem DevAt.stepD (h : DevAt w i xs F B off fuse nw) (j : Nat) (v : Value) : Step i.In w (w.setCell ⟨i.d, j, none⟩ v) := Step.setCell w (p := ⟨i.d, j, none⟩) (S := i.In) (Or.inl rfl) v
end
theorem dev_has_any (w : World) (i : DevIds) (xs : List ByteArray) (F : FL) (B : BL) (off : Bool) (fuse nw : Int) (at_ : Int) (h : DevAt w i xs F B off fuse nw) :
  Calls Tryd.prog 60 #[.pointer (some ⟨i.d, 0, none⟩), .int .i64 at_] w fun e w' => e = .returned (.bool (decide (0 ≤ at_ ∧ at_ < xs.length))) ∧ w' = w := by
 obtain ⟨c0, _⟩ := h.cells
 refine (callsIn_wide (n := 4)).1 ?_
 refine callsIn_of_wp_marks Tryd.func60 rfl trivial ?_ rfl
 simp only [Tryd.ntmps60, List.size_toArray, List.length_cons, List.length_nil, Nat.reduceAdd, Nat.reduceSub, Array.replicate_succ, Array.replicate_zero, List.push_toArray, List.append_toArray, List.nil_append, List.cons_append]
 by_cases h1 : 0 ≤ at_
 ·have d1 : decide (0 ≤ at_) = true := decide_eq_true h1
  by_cases h2 : at_ < xs.length
  ·have d2 : decide (at_ < (xs.length : Int)) = true := decide_eq_true h2
   gi_wp2
   exact ⟨_, results_tmp rfl _ _ _, by simp [h1, h2], rfl⟩
  ·have d2 : decide (at_ < (xs.length : Int)) = false := decide_eq_false h2
   gi_wp2
   exact ⟨_, results_tmp rfl _ _ _, by simp [h1, h2], rfl⟩
 ·have d1 : decide (0 ≤ at_) = false := decide_eq_false h1
  gi_wp2
  exact ⟨_, results_tmp rfl _ _ _, by simp [h1], rfl⟩
def reachP (n : Nat) (off : Bool) (at_ : Int) : Int := if off = true then 12 else if 0 ≤ at_ ∧ at_ < n then 0 else 1
theorem dev_reach_any (w : World) (i : DevIds) (xs : List ByteArray) (F : FL) (B : BL) (off : Bool) (fuse nw : Int) (at_ : Int) (h : DevAt w i xs F B off fuse nw) :
  Calls Tryd.prog 50 #[.pointer (some ⟨i.d, 0, none⟩), .int .i64 at_] w fun e w' => e = .returned (.int .i64 (reachP xs.length off at_)) ∧ w' = w := by
 obtain ⟨_, _, _, c3, _⟩ := h.cells
 refine (callsIn_wide (n := 4)).1 ?_
 refine callsIn_of_wp_marks Tryd.func50 rfl trivial ?_ rfl
 simp only [Tryd.ntmps50, List.size_toArray, List.length_cons, List.length_nil, Nat.reduceAdd, Nat.reduceSub, Array.replicate_succ, Array.replicate_zero, List.push_toArray, List.append_toArray, List.nil_append, List.cons_append]
 unfold reachP
 have hh := dev_has_any w i xs F B off fuse nw at_ h
 cases off
 ·by_cases h2 : 0 ≤ at_ ∧ at_ < (xs.length : Int)
  ·rw [decide_eq_true h2] at hh
   gi_wp2_with (refine ⟨trivial, ?_⟩; gi_at_call 60; refine (callsIn_wide.2 hh).mono ?_; rintro e w' ⟨rfl, rfl⟩)
   exact ⟨_, results_tmp rfl _ _ _, by simp [h2], rfl⟩
  ·rw [decide_eq_false h2] at hh
   gi_wp2_with (refine ⟨trivial, ?_⟩; gi_at_call 60; refine (callsIn_wide.2 hh).mono ?_; rintro e w' ⟨rfl, rfl⟩)
   exact ⟨_, results_tmp rfl _ _ _, by simp [h2], rfl⟩
 ·gi_wp2
  exact ⟨_, results_tmp rfl _ _ _, rfl, rfl⟩
def burnP (off : Bool) (fuse : Int) : Bool × Int × Int := if fuse = 0 then (true, 0, 12) else if 0 < fuse then (off, fuse - 1, 0) else (off, fuse, 0)
theorem dev_burn_any (w : World) (i : DevIds) (xs : List ByteArray) (F : FL) (B : BL) (off : Bool) (fuse nw : Int) (h : DevAt w i xs F B off fuse nw) :
  Calls Tryd.prog 51 #[.pointer (some ⟨i.d, 0, none⟩)] w fun e w' => e = .returned (.int .i64 (burnP off fuse).2.2) ∧ DevAt w' i xs F B (burnP off fuse).1 (burnP off fuse).2.1 nw ∧ Step i.In w w' := by
 obtain ⟨_, _, _, c3, c4, _⟩ := h.cells
 have f3 := h.frozen 3
 have f4 := h.frozen 4
 obtain ⟨_, _, _, _, _, _, _, hb1, hb2⟩ := h.2.2.2.2.2
 refine (callsIn_wide (n := 4)).1 ?_
 refine callsIn_of_wp_marks Tryd.func51 rfl trivial ?_ rfl
 simp only [Tryd.ntmps51, List.size_toArray, List.length_cons, List.length_nil, Nat.reduceAdd, Nat.reduceSub, Array.replicate_succ, Array.replicate_zero, List.push_toArray, List.append_toArray, List.nil_append, List.cons_append]
 unfold burnP
 by_cases h0 : fuse = 0
 ·subst h0
  gi_wp2
  exact ⟨_, results_tmp rfl _ _ _, rfl, h.setOff true, h.stepD 3 _⟩
 ·have e0 : (fuse == 0) = false := by simpa using h0
  rw [if_neg h0]
  by_cases h1 : 0 < fuse
  ·have e1 : decide (0 < fuse) = true := decide_eq_true h1
   have hw : wrap64 (fuse - 1) = fuse - 1 := by unfold wrap64; omega
   rw [if_pos h1]
   gi_wp2
   exact ⟨_, results_tmp rfl _ _ _, rfl, h.setFuse _ (by omega) (by omega), h.stepD 4 _⟩
  ·have e1 : decide (0 < fuse) = false := decide_eq_false h1
   rw [if_neg h1]
   gi_wp2
   exact ⟨_, results_tmp rfl _ _ _, rfl, h, Step.refl _ _⟩
theorem wf_at {n : Nat} {x : Int} (hn : n ≤ 32768) (h : 0 ≤ x ∧ x < n) : (Lit.int .i64 x).wf = true := WalkArith.wf_i64 (by omega)
def writeP (n : Nat) (F : FL) (off : Bool) (fuse nw : Int) (at_ : Int) (s : ByteArray) : FL × Bool × Int × Int × Int :=
 if reachP n off at_ ≠ 0 then (F, off, fuse, nw, reachP n off at_) else if s.size ≠ 512 then (F, off, fuse, nw, 2) else
 if (burnP off fuse).2.2 ≠ 0 then (F, (burnP off fuse).1, (burnP off fuse).2.1, nw, (burnP off fuse).2.2) else (putL at_ s F, (burnP off fuse).1, (burnP off fuse).2.1, wrap64 (nw + 1), 0)
theorem nodup_below : ∀ (n : Nat) (l : List Int), l.Nodup → (∀ x ∈ l, 0 ≤ x ∧ x < (n : Int)) → l.length ≤ n
 | 0, l, _, h => by
  cases l with
  | nil => simp
  | cons x l => have := h x List.mem_cons_self; omega
 | n + 1, l, hn, h => by
  by_cases hm : (n : Int) ∈ l
  ·have ih := nodup_below n (l.erase (n : Int)) (hn.erase _) (fun x hx => by
    have h1 := h x (List.mem_of_mem_erase hx)
    have h2 : x ≠ (n : Int) := fun e => (hn.not_mem_erase) (e ▸ hx)
    omega)
   rw [List.length_erase_of_mem hm] at ih
   omega
  ·have ih := nodup_below n l hn (fun x hx => by
    have h1 := h x hx
    have h2 : x ≠ (n : Int) := fun e => hm (e ▸ hx)
    omega)
   omega
theorem keys_below {β : Type} {n : Nat} {F : List (Int × β)} (hn : NodupK F) (hF : ∀ q ∈ F, 0 ≤ q.1 ∧ q.1 < (n : Int)) : F.length ≤ n := by
 have := nodup_below n (F.map Prod.fst) hn (fun x hx => by obtain ⟨q, hq, rfl⟩ := List.mem_map.1 hx; exact hF q hq)
 rwa [List.length_map] at this
theorem mem_putL {β : Type} {x : Int} {v : β} : ∀ {L : List (Int × β)} {q : Int × β}, q ∈ putL x v L → q = (x, v) ∨ q ∈ L
 | [], q, h => by rw [putL, List.mem_singleton] at h; exact Or.inl h
 | p :: l, q, h => by
  unfold putL at h
  split at h
  ·rcases List.mem_cons.1 h with h | h
   ·exact Or.inl h
   ·exact Or.inr (List.mem_cons_of_mem _ h)
  ·rcases List.mem_cons.1 h with h | h
   ·exact Or.inr (h ▸ List.mem_cons_self)
   ·exact (mem_putL h).imp id (List.mem_cons_of_mem _)
theorem DevAt.putF {w w' : World} {i : DevIds} {xs : List ByteArray} {F F' : FL} {B : BL} {off : Bool} {fuse nw : Int} (h : DevAt w i xs F B off fuse nw) (hm : MapOf Tryd.prog 3 9 (Lit.int .i64) litS w' i.bf F') (ht : w.mapTurned w' i.bf) (hF : ∀ q ∈ F', 0 ≤ q.1 ∧ q.1 < (xs.length : Int) ∧ q.2.size = 512) :
  DevAt w' i xs F' B off fuse nw ∧ Step i.In w w' := by
 obtain ⟨n1, n2, n3, n4, n5, n6⟩ := h.ne
 obtain ⟨hd, hr, hf, hb, hn, o1, o2, o3, o4, o5, o6, o7, o8, o9⟩ := h
 have hs := step_turned ht
 refine ⟨⟨hs.block hd n2, ownsRow_step hs hr (fun g hg => by simp [Value.ownBlock] at hg; exact fun e => n4 (hg.trans e)), hm, hb.step hs (fun e => n6 e.symm), hn, o1, o2, o3, hF, o5, keys_below hm.nodup (fun q hq => ⟨(hF q hq).1, (hF q hq).2.1⟩), o7, o8, o9⟩, hs.mono (fun k hk => Or.inr (Or.inr (Or.inl hk)))⟩
theorem DevAt.putB {w w' : World} {i : DevIds} {xs : List ByteArray} {F : FL} {B B' : BL} {off : Bool} {fuse nw : Int} (h : DevAt w i xs F B off fuse nw) (hm : MapOf Tryd.prog 3 4 (Lit.int .i64) Lit.bool w' i.bb B') (ht : w.mapTurned w' i.bb) (hB : ∀ q ∈ B', 0 ≤ q.1 ∧ q.1 < (xs.length : Int) ∧ q.2 = true) :
  DevAt w' i xs F B' off fuse nw ∧ Step i.In w w' := by
 obtain ⟨n1, n2, n3, n4, n5, n6⟩ := h.ne
 obtain ⟨hd, hr, hf, hb, hn, o1, o2, o3, o4, o5, o6, o7, o8, o9⟩ := h
 have hs := step_turned ht
 refine ⟨⟨hs.block hd n3, ownsRow_step hs hr (fun g hg => by simp [Value.ownBlock] at hg; exact fun e => n5 (hg.trans e)), hf.step hs n6, hm, hn, o1, o2, o3, o4, hB, o6, keys_below hm.nodup (fun q hq => ⟨(hB q hq).1, (hB q hq).2.1⟩), o8, o9⟩, hs.mono (fun k hk => Or.inr (Or.inr (Or.inr hk)))⟩
set_option maxRecDepth 100000 in
set_option maxHeartbeats 2000000 in
theorem dev_Write_any (w : World) (i : DevIds) (xs : List ByteArray) (F : FL) (B : BL) (off : Bool) (fuse nw : Int) (at_ : Int) (s : ByteArray) (h : DevAt w i xs F B off fuse nw) :
  Calls Tryd.prog 26 #[.pointer (some ⟨i.d, 0, none⟩), .int .i64 at_, .string s] w fun e w' => e = .returned (.int .i64 (writeP xs.length F off fuse nw at_ s).2.2.2.2) ∧
   DevAt w' i xs (writeP xs.length F off fuse nw at_ s).1 B (writeP xs.length F off fuse nw at_ s).2.1 (writeP xs.length F off fuse nw at_ s).2.2.1 (writeP xs.length F off fuse nw at_ s).2.2.2.1 ∧ Step i.In w w' := by
 have hR := dev_reach_any w i xs F B off fuse nw at_ h
 have hBn := dev_burn_any w i xs F B off fuse nw h
 refine (callsIn_wide (n := 4)).1 ?_
 refine callsIn_of_wp_marks Tryd.func26 rfl trivial ?_ rfl
 simp only [Tryd.ntmps26, List.size_toArray, List.length_cons, List.length_nil, Nat.reduceAdd, Nat.reduceSub, Array.replicate_succ, Array.replicate_zero, List.push_toArray, List.append_toArray, List.nil_append, List.cons_append]
 unfold writeP
 generalize hr : reachP xs.length off at_ = r at *
 by_cases h0 : r ≠ 0
 ·have e0 : (r != 0) = true := by simpa using h0
  rw [if_pos h0]
  gi_wp2_with (refine ⟨trivial, ?_⟩; gi_at_call 50; refine (callsIn_wide.2 hR).mono ?_; rintro e w' ⟨rfl, rfl⟩)
  exact ⟨_, results_tmp rfl _ _ _, rfl, h, Step.refl _ _⟩
 ·have h00 : r = 0 := by simpa using h0
  subst h00
  rw [if_neg (by simp)]
  have hat : 0 ≤ at_ ∧ at_ < (xs.length : Int) := by
   unfold reachP at hr
   split at hr
   ·cases hr
   ·split at hr
    ·assumption
    ·cases hr
  by_cases h1 : s.size ≠ 512
  ·have e1 : ((s.size : Int) != 512) = true := bne_iff_ne.2 (by omega)
   rw [if_pos h1]
   gi_wp2_with (refine ⟨trivial, ?_⟩; gi_at_call 50; refine (callsIn_wide.2 hR).mono ?_; rintro e w' ⟨rfl, rfl⟩)
   exact ⟨_, results_tmp rfl _ _ _, rfl, h, Step.refl _ _⟩
  ·have e1 : ((s.size : Int) != 512) = false := by rw [bne_eq_false_iff_eq]; omega
   rw [if_neg h1]
   have h512 : s.size = 512 := by omega
   generalize hb : burnP off fuse = bu at *
   obtain ⟨off', fuse', why⟩ := bu
   simp only at *
   by_cases h2 : why ≠ 0
   ·have e2 : (why != 0) = true := by simpa using h2
    rw [if_pos h2]
    gi_wp2_with (first
     | (refine ⟨trivial, ?_⟩; gi_at_call 50; refine (callsIn_wide.2 hR).mono ?_; rintro e w' ⟨rfl, rfl⟩)
     | (refine ⟨trivial, ?_⟩; gi_at_call 51; refine (callsIn_wide.2 hBn).mono ?_; rintro e w1 ⟨rfl, h1, hs1⟩))
    exact ⟨_, results_tmp rfl _ _ _, rfl, h1, hs1⟩
   ·have h20 : why = 0 := by simpa using h2
    subst h20
    rw [if_neg (by simp)]
    gi_wp2_with (first
     | (refine ⟨trivial, ?_⟩; gi_at_call 50; refine (callsIn_wide.2 hR).mono ?_; rintro e w' ⟨rfl, rfl⟩)
     | (refine ⟨trivial, ?_⟩; gi_at_call 51; refine (callsIn_wide.2 hBn).mono ?_; rintro e w1 ⟨rfl, h1, hs1⟩; obtain ⟨_, _, _, _, _, c5⟩ := h1.cells; have f5 := h1.frozen 5; have h2 := h1.setWr (wrap64 (nw + 1)); obtain ⟨_, cm2, _⟩ := h2.cells; obtain ⟨w3, hrun, hm3, ht3⟩ := h2.2.2.1.store kitS (by have := h2.ok.2.1; have := h2.ok.2.2.2.2.2.1; unfold maxLen; omega) (wf_at h.ok.2.1 hat) (by unfold maxLen; omega : s.size ≤ maxLen)))
    obtain ⟨h3, hs3⟩ := h2.putF hm3 ht3 (fun q hq => by
     rcases mem_putL hq with rfl | hq
     ·exact ⟨hat.1, hat.2, by omega⟩
     ·exact h2.ok.2.2.2.1 q hq)
    exact ⟨_, results_tmp rfl _ _ _, rfl, h3, (hs1.trans (h1.stepD 5 _) (fun _ h => h) (fun _ h => Or.inl h)).trans hs3 (fun _ h => h) (fun _ h => Or.inl h)⟩
def readP (xs : List ByteArray) (F : FL) (B : BL) (off : Bool) (at_ : Int) : ByteArray × Int :=
 if reachP xs.length off at_ ≠ 0 then (⟨#[]⟩, reachP xs.length off at_) else match getL at_ F with
  | some s => (s, 0)
  | none => match getL at_ B with
   | some true => (⟨#[]⟩, 9)
   | _ => (xs.getD at_.toNat ⟨#[]⟩, 0)
theorem reach_ok {n : Nat} {off : Bool} {at_ : Int} (h : reachP n off at_ = 0) : off = false ∧ 0 ≤ at_ ∧ at_ < (n : Int) := by
 unfold reachP at h
 cases off
 ·refine ⟨rfl, ?_⟩
  rw [if_neg (by decide)] at h
  split at h
  ·assumption
  ·cases h
 ·cases h
set_option maxRecDepth 100000 in
set_option maxHeartbeats 2000000 in
theorem dev_Read_any (w : World) (i : DevIds) (xs : List ByteArray) (F : FL) (B : BL) (off : Bool) (fuse nw : Int) (at_ : Int) (h : DevAt w i xs F B off fuse nw) :
  Calls Tryd.prog 25 #[.pointer (some ⟨i.d, 0, none⟩), .int .i64 at_] w fun e w' => e = .returned (.tuple #[.string (readP xs F B off at_).1, .int .i64 (readP xs F B off at_).2]) ∧ Step (fun _ => False) w w' := by
 have hR := dev_reach_any w i xs F B off fuse nw at_ h
 refine (callsIn_wide (n := 4)).1 ?_
 refine callsIn_of_wp_marks Tryd.func25 rfl trivial ?_ rfl
 simp only [Tryd.ntmps25, List.size_toArray, List.length_cons, List.length_nil, Nat.reduceAdd, Nat.reduceSub, Array.replicate_succ, Array.replicate_zero, List.push_toArray, List.append_toArray, List.nil_append, List.cons_append]
 unfold readP
 generalize hr : reachP xs.length off at_ = r at *
 by_cases h0 : r ≠ 0
 ·have e0 : (r != 0) = true := by simpa using h0
  rw [if_pos h0]
  gi_wp2_with (refine ⟨trivial, ?_⟩; gi_at_call 50; refine (callsIn_wide.2 hR).mono ?_; rintro e w' ⟨rfl, rfl⟩)
  exact ⟨_, results_tmp2 rfl _ _ _, rfl, Step.refl _ _⟩
 ·have h00 : r = 0 := by simpa using h0
  subst h00
  rw [if_neg (by simp)]
  obtain ⟨_, hat⟩ := reach_ok hr
  obtain ⟨c0, c1, c2, _⟩ := h.cells
  cases hg : getL at_ F with
  | some s =>
   have hl := (h.2.2.1.look_hit kitS (wf_at h.ok.2.1 hat) hg).1
   gi_wp2_with (refine ⟨trivial, ?_⟩; gi_at_call 50; refine (callsIn_wide.2 hR).mono ?_; rintro e w' ⟨rfl, rfl⟩)
   exact ⟨_, results_tmp2 rfl _ _ _, rfl, Step.refl _ _⟩
  | none =>
   have hl := (h.2.2.1.look_miss kitS (wf_at h.ok.2.1 hat) hg).1
   cases hgb : getL at_ B with
   | some x =>
    have hx := (h.ok.2.2.2.2.1 _ (getL_mem hgb)).2.2
    simp only at hx
    subst hx
    have hlb := (h.2.2.2.1.look_hit kitB (wf_at h.ok.2.1 hat) hgb).2
    gi_wp2_with (refine ⟨trivial, ?_⟩; gi_at_call 50; refine (callsIn_wide.2 hR).mono ?_; rintro e w' ⟨rfl, rfl⟩)
    exact ⟨_, results_tmp2 rfl _ _ _, rfl, Step.refl _ _⟩
   | none =>
    have hlb := (h.2.2.2.1.look_miss kitB (wf_at h.ok.2.1 hat) hgb).2
    have hcl : w.cell? ⟨i.bs, at_.toNat, none⟩ = some (.string (xs.getD at_.toNat ⟨#[]⟩)) := ownsRow_cell h.2.1 (by
     rw [List.getElem?_map, List.getElem?_eq_getElem (by omega : at_.toNat < xs.length)]
     simp [List.getD, (by omega : at_.toNat < xs.length)])
    obtain ⟨hat1, hat2⟩ := hat
    gi_wp2_with (refine ⟨trivial, ?_⟩; gi_at_call 50; refine (callsIn_wide.2 hR).mono ?_; rintro e w' ⟨rfl, rfl⟩)
    exact ⟨_, results_tmp2 rfl _ _ _, rfl, Step.refl _ _⟩
def StrRow (w : World) (base g cap : Nat) (xs : List ByteArray) : Prop := w.ownsRow base 9 1 (.slice (some ⟨g, 0, none⟩) xs.length cap) xs.length (xs.map Value.string)
theorem dev_of_any (w : World) (g cap : Nat) (xs : List ByteArray) (h : StrRow w 0 g cap xs) (h1 : 1 ≤ xs.length) (h2 : xs.length ≤ 32768) (hx : ∀ x ∈ xs, x.size = 512) :
  Calls Tryd.prog 20 #[.slice (some ⟨g, 0, none⟩) xs.length cap] w fun e w' => ∃ i, e = .returned (.pointer (some ⟨i.d, 0, none⟩)) ∧ DevAt w' i xs [] [] false (-1) 0 ∧ i.bs = g ∧ i.cap = cap ∧ w.heap.size ≤ i.d ∧ w.heap.size ≤ i.bf ∧ w.heap.size ≤ i.bb ∧ Below w.heap.size w w' := by
 have hmm := @run_makeMap Tryd.prog
 go_enter Tryd.func20, Tryd.ntmps20
 go_wp2
 go_ret
 have hB1 : Below w.heap.size w (w.alloc (.map #[] 0)) := (Below.refl _ w).alloc (Nat.le_refl _) _
 have hB2 : Below w.heap.size w ((w.alloc (.map #[] 0)).alloc (.map #[] 0)) := hB1.alloc (by simp) _
 have hn := World.alloc_heap_new ((w.alloc (.map #[] 0)).alloc (.map #[] 0)) (.cells #[.slice (some ⟨g, 0, none⟩) xs.length cap, .map (some w.heap.size), .map (some (w.heap.size + 1)), .bool false, .int .i64 (-1), .int .i64 0] 89)
 have hB3 := hB2.alloc (by simp; omega) (.cells #[.slice (some ⟨g, 0, none⟩) xs.length cap, .map (some w.heap.size), .map (some (w.heap.size + 1)), .bool false, .int .i64 (-1), .int .i64 0] 89)
 rw [World.size_alloc, World.size_alloc] at hn
 have hmF := MapOf.made (α := Int) (β := ByteArray) w Tryd.prog 3 9 (Lit.int .i64) litS
 have hmB := MapOf.made (α := Int) (β := Bool) (w.alloc (.map #[] 0)) Tryd.prog 3 4 (Lit.int .i64) Lit.bool
 rw [World.size_alloc] at hmB
 refine ⟨⟨w.heap.size + 2, g, cap, w.heap.size, w.heap.size + 1⟩, rfl, ⟨hn, pw_own_below h hB3, ?_, ?_, ?_, h1, h2, hx, by simp, by simp, by simp, by simp, by decide, by decide⟩, rfl, rfl, Nat.le_add_right _ _, Nat.le_refl _, Nat.le_add_right _ _, hB3⟩
 ·exact (hmF.step (Step.alloc (fun _ => False) _ _) (fun h => h)).step (Step.alloc (fun _ => False) _ _) (fun h => h)
 ·exact hmB.step (Step.alloc (fun _ => False) _ _) (fun h => h)
 ·show w.heap.size ≠ w.heap.size + 1; omega
theorem and32 (n : Int) (h0 : 0 ≤ n) (h1 : n < 4294967296) : Go.bits .and .u64 n 4294967295 = n := by
 have h := bits_and_u64_nat n.toNat 4294967295 (by omega) (by omega)
 rw [show ((n.toNat : Nat) : Int) = n by omega] at h
 have h2 : n.toNat &&& 4294967295 = n.toNat := by
  rw [show (4294967295 : Nat) = 2 ^ 32 - 1 by decide, Nat.and_two_pow_sub_one_eq_mod]
  exact Nat.mod_eq_of_lt (by omega)
 rw [h2] at h
 exact h.trans (by omega)
theorem mul_small (n : Int) (h0 : 1 ≤ n) (h1 : n ≤ 32768) : bits_Mul.f 1 n = some (0, n) := by
 unfold bits_Mul.f bits_Mul64.f
 rw [and32 n (by omega) (by omega), and32 1 (by omega) (by omega)]
 simp only [IntKind.wrap_u64, Option.bind_some]
 have hz : n / 4294967296 = 0 := by omega
 rw [hz]
 rw [show (1 : Int) / 4294967296 = 0 by decide]
 simp only [Int.zero_mul, Int.mul_zero, Int.one_mul, Int.zero_add, Int.add_zero]
 rw [Int.emod_eq_of_lt (a := n) (by omega) (by omega), hz]
 simp [Go.bits]
 decide

theorem info9P : (Tryd.prog.info? 9).map (fun i => (i.zero, i.size, i.bytes)) = some (some (.string ByteArray.empty), 1, 16) := by kernel_rfl
def RepAt (w : World) (g N k : Nat) (s : ByteArray) : Prop := w.heap[g]? = some (.cells ((List.replicate k s ++ List.replicate (N - k) ByteArray.empty).map Value.string).toArray 9 (0, 0))
theorem RepAt.cell {w : World} {g N k : Nat} {s : ByteArray} (h : RepAt w g N k s) {j : Nat} (hj : j < k) : w.cell? ⟨g, j, none⟩ = some (.string s) := by
 unfold RepAt at h
 simp only [World.cell?, h]
 simp [hj, List.getElem?_append, List.getElem?_replicate]
theorem info9M : (Tryd.prog.info? 9).map (·.size) = some 1 := by kernel_rfl
set_option maxRecDepth 100000 in
theorem rep_copy {w : World} {g N k : Nat} {s : ByteArray} (h : RepAt w g N k s) (j m : Nat) (hj : j = Nat.min m (N - k)) (hk : k ≤ N) (ad : Addr) (c1 c2 : Nat) (hs : ∀ i, i < j → w.cell? (ad.add i) = some (.string s)) :
  ∃ w', (Builtin.copy_ #[57, 57] 3 #[.slice (some ⟨g, k, none⟩) (N - k) c1, .slice (some ad) m c2]).run Tryd.prog w = .ok (.int .i64 j) w' ∧ RepAt w' g N (k + j) s ∧ ∀ B w0, Below B w0 w → B ≤ g → Below B w0 w' := by
 have hr := run_copy_row (P := Tryd.prog) w 57 57 3 9 g k (N - k) c1 ad m c2 _ 9 (List.replicate j (Value.string s)) Tryd.underlying57 info9M h (by simpa using hj)
  (fun i v hi => by
   obtain ⟨hl, rfl⟩ := List.getElem?_eq_some_iff.1 hi
   rw [List.getElem_replicate]
   exact hs i (by simpa using hl)) (by have : j ≤ N - k := hj ▸ Nat.min_le_right _ _; simp; omega) (fun v hv => by rw [List.eq_of_mem_replicate hv]; rfl)
 rw [List.length_replicate] at hr
 refine ⟨_, hr, ?_, fun B w0 hb hB => below_setRow hb hB _⟩
 unfold RepAt
 rw [setRow_heap w g _ _ 9 (0, 0) h]
 have hjl : j ≤ N - k := hj ▸ Nat.min_le_right _ _
 congr 3
 simp only [List.map_append, List.map_replicate]
 rw [List.take_append_of_le_length (by simp), List.take_of_length_le (by simp), List.drop_append, List.drop_of_length_le (by simp), List.nil_append, List.length_replicate, List.drop_replicate, List.replicate_append_replicate]
 congr 2
 omega
set_option maxRecDepth 100000 in
theorem slices_Repeat_any (w : World) (A c : Nat) (s : ByteArray) (n : Int) (h1 : 1 ≤ n) (h2 : n ≤ 32768) (hc : w.cell? ⟨A, 0, none⟩ = some (.string s)) :
  Calls Tryd.prog 21 #[.slice (some ⟨A, 0, none⟩) 1 c, .int .i64 n] w fun e w' => ∃ g cap, e = .returned (.slice (some ⟨g, 0, none⟩) n.toNat cap) ∧ StrRow w' w.heap.size g cap (List.replicate n.toNat s) ∧ Below w.heap.size w w' := by
 have hw1 : IntKind.u64.wrap n = n := by rw [IntKind.wrap_u64]; omega
 have hw2 : wrap64 n = n := by unfold wrap64; omega
 have hM := bits_Mul.calls 1 n 0 n w (mul_small n h1 h2)
 refine (callsIn_wide (n := 4)).1 ?_
 refine callsIn_of_wp Tryd.func21 rfl trivial ?_ rfl
 simp only [Tryd.ntmps21, List.size_toArray, List.length_cons, List.length_nil, Nat.reduceAdd, Nat.reduceSub, Array.replicate_succ, Array.replicate_zero, List.push_toArray, List.append_toArray, List.nil_append, List.cons_append]
 gi_wp2
 refine ⟨trivial, ?_⟩
 gi_at_call 48
 refine (callsIn_wide.2 hM).mono ?_
 rintro e w1 ⟨rfl, hd⟩
 have hB1 := hd.below
 obtain ⟨N, hN⟩ : ∃ N : Nat, (N : Int) = n := ⟨n.toNat, by omega⟩
 subst hN
 obtain ⟨ii, hi, hz⟩ := Option.map_eq_some_iff.1 info9P
 simp only [Prod.mk.injEq] at hz
 obtain ⟨hz0, hz1, hz2⟩ := hz
 have hr := run_make (P := Tryd.prog) w1 57 9 ii _ Tryd.underlying57 hi hz0 .i64 .i64 N N (by omega) (Int.le_refl _) (by rw [hz2]; omega) (by omega)
 simp only [Int.toNat_natCast, hz1, Nat.mul_one] at hr
 obtain ⟨W, hW⟩ : ∃ W, W = w1.alloc (.cells (madeCells (Value.string ByteArray.empty).cells N) 9) := ⟨_, rfl⟩
 rw [← hW] at hr
 have hBW : Below w.heap.size w W := by rw [hW]; exact hB1.alloc hB1.size _
 have hg : w.heap.size ≤ w1.heap.size := hB1.size
 have hnW : RepAt W w1.heap.size N 0 s := by
  unfold RepAt
  rw [hW, World.alloc_heap_new]
  congr 2
  apply Array.ext'
  simp [madeCells, Value.cells, Nat.mod_one]
  rw [List.map_const', List.length_range]
 have hcW : W.cell? ⟨A, 0, none⟩ = some (.string s) := (Step.of_below (S := fun _ => False) hBW).cell hc (fun h => h)
 obtain ⟨W2, hrun, hR2, hB2⟩ := rep_copy hnW 1 1 (by show 1 = Nat.min 1 (N - 0); rw [Nat.sub_zero]; exact (Nat.min_eq_left (by omega)).symm) (Nat.zero_le _) ⟨A, 0, none⟩ N c (fun i hi => by (have e0 : i = 0 := by omega); rw [e0]; exact hcW)
 replace hB2 := hB2 w.heap.size w hBW hg
 rw [Nat.sub_zero] at hrun
 clear hW
 obtain ⟨g, eg⟩ : ∃ g, g = w1.heap.size := ⟨_, rfl⟩
 rw [← eg] at hr hrun hR2 hg
 clear eg hnW
 gi_wp2
 rw [Nat.zero_add] at hR2
 gi_loopw [8] (fun t8 wr => ∃ k : Nat, 1 ≤ k ∧ k ≤ N ∧ t8 = .int .i64 k ∧ RepAt wr g N k s ∧ Below w.heap.size w wr) (fun t8 _ => N - (intOf t8).toNat)
 case atStart => exact ⟨1, Nat.le_refl _, by omega, rfl, hR2, hB2⟩
 case round =>
  obtain ⟨k, hk1, hkN, rfl, hR, hB⟩ := hrel
  by_cases hlt : k < N
  ·obtain ⟨j, hj⟩ : ∃ j, j = Nat.min k (N - k) := ⟨_, rfl⟩
   have hj1 : j ≤ N - k := hj ▸ Nat.min_le_right _ _
   have hj0 : 1 ≤ j := by rw [hj]; exact Nat.le_min.2 ⟨hk1, by omega⟩
   have hjk : j ≤ k := hj ▸ Nat.min_le_left _ _
   obtain ⟨W3, hrun3, hR3, hB3⟩ := rep_copy (show RepAt wr.drew g N k s from hR) j k hj hkN ⟨g, 0, none⟩ (N - k) N (fun i hi => by rw [show (⟨g, 0, none⟩ : Addr).add i = ⟨g, i, none⟩ by unfold Addr.add; simp; intro h; exact h.symm]; exact (show RepAt wr.drew g N k s from hR).cell (by omega))
   have hwj1 : (k : Int) + j ≤ 32768 := by omega
   have hwj0 : 0 ≤ (k : Int) + j := by omega
   clear hj hjk hw1 hw2 hi hz0 hz1 hz2
   gi_wp2
   gi_region
   gi_wp2
   go_roundw
   case rel => exact ⟨k + j, by omega, by omega, by simp, hR3, hB3 w.heap.size w (pw_below_drewN hB 1) hg⟩
   case measure => simp [intOf]; omega
  ·have ek : k = N := by omega
   subst ek
   gi_wp2
   go_ret
   refine ⟨g, k, rfl, ?_, hB⟩
   rw [RepAt, Nat.sub_self] at hR
   rw [StrRow, List.length_replicate]
   refine ⟨by simp, Or.inr ⟨g, k, _, rfl, hg, hR, Nat.le_refl _, by unfold maxLen; omega, by simp, by simp⟩⟩
def zeroS : ByteArray := strOfNums (List.replicate 512 0)
theorem zeroS_size : zeroS.size = 512 := by rw [zeroS, strOfNums_size, List.length_replicate]
theorem zc88 (j : Nat) (hj : j < 512) : Tryd.zeroCells55[j]? = some (Value.int .u8 0) := by
 have : Tryd.zeroCells55 = (List.replicate 512 (Value.int .u8 0)).toArray := by kernel_rfl
 rw [this, List.getElem?_toArray, List.getElem?_replicate, if_pos hj]
theorem conv_zero {W : World} {g : Nat} (h : W.heap[g]? = some (.cells Tryd.zeroCells55 55 (0, 0))) : (convert 59 9 (.slice (some ⟨g, 0, none⟩) 512 512)).run Tryd.prog W = .ok (.string zeroS) W :=
 run_convert_bytes_arg (P := Tryd.prog) W 59 5 Tryd.underlying59 (by kernel_rfl) g 0 512 512 (List.replicate 512 0) (List.length_replicate ..) (fun j hj => by
  simp only [World.cell?, h, Nat.zero_add]
  rw [zc88 j hj, List.getD_eq_getElem?_getD, List.getElem?_replicate, if_pos hj]; rfl) 9 Tryd.underlying9
set_option maxRecDepth 100000 in
theorem dev_New_any (w : World) (n : Int) (h1 : 1 ≤ n) (h2 : n ≤ 32768) :
  Calls Tryd.prog 7 #[.int .i64 n] w fun e w' => ∃ i, e = .returned (.tuple #[.pointer (some ⟨i.d, 0, none⟩), .int .i64 0]) ∧ DevAt w' i (List.replicate n.toNat zeroS) [] [] false (-1) 0 ∧ (∀ k, i.In k → w.heap.size ≤ k) ∧ Below w.heap.size w w' := by
 have hcz := conv_zero (World.alloc_heap_new w (.cells Tryd.zeroCells55 55))
 refine (callsIn_wide (n := 4)).1 ?_
 refine callsIn_of_wp_marks Tryd.func7 rfl trivial ?_ rfl
 simp only [Tryd.ntmps7, List.size_toArray, List.length_cons, List.length_nil, Nat.reduceAdd, Nat.reduceSub, Array.replicate_succ, Array.replicate_zero, List.push_toArray, List.append_toArray, List.nil_append, List.cons_append]
 gi_wp2
 refine ⟨trivial, ?_⟩
 have hc := World.alloc_heap_new (w.alloc (.cells Tryd.zeroCells55 55)) (.cells #[.string zeroS] 9)
 rw [World.size_alloc] at hc
 have hcc : ((w.alloc (.cells Tryd.zeroCells55 55)).alloc (.cells #[.string zeroS] 9)).cell? ⟨w.heap.size + 1, 0, none⟩ = some (.string zeroS) := by simp only [World.cell?, hc]; rfl
 have hR := slices_Repeat_any _ (w.heap.size + 1) 1 zeroS n h1 h2 hcc
 gi_at_call 21
 refine (callsIn_wide.2 hR).mono ?_
 rintro e w1 ⟨g, cap, rfl, hrow, hB1⟩
 have hrow0 : StrRow w1 0 g cap (List.replicate n.toNat zeroS) := own_weaken hrow (Nat.zero_le _)
 have hgb := own_base hrow g rfl
 have hO := dev_of_any w1 g cap _ hrow0 (by rw [List.length_replicate]; omega) (by rw [List.length_replicate]; omega) (fun x hx => by rw [List.eq_of_mem_replicate hx]; exact zeroS_size)
 rw [List.length_replicate] at hO
 gi_wp2
 refine ⟨trivial, ?_⟩
 gi_at_call 20
 refine (callsIn_wide.2 hO).mono ?_
 rintro e w2 ⟨i, rfl, hD, ebs, ecap, p1, p2, p3, hB2⟩
 gi_wp2
 have hz1 := hB1.size
 simp only [World.size_alloc] at hgb hz1 hB1
 refine ⟨_, results_tmp2 rfl _ _ _, i, rfl, hD, fun k hk => ?_, ?_⟩
 ·rcases hk with rfl | rfl | rfl | rfl <;> omega
 ·exact (((Below.refl _ w).alloc (Nat.le_refl _) _).alloc (by simp) _).trans ((hB1.mono (by omega)).trans (hB2.mono (by omega)))

set_option maxRecDepth 100000 in
theorem dev_New_no (w : World) (n : Int) (h : ¬ (1 ≤ n ∧ n ≤ 32768)) :
  Calls Tryd.prog 7 #[.int .i64 n] w fun e w' => e = .returned (.tuple #[.pointer none, .int .i64 1]) ∧ Below w.heap.size w w' := by
 refine (callsIn_wide (n := 4)).1 ?_
 refine callsIn_of_wp_marks Tryd.func7 rfl trivial ?_ rfl
 simp only [Tryd.ntmps7, List.size_toArray, List.length_cons, List.length_nil, Nat.reduceAdd, Nat.reduceSub, Array.replicate_succ, Array.replicate_zero, List.push_toArray, List.append_toArray, List.nil_append, List.cons_append]
 by_cases h1 : n < 1
 ·gi_wp2
  exact ⟨_, results_tmp2 rfl _ _ _, rfl, Below.refl _ _⟩
 ·have h2 : 32768 < n := by omega
  gi_wp2
  exact ⟨_, results_tmp2 rfl _ _ _, rfl, Below.refl _ _⟩
def secs : Nat → ByteArray → List ByteArray
 | 0, _ => []
 | k + 1, s => s.extract 0 512 :: secs k (s.extract 512 s.size)
theorem secs_len : ∀ (k : Nat) (s : ByteArray), (secs k s).length = k
 | 0, _ => rfl
 | k + 1, s => by rw [secs, List.length_cons, secs_len k]
theorem secs_size : ∀ (k : Nat) (s : ByteArray), 512 * k ≤ s.size → ∀ x ∈ secs k s, x.size = 512
 | 0, _, _, x, hx => by cases hx
 | k + 1, s, h, x, hx => by
  rcases List.mem_cons.1 hx with rfl | hx
  ·rw [ByteArray.size_extract]; omega
  ·exact secs_size k _ (by rw [ByteArray.size_extract]; omega) x hx
theorem dev_Writes_any (w : World) (i : DevIds) (xs : List ByteArray) (F : FL) (B : BL) (off : Bool) (fuse nw : Int) (h : DevAt w i xs F B off fuse nw) :
  Calls Tryd.prog 16 #[.pointer (some ⟨i.d, 0, none⟩)] w fun e w' => e = .returned (.int .i64 nw) ∧ w' = w := by
 obtain ⟨_, _, _, _, _, c5⟩ := h.cells
 go_enter Tryd.func16, Tryd.ntmps16
 go_wp2
 go_ret
 exact ⟨rfl, rfl⟩
def GeoOk (sh K M C : Int) : Prop := 0 ≤ sh ∧ sh ≤ 7 ∧ 1 ≤ K ∧ 0 ≤ M ∧ K ≤ 255 ∧ M ≤ 255 - K ∧ 4 ≤ C ∧ C ≤ 4096 ∧ C * 2 ^ sh.toNat ≤ 32768
instance (sh K M C : Int) : Decidable (GeoOk sh K M C) := by unfold GeoOk; infer_instance
theorem sh_cases {sh : Int} (h0 : 0 ≤ sh) (h1 : sh ≤ 7) : sh = 0 ∨ sh = 1 ∨ sh = 2 ∨ sh = 3 ∨ sh = 4 ∨ sh = 5 ∨ sh = 6 ∨ sh = 7 := by omega
theorem wrap64_id {x : Int} (h0 : -9223372036854775808 ≤ x) (h1 : x ≤ 9223372036854775807) : wrap64 x = x := by unfold wrap64; omega
theorem wrapI {x : Int} (h0 : -9223372036854775808 ≤ x) (h1 : x ≤ 9223372036854775807) : IntKind.wrap .i64 x = x := by
 simp [IntKind.wrap, IntKind.signed, IntKind.bits]
 split <;> omega
theorem min_bits {sh : Int} (h1 : sh ≤ 7) : min sh.toNat IntKind.i64.bits = sh.toNat := Nat.min_eq_left (by simp [IntKind.bits]; omega)
theorem shl_is (x sh : Int) (h0 : 0 ≤ sh) (h1 : sh ≤ 7) (x0 : 0 ≤ x) (x1 : x ≤ 4096) : shl .i64 x sh = x * 2 ^ sh.toNat := by
 unfold shl
 rw [min_bits h1]
 rcases sh_cases h0 h1 with rfl | rfl | rfl | rfl | rfl | rfl | rfl | rfl <;> refine wrapI ?_ ?_ <;> simp <;> omega
theorem shl9 (sh : Int) (h0 : 0 ≤ sh) (h1 : sh ≤ 7) : shl .i64 1 (wrap64 (9 + sh)) = 512 * 2 ^ sh.toNat := by
 rcases sh_cases h0 h1 with rfl | rfl | rfl | rfl | rfl | rfl | rfl | rfl <;> decide +kernel
theorem shr_is (C sh : Int) (h0 : 0 ≤ sh) (h1 : sh ≤ 7) : (C > shr .i64 32768 sh) ↔ ¬ (C * 2 ^ sh.toNat ≤ 32768) := by
 unfold shr
 rw [min_bits h1]
 rcases sh_cases h0 h1 with rfl | rfl | rfl | rfl | rfl | rfl | rfl | rfl <;> simp <;> omega
theorem geom_Check_f (sh K M C : Int) : geom_Check.f 1 sh K M C = some (if GeoOk sh K M C then 0 else 2) := by
 unfold geom_Check.f
 by_cases a1 : sh < 0
 ·rw [if_pos a1, if_neg (fun h => by have := h.1; omega)]; rfl
 by_cases a2 : sh > 7
 ·rw [if_neg a1, if_pos a2, if_neg (fun h => by have := h.2.1; omega)]; rfl
 rw [if_neg a1, if_neg a2]
 have hB : ∀ b : Bool, geom_Check.j0 1 b sh K M C = some (if b = true ∨ C < 4 ∨ C > 4096 ∨ ¬ (C * 2 ^ sh.toNat ≤ 32768) then 2 else 0) := by
  intro b
  show (if b = true then some 2 else if C < 4 then some 2 else if C > 4096 then some 2 else if 0 ≤ sh then (if C > shr .i64 32768 sh then some 2 else some 0) else none) = _
  by_cases b0 : b = true
  ·rw [if_pos b0, if_pos (Or.inl b0)]
  by_cases b1 : C < 4
  ·rw [if_neg b0, if_pos b1, if_pos (Or.inr (Or.inl b1))]
  by_cases b2 : C > 4096
  ·rw [if_neg b0, if_neg b1, if_pos b2, if_pos (Or.inr (Or.inr (Or.inl b2)))]
  rw [if_neg b0, if_neg b1, if_neg b2, if_pos (by omega)]
  by_cases b3 : C * 2 ^ sh.toNat ≤ 32768
  ·rw [if_neg (fun h => (shr_is C sh (by omega) (by omega)).1 h b3), if_neg (fun h => by rcases h with h | h | h | h; exact b0 h; omega; omega; exact h b3)]
  ·rw [if_pos ((shr_is C sh (by omega) (by omega)).2 b3), if_pos (Or.inr (Or.inr (Or.inr b3)))]
 have hR : rs_Check.f K M = some (if 1 ≤ K ∧ 0 ≤ M ∧ K ≤ 255 ∧ M ≤ 255 - K then 0 else 1) := by
  unfold rs_Check.f
  by_cases c1 : K < 1
  ·rw [if_pos c1, if_neg (by omega)]
  by_cases c2 : M < 0
  ·rw [if_neg c1, if_pos c2, if_neg (by omega)]
  by_cases c3 : K > 255
  ·rw [if_neg c1, if_neg c2, if_pos c3, if_neg (by omega)]
  rw [if_neg c1, if_neg c2, if_neg c3, wrap64_id (by omega) (by omega)]
  by_cases c4 : M > 255 - K
  ·rw [if_pos c4, if_neg (by omega)]
  ·rw [if_neg c4, if_pos (by omega)]
 rw [hR]
 show geom_Check.j0 1 _ sh K M C = _
 rw [hB]
 by_cases hr : 1 ≤ K ∧ 0 ≤ M ∧ K ≤ 255 ∧ M ≤ 255 - K
 ·rw [if_pos hr]
  by_cases hg : GeoOk sh K M C
  ·rw [if_pos hg, if_neg]
   obtain ⟨_, _, _, _, _, _, g1, g2, g3⟩ := hg
   rintro (h | h | h | h)
   ·exact absurd h (by decide)
   ·omega
   ·omega
   ·exact h g3
  ·rw [if_neg hg, if_pos]
   by_cases q1 : C < 4
   ·exact Or.inr (Or.inl q1)
   by_cases q2 : C > 4096
   ·exact Or.inr (Or.inr (Or.inl q2))
   exact Or.inr (Or.inr (Or.inr (fun h => hg ⟨by omega, by omega, hr.1, hr.2.1, hr.2.2.1, hr.2.2.2, by omega, by omega, h⟩)))
 ·rw [if_neg hr, if_neg (fun h : GeoOk sh K M C => hr ⟨h.2.2.1, h.2.2.2.1, h.2.2.2.2.1, h.2.2.2.2.2.1⟩), if_pos (Or.inl (by decide))]
theorem geom_right_f (sh K M C : Int) : geom_right.f 1 sh K M C = some (decide (GeoOk sh K M C)) := by
 unfold geom_right.f
 rw [geom_Check_f]
 by_cases h : GeoOk sh K M C
 ·rw [if_pos h, decide_eq_true h]; rfl
 ·rw [if_neg h, decide_eq_false h]; rfl
def nS (sh : Int) : Nat := 2 ^ sh.toNat
theorem nS_int (sh : Int) : ((nS sh : Nat) : Int) = 2 ^ sh.toNat := by simp [nS]
theorem nS_pos (sh : Int) : 1 ≤ nS sh := Nat.one_le_two_pow
theorem nS_le {sh : Int} (h1 : sh ≤ 7) : nS sh ≤ 128 := by
 have : (2 : Nat) ^ sh.toNat ≤ 2 ^ 7 := Nat.pow_le_pow_right (by omega) (by omega)
 exact this
def sizeP (sh K M C : Int) : Int := if GeoOk sh K M C then 512 * (nS sh : Int) else 0
def sectorsP (sh K M C : Int) : Int := if GeoOk sh K M C then C * (nS sh : Int) else 0
def firstP (sh K M C at_ : Int) : Int × Int := if GeoOk sh K M C then (if 0 ≤ at_ ∧ at_ < C then (at_ * (nS sh : Int), (0 : Int)) else ((0 : Int), (1 : Int))) else ((0 : Int), (2 : Int))
abbrev geoV (sh K M C : Int) : Value := .agg #[.int .i64 sh, .int .i64 K, .int .i64 M, .int .i64 C]
theorem geom_Size_any (sh K M C : Int) (w : World) : Calls Tryd.prog 22 #[geoV sh K M C] w fun e w' => e = .returned (.int .i64 (sizeP sh K M C)) ∧ Below w.heap.size w w' := by
 refine geom_Size.calls 1 sh K M C _ w ?_
 unfold geom_Size.f sizeP
 rw [geom_right_f]
 by_cases h : GeoOk sh K M C
 ·rw [if_pos h, decide_eq_true h]
  simp only [Option.bind_some, ↓reduceIte]
  rw [shl9 sh h.1 h.2.1, nS_int, if_pos]
  rw [wrap64_id (by have := h.1; omega) (by have := h.2.1; omega)]
  have := h.1; omega
 ·rw [if_neg h, decide_eq_false h]; rfl
theorem geom_Sectors_any (sh K M C : Int) (w : World) : Calls Tryd.prog 6 #[geoV sh K M C] w fun e w' => e = .returned (.int .i64 (sectorsP sh K M C)) ∧ Below w.heap.size w w' := by
 refine geom_Sectors.calls 1 sh K M C _ w ?_
 unfold geom_Sectors.f sectorsP
 rw [geom_right_f]
 by_cases h : GeoOk sh K M C
 ·rw [if_pos h, decide_eq_true h]
  simp only [Option.bind_some, ↓reduceIte]
  have g := h
  obtain ⟨g1, g2, _, _, _, _, g3, g4, _⟩ := g
  rw [if_pos g1, shl_is C sh g1 g2 (by omega) (by omega), nS_int]
 ·rw [if_neg h, decide_eq_false h]; rfl
theorem geom_First_any (sh K M C at_ : Int) (w : World) : Calls Tryd.prog 23 #[geoV sh K M C, .int .i64 at_] w fun e w' => e = .returned (.tuple #[.int .i64 (firstP sh K M C at_).1, .int .i64 (firstP sh K M C at_).2]) ∧ Below w.heap.size w w' := by
 refine geom_First.calls 1 sh K M C at_ _ _ w ?_
 unfold geom_First.f firstP
 rw [geom_right_f]
 by_cases h : GeoOk sh K M C
 ·rw [if_pos h, decide_eq_true h]
  simp only [Option.bind_some, ↓reduceIte]
  have g := h
  obtain ⟨g1, g2, _, _, _, _, g3, g4, _⟩ := g
  by_cases a : at_ < 0
  ·rw [if_pos a, if_neg (by omega)]
  by_cases b : at_ ≥ C
  ·rw [if_neg a, if_pos b, if_neg (by omega)]
  rw [if_neg a, if_neg b, if_pos g1, shl_is at_ sh g1 g2 (by omega) (by omega), if_pos (by omega), nS_int]
 ·rw [if_neg h, decide_eq_false h]; rfl
def tabL : List Int := [0, 274646895, 549293790, 820201905, 1098587580, 1361435347, 1640403810, 1905808397, 2197175160, 2460548119, 2722870694, 2987750089, 3280807620, 3553878443, 3811616794, 4084100981]
def tabG (j : Nat) : Int := tabL.getD j 0
def TabAt (w : World) : Prop := ∀ j : Nat, j < 16 → w.cell? ⟨0, j, none⟩ = some (.int .u32 (tabG j))
theorem TabAt.step {Z : Nat → Prop} {w w' : World} (h : TabAt w) (hs : Step Z w w') (hz : ¬ Z 0) : TabAt w' := fun j hj => hs.cell (h j hj) hz
theorem TabAt.below {w w' : World} (h : TabAt w) (hb : Below w.heap.size w w') : TabAt w' := h.step (Step.of_below (S := fun _ => False) hb) (fun h => h)
def endC (x : Int) : Int := Go.bits .xor .u32 4294967295 x
theorem crc_End_any (x : Int) (w : World) : Calls Tryd.prog 27 #[.int .u32 x] w fun e w' => e = .returned (.int .u32 (endC x)) ∧ w' = w := by
 go_enter Tryd.func27, Tryd.ntmps27
 go_wp2
 go_ret
 exact ⟨rfl, rfl⟩
theorem and15 (x : Int) (h0 : 0 ≤ x) (h1 : x < 4294967296) : 0 ≤ Go.bits .and .u32 x 15 ∧ Go.bits .and .u32 x 15 < 16 := by
 have h := bits_mask .u32 32 (by decide) (fun n a b => by rw [IntKind.wrap_u32]; omega) 4 (by decide) x h0 (by omega)
 rw [show (2 : Int) ^ 4 - 1 = 15 by decide] at h
 rw [h]
 omega
def nib (x : Int) : Int := Go.bits .xor .u32 (x / 16) (tabG (Go.bits .and .u32 x 15).toNat)
def byteC (x : Int) (b : UInt8) : Int := nib (nib (Go.bits .xor .u32 x ((b.toNat : Int) % 4294967296)))
theorem xor_u32 (a b : Int) : 0 ≤ Go.bits .xor .u32 a b ∧ Go.bits .xor .u32 a b < 4294967296 := by
 simp only [Go.bits]
 rw [IntKind.wrap_u32]
 omega
def addC : List UInt8 → Int → Int
 | [], x => x
 | b :: l, x => addC l (byteC x b)
theorem addC_snoc (b : UInt8) : ∀ (l : List UInt8) (x : Int), addC (l ++ [b]) x = byteC (addC l x) b
 | [], _ => rfl
 | c :: l, x => addC_snoc b l (byteC x c)
theorem nib_in (x : Int) : 0 ≤ nib x ∧ nib x < 4294967296 := xor_u32 _ _
theorem addC_in : ∀ (l : List UInt8) (x : Int), 0 ≤ x → x < 4294967296 → 0 ≤ addC l x ∧ addC l x < 4294967296
 | [], _, h0, h1 => ⟨h0, h1⟩
 | b :: l, x, _, _ => addC_in l _ (nib_in _).1 (nib_in _).2
set_option maxRecDepth 100000 in
set_option maxHeartbeats 4000000 in
theorem crc_Add_any (x : Int) (s : ByteArray) (w : World) (hT : TabAt w) (h0 : 0 ≤ x) (h1 : x < 4294967296) (hs : s.size ≤ 1000000) : Calls Tryd.prog 28 #[.int .u32 x, .string s] w fun e w' => e = .returned (.int .u32 (addC s.data.toList x)) ∧ w' = w := by
 go_enter Tryd.func28, Tryd.ntmps28
 go_wp2
 go_loopw [0, 8] (fun t0 t8 wr => wr = w ∧ ∃ k : Nat, k ≤ s.size ∧ t8 = .int .i64 k ∧ t0 = .int .u32 (addC (s.data.toList.take k) x)) (fun _ t8 _ => s.size - (intOf t8).toNat)
 case atStart => exact ⟨rfl, 0, Nat.zero_le _, rfl, rfl⟩
 case round =>
  obtain ⟨rfl, k, hk, rfl, rfl⟩ := hrel
  have hy := addC_in (s.data.toList.take k) x h0 h1
  by_cases hkl : k < s.size
  ·have hkl2 : k < s.data.toList.length := by simpa using hkl
   have htk : addC (s.data.toList.take (k + 1)) x = byteC (addC (s.data.toList.take k) x) (s.data.toList[k]'hkl2) := by
    rw [List.take_succ_eq_append_getElem hkl2, addC_snoc]
   generalize addC (s.data.toList.take k) x = y at hy htk
   have hx := xor_u32 y (((s[k]'hkl).toNat : Int) % 4294967296)
   have hn := nib_in (Go.bits .xor .u32 y (((s[k]'hkl).toNat : Int) % 4294967296))
   have hI := and15 _ hx.1 hx.2
   have hJ := and15 _ hn.1 hn.2
   have hA := hT (Go.bits .and .u32 (Go.bits .xor .u32 y (((s[k]'hkl).toNat : Int) % 4294967296)) 15).toNat (by omega)
   have hB := hT (Go.bits .and .u32 (nib (Go.bits .xor .u32 y (((s[k]'hkl).toNat : Int) % 4294967296))) 15).toNat (by omega)
   unfold nib at hB hJ
   go_wp2
   go_roundw
   case rel => exact ⟨trivial, k + 1, by omega, by simp, by rw [htk]; rfl⟩
   case measure => simp [intOf]; omega
  ·have ek : k = s.size := by omega
   subst ek
   go_wp2
   go_ret
   refine ⟨?_, rfl⟩
   rw [List.take_of_length_le (by simp)]
   rfl
def sumC (s : ByteArray) : Int := endC (addC s.data.toList 4294967295)
theorem sumC_in (s : ByteArray) : 0 ≤ sumC s ∧ sumC s < 4294967296 := xor_u32 _ _
theorem crc_Sum_any (s : ByteArray) (w : World) (hT : TabAt w) (hs : s.size ≤ 1000000) : Calls Tryd.prog 12 #[.string s] w fun e w' => e = .returned (.int .u32 (sumC s)) ∧ Below w.heap.size w w' := by
 go_enter Tryd.func12, Tryd.ntmps12
 go_wp2_with (first
  | (go_at_call 29; refine (crc_Start.calls _ _ rfl).mono ?_; rintro e w1 ⟨rfl, hd1⟩)
  | (go_at_call 28; refine (crc_Add_any _ s _ (hT.below hd1.below) (by decide) (by decide) hs).mono ?_; rintro e w2 ⟨rfl, rfl⟩)
  | (go_at_call 27; refine (crc_End_any _ _).mono ?_; rintro e w2 ⟨rfl, rfl⟩))
 go_ret
 exact ⟨rfl, hd1.below⟩
def fillG (n : Nat) (s : ByteArray) : ByteArray := strOfNums (bytesOf s ++ List.replicate (n - s.size) 0)
theorem fillG_size (n : Nat) (s : ByteArray) (h : s.size ≤ n) : (fillG n s).size = n := by
 rw [fillG, strOfNums_size, List.length_append, bytesOf_length, List.length_replicate]; omega
def fillP (sh K M C : Int) (s : ByteArray) : ByteArray × Int := if GeoOk sh K M C then (if s.size ≤ 512 * nS sh then (fillG (512 * nS sh) s, (0 : Int)) else (⟨#[]⟩, (7 : Int))) else (⟨#[]⟩, (2 : Int))
theorem info5P : (Tryd.prog.info? 5).map (fun i => (i.zero, i.size, i.bytes)) = some (some (.int .u8 0), 1, 1) := by kernel_rfl
def fillC (N : Nat) (s : ByteArray) : Array Value := ((bytesOf s ++ List.replicate (N - s.size) 0).map (Value.int .u8)).toArray
theorem fill_run (W : World) (N : Nat) (s : ByteArray) (hN : N ≤ 65536) (hs : s.size ≤ N) :
  (Instr.makeSlice 59 (.int .i64 N) (.int .i64 N)).run Tryd.prog W = .ok (.slice (some ⟨W.heap.size, 0, none⟩) N N) (W.alloc (.cells (Array.replicate N (Value.int .u8 0)) 5)) ∧
  (Builtin.copy_ #[59, 9] 3 #[.slice (some ⟨W.heap.size, 0, none⟩) N N, .string s]).run Tryd.prog (W.alloc (.cells (Array.replicate N (Value.int .u8 0)) 5)) = .ok (goInt s.size) (W.alloc (.cells (fillC N s) 5)) ∧
  (convert 59 9 (.slice (some ⟨W.heap.size, 0, none⟩) N N)).run Tryd.prog (W.alloc (.cells (fillC N s) 5)) = .ok (.string (fillG N s)) (W.alloc (.cells (fillC N s) 5)) := by
 unfold fillC
 obtain ⟨i, hi, hz⟩ := Option.map_eq_some_iff.1 info5P
 simp only [Prod.mk.injEq] at hz
 obtain ⟨hz0, hz1, hz2⟩ := hz
 have hr := run_make (P := Tryd.prog) W 59 5 i _ Tryd.underlying59 hi hz0 .i64 .i64 N N (by omega) (Int.le_refl _) (by rw [hz2]; omega) (by omega)
 simp only [Int.toNat_natCast, hz1, Nat.mul_one] at hr
 have hm : madeCells (Value.int .u8 0).cells N = (List.replicate N (Value.int .u8 0)).toArray := by
  apply Array.ext'
  simp [madeCells, Value.cells, Nat.mod_one]
  rw [List.map_const', List.length_range]
 rw [hm] at hr
 have hn := World.alloc_heap_new W (.cells (List.replicate N (Value.int .u8 0)).toArray 5)
 have hc := Lib.run_copy_row_string (P := Tryd.prog) (W.alloc (.cells (List.replicate N (Value.int .u8 0)).toArray 5)) 59 9 3 5 W.heap.size 0 N N s _ 5 Tryd.underlying59 (by kernel_rfl) hn hs (by simp; omega)
 rw [World.setRow_alloc_new] at hc
 have hl : (((List.replicate N (Value.int .u8 0)).toArray.toList.take 0 ++ Lib.byteCells s.data.toList ++ (List.replicate N (Value.int .u8 0)).toArray.toList.drop (0 + s.size))).toArray = ((bytesOf s ++ List.replicate (N - s.size) 0).map (Value.int .u8)).toArray := by
  refine congrArg List.toArray ?_
  rw [List.take_zero, List.nil_append, Nat.zero_add, List.map_append, List.map_replicate, List.drop_replicate, bytesOf, List.map_map]
  rfl
 rw [hl] at hc
 rw [List.toArray_replicate] at hr hc
 refine ⟨hr, hc, ?_⟩
 have hn2 := World.alloc_heap_new W (.cells ((bytesOf s ++ List.replicate (N - s.size) 0).map (Value.int .u8)).toArray 5)
 exact run_convert_bytes_arg (P := Tryd.prog) _ 59 5 Tryd.underlying59 (by kernel_rfl) W.heap.size 0 N N (bytesOf s ++ List.replicate (N - s.size) 0) (by rw [List.length_append, bytesOf_length, List.length_replicate]; omega) (fun j hj => by
  have hl2 : j < (bytesOf s ++ List.replicate (N - s.size) 0).length := by rw [List.length_append, bytesOf_length, List.length_replicate]; omega
  simp only [World.cell?, hn2, Nat.zero_add]
  rw [List.getElem?_toArray, List.getElem?_map, List.getElem?_eq_getElem hl2, List.getD_eq_getElem?_getD, List.getElem?_eq_getElem hl2]
  rfl) 9 Tryd.underlying9
set_option maxRecDepth 100000 in
set_option maxHeartbeats 4000000 in
theorem cluster_Fill_any (sh K M C : Int) (s : ByteArray) (w : World) (hL : s.size ≤ 9223372036854775807) :
  Calls Tryd.prog 8 #[geoV sh K M C, .string s] w fun e w' => e = .returned (.tuple #[.string (fillP sh K M C s).1, .int .i64 (fillP sh K M C s).2]) ∧ Below w.heap.size w w' := by
 have hu23 := Tryd.underlying23
 unfold geoV
 by_cases hg : GeoOk sh K M C
 ·obtain ⟨N, hN⟩ : ∃ N, N = 512 * nS sh := ⟨_, rfl⟩
  have hN1 : 1 ≤ N := by have := nS_pos sh; omega
  have hN2 : N ≤ 65536 := by have := nS_le hg.2.1; omega
  have hS : sizeP sh K M C = (N : Int) := by rw [sizeP, if_pos hg]; omega
  by_cases hl : s.size ≤ N
  ·rw [fillP, if_pos hg, if_pos (by omega), ← hN]
   clear hN
   go_enter Tryd.func8, Tryd.ntmps8
   go_wp2_with (go_at_call 22; refine (geom_Size_any sh K M C _).mono ?_; rintro e w1 ⟨rfl, hb1⟩; rw [hS]; have hF := fill_run w1 N s hN2 hl; obtain ⟨hF1, hF2, hF3⟩ := hF)
   go_ret2
   exact ⟨rfl, ((((Below.refl _ _).alloc (Nat.le_refl _) _).trans (hb1.mono (by simp))).alloc (by have := hb1.size; simp at this; omega) _)⟩
  ·rw [fillP, if_pos hg, if_neg (by omega)]
   clear hN
   go_enter Tryd.func8, Tryd.ntmps8
   go_wp2_with (go_at_call 22; refine (geom_Size_any sh K M C _).mono ?_; rintro e w1 ⟨rfl, hb1⟩; rw [hS])
   go_ret2
   exact ⟨rfl, ((Below.refl _ _).alloc (Nat.le_refl _) _).trans (hb1.mono (by simp))⟩
 ·rw [fillP, if_neg hg]
  have hS : sizeP sh K M C = 0 := if_neg hg
  go_enter Tryd.func8, Tryd.ntmps8
  go_wp2_with (go_at_call 22; refine (geom_Size_any sh K M C _).mono ?_; rintro e w1 ⟨rfl, hb1⟩; rw [hS])
  go_ret2
  exact ⟨rfl, ((Below.refl _ _).alloc (Nat.le_refl _) _).trans (hb1.mono (by simp))⟩
end

end Go.Proofs.YtpbkcdodpjpoeaaDoor.HCB
