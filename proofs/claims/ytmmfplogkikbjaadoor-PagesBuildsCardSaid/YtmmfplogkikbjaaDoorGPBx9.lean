/- a text of this claim -/
import Derived.Test.YtmmfplogkikbjaaDoorGPBx0
import Derived.Test.YtmmfplogkikbjaaDoorGPBx8
namespace Go.Proofs.YtmmfplogkikbjaaDoor.HPB
open Go.RowKit Go.Proofs.YtmmfplogkikbjaaDoorW.PrintWords Go.Proofs.YtmmfplogkikbjaaDoorW.PrintLast Go.Proofs.YtmmfplogkikbjaaDoorW.PrintMore
attribute [local go_sem] max2_int min2_int max_two min_two max_three min_three max_four min_four
set_option linter.unusedVariables false
set_option linter.unusedSimpArgs false
section
open Go Go.Shelf Go.Maps Go.Proofs.YtmmfplogkikbjaaDoor.Seq Go.Proofs.YtmmfplogkikbjaaDoor.MapL Go.Proofs.YtmmfplogkikbjaaDoorW.PrintLast
attribute [local go_sem] Oper.semAt_some max2_int min2_int max_two min_two
theorem kitS : Kit Tryd.prog 107 3 9 (Value.int .i64) (Lit.int .i64) (fun x => (Lit.int .i64 x).wf = true) Value.string litS (fun s => s.size ≤ maxLen) ByteArray.empty :=
 kit_is Tryd.underlying107 (by kernel_rfl) (by kernel_rfl) (fun w => by kernel_rfl)
theorem kitB : Kit Tryd.prog 108 3 4 (Value.int .i64) (Lit.int .i64) (fun x => (Lit.int .i64 x).wf = true) Value.bool Lit.bool (fun _ => True) false :=
 kit_ib Tryd.underlying108 (by kernel_rfl) (by kernel_rfl) (fun w => by kernel_rfl)
abbrev FL := List (Int × ByteArray)
abbrev BL := List (Int × Bool)
def DevOk (xs : List ByteArray) (F : FL) (B : BL) (fuse : Int) : Prop :=
 1 ≤ xs.length ∧ xs.length ≤ 32768 ∧ (∀ x ∈ xs, x.size = 512) ∧ (∀ q ∈ F, 0 ≤ q.1 ∧ q.1 < xs.length ∧ q.2.size = 512) ∧ (∀ q ∈ B, 0 ≤ q.1 ∧ q.1 < xs.length ∧ q.2 = true) ∧ F.length ≤ xs.length ∧ B.length ≤ xs.length ∧ -1 ≤ fuse ∧ fuse ≤ 9223372036854775807
structure DevIds where
 d : Nat
 bs : Nat
 cap : Nat
 bf : Nat
 bb : Nat
def DevIds.In (i : DevIds) : Nat → Prop := fun k => k = i.d ∨ k = i.bs ∨ k = i.bf ∨ k = i.bb
def DevAt (w : World) (i : DevIds) (xs : List ByteArray) (F : FL) (B : BL) (off : Bool) (fuse nw : Int) : Prop :=
 w.heap[i.d]? = some (.cells #[.slice (some ⟨i.bs, 0, none⟩) xs.length i.cap, .map (some i.bf), .map (some i.bb), .bool off, .int .i64 fuse, .int .i64 nw] 110 (0, 0)) ∧
 w.ownsRow 0 9 1 (.slice (some ⟨i.bs, 0, none⟩) xs.length i.cap) xs.length (xs.map Value.string) ∧
 MapOf Tryd.prog 3 9 (Lit.int .i64) litS w i.bf F ∧ MapOf Tryd.prog 3 4 (Lit.int .i64) Lit.bool w i.bb B ∧ i.bf ≠ i.bb ∧ DevOk xs F B fuse
theorem map_block {α β : Type} [DecidableEq α] {P : Program} {tk te : TypeId} {mk : α → Lit} {md : β → Lit} {w : World} {b : Nat} {L : List (α × β)} (h : MapOf P tk te mk md w b L) : ∃ es clock, w.heap[b]? = some (.map es clock) := by
 obtain ⟨D, ⟨es, clock, h2, _⟩, _⟩ := h
 exact ⟨es, clock, h2⟩
theorem row_block {w : World} {base e size n m g cap : Nat} {xs : List Value} (h : w.ownsRow base e size (.slice (some ⟨g, 0, none⟩) m cap) n xs) : ∃ cur, w.heap[g]? = some (.cells cur e (0, 0)) := by
 rcases h.2 with ⟨h0, _⟩ | ⟨g', cap', cur, e', hb, hg, _⟩
 ·cases h0
 ·cases e'; exact ⟨cur, hg⟩
section
variable {w w' : World} {i : DevIds} {xs : List ByteArray} {F : FL} {B : BL} {off : Bool} {fuse nw : Int}
theorem DevAt.ne (h : DevAt w i xs F B off fuse nw) : i.d ≠ i.bs ∧ i.d ≠ i.bf ∧ i.d ≠ i.bb ∧ i.bs ≠ i.bf ∧ i.bs ≠ i.bb ∧ i.bf ≠ i.bb := by
 obtain ⟨hd, hr, hf, hb, hn, _⟩ := h
 obtain ⟨e1, c1, m1⟩ := map_block hf
 obtain ⟨e2, c2, m2⟩ := map_block hb
 obtain ⟨cur, r⟩ := row_block hr
 refine ⟨fun e => ?_, fun e => ?_, fun e => ?_, fun e => ?_, fun e => ?_, hn⟩
 ·rw [e, r] at hd; cases hd
 ·rw [e, m1] at hd; cases hd
 ·rw [e, m2] at hd; cases hd
 ·rw [e, m1] at r; cases r
 ·rw [e, m2] at r; cases r
theorem DevAt.ok (h : DevAt w i xs F B off fuse nw) : DevOk xs F B fuse := h.2.2.2.2.2
theorem DevAt.lt (h : DevAt w i xs F B off fuse nw) : ∀ k, i.In k → k < w.heap.size := by
 obtain ⟨hd, hr, hf, hb, hn, _⟩ := h
 obtain ⟨cur, r⟩ := row_block hr
 rintro k (rfl | rfl | rfl | rfl)
 ·exact (Array.getElem?_eq_some_iff.1 hd).1
 ·exact (Array.getElem?_eq_some_iff.1 r).1
 ·exact hf.lt
 ·exact hb.lt
theorem DevAt.step {Z : Nat → Prop} (h : DevAt w i xs F B off fuse nw) (hs : Step Z w w') (hz : ∀ k, i.In k → ¬ Z k) : DevAt w' i xs F B off fuse nw := by
 obtain ⟨hd, hr, hf, hb, hn, hok⟩ := h
 refine ⟨hs.block hd (hz _ (Or.inl rfl)), ownsRow_step hs hr (fun g hg => ?_), hf.step hs (hz _ (Or.inr (Or.inr (Or.inl rfl)))), hb.step hs (hz _ (Or.inr (Or.inr (Or.inr rfl)))), hn, hok⟩
 simp [Value.ownBlock] at hg
 exact hg ▸ hz _ (Or.inr (Or.inl rfl))
theorem DevAt.cells (h : DevAt w i xs F B off fuse nw) : w.cell? ⟨i.d, 0, none⟩ = some (.slice (some ⟨i.bs, 0, none⟩) xs.length i.cap) ∧ w.cell? ⟨i.d, 1, none⟩ = some (.map (some i.bf)) ∧ w.cell? ⟨i.d, 2, none⟩ = some (.map (some i.bb)) ∧
  w.cell? ⟨i.d, 3, none⟩ = some (.bool off) ∧ w.cell? ⟨i.d, 4, none⟩ = some (.int .i64 fuse) ∧ w.cell? ⟨i.d, 5, none⟩ = some (.int .i64 nw) := by
 have hd := h.1
 refine ⟨?_, ?_, ?_, ?_, ?_, ?_⟩ <;> simp [World.cell?, hd]
theorem DevAt.frozen (h : DevAt w i xs F B off fuse nw) (j : Nat) : w.frozen? ⟨i.d, j, none⟩ = false := by simp [World.frozen?, h.1]
theorem DevAt.setOff (h : DevAt w i xs F B off fuse nw) (x : Bool) : DevAt (w.setCell ⟨i.d, 3, none⟩ (.bool x)) i xs F B x fuse nw := by
 obtain ⟨n1, n2, n3, _⟩ := h.ne
 obtain ⟨hd, hr, hf, hb, hn, hok⟩ := h
 have hs : Step (fun k => k = i.d) w (w.setCell ⟨i.d, 3, none⟩ (.bool x)) := Step.setCell w (p := ⟨i.d, 3, none⟩) (S := fun k => k = i.d) rfl _
 exact ⟨by simpa using blk_set hd 3 (.bool x), ownsRow_step hs hr (fun g hg => by simp [Value.ownBlock] at hg; exact fun e => n1 (e.symm.trans hg.symm)), hf.step hs (fun e => n2 e.symm), hb.step hs (fun e => n3 e.symm), hn, hok⟩
theorem DevAt.setFuse (h : DevAt w i xs F B off fuse nw) (x : Int) (h0 : -1 ≤ x) (h1 : x ≤ 9223372036854775807) : DevAt (w.setCell ⟨i.d, 4, none⟩ (.int .i64 x)) i xs F B off x nw := by
 obtain ⟨n1, n2, n3, _⟩ := h.ne
 obtain ⟨hd, hr, hf, hb, hn, o1, o2, o3, o4, o5, o6, o7, o8, o9⟩ := h
 have hs : Step (fun k => k = i.d) w (w.setCell ⟨i.d, 4, none⟩ (.int .i64 x)) := Step.setCell w (p := ⟨i.d, 4, none⟩) (S := fun k => k = i.d) rfl _
 exact ⟨by simpa using blk_set hd 4 (.int .i64 x), ownsRow_step hs hr (fun g hg => by simp [Value.ownBlock] at hg; exact fun e => n1 (e.symm.trans hg.symm)), hf.step hs (fun e => n2 e.symm), hb.step hs (fun e => n3 e.symm), hn, o1, o2, o3, o4, o5, o6, o7, h0, h1⟩
theorem DevAt.setWr (h : DevAt w i xs F B off fuse nw) (x : Int) : DevAt (w.setCell ⟨i.d, 5, none⟩ (.int .i64 x)) i xs F B off fuse x := by
 obtain ⟨n1, n2, n3, _⟩ := h.ne
 obtain ⟨hd, hr, hf, hb, hn, hok⟩ := h
 have hs : Step (fun k => k = i.d) w (w.setCell ⟨i.d, 5, none⟩ (.int .i64 x)) := Step.setCell w (p := ⟨i.d, 5, none⟩) (S := fun k => k = i.d) rfl _
 exact ⟨by simpa using blk_set hd 5 (.int .i64 x), ownsRow_step hs hr (fun g hg => by simp [Value.ownBlock] at hg; exact fun e => n1 (e.symm.trans hg.symm)), hf.step hs (fun e => n2 e.symm), hb.step hs (fun e => n3 e.symm), hn, hok⟩
theorem DevAt.stepD (h : DevAt w i xs F B off fuse nw) (j : Nat) (v : Value) : Step i.In w (w.setCell ⟨i.d, j, none⟩ v) := Step.setCell w (p := ⟨i.d, j, none⟩) (S := i.In) (Or.inl rfl) v
end
theorem dev_has_any (w : World) (i : DevIds) (xs : List ByteArray) (F : FL) (B : BL) (off : Bool) (fuse nw : Int) (at_ : Int) (h : DevAt w i xs F B off fuse nw) :
  Calls Tryd.prog 67 #[.pointer (some ⟨i.d, 0, none⟩), .int .i64 at_] w fun e w' => e = .returned (.bool (decide (0 ≤ at_ ∧ at_ < xs.length))) ∧ w' = w := by
 obtain ⟨c0, _⟩ := h.cells
 refine (callsIn_wide (n := 4)).1 ?_
 refine callsIn_of_wp_marks Tryd.func67 rfl trivial ?_ rfl
 simp only [Tryd.ntmps67, List.size_toArray, List.length_cons, List.length_nil, Nat.reduceAdd, Nat.reduceSub, Array.replicate_succ, Array.replicate_zero, List.push_toArray, List.append_toArray, List.nil_append, List.cons_append]
 by_cases h1 : 0 ≤ at_
 ·have d1 : decide (0 ≤ at_) = true := decide_eq_true h1
  by_cases h2 : at_ < xs.length
  ·have d2 : decide (at_ < (xs.length : Int)) = true := decide_eq_true h2
   gi_wp2
   exact ⟨_, results_tmp rfl _ _ _, by simp [h1, h2], rfl⟩
  ·have d2 : decide (at_ < (xs.length : Int)) = false := decide_eq_false h2
   gi_wp2
   exact ⟨_, results_tmp rfl _ _ _, by simp [h1, h2], rfl⟩
 ·have d1 : decide (0 ≤ at_) = false := decide_eq_false h1
  gi_wp2
  exact ⟨_, results_tmp rfl _ _ _, by simp [h1], rfl⟩
def reachP (n : Nat) (off : Bool) (at_ : Int) : Int := if off = true then 12 else if 0 ≤ at_ ∧ at_ < n then 0 else 1
theorem dev_reach_any (w : World) (i : DevIds) (xs : List ByteArray) (F : FL) (B : BL) (off : Bool) (fuse nw : Int) (at_ : Int) (h : DevAt w i xs F B off fuse nw) :
  Calls Tryd.prog 108 #[.pointer (some ⟨i.d, 0, none⟩), .int .i64 at_] w fun e w' => e = .returned (.int .i64 (reachP xs.length off at_)) ∧ w' = w := by
 obtain ⟨_, _, _, c3, _⟩ := h.cells
 refine (callsIn_wide (n := 4)).1 ?_
 refine callsIn_of_wp_marks Tryd.func108 rfl trivial ?_ rfl
 simp only [Tryd.ntmps108, List.size_toArray, List.length_cons, List.length_nil, Nat.reduceAdd, Nat.reduceSub, Array.replicate_succ, Array.replicate_zero, List.push_toArray, List.append_toArray, List.nil_append, List.cons_append]
 unfold reachP
 have hh := dev_has_any w i xs F B off fuse nw at_ h
 cases off
 ·by_cases h2 : 0 ≤ at_ ∧ at_ < (xs.length : Int)
  ·rw [decide_eq_true h2] at hh
   gi_wp2_with (refine ⟨trivial, ?_⟩; gi_at_call 67; refine (callsIn_wide.2 hh).mono ?_; rintro e w' ⟨rfl, rfl⟩)
   exact ⟨_, results_tmp rfl _ _ _, by simp [h2], rfl⟩
  ·rw [decide_eq_false h2] at hh
   gi_wp2_with (refine ⟨trivial, ?_⟩; gi_at_call 67; refine (callsIn_wide.2 hh).mono ?_; rintro e w' ⟨rfl, rfl⟩)
   exact ⟨_, results_tmp rfl _ _ _, by simp [h2], rfl⟩
 ·gi_wp2
  exact ⟨_, results_tmp rfl _ _ _, rfl, rfl⟩
def burnP (off : Bool) (fuse : Int) : Bool × Int × Int := if fuse = 0 then (true, 0, 12) else if 0 < fuse then (off, fuse - 1, 0) else (off, fuse, 0)
theorem dev_burn_any (w : World) (i : DevIds) (xs : List ByteArray) (F : FL) (B : BL) (off : Bool) (fuse nw : Int) (h : DevAt w i xs F B off fuse nw) :
  Calls Tryd.prog 59 #[.pointer (some ⟨i.d, 0, none⟩)] w fun e w' => e = .returned (.int .i64 (burnP off fuse).2.2) ∧ DevAt w' i xs F B (burnP off fuse).1 (burnP off fuse).2.1 nw ∧ Step i.In w w' := by
 obtain ⟨_, _, _, c3, c4, _⟩ := h.cells
 have f3 := h.frozen 3
 have f4 := h.frozen 4
 obtain ⟨_, _, _, _, _, _, _, hb1, hb2⟩ := h.2.2.2.2.2
 refine (callsIn_wide (n := 4)).1 ?_
 refine callsIn_of_wp_marks Tryd.func59 rfl trivial ?_ rfl
 simp only [Tryd.ntmps59, List.size_toArray, List.length_cons, List.length_nil, Nat.reduceAdd, Nat.reduceSub, Array.replicate_succ, Array.replicate_zero, List.push_toArray, List.append_toArray, List.nil_append, List.cons_append]
 unfold burnP
 by_cases h0 : fuse = 0
 ·subst h0
  gi_wp2
  exact ⟨_, results_tmp rfl _ _ _, rfl, h.setOff true, h.stepD 3 _⟩
 ·have e0 : (fuse == 0) = false := by simpa using h0
  rw [if_neg h0]
  by_cases h1 : 0 < fuse
  ·have e1 : decide (0 < fuse) = true := decide_eq_true h1
   have hw : wrap64 (fuse - 1) = fuse - 1 := by unfold wrap64; omega
   rw [if_pos h1]
   gi_wp2
   exact ⟨_, results_tmp rfl _ _ _, rfl, h.setFuse _ (by omega) (by omega), h.stepD 4 _⟩
  ·have e1 : decide (0 < fuse) = false := decide_eq_false h1
   rw [if_neg h1]
   gi_wp2
   exact ⟨_, results_tmp rfl _ _ _, rfl, h, Step.refl _ _⟩
theorem wf_at {n : Nat} {x : Int} (hn : n ≤ 32768) (h : 0 ≤ x ∧ x < n) : (Lit.int .i64 x).wf = true := WalkArith.wf_i64 (by omega)
def writeP (n : Nat) (F : FL) (off : Bool) (fuse nw : Int) (at_ : Int) (s : ByteArray) : FL × Bool × Int × Int × Int :=
 if reachP n off at_ ≠ 0 then (F, off, fuse, nw, reachP n off at_) else if s.size ≠ 512 then (F, off, fuse, nw, 2) else
 if (burnP off fuse).2.2 ≠ 0 then (F, (burnP off fuse).1, (burnP off fuse).2.1, nw, (burnP off fuse).2.2) else (putL at_ s F, (burnP off fuse).1, (burnP off fuse).2.1, wrap64 (nw + 1), 0)
theorem nodup_below : ∀ (n : Nat) (l : List Int), l.Nodup → (∀ x ∈ l, 0 ≤ x ∧ x < (n : Int)) → l.length ≤ n
 | 0, l, _, h => by
  cases l with
  | nil => simp
  | cons x l => have := h x List.mem_cons_self; omega
 | n + 1, l, hn, h => by
  by_cases hm : (n : Int) ∈ l
  ·have ih := nodup_below n (l.erase (n : Int)) (hn.erase _) (fun x hx => by
    have h1 := h x (List.mem_of_mem_erase hx)
    have h2 : x ≠ (n : Int) := fun e => (hn.not_mem_erase) (e ▸ hx)
    omega)
   rw [List.length_erase_of_mem hm] at ih
   omega
  ·have ih := nodup_below n l hn (fun x hx => by
    have h1 := h x hx
    have h2 : x ≠ (n : Int) := fun e => hm (e ▸ hx)
    omega)
   omega
theorem keys_below {β : Type} {n : Nat} {F : List (Int × β)} (hn : NodupK F) (hF : ∀ q ∈ F, 0 ≤ q.1 ∧ q.1 < (n : Int)) : F.length ≤ n := by
 have := nodup_below n (F.map Prod.fst) hn (fun x hx => by obtain ⟨q, hq, rfl⟩ := List.mem_map.1 hx; exact hF q hq)
 rwa [List.length_map] at this
theorem mem_putL {β : Type} {x : Int} {v : β} : ∀ {L : List (Int × β)} {q : Int × β}, q ∈ putL x v L → q = (x, v) ∨ q ∈ L
 | [], q, h => by rw [putL, List.mem_singleton] at h; exact Or.inl h
 | p :: l, q, h => by
  unfold putL at h
  split at h
  ·rcases List.mem_cons.1 h with h | h
   ·exact Or.inl h
   ·exact Or.inr (List.mem_cons_of_mem _ h)
  ·rcases List.mem_cons.1 h with h | h
   ·exact Or.inr (h ▸ List.mem_cons_self)
   ·exact (mem_putL h).imp id (List.mem_cons_of_mem _)
theorem DevAt.putF {w w' : World} {i : DevIds} {xs : List ByteArray} {F F' : FL} {B : BL} {off : Bool} {fuse nw : Int} (h : DevAt w i xs F B off fuse nw) (hm : MapOf Tryd.prog 3 9 (Lit.int .i64) litS w' i.bf F') (ht : w.mapTurned w' i.bf) (hF : ∀ q ∈ F', 0 ≤ q.1 ∧ q.1 < (xs.length : Int) ∧ q.2.size = 512) :
  DevAt w' i xs F' B off fuse nw ∧ Step i.In w w' := by
 obtain ⟨n1, n2, n3, n4, n5, n6⟩ := h.ne
 obtain ⟨hd, hr, hf, hb, hn, o1, o2, o3, o4, o5, o6, o7, o8, o9⟩ := h
 have hs := step_turned ht
 refine ⟨⟨hs.block hd n2, ownsRow_step hs hr (fun g hg => by simp [Value.ownBlock] at hg; exact fun e => n4 (hg.trans e)), hm, hb.step hs (fun e => n6 e.symm), hn, o1, o2, o3, hF, o5, keys_below hm.nodup (fun q hq => ⟨(hF q hq).1, (hF q hq).2.1⟩), o7, o8, o9⟩, hs.mono (fun k hk => Or.inr (Or.inr (Or.inl hk)))⟩
theorem DevAt.putB {w w' : World} {i : DevIds} {xs : List ByteArray} {F : FL} {B B' : BL} {off : Bool} {fuse nw : Int} (h : DevAt w i xs F B off fuse nw) (hm : MapOf Tryd.prog 3 4 (Lit.int .i64) Lit.bool w' i.bb B') (ht : w.mapTurned w' i.bb) (hB : ∀ q ∈ B', 0 ≤ q.1 ∧ q.1 < (xs.length : Int) ∧ q.2 = true) :
  DevAt w' i xs F B' off fuse nw ∧ Step i.In w w' := by
 obtain ⟨n1, n2, n3, n4, n5, n6⟩ := h.ne
 obtain ⟨hd, hr, hf, hb, hn, o1, o2, o3, o4, o5, o6, o7, o8, o9⟩ := h
 have hs := step_turned ht
 refine ⟨⟨hs.block hd n3, ownsRow_step hs hr (fun g hg => by simp [Value.ownBlock] at hg; exact fun e => n5 (hg.trans e)), hf.step hs n6, hm, hn, o1, o2, o3, o4, hB, o6, keys_below hm.nodup (fun q hq => ⟨(hB q hq).1, (hB q hq).2.1⟩), o8, o9⟩, hs.mono (fun k hk => Or.inr (Or.inr (Or.inr hk)))⟩
set_option maxRecDepth 100000 in
set_option maxHeartbeats 2000000 in
theorem dev_Write_any (w : World) (i : DevIds) (xs : List ByteArray) (F : FL) (B : BL) (off : Bool) (fuse nw : Int) (at_ : Int) (s : ByteArray) (h : DevAt w i xs F B off fuse nw) :
  Calls Tryd.prog 58 #[.pointer (some ⟨i.d, 0, none⟩), .int .i64 at_, .string s] w fun e w' => e = .returned (.int .i64 (writeP xs.length F off fuse nw at_ s).2.2.2.2) ∧
   DevAt w' i xs (writeP xs.length F off fuse nw at_ s).1 B (writeP xs.length F off fuse nw at_ s).2.1 (writeP xs.length F off fuse nw at_ s).2.2.1 (writeP xs.length F off fuse nw at_ s).2.2.2.1 ∧ Step i.In w w' := by
 have hR := dev_reach_any w i xs F B off fuse nw at_ h
 have hBn := dev_burn_any w i xs F B off fuse nw h
 refine (callsIn_wide (n := 4)).1 ?_
 refine callsIn_of_wp_marks Tryd.func58 rfl trivial ?_ rfl
 simp only [Tryd.ntmps58, List.size_toArray, List.length_cons, List.length_nil, Nat.reduceAdd, Nat.reduceSub, Array.replicate_succ, Array.replicate_zero, List.push_toArray, List.append_toArray, List.nil_append, List.cons_append]
 unfold writeP
 generalize hr : reachP xs.length off at_ = r at *
 by_cases h0 : r ≠ 0
 ·have e0 : (r != 0) = true := by simpa using h0
  rw [if_pos h0]
  gi_wp2_with (refine ⟨trivial, ?_⟩; gi_at_call 108; refine (callsIn_wide.2 hR).mono ?_; rintro e w' ⟨rfl, rfl⟩)
  exact ⟨_, results_tmp rfl _ _ _, rfl, h, Step.refl _ _⟩
 ·have h00 : r = 0 := by simpa using h0
  subst h00
  rw [if_neg (by simp)]
  have hat : 0 ≤ at_ ∧ at_ < (xs.length : Int) := by
   unfold reachP at hr
   split at hr
   ·cases hr
   ·split at hr
    ·assumption
    ·cases hr
  by_cases h1 : s.size ≠ 512
  ·have e1 : ((s.size : Int) != 512) = true := bne_iff_ne.2 (by omega)
   rw [if_pos h1]
   gi_wp2_with (refine ⟨trivial, ?_⟩; gi_at_call 108; refine (callsIn_wide.2 hR).mono ?_; rintro e w' ⟨rfl, rfl⟩)
   exact ⟨_, results_tmp rfl _ _ _, rfl, h, Step.refl _ _⟩
  ·have e1 : ((s.size : Int) != 512) = false := by rw [bne_eq_false_iff_eq]; omega
   rw [if_neg h1]
   have h512 : s.size = 512 := by omega
   generalize hb : burnP off fuse = bu at *
   obtain ⟨off', fuse', why⟩ := bu
   simp only at *
   by_cases h2 : why ≠ 0
   ·have e2 : (why != 0) = true := by simpa using h2
    rw [if_pos h2]
    gi_wp2_with (first
     | (refine ⟨trivial, ?_⟩; gi_at_call 108; refine (callsIn_wide.2 hR).mono ?_; rintro e w' ⟨rfl, rfl⟩)
     | (refine ⟨trivial, ?_⟩; gi_at_call 59; refine (callsIn_wide.2 hBn).mono ?_; rintro e w1 ⟨rfl, h1, hs1⟩))
    exact ⟨_, results_tmp rfl _ _ _, rfl, h1, hs1⟩
   ·have h20 : why = 0 := by simpa using h2
    subst h20
    rw [if_neg (by simp)]
    gi_wp2_with (first
     | (refine ⟨trivial, ?_⟩; gi_at_call 108; refine (callsIn_wide.2 hR).mono ?_; rintro e w' ⟨rfl, rfl⟩)
     | (refine ⟨trivial, ?_⟩; gi_at_call 59; refine (callsIn_wide.2 hBn).mono ?_; rintro e w1 ⟨rfl, h1, hs1⟩; obtain ⟨_, _, _, _, _, c5⟩ := h1.cells; have f5 := h1.frozen 5; have h2 := h1.setWr (wrap64 (nw + 1)); obtain ⟨_, cm2, _⟩ := h2.cells; obtain ⟨w3, hrun, hm3, ht3⟩ := h2.2.2.1.store kitS (by have := h2.ok.2.1; have := h2.ok.2.2.2.2.2.1; unfold maxLen; omega) (wf_at h.ok.2.1 hat) (by unfold maxLen; omega : s.size ≤ maxLen)))
    obtain ⟨h3, hs3⟩ := h2.putF hm3 ht3 (fun q hq => by
     rcases mem_putL hq with rfl | hq
     ·exact ⟨hat.1, hat.2, by omega⟩
     ·exact h2.ok.2.2.2.1 q hq)
    exact ⟨_, results_tmp rfl _ _ _, rfl, h3, (hs1.trans (h1.stepD 5 _) (fun _ h => h) (fun _ h => Or.inl h)).trans hs3 (fun _ h => h) (fun _ h => Or.inl h)⟩
def readP (xs : List ByteArray) (F : FL) (B : BL) (off : Bool) (at_ : Int) : ByteArray × Int :=
 if reachP xs.length off at_ ≠ 0 then (⟨#[]⟩, reachP xs.length off at_) else match getL at_ F with
  | some s => (s, 0)
  | none => match getL at_ B with
   | some true => (⟨#[]⟩, 9)
   | _ => (xs.getD at_.toNat ⟨#[]⟩, 0)
theorem reach_ok {n : Nat} {off : Bool} {at_ : Int} (h : reachP n off at_ = 0) : off = false ∧ 0 ≤ at_ ∧ at_ < (n : Int) := by
 unfold reachP at h
 cases off
 ·refine ⟨rfl, ?_⟩
  rw [if_neg (by decide)] at h
  split at h
  ·assumption
  ·cases h
 ·cases h
set_option maxRecDepth 100000 in
set_option maxHeartbeats 2000000 in
theorem dev_Read_any (w : World) (i : DevIds) (xs : List ByteArray) (F : FL) (B : BL) (off : Bool) (fuse nw : Int) (at_ : Int) (h : DevAt w i xs F B off fuse nw) :
  Calls Tryd.prog 96 #[.pointer (some ⟨i.d, 0, none⟩), .int .i64 at_] w fun e w' => e = .returned (.tuple #[.string (readP xs F B off at_).1, .int .i64 (readP xs F B off at_).2]) ∧ Step (fun _ => False) w w' := by
 have hR := dev_reach_any w i xs F B off fuse nw at_ h
 refine (callsIn_wide (n := 4)).1 ?_
 refine callsIn_of_wp_marks Tryd.func96 rfl trivial ?_ rfl
 simp only [Tryd.ntmps96, List.size_toArray, List.length_cons, List.length_nil, Nat.reduceAdd, Nat.reduceSub, Array.replicate_succ, Array.replicate_zero, List.push_toArray, List.append_toArray, List.nil_append, List.cons_append]
 unfold readP
 generalize hr : reachP xs.length off at_ = r at *
 by_cases h0 : r ≠ 0
 ·have e0 : (r != 0) = true := by simpa using h0
  rw [if_pos h0]
  gi_wp2_with (refine ⟨trivial, ?_⟩; gi_at_call 108; refine (callsIn_wide.2 hR).mono ?_; rintro e w' ⟨rfl, rfl⟩)
  exact ⟨_, results_tmp2 rfl _ _ _, rfl, Step.refl _ _⟩
 ·have h00 : r = 0 := by simpa using h0
  subst h00
  rw [if_neg (by simp)]
  obtain ⟨_, hat⟩ := reach_ok hr
  obtain ⟨c0, c1, c2, _⟩ := h.cells
  cases hg : getL at_ F with
  | some s =>
   have hl := (h.2.2.1.look_hit kitS (wf_at h.ok.2.1 hat) hg).1
   gi_wp2_with (refine ⟨trivial, ?_⟩; gi_at_call 108; refine (callsIn_wide.2 hR).mono ?_; rintro e w' ⟨rfl, rfl⟩)
   exact ⟨_, results_tmp2 rfl _ _ _, rfl, Step.refl _ _⟩
  | none =>
   have hl := (h.2.2.1.look_miss kitS (wf_at h.ok.2.1 hat) hg).1
   cases hgb : getL at_ B with
   | some x =>
    have hx := (h.ok.2.2.2.2.1 _ (getL_mem hgb)).2.2
    simp only at hx
    subst hx
    have hlb := (h.2.2.2.1.look_hit kitB (wf_at h.ok.2.1 hat) hgb).2
    gi_wp2_with (refine ⟨trivial, ?_⟩; gi_at_call 108; refine (callsIn_wide.2 hR).mono ?_; rintro e w' ⟨rfl, rfl⟩)
    exact ⟨_, results_tmp2 rfl _ _ _, rfl, Step.refl _ _⟩
   | none =>
    have hlb := (h.2.2.2.1.look_miss kitB (wf_at h.ok.2.1 hat) hgb).2
    have hcl : w.cell? ⟨i.bs, at_.toNat, none⟩ = some (.string (xs.getD at_.toNat ⟨#[]⟩)) := ownsRow_cell h.2.1 (by
     rw [List.getElem?_map, List.getElem?_eq_getElem (by omega : at_.toNat < xs.length)]
     simp [List.getD, (by omega : at_.toNat < xs.length)])
    obtain ⟨hat1, hat2⟩ := hat
    gi_wp2_with (refine ⟨trivial, ?_⟩; gi_at_call 108; refine (callsIn_wide.2 hR).mono ?_; rintro e w' ⟨rfl, rfl⟩)
    exact ⟨_, results_tmp2 rfl _ _ _, rfl, Step.refl _ _⟩
theorem DevAt.setSure {w : World} {i : DevIds} {xs : List ByteArray} {F : FL} {B : BL} {off : Bool} {fuse nw : Int} (h : DevAt w i xs F B off fuse nw) (j : Nat) (s : ByteArray) (hs : s.size = 512) : DevAt (w.setCell ⟨i.bs, j, none⟩ (.string s)) i (xs.set j s) F B off fuse nw := by
 obtain ⟨n1, n2, n3, n4, n5, n6⟩ := h.ne
 obtain ⟨hd, hr, hf, hb, hn, o1, o2, o3, o4, o5, o6, o7, o8, o9⟩ := h
 have hst : Step (fun k => k = i.bs) w (w.setCell ⟨i.bs, j, none⟩ (.string s)) := Step.setCell w (p := ⟨i.bs, j, none⟩) (S := fun k => k = i.bs) rfl _
 refine ⟨by rw [List.length_set]; exact hst.block hd n1, ?_, hf.step hst (fun e => n4 e.symm), hb.step hst (fun e => n5 e.symm), hn, by rw [List.length_set]; exact o1, by rw [List.length_set]; exact o2, fun x hx => ?_, by rw [List.length_set]; exact o4, by rw [List.length_set]; exact o5, by rw [List.length_set]; exact o6, by rw [List.length_set]; exact o7, o8, o9⟩
 ·have := ownsRow_set hr j (.string s)
  rw [List.length_set, List.map_set]
  exact this
 ·rcases List.mem_or_eq_of_mem_set hx with h | h
  ·exact o3 x h
  ·exact h ▸ hs
theorem DevAt.row {w : World} {i : DevIds} {xs : List ByteArray} {F : FL} {B : BL} {off : Bool} {fuse nw : Int} (h : DevAt w i xs F B off fuse nw) {j : Nat} (hj : j < xs.length) : w.cell? ⟨i.bs, j, none⟩ = some (.string xs[j]) := ownsRow_cell h.2.1 (by rw [List.getElem?_map, List.getElem?_eq_getElem hj]; rfl)
theorem DevAt.rowFrozen {w : World} {i : DevIds} {xs : List ByteArray} {F : FL} {B : BL} {off : Bool} {fuse nw : Int} (h : DevAt w i xs F B off fuse nw) (j : Nat) : w.frozen? ⟨i.bs, j, none⟩ = false := ownsRow_frozen h.2.1 j
set_option maxRecDepth 100000 in
set_option maxHeartbeats 2000000 in
theorem dev_land_any (w : World) (i : DevIds) (xs : List ByteArray) (F : FL) (B : BL) (off : Bool) (fuse nw : Int) (at_ : Int) (s : ByteArray) (h : DevAt w i xs F B off fuse nw) (hg : getL at_ F = some s) :
  Calls Tryd.prog 60 #[.pointer (some ⟨i.d, 0, none⟩), .int .i64 at_] w fun e w' => e = .returned (.tuple #[]) ∧ DevAt w' i (xs.set at_.toNat s) F (delL at_ B) off fuse nw ∧ Step (fun k => k = i.bs ∨ k = i.bb) w w' := by
 obtain ⟨hq0, hq1, hq2⟩ := h.ok.2.2.2.1 _ (getL_mem hg)
 simp only at hq0 hq1 hq2
 obtain ⟨c0, c1, c2, _⟩ := h.cells
 have hwf := wf_at h.ok.2.1 ⟨hq0, hq1⟩
 have hl := (h.2.2.1.look_hit kitS hwf hg).2
 have hld : (Instr.lookup 107 (.map (some i.bf)) (.int .i64 at_) false).run Tryd.prog w.drew = .ok (.string s) w.drew := ((show MapOf Tryd.prog 3 9 (Lit.int .i64) litS w.drew i.bf F from h.2.2.1).look_hit kitS hwf hg).2
 have hrow := h.row (j := at_.toNat) (by omega)
 have hfr := h.rowFrozen at_.toNat
 refine (callsIn_wide (n := 4)).1 ?_
 refine callsIn_of_wp Tryd.func60 rfl trivial ?_ rfl
 simp only [Tryd.ntmps60, List.size_toArray, List.length_cons, List.length_nil, Nat.reduceAdd, Nat.reduceSub, Array.replicate_succ, Array.replicate_zero, List.push_toArray, List.append_toArray, List.nil_append, List.cons_append]
 have h2 : DevAt (w.setCell ⟨i.bs, at_.toNat, none⟩ (.string s)).drew i (xs.set at_.toNat s) F B off fuse nw := h.setSure at_.toNat s hq2
 have hs2 : Step (fun k => k = i.bs ∨ k = i.bb) w (w.setCell ⟨i.bs, at_.toNat, none⟩ (.string s)).drew := (Step.setCell w (p := ⟨i.bs, at_.toNat, none⟩) (S := fun k => k = i.bs ∨ k = i.bb) (Or.inl rfl) _).trans (Step.drew (fun k => k = i.bs ∨ k = i.bb) _) (fun _ h => h) (fun _ h => Or.inl h)
 obtain ⟨_, _, c22, _⟩ := h2.cells
 obtain ⟨w3, hrun, hm3, ht3⟩ := h2.2.2.2.1.drop kitB hwf 0
 obtain ⟨h3, _⟩ := h2.putB hm3 ht3 (fun q hq => h2.ok.2.2.2.2.1 q (mem_delL.1 hq).1)
 gi_wp2
 gi_region
 gi_wp2
 go_end0
 exact ⟨rfl, h3, hs2.trans (step_turned ht3) (fun _ h => h) (fun k hk => Or.inl (Or.inr hk))⟩
def landXs (xs : List ByteArray) (V : FL) : List ByteArray := (List.range xs.length).map fun j : Nat => (getL (j : Int) V).getD (xs.getD j ⟨#[]⟩)
def landB (B : BL) (V : FL) : BL := B.filter fun q => decide (q.1 ∉ V.map Prod.fst)
theorem landXs_nil (xs : List ByteArray) : landXs xs [] = xs := by
 unfold landXs
 refine List.ext_getElem? fun j => ?_
 by_cases h : j < xs.length
 ·simp [getL, List.getD, h]
 ·simp [h]
theorem landB_nil (B : BL) : landB B [] = B := List.filter_eq_self.2 (fun q _ => by simp)
theorem getL_snoc {β : Type} {x y : Int} {v : β} : ∀ {V : List (Int × β)}, y ∉ V.map Prod.fst → getL x (V ++ [(y, v)]) = if x = y then some v else getL x V
 | [], _ => by
  by_cases e : y = x
  ·subst e; simp [getL]
  ·simp [getL, e, Ne.symm e]
 | p :: l, h => by
  have ih := getL_snoc (x := x) (v := v) (V := l) (fun h' => h (by rw [List.map_cons]; exact List.mem_cons_of_mem _ h'))
  simp only [List.cons_append, getL, ih]
  by_cases e1 : p.1 = x
  ·have : x ≠ y := fun e => h (by rw [List.map_cons, e1, e]; exact List.mem_cons_self)
   simp [e1, this]
  ·simp [e1]
theorem landXs_snoc (xs : List ByteArray) (V : FL) (x : Int) (v : ByteArray) (h0 : 0 ≤ x) (h1 : x < xs.length) (hx : x ∉ V.map Prod.fst) : landXs xs (V ++ [(x, v)]) = (landXs xs V).set x.toNat v := by
 refine List.ext_getElem? fun j => ?_
 rw [List.getElem?_set]
 unfold landXs
 by_cases hj : j < xs.length
 ·simp only [List.getElem?_map, List.getElem?_range hj, Option.map_some, List.length_map, List.length_range, getL_snoc hx]
  by_cases e : x.toNat = j
  ·have e2 : (j : Int) = x := by omega
   simp [e, e2, hj]
  ·have e2 : (j : Int) ≠ x := by omega
   simp [e, e2]
 ·simp [hj]; omega
theorem landB_snoc (B : BL) (V : FL) (x : Int) (v : ByteArray) : landB B (V ++ [(x, v)]) = delL x (landB B V) := by
 rw [delL_filter]
 unfold landB
 rw [List.filter_filter]
 refine List.filter_congr fun q _ => ?_
 by_cases e : q.1 = x <;> simp [e]
theorem getL_perm {β : Type} {V V' : List (Int × β)} (hp : V.Perm V') (hn : NodupK V) (x : Int) : getL x V = getL x V' := by
 have hn' : NodupK V' := (hp.map Prod.fst).nodup_iff.1 hn
 cases h : getL x V with
 | none =>
  symm
  rw [getL_none] at h ⊢
  exact fun h' => h ((hp.map Prod.fst).mem_iff.2 h')
 | some v => exact (getL_of_mem hn' (hp.mem_iff.1 (getL_mem h))).symm
theorem landXs_perm {xs : List ByteArray} {V V' : FL} (hp : V.Perm V') (hn : NodupK V) : landXs xs V = landXs xs V' := by
 unfold landXs
 exact List.map_congr_left fun (j : Nat) _ => by rw [getL_perm hp hn]
theorem landB_perm {B : BL} {V V' : FL} (hp : V.Perm V') : landB B V = landB B V' := by
 unfold landB
 exact List.filter_congr fun q _ => by rw [decide_eq_decide, (hp.map Prod.fst).mem_iff]
def flushP (xs : List ByteArray) (F : FL) (B : BL) (off : Bool) (fuse : Int) : List ByteArray × FL × BL × Bool × Int × Int :=
 if off = true then (xs, F, B, true, fuse, 12) else if (burnP off fuse).2.2 ≠ 0 then (xs, F, B, (burnP off fuse).1, (burnP off fuse).2.1, (burnP off fuse).2.2) else (landXs xs F, [], landB B F, (burnP off fuse).1, (burnP off fuse).2.1, 0)
theorem perm_step {L pre rest : FL} {x : Int} {v : ByteArray} (h : (pre ++ rest).Perm L) (hn : NodupK rest) (hm : (x, v) ∈ rest) : (pre ++ [(x, v)] ++ delL x rest).Perm L :=
 (List.Perm.trans (by rw [List.append_assoc]; exact (delL_perm hn hm).symm.append_left pre) h)
set_option maxRecDepth 100000 in
set_option maxHeartbeats 2000000 in
theorem dev_Flush_any (w : World) (i : DevIds) (xs : List ByteArray) (F : FL) (B : BL) (off : Bool) (fuse nw : Int) (h : DevAt w i xs F B off fuse nw) :
  Calls Tryd.prog 18 #[.pointer (some ⟨i.d, 0, none⟩)] w fun e w' => ∃ xs' F' B' off' fuse' why, flushP xs F B off fuse = (xs', F', B', off', fuse', why) ∧ e = .returned (.int .i64 why) ∧ DevAt w' i xs' F' B' off' fuse' nw ∧ Step i.In w w' := by
 have hBn := dev_burn_any w i xs F B off fuse nw h
 obtain ⟨_, _, _, c3, _⟩ := h.cells
 refine (callsIn_wide (n := 4)).1 ?_
 refine callsIn_of_wp_marks Tryd.func18 rfl trivial ?_ rfl
 simp only [Tryd.ntmps18, List.size_toArray, List.length_cons, List.length_nil, Nat.reduceAdd, Nat.reduceSub, Array.replicate_succ, Array.replicate_zero, List.push_toArray, List.append_toArray, List.nil_append, List.cons_append]
 unfold flushP
 cases off
 ·rw [if_neg (by decide)]
  generalize hb : burnP false fuse = bu at *
  obtain ⟨off', fuse', why⟩ := bu
  simp only at *
  by_cases h2 : why ≠ 0
  ·have e2 : (why != 0) = true := by simpa using h2
   rw [if_pos h2]
   gi_wp2_with (refine ⟨trivial, ?_⟩; gi_at_call 59; refine (callsIn_wide.2 hBn).mono ?_; rintro e w1 ⟨rfl, h1, hs1⟩)
   exact ⟨_, results_tmp rfl _ _ _, _, _, _, _, _, _, rfl, rfl, h1, hs1⟩
  ·have h20 : why = 0 := by simpa using h2
   subst h20
   rw [if_neg (by simp)]
   gi_wp2
   refine ⟨trivial, ?_⟩
   gi_at_call 59
   refine (callsIn_wide.2 hBn).mono ?_
   rintro e w1 ⟨rfl, h1, hs1⟩
   obtain ⟨_, c1, _⟩ := h1.cells
   gi_wp2_with (gi_at_range; refine wpListIn_range _ rfl _ rfl kitS i.bf F rfl h1.2.2.1 ?_; intro w0 hrg hs0 hz0; go_frame)
   have hlt1 := h1.lt
   gi_loopg [4] F.length (fun kq _ wr_ => ∃ pre rest, rest.length = kq ∧ (pre ++ rest).Perm F ∧ Ranging Tryd.prog 3 9 (Lit.int .i64) litS wr_ i.bf w1.heap.size F rest ∧ DevAt wr_ i (landXs xs pre) F (landB B pre) off' fuse' nw ∧ Step i.In w1 wr_ ∧ w1.heap.size < wr_.heap.size)
   case atStart => exact ⟨[], F, rfl, List.Perm.refl _, hrg, by rw [landXs_nil, landB_nil]; exact h1.step hs0 (fun _ _ h => h), hs0.mono (fun _ h => h.elim), by omega⟩
   case round =>
    obtain ⟨pre, rest, hlen, hperm, hrg, hD, hst, hszr⟩ := hrel
    gi_wp2_with (gi_at_next; refine wpListIn_next _ rfl _ rfl kitS i.bf w1.heap.size _ rest rfl hrg ?_ ?_)
    ·intro h0
     subst h0
     rw [List.append_nil] at hperm
     have hnp : NodupK pre := (hperm.map Prod.fst).nodup_iff.2 h1.2.2.1.nodup
     rw [landXs_perm hperm hnp, landB_perm hperm] at hD
     obtain ⟨_, c9, _⟩ := hD.cells
     obtain ⟨w3, hrun, hm3, ht3⟩ := hD.2.2.1.clear kitS 0
     obtain ⟨h3, hs3⟩ := hD.putF hm3 ht3 (fun q hq => by cases hq)
     gi_wp2
     exact ⟨_, results_tmp rfl _ _ _, _, _, _, _, _, _, rfl, rfl, h3, (hs1.trans hst (fun _ h => h) (fun _ h => Or.inl h)).trans hs3 (fun _ h => h) (fun _ h => Or.inl h)⟩
    ·intro x v w2 hx hmem hrg1 hs2 hz1 hen
     have hst2 := perm_step hperm hrg.nodupR hmem
     have hln := delL_length hrg.nodupR hmem
     have hnF : NodupK (pre ++ rest) := (hperm.map Prod.fst).nodup_iff.2 h1.2.2.1.nodup
     have hxp : x ∉ pre.map Prod.fst := fun hh => by
      unfold NodupK at hnF
      rw [List.map_append, List.nodup_append] at hnF
      exact hnF.2.2 x hh x (List.mem_map.2 ⟨_, hmem, rfl⟩) rfl
     have hxF : (x, v) ∈ F := hrg.sub _ hmem
     obtain ⟨q0, q1, q2⟩ := h1.ok.2.2.2.1 _ hxF
     have hD2 := hD.step hs2 (fun k hk e => by have := hlt1 k hk; omega)
     have hL := dev_land_any w2 i (landXs xs pre) F (landB B pre) off' fuse' nw x v hD2 (getL_of_mem h1.2.2.1.nodup hxF)
     gi_wp2_with (refine ⟨trivial, ?_⟩; gi_at_call 60; refine (callsIn_wide.2 hL).mono ?_; rintro e w3 ⟨rfl, h3, hs3⟩)
     obtain ⟨m1, m2, m3, m4, m5, m6⟩ := h1.ne
     have hw1bs := hlt1 i.bs (Or.inr (Or.inl rfl))
     have hw1bb := hlt1 i.bb (Or.inr (Or.inr (Or.inr rfl)))
     have hrg3 := hrg1.step hs3 (fun h => h.elim (fun e => m4 e.symm) (fun e => m6 e)) (fun h => by omega)
     gi_roundg ((delL x rest).length)
     case rel => exact ⟨pre ++ [(x, v)], delL x rest, rfl, hst2, hrg3, by rw [landXs_snoc xs pre x v q0 q1 hxp, landB_snoc]; exact h3, (hst.trans hs2 (fun _ h => h) (fun k hk => Or.inr (by omega))).trans hs3 (fun _ h => h) (fun k hk => Or.inl (hk.elim (fun e => Or.inr (Or.inl e)) (fun e => Or.inr (Or.inr (Or.inr e))))), by have := hs3.size; omega⟩
     case measure => omega
 ·rw [if_pos rfl]
  gi_wp2
  exact ⟨_, results_tmp rfl _ _ _, xs, F, B, true, fuse, 12, rfl, rfl, h, Step.refl _ _⟩
theorem dev_Writes_any (w : World) (i : DevIds) (xs : List ByteArray) (F : FL) (B : BL) (off : Bool) (fuse nw : Int) (h : DevAt w i xs F B off fuse nw) :
  Calls Tryd.prog 42 #[.pointer (some ⟨i.d, 0, none⟩)] w fun e w' => e = .returned (.int .i64 nw) ∧ w' = w := by
 obtain ⟨_, _, _, _, _, c5⟩ := h.cells
 go_enter Tryd.func42, Tryd.ntmps42
 go_wp2
 go_ret
 exact ⟨rfl, rfl⟩
def eraseP (n : Nat) (B : BL) (at_ : Int) : BL × Int := if 0 ≤ at_ ∧ at_ < n then (putL at_ true B, 0) else (B, 1)
theorem dev_Erase_any (w : World) (i : DevIds) (xs : List ByteArray) (F : FL) (B : BL) (off : Bool) (fuse nw : Int) (at_ : Int) (h : DevAt w i xs F B off fuse nw) :
  Calls Tryd.prog 20 #[.pointer (some ⟨i.d, 0, none⟩), .int .i64 at_] w fun e w' => e = .returned (.int .i64 (eraseP xs.length B at_).2) ∧ DevAt w' i xs F (eraseP xs.length B at_).1 off fuse nw ∧ Step i.In w w' := by
 have hh := dev_has_any w i xs F B off fuse nw at_ h
 obtain ⟨_, _, c2, _⟩ := h.cells
 refine (callsIn_wide (n := 4)).1 ?_
 refine callsIn_of_wp_marks Tryd.func20 rfl trivial ?_ rfl
 simp only [Tryd.ntmps20, List.size_toArray, List.length_cons, List.length_nil, Nat.reduceAdd, Nat.reduceSub, Array.replicate_succ, Array.replicate_zero, List.push_toArray, List.append_toArray, List.nil_append, List.cons_append]
 unfold eraseP
 by_cases h2 : 0 ≤ at_ ∧ at_ < (xs.length : Int)
 ·rw [decide_eq_true h2] at hh
  rw [if_pos h2]
  obtain ⟨w3, hrun, hm3, ht3⟩ := h.2.2.2.1.store kitB (by have := h.ok.2.1; have := h.ok.2.2.2.2.2.2.1; unfold maxLen; omega) (wf_at h.ok.2.1 h2) (v := true) trivial
  obtain ⟨h3, hs3⟩ := h.putB hm3 ht3 (fun q hq => by
   rcases mem_putL hq with rfl | hq
   ·exact ⟨h2.1, h2.2, rfl⟩
   ·exact h.ok.2.2.2.2.1 q hq)
  gi_wp2_with (refine ⟨trivial, ?_⟩; gi_at_call 67; refine (callsIn_wide.2 hh).mono ?_; rintro e w' ⟨rfl, rfl⟩)
  exact ⟨_, results_tmp rfl _ _ _, rfl, h3, hs3⟩
 ·rw [decide_eq_false h2] at hh
  rw [if_neg h2]
  gi_wp2_with (refine ⟨trivial, ?_⟩; gi_at_call 67; refine (callsIn_wide.2 hh).mono ?_; rintro e w' ⟨rfl, rfl⟩)
  exact ⟨_, results_tmp rfl _ _ _, rfl, h, Step.refl _ _⟩
def StrRow (w : World) (base g cap : Nat) (xs : List ByteArray) : Prop := w.ownsRow base 9 1 (.slice (some ⟨g, 0, none⟩) xs.length cap) xs.length (xs.map Value.string)
theorem dev_of_any (w : World) (g cap : Nat) (xs : List ByteArray) (h : StrRow w 0 g cap xs) (h1 : 1 ≤ xs.length) (h2 : xs.length ≤ 32768) (hx : ∀ x ∈ xs, x.size = 512) :
  Calls Tryd.prog 56 #[.slice (some ⟨g, 0, none⟩) xs.length cap] w fun e w' => ∃ i, e = .returned (.pointer (some ⟨i.d, 0, none⟩)) ∧ DevAt w' i xs [] [] false (-1) 0 ∧ i.bs = g ∧ i.cap = cap ∧ w.heap.size ≤ i.d ∧ w.heap.size ≤ i.bf ∧ w.heap.size ≤ i.bb ∧ Below w.heap.size w w' := by
 have hmm := @run_makeMap Tryd.prog
 go_enter Tryd.func56, Tryd.ntmps56
 go_wp2
 go_ret
 have hB1 : Below w.heap.size w (w.alloc (.map #[] 0)) := (Below.refl _ w).alloc (Nat.le_refl _) _
 have hB2 : Below w.heap.size w ((w.alloc (.map #[] 0)).alloc (.map #[] 0)) := hB1.alloc (by simp) _
 have hn := World.alloc_heap_new ((w.alloc (.map #[] 0)).alloc (.map #[] 0)) (.cells #[.slice (some ⟨g, 0, none⟩) xs.length cap, .map (some w.heap.size), .map (some (w.heap.size + 1)), .bool false, .int .i64 (-1), .int .i64 0] 110)
 have hB3 := hB2.alloc (by simp; omega) (.cells #[.slice (some ⟨g, 0, none⟩) xs.length cap, .map (some w.heap.size), .map (some (w.heap.size + 1)), .bool false, .int .i64 (-1), .int .i64 0] 110)
 rw [World.size_alloc, World.size_alloc] at hn
 have hmF := MapOf.made (α := Int) (β := ByteArray) w Tryd.prog 3 9 (Lit.int .i64) litS
 have hmB := MapOf.made (α := Int) (β := Bool) (w.alloc (.map #[] 0)) Tryd.prog 3 4 (Lit.int .i64) Lit.bool
 rw [World.size_alloc] at hmB
 refine ⟨⟨w.heap.size + 2, g, cap, w.heap.size, w.heap.size + 1⟩, rfl, ⟨hn, pw_own_below h hB3, ?_, ?_, ?_, h1, h2, hx, by simp, by simp, by simp, by simp, by decide, by decide⟩, rfl, rfl, Nat.le_add_right _ _, Nat.le_refl _, Nat.le_add_right _ _, hB3⟩
 ·exact (hmF.step (Step.alloc (fun _ => False) _ _) (fun h => h)).step (Step.alloc (fun _ => False) _ _) (fun h => h)
 ·exact hmB.step (Step.alloc (fun _ => False) _ _) (fun h => h)
 ·show w.heap.size ≠ w.heap.size + 1; omega
theorem and32 (n : Int) (h0 : 0 ≤ n) (h1 : n < 4294967296) : Go.bits .and .u64 n 4294967295 = n := by
 have h := bits_and_u64_nat n.toNat 4294967295 (by omega) (by omega)
 rw [show ((n.toNat : Nat) : Int) = n by omega] at h
 have h2 : n.toNat &&& 4294967295 = n.toNat := by
  rw [show (4294967295 : Nat) = 2 ^ 32 - 1 by decide, Nat.and_two_pow_sub_one_eq_mod]
  exact Nat.mod_eq_of_lt (by omega)
 rw [h2] at h
 exact h.trans (by omega)
theorem mul_small (n : Int) (h0 : 1 ≤ n) (h1 : n ≤ 32768) : bits_Mul.f 1 n = some (0, n) := by
 unfold bits_Mul.f bits_Mul64.f
 rw [and32 n (by omega) (by omega), and32 1 (by omega) (by omega)]
 simp only [IntKind.wrap_u64, Option.bind_some]
 have hz : n / 4294967296 = 0 := by omega
 rw [hz]
 rw [show (1 : Int) / 4294967296 = 0 by decide]
 simp only [Int.zero_mul, Int.mul_zero, Int.one_mul, Int.zero_add, Int.add_zero]
 rw [Int.emod_eq_of_lt (a := n) (by omega) (by omega), hz]
 simp [Go.bits]
 decide
theorem info9P : (Tryd.prog.info? 9).map (fun i => (i.zero, i.size, i.bytes)) = some (some (.string ByteArray.empty), 1, 16) := by kernel_rfl
def RepAt (w : World) (g N k : Nat) (s : ByteArray) : Prop := w.heap[g]? = some (.cells ((List.replicate k s ++ List.replicate (N - k) ByteArray.empty).map Value.string).toArray 9 (0, 0))
theorem RepAt.cell {w : World} {g N k : Nat} {s : ByteArray} (h : RepAt w g N k s) {j : Nat} (hj : j < k) : w.cell? ⟨g, j, none⟩ = some (.string s) := by
 unfold RepAt at h
 simp only [World.cell?, h]
 simp [hj, List.getElem?_append, List.getElem?_replicate]
theorem info9M : (Tryd.prog.info? 9).map (·.size) = some 1 := by kernel_rfl
set_option maxRecDepth 100000 in
theorem rep_copy {w : World} {g N k : Nat} {s : ByteArray} (h : RepAt w g N k s) (j m : Nat) (hj : j = Nat.min m (N - k)) (hk : k ≤ N) (ad : Addr) (c1 c2 : Nat) (hs : ∀ i, i < j → w.cell? (ad.add i) = some (.string s)) :
  ∃ w', (Builtin.copy_ #[104, 104] 3 #[.slice (some ⟨g, k, none⟩) (N - k) c1, .slice (some ad) m c2]).run Tryd.prog w = .ok (.int .i64 j) w' ∧ RepAt w' g N (k + j) s ∧ ∀ B w0, Below B w0 w → B ≤ g → Below B w0 w' := by
 have hr := run_copy_row (P := Tryd.prog) w 104 104 3 9 g k (N - k) c1 ad m c2 _ 9 (List.replicate j (Value.string s)) Tryd.underlying104 info9M h (by simpa using hj)
  (fun i v hi => by
   obtain ⟨hl, rfl⟩ := List.getElem?_eq_some_iff.1 hi
   rw [List.getElem_replicate]
   exact hs i (by simpa using hl)) (by have : j ≤ N - k := hj ▸ Nat.min_le_right _ _; simp; omega) (fun v hv => by rw [List.eq_of_mem_replicate hv]; rfl)
 rw [List.length_replicate] at hr
 refine ⟨_, hr, ?_, fun B w0 hb hB => below_setRow hb hB _⟩
 unfold RepAt
 rw [setRow_heap w g _ _ 9 (0, 0) h]
 have hjl : j ≤ N - k := hj ▸ Nat.min_le_right _ _
 congr 3
 simp only [List.map_append, List.map_replicate]
 rw [List.take_append_of_le_length (by simp), List.take_of_length_le (by simp), List.drop_append, List.drop_of_length_le (by simp), List.nil_append, List.length_replicate, List.drop_replicate, List.replicate_append_replicate]
 congr 2
 omega
set_option maxRecDepth 100000 in
theorem slices_Repeat_any (w : World) (A c : Nat) (s : ByteArray) (n : Int) (h1 : 1 ≤ n) (h2 : n ≤ 32768) (hc : w.cell? ⟨A, 0, none⟩ = some (.string s)) :
  Calls Tryd.prog 57 #[.slice (some ⟨A, 0, none⟩) 1 c, .int .i64 n] w fun e w' => ∃ g cap, e = .returned (.slice (some ⟨g, 0, none⟩) n.toNat cap) ∧ StrRow w' w.heap.size g cap (List.replicate n.toNat s) ∧ Below w.heap.size w w' := by
 have hw1 : IntKind.u64.wrap n = n := by rw [IntKind.wrap_u64]; omega
 have hw2 : wrap64 n = n := by unfold wrap64; omega
 have hM := bits_Mul.calls 1 n 0 n w (mul_small n h1 h2)
 refine (callsIn_wide (n := 4)).1 ?_
 refine callsIn_of_wp Tryd.func57 rfl trivial ?_ rfl
 simp only [Tryd.ntmps57, List.size_toArray, List.length_cons, List.length_nil, Nat.reduceAdd, Nat.reduceSub, Array.replicate_succ, Array.replicate_zero, List.push_toArray, List.append_toArray, List.nil_append, List.cons_append]
 gi_wp2
 refine ⟨trivial, ?_⟩
 gi_at_call 107
 refine (callsIn_wide.2 hM).mono ?_
 rintro e w1 ⟨rfl, hd⟩
 have hB1 := hd.below
 obtain ⟨N, hN⟩ : ∃ N : Nat, (N : Int) = n := ⟨n.toNat, by omega⟩
 subst hN
 obtain ⟨ii, hi, hz⟩ := Option.map_eq_some_iff.1 info9P
 simp only [Prod.mk.injEq] at hz
 obtain ⟨hz0, hz1, hz2⟩ := hz
 have hr := run_make (P := Tryd.prog) w1 104 9 ii _ Tryd.underlying104 hi hz0 .i64 .i64 N N (by omega) (Int.le_refl _) (by rw [hz2]; omega) (by omega)
 simp only [Int.toNat_natCast, hz1, Nat.mul_one] at hr
 obtain ⟨W, hW⟩ : ∃ W, W = w1.alloc (.cells (madeCells (Value.string ByteArray.empty).cells N) 9) := ⟨_, rfl⟩
 rw [← hW] at hr
 have hBW : Below w.heap.size w W := by rw [hW]; exact hB1.alloc hB1.size _
 have hg : w.heap.size ≤ w1.heap.size := hB1.size
 have hnW : RepAt W w1.heap.size N 0 s := by
  unfold RepAt
  rw [hW, World.alloc_heap_new]
  congr 2
  apply Array.ext'
  simp [madeCells, Value.cells, Nat.mod_one]
  rw [List.map_const', List.length_range]
 have hcW : W.cell? ⟨A, 0, none⟩ = some (.string s) := (Step.of_below (S := fun _ => False) hBW).cell hc (fun h => h)
 obtain ⟨W2, hrun, hR2, hB2⟩ := rep_copy hnW 1 1 (by show 1 = Nat.min 1 (N - 0); rw [Nat.sub_zero]; exact (Nat.min_eq_left (by omega)).symm) (Nat.zero_le _) ⟨A, 0, none⟩ N c (fun i hi => by (have e0 : i = 0 := by omega); rw [e0]; exact hcW)
 replace hB2 := hB2 w.heap.size w hBW hg
 rw [Nat.sub_zero] at hrun
 clear hW
 obtain ⟨g, eg⟩ : ∃ g, g = w1.heap.size := ⟨_, rfl⟩
 rw [← eg] at hr hrun hR2 hg
 clear eg hnW
 gi_wp2
 rw [Nat.zero_add] at hR2
 gi_loopw [8] (fun t8 wr => ∃ k : Nat, 1 ≤ k ∧ k ≤ N ∧ t8 = .int .i64 k ∧ RepAt wr g N k s ∧ Below w.heap.size w wr) (fun t8 _ => N - (intOf t8).toNat)
 case atStart => exact ⟨1, Nat.le_refl _, by omega, rfl, hR2, hB2⟩
 case round =>
  obtain ⟨k, hk1, hkN, rfl, hR, hB⟩ := hrel
  by_cases hlt : k < N
  ·obtain ⟨j, hj⟩ : ∃ j, j = Nat.min k (N - k) := ⟨_, rfl⟩
   have hj1 : j ≤ N - k := hj ▸ Nat.min_le_right _ _
   have hj0 : 1 ≤ j := by rw [hj]; exact Nat.le_min.2 ⟨hk1, by omega⟩
   have hjk : j ≤ k := hj ▸ Nat.min_le_left _ _
   obtain ⟨W3, hrun3, hR3, hB3⟩ := rep_copy (show RepAt wr.drew g N k s from hR) j k hj hkN ⟨g, 0, none⟩ (N - k) N (fun i hi => by rw [show (⟨g, 0, none⟩ : Addr).add i = ⟨g, i, none⟩ by unfold Addr.add; simp; intro h; exact h.symm]; exact (show RepAt wr.drew g N k s from hR).cell (by omega))
   have hwj1 : (k : Int) + j ≤ 32768 := by omega
   have hwj0 : 0 ≤ (k : Int) + j := by omega
   clear hj hjk hw1 hw2 hi hz0 hz1 hz2
   gi_wp2
   gi_region
   gi_wp2
   go_roundw
   case rel => exact ⟨k + j, by omega, by omega, by simp, hR3, hB3 w.heap.size w (pw_below_drewN hB 1) hg⟩
   case measure => simp [intOf]; omega
  ·have ek : k = N := by omega
   subst ek
   gi_wp2
   go_ret
   refine ⟨g, k, rfl, ?_, hB⟩
   rw [RepAt, Nat.sub_self] at hR
   rw [StrRow, List.length_replicate]
   refine ⟨by simp, Or.inr ⟨g, k, _, rfl, hg, hR, Nat.le_refl _, by unfold maxLen; omega, by simp, by simp⟩⟩
def zeroS : ByteArray := strOfNums (List.replicate 512 0)
theorem zeroS_size : zeroS.size = 512 := by rw [zeroS, strOfNums_size, List.length_replicate]
theorem zc88 (j : Nat) (hj : j < 512) : Tryd.zeroCells102[j]? = some (Value.int .u8 0) := by
 have : Tryd.zeroCells102 = (List.replicate 512 (Value.int .u8 0)).toArray := by kernel_rfl
 rw [this, List.getElem?_toArray, List.getElem?_replicate, if_pos hj]
theorem conv_zero {W : World} {g : Nat} (h : W.heap[g]? = some (.cells Tryd.zeroCells102 102 (0, 0))) : (convert 95 9 (.slice (some ⟨g, 0, none⟩) 512 512)).run Tryd.prog W = .ok (.string zeroS) W :=
 run_convert_bytes_arg (P := Tryd.prog) W 95 5 Tryd.underlying95 (by kernel_rfl) g 0 512 512 (List.replicate 512 0) (List.length_replicate ..) (fun j hj => by
  simp only [World.cell?, h, Nat.zero_add]
  rw [zc88 j hj, List.getD_eq_getElem?_getD, List.getElem?_replicate, if_pos hj]; rfl) 9 Tryd.underlying9
set_option maxRecDepth 100000 in
theorem dev_New_any (w : World) (n : Int) (h1 : 1 ≤ n) (h2 : n ≤ 32768) :
  Calls Tryd.prog 16 #[.int .i64 n] w fun e w' => ∃ i, e = .returned (.tuple #[.pointer (some ⟨i.d, 0, none⟩), .int .i64 0]) ∧ DevAt w' i (List.replicate n.toNat zeroS) [] [] false (-1) 0 ∧ (∀ k, i.In k → w.heap.size ≤ k) ∧ Below w.heap.size w w' := by
 have hcz := conv_zero (World.alloc_heap_new w (.cells Tryd.zeroCells102 102))
 refine (callsIn_wide (n := 4)).1 ?_
 refine callsIn_of_wp_marks Tryd.func16 rfl trivial ?_ rfl
 simp only [Tryd.ntmps16, List.size_toArray, List.length_cons, List.length_nil, Nat.reduceAdd, Nat.reduceSub, Array.replicate_succ, Array.replicate_zero, List.push_toArray, List.append_toArray, List.nil_append, List.cons_append]
 gi_wp2
 refine ⟨trivial, ?_⟩
 have hc := World.alloc_heap_new (w.alloc (.cells Tryd.zeroCells102 102)) (.cells #[.string zeroS] 9)
 rw [World.size_alloc] at hc
 have hcc : ((w.alloc (.cells Tryd.zeroCells102 102)).alloc (.cells #[.string zeroS] 9)).cell? ⟨w.heap.size + 1, 0, none⟩ = some (.string zeroS) := by simp only [World.cell?, hc]; rfl
 have hR := slices_Repeat_any _ (w.heap.size + 1) 1 zeroS n h1 h2 hcc
 gi_at_call 57
 refine (callsIn_wide.2 hR).mono ?_
 rintro e w1 ⟨g, cap, rfl, hrow, hB1⟩
 have hrow0 : StrRow w1 0 g cap (List.replicate n.toNat zeroS) := own_weaken hrow (Nat.zero_le _)
 have hgb := own_base hrow g rfl
 have hO := dev_of_any w1 g cap _ hrow0 (by rw [List.length_replicate]; omega) (by rw [List.length_replicate]; omega) (fun x hx => by rw [List.eq_of_mem_replicate hx]; exact zeroS_size)
 rw [List.length_replicate] at hO
 gi_wp2
 refine ⟨trivial, ?_⟩
 gi_at_call 56
 refine (callsIn_wide.2 hO).mono ?_
 rintro e w2 ⟨i, rfl, hD, ebs, ecap, p1, p2, p3, hB2⟩
 gi_wp2
 have hz1 := hB1.size
 simp only [World.size_alloc] at hgb hz1 hB1
 refine ⟨_, results_tmp2 rfl _ _ _, i, rfl, hD, fun k hk => ?_, ?_⟩
 ·rcases hk with rfl | rfl | rfl | rfl <;> omega
 ·exact (((Below.refl _ w).alloc (Nat.le_refl _) _).alloc (by simp) _).trans ((hB1.mono (by omega)).trans (hB2.mono (by omega)))
theorem blk_setF {w : World} {g : Nat} {t : TypeId} {cs : Array Value} {fr : Nat × Nat} (h : w.heap[g]? = some (.cells cs t fr)) (i : Nat) (u : Value) : (w.setCell ⟨g, i, none⟩ u).heap[g]? = some (.cells (cs.setIfInBounds i u) t fr) := by
 simp [World.setCell, Array.getElem?_modify, h]
def GAt (w : World) (g : Nat) (ys : List Int) : Prop := ∃ (rest : List Value) (N : Nat), ys.length ≤ N ∧ w.heap[g]? = some (.cells (ys.map (Value.int .u8) ++ rest).toArray 5 (N, N + 1))
theorem GAt.cell {w : World} {g : Nat} {ys : List Int} (h : GAt w g ys) {j : Nat} (hj : j < ys.length) : w.cell? ⟨g, j, none⟩ = some (.int .u8 (ys.getD j 0)) := by
 obtain ⟨rest, N, _, h⟩ := h
 simp only [World.cell?, h]
 simp [hj, List.getElem?_append]
theorem GAt.frozen {w : World} {g : Nat} {ys : List Int} (h : GAt w g ys) {j : Nat} (hj : j < ys.length) : w.frozen? ⟨g, j, none⟩ = false := by
 obtain ⟨rest, N, hN, h⟩ := h
 simp [World.frozen?, h]
 omega
theorem GAt.set {w : World} {g : Nat} {ys : List Int} (h : GAt w g ys) {j : Nat} (hj : j < ys.length) (x : Int) : GAt (w.setCell ⟨g, j, none⟩ (.int .u8 x)) g (ys.set j x) := by
 obtain ⟨rest, N, hN, h⟩ := h
 refine ⟨rest, N, by simpa using hN, ?_⟩
 have hg := blk_setF h j (.int .u8 x)
 rw [hg]
 congr 2
 apply Array.ext'
 simp only [Array.toList_setIfInBounds, List.map_set]
 rw [List.set_append_left _ _ (by simpa using hj)]
theorem GAt.made (w : World) (s : ByteArray) : GAt (Lib.bytesWorld w 5 s) w.heap.size (bytesOf s) := by
 have h := Lib.bytesWorld_at_new w 5 s
 refine ⟨List.replicate (grownCap w s.size 0 5 - s.size) (.int .u8 0), (Lib.bytesCells w 5 s).size, ?_, ?_⟩
 ·rw [bytesOf_length]; simp only [Lib.bytesCells, Array.size_append, Array.size_map]; exact Nat.le_add_right _ _
 ·rw [h]
  congr 2
  apply Array.ext'
  simp [Lib.bytesCells, bytesOf]
theorem sizeBld : (Tryd.prog.info? 158).map (·.size) = some 2 := by kernel_rfl
set_option maxRecDepth 100000 in
theorem copyCheck_used (b : Nat) (w : World) (h0 : w.cell? ⟨b, 0, none⟩ = some (.pointer (some ⟨b, 0, none⟩))) :
  Calls Tryd.prog 130 #[.pointer (some ⟨b, 0, none⟩)] w fun e w' => e = .returned (.tuple #[]) ∧ w' = w := by
 obtain ⟨j, hj, _⟩ := Option.map_eq_some_iff.1 sizeBld
 go_enter Tryd.func130, Tryd.ntmps130
 go_wp2
 rw [Lib.run_neq_ptr_same w _ Tryd.underlying156 hj]
 go_wp2
 go_end0
 exact ⟨rfl, rfl⟩
set_option maxRecDepth 100000 in
theorem copyCheck_fresh (b : Nat) (w : World) (h0 : w.cell? ⟨b, 0, none⟩ = some (.pointer none)) (hsh : w.shape? b = some (158, 2)) (hfz : w.frozen? ⟨b, 0, none⟩ = false) :
  Calls Tryd.prog 130 #[.pointer (some ⟨b, 0, none⟩)] w fun e w' => e = .returned (.tuple #[]) ∧ w' = w.setCell ⟨b, 0, none⟩ (.pointer (some ⟨b, 0, none⟩)) := by
 obtain ⟨j, hj, hjs⟩ := Option.map_eq_some_iff.1 sizeBld
 go_enter Tryd.func130, Tryd.ntmps130
 go_wp2
 rw [Lib.run_to_unsafe w ⟨b, 0, none⟩ Tryd.underlying156 Tryd.underlying202 hj (by rw [hjs]; decide) hsh (Nat.zero_lt_succ 1)]
 simp only [Result.andThen]
 rw [Oper.upon_value]
 go_wp2
 rw [run_callFunc_extern Tryd.func143 (by kernel_rfl) (by kernel_rfl) (by kernel_rfl) (e := Extern.AbiNoEscape.same) (by kernel_rfl)]
 rw [Lib.run_noEscape]
 simp only [Result.andThen]
 rw [Oper.upon_value]
 go_wp2
 rw [Lib.run_from_unsafe w ⟨b, 0, none⟩ Tryd.underlying202 Tryd.underlying156 hj hsh Tryd.Builder_Extra_169.liesBuilder]
 simp only [Result.andThen]
 rw [Oper.upon_value]
 go_wp2
 go_end0
 exact ⟨rfl, rfl⟩
theorem append_str_at {w : World} {base : Nat} {v : Value} {n : Nat} {xs : List Value} (hown : w.ownsRowF base 5 1 v n xs) (s : ByteArray) (hb : n + s.size ≤ 140737488355328) (hbase : base ≤ w.heap.size) :
  ∃ v' w', (Builtin.append_ #[95, 9] 95 #[v, .string s]).run Tryd.prog w = .ok v' w' ∧ w'.ownsRowF base 5 1 v' (n + s.size) (xs ++ Lib.strCells s) ∧ w.grownBy w' v.ownBlock ∧ (∀ q, v'.ownBlock = some q → v.ownBlock = some q ∨ w.heap.size ≤ q) := by
 obtain ⟨i0, hi, hz0, hz1, hz2⟩ := info_parts Tryd.Builder_Extra_169.infoByte
 have h63 : n + s.size ≤ maxLen := by unfold maxLen; omega
 rcases hown.2 with ⟨rfl, rfl⟩ | ⟨g, cap, cur, fz, rfl, hbg, hg, hfz, hnc, hcm, hcs, htake⟩
 ·have hx0 : xs = [] := List.eq_nil_of_length_eq_zero (by simpa using hown.1)
  subst hx0
  obtain ⟨v', w', h1, h2, h3, _⟩ := Lib.run_append_own_stringF (P := Tryd.prog) (w := w) w.heap.size 95 9 95 5 i0 Tryd.underlying95 Tryd.underlying9 hi hz0 hz1 hz2 (.slice none 0 0) 0 [] (World.ownsRowF_nil _ _ _ _) s h63 hb (Nat.le_refl _)
  refine ⟨v', w', h1, ?_, h3, fun q hq => Or.inr (h2.lt q hq).1⟩
  refine ⟨h2.1, h2.2.imp id ?_⟩
  rintro ⟨g, cap, cur, fz, e, h4, h5⟩
  exact ⟨g, cap, cur, fz, e, by omega, h5⟩
 ·obtain ⟨v', w', h1, h2, h3, _⟩ := Lib.run_append_own_stringF (P := Tryd.prog) (w := w) base 95 9 95 5 i0 Tryd.underlying95 Tryd.underlying9 hi hz0 hz1 hz2 _ n xs hown s h63 hb hbase
  refine ⟨v', w', h1, h2, h3, fun q hq => ?_⟩
  have hcs' : cur.size = cap := by simpa using hcs
  by_cases hroom : n + s.size ≤ cap
  ·have hr := Lib.run_append_room_stringF (P := Tryd.prog) w 95 9 95 5 i0 Tryd.underlying95 Tryd.underlying9 hi hz1 g n cap cur fz hg (by simpa using hfz) s hroom (by omega)
   rw [h1] at hr
   injection hr with e1 e2
   subst e1
   exact Or.inl hq
  ·have hxl : xs.length = n := by simpa using hown.1
   have hr := Lib.run_append_grow_string (P := Tryd.prog) w 95 9 95 5 i0 (.int .u8 0) Tryd.underlying95 Tryd.underlying9 hi hz0 ⟨g, 0, none⟩ n cap xs (by rw [hz1]; simpa using hxl) (hown.cells (g := g) rfl) s (by unfold maxLen at h63; omega) (by omega) (by rw [hz2]; exact growslice_fits (by omega) (by omega))
   rw [h1] at hr
   injection hr with e1 e2
   subst e1
   right
   simp [Value.ownBlock] at hq
   omega
theorem wpList_append_str_at {w : World} {ops : Array Oper} {rest : List Oper} {o : Oper} {a : Act} {Q : Exit → Act → World → Prop} (hgd : o.guard = none) (sl x : Operand) (ho : o.op = .call { callee := .builtin .append, args := #[sl, x], argTypes := #[95, 9] }) (hty : o.type = 95) (v : Value) (s : ByteArray) (hs : a.eval sl = v) (hx : a.eval x = .string s)
  (v' : Value) (w' : World) (hrun : (Builtin.append_ #[95, 9] 95 #[v, .string s]).run Tryd.prog w = .ok v' w') (h : wpList Tryd.prog ops Q rest (a.put o.dst v') w') : wpList Tryd.prog ops Q (o :: rest) a w := by
 refine wpList_plain hgd fun K hK => ?_
 unfold Oper.wp execOp
 simp only [ho, hty, resolve, invoke, builtin, Sem.run_bind, Sem.run_pure, Result.andThen_ok, List.map_toArray, List.map_cons, List.map_nil, hs, hx, hrun]
 exact hK _ _ h
theorem copyCheck_s (b : Nat) (p v : Value) (w : World) (hp : p = .pointer none ∨ p = .pointer (some ⟨b, 0, none⟩)) (hbk : w.heap[b]? = some (.cells #[p, v] 158 (0, 0))) :
  Calls Tryd.prog 130 #[.pointer (some ⟨b, 0, none⟩)] w fun e w' => e = .returned (.tuple #[]) ∧ w'.heap[b]? = some (.cells #[.pointer (some ⟨b, 0, none⟩), v] 158 (0, 0)) ∧ Step (fun q => q = b) w w' := by
 rcases hp with rfl | rfl
 ·refine (copyCheck_fresh b w (by simp [World.cell?, hbk]) (by simp [World.shape?, hbk]) (blk_frozen hbk 0)).mono ?_
  rintro e w' ⟨rfl, rfl⟩
  exact ⟨rfl, blk_set hbk 0 _, Step.setCell w (p := ⟨b, 0, none⟩) (S := fun q => q = b) rfl _⟩
 ·refine (copyCheck_used b w (by simp [World.cell?, hbk])).mono ?_
  rintro e w' ⟨rfl, rfl⟩
  exact ⟨rfl, hbk, Step.refl _ _⟩
theorem ownsRowF_step {S : Nat → Prop} {W W' : World} {base : Nat} {e : TypeId} {size n : Nat} {v : Value} {xs : List Value} (hS : Step S W W') (h : W.ownsRowF base e size v n xs) (hn : ∀ g, v.ownBlock = some g → ¬ S g) : W'.ownsRowF base e size v n xs := by
 refine ⟨h.1, ?_⟩
 rcases h.2 with h0 | ⟨g, cap, cur, fz, rfl, hb, hg, h1⟩
 ·exact Or.inl h0
 ·exact Or.inr ⟨g, cap, cur, fz, rfl, hb, hS.block hg (hn g rfl), h1⟩
set_option maxHeartbeats 2000000 in
set_option maxRecDepth 100000 in
theorem writeString_s (B b : Nat) (p v : Value) (n : Nat) (bs : List Value) (s : ByteArray) (w : World) (hp : p = .pointer none ∨ p = .pointer (some ⟨b, 0, none⟩)) (hbk : w.heap[b]? = some (.cells #[p, v] 158 (0, 0))) (hown : w.ownsRowF B 5 1 v n bs) (hne : v.ownBlock ≠ some b) (hlen : n + s.size ≤ 140737488355328) (hBw : B ≤ w.heap.size) :
  Calls Tryd.prog 98 #[.pointer (some ⟨b, 0, none⟩), .string s] w fun e w' => e = .returned (.tuple #[.int .i64 s.size, .nilIface]) ∧ ∃ v', w'.heap[b]? = some (.cells #[.pointer (some ⟨b, 0, none⟩), v'] 158 (0, 0)) ∧ w'.ownsRowF B 5 1 v' (n + s.size) (bs ++ Lib.strCells s) ∧ v'.ownBlock ≠ some b ∧ (∀ q, v'.ownBlock = some q → v.ownBlock = some q ∨ w.heap.size ≤ q) ∧ Step (fun q => q = b ∨ v.ownBlock = some q) w w' := by
 have hbl := blk_lt hbk
 go_enter Tryd.func98, Tryd.ntmps98
 go_wp2_with (go_at_call 130; refine (copyCheck_s b p v _ hp hbk).mono ?_)
 rintro e w1 ⟨rfl, hbk1, hs1⟩
 have hown1 := ownsRowF_step hs1 hown (fun g hg e => hne (e ▸ hg))
 have hz1 := hs1.size
 obtain ⟨v', w2, hrun, hown2, hgr, hat⟩ := append_str_at hown1 s hlen (by omega)
 have c0 : w1.cell? ⟨b, 0, none⟩ = some (.pointer (some ⟨b, 0, none⟩)) := by rw [Lib.cell_of_heap hbk1]; rfl
 have c1 : w1.cell? ⟨b, 1, none⟩ = some v := by rw [Lib.cell_of_heap hbk1]; rfl
 have hb2 : w2.heap[b]? = some (.cells #[.pointer (some ⟨b, 0, none⟩), v] 158 (0, 0)) := by
  rw [hgr.block b (by omega) (fun e => hne e.symm)]
  exact hbk1
 have d1 : w2.cell? ⟨b, 1, none⟩ = some v := by rw [Lib.cell_of_heap hb2]; rfl
 have f1 : w2.frozen? ⟨b, 1, none⟩ = false := Lib.frozen_of_heap hb2 1
 have hg2 : Step (fun q => q = b ∨ v.ownBlock = some q) w1 w2 := Step.grown hgr (fun k hk => Or.inr hk)
 have hv' : v'.ownBlock ≠ some b := fun e => by
  rcases hat b e with h | h
  ·exact hne h
  ·omega
 obtain ⟨ao, n', cap, rfl⟩ : ∃ ao n' cap, v' = .slice ao n' cap := by
  rcases hown2.2 with ⟨hv, _⟩ | ⟨g, cap, cur, fz, hv, _⟩
  ·exact ⟨_, _, _, hv⟩
  ·exact ⟨_, _, _, hv⟩
 go_wp2_with (at_builtin; refine wpList_append_str_at rfl _ _ rfl rfl _ s rfl rfl _ _ hrun ?_)
 go_ret2
 refine ⟨rfl, _, blk_set hb2 1 _, ownsRowF_step (Step.setCell w2 (p := ⟨b, 1, none⟩) (S := fun q => q = b) rfl _) hown2 (fun g hg e => hv' (e ▸ hg)), hv', fun q hq => (hat q hq).imp id (fun h => by omega), (hs1.trans hg2 (fun _ h => Or.inl h) (fun _ h => Or.inl h)).trans (Step.setCell w2 (p := ⟨b, 1, none⟩) (S := fun q => q = b) rfl _) (fun _ h => h) (fun _ h => Or.inl (Or.inl h))⟩
theorem ownsRowF_less {w : World} {b base n : Nat} {e : TypeId} {size : Nat} {v : Value} {xs : List Value} (h : w.ownsRowF b e size v n xs) (hle : base ≤ b) : w.ownsRowF base e size v n xs := by
 refine ⟨h.1, h.2.imp id ?_⟩
 rintro ⟨g, cap, cur, fz, e, h4, h5⟩
 exact ⟨g, cap, cur, fz, e, by omega, h5⟩
end
end Go.Proofs.YtmmfplogkikbjaaDoor.HPB
