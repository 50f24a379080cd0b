/- a text of this claim -/
import Derived.Test.YtmmfplogkikbjaaDoorGPBx0
import Derived.Test.YtmmfplogkikbjaaDoorGPBx9
import Derived.Test.YtmmfplogkikbjaaDoorGPBx10
import Derived.Test.YtmmfplogkikbjaaDoorGPBx12
import Derived.Test.YtmmfplogkikbjaaDoorGPBx14
import Derived.Test.YtmmfplogkikbjaaDoorGPBx15
import Derived.Test.YtmmfplogkikbjaaDoorGPBx16
namespace Go.Proofs.YtmmfplogkikbjaaDoor.HPB
open Go.RowKit Go.Proofs.YtmmfplogkikbjaaDoorW.PrintWords Go.Proofs.YtmmfplogkikbjaaDoorW.PrintLast Go.Proofs.YtmmfplogkikbjaaDoorW.PrintMore
attribute [local go_sem] max2_int min2_int max_two min_two max_three min_three max_four min_four
set_option linter.unusedVariables false
set_option linter.unusedSimpArgs false
section
open Go Go.Shelf Go.Maps Go.Proofs.YtmmfplogkikbjaaDoor.Seq Go.Proofs.YtmmfplogkikbjaaDoor.MapL Go.Proofs.YtmmfplogkikbjaaDoorW.PrintLast
attribute [local go_sem] Oper.semAt_some max2_int min2_int max_two min_two
theorem seqO_steps {α : Type} {Zr Z : Nat → Prop} {P : Program} {g : Nat} {lb : Array Value} {encs : α → Array Value} {ys : List α} {w w1 : World} (h : SeqO Zr Z P g lb encs ys w) (hs : Step (fun k => ¬ Zr k) w w1) : SeqO Zr Z P g lb encs ys w1 :=
 fun l J Jx O W hW hO hJ hY h0 => h l J Jx O W (hs.trans hW (fun _ h => h) (fun _ h => Or.inl h)) hO hJ hY h0
theorem info3C : (Tryd.prog.info? 3).map (fun i => (i.zero, i.size, i.bytes)) = some (some (.int .i64 0), 1, 8) := by kernel_rfl
set_option maxRecDepth 100000 in
set_option maxHeartbeats 2000000 in
theorem appendSeqO_in {Zr Z : Nat → Prop} {gf : Nat} {lb : Array Value} {ys : List Int} {w : World} (eg : ∀ args w, (callFunc gf args).run Tryd.prog w = .ok (.enter gf args) w)
  (hseq : SeqO Zr Z Tryd.prog gf lb (fun x : Int => #[.int .i64 x]) ys w) (hZr : ∀ r, Zr r → r < w.heap.size) (hlen : ys.length ≤ 4000000000000) :
  CallsIn Fence.wide 4 Tryd.prog 121 #[.slice none 0 0, .func (.func gf) #[] lb] w fun e W' => ∃ v, e = .returned v ∧ W'.ownsRow w.heap.size 3 1 v ys.length (ys.map (Value.int .i64)) ∧ Step Z w W' := by
 refine callsIn_of_wp_marks Tryd.func121 rfl trivial ?_ rfl
 simp only [Tryd.ntmps121, List.size_toArray, List.length_cons, List.length_nil, Nat.reduceAdd, Nat.reduceSub, Array.replicate_succ, Array.replicate_zero, List.push_toArray, List.append_toArray, List.nil_append, List.cons_append]
 gi_wp2
 obtain ⟨W0, hW0⟩ : ∃ W0, W0 = w.alloc (.cells #[.slice none 0 0] 50) := ⟨_, rfl⟩
 have hs0 : Step (fun _ => False) w W0 := by rw [hW0]; exact Step.alloc _ _ _
 have b0 : Boxed W0 w.heap.size 50 (.slice none 0 0) := by rw [hW0]; exact Boxed.new w 50 (.slice none 0 0)
 have hW0s : W0.heap.size = w.heap.size + 1 := by rw [hW0]; simp
 rw [← hW0]
 clear hW0
 refine wpIn_rangeFunc_O (gf := gf) (lb := lb) rfl eg (seqO_steps hseq (hs0.mono (fun _ h => h.elim))) (fun r hr => by have := hZr r hr; omega) (fun _ => rfl)
  (fun O pre W => ∃ v, (∀ k, O k ↔ k = w.heap.size ∨ v.ownBlock = some k) ∧ Boxed W w.heap.size 50 v ∧ W.ownsRow (w.heap.size + 1) 3 1 v pre.length (pre.map (Value.int .i64)) ∧ Step Z w W)
  (fun _ _ _ _ => False) ⟨?lt, ?step⟩ (fun _ => ⟨fun _ _ _ h => h.elim, fun _ _ _ _ _ h => h.elim⟩) (fun k => k = w.heap.size) (fun k hk hz => by have := hZr k hz; omega) ⟨.slice none 0 0, by simp [Value.ownBlock], b0, World.ownsRow_nil _ _ _ _, hs0.mono (fun _ h => h.elim)⟩ ?round ?done ?stop
 case lt =>
  rintro O pre W ⟨v, h1, h2, h3, _⟩ k hk
  rcases (h1 k).1 hk with rfl | hk
  ·exact h2.lt
  ·rcases h3.2 with ⟨rfl, _⟩ | ⟨g, cap, cur, rfl, _, hg, _⟩
   ·cases hk
   ·cases hk; exact (Array.getElem?_eq_some_iff.1 hg).1
 case step =>
  rintro O pre W W' S ⟨v, h1, h2, h3, h4⟩ hS hs
  exact ⟨v, h1, hS.boxed h2 (fun h => (hs _ h).1 ((h1 _).2 (Or.inl rfl))), ownsRow_step hS h3 (fun g hg h => (hs _ h).1 ((h1 _).2 (Or.inr hg))), h4.trans hS (fun _ h => h) (fun k hk => (hs k hk).2.imp id (fun h => by omega))⟩
 case round =>
  rintro l O pre x W hl hWs - hpre
  have hlp : pre.length + 1 ≤ ys.length := by have := hpre.length_le; simpa using this
  gi_wp2
  refine ⟨Step.refl _ _, ?_⟩
  rintro Wb hsb ⟨v, h1, h2, h3, h4⟩
  have hc4 := h2.cell
  have hf4 := h2.frozen
  obtain ⟨hbk, A, n, c, rfl⟩ : (∀ q, v.ownBlock = some q → w.heap.size + 1 ≤ q ∧ q < Wb.heap.size) ∧ ∃ A n c, v = .slice A n c := by
   rcases h3.2 with ⟨rfl, _⟩ | ⟨g, cap, cur, rfl, hgn, hg, _⟩
   ·exact ⟨fun q hq => by simp [Value.ownBlock] at hq, _, _, _, rfl⟩
   ·exact ⟨fun q hq => by simp [Value.ownBlock] at hq; subst hq; exact ⟨hgn, (Array.getElem?_eq_some_iff.1 hg).1⟩, _, _, _, rfl⟩
  have hcell := World.news_of_block (cs := #[.int .i64 x]) (t := 3) (fr := (0, 0)) (World.alloc_heap_new Wb (.cells #[.int .i64 x] 3))
  have hb3 : w.heap.size + 1 ≤ (Wb.alloc (.cells #[.int .i64 x] 3)).heap.size := by have := hsb.size; simp at this ⊢; omega
  gi_wp2_with (gi_at_builtin; refine wpListIn_append_at _ rfl _ _ 50 rfl (w.heap.size + 1) 3 (.int .i64 0) 1 8 Tryd.underlying50 info3C rfl (by decide) (.slice A n c) pre.length (pre.map (Value.int .i64)) rfl (h3.alloc _) ⟨Wb.heap.size, 0, none⟩ 1 1 [.int .i64 x] rfl rfl (by simpa using hcell) (by simp [Value.oneCell']) (by unfold maxLen; omega) (by omega) hb3 ?_; intro v1 w1 hown1 hg1 _ hat1; obtain ⟨g1, cap1, rfl, hgn1, hgs1, _⟩ := ownsRow_form hown1 (by omega); have hv1 := (h2.alloc (.cells #[.int .i64 x] 3)).kept hg1 (fun e => by have := hbk _ e.symm; omega); have hc1 := hv1.cell; have hf1 := hv1.frozen)
  have hs1 : Step O Wb w1 := (Step.alloc O Wb _).trans (Step.grown hg1 (S := O) (fun q hq => (h1 q).2 (Or.inr hq))) (fun _ h => h) (fun _ h => Or.inl h)
  have hs2 : Step O w1 (w1.setCell ⟨w.heap.size, 0, none⟩ (.slice (some ⟨g1, 0, none⟩) (pre.length + 1) cap1)) := Step.setCell (S := O) w1 (p := ⟨w.heap.size, 0, none⟩) ((h1 _).2 (Or.inl rfl)) _
  refine ⟨fun q => q = w.heap.size ∨ q = g1, fun q hq => ?_, hs1.trans hs2 (fun _ h => h) (fun _ h => Or.inl h), Value.slice (some ⟨g1, 0, none⟩) (pre.length + 1) cap1, fun q => ?_, hv1.set _, ?_, ?_⟩
  ·rcases hq with rfl | rfl
   ·exact Or.inl ((h1 _).2 (Or.inl rfl))
   ·rcases hat1 with e | e
    ·exact Or.inl ((h1 _).2 (Or.inr e.symm))
    ·right; simp [Value.ownBlock] at e; omega
  ·simp [Value.ownBlock, eq_comm]
  ·rw [List.length_append, List.length_singleton, List.map_append, List.map_singleton]
   exact ownsRow_step (Step.setCell (S := fun q => q = w.heap.size) w1 (p := ⟨w.heap.size, 0, none⟩) rfl _) hown1 (fun q hq => by simp [Value.ownBlock] at hq; omega)
  ·exact h4.trans (hs1.trans hs2 (fun _ h => h) (fun _ h => Or.inl h)) (fun _ h => h) (fun q hq => Or.inr (by rcases (h1 q).1 hq with rfl | h <;> first | omega | (have := hbk _ h; omega)))
 case done =>
  rintro D O W hD hOD ⟨v, h1, h2, h3, h4⟩ hK
  have hc4 := h2.cell
  gi_wp2
  refine ⟨by simp, .inl ⟨_, _, rfl, run_takeDeferred hK, ?_⟩⟩
  refine ⟨_, results_tmp rfl _ _ _, v, rfl, ?_, h4.trans (Step.put W D _) (fun _ h => h) (fun k hk => Or.inr (by omega))⟩
  have h5 : W.ownsRow w.heap.size 3 1 v ys.length (ys.map (Value.int .i64)) := ⟨h3.1, h3.2.imp id fun ⟨g, cap, cur, e, hb, h⟩ => ⟨g, cap, cur, e, by omega, h⟩⟩
  exact ownsRow_step (Step.put W D _) h5 (fun g hg h => by rw [h] at hg; exact hOD ((h1 D).2 (Or.inr hg)))
 case stop => rintro D O c pre W _ _ _ h; exact h.elim
set_option maxRecDepth 100000 in
set_option maxHeartbeats 2000000 in
theorem collectO_in {Zr Z : Nat → Prop} {gf : Nat} {lb : Array Value} {ys : List Int} {w : World} (eg : ∀ args w, (callFunc gf args).run Tryd.prog w = .ok (.enter gf args) w)
  (hseq : SeqO Zr Z Tryd.prog gf lb (fun x : Int => #[.int .i64 x]) ys w) (hZr : ∀ r, Zr r → r < w.heap.size) (hlen : ys.length ≤ 4000000000000) :
  Calls Tryd.prog 82 #[.func (.func gf) #[] lb] w fun e W' => ∃ v, e = .returned v ∧ W'.ownsRow w.heap.size 3 1 v ys.length (ys.map (Value.int .i64)) ∧ Step Z w W' := by
 have hA := (callsIn_wide (n := 4)).1 (appendSeqO_in eg hseq hZr hlen)
 refine (callsIn_wide (n := 4)).1 ?_
 refine callsIn_of_wp_marks Tryd.func82 rfl trivial ?_ rfl
 simp only [Tryd.ntmps82, List.size_toArray, List.length_cons, List.length_nil, Nat.reduceAdd, Nat.reduceSub, Array.replicate_succ, Array.replicate_zero, List.push_toArray, List.append_toArray, List.nil_append, List.cons_append]
 gi_wp2_with (refine ⟨trivial, ?_⟩; gi_at_call 121; refine (callsIn_wide.2 hA).mono ?_; rintro e w' ⟨v, rfl, ho, hs⟩)
 exact ⟨_, results_tmp rfl _ _ _, v, rfl, ho, hs⟩
theorem Backward_any (A : Option Addr) (n c : Nat) (w : World) : Calls Tryd.prog 83 #[.slice A n c] w fun e w' => e = .returned (.func (.func 122) #[] #[.pointer (some ⟨w.heap.size, 0, none⟩)]) ∧ w' = w.alloc (.cells #[.slice A n c] 50) := by
 have hu50 := Tryd.underlying50
 go_enter Tryd.func83, Tryd.ntmps83
 go_wp2
 go_ret
 exact ⟨rfl, rfl⟩
def bwE (p : Nat × Int) : Array Value := #[.int .i64 (p.1 : Int), .int .i64 p.2]
def bwL : List Int → List (Nat × Int)
 | [] => []
 | x :: l => (bwL l).map (fun p => (p.1 + 1, p.2)) ++ [(0, x)]
theorem bwL_len : ∀ l, (bwL l).length = l.length
 | [] => rfl
 | x :: l => by simp [bwL, bwL_len l]
theorem bwL_get : ∀ (l : List Int) (k : Nat) (h : k < l.length), (bwL l)[k]? = some (l.length - 1 - k, l[l.length - 1 - k]'(by omega))
 | [], k, h => by simp at h
 | x :: l, k, h => by
  have hl := bwL_len l
  rw [bwL]
  by_cases hk : k < l.length
  ·rw [List.getElem?_append_left (by simp [hl]; omega), List.getElem?_map, bwL_get l k hk]
   have e : (x :: l).length - 1 - k = (l.length - 1 - k) + 1 := by simp at h ⊢; omega
   simp only [Option.map_some, e, List.getElem_cons_succ]
  ·have hk2 : k = l.length := by simp at h; omega
   subst hk2
   rw [List.getElem?_append_right (by simp [hl])]
   simp [hl]
theorem bwL_pre {l : List Int} {k : Nat} (h : k < l.length) : (bwL l).take k ++ [(l.length - 1 - k, l[l.length - 1 - k]'(by omega))] = (bwL l).take (k + 1) := by
 rw [List.take_add_one, bwL_get l k h]; rfl
set_option maxRecDepth 100000 in
set_option maxHeartbeats 2000000 in
theorem backward_seq (w : World) (Bx g c : Nat) (xs : List Int) (hx : xs.length ≤ 1000000) (hB : w.heap[Bx]? = some (.cells #[.slice (some ⟨g, 0, none⟩) xs.length c] 50 (0, 0))) (hc : xs.length ≤ c) (hg : Bx ≠ g)
  (hC : ∀ W, Step (fun k => k ≠ Bx ∧ k ≠ g) w W → Kd.C (Kd.int .i64) W (some ⟨g, 0, none⟩) xs.length xs) (hgw : g < w.heap.size) :
  SeqO (fun r => r = Bx ∨ r = g) (fun _ => False) Tryd.prog 122 #[.pointer (some ⟨Bx, 0, none⟩)] bwE (bwL xs) w := by
 intro l J Jx O W hW hO hJ hY h0
 replace hB := hW.block hB (by simp)
 replace hC : ∀ W', Step (fun k => k ≠ Bx ∧ k ≠ g) W W' → Kd.C (Kd.int .i64) W' (some ⟨g, 0, none⟩) xs.length xs := fun W' h => hC W' (hW.trans h (fun k hk => by simpa [not_or] using hk) (fun _ h => Or.inl h))
 replace hgw : g < W.heap.size := Nat.lt_of_lt_of_le hgw hW.size
 have hBl := blk_lt hB
 refine callsIn_of_wp Tryd.func122 rfl trivial ?_ rfl
 simp only [Tryd.ntmps122, List.size_toArray, List.length_cons, List.length_nil, Nat.reduceAdd, Nat.reduceSub, Array.replicate_succ, Array.replicate_zero, List.push_toArray, List.append_toArray, List.nil_append, List.cons_append]
 have hu50 := Tryd.underlying50
 have z0 : W.cell? ⟨Bx, 0, none⟩ = some (.slice (some ⟨g, 0, none⟩) xs.length c) := by rw [Lib.cell_of_heap hB]; rfl
 gi_wp2
 gi_loopw [3] (fun t wr => ∃ k : Nat, k ≤ xs.length ∧ t = .int .i64 ((xs.length : Int) - 1 - k) ∧ wr.heap[Bx]? = some (.cells #[.slice (some ⟨g, 0, none⟩) xs.length c] 50 (0, 0)) ∧ Step (fun k => k ≠ Bx ∧ k ≠ g) W wr ∧ ∃ O', J O' ((bwL xs).take k) wr ∧ (∀ q, O' q → q ≠ Bx ∧ q ≠ g)) (fun t _ => (intOf t + 1).toNat)
 case atStart => exact ⟨0, Nat.zero_le _, by simp, hB, Step.refl _ _, O, h0, fun q hq => by have := hO q hq; simpa [not_or] using this⟩
 case round =>
  obtain ⟨k, hk, rfl, hBr, hS, O1, hJr, hO1⟩ := hrel
  by_cases hkl : k < xs.length
  ·have hpre : (bwL xs).take k ++ [(xs.length - 1 - k, xs[xs.length - 1 - k]'(by omega))] <+: bwL xs := by
    rw [bwL_pre hkl]; exact List.take_prefix _ _
   have htk := bwL_pre hkl
   obtain ⟨fn, tmps, assign, body, hy, hR⟩ := hY O1 _ _ wr hJr hpre
   have u0 := C_at (hC wr hS) (xs.length - 1 - k) (by omega)
   have e0 : xs.getD (xs.length - 1 - k) 0 = xs[xs.length - 1 - k]'(by omega) := by rw [List.getD_eq_getElem?_getD, List.getElem?_eq_getElem (by omega)]; rfl
   rw [e0] at u0
   dsimp only [bwE] at hy
   generalize xs[xs.length - 1 - k]'(by omega) = X at u0 hy hR htk hpre
   have i1 : (xs.length : Int) - 1 - (k : Int) = ((xs.length - 1 - k : Nat) : Int) := by omega
   have i2 : ((xs.length - 1 - k : Nat) : Int) < (xs.length : Int) := by omega
   have z1 : wr.cell? ⟨Bx, 0, none⟩ = some (.slice (some ⟨g, 0, none⟩) xs.length c) := by rw [Lib.cell_of_heap hBr]; rfl
   rw [i1]
   generalize hm : xs.length - 1 - k = m at u0 hy hR htk hpre i1 i2 ⊢
   have hm0 : (0 : Int) ≤ (m : Int) := by omega
   have u1 : wr.cell? ⟨g, m, none⟩ = some (.int .i64 X) := by
    by_cases h : m = 0
    ·rw [if_pos h] at u0; rw [h]; exact u0
    ·rw [if_neg h, Nat.zero_add] at u0; exact u0
   clear u0
   gi_wp2
   refine hR.mono ?_
   rintro e W' ⟨O3, hO3, hs3, ⟨rfl, hJ3⟩ | ⟨rfl, hJ3⟩⟩
   ·have hB3 := hs3.block hBr (fun h => (hO1 _ h).1 rfl)
    have hl := hS.size
    have hS3 : Step (fun k => k ≠ Bx ∧ k ≠ g) W W' := hS.trans hs3 (fun _ h => h) (fun q hq => Or.inl (hO1 q hq))
    have hO4 : ∀ q, O3 q → q ≠ Bx ∧ q ≠ g := fun q hq => (hO3 q hq).elim (hO1 q) (fun h => ⟨by omega, by omega⟩)
    rw [htk] at hJ3
    clear u1 z1 hR hy hC z0
    gi_wp2
    go_roundw
    case rel => exact ⟨k + 1, by omega, by (congr 1 <;> omega), hB3, hS3, O3, hJ3, hO4⟩
    case measure => first | (simp [intOf]; done) | (simp [intOf]; omega)
   ·gi_wp2
    refine bodyPost_ret (results_none rfl _ _ _) rfl ?_
    exact ⟨⟨_, rfl⟩, O3, .inr ⟨_, hpre, hJ3⟩⟩
  ·have ek : k = xs.length := by omega
   have dk : ¬ (0 : Int) ≤ (xs.length : Int) - 1 - (k : Int) := by omega
   rw [ek, List.take_of_length_le (by rw [bwL_len]; omega)] at hJr
   clear ek
   gi_wp2
   go_end0
   exact ⟨⟨_, rfl⟩, O1, .inl hJr⟩
set_option maxRecDepth 100000 in
set_option maxHeartbeats 4000000 in
theorem Reverse_any (w : World) (base g c : Nat) (vs : List Value) (hn : vs.length ≤ 1000000) (hc1 : ∀ v ∈ vs, ∃ A n c, v = .slice A n c) (ho : w.ownsRow base 60 1 (.slice (some ⟨g, 0, none⟩) vs.length c) vs.length vs) :
  Calls Tryd.prog 85 #[.slice (some ⟨g, 0, none⟩) vs.length c] w fun e w' => (∃ v, e = .returned v) ∧ w'.ownsRow base 60 1 (.slice (some ⟨g, 0, none⟩) vs.length c) vs.length vs.reverse ∧ Step (fun k => k = g) w w' := by
 have hu137 := Tryd.underlying137
 have hu60 := Tryd.underlying60
 go_enter Tryd.func85, Tryd.ntmps85
 go_wp2
 go_loopw [2, 3] (fun t2 t3 wr => ∃ (i : Nat) (cs : List Value), t2 = .int .i64 i ∧ t3 = .int .i64 ((vs.length : Int) - 1 - i) ∧ cs.length = vs.length ∧ i ≤ vs.length ∧ (∀ p, p < vs.length → cs[p]? = if p < i ∨ vs.length ≤ p + i then vs[vs.length - 1 - p]? else vs[p]?) ∧ wr.ownsRow base 60 1 (.slice (some ⟨g, 0, none⟩) vs.length c) vs.length cs ∧ Step (fun k => k = g) w wr) (fun t2 t3 _ => vs.length - (intOf t2).toNat)
 case atStart => exact ⟨0, vs, rfl, by simp, rfl, Nat.zero_le _, fun p hp => by rw [if_neg (by omega)], ho, Step.refl _ _⟩
 case round =>
  as_aux_lemma =>
   obtain ⟨i, cs, rfl, rfl, hl, hi, hcs, ho, hS⟩ := hrel
   by_cases hij : 2 * i + 1 < vs.length
   ·obtain ⟨j, hj⟩ : ∃ j, j = vs.length - 1 - i := ⟨_, rfl⟩
    have e3 : (vs.length : Int) - 1 - (i : Int) = (j : Int) := by omega
    rw [e3]
    have hijI : (i : Int) < (j : Int) := by omega
    have hi0 : (0 : Int) ≤ (i : Int) := by omega
    have hj0 : (0 : Int) ≤ (j : Int) := by omega
    have hiI : (i : Int) < (vs.length : Int) := by omega
    have hjI : (j : Int) < (vs.length : Int) := by omega
    obtain ⟨x, hx⟩ : ∃ x, vs[i]? = some x := ⟨vs[i], List.getElem?_eq_getElem (by omega)⟩
    obtain ⟨y, hy⟩ : ∃ y, vs[j]? = some y := ⟨vs[j], List.getElem?_eq_getElem (by omega)⟩
    have cx := hcs i (by omega)
    rw [if_neg (by omega), hx] at cx
    have cy := hcs j (by omega)
    rw [if_neg (by omega), hy] at cy
    have ux := ownsRow_cell ho cx
    have uy := ownsRow_cell ho cy
    have fx := ownsRow_frozen ho i
    have fy := ownsRow_frozen ho j
    obtain ⟨xA, xn, xc, hxv⟩ := hc1 x (List.mem_of_getElem? hx)
    obtain ⟨yA, yn, yc, hyv⟩ := hc1 y (List.mem_of_getElem? hy)
    have hx1 : x.oneCell' = true := by rw [hxv]; rfl
    have hne : j ≠ i := by omega
    replace ux : wr.drew.cell? ⟨g, i, none⟩ = some x := ux
    replace uy : wr.drew.cell? ⟨g, j, none⟩ = some y := uy
    replace fx : wr.drew.frozen? ⟨g, i, none⟩ = false := fx
    replace fy : wr.drew.frozen? ⟨g, j, none⟩ = false := fy
    replace ho : wr.drew.ownsRow base 60 1 (.slice (some ⟨g, 0, none⟩) vs.length c) vs.length cs := ho
    have hSd := hS.trans (Step.drew (fun k => k = g) wr) (fun _ h => h) (fun _ h => Or.inl h)
    clear hS
    have hj1 : j + i + 1 ≤ vs.length := by omega
    have hj2 : vs.length ≤ j + i + 1 := by omega
    clear e3 hj
    go_upto_region 3 with (fail)
    try simp only [List.append_eq, List.cons_append, List.nil_append]
    refine start_ (n := 16) (S := fun w' => w'.cell? ⟨g, i, none⟩ = some x ∧ w'.cell? ⟨g, j, none⟩ = some y) (ds := [13, 15]) #[G,G,G,G,G,G,G,G,G,G,G,G,G,G,G,G] (by kernel_rfl) rfl rfl ⟨ux, uy⟩ (fun hHeld => ?_)
    generalize wr.drew = w3 at hHeld ho hSd fx fy ⊢
    refine pu_ 0 14 ?_ #[Y,G,G,G,G,G,G,G,G,G,G,G,G,G,G,G] rfl rfl (by kernel_rfl) (fun _ _ _ h => h) (Or.inl ⟨by rfl, ?_⟩) ?_ ?_ ?_;rotate_left
    ·intro w';go_simp;with_reducible rfl
    rotate_left;·simp only [Act.put, sA_];rfl
    refine pu_ 1 15 ?_ #[Y,Y,G,G,G,G,G,G,G,G,G,G,G,G,G,G] rfl rfl (by kernel_rfl) (fun _ _ _ h => h) (Or.inl ⟨by rfl, ?_⟩) ?_ ?_ ?_;rotate_left
    ·intro w';go_simp;with_reducible rfl
    rotate_left;·simp only [Act.put, sA_];rfl
    refine pu_ 2 16 ?_ #[Y,Y,Y,G,G,G,G,G,G,G,G,G,G,G,G,G] rfl rfl (by kernel_rfl) (fun _ _ _ h => h) (Or.inl ⟨by rfl, ?_⟩) ?_ ?_ ?_;rotate_left
    ·intro w';go_simp;with_reducible rfl
    rotate_left;·simp only [Act.put, sA_];rfl
    refine pu_ 3 17 ?_ #[Y,Y,Y,Y,G,G,G,G,G,G,G,G,G,G,G,G] rfl rfl (by kernel_rfl) (fun _ _ _ h => h) (Or.inl ⟨by rfl, ?_⟩) ?_ ?_ ?_;rotate_left
    ·intro w';go_simp;with_reducible rfl
    rotate_left;·simp only [Act.put, sA_];rfl
    refine pu_ 4 18 ?_ #[Y,Y,Y,Y,Y,G,G,G,G,G,G,G,G,G,G,G] rfl rfl (by kernel_rfl) (fun _ _ _ h => h) (Or.inl ⟨by rfl, ?_⟩) ?_ ?_ ?_;rotate_left
    ·intro w';go_simp;with_reducible rfl
    rotate_left;·simp only [Act.put, sA_];rfl
    refine pu_ 5 19 ?_ #[Y,Y,Y,Y,Y,Y,G,G,G,G,G,G,G,G,G,G] rfl rfl (by kernel_rfl) (fun _ _ _ h => h) (Or.inl ⟨by rfl, ?_⟩) ?_ ?_ ?_;rotate_left
    ·intro w';go_simp;with_reducible rfl
    rotate_left;·simp only [Act.put, sA_];rfl
    refine pu_ 6 20 ?_ #[Y,Y,Y,Y,Y,Y,Y,G,G,G,G,G,G,G,G,G] rfl rfl (by kernel_rfl) (fun _ _ _ h => h) (Or.inl ⟨by rfl, ?_⟩) ?_ ?_ ?_;rotate_left
    ·intro w';go_simp;with_reducible rfl
    rotate_left;·simp only [Act.put, sA_];rfl
    refine pu_ 8 22 ?_ #[Y,Y,Y,Y,Y,Y,Y,G,Y,G,G,G,G,G,G,G] rfl rfl (by kernel_rfl) (fun _ _ _ h => h) (Or.inl ⟨by rfl, ?_⟩) ?_ ?_ ?_;rotate_left
    ·intro w';go_simp;with_reducible rfl
    rotate_left;·simp only [Act.put, sA_];rfl
    refine pu_ 9 23 ?_ #[Y,Y,Y,Y,Y,Y,Y,G,Y,Y,G,G,G,G,G,G] rfl rfl (by kernel_rfl) (fun _ _ _ h => h) (Or.inl ⟨by rfl, ?_⟩) ?_ ?_ ?_;rotate_left
    ·intro w';go_simp;with_reducible rfl
    rotate_left;·simp only [Act.put, sA_];rfl
    refine pu_ 10 24 ?_ #[Y,Y,Y,Y,Y,Y,Y,G,Y,Y,Y,G,G,G,G,G] rfl rfl (by kernel_rfl) (fun _ _ _ h => h) (Or.inl ⟨by rfl, ?_⟩) ?_ ?_ ?_;rotate_left
    ·intro w';go_simp;with_reducible rfl
    rotate_left;·simp only [Act.put, sA_];rfl
    refine tk_ 7 21 ?_ #[Y,Y,Y,Y,Y,Y,Y,Y,Y,Y,Y,G,G,G,G,G] rfl rfl (by kernel_rfl) (fun _ _ _ h => h) (Or.inl ⟨by rfl, ?_⟩) hHeld ?_ ?_ ?_;rotate_left
    ·rintro w' ⟨s0, s1⟩
     go_simp
     with_reducible rfl
    rotate_left;·simp only [Act.put, sA_];rfl
    refine tk_ 11 25 ?_ #[Y,Y,Y,Y,Y,Y,Y,Y,Y,Y,Y,Y,G,G,G,G] rfl rfl (by kernel_rfl) (fun _ _ _ h => h) (Or.inl ⟨by rfl, ?_⟩) hHeld ?_ ?_ ?_;rotate_left
    ·rintro w' ⟨s0, s1⟩
     go_simp
     with_reducible rfl
    rotate_left;·simp only [Act.put, sA_];rfl
    refine pu_ 12 26 ?_ #[Y,Y,Y,Y,Y,Y,Y,Y,Y,Y,Y,Y,Y,G,G,G] rfl rfl (by kernel_rfl) (fun _ _ _ h => h) (Or.inl ⟨by rfl, ?_⟩) ?_ ?_ ?_;rotate_left
    ·intro w';go_simp;with_reducible rfl
    rotate_left;·simp only [Act.put, sA_];rfl
    refine last_ (i := 13) (N := none) #[Y,Y,Y,Y,Y,Y,Y,Y,Y,Y,Y,Y,Y,Y,G,G] rfl rfl (by kernel_rfl) (by decide) (fun K hK => ?_)
    refine skip_ (w1 := ?_) (by rfl) rfl ?_ ?_;rotate_left
    ·go_simp
     rfl
    refine hK.out _ _ ?_
    clear hK K
    refine pu_ 14 27 ?_ #[Y,Y,Y,Y,Y,Y,Y,Y,Y,Y,Y,Y,Y,Y,Y,G] rfl rfl (by kernel_rfl) (fun _ _ _ h => h) (Or.inl ⟨by rfl, ?_⟩) ?_ ?_ ?_;rotate_left
    ·intro w';go_simp;with_reducible rfl
    rotate_left;·simp only [Act.put, sA_];rfl
    refine last_ (i := 15) (N := none) #[Y,Y,Y,Y,Y,Y,Y,Y,Y,Y,Y,Y,Y,Y,Y,Y] rfl rfl (by kernel_rfl) (by decide) (fun K hK => ?_)
    refine skip_ (w1 := ?_) (by rfl) rfl ?_ ?_;rotate_left
    ·go_simp
     rfl
    refine hK.out _ _ ?_
    clear hK K
    refine done_ (by kernel_rfl) ?_
    clear hHeld
    subst hxv
    subst hyv
    have o1 := ownsRow_set ho i (.slice yA yn yc)
    have o2 := ownsRow_set o1 j (.slice xA xn xc)
    have hs2 : Step (fun k => k = g) w3 ((w3.setCell ⟨g, i, none⟩ (.slice yA yn yc)).setCell ⟨g, j, none⟩ (.slice xA xn xc)) := (Step.setCell w3 (p := ⟨g, i, none⟩) (S := fun k => k = g) rfl _).trans (Step.setCell _ (p := ⟨g, j, none⟩) (S := fun k => k = g) rfl _) (fun _ h => h) (fun _ h => Or.inl h)
    have hS2 := hSd.trans hs2 (fun _ h => h) (fun _ h => Or.inl h)
    generalize (w3.setCell ⟨g, i, none⟩ (.slice yA yn yc)).setCell ⟨g, j, none⟩ (.slice xA xn xc) = w4 at o2 hS2 ⊢
    clear o1 hs2 ho hSd fx fy ux uy
    try go_wp2
    refine ⟨⟨i + 1, (cs.set i (.slice yA yn yc)).set j (.slice xA xn xc), by simp, ?_, by simp [hl], by omega, ?_, o2, hS2⟩, ?_⟩
    ·first | (congr 1; omega) | (simp; omega) | skip
    ·intro p hp
     by_cases h1 : p = j
     ·subst h1
      rw [List.getElem?_set_self (by simp [hl]; omega), if_pos (by omega), show vs.length - 1 - p = i by omega, hx]
     ·rw [List.getElem?_set_ne (fun e => h1 e.symm)]
      by_cases h2 : p = i
      ·subst h2
       rw [List.getElem?_set_self (by omega), if_pos (by omega), show vs.length - 1 - p = j by omega, hy]
      ·rw [List.getElem?_set_ne (fun e => h2 e.symm), hcs p hp]
       by_cases h3 : p < i ∨ vs.length ≤ p + i
       ·rw [if_pos h3, if_pos (by omega)]
       ·rw [if_neg h3, if_neg (by omega)]
    ·first | (simp [intOf]; done) | (simp [intOf]; omega)
   ·have dk : ¬ (i : Int) < (vs.length : Int) - 1 - (i : Int) := by omega
    have hrev : cs = vs.reverse := by
     apply List.ext_getElem?
     intro p
     by_cases hp : p < vs.length
     ·rw [hcs p hp, List.getElem?_reverse hp]
      by_cases h3 : p < i ∨ vs.length ≤ p + i
      ·rw [if_pos h3]
      ·rw [if_neg h3, show vs.length - 1 - p = p by omega]
     ·rw [List.getElem?_eq_none (by omega), List.getElem?_eq_none (by simp; omega)]
    rw [hrev] at ho
    clear hrev hcs
    go_wp2
    go_end0
    exact ⟨⟨_, rfl⟩, ho, hS⟩
theorem six (w : World) (c0 c1 c2 c3 c4 c5 : Array Value) (t0 t1 t2 t3 t4 t5 : TypeId) : ∃ W, W = (((((w.alloc (.cells c0 t0)).alloc (.cells c1 t1)).alloc (.cells c2 t2)).alloc (.cells c3 t3)).alloc (.cells c4 t4)).alloc (.cells c5 t5) ∧ Step (fun _ => False) w W ∧ W.heap.size = w.heap.size + 6 ∧
  W.heap[w.heap.size]? = some (.cells c0 t0 (0, 0)) ∧ W.heap[w.heap.size + 1]? = some (.cells c1 t1 (0, 0)) ∧ W.heap[w.heap.size + 1 + 1]? = some (.cells c2 t2 (0, 0)) ∧ W.heap[w.heap.size + 1 + 1 + 1]? = some (.cells c3 t3 (0, 0)) ∧ W.heap[w.heap.size + 1 + 1 + 1 + 1]? = some (.cells c4 t4 (0, 0)) ∧ W.heap[w.heap.size + 1 + 1 + 1 + 1 + 1]? = some (.cells c5 t5 (0, 0)) := by
 obtain ⟨W4, hW4, hs, hz, n0, n1, n2, n3⟩ := fourA w c0 c1 c2 c3 t0 t1 t2 t3
 rw [← hW4]
 have s4 := Step.alloc (fun _ => False) W4 (.cells c4 t4)
 have s5 := Step.alloc (fun _ => False) (W4.alloc (.cells c4 t4)) (.cells c5 t5)
 have n4 := World.alloc_heap_new W4 (.cells c4 t4)
 have n5 := World.alloc_heap_new (W4.alloc (.cells c4 t4)) (.cells c5 t5)
 simp only [World.size_alloc, hz] at n4 n5
 have s45 := step2 s4 s5
 exact ⟨_, rfl, step2 hs s45, by simp [hz], s45.block n0 (fun h => h), s45.block n1 (fun h => h), s45.block n2 (fun h => h), s45.block n3 (fun h => h), s5.block n4 (fun h => h), n5⟩
def ptrCells (p : S26) : List Value := [.int .i64 p.f0, .int .i64 p.f1, .int .u32 p.f2]
def ptrsCells (l : List S26) : List Value := l.flatMap ptrCells
theorem c26_len (l : List S26) : (ptrsCells l).length = l.length * 3 := by
 induction l with
 | nil => rfl
 | cons p l ih => simp only [ptrsCells, List.flatMap_cons, List.length_append, List.length_cons] at ih ⊢; rw [ih]; simp [ptrCells]; omega
theorem c26_snoc (l : List S26) (p : S26) : ptrsCells (l ++ [p]) = ptrsCells l ++ ptrCells p := by simp [ptrsCells]
theorem reps26 (w : World) (base : Nat) (ok : Nat → Prop) (l : List S26) : Reps (k26.M w base ok) 3 l (ptrsCells l) := by
 refine ⟨c26_len l, fun j p hj => ?_⟩
 have hjl : j < l.length := (List.getElem?_eq_some_iff.1 hj).1
 have e : l = l.take j ++ p :: l.drop (j + 1) := by
  have h1 := (List.getElem?_eq_some_iff.1 hj).2
  rw [← h1, List.getElem_cons_drop, List.take_append_drop]
 have e2 : ptrsCells l = ptrsCells (l.take j) ++ (ptrCells p ++ ptrsCells (l.drop (j + 1))) := by
  conv => lhs; rw [e]
  simp [ptrsCells]
 have hl2 : (ptrsCells (l.take j)).length = j * 3 := by rw [c26_len, List.length_take]; omega
 rw [e2, ← hl2, List.drop_left]
 have h3 : (ptrCells p).length = 3 := rfl
 rw [← h3, List.take_left]
 exact k26_mkM w base ok p
theorem R26_of_own {w : World} {base : Nat} {v : Value} {l : List S26} (h : w.ownsRow base 26 3 v l.length (ptrsCells l)) : Kd.R k26 26 w base (fun _ => True) v l := ⟨fun _ _ => trivial, ptrsCells l, h, reps26 _ _ _ _⟩
theorem R26_move {w w' : World} {base : Nat} {v : Value} {xs : List S26} (h : Kd.R k26 26 w base (fun _ => True) v xs) (hn : ∀ g cells, v.ownBlock = some g → w.heap[g]? = some (.cells cells 26 (0, 0)) → w'.heap[g]? = w.heap[g]?) : Kd.R k26 26 w' base (fun _ => True) v xs := by
 obtain ⟨h0, inner, ho, hr⟩ := h
 refine ⟨h0, inner, own_move ho (fun g hg => ?_), hr.1, fun j p hj => ?_⟩
 ·obtain ⟨cells, hc⟩ := own_typed ho g hg
  exact hn g cells hg hc
 ·have h4 := hr.2 j p hj
  have e := k26_openM h4
  have h5 := k26_mkM w' base (fun k => True ∧ some k ≠ v.ownBlock) p
  rw [← e] at h5
  exact h5
def AllR (w : World) (base : Nat) : List Value → List (List S26) → Prop
 | [], [] => True
 | v :: vs, r :: rs => Kd.R k26 26 w base (fun _ => True) v r ∧ AllR w base vs rs
 | _, _ => False
theorem AllR.len {w : World} {base : Nat} : ∀ {vs rs}, AllR w base vs rs → vs.length = rs.length
 | [], [], _ => rfl
 | v :: vs, r :: rs, h => congrArg (· + 1) (AllR.len h.2)
 | [], _ :: _, h => h.elim
 | _ :: _, [], h => h.elim
theorem AllR.imp {w w' : World} {base base' : Nat} : ∀ {vs rs}, AllR w base vs rs → (∀ v r, v ∈ vs → Kd.R k26 26 w base (fun _ => True) v r → Kd.R k26 26 w' base' (fun _ => True) v r) → AllR w' base' vs rs
 | [], [], _, _ => trivial
 | v :: vs, r :: rs, h, hi => ⟨hi v r (List.mem_cons_self ..) h.1, AllR.imp h.2 (fun v r hv => hi v r (List.mem_cons_of_mem _ hv))⟩
 | [], _ :: _, h, _ => h.elim
 | _ :: _, [], h, _ => h.elim
theorem AllR.append {w : World} {base : Nat} : ∀ {vs rs vs' rs'}, AllR w base vs rs → AllR w base vs' rs' → AllR w base (vs ++ vs') (rs ++ rs')
 | [], [], _, _, _, h => h
 | v :: vs, r :: rs, _, _, h, h' => ⟨h.1, AllR.append h.2 h'⟩
 | [], _ :: _, _, _, h, _ => h.elim
 | _ :: _, [], _, _, h, _ => h.elim
theorem AllR.reverse {w : World} {base : Nat} : ∀ {vs rs}, AllR w base vs rs → AllR w base vs.reverse rs.reverse
 | [], [], _ => trivial
 | v :: vs, r :: rs, h => by
  rw [List.reverse_cons, List.reverse_cons]
  exact AllR.append (AllR.reverse h.2) ⟨h.1, trivial⟩
 | [], _ :: _, h => h.elim
 | _ :: _, [], h => h.elim
theorem AllR.get {w : World} {base : Nat} : ∀ {vs : List Value} {rs : List (List S26)}, AllR w base vs rs → ∀ (j : Nat) (r : List S26), rs[j]? = some r → ∃ v, vs[j]? = some v ∧ Kd.R k26 26 w base (fun _ => True) v r
 | [], [], _, j, r, hj => by simp at hj
 | v :: vs, r :: rs, h, 0, r', hj => by
  simp at hj; subst hj; exact ⟨v, rfl, h.1⟩
 | v :: vs, r :: rs, h, j + 1, r', hj => by
  simp at hj; simpa using AllR.get h.2 j r' hj
 | [], _ :: _, h, _, _, _ => h.elim
 | _ :: _, [], h, _, _, _ => h.elim
theorem AllR.slice {w : World} {base : Nat} {vs : List Value} {rs : List (List S26)} (h : AllR w base vs rs) : ∀ v ∈ vs, ∃ A n c, v = .slice A n c := fun v hv => by
 obtain ⟨j, hj, e⟩ := List.getElem_of_mem hv
 have hl := h.len
 obtain ⟨v', e1, h2⟩ := h.get j rs[j] (List.getElem?_eq_getElem (by omega))
 rw [List.getElem?_eq_getElem hj, e] at e1
 cases e1
 obtain ⟨A, c, e, _⟩ := Kd.R_reads h2
 exact ⟨A, _, c, e⟩
theorem rows_C {w : World} {base g c : Nat} {vs : List Value} {rs : List (List S26)} (ho : w.ownsRow base 60 1 (.slice (some ⟨g, 0, none⟩) vs.length c) vs.length vs) (h : AllR w base vs rs) (hn : vs.length ≤ 1000000) : Kd.C (Kd.slice 26 k26) w (some ⟨g, 0, none⟩) rs.length rs := by
 refine ⟨rfl, by have := h.len; omega, fun _ => ⟨⟨g, 0, none⟩, rfl, fun j r hj => ?_⟩⟩
 obtain ⟨v, e1, h2⟩ := h.get j r hj
 obtain ⟨A, cc, e, hl, hC⟩ := Kd.R_reads h2
 subst e
 refine ⟨[.slice A r.length cc], rfl, ⟨A, cc, rfl, hl, hC⟩, fun q u hq => ?_⟩
 have hq0 : q = 0 := by
  rcases q with _ | q
  ·rfl
  ·simp at hq
 subst hq0
 simp at hq
 subst hq
 have := ownsRow_cell ho e1
 have e3 : (⟨g, 0, none⟩ : Addr).add (j * (Kd.slice 26 k26).sz + 0) = ⟨g, j, none⟩ := by
  show (⟨g, 0, none⟩ : Addr).add (j * 1 + 0) = _
  simp [Addr.add]
  try omega
 rw [e3]
 exact this
theorem results_c3 {P : Program} {fn : Func} {p q r : Tmp} {ty tq tr : TypeId} (h : fn.results = #[.cell p ty, .cell q tq, .cell r tr]) (tmps : Array Value) (w : World) (ad bd cd : Addr) {v u z : Value} (hp : tmps.getD p undef = .pointer (some ad)) (hv : (loadVar ty ad).run P w = .ok v w) (hq : tmps.getD q undef = .pointer (some bd)) (hu : (loadVar tq bd).run P w = .ok u w) (hr : tmps.getD r undef = .pointer (some cd)) (hz : (loadVar tr cd).run P w = .ok z w) : (results fn tmps).run P w = .ok (.tuple #[v, u, z]) w := by
 have hp' : tmps[p]?.getD undef = .pointer (some ad) := by simpa using hp
 have hq' : tmps[q]?.getD undef = .pointer (some bd) := by simpa using hq
 have hr' : tmps[r]?.getD undef = .pointer (some cd) := by simpa using hr
 simp [results, h, hp', hq', hr', asAddr, hv, hu, hz]
theorem loadVar60 (w : World) (ad : Addr) (A : Option Addr) (n c : Nat) (h : w.cell? ad = some (.slice A n c)) : (loadVar 60 ad).run Tryd.prog w = .ok (.slice A n c) w := by
 have u := Tryd.underlying60
 go_simp
def getP (s : ByteArray) (i : Nat) : S26 := ⟨ptrV (bytesOf (s.extract (12 * i) s.size)) 0, ptrV (bytesOf (s.extract (12 * i) s.size)) 1, ptrV (bytesOf (s.extract (12 * i) s.size)) 2⟩
def getPs (s : ByteArray) (k : Nat) : List S26 := (List.range k).map (getP s)
theorem getPs_len (s : ByteArray) (k : Nat) : (getPs s k).length = k := by simp [getPs]
theorem getPs_snoc (s : ByteArray) (k : Nat) : getPs s (k + 1) = getPs s k ++ [getP s k] := by simp [getPs, List.range_succ]
theorem GetPtr_at (W : World) (t : ByteArray) (i : Nat) (h : 12 * i + 12 ≤ t.size) : Calls Tryd.prog 50 #[.string (t.extract (12 * i) t.size)] W fun e w' => e = .returned (.tuple #[.agg #[.int .i64 (getP t i).f0, .int .i64 (getP t i).f1, .int .u32 (getP t i).f2], .int .i64 0]) ∧ Below W.heap.size W w' :=
 field_GetPtr.calls 40 _ _ _ _ _ W (field_GetPtr_ok _ (by rw [ByteArray.size_extract]; omega) 40 (by omega))
def ldT (xs : List ByteArray) (F : FL) (B : BL) (off : Bool) (sh gk gm gc : Int) (each : Nat) : List (Nat × Int) → List S26 → List (List S26) → List S26 × List (List S26) × Int
 | [], lv, rows => (lv, rows, 0)
 | p :: r, lv, rows => if (belA xs F B off sh gk gm gc each lv).2 ≠ 0 then ([], [], (belA xs F B off sh gk gm gc each lv).2) else
  ldT xs F B off sh gk gm gc each r (getPs ⟨(belA xs F B off sh gk gm gc each lv).1.toArray⟩ p.2.toNat) (rows ++ [getPs ⟨(belA xs F B off sh gk gm gc each lv).1.toArray⟩ p.2.toNat])
def okL (f Z n : Nat) : List (Nat × Int) → Nat → Prop
 | [], m => n ≤ Z * m ∧ m ≤ 5000
 | p :: r, m => m ≤ 5000 ∧ 0 ≤ p.2 ∧ p.2.toNat ≤ f * m ∧ p.2.toNat ≤ 5000 ∧ okL f Z n r p.2.toNat
def loadA (xs : List ByteArray) (F : FL) (B : BL) (off : Bool) (sh gk gm gc : Int) (f Z n : Nat) (ks : List (Nat × Int)) (root : S26) : ByteArray × List S26 × Int :=
 let t := ldT xs F B off sh gk gm gc (12 * f) ks [root] [[root]]
 if t.2.2 ≠ 0 then (⟨#[]⟩, [], t.2.2) else
 let b := belA xs F B off sh gk gm gc Z t.1
 if b.2 ≠ 0 then (⟨#[]⟩, [], b.2) else ((⟨b.1.toArray⟩ : ByteArray).extract 0 n, t.2.1.reverse.flatten, 0)
theorem bel_len {xs : List ByteArray} {F : FL} {B : BL} {off : Bool} {fuse : Int} (h : DevOk xs F B fuse) {sh gk gm gc : Int} {each : Nat} (he : each ≤ 512 * nS sh) : ∀ l : List S26, (belA xs F B off sh gk gm gc each l).2 = 0 → (belA xs F B off sh gk gm gc each l).1.length = each * l.length
 | [], _ => rfl
 | p :: l, h0 => by
  rw [belA] at h0 ⊢
  split at h0
  ·rename_i c; exact absurd h0 c
  ·rename_i c
   rw [if_neg c]
   split at h0
   ·rename_i c2; exact absurd h0 c2
   ·rename_i c2
    rw [if_neg c2]
    have hp := pageA_size h (sh := sh) (gk := gk) (gm := gm) (gc := gc) (a := p.f0) (b := p.f1) (sm := p.f2) (off := off) (by simpa using c)
    have ih := bel_len h he l (by simpa using c2)
    dsimp only
    rw [List.length_append, ih, List.length_cons]
    have : ((pageA xs F B off sh gk gm gc p.f0 p.f1 p.f2).1.extract 0 each).data.toList.length = each := by
     show ((pageA xs F B off sh gk gm gc p.f0 p.f1 p.f2).1.extract 0 each).size = each
     rw [ByteArray.size_extract, hp]; omega
    rw [this, Nat.mul_add, Nat.mul_one]; omega
theorem drop_L6 {rs : List (List S26)} {j : Nat} (hj : j < rs.length) : rs.drop j = rd_L11 rs (j : Int) :: rs.drop (j + 1) := by
 rw [List.drop_eq_getElem_cons hj, rd_L11, Int.toNat_natCast, List.getD_eq_getElem?_getD, List.getElem?_eq_getElem hj, Option.getD_some]
theorem concat_l1 (rs : List (List S26)) (hr : ∀ r ∈ rs, r.length ≤ 5000) (hl : rs.length ≤ 1000) : ∀ (q i : Nat) (acc : List S26), i ≤ rs.length → rs.length < i + q → acc.length ≤ 5000 * i → api_Ptr_86.l1 q acc rs (rs.length : Int) (i : Int) = some (acc ++ (rs.drop i).flatten) := by
 intro q
 induction q with
 | zero => intro i acc h1 h2; omega
 | succ q ih =>
  intro i acc h1 h2 h3
  rw [api_Ptr_86.l1]
  by_cases hi : i < rs.length
  ·have hm : (rd_L11 rs (i : Int)).length ≤ 5000 := by
    refine hr _ ?_
    rw [rd_L11, Int.toNat_natCast, List.getD_eq_getElem?_getD, List.getElem?_eq_getElem hi, Option.getD_some]
    exact List.getElem_mem hi
   rw [if_pos (by omega), if_pos (by omega), if_pos (by omega), if_pos (by omega), drop_L6 hi, List.flatten_cons, ← List.append_assoc]
   have e : wrap64 ((i : Int) + 1) = ((i + 1 : Nat) : Int) := by rw [wrap64_id (by omega) (by omega)]; omega
   rw [e]
   exact ih (i + 1) _ (by omega) (by omega) (by rw [List.length_append]; omega)
  ·rw [if_neg (by omega), List.drop_of_length_le (by omega), List.flatten_nil, List.append_nil]
theorem concat_ok (rs : List (List S26)) (hr : ∀ r ∈ rs, r.length ≤ 5000) (hl : rs.length ≤ 1000) : api_Ptr_86.f (2 * rs.length + 4) rs = some rs.flatten := by
 have h0 : ∀ (q i n : Nat), i ≤ rs.length → rs.length < i + q → n ≤ 5000 * i → api_Ptr_86.l0 (q + rs.length + 2) rs (n : Int) rs (rs.length : Int) (i : Int) = some rs.flatten := by
  intro q
  induction q with
  | zero => intro i n h1 h2; omega
  | succ q ih =>
   intro i n h1 h2 h3
   rw [show q + 1 + rs.length + 2 = (q + rs.length + 2) + 1 by omega, api_Ptr_86.l0]
   by_cases hi : i < rs.length
   ·have hm : (rd_L11 rs (i : Int)).length ≤ 5000 := by
     refine hr _ ?_
     rw [rd_L11, Int.toNat_natCast, List.getD_eq_getElem?_getD, List.getElem?_eq_getElem hi, Option.getD_some]
     exact List.getElem_mem hi
    have e : wrap64 ((i : Int) + 1) = ((i + 1 : Nat) : Int) := by rw [wrap64_id (by omega) (by omega)]; omega
    have e2 : wrap64 ((n : Int) + ((rd_L11 rs (i : Int)).length : Int)) = ((n + (rd_L11 rs (i : Int)).length : Nat) : Int) := by rw [wrap64_id (by omega) (by omega)]; omega
    rw [if_pos (by omega), if_pos (by omega), if_pos (by omega), e, e2, if_neg (by omega)]
    exact ih (i + 1) _ (by omega) (by omega) (by omega)
   ·rw [if_neg (by omega)]
    have hg : api_Ptr_124.f (n : Int) = some [] := by
     unfold api_Ptr_124.f
     rw [if_pos ⟨by omega, by omega⟩]
    rw [hg, Option.bind_some]
    have := concat_l1 rs hr hl (q + rs.length + 2) 0 [] (by omega) (by omega) (by simp)
    simpa using this
 have := h0 (rs.length + 2) 0 0 (by omega) (by omega) (by omega)
 rw [show rs.length + 2 + rs.length + 2 = 2 * rs.length + 4 by omega] at this
 exact this
def LdO (b L : Nat) (vs : List Value) (vr : Value) : Nat → Prop := fun k => k = b + 1 + 1 + 1 ∨ k = b + 1 + 1 + 1 + 1 ∨ k = b + 1 + 1 + 1 + 1 + 1 ∨ k = L ∨ k = L + 1 + 1 ∨ vr.ownBlock = some k ∨ ∃ v ∈ vs, v.ownBlock = some k
structure LdQ (w W : World) (b L : Nat) (dv : Value) (sh gk gm gc : Int) (rows : List (List S26)) (vr : Value) (vs : List Value) : Prop where
 k0 : W.heap[b]? = some (.cells #[dv] 38 (0, 0))
 k1 : W.heap[b + 1]? = some (.cells #[.int .i64 sh, .int .i64 gk, .int .i64 gm, .int .i64 gc] 23 (0, 0))
 k3 : W.heap[b + 1 + 1 + 1]? = some (.cells #[.string ⟨#[]⟩] 9 (0, 0))
 k4 : W.heap[b + 1 + 1 + 1 + 1]? = some (.cells #[.slice none 0 0] 60 (0, 0))
 k5 : W.heap[b + 1 + 1 + 1 + 1 + 1]? = some (.cells #[.int .i64 0] 30 (0, 0))
 kr : W.heap[L + 1 + 1]? = some (.cells #[vr] 137 (0, 0))
 rr : W.ownsRow b 60 1 vr vs.length vs
 al : AllR W b vs rows
 hb : Below b w W
 hw : b ≤ w.heap.size
 hL : b + 1 + 1 + 1 + 1 + 1 < L
 far : ∀ k, (vr.ownBlock = some k ∨ ∃ v ∈ vs, v.ownBlock = some k) → b + 1 + 1 + 1 + 1 + 1 < k ∧ k ≠ L ∧ k ≠ L + 1 + 1
structure LdI (w W : World) (b L : Nat) (dv : Value) (sh gk gm gc : Int) (lv : List S26) (rows : List (List S26)) (vl vr : Value) (vs : List Value) : Prop where
 q : LdQ w W b L dv sh gk gm gc rows vr vs
 kl : W.heap[L]? = some (.cells #[vl] 60 (0, 0))
 rl : Kd.R k26 26 W b (fun _ => True) vl lv
 mm : vl ∈ vs
variable {w W W' : World} {b L : Nat} {dv vl vr : Value} {sh gk gm gc : Int} {lv : List S26} {rows : List (List S26)} {vs : List Value} {S : Nat → Prop}
theorem AllR.own {base : Nat} {v : Value} (h : AllR W base vs rows) (hv : v ∈ vs) : ∃ r, Kd.R k26 26 W base (fun _ => True) v r := by
 obtain ⟨j, hj, e⟩ := List.getElem_of_mem hv
 have hl := h.len
 obtain ⟨v', e1, h2⟩ := h.get j rows[j] (List.getElem?_eq_getElem (by omega))
 rw [List.getElem?_eq_getElem hj, e] at e1
 cases e1
 exact ⟨_, h2⟩
theorem R26_lt {base : Nat} {v : Value} {r : List S26} (h : Kd.R k26 26 W base (fun _ => True) v r) {k : Nat} (hk : v.ownBlock = some k) : k < W.heap.size := by
 obtain ⟨inner, ho⟩ := Kd.R_own h
 exact own_lt ho k hk
theorem R26_step {base : Nat} {v : Value} {r : List S26} (h : Kd.R k26 26 W base (fun _ => True) v r) (hS : Step S W W') (hn : ∀ k, v.ownBlock = some k → ¬ S k) : Kd.R k26 26 W' base (fun _ => True) v r :=
 R26_move h (fun g cells hg hc => by rw [hS.block hc (hn g hg), hc])
theorem LdQ.lt (h : LdQ w W b L dv sh gk gm gc rows vr vs) (hl : L < W.heap.size) : ∀ k, LdO b L vs vr k → k < W.heap.size := by
 intro k hk
 have h1 := blk_lt h.kr
 have h2 := h.hL
 rcases hk with rfl | rfl | rfl | rfl | rfl | hk | ⟨v, hv, hk⟩
 ·omega
 ·omega
 ·omega
 ·omega
 ·exact h1
 ·exact own_lt h.rr k hk
 ·obtain ⟨r, hr⟩ := h.al.own hv
  exact R26_lt hr hk
theorem LdI.lt (h : LdI w W b L dv sh gk gm gc lv rows vl vr vs) : ∀ k, LdO b L vs vr k → k < W.heap.size := h.q.lt (blk_lt h.kl)
theorem LdQ.step (h : LdQ w W b L dv sh gk gm gc rows vr vs) (hS : Step S W W') (h0 : ∀ k, S k → k ≠ b ∧ k ≠ b + 1 ∧ b ≤ k) (hn : ∀ k, S k → LdO b L vs vr k → k = L) : LdQ w W' b L dv sh gk gm gc rows vr vs := by
 have n3 : ¬ S (b + 1 + 1 + 1) := fun e => by have := hn _ e (Or.inl rfl); have := h.hL; omega
 have n4 : ¬ S (b + 1 + 1 + 1 + 1) := fun e => by have := hn _ e (Or.inr (Or.inl rfl)); have := h.hL; omega
 have n5 : ¬ S (b + 1 + 1 + 1 + 1 + 1) := fun e => by have := hn _ e (Or.inr (Or.inr (Or.inl rfl))); have := h.hL; omega
 have nr : ¬ S (L + 1 + 1) := fun e => by have := hn _ e (Or.inr (Or.inr (Or.inr (Or.inr (Or.inl rfl))))); omega
 have hf := h.far
 refine ⟨hS.block h.k0 (fun e => (h0 _ e).1 rfl), hS.block h.k1 (fun e => (h0 _ e).2.1 rfl), hS.block h.k3 n3, hS.block h.k4 n4, hS.block h.k5 n5, hS.block h.kr nr, ownsRow_step hS h.rr (fun g hg e => ?_), h.al.imp (fun v r hv hr => R26_step hr hS (fun g hg e => ?_)), h.hb.trans (hS.below (Nat.le_trans h.hw h.hb.size) (fun k hk => (h0 k hk).2.2)), h.hw, h.hL, hf⟩
 ·exact (hf g (Or.inl hg)).2.1 (hn g e (Or.inr (Or.inr (Or.inr (Or.inr (Or.inr (Or.inl hg)))))))
 ·exact (hf g (Or.inr ⟨v, hv, hg⟩)).2.1 (hn g e (Or.inr (Or.inr (Or.inr (Or.inr (Or.inr (Or.inr ⟨v, hv, hg⟩)))))))
theorem LdI.step (h : LdI w W b L dv sh gk gm gc lv rows vl vr vs) (hS : Step S W W') (h0 : ∀ k, S k → k ≠ b ∧ k ≠ b + 1 ∧ b ≤ k) (hn : ∀ k, S k → ¬ LdO b L vs vr k) : LdI w W' b L dv sh gk gm gc lv rows vl vr vs :=
 ⟨h.q.step hS h0 (fun k hk ho => absurd ho (hn k hk)), hS.block h.kl (fun e => hn _ e (Or.inr (Or.inr (Or.inr (Or.inl rfl))))), R26_step h.rl hS (fun g hg e => hn g e (Or.inr (Or.inr (Or.inr (Or.inr (Or.inr (Or.inr ⟨vl, h.mm, hg⟩))))))), h.mm⟩
theorem LdI.quiet (h : LdI w W b L dv sh gk gm gc lv rows vl vr vs) (hS : Step (fun _ => False) W W') : LdI w W' b L dv sh gk gm gc lv rows vl vr vs := h.step hS (fun _ h => h.elim) (fun _ h => h.elim)
theorem LdQ.grow {g1 cap1 : Nat} {vC : Value} {r : List S26} (h : LdQ w W b L dv sh gk gm gc rows vr vs) (hlL : L < W.heap.size) (hr : Kd.R k26 26 W b (fun _ => True) vC r) (hf : ∀ k, vC.ownBlock = some k → b + 1 + 1 + 1 + 1 + 1 < k ∧ k ≠ L ∧ k ≠ L + 1 + 1)
  (hS : Step (fun k => vr.ownBlock = some k) W W') (ho : W'.ownsRow b 60 1 (.slice (some ⟨g1, 0, none⟩) (vs.length + 1) cap1) (vs.length + 1) (vs ++ [vC])) (hg1 : vr.ownBlock = some g1 ∨ W.heap.size ≤ g1) (hc : vC.oneCell' = true) :
  LdQ w (W'.setCell ⟨L + 1 + 1, 0, none⟩ (.slice (some ⟨g1, 0, none⟩) (vs.length + 1) cap1)) b L dv sh gk gm gc (rows ++ [r]) (.slice (some ⟨g1, 0, none⟩) (vs.length + 1) cap1) (vs ++ [vC]) := by
 have hrr := h.rr
 have ht : ∀ (v : Value) (r : List S26), Kd.R k26 26 W b (fun _ => True) v r → ∀ g, v.ownBlock = some g → ¬ vr.ownBlock = some g := fun v r hv g hg e => by
  obtain ⟨inner, hor⟩ := Kd.R_own hv
  obtain ⟨cells, hcg⟩ := own_typed hor g hg
  obtain ⟨cells2, hcg2⟩ := own_typed h.rr g e
  rw [hcg] at hcg2
  cases hcg2
 have hg1f : b + 1 + 1 + 1 + 1 + 1 < g1 ∧ g1 ≠ L ∧ g1 ≠ L + 1 + 1 := by
  have h1 := blk_lt h.kr
  have h2 := h.hL
  rcases hg1 with e | e
  ·exact h.far g1 (Or.inl e)
  ·omega
 have hsr : Step (fun k => k = L + 1 + 1) W' (W'.setCell ⟨L + 1 + 1, 0, none⟩ (.slice (some ⟨g1, 0, none⟩) (vs.length + 1) cap1)) := Step.setCell (S := fun k => k = L + 1 + 1) W' (p := ⟨L + 1 + 1, 0, none⟩) rfl _
 have hS2 := hS.trans hsr (U := fun k => vr.ownBlock = some k ∨ k = L + 1 + 1) (fun _ h => Or.inl h) (fun _ h => Or.inl (Or.inr h))
 have hfr : ∀ k, vr.ownBlock = some k → b + 1 + 1 + 1 + 1 + 1 < k ∧ k ≠ L ∧ k ≠ L + 1 + 1 := fun k hk => h.far k (Or.inl hk)
 have hL := h.hL
 have nk : ∀ k, k ≤ b + 1 + 1 + 1 + 1 + 1 → ¬ (vr.ownBlock = some k ∨ k = L + 1 + 1) := fun k hk e => by
  rcases e with e | e
  ·have := hfr k e; omega
  ·omega
 have hkr2 := hS.block h.kr (fun e => (hfr _ e).2.2 rfl)
 refine ⟨hS2.block h.k0 (nk _ (by omega)), hS2.block h.k1 (nk _ (by omega)), hS2.block h.k3 (nk _ (by omega)), hS2.block h.k4 (nk _ (by omega)), hS2.block h.k5 (nk _ (by omega)), blk_set hkr2 0 _, ?_, ?_, h.hb.trans (hS2.below (Nat.le_trans h.hw h.hb.size) (fun k hk => ?_)), h.hw, hL, fun k hk => ?_⟩
 ·rw [List.length_append, List.length_singleton]
  exact ownsRow_step hsr ho (fun g hg e => by simp [Value.ownBlock] at hg; omega)
 ·refine AllR.append (h.al.imp (fun v r hv hr => R26_step hr hS2 (fun g hg e => ?_))) ⟨R26_step hr hS2 (fun g hg e => ?_), trivial⟩
  ·rcases e with e | e
   ·exact ht v r hr g hg e
   ·exact (h.far g (Or.inr ⟨v, hv, hg⟩)).2.2 e
  ·rcases e with e | e
   ·exact ht vC _ hr g hg e
   ·exact (hf g hg).2.2 e
 ·rcases hk with e | e
  ·have := hfr k e; omega
  ·omega
 ·rcases hk with e | ⟨v, hv, e⟩
  ·simp [Value.ownBlock] at e
   subst e
   exact hg1f
  ·rcases List.mem_append.1 hv with hv | hv
   ·exact h.far k (Or.inr ⟨v, hv, e⟩)
   ·rw [List.mem_singleton.1 hv] at e
    exact hf k e
theorem res3 {fn : Func} {p q r : Tmp} (h : fn.results = #[.cell p 9, .cell q 60, .cell r 30]) (tmps : Array Value) {s : ByteArray} {A : Option Addr} {n c : Nat} {y : Int} {a3 a4 a5 : Nat} (h3 : W.heap[a3]? = some (.cells #[.string s] 9 (0, 0))) (h4 : W.heap[a4]? = some (.cells #[.slice A n c] 60 (0, 0))) (h5 : W.heap[a5]? = some (.cells #[.int .i64 y] 30 (0, 0)))
  (hp : tmps.getD p undef = .pointer (some ⟨a3, 0, none⟩)) (hq : tmps.getD q undef = .pointer (some ⟨a4, 0, none⟩)) (hr : tmps.getD r undef = .pointer (some ⟨a5, 0, none⟩)) : (results fn tmps).run Tryd.prog W = .ok (.tuple #[.string s, .slice A n c, .int .i64 y]) W :=
 results_c3 h tmps W ⟨a3, 0, none⟩ ⟨a4, 0, none⟩ ⟨a5, 0, none⟩ hp (loadVar9 W _ s (by rw [Lib.cell_of_heap h3]; rfl)) hq (loadVar60 W _ A n c (by rw [Lib.cell_of_heap h4]; rfl)) hr (loadVar30 W _ y (by rw [Lib.cell_of_heap h5]; rfl))
theorem int_C {w : World} {base g c n : Nat} {ys xs : List Int} (ho : w.ownsRow base 3 1 (.slice (some ⟨g, 0, none⟩) n c) n (ys.map (Value.int .i64))) (hx : xs <+: ys) (hn : xs.length ≤ 1000000) : Kd.C (Kd.int .i64) w (some ⟨g, 0, none⟩) xs.length xs := by
 refine ⟨rfl, by omega, fun _ => ⟨⟨g, 0, none⟩, rfl, fun j r hj => ?_⟩⟩
 have hj2 : ys[j]? = some r := by
  obtain ⟨t, rfl⟩ := hx
  rw [List.getElem?_append_left (List.getElem?_eq_some_iff.1 hj).1]
  exact hj
 refine ⟨[.int .i64 r], rfl, rfl, fun q u hq => ?_⟩
 have hq0 : q = 0 := by
  rcases q with _ | q
  ·rfl
  ·simp at hq
 subst hq0
 simp at hq
 subst hq
 have := ownsRow_cell ho (j := j) (u := .int .i64 r) (by rw [List.getElem?_map, hj2]; rfl)
 have e3 : (⟨g, 0, none⟩ : Addr).add (j * (Kd.int .i64).sz + 0) = ⟨g, j, none⟩ := by
  show (⟨g, 0, none⟩ : Addr).add (j * 1 + 0) = _
  simp [Addr.add]
  try omega
 rw [e3]
 exact this
theorem own_new1 {w : World} {g t base : Nat} {cs : List Value} {size n : Nat} (h : w.heap[g]? = some (.cells cs.toArray t (0, 0))) (hb : base ≤ g) (hn : cs.length = n * size) (hl : n ≤ maxLen) : w.ownsRow base t size (.slice (some ⟨g, 0, none⟩) n n) n cs :=
 ⟨hn, Or.inr ⟨g, n, cs.toArray, rfl, hb, h, Nat.le_refl _, hl, by simp [hn], by rw [← hn]; simp⟩⟩
def LdJ (w : World) (b L : Nat) (dv : Value) (sh gk gm gc : Int) (xs : List ByteArray) (F : FL) (B : BL) (off : Bool) (each f Z n : Nat) (ks : List (Nat × Int)) (T : List S26 × List (List S26) × Int) (O : Nat → Prop) (pre : List (Nat × Int)) (W : World) : Prop :=
 ∃ rest lv rows vs vl vr, ks = pre ++ rest ∧ T = ldT xs F B off sh gk gm gc each rest lv rows ∧ okL f Z n rest lv.length ∧ (∀ k, O k ↔ LdO b L vs vr k) ∧ LdI w W b L dv sh gk gm gc lv rows vl vr vs ∧ vs.length = pre.length + 1 ∧ ∀ r ∈ rows, r.length ≤ 5000
def LdX (w : World) (b : Nat) (T : List S26 × List (List S26) × Int) (O : Nat → Prop) (W : World) : Prop :=
 T.2.2 ≠ 0 ∧ (∀ k, O k ↔ k = b + 1 + 1 + 1 ∨ k = b + 1 + 1 + 1 + 1 ∨ k = b + 1 + 1 + 1 + 1 + 1) ∧ W.heap[b + 1 + 1 + 1]? = some (.cells #[.string ⟨#[]⟩] 9 (0, 0)) ∧ W.heap[b + 1 + 1 + 1 + 1]? = some (.cells #[.slice none 0 0] 60 (0, 0)) ∧ W.heap[b + 1 + 1 + 1 + 1 + 1]? = some (.cells #[.int .i64 T.2.2] 30 (0, 0)) ∧ Below b w W ∧ b ≤ w.heap.size
section
variable {w W W' V : World} {b L each f Z n : Nat} {dv : Value} {sh gk gm gc : Int} {xs : List ByteArray} {F : FL} {B : BL} {off : Bool} {ks pre : List (Nat × Int)} {T : List S26 × List (List S26) × Int} {O S : Nat → Prop}
theorem LdJ.lt (h : LdJ w b L dv sh gk gm gc xs F B off each f Z n ks T O pre W) : ∀ k, O k → k < W.heap.size := by
 obtain ⟨rest, lv, rows, vs, vl, vr, _, _, _, hO, hI, _⟩ := h
 exact fun k hk => hI.lt k ((hO k).1 hk)
theorem LdJ.step (hV : b + 1 < V.heap.size) (h : LdJ w b L dv sh gk gm gc xs F B off each f Z n ks T O pre W) (hS : Step S W W') (hs : ∀ k, S k → ¬ O k ∧ (False ∨ V.heap.size ≤ k)) : LdJ w b L dv sh gk gm gc xs F B off each f Z n ks T O pre W' := by
 obtain ⟨rest, lv, rows, vs, vl, vr, h1, h2, h3, hO, hI, h4⟩ := h
 exact ⟨rest, lv, rows, vs, vl, vr, h1, h2, h3, hO, hI.step hS (fun k hk => by have := (hs k hk).2.elim (fun h => h.elim) id; omega) (fun k hk ho => (hs k hk).1 ((hO k).2 ho)), h4⟩
theorem LdX.lt (h : LdX w b T O W) : ∀ k, O k → k < W.heap.size := by
 obtain ⟨_, hO, h3, h4, h5, _⟩ := h
 intro k hk
 rcases (hO k).1 hk with rfl | rfl | rfl
 ·exact blk_lt h3
 ·exact blk_lt h4
 ·exact blk_lt h5
theorem LdX.step (hV : b + 1 < V.heap.size) (h : LdX w b T O W) (hS : Step S W W') (hs : ∀ k, S k → ¬ O k ∧ (False ∨ V.heap.size ≤ k)) : LdX w b T O W' := by
 obtain ⟨h0, hO, h3, h4, h5, hB, hb⟩ := h
 exact ⟨h0, hO, hS.block h3 (fun h => (hs _ h).1 ((hO _).2 (Or.inl rfl))), hS.block h4 (fun h => (hs _ h).1 ((hO _).2 (Or.inr (Or.inl rfl)))), hS.block h5 (fun h => (hs _ h).1 ((hO _).2 (Or.inr (Or.inr rfl)))), hB.trans (hS.below (Nat.le_trans hb hB.size) (fun k hk => by have := (hs k hk).2.elim (fun h => h.elim) id; omega)), hb⟩
end
theorem st3 {W : World} {b : Nat} {x0 x1 x2 : Value} (s v y : Value) (h3 : W.heap[b + 1 + 1 + 1]? = some (.cells #[x0] 9 (0, 0))) (h4 : W.heap[b + 1 + 1 + 1 + 1]? = some (.cells #[x1] 60 (0, 0))) (h5 : W.heap[b + 1 + 1 + 1 + 1 + 1]? = some (.cells #[x2] 30 (0, 0))) : ∃ W', W' = ((W.setCell ⟨b + 1 + 1 + 1, 0, none⟩ s).setCell ⟨b + 1 + 1 + 1 + 1, 0, none⟩ v).setCell ⟨b + 1 + 1 + 1 + 1 + 1, 0, none⟩ y ∧
  W'.heap[b + 1 + 1 + 1]? = some (.cells #[s] 9 (0, 0)) ∧ W'.heap[b + 1 + 1 + 1 + 1]? = some (.cells #[v] 60 (0, 0)) ∧ W'.heap[b + 1 + 1 + 1 + 1 + 1]? = some (.cells #[y] 30 (0, 0)) ∧ Step (fun k => k = b + 1 + 1 + 1 ∨ k = b + 1 + 1 + 1 + 1 ∨ k = b + 1 + 1 + 1 + 1 + 1) W W' := by
 have s1 : Step (fun k => k = b + 1 + 1 + 1) W (W.setCell ⟨b + 1 + 1 + 1, 0, none⟩ s) := Step.setCell (S := fun k => k = b + 1 + 1 + 1) W (p := ⟨b + 1 + 1 + 1, 0, none⟩) rfl _
 have g3 := blk_set h3 0 s
 replace h4 := s1.block h4 (by omega)
 replace h5 := s1.block h5 (by omega)
 generalize W.setCell ⟨b + 1 + 1 + 1, 0, none⟩ s = W1 at *
 have s2 : Step (fun k => k = b + 1 + 1 + 1 + 1) W1 (W1.setCell ⟨b + 1 + 1 + 1 + 1, 0, none⟩ v) := Step.setCell (S := fun k => k = b + 1 + 1 + 1 + 1) W1 (p := ⟨b + 1 + 1 + 1 + 1, 0, none⟩) rfl _
 have g4 := blk_set h4 0 v
 replace g3 := s2.block g3 (by omega)
 replace h5 := s2.block h5 (by omega)
 generalize W1.setCell ⟨b + 1 + 1 + 1 + 1, 0, none⟩ v = W2 at *
 have s3 : Step (fun k => k = b + 1 + 1 + 1 + 1 + 1) W2 (W2.setCell ⟨b + 1 + 1 + 1 + 1 + 1, 0, none⟩ y) := Step.setCell (S := fun k => k = b + 1 + 1 + 1 + 1 + 1) W2 (p := ⟨b + 1 + 1 + 1 + 1 + 1, 0, none⟩) rfl _
 exact ⟨_, rfl, s3.block g3 (by omega), s3.block g4 (by omega), blk_set h5 0 y, (s1.trans s2 (U := fun k => k = b + 1 + 1 + 1 ∨ k = b + 1 + 1 + 1 + 1 ∨ k = b + 1 + 1 + 1 + 1 + 1) (fun _ h => Or.inl h) (fun _ h => Or.inl (Or.inr (Or.inl h)))).trans s3 (fun _ h => h) (fun _ h => Or.inl (Or.inr (Or.inr h)))⟩
theorem own_slice {w : World} {base e size n : Nat} {v : Value} {xs : List Value} (h : w.ownsRow base e size v n xs) : ∃ A c, v = .slice A n c := by
 rcases h.2 with ⟨rfl, rfl⟩ | ⟨g, cap, cur, rfl, _⟩
 ·exact ⟨none, 0, rfl⟩
 ·exact ⟨_, _, rfl⟩
theorem own_le {w : World} {base e size n : Nat} {v : Value} {xs : List Value} (h : w.ownsRow base e size v n xs) (q : Nat) (hq : v.ownBlock = some q) : base ≤ q := by
 rcases h.2 with ⟨rfl, rfl⟩ | ⟨g, cap, cur, rfl, hb, _⟩
 ·simp [Value.ownBlock] at hq
 ·simp [Value.ownBlock] at hq; omega
theorem info60L : (Tryd.prog.info? 60).map (fun i => (i.zero, i.size, i.bytes)) = some (some (.slice none 0 0), 1, 24) := by kernel_rfl
set_option maxRecDepth 100000 in
set_option maxHeartbeats 16000000 in
theorem load_ok (w : World) (hT : TabAt w) (hw0 : 0 < w.heap.size) (i : DevIds) (xs : List ByteArray) (F : FL) (B : BL) (off : Bool) (fuse nw : Int) (hD : DevAt w i xs F B off fuse nw) (sh gk gm gc : Int) (hg : GeoOk sh gk gm gc) (root : S26) (n : Nat) (hn : n ≤ 100000000) (c0 : Int)
  (hCnt : ∀ W, Calls Tryd.prog 22 #[.agg #[.int .i64 sh, .int .i64 gk, .int .i64 gm, .int .i64 gc], .int .i64 (n : Int)] W fun e w' => e = .returned (.tuple #[.int .i64 c0, .int .i64 0]) ∧ Below W.heap.size W w')
  (ys : List Int) (hy1 : 1 ≤ ys.length) (hyl : ys.length ≤ 100)
  (hLv : ∀ W, Calls Tryd.prog 68 #[.agg #[.int .i64 sh, .int .i64 gk, .int .i64 gm, .int .i64 gc], .int .i64 (n : Int)] W fun e w' => ∃ lb Zr, e = .returned (.func (.func 112) #[] lb) ∧ SeqO Zr (fun _ => False) Tryd.prog 112 lb (fun x : Int => #[.int .i64 x]) ys w' ∧ (∀ r, Zr r → r < w'.heap.size) ∧ Below W.heap.size W w')
  (f : Nat) (hf2 : 12 * f ≤ 512 * nS sh) (hFan : ∀ W, Calls Tryd.prog 75 #[.agg #[.int .i64 sh, .int .i64 gk, .int .i64 gm, .int .i64 gc]] W fun e w' => e = .returned (.int .i64 f) ∧ Below W.heap.size W w')
  (hok : okL f (512 * nS sh) n (bwL ys.dropLast) 1) (R : ByteArray × List S26 × Int) (hR : R = loadA xs F B off sh gk gm gc f (512 * nS sh) n (bwL ys.dropLast) root) :
  Calls Tryd.prog 30 #[.pointer (some ⟨i.d, 0, none⟩), .agg #[.int .i64 sh, .int .i64 gk, .int .i64 gm, .int .i64 gc], .agg #[.int .i64 root.f0, .int .i64 root.f1, .int .u32 root.f2], .int .i64 (n : Int)] w fun e w' => ∃ v, e = .returned (.tuple #[.string R.1, v, .int .i64 R.2.2]) ∧ Kd.R k26 26 w' w.heap.size (fun _ => True) v R.2.1 ∧ Below w.heap.size w w' := by
 have hu23 := Tryd.underlying23
 have hu26 := Tryd.underlying26
 have hu50 := Tryd.underlying50
 have hu60 := Tryd.underlying60
 have hu137 := Tryd.underlying137
 have hSz : ∀ W, Calls Tryd.prog 73 #[.agg #[.int .i64 sh, .int .i64 gk, .int .i64 gm, .int .i64 gc]] W fun e w' => e = .returned (.int .i64 ((512 * nS sh : Nat) : Int)) ∧ Below W.heap.size W w' := fun W => by
  have := geom_Size_any sh gk gm gc W
  rw [sizeP, if_pos hg] at this
  exact this
 have hn7 := nS_le hg.2.1
 have hf3 := hf2
 obtain ⟨Z, hZ⟩ : ∃ Z, Z = 512 * nS sh := ⟨_, rfl⟩
 rw [← hZ] at hSz hf2 hok hR
 have hZ1 : Z ≤ 65536 := by omega
 have hZ2 : Z ≤ 512 * nS sh := Nat.le_of_eq hZ
 clear hZ
 refine (callsIn_wide (n := 4)).1 ?_
 refine callsIn_of_wp_marks Tryd.func30 rfl trivial ?_ rfl
 simp only [Tryd.ntmps30, List.size_toArray, List.length_cons, List.length_nil, Nat.reduceAdd, Nat.reduceSub, Array.replicate_succ, Array.replicate_zero, List.push_toArray, List.append_toArray, List.nil_append, List.cons_append]
 obtain ⟨W0, hW0, hs0, hz0, k0, k1, k2, k3, k4, k5⟩ := six w #[.pointer (some ⟨i.d, 0, none⟩)] #[.int .i64 sh, .int .i64 gk, .int .i64 gm, .int .i64 gc] #[.int .i64 root.f0, .int .i64 root.f1, .int .u32 root.f2] #[.string ⟨#[]⟩] #[.slice none 0 0] #[.int .i64 0] 38 23 26 9 60 30
 gi_wp2
 refine ⟨trivial, ?_⟩
 gi_at_call 22
 refine (callsIn_wide.2 (hCnt _)).mono ?_
 rintro e w1 ⟨rfl, hb1⟩
 rw [← hW0] at hb1
 have hs1 := step2 hs0 (Step.of_below (S := fun _ => False) hb1)
 replace k0 := Stepb hb1 k0
 replace k1 := Stepb hb1 k1
 replace k2 := Stepb hb1 k2
 replace k3 := Stepb hb1 k3
 replace k4 := Stepb hb1 k4
 replace k5 := Stepb hb1 k5
 have hz1 := hb1.size
 rw [hz0] at hz1
 clear hW0 hb1 hs0 hz0 hCnt
 have hB1 : Below w.heap.size w w1 := hs1.below (Nat.le_refl _) (fun _ h => h.elim)
 clear hs1
 obtain ⟨b, hbe⟩ : ∃ b, b = w.heap.size := ⟨_, rfl⟩
 rw [← hbe] at k0 k1 k2 k3 k4 k5 hz1 hB1 ⊢
 have hbw : b ≤ w.heap.size := Nat.le_of_eq hbe
 have hbw2 : w.heap.size ≤ b := Nat.le_of_eq hbe.symm
 clear hbe
 obtain ⟨⟨a0, a1, a2, a3⟩, _⟩ := blk4 k1
 gi_wp2
 refine ⟨trivial, ?_⟩
 gi_at_call 68
 refine (callsIn_wide.2 (hLv _)).mono ?_
 rintro e w2 ⟨lb, Zr, rfl, hSq, hZr, hb2⟩
 replace k0 := Stepb hb2 k0
 replace k1 := Stepb hb2 k1
 replace k2 := Stepb hb2 k2
 replace k3 := Stepb hb2 k3
 replace k4 := Stepb hb2 k4
 replace k5 := Stepb hb2 k5
 have hz2 := hb2.size
 have hB2 := hB1.trans (hb2.mono (Nat.le_trans (by omega) hz1))
 clear a0 a1 a2 a3 hb2 hB1 hLv
 gi_wp2
 refine ⟨trivial, ?_⟩
 gi_at_call 82
 refine (callsIn_wide.2 (collectO_in (enters_of Tryd.func112 (by kernel_rfl) rfl) hSq hZr (by omega))).mono ?_
 rintro e w3 ⟨vm, rfl, hom, hs3⟩
 replace k0 := hs3.block k0 (fun h => h)
 replace k1 := hs3.block k1 (fun h => h)
 replace k2 := hs3.block k2 (fun h => h)
 replace k3 := hs3.block k3 (fun h => h)
 replace k4 := hs3.block k4 (fun h => h)
 replace k5 := hs3.block k5 (fun h => h)
 have hz3 := hs3.size
 have hB3 := hB2.trans (hs3.below (n₀ := b) (by omega) (fun _ h => h.elim))
 clear hs3 hB2 hSq hZr
 obtain ⟨gm_, capm, rfl, hgb, hgl, hgm⟩ := ownsRow_form hom (by omega)
 obtain ⟨z0, z1, z2⟩ := blk3 k2
 have hcap : ys.length ≤ capm := by
  rcases hom.2 with ⟨h0, _⟩ | ⟨g', cap', cur, e', _, _, h1, _⟩
  ·cases h0
  ·cases e'; exact h1
 have i1 : (0 : Int) ≤ (ys.length : Int) - 1 := by omega
 have i2 : (ys.length : Int) - 1 ≤ (capm : Int) := by omega
 obtain ⟨W4, hW4, hs4, hz4, m0, m1, m2, m3⟩ := fourA w3 #[.int .i64 root.f0, .int .i64 root.f1, .int .u32 root.f2] #[.slice (some ⟨w3.heap.size, 0, none⟩) 1 1] #[.slice (some ⟨w3.heap.size, 0, none⟩) 1 1] #[.slice (some ⟨w3.heap.size + 1 + 1, 0, none⟩) 1 1] 26 60 60 137
 gi_wp2
 try rw [← hW4]
 rw [show ys.length - 1 = ys.dropLast.length from (List.length_dropLast).symm]
 refine ⟨trivial, ?_⟩
 gi_at_call 83
 refine (callsIn_wide.2 (Backward_any _ _ _ _)).mono ?_
 rintro e w5 ⟨rfl, rfl⟩
 have hVb : Below W4.heap.size W4 (W4.alloc (.cells #[.slice (some ⟨gm_, 0, none⟩) ys.dropLast.length capm] 50)) := (Below.refl _ _).alloc (Nat.le_refl _) _
 have hVn := World.alloc_heap_new W4 (.cells #[.slice (some ⟨gm_, 0, none⟩) ys.dropLast.length capm] 50)
 have hVs : (W4.alloc (.cells #[.slice (some ⟨gm_, 0, none⟩) ys.dropLast.length capm] 50)).heap.size = W4.heap.size + 1 := by simp
 have hS4 := step2 hs4 (Step.of_below (S := fun _ => False) hVb)
 replace k0 := hS4.block k0 (fun h => h)
 replace k1 := hS4.block k1 (fun h => h)
 replace k3 := hS4.block k3 (fun h => h)
 replace k4 := hS4.block k4 (fun h => h)
 replace k5 := hS4.block k5 (fun h => h)
 replace m0 := Stepb hVb m0
 replace m1 := Stepb hVb m1
 replace m2 := Stepb hVb m2
 replace m3 := Stepb hVb m3
 replace hom := ownsRow_step hS4 hom (fun _ _ h => h)
 have hB4 := hB3.trans (hS4.below (n₀ := b) (by omega) (fun _ h => h.elim))
 clear hs4 hS4 hVb hW4 hB3 k2 z0 z1 z2 i1 i2
 generalize hBx : W4.heap.size = Bx at hz4 hVn hVs ⊢
 generalize W4.alloc (.cells #[.slice (some ⟨gm_, 0, none⟩) ys.dropLast.length capm] 50) = V at *
 clear hBx
 generalize hl0 : w3.heap.size = l0 at *
 clear hl0
 have hza := Nat.le_of_eq hz4
 have hzb := Nat.le_of_eq hz4.symm
 have hzc := Nat.le_of_eq hVs
 have hzd := Nat.le_of_eq hVs.symm
 clear hz4 hVs
 have hI0 : LdI w V b (l0 + 1) (.pointer (some ⟨i.d, 0, none⟩)) sh gk gm gc [root] [[root]] (.slice (some ⟨l0, 0, none⟩) 1 1) (.slice (some ⟨l0 + 1 + 1, 0, none⟩) 1 1) [.slice (some ⟨l0, 0, none⟩) 1 1] := by
  have hR0 : Kd.R k26 26 V b (fun _ => True) (.slice (some ⟨l0, 0, none⟩) 1 1) [root] := R26_of_own (own_new1 (cs := ptrsCells [root]) m0 (by omega) rfl (by decide))
  refine ⟨⟨k0, k1, k3, k4, k5, m3, own_new1 (cs := [.slice (some ⟨l0, 0, none⟩) 1 1]) m2 (by omega) rfl (by decide), ⟨hR0, trivial⟩, hB4, hbw, by omega, fun k hk => ?_⟩, m1, hR0, by simp⟩
  rcases hk with h | ⟨v, hv, h⟩
  ·simp [Value.ownBlock] at h; omega
  ·rw [List.mem_singleton.1 hv] at h
   simp [Value.ownBlock] at h; omega
 generalize hks : bwL ys.dropLast = ks at hok hR
 have hkl : ks.length ≤ 99 := by rw [← hks, bwL_len, List.length_dropLast]; omega
 obtain ⟨T, hTe⟩ : ∃ T, T = ldT xs F B off sh gk gm gc (12 * f) ks [root] [[root]] := ⟨_, rfl⟩
 have hsq := backward_seq V Bx gm_ capm ys.dropLast (by rw [List.length_dropLast]; omega) hVn (by rw [List.length_dropLast]; omega) (by omega) (fun W hW => int_C (ownsRow_step hW hom (fun g hg h => h.2 (by simp [Value.ownBlock] at hg; exact hg.symm))) (List.dropLast_prefix _) (by rw [List.length_dropLast]; omega)) (by omega)
 have hVb1 : b + 1 < V.heap.size := by omega
 clear k0 k1 k3 k4 k5 m0 m1 m2 m3 hVn hom hB4 hgm hcap
 gi_wp2
 refine wpIn_rangeFunc_O (gf := 122) (lb := #[.pointer (some ⟨Bx, 0, none⟩)]) rfl (enters_of Tryd.func122 (by kernel_rfl) rfl) hsq (fun r hr => by omega) (fun _ => rfl)
  (fun O pre Wc => LdJ w b (l0 + 1) (.pointer (some ⟨i.d, 0, none⟩)) sh gk gm gc xs F B off (12 * f) f Z n ks T O pre Wc)
  (fun c O pre Wc => c = .ret ∧ LdX w b T O Wc)
  ⟨?lt, ?step⟩ (fun _ => ⟨?ltx, ?stepx⟩) (LdO b (l0 + 1) [.slice (some ⟨l0, 0, none⟩) 1 1] (.slice (some ⟨l0 + 1 + 1, 0, none⟩) 1 1)) ?o0 ⟨ks, _, _, _, _, _, rfl, hTe, hok, fun _ => Iff.rfl, hI0, rfl, fun r hr => by rw [List.mem_singleton.1 hr]; simp⟩ ?round ?done ?stop
 case o0 =>
  rintro k hk
  rcases hk with rfl | rfl | rfl | rfl | rfl | hk | ⟨v, hv, hk⟩
  ·omega
  ·omega
  ·omega
  ·omega
  ·omega
  ·simp [Value.ownBlock] at hk; omega
  ·rw [List.mem_singleton.1 hv] at hk
   simp [Value.ownBlock] at hk; omega
 case lt => exact fun O pre Wc h => h.lt
 case ltx => exact fun O pre Wc h => h.2.lt
 case step => exact fun O pre Wc W' S h hS hs => h.step hVb1 hS hs
 case stepx => exact fun O pre Wc W' S h hS hs => ⟨h.1, h.2.step hVb1 hS hs⟩
 case round =>
  as_aux_lemma =>
   rintro l O pre x Wc hl hWs - hpre
   rw [hks] at hpre
   dsimp only [bwE]
   gi_wp2
   refine ⟨Step.refl _ _, ?_⟩
   rintro Wb hsb ⟨rest, lv, rows, vs, vl, vr, hke, hTt, hoL, hO, hI, hvl, hr5⟩
   obtain ⟨rest, rfl⟩ : ∃ rest', rest = x :: rest' := by
    obtain ⟨t, ht⟩ := hpre
    rw [hke] at ht
    exact ⟨t, by simpa using ht.symm⟩
   obtain ⟨o1, o2, o3, o4, o5⟩ := hoL
   rw [ldT] at hTt
   clear hTe
   replace hke := hke.symm
   replace hTt := hTt.symm
   obtain ⟨lA, lC, rfl, hlC, hlvC⟩ := Kd.R_reads hI.rl
   have hBel : ∀ W', Step (fun _ => False) Wb W' → Calls Tryd.prog 84 #[.pointer (some ⟨i.d, 0, none⟩), .agg #[.int .i64 sh, .int .i64 gk, .int .i64 gm, .int .i64 gc], .slice lA lv.length lC, .int .i64 (wrap64 (12 * (f : Int)))] W' fun e w' => e = .returned (.tuple #[.string ⟨(belA xs F B off sh gk gm gc (12 * f) lv).1.toArray⟩, .int .i64 (belA xs F B off sh gk gm gc (12 * f) lv).2]) ∧ Step (fun _ => False) W' w' := fun W' hW => by
    have hBw := hI.q.hb.trans (hW.below (n₀ := b) (Nat.le_trans hI.q.hw hI.q.hb.size) (fun _ h => h.elim))
    have hSw : Step (fun _ => False) w W' := ⟨hBw.mono (Nat.zero_le _), fun k hk _ => hBw.block k (Nat.lt_of_lt_of_le hk hbw2)⟩
    have hr := Kd.R_reads (R26_step hI.rl hW (fun _ _ h => h))
    obtain ⟨lA', lC', e', hlC', hC'⟩ := hr
    cases e'
    have q1 : lv.length ≤ 1000000 := by clear hTt; omega
    have q2 : 12 * f ≤ 65536 := by clear hTt; omega
    have hTw := hT.step hSw (fun h => h)
    have hDw := hD.step hSw (fun _ _ h => h)
    have hba := below_any W' hTw i xs F B off fuse nw hDw sh gk gm gc lA lC lv q1 hlC' hC' (12 * f) hf3 q2 (belA xs F B off sh gk gm gc (12 * f) lv) rfl
    rw [show ((12 * f : Nat) : Int) = wrap64 (12 * (f : Int)) from ((wrap64_id (by omega) (by omega)).trans (by omega)).symm] at hba
    exact hba
   have hlen := bel_len (off := off) hD.ok (sh := sh) (gk := gk) (gm := gm) (gc := gc) hf3 lv
   generalize belA xs F B off sh gk gm gc (12 * f) lv = r at hBel hTt hlen
   obtain ⟨rb, ry⟩ := r
   dsimp only at hBel hTt hlen
   obtain ⟨⟨a0, a1, a2, a3⟩, _⟩ := blk4 hI.q.k1
   have c0 : Wb.drew.cell? ⟨b, 0, none⟩ = some (.pointer (some ⟨i.d, 0, none⟩)) := by show Wb.cell? _ = _; rw [Lib.cell_of_heap hI.q.k0]; rfl
   have c1 : Wb.drew.cell? ⟨b + 1, 0, none⟩ = some (.int .i64 sh) := a0
   have c2 : Wb.drew.cell? ⟨b + 1, 1, none⟩ = some (.int .i64 gk) := a1
   have c3 : Wb.drew.cell? ⟨b + 1, 2, none⟩ = some (.int .i64 gm) := a2
   have c4 : Wb.drew.cell? ⟨b + 1, 3, none⟩ = some (.int .i64 gc) := a3
   have cl : Wb.drew.cell? ⟨l0 + 1, 0, none⟩ = some (.slice lA lv.length lC) := by show Wb.cell? _ = _; rw [Lib.cell_of_heap hI.kl]; rfl
   have hS5 : Step (fun _ => False) Wb Wb.drew := Step.drew _ _
   gi_wp2
   refine startIn_ (n := 12) (S := fun w' => w'.cell? ⟨b, 0, none⟩ = some (.pointer (some ⟨i.d, 0, none⟩)) ∧ w'.cell? ⟨b + 1, 0, none⟩ = some (.int .i64 sh) ∧ w'.cell? ⟨b + 1, 1, none⟩ = some (.int .i64 gk) ∧ w'.cell? ⟨b + 1, 2, none⟩ = some (.int .i64 gm) ∧ w'.cell? ⟨b + 1, 3, none⟩ = some (.int .i64 gc) ∧ w'.cell? ⟨l0 + 1, 0, none⟩ = some (.slice lA lv.length lC) ∧ Step (fun _ => False) Wb w') (ds := []) (by rintro ⟨_, _, h⟩; exact h) (by kernel_rfl) #[G,G,G,G,G,G,G,G,G,G,G,G] (by kernel_rfl) rfl rfl ⟨c0, c1, c2, c3, c4, cl, hS5⟩ (fun hHeld => ?_)
   generalize Wb.drew = w3 at hHeld ⊢
   refine tk_ 0 51 ?_ #[Y,G,G,G,G,G,G,G,G,G,G,G] rfl rfl (by kernel_rfl) (fun _ _ _ h => h) (Or.inl ⟨by rfl, ?_⟩) hHeld ?_ ?_ ?_;rotate_left
   ·rintro w' ⟨s0, s1, s2, s3, s4, s5, s6⟩
    go_simp
    with_reducible rfl
   rotate_left;·simp only [Act.put, sA_];rfl
   refine tk_ 1 52 ?_ #[Y,Y,G,G,G,G,G,G,G,G,G,G] rfl rfl (by kernel_rfl) (fun _ _ _ h => h) (Or.inl ⟨by rfl, ?_⟩) hHeld ?_ ?_ ?_;rotate_left
   ·rintro w' ⟨s0, s1, s2, s3, s4, s5, s6⟩
    go_simp
    with_reducible rfl
   rotate_left;·simp only [Act.put, sA_];rfl
   refine tk_ 2 53 ?_ #[Y,Y,Y,G,G,G,G,G,G,G,G,G] rfl rfl (by kernel_rfl) (fun _ _ _ h => h) (Or.inl ⟨by rfl, ?_⟩) hHeld ?_ ?_ ?_;rotate_left
   ·rintro w' ⟨s0, s1, s2, s3, s4, s5, s6⟩
    go_simp
    with_reducible rfl
   rotate_left;·simp only [Act.put, sA_];rfl
   refine tk_ 3 54 ?_ #[Y,Y,Y,Y,G,G,G,G,G,G,G,G] rfl rfl (by kernel_rfl) (fun _ _ _ h => h) (Or.inl ⟨by rfl, ?_⟩) hHeld ?_ ?_ ?_;rotate_left
   ·rintro w' ⟨s0, s1, s2, s3, s4, s5, s6⟩
    go_simp
    with_reducible rfl
   rotate_left;·simp only [Act.put, sA_];rfl
   refine one_ (i := 4) (N := some 55) #[Y,Y,Y,Y,Y,G,G,G,G,G,G,G] rfl rfl (by kernel_rfl) (by decide) (fun K hK => ?_)
   refine goes_ Tryd.func75 (by kernel_rfl) rfl #[.agg #[.int .i64 sh, .int .i64 gk, .int .i64 gm, .int .i64 gc]] (by rfl) rfl rfl (by simp only [List.map_toArray, List.map_cons, List.map_nil]; rfl) ?_
   with_reducible refine (hFan _).mono ?_
   rintro e w4 ⟨rfl, hb4⟩
   refine ⟨_, rfl, ?_⟩
   refine hK.out _ _ ⟨pw_cell_below hb4 hHeld.1, pw_cell_below hb4 hHeld.2.1, pw_cell_below hb4 hHeld.2.2.1, pw_cell_below hb4 hHeld.2.2.2.1, pw_cell_below hb4 hHeld.2.2.2.2.1, pw_cell_below hb4 hHeld.2.2.2.2.2.1, step2 hHeld.2.2.2.2.2.2 (Step.of_below hb4)⟩ (fun hHeld => ?_)
   clear hK K
   refine norm_ (a' := ?_) ?_ ?_;rotate_left
   ·show Act.put _ (some 55) _ = _
    simp only [Act.put, sA_]
    rfl
   refine pu_ 5 56 ?_ #[Y,Y,Y,Y,Y,Y,G,G,G,G,G,G] rfl rfl (by kernel_rfl) (fun _ _ _ h => h) (Or.inl ⟨by rfl, ?_⟩) ?_ ?_ ?_;rotate_left
   ·intro w';go_simp;with_reducible rfl
   rotate_left;·simp only [Act.put, sA_];rfl
   refine one_ (i := 6) (N := some 57) #[Y,Y,Y,Y,Y,Y,Y,G,G,G,G,G] rfl rfl (by kernel_rfl) (by decide) (fun K hK => ?_)
   refine goes_ Tryd.func84 (by kernel_rfl) rfl #[.pointer (some ⟨i.d, 0, none⟩), .agg #[.int .i64 sh, .int .i64 gk, .int .i64 gm, .int .i64 gc], .slice lA lv.length lC, .int .i64 (wrap64 (12 * (f : Int)))] (by rfl) rfl rfl (by simp only [List.map_toArray, List.map_cons, List.map_nil]; rfl) ?_
   with_reducible refine (hBel _ hHeld.2.2.2.2.2.2).mono ?_
   rintro e w5 ⟨rfl, hs5⟩
   refine ⟨_, rfl, ?_⟩
   refine hK.out _ _ ⟨hs5.cell hHeld.1 (fun h => h), hs5.cell hHeld.2.1 (fun h => h), hs5.cell hHeld.2.2.1 (fun h => h), hs5.cell hHeld.2.2.2.1 (fun h => h), hs5.cell hHeld.2.2.2.2.1 (fun h => h), hs5.cell hHeld.2.2.2.2.2.1 (fun h => h), step2 hHeld.2.2.2.2.2.2 hs5⟩ (fun hHeld => ?_)
   clear hK K
   refine norm_ (a' := ?_) ?_ ?_;rotate_left
   ·show Act.put _ (some 57) _ = _
    simp only [Act.put, sA_]
    rfl
   refine pu_ 7 50 ?_ #[Y,Y,Y,Y,Y,Y,Y,Y,G,G,G,G] rfl rfl (by kernel_rfl) (fun _ _ _ h => h) (Or.inl ⟨by rfl, ?_⟩) ?_ ?_ ?_;rotate_left
   ·intro w';go_simp;with_reducible rfl
   rotate_left;·simp only [Act.put, sA_];rfl
   refine pu_ 8 58 ?_ #[Y,Y,Y,Y,Y,Y,Y,Y,Y,G,G,G] rfl rfl (by kernel_rfl) (fun _ _ _ h => h) (Or.inl ⟨by rfl, ?_⟩) ?_ ?_ ?_;rotate_left
   ·intro w';go_simp;with_reducible rfl
   rotate_left;·simp only [Act.put, sA_];rfl
   refine pu_ 9 59 ?_ #[Y,Y,Y,Y,Y,Y,Y,Y,Y,Y,G,G] rfl rfl (by kernel_rfl) (fun _ _ _ h => h) (Or.inl ⟨by rfl, ?_⟩) ?_ ?_ ?_;rotate_left
   ·intro w';go_simp;with_reducible rfl
   rotate_left;·simp only [Act.put, sA_];rfl
   refine pu_ 10 18 ?_ #[Y,Y,Y,Y,Y,Y,Y,Y,Y,Y,Y,G] rfl rfl (by kernel_rfl) (fun _ _ _ h => h) (Or.inl ⟨by rfl, ?_⟩) ?_ ?_ ?_;rotate_left
   ·intro w';go_simp;with_reducible rfl
   rotate_left;·simp only [Act.put, sA_];rfl
   refine pu_ 11 19 ?_ #[Y,Y,Y,Y,Y,Y,Y,Y,Y,Y,Y,Y] rfl rfl (by kernel_rfl) (fun _ _ _ h => h) (Or.inl ⟨by rfl, ?_⟩) ?_ ?_ ?_;rotate_left
   ·intro w';go_simp;with_reducible rfl
   rotate_left;·simp only [Act.put, sA_];rfl
   refine done_ (by kernel_rfl) ?_
   have hS5 : Step (fun _ => False) Wb w5 := hHeld.2.2.2.2.2.2
   have hI5 := hI.quiet hS5
   clear hHeld hBel c0 c1 c2 c3 c4 cl a0 a1 a2 a3 hFan hSz
   by_cases hr0 : ry = 0
   case neg =>
    rw [if_pos hr0] at hTt
    have d1 : (ry != 0) = true := by simpa using hr0
    have hT2 : T.2.2 = ry := by rw [← hTt]
    clear hTt
    have hk3 := hI5.q.k3
    have hk4 := hI5.q.k4
    have hk5 := hI5.q.k5
    have e3 : w5.cell? ⟨b + 1 + 1 + 1, 0, none⟩ = some (.string ⟨#[]⟩) := by rw [Lib.cell_of_heap hk3]; rfl
    have e4 : w5.cell? ⟨b + 1 + 1 + 1 + 1, 0, none⟩ = some (.slice none 0 0) := by rw [Lib.cell_of_heap hk4]; rfl
    have e5 : w5.cell? ⟨b + 1 + 1 + 1 + 1 + 1, 0, none⟩ = some (.int .i64 0) := by rw [Lib.cell_of_heap hk5]; rfl
    have f3 := Lib.frozen_of_heap hk3 0
    have f4 := Lib.frozen_of_heap hk4 0
    have f5 := Lib.frozen_of_heap hk5 0
    gi_wp2
    obtain ⟨W', hW', r3, r4, r5, hst⟩ := st3 (.string ⟨#[]⟩) (.slice none 0 0) (.int .i64 ry) hk3 hk4 hk5
    rw [← hW']
    clear hW'
    have hge := hI5.q.hw
    refine ⟨fun k => k = b + 1 + 1 + 1 ∨ k = b + 1 + 1 + 1 + 1 ∨ k = b + 1 + 1 + 1 + 1 + 1, fun k hk => Or.inl ((hO k).2 (hk.elim Or.inl (fun h => Or.inr (h.elim Or.inl (fun h => Or.inr (Or.inl h)))))), hS5.trans hst (fun _ h => h.elim) (fun k hk => Or.inl ((hO k).2 (hk.elim Or.inl (fun h => Or.inr (h.elim Or.inl (fun h => Or.inr (Or.inl h))))))), rfl, by rw [hT2]; exact hr0, fun _ => Iff.rfl, r3, r4, by rw [hT2]; exact r5, hI5.q.hb.trans (hst.below (Nat.le_trans hge hI5.q.hb.size) (fun k hk => by omega)), hge⟩
   rw [if_neg (fun h => h hr0)] at hTt
   have hrl := hlen hr0
   subst hr0
   have hkl5 := hI5.kl
   have el : w5.cell? ⟨l0 + 1, 0, none⟩ = some (.slice lA lv.length lC) := by rw [Lib.cell_of_heap hkl5]; rfl
   have fl := Lib.frozen_of_heap hkl5 0
   have hl1 := hI5.q.hL
   have hlt5 := blk_lt hkl5
   have hLt5 := hI5.lt
   have hs6 : Step (fun k => k = l0 + 1) w5 (w5.setCell ⟨l0 + 1, 0, none⟩ (.slice none 0 0)) := Step.setCell (S := fun k => k = l0 + 1) w5 (p := ⟨l0 + 1, 0, none⟩) rfl _
   have hQ6 := hI5.q.step hs6 (fun k hk => by omega) (fun k hk _ => hk)
   have hk6 := blk_set hkl5 0 (.slice none 0 0)
   gi_wp2
   generalize w5.setCell ⟨l0 + 1, 0, none⟩ (.slice none 0 0) = w6 at hs6 hQ6 hk6 ⊢
   clear el fl
   obtain ⟨ss, hss⟩ : ∃ ss : ByteArray, ss = ⟨rb.toArray⟩ := ⟨_, rfl⟩
   rw [← hss] at hTt ⊢
   have hssz : ss.size = 12 * f * lv.length := by
    rw [hss, ← hrl]
    exact List.size_toArray
   have hmul : 12 * f * lv.length = 12 * (f * lv.length) := Nat.mul_assoc ..
   clear hss
   gi_loopw [64] (fun t64 wr => ∃ (j : Nat) (vC : Value), t64 = .int .i64 j ∧ (j : Int) ≤ x.2 ∧ LdQ w wr b (l0 + 1) (.pointer (some ⟨i.d, 0, none⟩)) sh gk gm gc rows vr vs ∧ wr.heap[l0 + 1]? = some (.cells #[vC] 60 (0, 0)) ∧ wr.ownsRow w5.heap.size 26 3 vC j (ptrsCells (getPs ss j)) ∧ Step (fun k => k = l0 + 1) w5 wr) (fun t64 _ => (x.2 - intOf t64).toNat)
   case atStart => exact ⟨0, .slice none 0 0, rfl, o2, hQ6, hk6, World.ownsRow_nil _ _ _ _, hs6⟩
   case round =>
    as_aux_lemma =>
     clear hQ6 hk6 hs6
     obtain ⟨j, vC, rfl, hj, hQ, hkl, hRc, hs⟩ := hrel
     by_cases hjx : (j : Int) < x.2
     ·have hdx : 12 * j + 12 ≤ ss.size := by omega
      obtain ⟨cA, cC, rfl⟩ := own_slice hRc
      have hsl : ∀ W : World, (Instr.slice 9 (.string ss) (some (.int .i64 (wrap64 (12 * (j : Int))))) none none).run Tryd.prog W = .ok (.string (ss.extract (12 * j) ss.size)) W := fun W => by
       rw [wrap64_id (by omega) (by omega)]
       have := slice_lo W ss (12 * (j : Int)) (by omega) (by omega)
       rwa [show (12 * (j : Int)).toNat = 12 * j by omega] at this
      have hGP := fun W => GetPtr_at W ss j hdx
      clear hssz hmul hlen hrl hTt o3
      gi_wp2
      refine ⟨trivial, ?_⟩
      gi_at_call 50
      refine (callsIn_wide.2 (hGP _)).mono ?_
      rintro e w7 ⟨rfl, hb7⟩
      have hs7 : Step (fun _ => False) wr w7 := Step.of_below hb7
      have hQ7 := hQ.step hs7 (fun _ h => h.elim) (fun _ h => h.elim)
      have hkl7 := hs7.block hkl (fun h => h)
      have hRc7 := ownsRow_step hs7 hRc (fun _ _ h => h)
      have hs57 := hs.trans hs7 (fun _ h => h) (fun _ h => h.elim)
      have hz57 := hs57.size
      have hlt7 := blk_lt hkl7
      have el : w7.cell? ⟨l0 + 1, 0, none⟩ = some (.slice cA j cC) := by rw [Lib.cell_of_heap hkl7]; rfl
      have hpp := getPs_snoc ss j
      generalize getP ss j = X at hpp ⊢
      have hs8 : Step (fun _ => False) w7 ((w7.alloc (.cells #[.int .i64 X.f0, .int .i64 X.f1, .int .u32 X.f2] 26)).alloc (.cells #[.int .i64 X.f0, .int .i64 X.f1, .int .u32 X.f2] 26)) := step2 (Step.alloc _ _ _) (Step.alloc _ _ _)
      have hnew := World.news_of_block (cs := #[.int .i64 X.f0, .int .i64 X.f1, .int .u32 X.f2]) (t := 26) (fr := (0, 0)) (World.alloc_heap_new (w7.alloc (.cells #[.int .i64 X.f0, .int .i64 X.f1, .int .u32 X.f2] 26)) (.cells #[.int .i64 X.f0, .int .i64 X.f1, .int .u32 X.f2] 26))
      rw [World.size_alloc] at hnew
      have hQ8 := hQ7.step hs8 (fun _ h => h.elim) (fun _ h => h.elim)
      have hkl8 := hs8.block hkl7 (fun h => h)
      have hRc8 := ownsRow_step hs8 hRc7 (fun _ _ h => h)
      have hz8 := hs8.size
      have hs58 := hs57.trans hs8 (fun _ h => h) (fun _ h => h.elim)
      clear hQ hkl hRc hs hb7 hs7 hQ7 hRc7 hs57
      have hjl : j ≤ 5000 := by omega
      have hzz : w5.heap.size ≤ ((w7.alloc (.cells #[.int .i64 X.f0, .int .i64 X.f1, .int .u32 X.f2] 26)).alloc (.cells #[.int .i64 X.f0, .int .i64 X.f1, .int .u32 X.f2] 26)).heap.size := by omega
      have hbo : ∀ q, (Value.slice cA j cC).ownBlock = some q → w5.heap.size ≤ q := fun q hq => own_le hRc8 q hq
      gi_wp2_with (gi_at_builtin; refine wpListIn_append_at _ rfl _ _ 60 rfl w5.heap.size 26 (.agg #[.int .i64 0, .int .i64 0, .int .u32 0]) 3 24 hu60 info26 rfl (by decide) (.slice cA j cC) j (ptrsCells (getPs ss j)) rfl hRc8 ⟨w7.heap.size + 1, 0, none⟩ 1 1 [.int .i64 X.f0, .int .i64 X.f1, .int .u32 X.f2] rfl rfl (by simpa using hnew) (by simp [Value.oneCell']) (by unfold maxLen; omega) (by omega) hzz ?_; intro v9 w9 hown9 hg9 _ hat9; obtain ⟨g9, c9, rfl, hgb9, _, _⟩ := ownsRow_form hown9 (by omega); have hs9 := Step.grown hg9 (S := fun q => (Value.slice cA j cC).ownBlock = some q) (fun q hq => hq); have hkl9 := hs9.block hkl8 (fun h => by have := hbo _ h; omega); have el9 : w9.cell? ⟨l0 + 1, 0, none⟩ = some (.slice cA j cC) := (by rw [Lib.cell_of_heap hkl9]; rfl); have fl9 := Lib.frozen_of_heap hkl9 0)
      go_roundw
      case rel =>
       have hsr : Step (fun k => k = l0 + 1) w9 (w9.setCell ⟨l0 + 1, 0, none⟩ (.slice (some ⟨g9, 0, none⟩) (j + 1) c9)) := Step.setCell (S := fun k => k = l0 + 1) w9 (p := ⟨l0 + 1, 0, none⟩) rfl _
       have hQ9 := hQ8.step hs9 (fun k hk => by have := hbo k hk; omega) (fun k hk ho => by have := hbo k hk; have := hLt5 k ho; omega)
       refine ⟨j + 1, _, by congr 1, by omega, hQ9.step hsr (fun k hk => by omega) (fun k hk _ => hk), blk_set hkl9 0 _, ownsRow_step hsr ?_ (fun g hg e => by simp [Value.ownBlock] at hg; omega), (hs58.trans hs9 (fun _ h => h) (fun k hk => Or.inr (hbo k hk))).trans hsr (fun _ h => h) (fun _ h => Or.inl h)⟩
       rw [hpp, c26_snoc]
       exact hown9
      case measure => first | (simp [intOf]; done) | (simp [intOf]; omega)
     ·have hjx2 : x.2.toNat = j := by omega
      have ekr : wr.cell? ⟨l0 + 1 + 1 + 1, 0, none⟩ = some vr := by rw [Lib.cell_of_heap hQ.kr]; rfl
      have ekl : wr.cell? ⟨l0 + 1, 0, none⟩ = some vC := by rw [Lib.cell_of_heap hkl]; rfl
      obtain ⟨cA, cC, rfl⟩ := own_slice hRc
      obtain ⟨rA, rC, rfl⟩ := own_slice hQ.rr
      have hxn : (x.2 : Int) ≤ (j : Int) := by omega
      rw [hjx2] at hTt o3 o4 o5
      have hvs : vs.length ≤ 200 := by
       have := congrArg List.length hke
       rw [List.length_append] at this
       omega
      have hvl1 := Nat.le_of_eq hvl
      have hvl2 := Nat.le_of_eq hvl.symm
      clear hssz hmul hlen hrl hjx2 hvl
      have hsB : Step (fun _ => False) wr (wr.alloc (.cells #[.slice cA j cC] 60)) := Step.alloc _ _ _
      have hnB := World.news_of_block (cs := #[.slice cA j cC]) (t := 60) (fr := (0, 0)) (World.alloc_heap_new wr (.cells #[.slice cA j cC] 60))
      have hQB := hQ.step hsB (fun _ h => h.elim) (fun _ h => h.elim)
      have hklB := hsB.block hkl (fun h => h)
      have hRcB := ownsRow_step hsB hRc (fun _ _ h => h)
      have hs5B := hs.trans hsB (fun _ h => h) (fun _ h => h.elim)
      have hzB : b ≤ (wr.alloc (.cells #[.slice cA j cC] 60)).heap.size := Nat.le_trans hQB.hw hQB.hb.size
      have hrrB := hQB.rr
      have hkrB := hQB.kr
      have hltB := blk_lt hklB
      have hszB : (wr.alloc (.cells #[.slice cA j cC] 60)).heap.size = wr.heap.size + 1 := by simp
      have hz5B := hs5B.size
      have hz5w := hs.size
      have hrfB : ∀ k, (Value.slice rA vs.length rC).ownBlock = some k → b + 1 + 1 + 1 + 1 + 1 < k ∧ k ≠ l0 + 1 ∧ k ≠ l0 + 1 + 1 + 1 := fun k hk => hQB.far k (Or.inl hk)
      clear hQ hkl hRc hsB hs
      clear hszB
      gi_wp2_with (gi_at_builtin; go_loud (refine wpListIn_append_at _ rfl _ _ 137 rfl b 60 (.slice none 0 0) 1 24 hu137 info60L rfl (by decide) (.slice rA vs.length rC) vs.length vs rfl hrrB ⟨wr.heap.size, 0, none⟩ 1 1 [.slice cA j cC] rfl rfl (by simpa using hnB) (by simp [Value.oneCell']) (by unfold maxLen; omega) (by omega) hzB ?_; intro v9 w9 hown9 hg9 _ hat9; obtain ⟨g9, c9, rfl, hgb9, _, _⟩ := ownsRow_form hown9 (by omega); have hs9 := Step.grown hg9 (S := fun q => (Value.slice rA vs.length rC).ownBlock = some q) (fun q hq => hq); have hkr9 := hs9.block hkrB (fun h => (hrfB _ h).2.2 rfl); have ek9 : w9.cell? ⟨l0 + 1 + 1 + 1, 0, none⟩ = some (.slice rA vs.length rC) := (by rw [Lib.cell_of_heap hkr9]; rfl); have fk9 := Lib.frozen_of_heap hkr9 0))
      have hsr : Step (fun k => k = l0 + 1 + 1 + 1) w9 (w9.setCell ⟨l0 + 1 + 1 + 1, 0, none⟩ (.slice (some ⟨g9, 0, none⟩) (vs.length + 1) c9)) := Step.setCell (S := fun k => k = l0 + 1 + 1 + 1) w9 (p := ⟨l0 + 1 + 1 + 1, 0, none⟩) rfl _
      have hk5r := blk_lt hI5.q.kr
      have hvo : ∀ k, (Value.slice cA j cC).ownBlock = some k → w5.heap.size ≤ k := fun k hk => own_le hRcB k hk
      have hRn : Kd.R k26 26 (wr.alloc (.cells #[.slice cA j cC] 60)) b (fun _ => True) (.slice cA j cC) (getPs ss j) := Kd.R_lower (R26_of_own (by rw [getPs_len]; exact hRcB)) (Nat.le_trans hI5.q.hw hI5.q.hb.size)
      have hg9 : (Value.slice rA vs.length rC).ownBlock = some g9 ∨ wr.heap.size + 1 = g9 := by
       rcases hat9 with e | e
       ·exact Or.inl e.symm
       ·right; simp [Value.ownBlock] at e; exact e.symm
      have hQf := hQB.grow hltB hRn (fun k hk => by have := hvo k hk; omega) hs9 hown9 (hg9.elim Or.inl (fun e => Or.inr (by rw [← e]; simp))) rfl
      have hkl9 := hs9.block hklB (fun h => (hrfB _ h).2.1 rfl)
      have hkf := hsr.block hkl9 (by omega)
      have hne : ∀ k, (Value.slice cA j cC).ownBlock = some k → ¬ (Value.slice rA vs.length rC).ownBlock = some k := fun k hk e => by
       have := hLt5 k (Or.inr (Or.inr (Or.inr (Or.inr (Or.inr (Or.inl e))))))
       have := hvo k hk
       omega
      have hRf := R26_step (R26_step hRn hs9 hne) hsr (fun k hk e => by have := hvo k hk; omega)
      have hSf : Step O Wb (w9.setCell ⟨l0 + 1 + 1 + 1, 0, none⟩ (.slice (some ⟨g9, 0, none⟩) (vs.length + 1) c9)) := by
       have o1 : O (l0 + 1) := (hO _).2 (Or.inr (Or.inr (Or.inr (Or.inl rfl))))
       have o2 : O (l0 + 1 + 1 + 1) := (hO _).2 (Or.inr (Or.inr (Or.inr (Or.inr (Or.inl rfl)))))
       have o3 : ∀ k, (Value.slice rA vs.length rC).ownBlock = some k → O k := fun k hk => (hO _).2 (Or.inr (Or.inr (Or.inr (Or.inr (Or.inr (Or.inl hk))))))
       exact ((hS5.trans hs5B (U := O) (fun _ h => h.elim) (fun k hk => Or.inl (hk ▸ o1))).trans hs9 (fun _ h => h) (fun k hk => Or.inl (o3 k hk))).trans hsr (fun _ h => h) (fun k hk => Or.inl (hk ▸ o2))
      have hz5 := hS5.size
      refine ⟨LdO b (l0 + 1) (vs ++ [.slice cA j cC]) (.slice (some ⟨g9, 0, none⟩) (vs.length + 1) c9), fun k hk => ?_, hSf, rest, getPs ss j, rows ++ [getPs ss j], vs ++ [.slice cA j cC], .slice cA j cC, .slice (some ⟨g9, 0, none⟩) (vs.length + 1) c9, ?_, hTt.symm, ?_, fun _ => Iff.rfl, ⟨hQf, hkf, hRf, by simp⟩, ?_, fun r hr => ?_⟩
      ·rcases hk with h | h | h | h | h | h | ⟨v, hv, h⟩
       ·exact Or.inl ((hO k).2 (Or.inl h))
       ·exact Or.inl ((hO k).2 (Or.inr (Or.inl h)))
       ·exact Or.inl ((hO k).2 (Or.inr (Or.inr (Or.inl h))))
       ·exact Or.inl ((hO k).2 (Or.inr (Or.inr (Or.inr (Or.inl h)))))
       ·exact Or.inl ((hO k).2 (Or.inr (Or.inr (Or.inr (Or.inr (Or.inl h))))))
       ·simp [Value.ownBlock] at h
        subst h
        rcases hg9 with e | e
        ·exact Or.inl ((hO _).2 (Or.inr (Or.inr (Or.inr (Or.inr (Or.inr (Or.inl e)))))))
        ·exact Or.inr (by omega)
       ·rcases List.mem_append.1 hv with hv | hv
        ·exact Or.inl ((hO k).2 (Or.inr (Or.inr (Or.inr (Or.inr (Or.inr (Or.inr ⟨v, hv, h⟩)))))))
        ·rw [List.mem_singleton.1 hv] at h
         exact Or.inr (by have := hvo k h; omega)
      ·rw [← hke]; simp
      ·rw [getPs_len]; exact o5
      ·rw [List.length_append, List.length_append, List.length_singleton, List.length_singleton]; omega
      ·rcases List.mem_append.1 hr with hr | hr
       ·exact hr5 r hr
       ·rw [List.mem_singleton.1 hr, getPs_len]; exact o4
 case done =>
  rintro D O Wc hD0 hOD hJ hK
  rw [hks] at hJ
  obtain ⟨rest, lv, rows, vs, vl, vr, hke, hTt, hoL, hO, hI, hvl, hr5⟩ := hJ
  have hre : rest = [] := by
   have := congrArg List.length hke
   rw [List.length_append] at this
   exact List.eq_nil_of_length_eq_zero (by omega)
  subst hre
  rw [ldT] at hTt
  obtain ⟨o1, o2⟩ := hoL
  have hR2 : R = if T.2.2 ≠ 0 then (⟨#[]⟩, [], T.2.2) else if (belA xs F B off sh gk gm gc Z T.1).2 ≠ 0 then (⟨#[]⟩, [], (belA xs F B off sh gk gm gc Z T.1).2) else ((⟨(belA xs F B off sh gk gm gc Z T.1).1.toArray⟩ : ByteArray).extract 0 n, T.2.1.reverse.flatten, 0) := by
   rw [hR, hTe]
   rfl
  rw [hTt, if_neg (fun h => h rfl)] at hR2
  clear hR hTe hTt hke hks hsq
  obtain ⟨lA, lC, rfl, hlC, hlvC⟩ := Kd.R_reads hI.rl
  have hBel : ∀ W', Step (fun _ => False) Wc W' → Calls Tryd.prog 84 #[.pointer (some ⟨i.d, 0, none⟩), .agg #[.int .i64 sh, .int .i64 gk, .int .i64 gm, .int .i64 gc], .slice lA lv.length lC, .int .i64 (Z : Int)] W' fun e w' => e = .returned (.tuple #[.string ⟨(belA xs F B off sh gk gm gc Z lv).1.toArray⟩, .int .i64 (belA xs F B off sh gk gm gc Z lv).2]) ∧ Step (fun _ => False) W' w' := fun W' hW => by
   have hBw := hI.q.hb.trans (hW.below (n₀ := b) (Nat.le_trans hI.q.hw hI.q.hb.size) (fun _ h => h.elim))
   have hSw : Step (fun _ => False) w W' := ⟨hBw.mono (Nat.zero_le _), fun k hk _ => hBw.block k (Nat.lt_of_lt_of_le hk hbw2)⟩
   have hr := Kd.R_reads (R26_step hI.rl hW (fun _ _ h => h))
   obtain ⟨lA', lC', e', hlC', hC'⟩ := hr
   cases e'
   have q1 : lv.length ≤ 1000000 := by omega
   have hTw := hT.step hSw (fun h => h)
   have hDw := hD.step hSw (fun _ _ h => h)
   exact below_any W' hTw i xs F B off fuse nw hDw sh gk gm gc lA lC lv q1 hlC' hC' Z hZ2 hZ1 (belA xs F B off sh gk gm gc Z lv) rfl
  have hlen := bel_len (off := off) hD.ok (sh := sh) (gk := gk) (gm := gm) (gc := gc) hZ2 lv
  generalize belA xs F B off sh gk gm gc Z lv = r at hBel hR2 hlen
  obtain ⟨rb, ry⟩ := r
  dsimp only at hBel hR2 hlen
  obtain ⟨⟨a0, a1, a2, a3⟩, _⟩ := blk4 hI.q.k1
  have c0 : Wc.drew.cell? ⟨b, 0, none⟩ = some (.pointer (some ⟨i.d, 0, none⟩)) := by show Wc.cell? _ = _; rw [Lib.cell_of_heap hI.q.k0]; rfl
  have c1 : Wc.drew.cell? ⟨b + 1, 0, none⟩ = some (.int .i64 sh) := a0
  have c2 : Wc.drew.cell? ⟨b + 1, 1, none⟩ = some (.int .i64 gk) := a1
  have c3 : Wc.drew.cell? ⟨b + 1, 2, none⟩ = some (.int .i64 gm) := a2
  have c4 : Wc.drew.cell? ⟨b + 1, 3, none⟩ = some (.int .i64 gc) := a3
  have cl : Wc.drew.cell? ⟨l0 + 1, 0, none⟩ = some (.slice lA lv.length lC) := by show Wc.cell? _ = _; rw [Lib.cell_of_heap hI.kl]; rfl
  have hS5 : Step (fun _ => False) Wc Wc.drew := Step.drew _ _
  have hDl := blk_lt hK
  have hvl1 := Nat.le_of_eq hvl
  have hvl2 := Nat.le_of_eq hvl.symm
  clear hvl
  gi_wp2
  refine region_only ?_
  refine start_ (n := 11) (S := fun w' => w'.cell? ⟨b, 0, none⟩ = some (.pointer (some ⟨i.d, 0, none⟩)) ∧ w'.cell? ⟨b + 1, 0, none⟩ = some (.int .i64 sh) ∧ w'.cell? ⟨b + 1, 1, none⟩ = some (.int .i64 gk) ∧ w'.cell? ⟨b + 1, 2, none⟩ = some (.int .i64 gm) ∧ w'.cell? ⟨b + 1, 3, none⟩ = some (.int .i64 gc) ∧ w'.cell? ⟨l0 + 1, 0, none⟩ = some (.slice lA lv.length lC) ∧ Step (fun _ => False) Wc w') (ds := []) #[G,G,G,G,G,G,G,G,G,G,G] (by kernel_rfl) rfl rfl ⟨c0, c1, c2, c3, c4, cl, hS5⟩ (fun hHeld => ?_)
  generalize Wc.drew = w3 at hHeld ⊢
  refine tk_ 0 85 ?_ #[Y,G,G,G,G,G,G,G,G,G,G] rfl rfl (by kernel_rfl) (fun _ _ _ h => h) (Or.inl ⟨by rfl, ?_⟩) hHeld ?_ ?_ ?_;rotate_left
  ·rintro w' ⟨s0, s1, s2, s3, s4, s5, s6⟩
   go_simp
   with_reducible rfl
  rotate_left;·simp only [Act.put, sA_];rfl
  refine tk_ 1 86 ?_ #[Y,Y,G,G,G,G,G,G,G,G,G] rfl rfl (by kernel_rfl) (fun _ _ _ h => h) (Or.inl ⟨by rfl, ?_⟩) hHeld ?_ ?_ ?_;rotate_left
  ·rintro w' ⟨s0, s1, s2, s3, s4, s5, s6⟩
   go_simp
   with_reducible rfl
  rotate_left;·simp only [Act.put, sA_];rfl
  refine tk_ 2 87 ?_ #[Y,Y,Y,G,G,G,G,G,G,G,G] rfl rfl (by kernel_rfl) (fun _ _ _ h => h) (Or.inl ⟨by rfl, ?_⟩) hHeld ?_ ?_ ?_;rotate_left
  ·rintro w' ⟨s0, s1, s2, s3, s4, s5, s6⟩
   go_simp
   with_reducible rfl
  rotate_left;·simp only [Act.put, sA_];rfl
  refine tk_ 3 88 ?_ #[Y,Y,Y,Y,G,G,G,G,G,G,G] rfl rfl (by kernel_rfl) (fun _ _ _ h => h) (Or.inl ⟨by rfl, ?_⟩) hHeld ?_ ?_ ?_;rotate_left
  ·rintro w' ⟨s0, s1, s2, s3, s4, s5, s6⟩
   go_simp
   with_reducible rfl
  rotate_left;·simp only [Act.put, sA_];rfl
  refine one_ (i := 4) (N := some 89) #[Y,Y,Y,Y,Y,G,G,G,G,G,G] rfl rfl (by kernel_rfl) (by decide) (fun K hK => ?_)
  refine goes_ Tryd.func73 (by kernel_rfl) rfl #[.agg #[.int .i64 sh, .int .i64 gk, .int .i64 gm, .int .i64 gc]] (by rfl) rfl rfl (by simp only [List.map_toArray, List.map_cons, List.map_nil]; rfl) ?_
  with_reducible refine (hSz _).mono ?_
  rintro e w4 ⟨rfl, hb4⟩
  refine ⟨_, rfl, ?_⟩
  refine hK.out _ _ ⟨pw_cell_below hb4 hHeld.1, pw_cell_below hb4 hHeld.2.1, pw_cell_below hb4 hHeld.2.2.1, pw_cell_below hb4 hHeld.2.2.2.1, pw_cell_below hb4 hHeld.2.2.2.2.1, pw_cell_below hb4 hHeld.2.2.2.2.2.1, step2 hHeld.2.2.2.2.2.2 (Step.of_below hb4)⟩ (fun hHeld => ?_)
  clear hK K
  refine norm_ (a' := ?_) ?_ ?_;rotate_left
  ·show Act.put _ (some 89) _ = _
   simp only [Act.put, sA_]
   rfl
  refine one_ (i := 5) (N := some 90) #[Y,Y,Y,Y,Y,Y,G,G,G,G,G] rfl rfl (by kernel_rfl) (by decide) (fun K hK => ?_)
  refine goes_ Tryd.func84 (by kernel_rfl) rfl #[.pointer (some ⟨i.d, 0, none⟩), .agg #[.int .i64 sh, .int .i64 gk, .int .i64 gm, .int .i64 gc], .slice lA lv.length lC, .int .i64 (Z : Int)] (by rfl) rfl rfl (by simp only [List.map_toArray, List.map_cons, List.map_nil]; rfl) ?_
  with_reducible refine (hBel _ hHeld.2.2.2.2.2.2).mono ?_
  rintro e w5 ⟨rfl, hs5⟩
  refine ⟨_, rfl, ?_⟩
  refine hK.out _ _ ⟨hs5.cell hHeld.1 (fun h => h), hs5.cell hHeld.2.1 (fun h => h), hs5.cell hHeld.2.2.1 (fun h => h), hs5.cell hHeld.2.2.2.1 (fun h => h), hs5.cell hHeld.2.2.2.2.1 (fun h => h), hs5.cell hHeld.2.2.2.2.2.1 (fun h => h), step2 hHeld.2.2.2.2.2.2 hs5⟩ (fun hHeld => ?_)
  clear hK K
  refine norm_ (a' := ?_) ?_ ?_;rotate_left
  ·show Act.put _ (some 90) _ = _
   simp only [Act.put, sA_]
   rfl
  refine pu_ 6 84 ?_ #[Y,Y,Y,Y,Y,Y,Y,G,G,G,G] rfl rfl (by kernel_rfl) (fun _ _ _ h => h) (Or.inl ⟨by rfl, ?_⟩) ?_ ?_ ?_;rotate_left
  ·intro w';go_simp;with_reducible rfl
  rotate_left;·simp only [Act.put, sA_];rfl
  refine pu_ 7 91 ?_ #[Y,Y,Y,Y,Y,Y,Y,Y,G,G,G] rfl rfl (by kernel_rfl) (fun _ _ _ h => h) (Or.inl ⟨by rfl, ?_⟩) ?_ ?_ ?_;rotate_left
  ·intro w';go_simp;with_reducible rfl
  rotate_left;·simp only [Act.put, sA_];rfl
  refine pu_ 8 92 ?_ #[Y,Y,Y,Y,Y,Y,Y,Y,Y,G,G] rfl rfl (by kernel_rfl) (fun _ _ _ h => h) (Or.inl ⟨by rfl, ?_⟩) ?_ ?_ ?_;rotate_left
  ·intro w';go_simp;with_reducible rfl
  rotate_left;·simp only [Act.put, sA_];rfl
  refine pu_ 9 23 ?_ #[Y,Y,Y,Y,Y,Y,Y,Y,Y,Y,G] rfl rfl (by kernel_rfl) (fun _ _ _ h => h) (Or.inl ⟨by rfl, ?_⟩) ?_ ?_ ?_;rotate_left
  ·intro w';go_simp;with_reducible rfl
  rotate_left;·simp only [Act.put, sA_];rfl
  refine pu_ 10 24 ?_ #[Y,Y,Y,Y,Y,Y,Y,Y,Y,Y,Y] rfl rfl (by kernel_rfl) (fun _ _ _ h => h) (Or.inl ⟨by rfl, ?_⟩) ?_ ?_ ?_;rotate_left
  ·intro w';go_simp;with_reducible rfl
  rotate_left;·simp only [Act.put, sA_];rfl
  refine done_ (by kernel_rfl) ?_
  have hS5 : Step (fun _ => False) Wc w5 := hHeld.2.2.2.2.2.2
  have hI5 := hI.quiet hS5
  replace hK := hS5.block hK (fun h => h)
  clear hHeld hBel c0 c1 c2 c3 c4 cl a0 a1 a2 a3 hFan hSz
  dsimp only [onlyN]
  have hk3 := hI5.q.k3
  have hk4 := hI5.q.k4
  have hk5 := hI5.q.k5
  have hge := hI5.q.hw
  have nD : D ≠ b + 1 + 1 + 1 ∧ D ≠ b + 1 + 1 + 1 + 1 ∧ D ≠ b + 1 + 1 + 1 + 1 + 1 := ⟨fun e => hOD ((hO D).2 (Or.inl e)), fun e => hOD ((hO D).2 (Or.inr (Or.inl e))), fun e => hOD ((hO D).2 (Or.inr (Or.inr (Or.inl e))))⟩
  by_cases hr0 : ry = 0
  case neg =>
   rw [if_pos hr0] at hR2
   have d1 : (ry != 0) = true := by simpa using hr0
   have e3 : w5.cell? ⟨b + 1 + 1 + 1, 0, none⟩ = some (.string ⟨#[]⟩) := by rw [Lib.cell_of_heap hk3]; rfl
   have e4 : w5.cell? ⟨b + 1 + 1 + 1 + 1, 0, none⟩ = some (.slice none 0 0) := by rw [Lib.cell_of_heap hk4]; rfl
   have e5 : w5.cell? ⟨b + 1 + 1 + 1 + 1 + 1, 0, none⟩ = some (.int .i64 0) := by rw [Lib.cell_of_heap hk5]; rfl
   have f3 := Lib.frozen_of_heap hk3 0
   have f4 := Lib.frozen_of_heap hk4 0
   have f5 := Lib.frozen_of_heap hk5 0
   gi_wp2
   obtain ⟨W', hW', r3, r4, r5, hst⟩ := st3 (.string ⟨#[]⟩) (.slice none 0 0) (.int .i64 ry) hk3 hk4 hk5
   rw [← hW']
   clear hW'
   replace hK := hst.block hK (by omega)
   refine ⟨by simp, .inl ⟨_, _, rfl, run_takeDeferred hK, ?_⟩⟩
   have hsp : Step (fun q => q = D) W' (W'.putObj D (.deferred none)) := Step.put W' D _
   refine ⟨_, res3 rfl _ (hsp.block r3 (by omega)) (hsp.block r4 (by omega)) (hsp.block r5 (by omega)) rfl rfl rfl, _, by rw [hR2], by rw [hR2]; exact Kd.R_nil _ _ _ _ _, ?_⟩
   have hbS := hI5.q.hb.size
   have hB5 : Below b w W' := hI5.q.hb.trans (hst.below (by omega) (fun k hk => by omega))
   have hB6 : Below b w (W'.putObj D (.deferred none)) := hB5.trans (hsp.below (by have := hB5.size; omega) (fun k hk => by omega))
   exact hB6.mono hbw2
  have hln := hlen hr0
  subst hr0
  rw [if_neg (fun h => h rfl)] at hR2
  obtain ⟨sb, hsb⟩ : ∃ sb : ByteArray, sb = ⟨rb.toArray⟩ := ⟨_, rfl⟩
  rw [← hsb] at hR2 ⊢
  have hsz : n ≤ sb.size := by
   have : sb.size = Z * lv.length := by rw [hsb, ← hln]; exact List.size_toArray
   omega
  have hsl : ∀ W : World, (Instr.slice 9 (.string sb) none (some (.int .i64 (n : Int))) none).run Tryd.prog W = .ok (.string (sb.extract 0 n)) W := fun W => by
   have := slice_hi W sb (n : Int) (by omega) (by omega)
   rwa [Int.toNat_natCast] at this
  clear hsb hln hlen o1
  have hrr5 := hI5.q.rr
  have hkr5 := hI5.q.kr
  have hfar5 := hI5.q.far
  have hal5 := hI5.q.al
  obtain ⟨rg, rc, rfl, hrgb, hrgl, _⟩ := ownsRow_form hrr5 (by omega)
  have hrf := hfar5 rg (Or.inl rfl)
  have ekr : w5.cell? ⟨l0 + 1 + 1 + 1, 0, none⟩ = some (.slice (some ⟨rg, 0, none⟩) vs.length rc) := by rw [Lib.cell_of_heap hkr5]; rfl
  have hRv := Reverse_any w5 b rg rc vs (by omega) hal5.slice hrr5
  gi_wp2
  refine ⟨trivial, ?_⟩
  gi_at_call 85
  refine (callsIn_wide.2 hRv).mono ?_
  rintro e w6 ⟨⟨vv, rfl⟩, hrr6, hs6⟩
  have hrcap : vs.length ≤ rc := by
   rcases hrr6.2 with ⟨h0, _⟩ | ⟨g', cap', cur, e', _, _, h1, _⟩
   ·cases h0
   ·cases e'; exact h1
  have hkr6 := hs6.block hkr5 (by omega)
  have hk36 := hs6.block hk3 (by omega)
  have hk46 := hs6.block hk4 (by omega)
  have hk56 := hs6.block hk5 (by omega)
  have hal6 : AllR w6 b vs rows := hal5.imp (fun v r hv hr => R26_step hr hs6 (fun g hg e => by
   obtain ⟨inner, hor⟩ := Kd.R_own hr
   obtain ⟨cells, hcg⟩ := own_typed hor g hg
   obtain ⟨cells2, hcg2⟩ := own_typed hrr5 g (by rw [e]; rfl)
   rw [hcg] at hcg2
   cases hcg2))
  have hal7 := hal6.reverse
  have hrl := hal7.len
  have hB6 : Below b w w6 := hI5.q.hb.trans (hs6.below (Nat.le_trans hge hI5.q.hb.size) (fun k hk => by omega))
  replace hK := hs6.block hK (fun e => hOD ((hO D).2 (Or.inr (Or.inr (Or.inr (Or.inr (Or.inr (Or.inl (by rw [e]; rfl)))))))))
  have hrow5 : ∀ r ∈ rows.reverse, r.length ≤ 5000 := fun r hr => hr5 r (List.mem_reverse.1 hr)
  obtain ⟨fl, hfl⟩ : ∃ fl, fl = rows.reverse.flatten := ⟨_, rfl⟩
  have hCat : ∀ W', Step (fun _ => False) w6 W' → Calls Tryd.prog 86 #[.slice (some ⟨rg, 0, none⟩) vs.length rc] W' fun e w' => ∃ v, e = .returned v ∧ Kd.R k26 26 w' W'.heap.size (fun _ => True) v fl ∧ Below W'.heap.size W' w' := fun W' hW => by
   have ho := ownsRow_step hW hrr6 (fun _ _ h => h)
   have ha : AllR W' b vs.reverse rows.reverse := hal7.imp (fun v r _ hr => R26_step hr hW (fun _ _ h => h))
   have hvr : vs.reverse.length = vs.length := List.length_reverse
   rw [← hvr] at ho
   have hC := rows_C ho ha (by omega)
   have := api_Ptr_86.calls (2 * rows.reverse.length + 4) (some ⟨rg, 0, none⟩) rc rows.reverse rows.reverse.flatten W' hC (by omega) (concat_ok rows.reverse hrow5 (by omega))
   rw [← hrl, hvr, ← hfl] at this
   exact this
  rw [← hfl] at hR2
  clear hfl
  have hge6 := hB6.size
  have c1 : w6.drew.cell? ⟨l0 + 1 + 1 + 1, 0, none⟩ = some (.slice (some ⟨rg, 0, none⟩) vs.length rc) := by show w6.cell? _ = _; rw [Lib.cell_of_heap hkr6]; rfl
  have hS7 : Step (fun _ => False) w6 w6.drew := Step.drew _ _
  have hz56 := hs6.size
  have hz55 := hS5.size
  clear hrr5 hkr5 hfar5 hal5 hRv hs6 hk3 hk4 hk5 hI5
  gi_wp2
  refine region_only ?_
  refine start_ (n := 8) (S := fun w' => w'.cell? ⟨l0 + 1 + 1 + 1, 0, none⟩ = some (.slice (some ⟨rg, 0, none⟩) vs.length rc) ∧ Step (fun _ => False) w6 w') (ds := [5, 6, 7]) #[G,G,G,G,G,G,G,G] (by kernel_rfl) rfl rfl ⟨c1, hS7⟩ (fun hHeld => ?_)
  generalize w6.drew = w3 at hHeld ⊢
  refine pu_ 0 98 ?_ #[Y,G,G,G,G,G,G,G] rfl rfl (by kernel_rfl) (fun _ _ _ h => h) (Or.inl ⟨by rfl, ?_⟩) ?_ ?_ ?_;rotate_left
  ·intro w';go_simp;with_reducible rfl
  rotate_left;·simp only [Act.put, sA_];rfl
  refine pu_ 1 99 ?_ #[Y,Y,G,G,G,G,G,G] rfl rfl (by kernel_rfl) (fun _ _ _ h => h) (Or.inl ⟨by rfl, ?_⟩) ?_ ?_ ?_;rotate_left
  ·intro w';go_simp;with_reducible rfl
  rotate_left;·simp only [Act.put, sA_];rfl
  refine pu_ 2 100 ?_ #[Y,Y,Y,G,G,G,G,G] rfl rfl (by kernel_rfl) (fun _ _ _ h => h) (Or.inl ⟨by rfl, ?_⟩) ?_ ?_ ?_;rotate_left
  ·intro w';go_simp;with_reducible rfl
  rotate_left;·simp only [Act.put, sA_];rfl
  refine tk_ 3 101 ?_ #[Y,Y,Y,Y,G,G,G,G] rfl rfl (by kernel_rfl) (fun _ _ _ h => h) (Or.inl ⟨by rfl, ?_⟩) hHeld ?_ ?_ ?_;rotate_left
  ·rintro w' ⟨s0, s1⟩
   go_simp
   with_reducible rfl
  rotate_left;·simp only [Act.put, sA_];rfl
  refine one_ (i := 4) (N := some 102) #[Y,Y,Y,Y,Y,G,G,G] rfl rfl (by kernel_rfl) (by decide) (fun K hK => ?_)
  refine goes_ Tryd.func86 (by kernel_rfl) rfl #[.slice (some ⟨rg, 0, none⟩) vs.length rc] (by rfl) rfl rfl (by simp only [List.map_toArray, List.map_cons, List.map_nil]; rfl) ?_
  with_reducible refine (hCat _ hHeld.2).mono ?_
  rintro e w8 ⟨vc, rfl, hRc8, hb8⟩
  have hz36 := (hHeld.2).size
  have hs8 := step2 hHeld.2 (Step.of_below (S := fun _ => False) hb8)
  obtain ⟨vA, vC, rfl, _, _⟩ := Kd.R_reads hRc8
  have g3 := hs8.block hk36 (fun h => h)
  have g4 := hs8.block hk46 (fun h => h)
  have g5 := hs8.block hk56 (fun h => h)
  have e3 : w8.cell? ⟨b + 1 + 1 + 1, 0, none⟩ = some (.string ⟨#[]⟩) := by rw [Lib.cell_of_heap g3]; rfl
  have e4 : w8.cell? ⟨b + 1 + 1 + 1 + 1, 0, none⟩ = some (.slice none 0 0) := by rw [Lib.cell_of_heap g4]; rfl
  have e5 : w8.cell? ⟨b + 1 + 1 + 1 + 1 + 1, 0, none⟩ = some (.int .i64 0) := by rw [Lib.cell_of_heap g5]; rfl
  have f3 := Lib.frozen_of_heap g3 0
  have f4 := Lib.frozen_of_heap g4 0
  have f5 := Lib.frozen_of_heap g5 0
  refine ⟨_, rfl, ?_⟩
  refine hK.out _ _ ⟨pw_cell_below hb8 hHeld.1, hs8⟩ (fun hHeld => ?_)
  clear hK K
  refine norm_ (a' := ?_) ?_ ?_;rotate_left
  ·show Act.put _ (some 102) _ = _
   simp only [Act.put, sA_]
   rfl
  refine last_ (i := 5) (N := none) #[Y,Y,Y,Y,Y,Y,G,G] rfl rfl (by kernel_rfl) (by decide) (fun K hK => ?_)
  refine skip_ (w1 := ?_) (by rfl) rfl ?_ ?_;rotate_left
  ·go_simp
   rfl
  refine hK.out _ _ ?_
  clear hK K
  refine last_ (i := 6) (N := none) #[Y,Y,Y,Y,Y,Y,Y,G] rfl rfl (by kernel_rfl) (by decide) (fun K hK => ?_)
  refine skip_ (w1 := ?_) (by rfl) rfl ?_ ?_;rotate_left
  ·go_simp
   rfl
  refine hK.out _ _ ?_
  clear hK K
  refine last_ (i := 7) (N := none) #[Y,Y,Y,Y,Y,Y,Y,Y] rfl rfl (by kernel_rfl) (by decide) (fun K hK => ?_)
  refine skip_ (w1 := ?_) (by rfl) rfl ?_ ?_;rotate_left
  ·go_simp
   rfl
  refine hK.out _ _ ?_
  clear hK K
  refine done_ (by kernel_rfl) ?_
  dsimp only [onlyN]
  have hz8 := hs8.size
  have hz3 := Nat.le_trans hge6 hz8
  try gi_wp2
  obtain ⟨W', hW', r3, r4, r5, hst⟩ := st3 (.string (sb.extract 0 n)) (.slice vA fl.length vC) (.int .i64 0) g3 g4 g5
  rw [← hW']
  clear hW'
  replace hK := hst.block (hs8.block hK (fun h => h)) (by omega)
  refine ⟨by simp, .inl ⟨_, _, rfl, run_takeDeferred hK, ?_⟩⟩
  have hsp : Step (fun q => q = D) W' (W'.putObj D (.deferred none)) := Step.put W' D _
  have hb6 := hB6.size
  have hB8 : Below b w w8 := hB6.trans (hs8.below (by omega) (fun _ h => h.elim))
  have hB9 : Below b w W' := hB8.trans (hst.below (by omega) (fun k hk => by omega))
  have hB10 : Below b w (W'.putObj D (.deferred none)) := hB9.trans (hsp.below (by have := hB9.size; omega) (fun k hk => by omega))
  have hRb := Kd.R_base hRc8
  refine ⟨_, res3 rfl _ (hsp.block r3 (by omega)) (hsp.block r4 (by omega)) (hsp.block r5 (by omega)) rfl rfl rfl, .slice vA fl.length vC, by rw [hR2], ?_, hB10.mono hbw2⟩
  rw [hR2]
  exact Kd.R_lower (R26_step (R26_step hRc8 hst (fun k hk e => by have := hRb k hk; omega)) hsp (fun k hk e => by have := hRb k hk; omega)) (by omega)
 case stop =>
  rintro D O c pre Wc hD0 hOD hpre ⟨rfl, h0, hO, h3, h4, h5, hB, hb⟩ hK
  have hR2 : R = (⟨#[]⟩, [], T.2.2) := by
   have : R = if T.2.2 ≠ 0 then (⟨#[]⟩, [], T.2.2) else if (belA xs F B off sh gk gm gc Z T.1).2 ≠ 0 then (⟨#[]⟩, [], (belA xs F B off sh gk gm gc Z T.1).2) else ((⟨(belA xs F B off sh gk gm gc Z T.1).1.toArray⟩ : ByteArray).extract 0 n, T.2.1.reverse.flatten, 0) := by
    rw [hR, hTe]
    rfl
   rw [this, if_pos h0]
  clear hTe hsq
  have nD : D ≠ b + 1 + 1 + 1 ∧ D ≠ b + 1 + 1 + 1 + 1 ∧ D ≠ b + 1 + 1 + 1 + 1 + 1 := ⟨fun e => hOD ((hO D).2 (Or.inl e)), fun e => hOD ((hO D).2 (Or.inr (Or.inl e))), fun e => hOD ((hO D).2 (Or.inr (Or.inr e)))⟩
  gi_wp2
  refine ⟨by simp, .inl ⟨_, _, rfl, run_takeDeferred hK, ?_⟩⟩
  have hsp : Step (fun q => q = D) Wc (Wc.putObj D (.deferred none)) := Step.put Wc D _
  have hBz := hB.size
  have hB6 : Below b w (Wc.putObj D (.deferred none)) := hB.trans (hsp.below (by omega) (fun k hk => by omega))
  exact ⟨_, res3 rfl _ (hsp.block h3 (by omega)) (hsp.block h4 (by omega)) (hsp.block h5 (by omega)) rfl rfl rfl, _, by rw [hR2], by rw [hR2]; exact Kd.R_nil _ _ _ _ _, hB6.mono hbw2⟩
end
end Go.Proofs.YtmmfplogkikbjaaDoor.HPB
