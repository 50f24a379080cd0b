/- WRITTEN BY wip/hyb.py, a program of this workplace (out of the kit's printer and this workplace's own contracts). -/
import Derived.Test.YtepbhlngcaiklaaGSpanx0
import Derived.Test.YtepbhlngcaiklaaGSpanx2
namespace Go.Proofs.Ytepbhlngcaiklaa.HSpan
open Go.RowKit Go.Proofs.YtepbhlngcaiklaaW.PrintWords Go.Proofs.YtepbhlngcaiklaaW.PrintLast Go.Proofs.YtepbhlngcaiklaaW.PrintMore
attribute [local go_sem] max2_int min2_int max_two min_two max_three min_three max_four min_four   -- for this text's walks alone
set_option linter.unusedVariables false
set_option linter.unusedSimpArgs false

attribute [local go_sem high] eqA43
def span_right.f (a0 : Int) (a1 : Int) (a2 : Int) : Option (Bool) := if a0 ≥ 1 then (if a0 ≤ 65536 then (if (mn a1 a2) ≥ 0 then (some (decide ((mx a1 a2) ≤ 1099511627776))) else (some false)) else (some false)) else (some false)
set_option maxHeartbeats 8000000 in
set_option maxRecDepth 100000 in
theorem span_right.calls (a0 : Int) (a1 : Int) (a2 : Int) (r : Bool) (w : World) (h : span_right.f a0 a1 a2 = some r) :
  Calls Try.prog 23 #[.int .i64 a0, .int .i64 a1, .int .i64 a2] w fun e w' => e = .returned (.bool r) ∧ Below w.heap.size w w' := by
 have HB := Aside0.mk (Below.refl w.heap.size w)
 have H : (if a0 ≥ 1 then (if a0 ≤ 65536 then (if (mn a1 a2) ≥ 0 then (some (decide ((mx a1 a2) ≤ 1099511627776))) else (some false)) else (some false)) else (some false)) = some r := h
 clear h
 by_cases c4 : a0 ≥ 1
 ·rw [if_pos c4] at H
  have c4b0 : decide (1 ≤ a0) = true := decide_eq_true c4
  clear c4
  by_cases c5 : a0 ≤ 65536
  ·rw [if_pos c5] at H
   have c5b0 : decide (a0 ≤ 65536) = true := decide_eq_true c5
   clear c5
   obtain ⟨ji6, hji6⟩ : ∃ j_ : Int, (mn a1 a2) = j_ := ⟨_, rfl⟩
   replace H : (if (ji6) ≥ 0 then (some (decide ((mx a1 a2) ≤ 1099511627776))) else (some false)) = some r := by first | (rw [hji6] at H; exact H) | (simp only [hji6] at H ⊢; exact H)
   have hji6_ : (if a2 < a1 then a2 else a1) = ji6 := hji6
   by_cases c7 : (ji6) ≥ 0
   ·rw [if_pos c7] at H
    have c7b0 : decide (0 ≤ (ji6)) = true := decide_eq_true c7
    clear c7
    obtain ⟨ji8, hji8⟩ : ∃ j_ : Int, (mx a1 a2) = j_ := ⟨_, rfl⟩
    replace H : (some (decide ((ji8) ≤ 1099511627776))) = some r := by first | (rw [hji8] at H; exact H) | (simp only [hji8] at H ⊢; exact H)
    have hji8_ : (if a1 < a2 then a2 else a1) = ji8 := hji8
    obtain rfl := Option.some.inj H
    go_enter Try.func23, Try.ntmps23
    go_wp2
    go_ret
    exact ⟨by first | rfl | (simp [errW_none, errW_some] <;> rfl) | (simp only [← hji6, ← hji8]; first | rfl | (simp [errW_none, errW_some] <;> rfl)) | (simp [*, errW_none, errW_some] <;> rfl), by repeat (first | (with_reducible first | exact HB.out | apply below_alloc | apply pw_below_drewN | apply below_drew1) | exact HB.out)⟩
   ·rw [if_neg c7] at H
    have c7b0 : decide (0 ≤ (ji6)) = false := decide_eq_false c7
    clear c7
    obtain rfl := Option.some.inj H
    go_enter Try.func23, Try.ntmps23
    go_wp2
    go_ret
    exact ⟨by first | rfl | (simp [errW_none, errW_some] <;> rfl) | (simp only [← hji6]; first | rfl | (simp [errW_none, errW_some] <;> rfl)) | (simp [*, errW_none, errW_some] <;> rfl), by repeat (first | (with_reducible first | exact HB.out | apply below_alloc | apply pw_below_drewN | apply below_drew1) | exact HB.out)⟩
  ·rw [if_neg c5] at H
   have c5b0 : decide (a0 ≤ 65536) = false := decide_eq_false c5
   clear c5
   obtain rfl := Option.some.inj H
   go_enter Try.func23, Try.ntmps23
   go_wp2
   go_ret
   exact ⟨by first | rfl | (simp [errW_none, errW_some] <;> rfl) | (simp [*, errW_none, errW_some] <;> rfl), by repeat (first | (with_reducible first | exact HB.out | apply below_alloc | apply pw_below_drewN | apply below_drew1) | exact HB.out)⟩
 ·rw [if_neg c4] at H
  have c4b0 : decide (1 ≤ a0) = false := decide_eq_false c4
  clear c4
  obtain rfl := Option.some.inj H
  go_enter Try.func23, Try.ntmps23
  go_wp2
  go_ret
  exact ⟨by first | rfl | (simp [errW_none, errW_some] <;> rfl) | (simp [*, errW_none, errW_some] <;> rfl), by repeat (first | (with_reducible first | exact HB.out | apply below_alloc | apply pw_below_drewN | apply below_drew1) | exact HB.out)⟩

section
open Go Go.Shelf Go.Proofs.Ytepbhlngcaiklaa.Seq Go.Proofs.YtepbhlngcaiklaaW.PrintLast
attribute [local go_sem] Oper.semAt_some max2_int min2_int max_two min_two
def flat43 (xs : List S43) : List Value := xs.flatMap fun x => [.int .i64 x.f0, .int .i64 x.f1, .int .i64 x.f2]
theorem flat43_len (xs : List S43) : (flat43 xs).length = xs.length * 3 := by
 induction xs with
 | nil => rfl
 | cons x xs ih => simp only [flat43, List.flatMap_cons, List.length_append, List.length_cons, List.length_nil] at *; omega
theorem flat43_append (xs ys : List S43) : flat43 (xs ++ ys) = flat43 xs ++ flat43 ys := by simp [flat43]
theorem R43_of_own {W : World} {base : Nat} {v : Value} {xs : List S43} (h : W.ownsRow base 43 3 v xs.length (flat43 xs)) : Kd.R k43 43 W base (fun _ => True) v xs := by
 refine ⟨fun _ _ => trivial, flat43 xs, h, ?_⟩
 refine ⟨by rw [flat43_len]; rfl, fun j p hp => ?_⟩
 obtain ⟨hj, e⟩ := List.getElem?_eq_some_iff.1 hp
 have e2 : xs = xs.take j ++ p :: xs.drop (j + 1) := by rw [← e]; simp
 have e3 : (flat43 xs).drop (j * 3) = [Value.int .i64 p.f0, .int .i64 p.f1, .int .i64 p.f2] ++ flat43 (xs.drop (j + 1)) := by
  have e4 : (flat43 (xs.take j)).length = j * 3 := by rw [flat43_len, List.length_take]; omega
  have e6 : flat43 xs = flat43 (xs.take j) ++ flat43 (p :: xs.drop (j + 1)) := by rw [← flat43_append]; exact congrArg flat43 e2
  rw [e6, ← e4, List.drop_left]
  rfl
 have e5 : ((flat43 xs).drop (j * k43.sz)).take k43.sz = [Value.int .i64 p.f0, .int .i64 p.f1, .int .i64 p.f2] := by
  show ((flat43 xs).drop (j * 3)).take 3 = _
  rw [e3]
  rfl
 rw [e5]
 exact k43_mkM W base _ p
theorem seqO_steps {α : Type} {Zr Z : Nat → Prop} {P : Program} {g : Nat} {lb : Array Value} {encs : α → Array Value} {ys : List α} {w w1 : World} (h : SeqO Zr Z P g lb encs ys w) (hs : Step (fun k => ¬ Zr k) w w1) : SeqO Zr Z P g lb encs ys w1 :=
 fun l J Jx O W hW hO hJ hY h0 => h l J Jx O W (hs.trans hW (fun _ h => h) (fun _ h => Or.inl h)) hO hJ hY h0
theorem info43_ : (Try.prog.info? 43).map (fun i => (i.zero, i.size, i.bytes)) = some (some (.agg #[(.int .i64 0), (.int .i64 0), (.int .i64 0)]), 3, 24) := by kernel_rfl
set_option maxRecDepth 100000 in
set_option maxHeartbeats 2000000 in
theorem appendSeq_in {Zr Z : Nat → Prop} {gf : Nat} {lb : Array Value} {ys : List S43} {w : World} (eg : ∀ args w, (callFunc gf args).run Try.prog w = .ok (.enter gf args) w)
  (hseq : SeqO Zr Z Try.prog gf lb (fun x : S43 => #[.agg #[.int .i64 x.f0, .int .i64 x.f1, .int .i64 x.f2]]) ys w) (hZr : ∀ r, Zr r → r < w.heap.size) (hlen : ys.length ≤ 4000000000) :
  CallsIn Fence.wide 4 Try.prog 32 #[.slice none 0 0, .func (.func gf) #[] lb] w fun e W' => ∃ v, e = .returned v ∧ W'.ownsRow w.heap.size 43 3 v ys.length (flat43 ys) ∧ Step Z w W' := by
 refine callsIn_of_wp_marks Try.func32 rfl trivial ?_ rfl
 simp only [Try.ntmps32, List.size_toArray, List.length_cons, List.length_nil, Nat.reduceAdd, Nat.reduceSub, Array.replicate_succ, Array.replicate_zero, List.push_toArray, List.append_toArray, List.nil_append, List.cons_append]
 gi_wp2
 obtain ⟨W0, hW0⟩ : ∃ W0, W0 = w.alloc (.cells #[.slice none 0 0] 23) := ⟨_, rfl⟩
 have hs0 : Step (fun _ => False) w W0 := by rw [hW0]; exact Step.alloc _ _ _
 have b0 : Boxed W0 w.heap.size 23 (.slice none 0 0) := by rw [hW0]; exact Boxed.new w 23 (.slice none 0 0)
 have hW0s : W0.heap.size = w.heap.size + 1 := by rw [hW0]; simp
 rw [← hW0]
 clear hW0
 refine wpIn_rangeFunc_O (gf := gf) (lb := lb) rfl eg (seqO_steps hseq (hs0.mono (fun _ h => h.elim))) (fun r hr => by have := hZr r hr; omega) (fun _ => rfl)
  (fun O pre W => ∃ v, (∀ k, O k ↔ k = w.heap.size ∨ v.ownBlock = some k) ∧ Boxed W w.heap.size 23 v ∧ W.ownsRow (w.heap.size + 1) 43 3 v pre.length (flat43 pre) ∧ Step Z w W)
  (fun _ _ _ _ => False) ⟨?lt, ?step⟩ (fun _ => ⟨fun _ _ _ h => h.elim, fun _ _ _ _ _ h => h.elim⟩) (fun k => k = w.heap.size) (fun k hk hz => by have := hZr k hz; omega) ⟨.slice none 0 0, by simp [Value.ownBlock], b0, World.ownsRow_nil _ _ _ _, hs0.mono (fun _ h => h.elim)⟩ ?round ?done ?stop
 case lt =>
  rintro O pre W ⟨v, h1, h2, h3, _⟩ k hk
  rcases (h1 k).1 hk with rfl | hk
  ·exact h2.lt
  ·rcases h3.2 with ⟨rfl, _⟩ | ⟨g, cap, cur, rfl, _, hg, _⟩
   ·cases hk
   ·cases hk; exact (Array.getElem?_eq_some_iff.1 hg).1
 case step =>
  rintro O pre W W' S ⟨v, h1, h2, h3, h4⟩ hS hs
  exact ⟨v, h1, hS.boxed h2 (fun h => (hs _ h).1 ((h1 _).2 (Or.inl rfl))), ownsRow_step hS h3 (fun g hg h => (hs _ h).1 ((h1 _).2 (Or.inr hg))), h4.trans hS (fun _ h => h) (fun k hk => (hs k hk).2.imp id (fun h => by omega))⟩
 case round =>
  rintro l O pre x W hl hWs - hpre
  have hlp : pre.length + 1 ≤ ys.length := by have := hpre.length_le; simpa using this
  gi_wp2
  refine ⟨Step.alloc _ _ _, ?_⟩
  rintro Wb hsb ⟨v, h1, h2, h3, h4⟩
  have hx := hsb.block (World.alloc_heap_new W (.cells #[.int .i64 x.f0, .int .i64 x.f1, .int .i64 x.f2] 43)) (by omega)
  have hx0 : Wb.cell? ⟨W.heap.size, 0, none⟩ = some (.int .i64 x.f0) := by simp [World.cell?, hx]
  have hx1 : Wb.cell? ⟨W.heap.size, 1, none⟩ = some (.int .i64 x.f1) := by simp [World.cell?, hx]
  have hx2 : Wb.cell? ⟨W.heap.size, 2, none⟩ = some (.int .i64 x.f2) := by simp [World.cell?, hx]
  have hc4 := h2.cell
  have hf4 := h2.frozen
  obtain ⟨hbk, A, n, c, rfl⟩ : (∀ q, v.ownBlock = some q → w.heap.size + 1 ≤ q ∧ q < Wb.heap.size) ∧ ∃ A n c, v = .slice A n c := by
   rcases h3.2 with ⟨rfl, _⟩ | ⟨g, cap, cur, rfl, hgn, hg, _⟩
   ·exact ⟨fun q hq => by simp [Value.ownBlock] at hq, _, _, _, rfl⟩
   ·exact ⟨fun q hq => by simp [Value.ownBlock] at hq; subst hq; exact ⟨hgn, (Array.getElem?_eq_some_iff.1 hg).1⟩, _, _, _, rfl⟩
  have hcell := World.news_of_block (cs := #[.int .i64 x.f0, .int .i64 x.f1, .int .i64 x.f2]) (t := 43) (fr := (0, 0)) (World.alloc_heap_new Wb (.cells #[.int .i64 x.f0, .int .i64 x.f1, .int .i64 x.f2] 43))
  have hb3 : w.heap.size + 1 ≤ (Wb.alloc (.cells #[.int .i64 x.f0, .int .i64 x.f1, .int .i64 x.f2] 43)).heap.size := by have := hsb.size; simp at this ⊢; omega
  gi_wp2_with (gi_at_builtin; refine wpListIn_append_at _ rfl _ _ 23 rfl (w.heap.size + 1) 43 (.agg #[(.int .i64 0), (.int .i64 0), (.int .i64 0)]) 3 24 Try.underlying23 info43_ rfl (by decide) (.slice A n c) pre.length (flat43 pre) rfl (h3.alloc _) ⟨Wb.heap.size, 0, none⟩ 1 1 [.int .i64 x.f0, .int .i64 x.f1, .int .i64 x.f2] rfl rfl (by simpa using hcell) (by simp [Value.oneCell']) (by unfold maxLen; omega) (by omega) hb3 ?_; intro v1 w1 hown1 hg1 _ hat1; obtain ⟨g1, cap1, rfl, hgn1, hgs1, _⟩ := ownsRow_form hown1 (by omega); have hv1 := (h2.alloc (.cells #[.int .i64 x.f0, .int .i64 x.f1, .int .i64 x.f2] 43)).kept hg1 (fun e => by have := hbk _ e.symm; omega); have hc1 := hv1.cell; have hf1 := hv1.frozen)
  have hs1 : Step O Wb w1 := (Step.alloc O Wb _).trans (Step.grown hg1 (S := O) (fun q hq => (h1 q).2 (Or.inr hq))) (fun _ h => h) (fun _ h => Or.inl h)
  have hs2 : Step O w1 (w1.setCell ⟨w.heap.size, 0, none⟩ (.slice (some ⟨g1, 0, none⟩) (pre.length + 1) cap1)) := Step.setCell (S := O) w1 (p := ⟨w.heap.size, 0, none⟩) ((h1 _).2 (Or.inl rfl)) _
  refine ⟨fun q => q = w.heap.size ∨ q = g1, fun q hq => ?_, hs1.trans hs2 (fun _ h => h) (fun _ h => Or.inl h), Value.slice (some ⟨g1, 0, none⟩) (pre.length + 1) cap1, fun q => ?_, hv1.set _, ?_, ?_⟩
  ·rcases hq with rfl | rfl
   ·exact Or.inl ((h1 _).2 (Or.inl rfl))
   ·rcases hat1 with e | e
    ·exact Or.inl ((h1 _).2 (Or.inr e.symm))
    ·right; simp [Value.ownBlock] at e; omega
  ·simp [Value.ownBlock, eq_comm]
  ·rw [List.length_append, List.length_singleton, flat43_append]
   exact ownsRow_step (Step.setCell (S := fun q => q = w.heap.size) w1 (p := ⟨w.heap.size, 0, none⟩) rfl _) hown1 (fun q hq => by simp [Value.ownBlock] at hq; omega)
  ·exact h4.trans (hs1.trans hs2 (fun _ h => h) (fun _ h => Or.inl h)) (fun _ h => h) (fun q hq => Or.inr (by rcases (h1 q).1 hq with rfl | h <;> first | omega | (have := hbk _ h; omega)))
 case done =>
  rintro D O W hD hOD ⟨v, h1, h2, h3, h4⟩ hK
  have hc4 := h2.cell
  gi_wp2
  refine ⟨by simp, .inl ⟨_, _, rfl, run_takeDeferred hK, ?_⟩⟩
  refine ⟨_, results_tmp rfl _ _ _, v, rfl, ?_, h4.trans (Step.put W D _) (fun _ h => h) (fun k hk => Or.inr (by omega))⟩
  have h5 : W.ownsRow w.heap.size 43 3 v ys.length (flat43 ys) := ⟨h3.1, h3.2.imp id fun ⟨g, cap, cur, e, hb, h⟩ => ⟨g, cap, cur, e, by omega, h⟩⟩
  exact ownsRow_step (Step.put W D _) h5 (fun g hg h => by rw [h] at hg; exact hOD ((h1 D).2 (Or.inr hg)))
 case stop => rintro D O c pre W _ _ _ h; exact h.elim
set_option maxRecDepth 100000 in
set_option maxHeartbeats 2000000 in
theorem collect_in {Zr Z : Nat → Prop} {gf : Nat} {lb : Array Value} {ys : List S43} {w : World} (eg : ∀ args w, (callFunc gf args).run Try.prog w = .ok (.enter gf args) w)
  (hseq : SeqO Zr Z Try.prog gf lb (fun x : S43 => #[.agg #[.int .i64 x.f0, .int .i64 x.f1, .int .i64 x.f2]]) ys w) (hZr : ∀ r, Zr r → r < w.heap.size) (hlen : ys.length ≤ 4000000000) :
  Calls Try.prog 24 #[.func (.func gf) #[] lb] w fun e W' => ∃ v, e = .returned v ∧ W'.ownsRow w.heap.size 43 3 v ys.length (flat43 ys) ∧ Step Z w W' := by
 have hA := (callsIn_wide (n := 4)).1 (appendSeq_in eg hseq hZr hlen)
 refine (callsIn_wide (n := 4)).1 ?_
 refine callsIn_of_wp_marks Try.func24 rfl trivial ?_ rfl
 simp only [Try.ntmps24, List.size_toArray, List.length_cons, List.length_nil, Nat.reduceAdd, Nat.reduceSub, Array.replicate_succ, Array.replicate_zero, List.push_toArray, List.append_toArray, List.nil_append, List.cons_append]
 gi_wp2_with (refine ⟨trivial, ?_⟩; gi_at_call 32; refine (callsIn_wide.2 hA).mono ?_; rintro e w' ⟨v, rfl, ho, hs⟩)
 exact ⟨_, results_tmp rfl _ _ _, v, rfl, ho, hs⟩
def spL (size : Int) : Nat → Int → Int → Int → List S43
 | 0, _, _, _ => []
 | k + 1, b, f, l => if l > 0 then ⟨b, f, wrap64 (f + mn (wrap64 (size - f)) l)⟩ :: spL size k (wrap64 (b + 1)) 0 (wrap64 (l - mn (wrap64 (size - f)) l)) else []
def spansL (size off n : Int) : List S43 := spL size n.toNat (off / size) (off % size) n
theorem Step_drewN (S : Nat → Prop) (W : World) (k : Nat) : Step S W (W.drewN k) := ⟨pw_below_drewN (Below.refl _ _) k, fun _ _ _ => rfl⟩
theorem spans_in (size off n : Int) (w : World) :
  CallsIn Fence.wide 3 Try.prog 25 #[.int .i64 size, .int .i64 off, .int .i64 n] w fun e w' => e = .returned (.func (.func 33) #[] #[.pointer (some ⟨w.heap.size + 1, 0, none⟩), .pointer (some ⟨w.heap.size, 0, none⟩), .pointer (some ⟨w.heap.size + 2, 0, none⟩)]) ∧ w' = ((w.alloc (.cells #[.int .i64 size] 3)).alloc (.cells #[.int .i64 off] 2)).alloc (.cells #[.int .i64 n] 2) := by
 refine callsIn_of_wp Try.func25 rfl trivial ?_ rfl
 simp only [Try.ntmps25, List.size_toArray, List.length_cons, List.length_nil, Nat.reduceAdd, Nat.reduceSub, Array.replicate_succ, Array.replicate_zero, List.push_toArray, List.append_toArray, List.nil_append, List.cons_append]
 gi_wp2
 go_ret
 exact ⟨rfl, rfl⟩
set_option maxRecDepth 100000 in
set_option maxHeartbeats 2000000 in
theorem spans_seq (w : World) (Bs Bo Bn : Nat) (size off n : Int) (h1 : Boxed w Bs 3 (.int .i64 size)) (h2 : Boxed w Bo 2 (.int .i64 off)) (h3 : Boxed w Bn 2 (.int .i64 n))
  (hs1 : 1 ≤ size) (hs2 : size ≤ 65536) (ho1 : 0 ≤ off) (ho2 : off ≤ 1099511627776) (hn1 : 0 ≤ n) (hn2 : n ≤ 1099511627776) :
  SeqO (fun r => r = Bs ∨ r = Bo ∨ r = Bn) (fun _ => False) Try.prog 33 #[.pointer (some ⟨Bo, 0, none⟩), .pointer (some ⟨Bs, 0, none⟩), .pointer (some ⟨Bn, 0, none⟩)] (fun x : S43 => #[.agg #[.int .i64 x.f0, .int .i64 x.f1, .int .i64 x.f2]]) (spansL size off n) w := by
 intro l J Jx O W hW hO hJ hY h0
 replace h1 := hW.boxed h1 (by simp)
 replace h2 := hW.boxed h2 (by simp)
 replace h3 := hW.boxed h3 (by simp)
 refine callsIn_of_wp Try.func33 rfl trivial ?_ rfl
 simp only [Try.ntmps33, List.size_toArray, List.length_cons, List.length_nil, Nat.reduceAdd, Nat.reduceSub, Array.replicate_succ, Array.replicate_zero, List.push_toArray, List.append_toArray, List.nil_append, List.cons_append]
 have c1 := h1.cell
 have c2 := h2.cell
 have c3 := h3.cell
 have hz : (size == 0) = false := by simp; omega
 gi_wp2
 gi_quiet (fail)
 gi_wp2
 gi_loopw [5, 6, 7] (fun b f lf wr => ∃ (pre suf : List S43) (fuel : Nat) (bv fv lv : Int), spansL size off n = pre ++ suf ∧ suf = spL size fuel bv fv lv ∧ lv ≤ fuel ∧ b = .int .i64 bv ∧ f = .int .i64 fv ∧ lf = .int .i64 lv ∧
   0 ≤ fv ∧ fv < size ∧ lv ≤ n ∧ 0 ≤ bv ∧ bv + lv ≤ 3000000000000 ∧ 0 ≤ lv ∧ (∃ O, J O pre wr ∧ (∀ k, O k → k ≠ Bs ∧ k ≠ Bo ∧ k ≠ Bn)) ∧ Boxed wr Bs 3 (.int .i64 size) ∧ W.heap.size ≤ wr.heap.size)
  (fun _ _ lf _ => (intOf lf).toNat)
 case atStart =>
  have d1 : 0 ≤ off / size := Int.ediv_nonneg ho1 (by omega)
  have d2 : off / size ≤ off := Int.ediv_le_self _ ho1
  have d3 : 0 ≤ off % size := Int.emod_nonneg _ (by omega)
  have d4 : off % size < size := Int.emod_lt_of_pos _ (by omega)
  refine ⟨[], spansL size off n, n.toNat, off / size, off % size, n, rfl, rfl, by omega, rfl, rfl, rfl, d3, d4, Int.le_refl _, d1, by omega, hn1, ⟨O, hJ.step O _ W _ _ h0 (Step_drewN (fun _ => False) W nq) (fun _ h => h.elim), fun k hk => ?_⟩, (Step_drewN (fun _ => False) W nq).boxed h1 (fun h => h), (Step_drewN (fun _ => False) W nq).size⟩
  have := hO k hk
  simp at this
  exact this
 case round =>
  obtain ⟨pre, suf, fuel, bv, fv, lv, hy0, hsuf, hfuel, rfl, rfl, rfl, f0, f1, l0, b0, b1, l1, ⟨O1, hJs, hO1⟩, hbs, hwr⟩ := hrel
  have cs := hbs.cell
  by_cases hlt : lv > 0
  ·obtain ⟨fuel, rfl⟩ : ∃ m, fuel = m + 1 := ⟨fuel - 1, by omega⟩
   by_cases hm : lv < size - fv
   ·have hw2 : wrap64 (fv + lv) = fv + lv ∧ wrap64 (bv + 1) = bv + 1 ∧ wrap64 (lv - lv) = lv - lv := by refine ⟨?_, ?_, ?_⟩ <;> (unfold wrap64; omega)
    have hmn : mn (wrap64 (size - fv)) lv = lv := by clear hw2; rw [show wrap64 (size - fv) = size - fv by unfold wrap64; omega]; unfold mn; split <;> omega
    simp only [spL, if_pos hlt, hmn, hw2.1, hw2.2.1, hw2.2.2] at hsuf
    have hpre : pre ++ [(⟨bv, fv, fv + lv⟩ : S43)] <+: spansL size off n := ⟨spL size fuel (bv + 1) 0 (lv - lv), by rw [hy0, hsuf]; simp⟩
    obtain ⟨fn, tmps, assign, body, hy, hR⟩ := hY O1 pre ⟨bv, fv, fv + lv⟩ wr hJs hpre
    dsimp only at hy
    clear hmn
    gi_wp2
    refine hR.mono ?_
    rintro e W' ⟨O3, hO3, hs3, ⟨rfl, hJ3⟩ | ⟨rfl, hJ3⟩⟩
    ·gi_wp2
     go_roundw
     case rel =>
      have hO4 : ∀ q, O3 q → q ≠ Bs ∧ q ≠ Bo ∧ q ≠ Bn := fun q hq => (hO3 q hq).elim (hO1 q) (fun h => by have := h1.lt; have := h2.lt; have := h3.lt; omega)
      refine ⟨_, _, fuel, bv + 1, 0, 0, by rw [hy0, hsuf]; simp, rfl, by omega, rfl, rfl, rfl, by omega, by omega, by omega, by omega, by omega, by omega, ⟨O3, hJ3, hO4⟩, hs3.boxed hbs (fun h => (hO1 _ h).1 rfl), by have := hs3.size; omega⟩
     case measure => simp [intOf]; omega
    ·gi_wp2
     refine bodyPost_ret (results_none rfl _ _ _) rfl ?_
     exact ⟨⟨_, rfl⟩, O3, .inr ⟨_, hpre, hJ3⟩⟩
   ·have hw2 : wrap64 (fv + (size - fv)) = fv + (size - fv) ∧ wrap64 (bv + 1) = bv + 1 ∧ wrap64 (lv - (size - fv)) = lv - (size - fv) := by refine ⟨?_, ?_, ?_⟩ <;> (unfold wrap64; omega)
    have hmn : mn (wrap64 (size - fv)) lv = size - fv := by clear hw2; rw [show wrap64 (size - fv) = size - fv by unfold wrap64; omega]; unfold mn; split <;> omega
    simp only [spL, if_pos hlt, hmn, hw2.1, hw2.2.1, hw2.2.2] at hsuf
    have hpre : pre ++ [(⟨bv, fv, fv + (size - fv)⟩ : S43)] <+: spansL size off n := ⟨spL size fuel (bv + 1) 0 (lv - (size - fv)), by rw [hy0, hsuf]; simp⟩
    obtain ⟨fn, tmps, assign, body, hy, hR⟩ := hY O1 pre ⟨bv, fv, fv + (size - fv)⟩ wr hJs hpre
    dsimp only at hy
    clear hmn
    gi_wp2
    refine hR.mono ?_
    rintro e W' ⟨O3, hO3, hs3, ⟨rfl, hJ3⟩ | ⟨rfl, hJ3⟩⟩
    ·gi_wp2
     go_roundw
     case rel =>
      have hO4 : ∀ q, O3 q → q ≠ Bs ∧ q ≠ Bo ∧ q ≠ Bn := fun q hq => (hO3 q hq).elim (hO1 q) (fun h => by have := h1.lt; have := h2.lt; have := h3.lt; omega)
      refine ⟨_, _, fuel, bv + 1, 0, (lv - (size - fv)), by rw [hy0, hsuf]; simp, rfl, by omega, rfl, rfl, rfl, by omega, by omega, by omega, by omega, by omega, by omega, ⟨O3, hJ3, hO4⟩, hs3.boxed hbs (fun h => (hO1 _ h).1 rfl), by have := hs3.size; omega⟩
     case measure => simp [intOf]; omega
    ·gi_wp2
     refine bodyPost_ret (results_none rfl _ _ _) rfl ?_
     exact ⟨⟨_, rfl⟩, O3, .inr ⟨_, hpre, hJ3⟩⟩
  ·have hl0 : lv = 0 := by omega
   have hsuf0 : suf = [] := by rw [hsuf, hl0]; cases fuel <;> simp [spL]
   clear hsuf
   subst hsuf0
   rw [List.append_nil] at hy0
   gi_wp2
   go_end0
   exact ⟨⟨_, rfl⟩, O1, .inl (hy0 ▸ hJs)⟩
theorem spL_len (size : Int) : ∀ (k : Nat) (b f l : Int), (spL size k b f l).length ≤ k
 | 0, _, _, _ => by simp [spL]
 | k + 1, b, f, l => by
  simp only [spL]
  split
  ·have := spL_len size k (wrap64 (b + 1)) 0 (wrap64 (l - mn (wrap64 (size - f)) l))
   simp only [List.length_cons]; omega
  ·simp
theorem collect_spans (w : World) (size off n : Int) (hs1 : 1 ≤ size) (hs2 : size ≤ 65536) (ho1 : 0 ≤ off) (ho2 : off ≤ 1099511627776) (hn1 : 0 ≤ n) (hn2 : n ≤ 1048576) :
  Calls Try.prog 24 #[.func (.func 33) #[] #[.pointer (some ⟨w.heap.size + 1, 0, none⟩), .pointer (some ⟨w.heap.size, 0, none⟩), .pointer (some ⟨w.heap.size + 2, 0, none⟩)]]
   (((w.alloc (.cells #[.int .i64 size] 3)).alloc (.cells #[.int .i64 off] 2)).alloc (.cells #[.int .i64 n] 2)) fun e W' => ∃ v, e = .returned v ∧ W'.ownsRow (w.heap.size + 3) 43 3 v (spansL size off n).length (flat43 (spansL size off n)) ∧ Below w.heap.size w W' := by
 obtain ⟨W0, hW0⟩ : ∃ W0, W0 = ((w.alloc (.cells #[.int .i64 size] 3)).alloc (.cells #[.int .i64 off] 2)).alloc (.cells #[.int .i64 n] 2) := ⟨_, rfl⟩
 have hW0s : W0.heap.size = w.heap.size + 3 := by rw [hW0]; simp
 have b0 : Boxed W0 w.heap.size 3 (.int .i64 size) := by rw [hW0]; exact ((Boxed.new w 3 (.int .i64 size)).alloc _).alloc _
 have b1 : Boxed W0 (w.heap.size + 1) 2 (.int .i64 off) := by
  have := (Boxed.new (w.alloc (.cells #[.int .i64 size] 3)) 2 (.int .i64 off)).alloc (.cells #[.int .i64 n] 2)
  rw [hW0]; simpa using this
 have b2 : Boxed W0 (w.heap.size + 2) 2 (.int .i64 n) := by
  have := Boxed.new ((w.alloc (.cells #[.int .i64 size] 3)).alloc (.cells #[.int .i64 off] 2)) 2 (.int .i64 n)
  rw [hW0]; simpa using this
 have hB0 : Below w.heap.size w W0 := by rw [hW0]; exact (((Below.refl _ w).alloc (Nat.le_refl _) _).alloc (by simp) _).alloc (by simp; omega) _
 rw [← hW0]
 refine (collect_in (enters_of Try.func33 (by kernel_rfl) rfl) (spans_seq W0 w.heap.size (w.heap.size + 1) (w.heap.size + 2) size off n b0 b1 b2 hs1 hs2 ho1 ho2 hn1 (by omega)) (fun r hr => by omega) ?_).mono ?_
 ·have := spL_len size n.toNat (off / size) (off % size) n
  unfold spansL
  omega
 ·rintro e W' ⟨v, rfl, ho, hs⟩
  exact ⟨v, rfl, hW0s ▸ ho, hB0.trans (hs.below hB0.size (fun k h => h.elim))⟩
def span_Cut.f (a0 a1 a2 : Int) : Option (List S43 × Int) := (span_right.f a0 a1 a2).bind fun t => if t = true then (if a2 > 1048576 then some ([], 7) else some (spansL a0 a1 a2, 0)) else some ([], 1)
theorem right_true {a0 a1 a2 : Int} (h : span_right.f a0 a1 a2 = some true) : 1 ≤ a0 ∧ a0 ≤ 65536 ∧ 0 ≤ a1 ∧ 0 ≤ a2 ∧ a1 ≤ 1099511627776 ∧ a2 ≤ 1099511627776 := by
 unfold span_right.f at h
 split at h <;> try (cases h)
 split at h <;> try (cases h)
 split at h <;> try (cases h)
 rename_i h1 h2 h3
 have h4 : mx a1 a2 ≤ 1099511627776 := by simpa using h
 have h5 : 0 ≤ a1 ∧ 0 ≤ a2 := by unfold mn at h3; split at h3 <;> omega
 have h6 : a1 ≤ 1099511627776 ∧ a2 ≤ 1099511627776 := by unfold mx at h4; split at h4 <;> omega
 omega
set_option maxRecDepth 100000 in
set_option maxHeartbeats 2000000 in
theorem span_Cut.calls (a0 a1 a2 : Int) (r1 : List S43) (r2 : Int) (w : World) (h : span_Cut.f a0 a1 a2 = some (r1, r2)) :
  Calls Try.prog 7 #[.int .i64 a0, .int .i64 a1, .int .i64 a2] w fun e w' => ∃ v0_ : Value, e = .returned (.tuple #[v0_, .int .i64 r2]) ∧ Kd.R k43 43 w' w.heap.size (fun _ => True) v0_ r1 ∧ Below w.heap.size w w' := by
 unfold span_Cut.f at h
 obtain ⟨t, ht, h⟩ := Option.bind_eq_some_iff.mp h
 have hR := span_right.calls a0 a1 a2 t w ht
 refine (callsIn_wide (n := 4)).1 ?_
 refine callsIn_of_wp_marks Try.func7 rfl trivial ?_ rfl
 simp only [Try.ntmps7, List.size_toArray, List.length_cons, List.length_nil, Nat.reduceAdd, Nat.reduceSub, Array.replicate_succ, Array.replicate_zero, List.push_toArray, List.append_toArray, List.nil_append, List.cons_append]
 cases t with
 | false =>
  rw [if_neg (by simp)] at h
  cases h
  gi_wp2_with (refine ⟨trivial, ?_⟩; gi_at_call 23; refine (callsIn_wide.2 hR).mono ?_; rintro e w' ⟨rfl, hb⟩)
  exact ⟨_, results_tmp2 rfl _ _ _, _, rfl, Kd.R_nil _ _ _ _ _, hb⟩
 | true =>
  rw [if_pos rfl] at h
  obtain ⟨q1, q2, q3, q4, q5, q6⟩ := right_true ht
  by_cases hbig : a2 > 1048576
  ·rw [if_pos hbig] at h
   cases h
   gi_wp2_with (refine ⟨trivial, ?_⟩; gi_at_call 23; refine (callsIn_wide.2 hR).mono ?_; rintro e w' ⟨rfl, hb⟩)
   exact ⟨_, results_tmp2 rfl _ _ _, _, rfl, Kd.R_nil _ _ _ _ _, hb⟩
  ·rw [if_neg hbig] at h
   cases h
   gi_wp2_with (first | (refine ⟨trivial, ?_⟩; gi_at_call 23; refine (callsIn_wide.2 hR).mono ?_; rintro e w' ⟨rfl, hb⟩) | (refine ⟨trivial, ?_⟩; gi_at_call 25; refine (callsIn_wide.2 ((callsIn_wide (n := 3)).1 (spans_in a0 a1 a2 _))).mono ?_; rintro e w2 ⟨rfl, rfl⟩) | (refine ⟨trivial, ?_⟩; gi_at_call 24; refine (callsIn_wide.2 (collect_spans _ a0 a1 a2 q1 q2 q3 q5 q4 (by omega))).mono ?_; rintro e w3 ⟨v, rfl, ho, hb3⟩))
   refine ⟨_, results_tmp2 rfl _ _ _, v, rfl, R43_of_own ?_, hb.trans (hb3.mono hb.size)⟩
   have := hb.size
   exact ⟨ho.1, ho.2.imp id fun ⟨g, cap, cur, e, hb, h⟩ => ⟨g, cap, cur, e, by omega, h⟩⟩
end

def span_Whole.f (a0 : Int) (a1 : Int) (a2 : Int) : Option (Int × Int × Int) := (span_right.f a0 a1 a2).bind fun t102 => (if t102 = true then (if a0 = 0 then (none) else (if (wrap64 (Int.tdiv (wrap64 ((wrap64 (a1 + a0)) - 1)) a0)) ≥ (wrap64 (Int.tdiv (wrap64 (a1 + a2)) a0)) then (some (0, 0, 0)) else (some (wrap64 (Int.tdiv (wrap64 ((wrap64 (a1 + a0)) - 1)) a0), wrap64 (Int.tdiv (wrap64 (a1 + a2)) a0), 0)))) else (some (0, 0, 1)))
set_option maxHeartbeats 8000000 in
set_option maxRecDepth 100000 in
theorem span_Whole.calls (a0 : Int) (a1 : Int) (a2 : Int) (r1 : Int) (r2 : Int) (r3 : Int) (w : World) (h : span_Whole.f a0 a1 a2 = some (r1, r2, r3)) :
  Calls Try.prog 9 #[.int .i64 a0, .int .i64 a1, .int .i64 a2] w fun e w' => e = .returned (.tuple #[.agg #[.int .i64 r1, .int .i64 r2], .int .i64 r3]) ∧ Below w.heap.size w w' := by
 have hu28 := Try.underlying28
 have HB := Aside0.mk (Below.refl w.heap.size w)
 have H : ((span_right.f a0 a1 a2).bind fun t102 => (if t102 = true then (if a0 = 0 then (none) else (if (wrap64 (Int.tdiv (wrap64 ((wrap64 (a1 + a0)) - 1)) a0)) ≥ (wrap64 (Int.tdiv (wrap64 (a1 + a2)) a0)) then (some (0, 0, 0)) else (some (wrap64 (Int.tdiv (wrap64 ((wrap64 (a1 + a0)) - 1)) a0), wrap64 (Int.tdiv (wrap64 (a1 + a2)) a0), 0)))) else (some (0, 0, 1)))) = some (r1, r2, r3) := h
 clear h
 replace H := Option.bind_eq_some_iff.mp H
 obtain ⟨t102, A40, H⟩ := H
 replace H : (if t102 = true then (if a0 = 0 then (none) else (if (wrap64 (Int.tdiv (wrap64 ((wrap64 (a1 + a0)) - 1)) a0)) ≥ (wrap64 (Int.tdiv (wrap64 (a1 + a2)) a0)) then (some (0, 0, 0)) else (some (wrap64 (Int.tdiv (wrap64 ((wrap64 (a1 + a0)) - 1)) a0), wrap64 (Int.tdiv (wrap64 (a1 + a2)) a0), 0)))) else (some (0, 0, 1))) = some (r1, r2, r3) := H
 have A4 := Aside0.mk A40
 clear A40
 by_cases c5 : t102 = true
 ·subst c5
  have H1 : (if a0 = 0 then (none) else (if (wrap64 (Int.tdiv (wrap64 ((wrap64 (a1 + a0)) - 1)) a0)) ≥ (wrap64 (Int.tdiv (wrap64 (a1 + a2)) a0)) then (some (0, 0, 0)) else (some (wrap64 (Int.tdiv (wrap64 ((wrap64 (a1 + a0)) - 1)) a0), wrap64 (Int.tdiv (wrap64 (a1 + a2)) a0), 0)))) = some (r1, r2, r3) := by rw [if_pos rfl] at H; exact H
  clear H
  have H := H1
  clear H1
  by_cases c6 : a0 = 0
  ·rw [if_pos c6] at H
   exact absurd H (by simp)
  ·rw [if_neg c6] at H
   have c6b0 : (a0 == 0) = false := beq_eq_false_iff_ne.mpr c6
   have c6b1 : (a0 != 0) = true := bne_iff_ne.mpr c6
   by_cases c7 : (wrap64 (Int.tdiv (wrap64 ((wrap64 (a1 + a0)) - 1)) a0)) ≥ (wrap64 (Int.tdiv (wrap64 (a1 + a2)) a0))
   ·rw [if_pos c7] at H
    have c7b0 : decide ((wrap64 (Int.tdiv (wrap64 (a1 + a2)) a0)) ≤ (wrap64 (Int.tdiv (wrap64 ((wrap64 (a1 + a0)) - 1)) a0))) = true := decide_eq_true c7
    clear c7
    simp only [Option.some.injEq, Prod.mk.injEq] at H
    obtain ⟨rfl, rfl, rfl⟩ := H
    go_enter Try.func9, Try.ntmps9
    go_wp2_with (first | ((with_reducible refine HOpen.gate_append ?_); simp only [List.cons_append, List.nil_append]) | ((with_reducible refine gate_dst (N := 6) rfl ?_); refine box_event ?hg (N := 6) ?hd (cs := #[.int .i64 0, .int .i64 0]) (t := 28) ?hr ?_; (case hd => rfl); (case hg => rfl); (case hr => first | (go_simp; done) | (go_simp; rfl)); intro gb101 hg w8 hbox hb; have n0_ := Aside0.mk (below_step (by repeat (first | (with_reducible first | exact HB.out | apply below_alloc | apply pw_below_drewN | apply below_drew1) | exact HB.out)) hb); have n1_ := Aside0.mk (hbox); have n2_ := Aside0.mk ((by rw [hg]; exact (below_size (by repeat (first | (with_reducible first | exact HB.out | apply below_alloc | apply pw_below_drewN | apply below_drew1) | exact HB.out))) : w.heap.size ≤ gb101)); have n3_ := Aside0.mk ((by rw [hg]; exact (below_size (by repeat (first | (with_reducible first | exact HB.out | apply below_alloc | apply pw_below_drewN | apply below_drew1) | exact HB.out))) : w.heap.size ≤ gb101)); clear HB; have HB := n0_; have BK101 := n1_; have GW101 := n2_; have GE101 := n3_; clear n0_ n1_ n2_ n3_; clear hb hbox hg) | (go_at_call 23; (with_reducible refine (span_right.calls a0 a1 a2 true _ A4.out).mono ?_); rintro e w9 ⟨rfl, hb⟩; have n0_ := Aside0.mk (blk_below (g := gb101) (o := .cells #[.int .i64 0, .int .i64 0] 28 (0, 0)) (by (with_reducible repeat (first | refine blk_drewN ?_ _ | refine blk_drew ?_ | refine blk_alloc ?_ _)); exact BK101.out) hb); have n1_ := Aside0.mk (below_step (by repeat (first | (with_reducible first | exact HB.out | apply below_alloc | apply pw_below_drewN | apply below_drew1 | refine below_set ?_ GE101.out) | exact HB.out)) hb); clear BK101; clear HB; have BK101 := n0_; have HB := n1_; clear n0_ n1_; (try clear hb); (try clear hb2); (try clear hk); (try clear hi); have hcz10_0 : w9.cell? ⟨gb101, 0, none⟩ = some (.int .i64 0) := (blk_cell BK101.out 0).trans rfl; have hcz10_1 : w9.cell? ⟨gb101, 1, none⟩ = some (.int .i64 0) := (blk_cell BK101.out 1).trans rfl; have hfz10_0 := blk_frozen BK101.out 0; have hfz10_1 := blk_frozen BK101.out 1))
    repeat (go_quiet (first | ((with_reducible refine gate_dst (N := 6) rfl ?_); refine box_event ?hg (N := 6) ?hd (cs := #[.int .i64 0, .int .i64 0]) (t := 28) ?hr ?_; (case hd => rfl); (case hg => rfl); (case hr => first | (go_simp; done) | (go_simp; rfl)); intro gb101 hg w8 hbox hb; have n0_ := Aside0.mk (below_step (by repeat (first | (with_reducible first | exact HB.out | apply below_alloc | apply pw_below_drewN | apply below_drew1) | exact HB.out)) hb); have n1_ := Aside0.mk (hbox); have n2_ := Aside0.mk ((by rw [hg]; exact (below_size (by repeat (first | (with_reducible first | exact HB.out | apply below_alloc | apply pw_below_drewN | apply below_drew1) | exact HB.out))) : w.heap.size ≤ gb101)); have n3_ := Aside0.mk ((by rw [hg]; exact (below_size (by repeat (first | (with_reducible first | exact HB.out | apply below_alloc | apply pw_below_drewN | apply below_drew1) | exact HB.out))) : w.heap.size ≤ gb101)); clear HB; have HB := n0_; have BK101 := n1_; have GW101 := n2_; have GE101 := n3_; clear n0_ n1_ n2_ n3_; clear hb hbox hg) | (go_at_call 23; (with_reducible refine (span_right.calls a0 a1 a2 true _ A4.out).mono ?_); rintro e w9 ⟨rfl, hb⟩; have n0_ := Aside0.mk (blk_below (g := gb101) (o := .cells #[.int .i64 0, .int .i64 0] 28 (0, 0)) (by (with_reducible repeat (first | refine blk_drewN ?_ _ | refine blk_drew ?_ | refine blk_alloc ?_ _)); exact BK101.out) hb); have n1_ := Aside0.mk (below_step (by repeat (first | (with_reducible first | exact HB.out | apply below_alloc | apply pw_below_drewN | apply below_drew1 | refine below_set ?_ GE101.out) | exact HB.out)) hb); clear BK101; clear HB; have BK101 := n0_; have HB := n1_; clear n0_ n1_; (try clear hb); (try clear hb2); (try clear hk); (try clear hi); have hcz10_0 : w9.cell? ⟨gb101, 0, none⟩ = some (.int .i64 0) := (blk_cell BK101.out 0).trans rfl; have hcz10_1 : w9.cell? ⟨gb101, 1, none⟩ = some (.int .i64 0) := (blk_cell BK101.out 1).trans rfl; have hfz10_0 := blk_frozen BK101.out 0; have hfz10_1 := blk_frozen BK101.out 1)); try go_wp2_with (first | ((with_reducible refine HOpen.gate_append ?_); simp only [List.cons_append, List.nil_append]) | ((with_reducible refine gate_dst (N := 6) rfl ?_); refine box_event ?hg (N := 6) ?hd (cs := #[.int .i64 0, .int .i64 0]) (t := 28) ?hr ?_; (case hd => rfl); (case hg => rfl); (case hr => first | (go_simp; done) | (go_simp; rfl)); intro gb101 hg w8 hbox hb; have n0_ := Aside0.mk (below_step (by repeat (first | (with_reducible first | exact HB.out | apply below_alloc | apply pw_below_drewN | apply below_drew1) | exact HB.out)) hb); have n1_ := Aside0.mk (hbox); have n2_ := Aside0.mk ((by rw [hg]; exact (below_size (by repeat (first | (with_reducible first | exact HB.out | apply below_alloc | apply pw_below_drewN | apply below_drew1) | exact HB.out))) : w.heap.size ≤ gb101)); have n3_ := Aside0.mk ((by rw [hg]; exact (below_size (by repeat (first | (with_reducible first | exact HB.out | apply below_alloc | apply pw_below_drewN | apply below_drew1) | exact HB.out))) : w.heap.size ≤ gb101)); clear HB; have HB := n0_; have BK101 := n1_; have GW101 := n2_; have GE101 := n3_; clear n0_ n1_ n2_ n3_; clear hb hbox hg) | (go_at_call 23; (with_reducible refine (span_right.calls a0 a1 a2 true _ A4.out).mono ?_); rintro e w9 ⟨rfl, hb⟩; have n0_ := Aside0.mk (blk_below (g := gb101) (o := .cells #[.int .i64 0, .int .i64 0] 28 (0, 0)) (by (with_reducible repeat (first | refine blk_drewN ?_ _ | refine blk_drew ?_ | refine blk_alloc ?_ _)); exact BK101.out) hb); have n1_ := Aside0.mk (below_step (by repeat (first | (with_reducible first | exact HB.out | apply below_alloc | apply pw_below_drewN | apply below_drew1 | refine below_set ?_ GE101.out) | exact HB.out)) hb); clear BK101; clear HB; have BK101 := n0_; have HB := n1_; clear n0_ n1_; (try clear hb); (try clear hb2); (try clear hk); (try clear hi); have hcz10_0 : w9.cell? ⟨gb101, 0, none⟩ = some (.int .i64 0) := (blk_cell BK101.out 0).trans rfl; have hcz10_1 : w9.cell? ⟨gb101, 1, none⟩ = some (.int .i64 0) := (blk_cell BK101.out 1).trans rfl; have hfz10_0 := blk_frozen BK101.out 0; have hfz10_1 := blk_frozen BK101.out 1)))
    refine bodyPost_ret (results_ct rfl _ _ gb101 28 #[.int .i64 0, .int .i64 0] (0, 0) _ rfl (by (with_reducible repeat (first | refine blk_drewN ?_ _ | refine blk_drew ?_ | refine blk_alloc ?_ _)); refine blk_put (cs := #[.int .i64 0, .int .i64 0]) ?_ 1 _ rfl; (with_reducible repeat (first | refine blk_drewN ?_ _ | refine blk_drew ?_ | refine blk_alloc ?_ _)); refine blk_put (cs := #[.int .i64 0, .int .i64 0]) ?_ 0 _ rfl; (with_reducible repeat (first | refine blk_drewN ?_ _ | refine blk_drew ?_ | refine blk_alloc ?_ _)); exact BK101.out) Try.underlying28 rfl (by kernel_rfl)) rfl ?_
    exact ⟨by first | rfl | (simp [errW_none, errW_some] <;> rfl) | (simp [*, errW_none, errW_some] <;> rfl), by repeat (first | (with_reducible first | exact HB.out | apply below_alloc | apply pw_below_drewN | apply below_drew1 | refine below_set ?_ GE101.out) | exact HB.out)⟩
   ·rw [if_neg c7] at H
    have c7b0 : decide ((wrap64 (Int.tdiv (wrap64 (a1 + a2)) a0)) ≤ (wrap64 (Int.tdiv (wrap64 ((wrap64 (a1 + a0)) - 1)) a0))) = false := decide_eq_false c7
    clear c7
    simp only [Option.some.injEq, Prod.mk.injEq] at H
    obtain ⟨rfl, rfl, rfl⟩ := H
    go_enter Try.func9, Try.ntmps9
    go_wp2_with (first | ((with_reducible refine HOpen.gate_append ?_); simp only [List.cons_append, List.nil_append]) | ((with_reducible refine gate_dst (N := 6) rfl ?_); refine box_event ?hg (N := 6) ?hd (cs := #[.int .i64 0, .int .i64 0]) (t := 28) ?hr ?_; (case hd => rfl); (case hg => rfl); (case hr => first | (go_simp; done) | (go_simp; rfl)); intro gb101 hg w11 hbox hb; have n0_ := Aside0.mk (below_step (by repeat (first | (with_reducible first | exact HB.out | apply below_alloc | apply pw_below_drewN | apply below_drew1) | exact HB.out)) hb); have n1_ := Aside0.mk (hbox); have n2_ := Aside0.mk ((by rw [hg]; exact (below_size (by repeat (first | (with_reducible first | exact HB.out | apply below_alloc | apply pw_below_drewN | apply below_drew1) | exact HB.out))) : w.heap.size ≤ gb101)); have n3_ := Aside0.mk ((by rw [hg]; exact (below_size (by repeat (first | (with_reducible first | exact HB.out | apply below_alloc | apply pw_below_drewN | apply below_drew1) | exact HB.out))) : w.heap.size ≤ gb101)); clear HB; have HB := n0_; have BK101 := n1_; have GW101 := n2_; have GE101 := n3_; clear n0_ n1_ n2_ n3_; clear hb hbox hg) | (go_at_call 23; (with_reducible refine (span_right.calls a0 a1 a2 true _ A4.out).mono ?_); rintro e w12 ⟨rfl, hb⟩; have n0_ := Aside0.mk (blk_below (g := gb101) (o := .cells #[.int .i64 0, .int .i64 0] 28 (0, 0)) (by (with_reducible repeat (first | refine blk_drewN ?_ _ | refine blk_drew ?_ | refine blk_alloc ?_ _)); exact BK101.out) hb); have n1_ := Aside0.mk (below_step (by repeat (first | (with_reducible first | exact HB.out | apply below_alloc | apply pw_below_drewN | apply below_drew1 | refine below_set ?_ GE101.out) | exact HB.out)) hb); clear BK101; clear HB; have BK101 := n0_; have HB := n1_; clear n0_ n1_; (try clear hb); (try clear hb2); (try clear hk); (try clear hi); have hcz13_0 : w12.cell? ⟨gb101, 0, none⟩ = some (.int .i64 0) := (blk_cell BK101.out 0).trans rfl; have hcz13_1 : w12.cell? ⟨gb101, 1, none⟩ = some (.int .i64 0) := (blk_cell BK101.out 1).trans rfl; have hfz13_0 := blk_frozen BK101.out 0; have hfz13_1 := blk_frozen BK101.out 1))
    repeat (go_quiet (first | ((with_reducible refine gate_dst (N := 6) rfl ?_); refine box_event ?hg (N := 6) ?hd (cs := #[.int .i64 0, .int .i64 0]) (t := 28) ?hr ?_; (case hd => rfl); (case hg => rfl); (case hr => first | (go_simp; done) | (go_simp; rfl)); intro gb101 hg w11 hbox hb; have n0_ := Aside0.mk (below_step (by repeat (first | (with_reducible first | exact HB.out | apply below_alloc | apply pw_below_drewN | apply below_drew1) | exact HB.out)) hb); have n1_ := Aside0.mk (hbox); have n2_ := Aside0.mk ((by rw [hg]; exact (below_size (by repeat (first | (with_reducible first | exact HB.out | apply below_alloc | apply pw_below_drewN | apply below_drew1) | exact HB.out))) : w.heap.size ≤ gb101)); have n3_ := Aside0.mk ((by rw [hg]; exact (below_size (by repeat (first | (with_reducible first | exact HB.out | apply below_alloc | apply pw_below_drewN | apply below_drew1) | exact HB.out))) : w.heap.size ≤ gb101)); clear HB; have HB := n0_; have BK101 := n1_; have GW101 := n2_; have GE101 := n3_; clear n0_ n1_ n2_ n3_; clear hb hbox hg) | (go_at_call 23; (with_reducible refine (span_right.calls a0 a1 a2 true _ A4.out).mono ?_); rintro e w12 ⟨rfl, hb⟩; have n0_ := Aside0.mk (blk_below (g := gb101) (o := .cells #[.int .i64 0, .int .i64 0] 28 (0, 0)) (by (with_reducible repeat (first | refine blk_drewN ?_ _ | refine blk_drew ?_ | refine blk_alloc ?_ _)); exact BK101.out) hb); have n1_ := Aside0.mk (below_step (by repeat (first | (with_reducible first | exact HB.out | apply below_alloc | apply pw_below_drewN | apply below_drew1 | refine below_set ?_ GE101.out) | exact HB.out)) hb); clear BK101; clear HB; have BK101 := n0_; have HB := n1_; clear n0_ n1_; (try clear hb); (try clear hb2); (try clear hk); (try clear hi); have hcz13_0 : w12.cell? ⟨gb101, 0, none⟩ = some (.int .i64 0) := (blk_cell BK101.out 0).trans rfl; have hcz13_1 : w12.cell? ⟨gb101, 1, none⟩ = some (.int .i64 0) := (blk_cell BK101.out 1).trans rfl; have hfz13_0 := blk_frozen BK101.out 0; have hfz13_1 := blk_frozen BK101.out 1)); try go_wp2_with (first | ((with_reducible refine HOpen.gate_append ?_); simp only [List.cons_append, List.nil_append]) | ((with_reducible refine gate_dst (N := 6) rfl ?_); refine box_event ?hg (N := 6) ?hd (cs := #[.int .i64 0, .int .i64 0]) (t := 28) ?hr ?_; (case hd => rfl); (case hg => rfl); (case hr => first | (go_simp; done) | (go_simp; rfl)); intro gb101 hg w11 hbox hb; have n0_ := Aside0.mk (below_step (by repeat (first | (with_reducible first | exact HB.out | apply below_alloc | apply pw_below_drewN | apply below_drew1) | exact HB.out)) hb); have n1_ := Aside0.mk (hbox); have n2_ := Aside0.mk ((by rw [hg]; exact (below_size (by repeat (first | (with_reducible first | exact HB.out | apply below_alloc | apply pw_below_drewN | apply below_drew1) | exact HB.out))) : w.heap.size ≤ gb101)); have n3_ := Aside0.mk ((by rw [hg]; exact (below_size (by repeat (first | (with_reducible first | exact HB.out | apply below_alloc | apply pw_below_drewN | apply below_drew1) | exact HB.out))) : w.heap.size ≤ gb101)); clear HB; have HB := n0_; have BK101 := n1_; have GW101 := n2_; have GE101 := n3_; clear n0_ n1_ n2_ n3_; clear hb hbox hg) | (go_at_call 23; (with_reducible refine (span_right.calls a0 a1 a2 true _ A4.out).mono ?_); rintro e w12 ⟨rfl, hb⟩; have n0_ := Aside0.mk (blk_below (g := gb101) (o := .cells #[.int .i64 0, .int .i64 0] 28 (0, 0)) (by (with_reducible repeat (first | refine blk_drewN ?_ _ | refine blk_drew ?_ | refine blk_alloc ?_ _)); exact BK101.out) hb); have n1_ := Aside0.mk (below_step (by repeat (first | (with_reducible first | exact HB.out | apply below_alloc | apply pw_below_drewN | apply below_drew1 | refine below_set ?_ GE101.out) | exact HB.out)) hb); clear BK101; clear HB; have BK101 := n0_; have HB := n1_; clear n0_ n1_; (try clear hb); (try clear hb2); (try clear hk); (try clear hi); have hcz13_0 : w12.cell? ⟨gb101, 0, none⟩ = some (.int .i64 0) := (blk_cell BK101.out 0).trans rfl; have hcz13_1 : w12.cell? ⟨gb101, 1, none⟩ = some (.int .i64 0) := (blk_cell BK101.out 1).trans rfl; have hfz13_0 := blk_frozen BK101.out 0; have hfz13_1 := blk_frozen BK101.out 1)))
    refine bodyPost_ret (results_ct rfl _ _ gb101 28 #[.int .i64 (wrap64 (Int.tdiv (wrap64 ((wrap64 (a1 + a0)) - 1)) a0)), .int .i64 (wrap64 (Int.tdiv (wrap64 (a1 + a2)) a0))] (0, 0) _ rfl (by (with_reducible repeat (first | refine blk_drewN ?_ _ | refine blk_drew ?_ | refine blk_alloc ?_ _)); refine blk_put (cs := #[.int .i64 (wrap64 (Int.tdiv (wrap64 ((wrap64 (a1 + a0)) - 1)) a0)), .int .i64 0]) ?_ 1 _ rfl; (with_reducible repeat (first | refine blk_drewN ?_ _ | refine blk_drew ?_ | refine blk_alloc ?_ _)); refine blk_put (cs := #[.int .i64 0, .int .i64 0]) ?_ 0 _ rfl; (with_reducible repeat (first | refine blk_drewN ?_ _ | refine blk_drew ?_ | refine blk_alloc ?_ _)); exact BK101.out) Try.underlying28 rfl (by kernel_rfl)) rfl ?_
    exact ⟨by first | rfl | (simp [errW_none, errW_some] <;> rfl) | (simp [*, errW_none, errW_some] <;> rfl), by repeat (first | (with_reducible first | exact HB.out | apply below_alloc | apply pw_below_drewN | apply below_drew1 | refine below_set ?_ GE101.out) | exact HB.out)⟩
 ·replace c5 := Bool.eq_false_iff.mpr c5
  subst c5
  have H1 : (some (0, 0, 1)) = some (r1, r2, r3) := by rw [if_neg (show ¬ (false = true) by decide)] at H; exact H
  clear H
  have H := H1
  clear H1
  simp only [Option.some.injEq, Prod.mk.injEq] at H
  obtain ⟨rfl, rfl, rfl⟩ := H
  go_enter Try.func9, Try.ntmps9
  go_wp2_with (first | ((with_reducible refine HOpen.gate_append ?_); simp only [List.cons_append, List.nil_append]) | ((with_reducible refine gate_dst (N := 6) rfl ?_); refine box_event ?hg (N := 6) ?hd (cs := #[.int .i64 0, .int .i64 0]) (t := 28) ?hr ?_; (case hd => rfl); (case hg => rfl); (case hr => first | (go_simp; done) | (go_simp; rfl)); intro gb101 hg w14 hbox hb; have n0_ := Aside0.mk (below_step (by repeat (first | (with_reducible first | exact HB.out | apply below_alloc | apply pw_below_drewN | apply below_drew1) | exact HB.out)) hb); have n1_ := Aside0.mk (hbox); have n2_ := Aside0.mk ((by rw [hg]; exact (below_size (by repeat (first | (with_reducible first | exact HB.out | apply below_alloc | apply pw_below_drewN | apply below_drew1) | exact HB.out))) : w.heap.size ≤ gb101)); have n3_ := Aside0.mk ((by rw [hg]; exact (below_size (by repeat (first | (with_reducible first | exact HB.out | apply below_alloc | apply pw_below_drewN | apply below_drew1) | exact HB.out))) : w.heap.size ≤ gb101)); clear HB; have HB := n0_; have BK101 := n1_; have GW101 := n2_; have GE101 := n3_; clear n0_ n1_ n2_ n3_; clear hb hbox hg) | (go_at_call 23; (with_reducible refine (span_right.calls a0 a1 a2 false _ A4.out).mono ?_); rintro e w15 ⟨rfl, hb⟩; have n0_ := Aside0.mk (blk_below (g := gb101) (o := .cells #[.int .i64 0, .int .i64 0] 28 (0, 0)) (by (with_reducible repeat (first | refine blk_drewN ?_ _ | refine blk_drew ?_ | refine blk_alloc ?_ _)); exact BK101.out) hb); have n1_ := Aside0.mk (below_step (by repeat (first | (with_reducible first | exact HB.out | apply below_alloc | apply pw_below_drewN | apply below_drew1 | refine below_set ?_ GE101.out) | exact HB.out)) hb); clear BK101; clear HB; have BK101 := n0_; have HB := n1_; clear n0_ n1_; (try clear hb); (try clear hb2); (try clear hk); (try clear hi); have hcz16_0 : w15.cell? ⟨gb101, 0, none⟩ = some (.int .i64 0) := (blk_cell BK101.out 0).trans rfl; have hcz16_1 : w15.cell? ⟨gb101, 1, none⟩ = some (.int .i64 0) := (blk_cell BK101.out 1).trans rfl; have hfz16_0 := blk_frozen BK101.out 0; have hfz16_1 := blk_frozen BK101.out 1))
  repeat (go_quiet (first | ((with_reducible refine gate_dst (N := 6) rfl ?_); refine box_event ?hg (N := 6) ?hd (cs := #[.int .i64 0, .int .i64 0]) (t := 28) ?hr ?_; (case hd => rfl); (case hg => rfl); (case hr => first | (go_simp; done) | (go_simp; rfl)); intro gb101 hg w14 hbox hb; have n0_ := Aside0.mk (below_step (by repeat (first | (with_reducible first | exact HB.out | apply below_alloc | apply pw_below_drewN | apply below_drew1) | exact HB.out)) hb); have n1_ := Aside0.mk (hbox); have n2_ := Aside0.mk ((by rw [hg]; exact (below_size (by repeat (first | (with_reducible first | exact HB.out | apply below_alloc | apply pw_below_drewN | apply below_drew1) | exact HB.out))) : w.heap.size ≤ gb101)); have n3_ := Aside0.mk ((by rw [hg]; exact (below_size (by repeat (first | (with_reducible first | exact HB.out | apply below_alloc | apply pw_below_drewN | apply below_drew1) | exact HB.out))) : w.heap.size ≤ gb101)); clear HB; have HB := n0_; have BK101 := n1_; have GW101 := n2_; have GE101 := n3_; clear n0_ n1_ n2_ n3_; clear hb hbox hg) | (go_at_call 23; (with_reducible refine (span_right.calls a0 a1 a2 false _ A4.out).mono ?_); rintro e w15 ⟨rfl, hb⟩; have n0_ := Aside0.mk (blk_below (g := gb101) (o := .cells #[.int .i64 0, .int .i64 0] 28 (0, 0)) (by (with_reducible repeat (first | refine blk_drewN ?_ _ | refine blk_drew ?_ | refine blk_alloc ?_ _)); exact BK101.out) hb); have n1_ := Aside0.mk (below_step (by repeat (first | (with_reducible first | exact HB.out | apply below_alloc | apply pw_below_drewN | apply below_drew1 | refine below_set ?_ GE101.out) | exact HB.out)) hb); clear BK101; clear HB; have BK101 := n0_; have HB := n1_; clear n0_ n1_; (try clear hb); (try clear hb2); (try clear hk); (try clear hi); have hcz16_0 : w15.cell? ⟨gb101, 0, none⟩ = some (.int .i64 0) := (blk_cell BK101.out 0).trans rfl; have hcz16_1 : w15.cell? ⟨gb101, 1, none⟩ = some (.int .i64 0) := (blk_cell BK101.out 1).trans rfl; have hfz16_0 := blk_frozen BK101.out 0; have hfz16_1 := blk_frozen BK101.out 1)); try go_wp2_with (first | ((with_reducible refine HOpen.gate_append ?_); simp only [List.cons_append, List.nil_append]) | ((with_reducible refine gate_dst (N := 6) rfl ?_); refine box_event ?hg (N := 6) ?hd (cs := #[.int .i64 0, .int .i64 0]) (t := 28) ?hr ?_; (case hd => rfl); (case hg => rfl); (case hr => first | (go_simp; done) | (go_simp; rfl)); intro gb101 hg w14 hbox hb; have n0_ := Aside0.mk (below_step (by repeat (first | (with_reducible first | exact HB.out | apply below_alloc | apply pw_below_drewN | apply below_drew1) | exact HB.out)) hb); have n1_ := Aside0.mk (hbox); have n2_ := Aside0.mk ((by rw [hg]; exact (below_size (by repeat (first | (with_reducible first | exact HB.out | apply below_alloc | apply pw_below_drewN | apply below_drew1) | exact HB.out))) : w.heap.size ≤ gb101)); have n3_ := Aside0.mk ((by rw [hg]; exact (below_size (by repeat (first | (with_reducible first | exact HB.out | apply below_alloc | apply pw_below_drewN | apply below_drew1) | exact HB.out))) : w.heap.size ≤ gb101)); clear HB; have HB := n0_; have BK101 := n1_; have GW101 := n2_; have GE101 := n3_; clear n0_ n1_ n2_ n3_; clear hb hbox hg) | (go_at_call 23; (with_reducible refine (span_right.calls a0 a1 a2 false _ A4.out).mono ?_); rintro e w15 ⟨rfl, hb⟩; have n0_ := Aside0.mk (blk_below (g := gb101) (o := .cells #[.int .i64 0, .int .i64 0] 28 (0, 0)) (by (with_reducible repeat (first | refine blk_drewN ?_ _ | refine blk_drew ?_ | refine blk_alloc ?_ _)); exact BK101.out) hb); have n1_ := Aside0.mk (below_step (by repeat (first | (with_reducible first | exact HB.out | apply below_alloc | apply pw_below_drewN | apply below_drew1 | refine below_set ?_ GE101.out) | exact HB.out)) hb); clear BK101; clear HB; have BK101 := n0_; have HB := n1_; clear n0_ n1_; (try clear hb); (try clear hb2); (try clear hk); (try clear hi); have hcz16_0 : w15.cell? ⟨gb101, 0, none⟩ = some (.int .i64 0) := (blk_cell BK101.out 0).trans rfl; have hcz16_1 : w15.cell? ⟨gb101, 1, none⟩ = some (.int .i64 0) := (blk_cell BK101.out 1).trans rfl; have hfz16_0 := blk_frozen BK101.out 0; have hfz16_1 := blk_frozen BK101.out 1)))
  refine bodyPost_ret (results_ct rfl _ _ gb101 28 #[.int .i64 0, .int .i64 0] (0, 0) _ rfl (by (with_reducible repeat (first | refine blk_drewN ?_ _ | refine blk_drew ?_ | refine blk_alloc ?_ _)); refine blk_put (cs := #[.int .i64 0, .int .i64 0]) ?_ 1 _ rfl; (with_reducible repeat (first | refine blk_drewN ?_ _ | refine blk_drew ?_ | refine blk_alloc ?_ _)); refine blk_put (cs := #[.int .i64 0, .int .i64 0]) ?_ 0 _ rfl; (with_reducible repeat (first | refine blk_drewN ?_ _ | refine blk_drew ?_ | refine blk_alloc ?_ _)); exact BK101.out) Try.underlying28 rfl (by kernel_rfl)) rfl ?_
  exact ⟨by first | rfl | (simp [errW_none, errW_some] <;> rfl) | (simp [*, errW_none, errW_some] <;> rfl), by repeat (first | (with_reducible first | exact HB.out | apply below_alloc | apply pw_below_drewN | apply below_drew1 | refine below_set ?_ GE101.out) | exact HB.out)⟩

def caulkref19_Same.l0 : Nat → List (S43) → List (S43) → Int → Int → Option (Bool)
 | 0, _, _, _, _ => none
 | k + 1, x0, x1, x12, x13 => if x13 < x12 then (if 0 ≤ x13 then (if x13 < (x0.length : Int) then (if x13 < (x1.length : Int) then (if (!(((rd_T43 x0 x13).f0) == ((rd_T43 x1 x13).f0)) || (!(((rd_T43 x0 x13).f1) == ((rd_T43 x1 x13).f1)) || (!(((rd_T43 x0 x13).f2) == ((rd_T43 x1 x13).f2))))) = true then (some false) else (caulkref19_Same.l0 k x0 x1 x12 (wrap64 (x13 + 1)))) else (none)) else (none)) else (none)) else (some true)
def caulkref19_Same.f (k : Nat) (l0 : List (S43)) (l1 : List (S43)) : Option (Bool) := if (l0.length : Int) = (l1.length : Int) then (caulkref19_Same.l0 k l0 l1 (l0.length : Int) 0) else (some false)
theorem caulkref19_Same.mono_l : ∀ k, (∀ y0 y1 y2 y3, LeO (caulkref19_Same.l0 k y0 y1 y2 y3) (caulkref19_Same.l0 (k + 1) y0 y1 y2 y3))
 | 0 => fun _ _ _ _ r h => by simp [caulkref19_Same.l0] at h
 | k + 1 => by
  have ih0 := caulkref19_Same.mono_l k
  ·intro y0 y1 y2 y3
   unfold caulkref19_Same.l0
   repeat' first
   | (with_reducible exact ih0 _ _ _ _)
   | (with_reducible exact LeO.refl _)
   | (with_reducible exact LeO.none _)
   | (with_reducible refine LeO.ite ?_ ?_)
   | (with_reducible refine LeO.bind ?_ (fun _ => ?_))
   | exact ih0 _ _ _ _
   | exact LeO.none _
   | refine LeO.ite ?_ ?_
   | refine LeO.bind ?_ (fun _ => ?_)
theorem caulkref19_Same.mono : ∀ a0 a1 k, LeO (caulkref19_Same.f k a0 a1) (caulkref19_Same.f (k + 1) a0 a1) := by
 intro a0 a1 k
 have ih0 := caulkref19_Same.mono_l k
 unfold caulkref19_Same.f
 repeat' first
   | (with_reducible exact ih0 _ _ _ _)
   | (with_reducible exact LeO.refl _)
   | (with_reducible exact LeO.none _)
   | (with_reducible refine LeO.ite ?_ ?_)
   | (with_reducible refine LeO.bind ?_ (fun _ => ?_))
   | exact ih0 _ _ _ _
   | exact LeO.none _
   | refine LeO.ite ?_ ?_
   | refine LeO.bind ?_ (fun _ => ?_)
set_option maxHeartbeats 8000000 in
set_option maxRecDepth 100000 in
theorem caulkref19_Same.calls (k : Nat) (A0 : Option Addr) (c0 : Nat) (l0 : List (S43)) (A1 : Option Addr) (c1 : Nat) (l1 : List (S43)) (r : Bool) (w : World) (hr0 : Kd.C k43 w A0 l0.length l0) (hc0 : l0.length ≤ c0) (hr1 : Kd.C k43 w A1 l1.length l1) (hc1 : l1.length ≤ c1) (h : caulkref19_Same.f k l0 l1 = some r) :
  Calls Try.prog 11 #[.slice A0 l0.length c0, .slice A1 l1.length c1] w fun e w' => e = .returned (.bool r) ∧ Drawn0 w w' := by
 have hu43 := Try.underlying43
 have HR0 := Aside0.mk hr0
 have HC0 := Aside0.mk hc0
 clear hr0 hc0
 have HR1 := Aside0.mk hr1
 have HC1 := Aside0.mk hc1
 clear hr1 hc1
 have H : (if (l0.length : Int) = (l1.length : Int) then (caulkref19_Same.l0 k l0 l1 (l0.length : Int) 0) else (some false)) = some r := h
 clear h
 by_cases c3 : (l0.length : Int) = (l1.length : Int)
 ·rw [if_pos c3] at H
  have c3b0 : ((l0.length : Int) == (l1.length : Int)) = true := beq_iff_eq.mpr c3
  have c3b1 : ((l0.length : Int) != (l1.length : Int)) = false := bne_eq_false_iff_eq.mpr c3
  have c3b2 : (l0.length == l1.length) = true := by first | simpa using c3 | (simp at c3 ⊢; omega)
  clear c3
  have H' := Aside0.mk H
  clear H
  go_enter Try.func11, Try.ntmps11
  go_wp2
  repeat (go_quiet (fail); try go_wp2)
  go_loopg [13] k (fun kq v13 w' => ∃ (x13_1 : Int), v13 = .int .i64 x13_1 ∧ Aside0 (caulkref19_Same.l0 kq l0 l1 (l0.length : Int) x13_1 = some r) ∧ Aside0 (kq ≤ k) ∧ Drawn0 w w')
  case atStart => exact ⟨(0), (by first | rfl | (simp; done) | (simp [*]; done)), H', ⟨Nat.le_refl _⟩, by repeat (first | exact Drawn0.refl _ | apply Drawn0.step)⟩
  case round =>
   clear H'
   try clear c1
   try clear p2
   try clear c3
   try clear c3b0
   try clear c3b1
   try clear c3b2
   obtain ⟨x13_1, rfl, HA, HK1, ⟨m1, rfl⟩⟩ := hrel
   cases gk with
   | zero => exact absurd HA.out (by simp [caulkref19_Same.l0])
   | succ k1 =>
    have H := HA.out
    clear HA
    simp only [caulkref19_Same.l0] at H
    by_cases c4 : x13_1 < (l0.length : Int)
    ·rw [if_pos c4] at H
     have c4b0 : decide (x13_1 < (l0.length : Int)) = true := decide_eq_true c4
     clear c4
     by_cases c5 : 0 ≤ x13_1
     ·rw [if_pos c5] at H
      have c5b0 : decide (0 ≤ x13_1) = true := decide_eq_true c5
      clear c5
      by_cases c6 : x13_1 < (l0.length : Int)
      ·rw [if_pos c6] at H
       have c6b0 : decide (x13_1 < (l0.length : Int)) = true := decide_eq_true c6
       clear c6
       by_cases c7 : x13_1 < (l1.length : Int)
       ·rw [if_pos c7] at H
        have c7b0 : decide (x13_1 < (l1.length : Int)) = true := decide_eq_true c7
        clear c7
        by_cases c8 : (!(((rd_T43 l0 x13_1).f0) == ((rd_T43 l1 x13_1).f0)) || (!(((rd_T43 l0 x13_1).f1) == ((rd_T43 l1 x13_1).f1)) || (!(((rd_T43 l0 x13_1).f2) == ((rd_T43 l1 x13_1).f2))))) = true
        ·rw [if_pos c8] at H
         have c8b0 : (!(((rd_T43 l0 x13_1).f0) == ((rd_T43 l1 x13_1).f0)) || (!(((rd_T43 l0 x13_1).f1) == ((rd_T43 l1 x13_1).f1)) || (!(((rd_T43 l0 x13_1).f2) == ((rd_T43 l1 x13_1).f2))))) = true := c8
         clear c8
         obtain rfl := Option.some.inj H
         have p103 : 0 ≤ (x13_1 : Int) := of_decide_eq_true (by first | (with_reducible assumption) | assumption)
         have q103 : x13_1 < (l0.length : Int) := of_decide_eq_true (by first | (with_reducible assumption) | assumption)
         obtain ⟨ad103, e103, hx103_0, hx103_1, hx103_2⟩ := at_T43 HR0.out x13_1 p103 q103
         cases e103
         replace p103 := eq_true p103
         replace q103 := eq_true q103
         have p104 : 0 ≤ (x13_1 : Int) := of_decide_eq_true (by first | (with_reducible assumption) | assumption)
         have q104 : x13_1 < (l1.length : Int) := of_decide_eq_true (by first | (with_reducible assumption) | assumption)
         obtain ⟨ad104, e104, hx104_0, hx104_1, hx104_2⟩ := at_T43 HR1.out x13_1 p104 q104
         cases e104
         replace p104 := eq_true p104
         replace q104 := eq_true q104
         go_wp2
         repeat (go_quiet (fail); try go_wp2)
         go_ret
         exact ⟨by first | rfl | (simp; done) | (simp [*]; done), by repeat (first | exact Drawn0.refl _ | apply Drawn0.step)⟩
        ·rw [if_neg c8] at H
         have c8b0 : (!(((rd_T43 l0 x13_1).f0) == ((rd_T43 l1 x13_1).f0)) || (!(((rd_T43 l0 x13_1).f1) == ((rd_T43 l1 x13_1).f1)) || (!(((rd_T43 l0 x13_1).f2) == ((rd_T43 l1 x13_1).f2))))) = false := by simpa using c8
         clear c8
         have H' := Aside0.mk H
         clear H
         have p103 : 0 ≤ (x13_1 : Int) := of_decide_eq_true (by first | (with_reducible assumption) | assumption)
         have q103 : x13_1 < (l0.length : Int) := of_decide_eq_true (by first | (with_reducible assumption) | assumption)
         obtain ⟨ad103, e103, hx103_0, hx103_1, hx103_2⟩ := at_T43 HR0.out x13_1 p103 q103
         cases e103
         replace p103 := eq_true p103
         replace q103 := eq_true q103
         have p104 : 0 ≤ (x13_1 : Int) := of_decide_eq_true (by first | (with_reducible assumption) | assumption)
         have q104 : x13_1 < (l1.length : Int) := of_decide_eq_true (by first | (with_reducible assumption) | assumption)
         obtain ⟨ad104, e104, hx104_0, hx104_1, hx104_2⟩ := at_T43 HR1.out x13_1 p104 q104
         cases e104
         replace p104 := eq_true p104
         replace q104 := eq_true q104
         go_wp2
         repeat (go_quiet (fail); try go_wp2)
         go_roundg k1
         case measure => have := HK1.out; omega
         case rel => exact ⟨(wrap64 (x13_1 + 1)), (by first | rfl | (simp; done) | (simp [*]; done)), H', ⟨by have := HK1.out; omega⟩, by repeat (first | exact Drawn0.refl _ | apply Drawn0.step)⟩
       ·rw [if_neg c7] at H
        exact absurd H (by simp)
      ·rw [if_neg c6] at H
       exact absurd H (by simp)
     ·rw [if_neg c5] at H
      exact absurd H (by simp)
    ·rw [if_neg c4] at H
     have c4b0 : decide (x13_1 < (l0.length : Int)) = false := decide_eq_false c4
     clear c4
     obtain rfl := Option.some.inj H
     go_wp2
     repeat (go_quiet (fail); try go_wp2)
     go_ret
     exact ⟨by first | rfl | (simp; done) | (simp [*]; done), by repeat (first | exact Drawn0.refl _ | apply Drawn0.step)⟩
 ·rw [if_neg c3] at H
  have c3b0 : ((l0.length : Int) == (l1.length : Int)) = false := beq_eq_false_iff_ne.mpr c3
  have c3b1 : ((l0.length : Int) != (l1.length : Int)) = true := bne_iff_ne.mpr c3
  have c3b2 : (l0.length == l1.length) = false := by first | simpa using c3 | (simp at c3 ⊢; omega)
  obtain rfl := Option.some.inj H
  go_enter Try.func11, Try.ntmps11
  go_wp2
  repeat (go_quiet (fail); try go_wp2)
  go_ret
  exact ⟨by first | rfl | (simp; done) | (simp [*]; done), by repeat (first | exact Drawn0.refl _ | apply Drawn0.step)⟩

end Go.Proofs.Ytepbhlngcaiklaa.HSpan
