/- WRITTEN BY wip/hyb.py, a program of this workplace (out of the kit's printer and this workplace's own contracts). -/
import Derived.Test.YtpbkcdodpjpoeaaDoorGCBx0
import Derived.Test.YtpbkcdodpjpoeaaDoorGCBx2
import Derived.Test.YtpbkcdodpjpoeaaDoorGCBx3
namespace Go.Proofs.YtpbkcdodpjpoeaaDoor.HCB
open Go.RowKit Go.Proofs.YtpbkcdodpjpoeaaDoorW.PrintWords Go.Proofs.YtpbkcdodpjpoeaaDoorW.PrintLast Go.Proofs.YtpbkcdodpjpoeaaDoorW.PrintMore
attribute [local go_sem] max2_int min2_int max_two min_two max_three min_three max_four min_four   -- for this text's walks alone
set_option linter.unusedVariables false
set_option linter.unusedSimpArgs false

section
open Go Go.Shelf Go.Maps Go.Proofs.YtpbkcdodpjpoeaaDoor.Seq Go.Proofs.YtpbkcdodpjpoeaaDoor.MapL Go.Proofs.YtpbkcdodpjpoeaaDoorW.PrintLast
attribute [local go_sem] Oper.semAt_some max2_int min2_int max_two min_two
theorem append_str_at {w : World} {base : Nat} {v : Value} {n : Nat} {xs : List Value} (hown : w.ownsRowF base 5 1 v n xs) (s : ByteArray) (hb : n + s.size ≤ 140737488355328) (hbase : base ≤ w.heap.size) :
  ∃ v' w', (Builtin.append_ #[59, 9] 59 #[v, .string s]).run Tryd.prog w = .ok v' w' ∧ w'.ownsRowF base 5 1 v' (n + s.size) (xs ++ Lib.strCells s) ∧ w.grownBy w' v.ownBlock ∧ (∀ q, v'.ownBlock = some q → v.ownBlock = some q ∨ w.heap.size ≤ q) := by
 obtain ⟨i0, hi, hz0, hz1, hz2⟩ := info_parts Tryd.Builder_Extra_169.infoByte
 have h63 : n + s.size ≤ maxLen := by unfold maxLen; omega
 rcases hown.2 with ⟨rfl, rfl⟩ | ⟨g, cap, cur, fz, rfl, hbg, hg, hfz, hnc, hcm, hcs, htake⟩
 ·have hx0 : xs = [] := List.eq_nil_of_length_eq_zero (by simpa using hown.1)
  subst hx0
  obtain ⟨v', w', h1, h2, h3, _⟩ := Lib.run_append_own_stringF (P := Tryd.prog) (w := w) w.heap.size 59 9 59 5 i0 Tryd.underlying59 Tryd.underlying9 hi hz0 hz1 hz2 (.slice none 0 0) 0 [] (World.ownsRowF_nil _ _ _ _) s h63 hb (Nat.le_refl _)
  refine ⟨v', w', h1, ?_, h3, fun q hq => Or.inr (h2.lt q hq).1⟩
  refine ⟨h2.1, h2.2.imp id ?_⟩
  rintro ⟨g, cap, cur, fz, e, h4, h5⟩
  exact ⟨g, cap, cur, fz, e, by omega, h5⟩
 ·obtain ⟨v', w', h1, h2, h3, _⟩ := Lib.run_append_own_stringF (P := Tryd.prog) (w := w) base 59 9 59 5 i0 Tryd.underlying59 Tryd.underlying9 hi hz0 hz1 hz2 _ n xs hown s h63 hb hbase
  refine ⟨v', w', h1, h2, h3, fun q hq => ?_⟩
  have hcs' : cur.size = cap := by simpa using hcs
  by_cases hroom : n + s.size ≤ cap
  ·have hr := Lib.run_append_room_stringF (P := Tryd.prog) w 59 9 59 5 i0 Tryd.underlying59 Tryd.underlying9 hi hz1 g n cap cur fz hg (by simpa using hfz) s hroom (by omega)
   rw [h1] at hr
   injection hr with e1 e2
   subst e1
   exact Or.inl hq
  ·have hxl : xs.length = n := by simpa using hown.1
   have hr := Lib.run_append_grow_string (P := Tryd.prog) w 59 9 59 5 i0 (.int .u8 0) Tryd.underlying59 Tryd.underlying9 hi hz0 ⟨g, 0, none⟩ n cap xs (by rw [hz1]; simpa using hxl) (hown.cells (g := g) rfl) s (by unfold maxLen at h63; omega) (by omega) (by rw [hz2]; exact growslice_fits (by omega) (by omega))
   rw [h1] at hr
   injection hr with e1 e2
   subst e1
   right
   simp [Value.ownBlock] at hq
   omega
theorem ownsRowF_step {S : Nat → Prop} {W W' : World} {base : Nat} {e : TypeId} {size n : Nat} {v : Value} {xs : List Value} (hS : Step S W W') (h : W.ownsRowF base e size v n xs) (hn : ∀ g, v.ownBlock = some g → ¬ S g) : W'.ownsRowF base e size v n xs := by
 refine ⟨h.1, ?_⟩
 rcases h.2 with h0 | ⟨g, cap, cur, fz, rfl, hb, hg, h1⟩
 ·exact Or.inl h0
 ·exact Or.inr ⟨g, cap, cur, fz, rfl, hb, hS.block hg (hn g rfl), h1⟩
theorem wpListIn_append_str_at {F : Fence} {n : Nat} {w : World} {ops : Array Oper} {rest : List Oper} {o : Oper} {a : Act} {Q : Exit → Act → World → Prop} (hgd : o.guard = none) (sl x : Operand) (ho : o.op = .call { callee := .builtin .append, args := #[sl, x], argTypes := #[59, 9] }) (hty : o.type = 59) (v : Value) (s : ByteArray) (hs : a.eval sl = v) (hx : a.eval x = .string s)
  (v' : Value) (w' : World) (hrun : (Builtin.append_ #[59, 9] 59 #[v, .string s]).run Tryd.prog w = .ok v' w') (h : wpListIn F n Tryd.prog ops Q rest (a.put o.dst v') w') : wpListIn F n Tryd.prog ops Q (o :: rest) a w := by
 refine wpListIn_plain hgd fun K hK' => ?_
 unfold Oper.wpIn
 refine ⟨?_, ?_⟩
 ·simp [Oper.about, ho, resolve, Target.leads, Sem.run_pure]
 ·rw [Oper.semAt_plain F _ _ (by rw [ho]; intro c hc'; cases hc')]
  simp [execOp, ho, hty, resolve, invoke, builtin, hs, hx, hrun, Result.andThen]
  exact hK' _ _ h
def rdV (xs : List ByteArray) (F : FL) (at_ : Int) : ByteArray := (getL at_ F).getD (xs.getD at_.toNat ⟨#[]⟩)
theorem rdV_size {xs : List ByteArray} {F : FL} {fuse : Int} (h : DevOk xs F [] fuse) {at_ : Int} (h0 : 0 ≤ at_) (h1 : at_ < (xs.length : Int)) : (rdV xs F at_).size = 512 := by
 unfold rdV
 cases hg : getL at_ F with
 | some s => exact (h.2.2.2.1 _ (getL_mem hg)).2.2
 | none =>
  show (xs.getD at_.toNat ⟨#[]⟩).size = 512
  rw [List.getD_eq_getElem?_getD, List.getElem?_eq_getElem (show at_.toNat < xs.length by omega)]
  exact h.2.2.1 _ (List.getElem_mem _)
theorem read_ok (w : World) (i : DevIds) (xs : List ByteArray) (F : FL) (nw at_ : Int) (h : DevAt w i xs F [] false (-1) nw) (h0 : 0 ≤ at_) (h1 : at_ < (xs.length : Int)) :
  Calls Tryd.prog 25 #[.pointer (some ⟨i.d, 0, none⟩), .int .i64 at_] w fun e w' => e = .returned (.tuple #[.string (rdV xs F at_), .int .i64 0]) ∧ Step (fun _ => False) w w' := by
 have hR : readP xs F [] false at_ = (rdV xs F at_, 0) := by
  have hr : reachP xs.length false at_ = 0 := by unfold reachP; rw [if_neg (by decide), if_pos ⟨h0, h1⟩]
  unfold readP rdV
  rw [hr, if_neg (by decide)]
  cases getL at_ F <;> rfl
 have := dev_Read_any w i xs F [] false (-1) nw at_ h
 rw [hR] at this
 exact this
def rawL (xs : List ByteArray) (F : FL) (f0 : Int) : Nat → List UInt8
 | 0 => []
 | k + 1 => rawL xs F f0 k ++ (rdV xs F (f0 + (k : Int))).data.toList
def rawS (xs : List ByteArray) (F : FL) (f0 : Int) (n : Nat) : ByteArray := ⟨(rawL xs F f0 n).toArray⟩
theorem rawL_len {xs : List ByteArray} {F : FL} {fuse : Int} (h : DevOk xs F [] fuse) {f0 : Int} (h0 : 0 ≤ f0) : ∀ k : Nat, f0 + (k : Int) ≤ (xs.length : Int) → (rawL xs F f0 k).length = 512 * k
 | 0, _ => rfl
 | k + 1, h1 => by
  rw [rawL, List.length_append, rawL_len h h0 k (by omega), data_length, rdV_size h (by omega) (by omega)]
  omega
theorem conv_row {W : World} {B : Nat} {v : Value} {l : List UInt8} (h : W.ownsRowF B 5 1 v l.length (Lib.byteCells l)) (hl : 0 < l.length) : ∃ g cap, v = .slice (some ⟨g, 0, none⟩) l.length cap ∧ (convert 59 9 (.slice (some ⟨g, 0, none⟩) l.length cap)).run Tryd.prog W = .ok (.string ⟨l.toArray⟩) W := by
 rcases h.2 with ⟨_, h0⟩ | ⟨g, cap, cur, fz, rfl, hb, hg, _, hn, _, hcs, ht⟩
 ·omega
 ·refine ⟨g, cap, rfl, ?_⟩
  have := run_convert_bytes_arg (P := Tryd.prog) W 59 5 Tryd.underlying59 (by kernel_rfl) g 0 l.length cap (l.map fun b => (b.toNat : Int)) (by simp) (fun j hj => by
   have h1 : (cur.toList.take (l.length * 1))[j]? = some (.int .u8 (l[j].toNat : Int)) := by
    rw [ht]
    simp [Lib.byteCells, hj]
   rw [Nat.mul_one, List.getElem?_take_of_lt hj, Array.getElem?_toList] at h1
   simp only [World.cell?, hg, Nat.zero_add]
   rw [h1]
   simp [List.getD, hj]) 9 Tryd.underlying9
  have e : strOfNums (l.map fun b => (b.toNat : Int)) = ⟨l.toArray⟩ := by
   unfold strOfNums
   rw [List.map_map]
   have : ((fun n : Int => UInt8.ofNat n.toNat) ∘ fun b : UInt8 => (b.toNat : Int)) = id := by funext b; simp
   rw [this, List.map_id]
  rw [e] at this
  exact this
theorem two (w : World) (c0 c1 : Array Value) (t0 t1 : TypeId) : ∃ W, W = (w.alloc (.cells c0 t0)).alloc (.cells c1 t1) ∧ Step (fun _ => False) w W ∧ W.heap.size = w.heap.size + 2 ∧
  W.heap[w.heap.size]? = some (.cells c0 t0 (0, 0)) ∧ W.heap[w.heap.size + 1]? = some (.cells c1 t1 (0, 0)) := by
 have n0 := World.alloc_heap_new w (.cells c0 t0)
 have n1 := World.alloc_heap_new (w.alloc (.cells c0 t0)) (.cells c1 t1)
 simp only [World.size_alloc] at n0 n1
 have s1 := Step.alloc (fun _ => False) (w.alloc (.cells c0 t0)) (.cells c1 t1)
 have s0 := Step.alloc (fun _ => False) w (.cells c0 t0)
 exact ⟨_, rfl, step2 s0 s1, by simp, s1.block n0 (fun h => h), n1⟩
structure RawI (w Wc : World) (i : DevIds) (xs : List ByteArray) (F : FL) (nw : Int) (b p q : Nat) (f0 : Int) (v : Value) (k : Nat) : Prop where
 dev : DevAt Wc i xs F [] false (-1) nw
 h0 : Wc.heap[b]? = some (.cells #[.pointer (some ⟨i.d, 0, none⟩)] 27 (0, 0))
 h2 : Wc.heap[b + 1 + 1]? = some (.cells #[.string ⟨#[]⟩] 9 (0, 0))
 h3 : Wc.heap[b + 1 + 1 + 1]? = some (.cells #[.int .i64 0] 28 (0, 0))
 hp : Wc.heap[p]? = some (.cells #[.int .i64 f0] 3 (0, 0))
 hq : Wc.heap[q]? = some (.cells #[v] 59 (0, 0))
 row : Wc.ownsRowF (q + 1) 5 1 v (rawL xs F f0 k).length (Lib.byteCells (rawL xs F f0 k))
 st : Step (fun _ => False) w Wc
theorem RawI.step {w Wc W' : World} {i : DevIds} {xs : List ByteArray} {F : FL} {nw : Int} {b p q : Nat} {f0 : Int} {v : Value} {k : Nat} {S : Nat → Prop} (h : RawI w Wc i xs F nw b p q f0 v k) (hS : Step S Wc W') (hn : ∀ j, j < q → ¬ S j) (hq : ¬ S q) (hv : ∀ g, v.ownBlock = some g → ¬ S g) (hi : ∀ j, i.In j → j < q) (hb : b + 1 + 1 + 1 < p) (hp : p < q) (hw : w.heap.size ≤ q) : RawI w W' i xs F nw b p q f0 v k :=
 ⟨h.dev.step hS (fun j hj => hn j (hi j hj)), hS.block h.h0 (hn _ (by omega)), hS.block h.h2 (hn _ (by omega)), hS.block h.h3 (hn _ (by omega)), hS.block h.hp (hn _ hp), hS.block h.hq hq, ownsRowF_step hS h.row hv, h.st.trans hS (fun _ h => h) (fun j hj => Or.inr (by
  rcases Nat.lt_or_ge j q with h1 | h1
  ·exact absurd hj (hn j h1)
  ·omega))⟩
set_option maxRecDepth 100000 in
set_option maxHeartbeats 4000000 in
theorem cluster_Raw_any (w : World) (i : DevIds) (xs : List ByteArray) (F : FL) (nw : Int) (sh gk gm C at_ : Int) (h : DevAt w i xs F [] false (-1) nw) (hg : GeoOk sh gk gm C) (hn : (xs.length : Int) = C * (nS sh : Int)) (ha : 0 ≤ at_) (hb : at_ < C) :
  Calls Tryd.prog 9 #[.pointer (some ⟨i.d, 0, none⟩), geoV sh gk gm C, .int .i64 at_] w fun e w' => e = .returned (.tuple #[.string (rawS xs F (at_ * (nS sh : Int)) (nS sh)), .int .i64 0]) ∧ Step (fun _ => False) w w' := by
 unfold geoV
 have hu23 := Tryd.underlying23
 have hF : firstP sh gk gm C at_ = (at_ * (nS sh : Int), 0) := by rw [firstP, if_pos hg, if_pos ⟨ha, hb⟩]
 refine (callsIn_wide (n := 4)).1 ?_
 refine callsIn_of_wp_marks Tryd.func9 rfl trivial ?_ rfl
 simp only [Tryd.ntmps9, List.size_toArray, List.length_cons, List.length_nil, Nat.reduceAdd, Nat.reduceSub, Array.replicate_succ, Array.replicate_zero, List.push_toArray, List.append_toArray, List.nil_append, List.cons_append]
 obtain ⟨W0, hW0, hs0, hz0, k0, k1, k2, k3⟩ := four w #[.pointer (some ⟨i.d, 0, none⟩)] #[.int .i64 sh, .int .i64 gk, .int .i64 gm, .int .i64 C] #[.string ⟨#[]⟩] #[.int .i64 0] 27 23 9 28
 gi_wp2
 refine ⟨trivial, ?_⟩
 gi_at_call 23
 refine (callsIn_wide.2 (geom_First_any sh gk gm C at_ _)).mono ?_
 rintro e w1 ⟨rfl, hb1⟩
 rw [hF]
 dsimp only
 rw [show (((w.alloc (.cells #[.pointer (some ⟨i.d, 0, none⟩)] 27)).alloc (.cells #[.int .i64 sh, .int .i64 gk, .int .i64 gm, .int .i64 C] 23)).alloc (.cells #[.string ⟨#[]⟩] 9)).alloc (.cells #[.int .i64 0] 28) = W0 from hW0.symm] at hb1
 have hs1 := step2 hs0 (Step.of_below (S := fun _ => False) hb1)
 have q0 := (Step.of_below (S := fun _ => False) hb1).block k0 (fun h => h)
 have q1 := (Step.of_below (S := fun _ => False) hb1).block k1 (fun h => h)
 have q2 := (Step.of_below (S := fun _ => False) hb1).block k2 (fun h => h)
 have q3 := (Step.of_below (S := fun _ => False) hb1).block k3 (fun h => h)
 have hz1 := hb1.size
 rw [hz0] at hz1
 clear hW0 hb1 k0 k1 k2 k3 hs0 hz0
 obtain ⟨b, hbe⟩ : ∃ b, b = w.heap.size := ⟨_, rfl⟩
 have hD1 := h.step hs1 (fun _ _ h => h)
 have hlt := h.lt
 have hbw : w.heap.size ≤ b := by omega
 rw [← hbe] at q0 q1 q2 q3 hz1 hlt ⊢
 clear hbe
 have hn1 := nS_pos sh
 have hn2 := nS_le hg.2.1
 have hln := h.ok.2.1
 have hf1 : 0 ≤ at_ * (nS sh : Int) := Int.mul_nonneg ha (Int.natCast_nonneg _)
 have hf2 : at_ * (nS sh : Int) + (nS sh : Int) ≤ (xs.length : Int) := by
  rw [hn]
  have := Int.mul_le_mul_of_nonneg_right (show at_ + 1 ≤ C by omega) (Int.natCast_nonneg (nS sh))
  rw [Int.add_mul, Int.one_mul] at this
  exact this
 generalize hf0 : at_ * (nS sh : Int) = f0 at *
 obtain ⟨W, hW, hs2, hz2, r4, r5⟩ := two w1 #[.int .i64 f0] #[.slice none 0 0] 3 59
 have r0 := hs2.block q0 (fun h => h)
 have r1 := hs2.block q1 (fun h => h)
 have r2 := hs2.block q2 (fun h => h)
 have r3 := hs2.block q3 (fun h => h)
 have hD2 := hD1.step hs2 (fun _ _ h => h)
 have z0 : ((w1.alloc (.cells #[.int .i64 f0] 3)).alloc (.cells #[.slice none 0 0] 59)).cell? ⟨b + 1, 0, none⟩ = some (.int .i64 sh) := by rw [← hW, Lib.cell_of_heap r1]; rfl
 have z1 : ((w1.alloc (.cells #[.int .i64 f0] 3)).alloc (.cells #[.slice none 0 0] 59)).cell? ⟨b + 1, 1, none⟩ = some (.int .i64 gk) := by rw [← hW, Lib.cell_of_heap r1]; rfl
 have z2 : ((w1.alloc (.cells #[.int .i64 f0] 3)).alloc (.cells #[.slice none 0 0] 59)).cell? ⟨b + 1, 2, none⟩ = some (.int .i64 gm) := by rw [← hW, Lib.cell_of_heap r1]; rfl
 have z3 : ((w1.alloc (.cells #[.int .i64 f0] 3)).alloc (.cells #[.slice none 0 0] 59)).cell? ⟨b + 1, 3, none⟩ = some (.int .i64 C) := by rw [← hW, Lib.cell_of_heap r1]; rfl
 gi_wp2
 refine ⟨trivial, ?_⟩
 gi_at_call 24
 refine (callsIn_wide.2 (cluster_parts_any sh gk gm C _)).mono ?_
 rintro e w4 ⟨rfl, rfl⟩
 rw [← hW]
 clear z0 z1 z2 z3 hW
 have hs3 := Step.alloc (fun _ => False) W (.cells #[.int .i64 sh, .int .i64 gk, .int .i64 gm, .int .i64 C] 23)
 have hgeo : GeoAt (W.alloc (.cells #[.int .i64 sh, .int .i64 gk, .int .i64 gm, .int .i64 C] 23)) W.heap.size sh gk gm C := World.alloc_heap_new W _
 have u0 := hs3.block r0 (fun h => h)
 have u2 := hs3.block r2 (fun h => h)
 have u3 := hs3.block r3 (fun h => h)
 have u4 := hs3.block r4 (fun h => h)
 have u5 := hs3.block r5 (fun h => h)
 have hD3 := hD2.step hs3 (fun _ _ h => h)
 have hs4 := step2 (step2 hs1 hs2) hs3
 have hz4 : (W.alloc (.cells #[.int .i64 sh, .int .i64 gk, .int .i64 gm, .int .i64 C] 23)).heap.size = W.heap.size + 1 := by simp
 have hz2a : w1.heap.size + 2 ≤ W.heap.size := by omega
 clear hz2 hs1 hs2 hs3 q0 q1 q2 q3 r0 r1 r2 r3 r4 r5 hD1 hD2
 gi_wp2
 obtain ⟨p, hp⟩ : ∃ p, p = w1.heap.size := ⟨_, rfl⟩
 obtain ⟨q, hq⟩ : ∃ q, q = p + 1 := ⟨_, rfl⟩
 obtain ⟨G, hG⟩ : ∃ G, G = W.heap.size := ⟨_, rfl⟩
 rw [← hp] at u4 u5 hz1 hz2a ⊢
 rw [← hq] at u5 ⊢
 rw [← hG] at hgeo hz4 hz2a ⊢
 generalize W.alloc (.cells #[.int .i64 sh, .int .i64 gk, .int .i64 gm, .int .i64 C] 23) = V at *
 have hpq : p < q := by omega
 have hGq : q < G := by omega
 clear hG hp hq hz2a
 have hiq : ∀ j, i.In j → j < q := fun j hj => by have := hlt j hj; omega
 have hok := h.ok
 refine wpIn_rangeFunc_O (gf := 49) (lb := #[.pointer (some ⟨G, 0, none⟩)]) rfl (enters_of Tryd.func49 (by kernel_rfl) rfl) (parts_seq V G sh gk gm C hg hgeo) (fun r hr => by omega) (fun _ => rfl)
  (fun O pre Wc => ∃ v, (∀ k, O k ↔ k = q ∨ v.ownBlock = some k) ∧ RawI w Wc i xs F nw b p q f0 v pre.length ∧ ∀ g, v.ownBlock = some g → g ≠ G)
  (fun _ _ _ _ => False) ⟨?lt, ?step⟩ (fun _ => ⟨fun _ _ _ h => h.elim, fun _ _ _ _ _ h => h.elim⟩) (fun k => k = q) (fun k hk hz => by omega) ⟨.slice none 0 0, by simp [Value.ownBlock], ⟨hD3, u0, u2, u3, u4, u5, World.ownsRowF_nil _ _ _ _, hs4⟩, fun g hg => by cases hg⟩ ?round ?done ?stop
 case lt =>
  rintro O pre Wc ⟨v, h1, h2, _⟩ k hk
  rcases (h1 k).1 hk with rfl | hk
  ·exact blk_lt h2.hq
  ·exact (h2.row.lt k hk).2
 case step =>
  rintro O pre Wc W' S ⟨v, h1, h2, h3⟩ hS hs
  exact ⟨v, h1, h2.step hS (fun j hj h => (hs j h).2.elim (fun h => h) (fun h => by omega)) (fun h => (hs _ h).1 ((h1 _).2 (Or.inl rfl))) (fun g hg h => (hs _ h).1 ((h1 _).2 (Or.inr hg))) hiq (by omega) hpq (by omega), h3⟩
 case round =>
  rintro l O pre x Wc hl hWs - hpre
  obtain ⟨hx1, hx2⟩ := part_pre hpre
  replace hx1 := hx1.symm
  dsimp only [partE]
  gi_wp2
  refine ⟨Step.refl _ _, ?_⟩
  rintro Wb hsb ⟨v, h1, h2, h3⟩
  rw [hx1] at h2
  have y0 : Wb.cell? ⟨b, 0, none⟩ = some (.pointer (some ⟨i.d, 0, none⟩)) := by rw [Lib.cell_of_heap h2.h0]; rfl
  have yp : Wb.cell? ⟨p, 0, none⟩ = some (.int .i64 f0) := by rw [Lib.cell_of_heap h2.hp]; rfl
  have hRd := read_ok Wb i xs F nw (f0 + (x : Int)) h2.dev (by omega) (by omega)
  have hsz := rdV_size (F := F) (fuse := -1) h2.dev.ok (at_ := f0 + (x : Int)) (by omega) (by omega)
  have hrl := rawL_len (F := F) (fuse := -1) h2.dev.ok hf1 x (by omega)
  gi_wp2
  refine ⟨trivial, ?_⟩
  gi_at_call 25
  refine (callsIn_wide.2 hRd).mono ?_
  rintro e W2 ⟨rfl, hs2⟩
  have h4 := h2.step hs2 (fun _ _ h => h) (fun h => h) (fun _ _ h => h) hiq (by omega) hpq (by omega)
  have hq2 := blk_lt h4.hq
  have hnq : ∀ g, v.ownBlock = some g → g ≠ q := fun g hg => by have := (h4.row.lt g hg).1; omega
  obtain ⟨v', W3, hrun, hown3, hgr, hat⟩ := append_str_at h4.row (rdV xs F (f0 + (x : Int))) (by rw [hrl, hsz]; omega) (by omega)
  have hg3 : Step (fun k => v.ownBlock = some k) W2 W3 := Step.grown hgr (fun k hk => hk)
  have k3 := hg3.block h4.hq (fun e => hnq q e rfl)
  have c2 : W2.cell? ⟨q, 0, none⟩ = some v := by rw [Lib.cell_of_heap h4.hq]; rfl
  have c3 : W3.cell? ⟨q, 0, none⟩ = some v := by rw [Lib.cell_of_heap k3]; rfl
  have f3 := Lib.frozen_of_heap k3 0
  obtain ⟨av, nv, cv, rfl⟩ : ∃ ao n' cap, v = .slice ao n' cap := by
   rcases h4.row.2 with ⟨hv, _⟩ | ⟨g, cap, cur, fz, hv, _⟩
   ·exact ⟨_, _, _, hv⟩
   ·exact ⟨_, _, _, hv⟩
  obtain ⟨ao, n', cap, rfl⟩ : ∃ ao n' cap, v' = .slice ao n' cap := by
   rcases hown3.2 with ⟨hv, _⟩ | ⟨g, cap, cur, fz, hv, _⟩
   ·exact ⟨_, _, _, hv⟩
   ·exact ⟨_, _, _, hv⟩
  gi_wp2_with (gi_at_builtin; refine wpListIn_append_str_at rfl _ _ rfl rfl _ (rdV xs F (f0 + (x : Int))) rfl rfl _ _ hrun ?_)
  have hset := Step.setCell W3 (p := ⟨q, 0, none⟩) (S := fun k => k = q) rfl (.slice ao n' cap)
  have hT : Step (fun k => k = q ∨ (Value.slice av nv cv).ownBlock = some k) W2 (W3.setCell ⟨q, 0, none⟩ (.slice ao n' cap)) := hg3.trans hset (fun _ h => Or.inr h) (fun _ h => Or.inl (Or.inl h))
  have hvq : ∀ g, (Value.slice ao n' cap).ownBlock = some g → g ≠ q := fun g hg => by
   rcases hat g hg with h | h
   ·exact hnq g h
   ·omega
  have hlow : ∀ j, j < q → ¬ (j = q ∨ (Value.slice av nv cv).ownBlock = some j) := fun j hj h => h.elim (fun h => by omega) (fun h => by have := (h4.row.lt j h).1; omega)
  have hz2' := hs2.size
  have hzb := hsb.size
  have hk3 := blk_set k3 0 (.slice ao n' cap)
  have hown4 := ownsRowF_step hset hown3 (fun g hg e => hvq g hg e)
  refine ⟨fun k => k = q ∨ (Value.slice ao n' cap).ownBlock = some k, fun k hk => ?_, ?_, .slice ao n' cap, fun _ => Iff.rfl, ?_, fun g hg => ?_⟩
  ·rcases hk with hk | hk
   ·exact Or.inl ((h1 k).2 (Or.inl hk))
   ·rcases hat k hk with h | h
    ·exact Or.inl ((h1 k).2 (Or.inr h))
    ·exact Or.inr (by omega)
  ·exact (hs2.trans hT (fun _ h => h.elim) (fun k h => Or.inl h)).mono (fun k hk => (h1 k).2 hk)
  ·rw [List.length_append, hx1]
   show RawI w _ i xs F nw b p q f0 _ (x + 1)
   refine ⟨h4.dev.step hT (fun j hj => hlow j (hiq j hj)), hT.block h4.h0 (hlow _ (by omega)), hT.block h4.h2 (hlow _ (by omega)), hT.block h4.h3 (hlow _ (by omega)), hT.block h4.hp (hlow _ hpq), hk3, ?_, h4.st.trans hT (fun _ h => h) (fun j hj => Or.inr ?_)⟩
   ·rw [rawL, Lib.byteCells_append, List.length_append, data_length, ← Lib.strCells_eq]
    exact hown4
   ·rcases hj with hj | hj
    ·omega
    ·have := (h4.row.lt j hj).1; omega
  ·rcases hat g hg with h | h
   ·exact h3 g h
   ·omega
 case done =>
  rintro D O Wc hD hOD ⟨v, h1, h2, h3⟩ hK
  have hpl : (partL (nS sh)).length = nS sh := by simp [partL]
  rw [hpl] at h2
  have hrl := rawL_len (F := F) (fuse := -1) h2.dev.ok hf1 (nS sh) (by omega)
  obtain ⟨g, cap, rfl, hconv⟩ := conv_row h2.row (by omega)
  have cq : Wc.cell? ⟨q, 0, none⟩ = some (.slice (some ⟨g, 0, none⟩) (rawL xs F f0 (nS sh)).length cap) := by rw [Lib.cell_of_heap h2.hq]; rfl
  have c2 : Wc.cell? ⟨b + 1 + 1, 0, none⟩ = some (.string ⟨#[]⟩) := by rw [Lib.cell_of_heap h2.h2]; rfl
  have f2 := Lib.frozen_of_heap h2.h2 0
  have hT1 : Step (fun k => k = b + 1 + 1) Wc (Wc.setCell ⟨b + 1 + 1, 0, none⟩ (.string (rawS xs F f0 (nS sh)))) := Step.setCell Wc (p := ⟨b + 1 + 1, 0, none⟩) (S := fun k => k = b + 1 + 1) rfl _
  have m3 := hT1.block h2.h3 (by omega)
  have m2 := blk_set h2.h2 0 (.string (rawS xs F f0 (nS sh)))
  have c3 : (Wc.setCell ⟨b + 1 + 1, 0, none⟩ (.string (rawS xs F f0 (nS sh)))).cell? ⟨b + 1 + 1 + 1, 0, none⟩ = some (.int .i64 0) := by rw [Lib.cell_of_heap m3]; rfl
  have f3 := Lib.frozen_of_heap m3 0
  have hKa := hT1.block hK (by omega)
  have hs := h2.st
  clear hrl
  unfold rawS at *
  gi_wp2
  generalize Wc.setCell ⟨b + 1 + 1, 0, none⟩ (.string ⟨(rawL xs F f0 (nS sh)).toArray⟩) = Wd at *
  have hT2 : Step (fun k => k = b + 1 + 1 + 1) Wd (Wd.setCell ⟨b + 1 + 1 + 1, 0, none⟩ (.int .i64 0)) := Step.setCell Wd (p := ⟨b + 1 + 1 + 1, 0, none⟩) (S := fun k => k = b + 1 + 1 + 1) rfl _
  have n3 := blk_set m3 0 (.int .i64 0)
  have n2 := hT2.block m2 (by omega)
  have hKb := hT2.block hKa (by omega)
  have hsz := hT1.size
  generalize Wd.setCell ⟨b + 1 + 1 + 1, 0, none⟩ (.int .i64 0) = We at *
  have hsp : Step (fun j => j = D) We (We.putObj D (.deferred none)) := Step.put We D _
  have o3 := hsp.block n3 (by omega)
  have o2 := hsp.block n2 (by omega)
  refine ⟨by simp, .inl ⟨_, _, rfl, run_takeDeferred hKb, ?_⟩⟩
  refine ⟨_, results_c2 rfl _ _ ⟨b + 1 + 1, 0, none⟩ ⟨b + 1 + 1 + 1, 0, none⟩ rfl (loadVar9 _ _ ⟨(rawL xs F f0 (nS sh)).toArray⟩ (by rw [Lib.cell_of_heap o2]; rfl)) rfl (loadVar28 _ _ 0 (by rw [Lib.cell_of_heap o3]; rfl)), by rw [hf0]; rfl, ?_⟩
  exact ((hs.trans hT1 (fun _ h => h) (fun k hk => Or.inr (by omega))).trans hT2 (fun _ h => h) (fun k hk => Or.inr (by omega))).trans hsp (fun _ h => h) (fun k hk => Or.inr (by omega))
 case stop => rintro D O c pre Wc _ _ _ h; exact h.elim
set_option maxRecDepth 100000 in
set_option maxHeartbeats 4000000 in
theorem cluster_Write_far (w : World) (i : DevIds) (sh gk gm C at_ : Int) (s : ByteArray) (hg : GeoOk sh gk gm C) (ha : ¬ (0 ≤ at_ ∧ at_ < C)) :
  Calls Tryd.prog 10 #[.pointer (some ⟨i.d, 0, none⟩), geoV sh gk gm C, .int .i64 at_, .string s] w fun e w' => e = .returned (.int .i64 1) ∧ Step (fun _ => False) w w' := by
 unfold geoV
 have hu23 := Tryd.underlying23
 have hF : firstP sh gk gm C at_ = (0, 1) := by rw [firstP, if_pos hg, if_neg ha]
 refine (callsIn_wide (n := 4)).1 ?_
 refine callsIn_of_wp_marks Tryd.func10 rfl trivial ?_ rfl
 simp only [Tryd.ntmps10, List.size_toArray, List.length_cons, List.length_nil, Nat.reduceAdd, Nat.reduceSub, Array.replicate_succ, Array.replicate_zero, List.push_toArray, List.append_toArray, List.nil_append, List.cons_append]
 obtain ⟨W0, hW0, hs0, hz0, k0, k1, k2, k3⟩ := four w #[.pointer (some ⟨i.d, 0, none⟩)] #[.int .i64 sh, .int .i64 gk, .int .i64 gm, .int .i64 C] #[.string s] #[.int .i64 0] 27 23 9 28
 gi_wp2
 refine ⟨trivial, ?_⟩
 gi_at_call 23
 refine (callsIn_wide.2 (geom_First_any sh gk gm C at_ _)).mono ?_
 rintro e w1 ⟨rfl, hb1⟩
 rw [hF]
 dsimp only
 rw [← hW0] at hb1
 have hs1 := step2 hs0 (Step.of_below (S := fun _ => False) hb1)
 have q3 := (Step.of_below (S := fun _ => False) hb1).block k3 (fun h => h)
 clear hW0 hb1 k0 k1 k2 k3 hs0 hz0
 have hs2 := step2 hs1 (Step.alloc (fun _ => False) w1 (.cells #[.int .i64 0] 3))
 have r3 := (Step.alloc (fun _ => False) w1 (.cells #[.int .i64 0] 3)).block q3 (fun h => h)
 have c3 : (w1.alloc (.cells #[.int .i64 0] 3)).cell? ⟨w.heap.size + 1 + 1 + 1, 0, none⟩ = some (.int .i64 0) := by rw [Lib.cell_of_heap r3]; rfl
 have f3 := Lib.frozen_of_heap r3 0
 gi_wp2
 have hk3 := blk_set r3 0 (.int .i64 1)
 have hsc : Step (fun q => q = w.heap.size + 1 + 1 + 1) (w1.alloc (.cells #[.int .i64 0] 3)) ((w1.alloc (.cells #[.int .i64 0] 3)).setCell ⟨w.heap.size + 1 + 1 + 1, 0, none⟩ (.int .i64 1)) := Step.setCell _ (p := ⟨w.heap.size + 1 + 1 + 1, 0, none⟩) (S := fun q => q = w.heap.size + 1 + 1 + 1) rfl _
 refine ⟨_, results_c1 rfl _ _ ⟨w.heap.size + 1 + 1 + 1, 0, none⟩ rfl (loadVar28 _ _ 1 (by rw [Lib.cell_of_heap hk3]; rfl)), rfl, hs2.trans hsc (fun _ h => h) (fun k hk => Or.inr (by omega))⟩
set_option maxRecDepth 100000 in
set_option maxHeartbeats 4000000 in
theorem cluster_Raw_far (w : World) (i : DevIds) (sh gk gm C at_ : Int) (hg : GeoOk sh gk gm C) (ha : ¬ (0 ≤ at_ ∧ at_ < C)) :
  Calls Tryd.prog 9 #[.pointer (some ⟨i.d, 0, none⟩), geoV sh gk gm C, .int .i64 at_] w fun e w' => e = .returned (.tuple #[.string ⟨#[]⟩, .int .i64 1]) ∧ Step (fun _ => False) w w' := by
 unfold geoV
 have hu23 := Tryd.underlying23
 have hF : firstP sh gk gm C at_ = (0, 1) := by rw [firstP, if_pos hg, if_neg ha]
 refine (callsIn_wide (n := 4)).1 ?_
 refine callsIn_of_wp_marks Tryd.func9 rfl trivial ?_ rfl
 simp only [Tryd.ntmps9, List.size_toArray, List.length_cons, List.length_nil, Nat.reduceAdd, Nat.reduceSub, Array.replicate_succ, Array.replicate_zero, List.push_toArray, List.append_toArray, List.nil_append, List.cons_append]
 obtain ⟨W0, hW0, hs0, hz0, k0, k1, k2, k3⟩ := four w #[.pointer (some ⟨i.d, 0, none⟩)] #[.int .i64 sh, .int .i64 gk, .int .i64 gm, .int .i64 C] #[.string ⟨#[]⟩] #[.int .i64 0] 27 23 9 28
 gi_wp2
 refine ⟨trivial, ?_⟩
 gi_at_call 23
 refine (callsIn_wide.2 (geom_First_any sh gk gm C at_ _)).mono ?_
 rintro e w1 ⟨rfl, hb1⟩
 rw [hF]
 dsimp only
 rw [show (((w.alloc (.cells #[.pointer (some ⟨i.d, 0, none⟩)] 27)).alloc (.cells #[.int .i64 sh, .int .i64 gk, .int .i64 gm, .int .i64 C] 23)).alloc (.cells #[.string ⟨#[]⟩] 9)).alloc (.cells #[.int .i64 0] 28) = W0 from hW0.symm] at hb1
 have hs1 := step2 hs0 (Step.of_below (S := fun _ => False) hb1)
 have q2 := (Step.of_below (S := fun _ => False) hb1).block k2 (fun h => h)
 have q3 := (Step.of_below (S := fun _ => False) hb1).block k3 (fun h => h)
 clear hW0 hb1 k0 k1 k2 k3 hs0 hz0
 have hs2 := step2 hs1 (Step.alloc (fun _ => False) w1 (.cells #[.int .i64 0] 3))
 have r2 := (Step.alloc (fun _ => False) w1 (.cells #[.int .i64 0] 3)).block q2 (fun h => h)
 have r3 := (Step.alloc (fun _ => False) w1 (.cells #[.int .i64 0] 3)).block q3 (fun h => h)
 have c2 : (w1.alloc (.cells #[.int .i64 0] 3)).cell? ⟨w.heap.size + 1 + 1, 0, none⟩ = some (.string ⟨#[]⟩) := by rw [Lib.cell_of_heap r2]; rfl
 have f2 := Lib.frozen_of_heap r2 0
 have hT1 : Step (fun q => q = w.heap.size + 1 + 1) (w1.alloc (.cells #[.int .i64 0] 3)) ((w1.alloc (.cells #[.int .i64 0] 3)).setCell ⟨w.heap.size + 1 + 1, 0, none⟩ (.string ⟨#[]⟩)) := Step.setCell _ (p := ⟨w.heap.size + 1 + 1, 0, none⟩) (S := fun q => q = w.heap.size + 1 + 1) rfl _
 have m2 := blk_set r2 0 (.string ⟨#[]⟩)
 have m3 := hT1.block r3 (by omega)
 have c3 : ((w1.alloc (.cells #[.int .i64 0] 3)).setCell ⟨w.heap.size + 1 + 1, 0, none⟩ (.string ⟨#[]⟩)).cell? ⟨w.heap.size + 1 + 1 + 1, 0, none⟩ = some (.int .i64 0) := by rw [Lib.cell_of_heap m3]; rfl
 have f3 := Lib.frozen_of_heap m3 0
 gi_wp2
 have hT2 : Step (fun q => q = w.heap.size + 1 + 1 + 1) ((w1.alloc (.cells #[.int .i64 0] 3)).setCell ⟨w.heap.size + 1 + 1, 0, none⟩ (.string ⟨#[]⟩)) (((w1.alloc (.cells #[.int .i64 0] 3)).setCell ⟨w.heap.size + 1 + 1, 0, none⟩ (.string ⟨#[]⟩)).setCell ⟨w.heap.size + 1 + 1 + 1, 0, none⟩ (.int .i64 1)) := Step.setCell _ (p := ⟨w.heap.size + 1 + 1 + 1, 0, none⟩) (S := fun q => q = w.heap.size + 1 + 1 + 1) rfl _
 have n3 := blk_set m3 0 (.int .i64 1)
 have n2 := hT2.block m2 (by omega)
 refine ⟨_, results_c2 rfl _ _ ⟨w.heap.size + 1 + 1, 0, none⟩ ⟨w.heap.size + 1 + 1 + 1, 0, none⟩ rfl (loadVar9 _ _ ⟨#[]⟩ (by rw [Lib.cell_of_heap n2]; rfl)) rfl (loadVar28 _ _ 1 (by rw [Lib.cell_of_heap n3]; rfl)), rfl, (hs2.trans hT1 (fun _ h => h) (fun k hk => Or.inr (by omega))).trans hT2 (fun _ h => h) (fun k hk => Or.inr (by omega))⟩
set_option maxRecDepth 100000 in
set_option maxHeartbeats 4000000 in
theorem cluster_Write_form (w : World) (i : DevIds) (xs : List ByteArray) (F : FL) (B : BL) (nw : Int) (sh gk gm C at_ : Int) (s : ByteArray) (h : DevAt w i xs F B false (-1) nw) (hg : GeoOk sh gk gm C) (hn : (xs.length : Int) = C * (nS sh : Int)) (ha : 0 ≤ at_) (hb : at_ < C) (hs : s.size ≠ 512 * nS sh) :
  Calls Tryd.prog 10 #[.pointer (some ⟨i.d, 0, none⟩), geoV sh gk gm C, .int .i64 at_, .string s] w fun e w' => e = .returned (.int .i64 2) ∧ Step (fun _ => False) w w' := by
 unfold geoV
 have hu23 := Tryd.underlying23
 have hF : firstP sh gk gm C at_ = (at_ * (nS sh : Int), 0) := by rw [firstP, if_pos hg, if_pos ⟨ha, hb⟩]
 have hS : sizeP sh gk gm C = 512 * (nS sh : Int) := if_pos hg
 refine (callsIn_wide (n := 4)).1 ?_
 refine callsIn_of_wp_marks Tryd.func10 rfl trivial ?_ rfl
 simp only [Tryd.ntmps10, List.size_toArray, List.length_cons, List.length_nil, Nat.reduceAdd, Nat.reduceSub, Array.replicate_succ, Array.replicate_zero, List.push_toArray, List.append_toArray, List.nil_append, List.cons_append]
 obtain ⟨W0, hW0, hs0, hz0, k0, k1, k2, k3⟩ := four w #[.pointer (some ⟨i.d, 0, none⟩)] #[.int .i64 sh, .int .i64 gk, .int .i64 gm, .int .i64 C] #[.string s] #[.int .i64 0] 27 23 9 28
 gi_wp2
 refine ⟨trivial, ?_⟩
 gi_at_call 23
 refine (callsIn_wide.2 (geom_First_any sh gk gm C at_ _)).mono ?_
 rintro e w1 ⟨rfl, hb1⟩
 rw [hF]
 dsimp only
 rw [← hW0] at hb1
 have hs1 := step2 hs0 (Step.of_below (S := fun _ => False) hb1)
 have q0 := (Step.of_below (S := fun _ => False) hb1).block k0 (fun h => h)
 have q1 := (Step.of_below (S := fun _ => False) hb1).block k1 (fun h => h)
 have q2 := (Step.of_below (S := fun _ => False) hb1).block k2 (fun h => h)
 have q3 := (Step.of_below (S := fun _ => False) hb1).block k3 (fun h => h)
 have hz1 := hb1.size
 rw [hz0] at hz1
 clear hW0 hb1 k0 k1 k2 k3 hs0 hz0
 obtain ⟨b, hbe⟩ : ∃ b, b = w.heap.size := ⟨_, rfl⟩
 have hD1 := h.step hs1 (fun _ _ h => h)
 have hlt := h.lt
 have hbw : w.heap.size ≤ b := by omega
 rw [← hbe] at q0 q1 q2 q3 hz1 hlt ⊢
 clear hbe
 have hn1 := nS_pos sh
 have hn2 := nS_le hg.2.1
 have hln := h.ok.2.1
 have hf1 : 0 ≤ at_ * (nS sh : Int) := Int.mul_nonneg ha (Int.natCast_nonneg _)
 have hf2 : at_ * (nS sh : Int) + (nS sh : Int) ≤ (xs.length : Int) := by
  rw [hn]
  have := Int.mul_le_mul_of_nonneg_right (show at_ + 1 ≤ C by omega) (Int.natCast_nonneg (nS sh))
  rw [Int.add_mul, Int.one_mul] at this
  exact this
 generalize hf0 : at_ * (nS sh : Int) = f0 at *
 gi_wp2
 have hs2 := Step.alloc (fun _ => False) w1 (.cells #[.int .i64 f0] 3)
 have r0 := hs2.block q0 (fun h => h)
 have r1 := hs2.block q1 (fun h => h)
 have r2 := hs2.block q2 (fun h => h)
 have r3 := hs2.block q3 (fun h => h)
 have r4 := World.alloc_heap_new w1 (.cells #[.int .i64 f0] 3)
 have hD2 := hD1.step hs2 (fun _ _ h => h)
 have hs2' := step2 hs1 hs2
 have hz2 : (w1.alloc (.cells #[.int .i64 f0] 3)).heap.size = w1.heap.size + 1 := by simp
 obtain ⟨p, hpe⟩ : ∃ p, p = w1.heap.size := ⟨_, rfl⟩
 rw [← hpe] at r4 hz1 hz2 ⊢
 generalize w1.alloc (.cells #[.int .i64 f0] 3) = W at *
 clear q0 q1 q2 q3 hs1 hs2 hD1 hpe
 have y2 : W.drew.cell? ⟨b + 1 + 1, 0, none⟩ = some (.string s) := by show W.cell? _ = _; rw [Lib.cell_of_heap r2]; rfl
 have y10 : W.drew.cell? ⟨b + 1, 0, none⟩ = some (.int .i64 sh) := by show W.cell? _ = _; rw [Lib.cell_of_heap r1]; rfl
 have y11 : W.drew.cell? ⟨b + 1, 1, none⟩ = some (.int .i64 gk) := by show W.cell? _ = _; rw [Lib.cell_of_heap r1]; rfl
 have y12 : W.drew.cell? ⟨b + 1, 2, none⟩ = some (.int .i64 gm) := by show W.cell? _ = _; rw [Lib.cell_of_heap r1]; rfl
 have y13 : W.drew.cell? ⟨b + 1, 3, none⟩ = some (.int .i64 C) := by show W.cell? _ = _; rw [Lib.cell_of_heap r1]; rfl
 have hSize : ∀ w, Calls Tryd.prog 22 #[.agg #[.int .i64 sh, .int .i64 gk, .int .i64 gm, .int .i64 C]] w fun e w' => e = .returned (.int .i64 (512 * (nS sh : Int))) ∧ Below w.heap.size w w' := by
  intro w
  have := geom_Size_any sh gk gm C w
  rwa [hS] at this
 have hne : ((s.size : Int) != 512 * (nS sh : Int)) = true := by simp; omega
 refine region_only ?_
 refine start_ (n := 6) (S := fun w' => w'.cell? ⟨b + 1 + 1, 0, none⟩ = some (.string s) ∧ w'.cell? ⟨b + 1, 0, none⟩ = some (.int .i64 sh) ∧ w'.cell? ⟨b + 1, 1, none⟩ = some (.int .i64 gk) ∧ w'.cell? ⟨b + 1, 2, none⟩ = some (.int .i64 gm) ∧ w'.cell? ⟨b + 1, 3, none⟩ = some (.int .i64 C)) (ds := []) #[false, false, false, false, false, false] (by kernel_rfl) rfl rfl ⟨y2, y10, y11, y12, y13⟩ (fun hHeld => ?_)
 refine take_ (i := 0) (N := some 25) (v := ?_) (a' := ?_) #[true, false, false, false, false, false] rfl rfl (by kernel_rfl) (fun _ _ _ h => h) (Or.inl ⟨by rfl, ?_⟩) hHeld ?_ ?_
 rotate_left
 ·rintro w' ⟨s0, s1, s2, s3, s4⟩
  go_simp
  with_reducible rfl
 rotate_left
 ·simp only [Act.put, List.setIfInBounds_toArray, List.set_cons_zero, List.set_cons_succ, i64_w, i32_w]
  rfl
 refine pure_ (i := 1) (N := some 26) (v := ?_) (a' := ?_) #[true, true, false, false, false, false] rfl rfl (by kernel_rfl) (fun _ _ _ h => h) (Or.inl ⟨by rfl, ?_⟩) ?_ ?_
 rotate_left
 ·intro w'
  go_simp
  with_reducible rfl
 rotate_left
 ·simp only [Act.put, List.setIfInBounds_toArray, List.set_cons_zero, List.set_cons_succ, i64_w, i32_w]
  rfl
 refine take_ (i := 2) (N := some 27) (v := ?_) (a' := ?_) #[true, true, true, false, false, false] rfl rfl (by kernel_rfl) (fun _ _ _ h => h) (Or.inl ⟨by rfl, ?_⟩) hHeld ?_ ?_
 rotate_left
 ·rintro w' ⟨s0, s1, s2, s3, s4⟩
  go_simp
  with_reducible rfl
 rotate_left
 ·simp only [Act.put, List.setIfInBounds_toArray, List.set_cons_zero, List.set_cons_succ, i64_w, i32_w]
  rfl
 refine one_ (i := 3) (N := some 28) #[true, true, true, true, false, false] rfl rfl (by kernel_rfl) (by decide) (fun K hK => ?_)
 refine goes_ Tryd.func22 (by kernel_rfl) rfl #[.agg #[.int .i64 sh, .int .i64 gk, .int .i64 gm, .int .i64 C]] (by rfl) rfl rfl (by simp only [List.map_toArray, List.map_cons, List.map_nil]; rfl) ?_
 with_reducible refine (hSize _).mono ?_
 rintro e w3 ⟨rfl, hb3⟩
 refine ⟨_, rfl, ?_⟩
 refine hK.out _ _ ⟨pw_cell_below hb3 hHeld.1, pw_cell_below hb3 hHeld.2.1, pw_cell_below hb3 hHeld.2.2.1, pw_cell_below hb3 hHeld.2.2.2.1, pw_cell_below hb3 hHeld.2.2.2.2⟩ (fun hHeld => ?_)
 clear hK K
 refine norm_ (a' := ?_) ?_ ?_
 rotate_left
 ·show Act.put _ (some 28) _ = _
  simp only [Act.put, List.setIfInBounds_toArray, List.set_cons_zero, List.set_cons_succ, i64_w, i32_w]
  rfl
 refine pure_ (i := 4) (N := some 29) (v := ?_) (a' := ?_) #[true, true, true, true, true, false] rfl rfl (by kernel_rfl) (fun _ _ _ h => h) (Or.inl ⟨by rfl, ?_⟩) ?_ ?_
 rotate_left
 ·intro w'
  go_simp
  with_reducible rfl
 rotate_left
 ·simp only [Act.put, List.setIfInBounds_toArray, List.set_cons_zero, List.set_cons_succ, i64_w, i32_w]
  rfl
 refine pure_ (i := 5) (N := some 24) (v := ?_) (a' := ?_) #[true, true, true, true, true, true] rfl rfl (by kernel_rfl) (fun _ _ _ h => h) (Or.inl ⟨by rfl, ?_⟩) ?_ ?_
 rotate_left
 ·intro w'
  go_simp
  with_reducible rfl
 rotate_left
 ·simp only [Act.put, List.setIfInBounds_toArray, List.set_cons_zero, List.set_cons_succ, i64_w, i32_w]
  rfl
 refine done_ (by kernel_rfl) ?_

 have hsW : Step (fun _ => False) W w3 := step2 ⟨pw_below_drewN (Below.refl _ _) 1, fun _ _ _ => rfl⟩ (Step.of_below hb3)
 have u3 := hsW.block r3 (fun h => h)
 have c3 : w3.cell? ⟨b + 1 + 1 + 1, 0, none⟩ = some (.int .i64 0) := by rw [Lib.cell_of_heap u3]; rfl
 have f3 := Lib.frozen_of_heap u3 0
 dsimp only [onlyN]
 gi_wp2
 have hk3 := blk_set u3 0 (.int .i64 2)
 have hsc : Step (fun q => q = b + 1 + 1 + 1) w3 (w3.setCell ⟨b + 1 + 1 + 1, 0, none⟩ (.int .i64 2)) := Step.setCell _ (p := ⟨b + 1 + 1 + 1, 0, none⟩) (S := fun q => q = b + 1 + 1 + 1) rfl _
 refine ⟨_, results_c1 rfl _ _ ⟨b + 1 + 1 + 1, 0, none⟩ rfl (loadVar28 _ _ 2 (by rw [Lib.cell_of_heap hk3]; rfl)), rfl, (step2 hs2' hsW).trans hsc (fun _ h => h) (fun k hk => Or.inr (by omega))⟩
set_option maxRecDepth 100000 in
set_option maxHeartbeats 4000000 in
theorem cluster_Read_any (w : World) (i : DevIds) (xs : List ByteArray) (F : FL) (nw : Int) (sh gk gm C at_ sum : Int) (hT : TabAt w) (h : DevAt w i xs F [] false (-1) nw) (hg : GeoOk sh gk gm C) (hn : (xs.length : Int) = C * (nS sh : Int)) (ha : 0 ≤ at_) (hb : at_ < C) (R : ByteArray) (hR : rawS xs F (at_ * (nS sh : Int)) (nS sh) = R) (hR2 : R.size ≤ 1000000) :
  Calls Tryd.prog 11 #[.pointer (some ⟨i.d, 0, none⟩), geoV sh gk gm C, .int .i64 at_, .int .u32 sum] w fun e w' => e = .returned (.tuple #[.string (if sumC R = sum then R else ⟨#[]⟩), .int .i64 (if sumC R = sum then 0 else 9)]) ∧ Step (fun _ => False) w w' := by
 have hW : ∀ W, Step (fun _ => False) w W → Calls Tryd.prog 9 #[.pointer (some ⟨i.d, 0, none⟩), geoV sh gk gm C, .int .i64 at_] W fun e w' => e = .returned (.tuple #[.string R, .int .i64 0]) ∧ Step (fun _ => False) W w' := fun W hW => by
  have := cluster_Raw_any W i xs F nw sh gk gm C at_ (h.step hW (fun _ _ h => h)) hg hn ha hb
  rwa [hR] at this
 unfold geoV at hW ⊢
 have hu23 := Tryd.underlying23
 have hs0 := Step.alloc (fun _ => False) w (.cells #[.int .i64 sh, .int .i64 gk, .int .i64 gm, .int .i64 C] 23)
 by_cases hc : sumC R = sum
 ·have hcc : (sumC R != sum) = false := by simpa using hc
  rw [if_pos hc, if_pos hc]
  go_enter Tryd.func11, Tryd.ntmps11
  go_wp2_with (first
   | (go_at_call 9; refine (hW _ hs0).mono ?_; rintro e w1 ⟨rfl, hs1⟩; have hs2 := step2 hs0 hs1)
   | (go_at_call 12; refine (crc_Sum_any R _ (hT.step hs2 (fun h => h)) hR2).mono ?_; rintro e w2 ⟨rfl, hb2⟩))
  go_ret2
  exact ⟨rfl, step2 hs2 (Step.of_below hb2)⟩
 ·have hcc : (sumC R != sum) = true := by simpa using hc
  rw [if_neg hc, if_neg hc]
  go_enter Tryd.func11, Tryd.ntmps11
  go_wp2_with (first
   | (go_at_call 9; refine (hW _ hs0).mono ?_; rintro e w1 ⟨rfl, hs1⟩; have hs2 := step2 hs0 hs1)
   | (go_at_call 12; refine (crc_Sum_any R _ (hT.step hs2 (fun h => h)) hR2).mono ?_; rintro e w2 ⟨rfl, hb2⟩))
  go_ret2
  exact ⟨rfl, step2 hs2 (Step.of_below hb2)⟩
end

section
open Go Go.Shelf Go.Maps Go.Proofs.YtpbkcdodpjpoeaaDoor.Seq Go.Proofs.YtpbkcdodpjpoeaaDoor.MapL Go.Proofs.YtpbkcdodpjpoeaaDoorW.PrintLast
attribute [local go_sem] Oper.semAt_some max2_int min2_int max_two min_two
theorem getL_writes_out (f0 : Int) (s : ByteArray) (F : FL) (a : Int) : ∀ k : Nat, (∀ j : Nat, j < k → a ≠ f0 + (j : Int)) → getL a (writesP f0 s k F) = getL a F
 | 0, _ => rfl
 | k + 1, h => by
  rw [writesP, getL_putL, if_neg (fun e => h k (by omega) (by omega))]
  exact getL_writes_out f0 s F a k (fun j hj => h j (by omega))
theorem getL_writes_in (f0 : Int) (s : ByteArray) (F : FL) (j : Nat) : ∀ k : Nat, j < k → getL (f0 + (j : Int)) (writesP f0 s k F) = some (s.extract (512 * j) (512 * j + 512))
 | 0, h => by omega
 | k + 1, h => by
  rw [writesP, getL_putL]
  by_cases e : j = k
  ·subst e; rw [if_pos rfl]
  ·rw [if_neg (by omega)]; exact getL_writes_in f0 s F j k (by omega)
theorem rawL_congr {xs : List ByteArray} {F1 F2 : FL} {f : Int} : ∀ k : Nat, (∀ j : Nat, j < k → getL (f + (j : Int)) F1 = getL (f + (j : Int)) F2) → rawL xs F1 f k = rawL xs F2 f k
 | 0, _ => rfl
 | k + 1, h => by
  rw [rawL, rawL, rawL_congr k (fun j hj => h j (by omega)), rdV, rdV, h k (by omega)]
theorem rawL_written {xs : List ByteArray} {F : FL} {f : Int} {s : ByteArray} : ∀ k : Nat, 512 * k ≤ s.size → (∀ j : Nat, j < k → getL (f + (j : Int)) F = some (s.extract (512 * j) (512 * j + 512))) → rawL xs F f k = s.data.toList.take (512 * k)
 | 0, _, _ => rfl
 | k + 1, hk, h => by
  rw [rawL, rawL_written k (by omega) (fun j hj => h j (by omega)), rdV, h k (by omega)]
  show _ ++ (s.extract (512 * k) (512 * k + 512)).data.toList = _
  rw [ByteArray.data_extract, Array.toList_extract, List.extract_eq_take_drop, show 512 * k + 512 - 512 * k = 512 by omega, show 512 * (k + 1) = 512 * k + 512 by omega, List.take_add]
theorem raw_back {xs : List ByteArray} {F : FL} {f0 : Int} {s : ByteArray} {n : Nat} (hs : s.size = 512 * n) : rawS xs (writesP f0 s n F) f0 n = s := by
 unfold rawS
 rw [rawL_written n (by omega) (fun j hj => getL_writes_in f0 s F j n hj), List.take_of_length_le (by rw [data_length]; omega)]
theorem raw_beside {xs : List ByteArray} {F : FL} {a o : Int} {s : ByteArray} {n : Nat} (h : o ≠ a) : rawS xs (writesP (a * (n : Int)) s n F) (o * (n : Int)) n = rawS xs F (o * (n : Int)) n := by
 unfold rawS
 congr 2
 refine rawL_congr n (fun k hk => getL_writes_out _ s F _ n (fun j hj e => ?_))
 rcases Int.lt_or_gt_of_ne h with h1 | h1
 ·have := Int.mul_le_mul_of_nonneg_right (show o + 1 ≤ a by omega) (Int.natCast_nonneg n)
  rw [Int.add_mul, Int.one_mul] at this
  omega
 ·have := Int.mul_le_mul_of_nonneg_right (show a + 1 ≤ o by omega) (Int.natCast_nonneg n)
  rw [Int.add_mul, Int.one_mul] at this
  omega
abbrev abcS : ByteArray := ⟨#[97, 98, 99]⟩
theorem geo4 : GeoOk 1 1 0 4 := by decide
theorem DevAt.bel {w w' : World} {i : DevIds} {xs : List ByteArray} {F : FL} {B : BL} {off : Bool} {fuse nw : Int} (h : DevAt w i xs F B off fuse nw) (hb : Below w.heap.size w w') : DevAt w' i xs F B off fuse nw := h.step (Step.of_below (S := fun _ => False) hb) (fun _ _ h => h)
theorem step_drew (w : World) : Step (fun _ => False) w w.drew := ⟨pw_below_drewN (Below.refl _ _) 1, fun _ _ _ => rfl⟩
theorem sum_next (x : Int) (h0 : 0 ≤ x) (h1 : x < 4294967296) : x ≠ (x + 1) % 4294967296 := by omega
set_option maxRecDepth 100000 in
set_option maxHeartbeats 8000000 in
theorem lives_any (w : World) (hT : TabAt w) (h0 : 0 < w.heap.size) : Calls Tryd.prog 5 #[] w fun e w' => e = .returned (.bool true) ∧ Step (fun _ => False) w w' := by
 have hu23 := Tryd.underlying23
 obtain ⟨S, hS⟩ : ∃ S, S = fillG 1024 abcS := ⟨_, rfl⟩
 have hSz : S.size = 1024 := by rw [hS]; exact fillG_size 1024 abcS (by decide)
 have hS3 : S.extract 0 3 = abcS := by rw [hS]; kernel_rfl
 have hn1 : nS 1 = 2 := by decide
 obtain ⟨X, hX⟩ : ∃ X, X = List.replicate 8 zeroS := ⟨_, rfl⟩
 have hXl : (X.length : Int) = 4 * (nS 1 : Int) := by rw [hX, hn1]; rfl
 obtain ⟨F1, hF1⟩ : ∃ F1, F1 = writesP (2 * (nS 1 : Int)) S (nS 1) [] := ⟨_, rfl⟩
 have hNew : ∀ W, Calls Tryd.prog 7 #[.int .i64 8] W fun e w' => ∃ i, e = .returned (.tuple #[.pointer (some ⟨i.d, 0, none⟩), .int .i64 0]) ∧ DevAt w' i X [] [] false (-1) 0 ∧ (∀ k, i.In k → W.heap.size ≤ k) ∧ Below W.heap.size W w' := by
  intro W; rw [hX]; exact dev_New_any W 8 (by omega) (by omega)
 have hFill : ∀ W, Calls Tryd.prog 8 #[.agg #[.int .i64 1, .int .i64 1, .int .i64 0, .int .i64 4], .string ⟨#[97, 98, 99]⟩] W fun e w' => e = .returned (.tuple #[.string S, .int .i64 0]) ∧ Below W.heap.size W w' := by
  intro W
  have := cluster_Fill_any 1 1 0 4 abcS W (by decide)
  rw [fillP, if_pos geo4, hn1, if_pos (by decide), ← hS] at this
  exact this
 have hFill2 : ∀ W, Calls Tryd.prog 8 #[.agg #[.int .i64 1, .int .i64 1, .int .i64 0, .int .i64 4], .string (S ++ ⟨#[33]⟩)] W fun e w' => e = .returned (.tuple #[.string ⟨#[]⟩, .int .i64 7]) ∧ Below W.heap.size W w' := by
  intro W
  have hz : (S ++ (⟨#[33]⟩ : ByteArray)).size = 1025 := by rw [ByteArray.size_append, hSz]; rfl
  have := cluster_Fill_any 1 1 0 4 (S ++ ⟨#[33]⟩) W (by omega)
  rw [fillP, if_pos geo4, hn1, if_neg (by omega)] at this
  exact this
 have hW : ∀ W i, DevAt W i X [] [] false (-1) 0 → Calls Tryd.prog 10 #[.pointer (some ⟨i.d, 0, none⟩), .agg #[.int .i64 1, .int .i64 1, .int .i64 0, .int .i64 4], .int .i64 2, .string S] W fun e w' => e = .returned (.int .i64 0) ∧ DevAt w' i X F1 [] false (-1) 2 ∧ Step i.In W w' := by
  intro W i hD
  have := cluster_Write_any W i X [] [] 0 1 1 0 4 2 S hD geo4 hXl (by decide) (by decide) (by rw [hn1]; exact hSz) (by decide) (by decide)
  rw [← hF1, hn1] at this
  exact this
 have hBack : rawS X F1 (2 * (nS 1 : Int)) (nS 1) = S := by rw [hF1]; exact raw_back (by rw [hn1]; exact hSz)
 have hRd1 : ∀ W i, TabAt W → DevAt W i X F1 [] false (-1) 2 → Calls Tryd.prog 11 #[.pointer (some ⟨i.d, 0, none⟩), .agg #[.int .i64 1, .int .i64 1, .int .i64 0, .int .i64 4], .int .i64 2, .int .u32 (sumC S)] W fun e w' => e = .returned (.tuple #[.string S, .int .i64 0]) ∧ Step (fun _ => False) W w' := by
  intro W i hT hD
  have := cluster_Read_any W i X F1 2 1 1 0 4 2 (sumC S) hT hD geo4 hXl (by decide) (by decide) S hBack (by omega)
  rw [if_pos rfl, if_pos rfl] at this
  exact this
 have hRd2 : ∀ W i, TabAt W → DevAt W i X F1 [] false (-1) 2 → Calls Tryd.prog 11 #[.pointer (some ⟨i.d, 0, none⟩), .agg #[.int .i64 1, .int .i64 1, .int .i64 0, .int .i64 4], .int .i64 2, .int .u32 ((sumC S + 1) % 4294967296)] W fun e w' => e = .returned (.tuple #[.string ⟨#[]⟩, .int .i64 9]) ∧ Step (fun _ => False) W w' := by
  intro W i hT hD
  have hne := sum_next (sumC S) (sumC_in S).1 (sumC_in S).2
  have := cluster_Read_any W i X F1 2 1 1 0 4 2 ((sumC S + 1) % 4294967296) hT hD geo4 hXl (by decide) (by decide) S hBack (by omega)
  rw [if_neg hne, if_neg hne] at this
  exact this
 have hRaw : ∀ W (i : DevIds), Calls Tryd.prog 9 #[.pointer (some ⟨i.d, 0, none⟩), .agg #[.int .i64 1, .int .i64 1, .int .i64 0, .int .i64 4], .int .i64 4] W fun e w' => e = .returned (.tuple #[.string ⟨#[]⟩, .int .i64 1]) ∧ Step (fun _ => False) W w' := fun W i => cluster_Raw_far W i 1 1 0 4 4 geo4 (by decide)
 have hWf : ∀ W i, DevAt W i X F1 [] false (-1) 2 → Calls Tryd.prog 10 #[.pointer (some ⟨i.d, 0, none⟩), .agg #[.int .i64 1, .int .i64 1, .int .i64 0, .int .i64 4], .int .i64 2, .string ⟨#[97, 98, 99]⟩] W fun e w' => e = .returned (.int .i64 2) ∧ Step (fun _ => False) W w' := by
  intro W i hD
  exact cluster_Write_form W i X F1 [] 2 1 1 0 4 2 abcS hD geo4 hXl (by decide) (by decide) (by rw [hn1]; decide)
 have hSum : ∀ W, TabAt W → Calls Tryd.prog 12 #[.string S] W fun e w' => e = .returned (.int .u32 (sumC S)) ∧ Below W.heap.size W w' := fun W hT => crc_Sum_any S W hT (by omega)
 clear hF1 hBack hXl hX hS hn1
 have hs1 := Step.alloc (fun _ => False) w (.cells #[.int .i64 1, .int .i64 1, .int .i64 0, .int .i64 4] 23)
 have k1 := World.alloc_heap_new w (.cells #[.int .i64 1, .int .i64 1, .int .i64 0, .int .i64 4] 23)
 go_enter Tryd.func5, Tryd.ntmps5
 try simp only [List.append_eq, List.cons_append, List.nil_append]
 go_wp2_with (first
  | (go_at_call 7; with_reducible refine (hNew _).mono ?_; rintro e w2 ⟨i, rfl, hD2, hlo, hb2⟩; have k2 := (Step.of_below (S := fun _ => False) hb2).block k1 (fun h => h); have hs2 := step2 hs1 (Step.of_below (S := fun _ => False) hb2); have g0 := Lib.cell_of_heap k2 0; have g1 := Lib.cell_of_heap k2 1; have g2 := Lib.cell_of_heap k2 2; have g3 := Lib.cell_of_heap k2 3; simp at g0 g1 g2 g3)
  | (go_at_call 8; with_reducible refine (hFill _).mono ?_; rintro e w3 ⟨rfl, hb3⟩; have k3 := (Step.of_below (S := fun _ => False) hb3).block k2 (fun h => h); have hs3 := step2 hs2 (Step.of_below (S := fun _ => False) hb3); have hD3 := hD2.bel hb3; have m0 := Lib.cell_of_heap k3 0; have m1 := Lib.cell_of_heap k3 1; have m2 := Lib.cell_of_heap k3 2; have m3 := Lib.cell_of_heap k3 3; simp at m0 m1 m2 m3)
  | (go_at_call 10; with_reducible refine (hW _ i hD3).mono ?_; rintro e w4 ⟨rfl, hD4, hs4⟩))
 have hng : ¬ i.In w.heap.size := fun h => by have := hlo _ h; simp at this; omega
 have hw4 : Step (fun _ => False) w w4 := hs3.trans hs4 (fun _ h => h) (fun k hk => Or.inr (by have := hlo k hk; simp at this; omega))
 have k4 := hs4.block k3 hng
 have hT4 : TabAt w4.drew := hT.step (step2 hw4 (step_drew w4)) (fun h => h)
 have hD4d : DevAt w4.drew i X F1 [] false (-1) 2 := hD4.step (step_drew w4) (fun _ _ h => h)
 have k4d := (step_drew w4).block k4 (fun h => h)
 have hw4d := step2 hw4 (step_drew w4)
 have y0 : w4.drew.cell? ⟨w.heap.size, 0, none⟩ = some (.int .i64 1) := by rw [Lib.cell_of_heap k4d]; rfl
 have y1 : w4.drew.cell? ⟨w.heap.size, 1, none⟩ = some (.int .i64 1) := by rw [Lib.cell_of_heap k4d]; rfl
 have y2 : w4.drew.cell? ⟨w.heap.size, 2, none⟩ = some (.int .i64 0) := by rw [Lib.cell_of_heap k4d]; rfl
 have y3 : w4.drew.cell? ⟨w.heap.size, 3, none⟩ = some (.int .i64 4) := by rw [Lib.cell_of_heap k4d]; rfl
 refine start_ (n := 10) (S := fun w' => w'.cell? ⟨w.heap.size, 0, none⟩ = some (.int .i64 1) ∧ w'.cell? ⟨w.heap.size, 1, none⟩ = some (.int .i64 1) ∧ w'.cell? ⟨w.heap.size, 2, none⟩ = some (.int .i64 0) ∧ w'.cell? ⟨w.heap.size, 3, none⟩ = some (.int .i64 4)) (ds := []) #[false, false, false, false, false, false, false, false, false, false] (by kernel_rfl) rfl rfl ⟨y0, y1, y2, y3⟩ (fun hHeld => ?_)
 refine pure_ (i := 0) (N := some 42) (v := ?_) (a' := ?_) #[true, false, false, false, false, false, false, false, false, false] rfl rfl (by kernel_rfl) (fun _ _ _ h => h) (Or.inl ⟨by rfl, ?_⟩) ?_ ?_
 rotate_left
 ·intro w'
  go_simp
  with_reducible rfl
 rotate_left
 ·simp only [Act.put, List.setIfInBounds_toArray, List.set_cons_zero, List.set_cons_succ, i64_w, i32_w]
  rfl
 refine pure_ (i := 2) (N := some 44) (v := ?_) (a' := ?_) #[true, false, true, false, false, false, false, false, false, false] rfl rfl (by kernel_rfl) (fun _ _ _ h => h) (Or.inl ⟨by rfl, ?_⟩) ?_ ?_
 rotate_left
 ·intro w'
  go_simp
  with_reducible rfl
 rotate_left
 ·simp only [Act.put, List.setIfInBounds_toArray, List.set_cons_zero, List.set_cons_succ, i64_w, i32_w]
  rfl
 refine take_ (i := 1) (N := some 43) (v := ?_) (a' := ?_) #[true, true, true, false, false, false, false, false, false, false] rfl rfl (by kernel_rfl) (fun _ _ _ h => h) (Or.inl ⟨by rfl, ?_⟩) hHeld ?_ ?_
 rotate_left
 ·rintro w' ⟨s0, s1, s2, s3⟩
  go_simp
  with_reducible rfl
 rotate_left
 ·simp only [Act.put, List.setIfInBounds_toArray, List.set_cons_zero, List.set_cons_succ, i64_w, i32_w]
  rfl
 refine one_ (i := 3) (N := some 45) #[true, true, true, true, false, false, false, false, false, false] rfl rfl (by kernel_rfl) (by decide) (fun K hK => ?_)
 refine goes_ Tryd.func12 (by kernel_rfl) rfl #[.string S] (by rfl) rfl rfl (by simp only [List.map_toArray, List.map_cons, List.map_nil]; rfl) ?_
 with_reducible refine (hSum _ hT4).mono ?_
 rintro e w5 ⟨rfl, hb5⟩
 refine ⟨_, rfl, ?_⟩
 have hT5 := hT4.below hb5
 have hD5 := hD4d.bel hb5
 refine hK.out _ _ ⟨pw_cell_below hb5 hHeld.1, pw_cell_below hb5 hHeld.2.1, pw_cell_below hb5 hHeld.2.2.1, pw_cell_below hb5 hHeld.2.2.2⟩ (fun hHeld => ?_)
 clear hK K
 refine norm_ (a' := ?_) ?_ ?_
 rotate_left
 ·show Act.put _ (some 45) _ = _
  simp only [Act.put, List.setIfInBounds_toArray, List.set_cons_zero, List.set_cons_succ, i64_w, i32_w]
  rfl
 refine one_ (i := 4) (N := some 46) #[true, true, true, true, true, false, false, false, false, false] rfl rfl (by kernel_rfl) (by decide) (fun K hK => ?_)
 refine goes_ Tryd.func11 (by kernel_rfl) rfl #[.pointer (some ⟨i.d, 0, none⟩), .agg #[.int .i64 1, .int .i64 1, .int .i64 0, .int .i64 4], .int .i64 2, .int .u32 (sumC S)] (by rfl) rfl rfl (by simp only [List.map_toArray, List.map_cons, List.map_nil]; rfl) ?_
 with_reducible refine (hRd1 _ i hT5 hD5).mono ?_
 rintro e w6 ⟨rfl, hs6⟩
 refine ⟨_, rfl, ?_⟩
 refine hK.out _ _ ⟨hs6.cell hHeld.1 (fun h => h), hs6.cell hHeld.2.1 (fun h => h), hs6.cell hHeld.2.2.1 (fun h => h), hs6.cell hHeld.2.2.2 (fun h => h)⟩ (fun hHeld => ?_)
 clear hK K
 refine norm_ (a' := ?_) ?_ ?_
 rotate_left
 ·show Act.put _ (some 46) _ = _
  simp only [Act.put, List.setIfInBounds_toArray, List.set_cons_zero, List.set_cons_succ, i64_w, i32_w]
  rfl
 refine pure_ (i := 5) (N := some 41) (v := ?_) (a' := ?_) #[true, true, true, true, true, true, false, false, false, false] rfl rfl (by kernel_rfl) (fun _ _ _ h => h) (Or.inl ⟨by rfl, ?_⟩) ?_ ?_
 rotate_left
 ·intro w'
  go_simp
  with_reducible rfl
 rotate_left
 ·simp only [Act.put, List.setIfInBounds_toArray, List.set_cons_zero, List.set_cons_succ, i64_w, i32_w]
  rfl
 refine pure_ (i := 6) (N := some 47) (v := ?_) (a' := ?_) #[true, true, true, true, true, true, true, false, false, false] rfl rfl (by kernel_rfl) (fun _ _ _ h => h) (Or.inl ⟨by rfl, ?_⟩) ?_ ?_
 rotate_left
 ·intro w'
  go_simp
  with_reducible rfl
 rotate_left
 ·simp only [Act.put, List.setIfInBounds_toArray, List.set_cons_zero, List.set_cons_succ, i64_w, i32_w]
  rfl
 refine pure_ (i := 7) (N := some 48) (v := ?_) (a' := ?_) #[true, true, true, true, true, true, true, true, false, false] rfl rfl (by kernel_rfl) (fun _ _ _ h => h) (Or.inl ⟨by rfl, ?_⟩) ?_ ?_
 rotate_left
 ·intro w'
  go_simp
  with_reducible rfl
 rotate_left
 ·simp only [Act.put, List.setIfInBounds_toArray, List.set_cons_zero, List.set_cons_succ, i64_w, i32_w]
  rfl
 refine pure_ (i := 8) (N := some 7) (v := ?_) (a' := ?_) #[true, true, true, true, true, true, true, true, true, false] rfl rfl (by kernel_rfl) (fun _ _ _ h => h) (Or.inl ⟨by rfl, ?_⟩) ?_ ?_
 rotate_left
 ·intro w'
  go_simp
  with_reducible rfl
 rotate_left
 ·simp only [Act.put, List.setIfInBounds_toArray, List.set_cons_zero, List.set_cons_succ, i64_w, i32_w]
  rfl
 refine pure_ (i := 9) (N := some 8) (v := ?_) (a' := ?_) #[true, true, true, true, true, true, true, true, true, true] rfl rfl (by kernel_rfl) (fun _ _ _ h => h) (Or.inl ⟨by rfl, ?_⟩) ?_ ?_
 rotate_left
 ·intro w'
  go_simp
  with_reducible rfl
 rotate_left
 ·simp only [Act.put, List.setIfInBounds_toArray, List.set_cons_zero, List.set_cons_succ, i64_w, i32_w]
  rfl
 refine done_ (by kernel_rfl) ?_

 have hw6 := step2 hw4d (step2 (Step.of_below (S := fun _ => False) hb5) hs6)
 have k6 := (step2 (Step.of_below (S := fun _ => False) hb5) hs6).block k4d (fun h => h)
 have hD6 := hD5.step hs6 (fun _ _ h => h)
 clear hHeld y0 y1 y2 y3
 go_wp2
 have hT6 : TabAt w6.drew := hT.step (step2 hw6 (step_drew w6)) (fun h => h)
 have hD6d : DevAt w6.drew i X F1 [] false (-1) 2 := hD6.step (step_drew w6) (fun _ _ h => h)
 have k6d := (step_drew w6).block k6 (fun h => h)
 have hw6d := step2 hw6 (step_drew w6)
 have y0 : w6.drew.cell? ⟨w.heap.size, 0, none⟩ = some (.int .i64 1) := by rw [Lib.cell_of_heap k6d]; rfl
 have y1 : w6.drew.cell? ⟨w.heap.size, 1, none⟩ = some (.int .i64 1) := by rw [Lib.cell_of_heap k6d]; rfl
 have y2 : w6.drew.cell? ⟨w.heap.size, 2, none⟩ = some (.int .i64 0) := by rw [Lib.cell_of_heap k6d]; rfl
 have y3 : w6.drew.cell? ⟨w.heap.size, 3, none⟩ = some (.int .i64 4) := by rw [Lib.cell_of_heap k6d]; rfl
 refine start_ (n := 11) (S := fun w' => w'.cell? ⟨w.heap.size, 0, none⟩ = some (.int .i64 1) ∧ w'.cell? ⟨w.heap.size, 1, none⟩ = some (.int .i64 1) ∧ w'.cell? ⟨w.heap.size, 2, none⟩ = some (.int .i64 0) ∧ w'.cell? ⟨w.heap.size, 3, none⟩ = some (.int .i64 4)) (ds := []) #[false, false, false, false, false, false, false, false, false, false, false] (by kernel_rfl) rfl rfl ⟨y0, y1, y2, y3⟩ (fun hHeld => ?_)
 refine pure_ (i := 0) (N := some 50) (v := ?_) (a' := ?_) #[true, false, false, false, false, false, false, false, false, false, false] rfl rfl (by kernel_rfl) (fun _ _ _ h => h) (Or.inl ⟨by rfl, ?_⟩) ?_ ?_
 rotate_left
 ·intro w'
  go_simp
  with_reducible rfl
 rotate_left
 ·simp only [Act.put, List.setIfInBounds_toArray, List.set_cons_zero, List.set_cons_succ, i64_w, i32_w]
  rfl
 refine pure_ (i := 2) (N := some 52) (v := ?_) (a' := ?_) #[true, false, true, false, false, false, false, false, false, false, false] rfl rfl (by kernel_rfl) (fun _ _ _ h => h) (Or.inl ⟨by rfl, ?_⟩) ?_ ?_
 rotate_left
 ·intro w'
  go_simp
  with_reducible rfl
 rotate_left
 ·simp only [Act.put, List.setIfInBounds_toArray, List.set_cons_zero, List.set_cons_succ, i64_w, i32_w]
  rfl
 refine take_ (i := 1) (N := some 51) (v := ?_) (a' := ?_) #[true, true, true, false, false, false, false, false, false, false, false] rfl rfl (by kernel_rfl) (fun _ _ _ h => h) (Or.inl ⟨by rfl, ?_⟩) hHeld ?_ ?_
 rotate_left
 ·rintro w' ⟨s0, s1, s2, s3⟩
  go_simp
  with_reducible rfl
 rotate_left
 ·simp only [Act.put, List.setIfInBounds_toArray, List.set_cons_zero, List.set_cons_succ, i64_w, i32_w]
  rfl
 refine one_ (i := 3) (N := some 53) #[true, true, true, true, false, false, false, false, false, false, false] rfl rfl (by kernel_rfl) (by decide) (fun K hK => ?_)
 refine goes_ Tryd.func12 (by kernel_rfl) rfl #[.string S] (by rfl) rfl rfl (by simp only [List.map_toArray, List.map_cons, List.map_nil]; rfl) ?_
 with_reducible refine (hSum _ hT6).mono ?_
 rintro e w7 ⟨rfl, hb7⟩
 refine ⟨_, rfl, ?_⟩
 have hT7 := hT6.below hb7
 have hD7 := hD6d.bel hb7
 refine hK.out _ _ ⟨pw_cell_below hb7 hHeld.1, pw_cell_below hb7 hHeld.2.1, pw_cell_below hb7 hHeld.2.2.1, pw_cell_below hb7 hHeld.2.2.2⟩ (fun hHeld => ?_)
 clear hK K
 refine norm_ (a' := ?_) ?_ ?_
 rotate_left
 ·show Act.put _ (some 53) _ = _
  simp only [Act.put, List.setIfInBounds_toArray, List.set_cons_zero, List.set_cons_succ, i64_w, i32_w]
  rfl
 refine pure_ (i := 4) (N := some 54) (v := ?_) (a' := ?_) #[true, true, true, true, true, false, false, false, false, false, false] rfl rfl (by kernel_rfl) (fun _ _ _ h => h) (Or.inl ⟨by rfl, ?_⟩) ?_ ?_
 rotate_left
 ·intro w'
  go_simp
  with_reducible rfl
 rotate_left
 ·simp only [Act.put, List.setIfInBounds_toArray, List.set_cons_zero, List.set_cons_succ, i64_w, i32_w]
  rfl
 refine one_ (i := 5) (N := some 55) #[true, true, true, true, true, true, false, false, false, false, false] rfl rfl (by kernel_rfl) (by decide) (fun K hK => ?_)
 refine goes_ Tryd.func11 (by kernel_rfl) rfl #[.pointer (some ⟨i.d, 0, none⟩), .agg #[.int .i64 1, .int .i64 1, .int .i64 0, .int .i64 4], .int .i64 2, .int .u32 ((sumC S + 1) % 4294967296)] (by rfl) rfl rfl (by simp only [List.map_toArray, List.map_cons, List.map_nil]; rfl) ?_
 with_reducible refine (hRd2 _ i hT7 hD7).mono ?_
 rintro e w8 ⟨rfl, hs8⟩
 refine ⟨_, rfl, ?_⟩
 refine hK.out _ _ ⟨hs8.cell hHeld.1 (fun h => h), hs8.cell hHeld.2.1 (fun h => h), hs8.cell hHeld.2.2.1 (fun h => h), hs8.cell hHeld.2.2.2 (fun h => h)⟩ (fun hHeld => ?_)
 clear hK K
 refine norm_ (a' := ?_) ?_ ?_
 rotate_left
 ·show Act.put _ (some 55) _ = _
  simp only [Act.put, List.setIfInBounds_toArray, List.set_cons_zero, List.set_cons_succ, i64_w, i32_w]
  rfl
 refine pure_ (i := 6) (N := some 49) (v := ?_) (a' := ?_) #[true, true, true, true, true, true, true, false, false, false, false] rfl rfl (by kernel_rfl) (fun _ _ _ h => h) (Or.inl ⟨by rfl, ?_⟩) ?_ ?_
 rotate_left
 ·intro w'
  go_simp
  with_reducible rfl
 rotate_left
 ·simp only [Act.put, List.setIfInBounds_toArray, List.set_cons_zero, List.set_cons_succ, i64_w, i32_w]
  rfl
 refine pure_ (i := 7) (N := some 56) (v := ?_) (a' := ?_) #[true, true, true, true, true, true, true, true, false, false, false] rfl rfl (by kernel_rfl) (fun _ _ _ h => h) (Or.inl ⟨by rfl, ?_⟩) ?_ ?_
 rotate_left
 ·intro w'
  go_simp
  with_reducible rfl
 rotate_left
 ·simp only [Act.put, List.setIfInBounds_toArray, List.set_cons_zero, List.set_cons_succ, i64_w, i32_w]
  rfl
 refine pure_ (i := 8) (N := some 57) (v := ?_) (a' := ?_) #[true, true, true, true, true, true, true, true, true, false, false] rfl rfl (by kernel_rfl) (fun _ _ _ h => h) (Or.inl ⟨by rfl, ?_⟩) ?_ ?_
 rotate_left
 ·intro w'
  go_simp
  with_reducible rfl
 rotate_left
 ·simp only [Act.put, List.setIfInBounds_toArray, List.set_cons_zero, List.set_cons_succ, i64_w, i32_w]
  rfl
 refine pure_ (i := 9) (N := some 9) (v := ?_) (a' := ?_) #[true, true, true, true, true, true, true, true, true, true, false] rfl rfl (by kernel_rfl) (fun _ _ _ h => h) (Or.inl ⟨by rfl, ?_⟩) ?_ ?_
 rotate_left
 ·intro w'
  go_simp
  with_reducible rfl
 rotate_left
 ·simp only [Act.put, List.setIfInBounds_toArray, List.set_cons_zero, List.set_cons_succ, i64_w, i32_w]
  rfl
 refine pure_ (i := 10) (N := some 10) (v := ?_) (a' := ?_) #[true, true, true, true, true, true, true, true, true, true, true] rfl rfl (by kernel_rfl) (fun _ _ _ h => h) (Or.inl ⟨by rfl, ?_⟩) ?_ ?_
 rotate_left
 ·intro w'
  go_simp
  with_reducible rfl
 rotate_left
 ·simp only [Act.put, List.setIfInBounds_toArray, List.set_cons_zero, List.set_cons_succ, i64_w, i32_w]
  rfl
 refine done_ (by kernel_rfl) ?_

 have hw8 := step2 hw6d (step2 (Step.of_below (S := fun _ => False) hb7) hs8)
 have k8 := (step2 (Step.of_below (S := fun _ => False) hb7) hs8).block k6d (fun h => h)
 have hD8 := hD7.step hs8 (fun _ _ h => h)
 clear hHeld y0 y1 y2 y3
 have c0 : w8.cell? ⟨w.heap.size, 0, none⟩ = some (.int .i64 1) := by rw [Lib.cell_of_heap k8]; rfl
 have c1 : w8.cell? ⟨w.heap.size, 1, none⟩ = some (.int .i64 1) := by rw [Lib.cell_of_heap k8]; rfl
 have c2 : w8.cell? ⟨w.heap.size, 2, none⟩ = some (.int .i64 0) := by rw [Lib.cell_of_heap k8]; rfl
 have c3 : w8.cell? ⟨w.heap.size, 3, none⟩ = some (.int .i64 4) := by rw [Lib.cell_of_heap k8]; rfl
 have hS3' : (Instr.slice 9 (.string S) none (some (.int .i64 3)) none).run Tryd.prog = fun w => .ok (.string ⟨#[97, 98, 99]⟩) w := by
  funext w
  have := run_slice_string_h (P := Tryd.prog) w 9 S Tryd.underlying9 .i64 3 (by decide) (by omega)
  rw [show (3 : Int).toNat = 3 from rfl, hS3] at this
  exact this
 go_wp2_with (first
  | (go_at_call 9; with_reducible refine (hRaw _ i).mono ?_; rintro e w9 ⟨rfl, hs9⟩; have k9 := hs9.block k8 (fun h => h); have hD9 := hD8.step hs9 (fun _ _ h => h); have hw9 := step2 hw8 hs9; have n0 := hs9.cell c0 (fun h => h); have n1 := hs9.cell c1 (fun h => h); have n2 := hs9.cell c2 (fun h => h); have n3 := hs9.cell c3 (fun h => h))
  | (go_at_call 10; with_reducible refine (hWf _ i hD9).mono ?_; rintro e wa ⟨rfl, hsa⟩; have hDa := hD9.step hsa (fun _ _ h => h); have hwa := step2 hw9 hsa; have p0 := hsa.cell n0 (fun h => h); have p1 := hsa.cell n1 (fun h => h); have p2 := hsa.cell n2 (fun h => h); have p3 := hsa.cell n3 (fun h => h))
  | (go_at_call 8; with_reducible refine (hFill2 _).mono ?_; rintro e wb ⟨rfl, hbb⟩; have hDb := hDa.bel hbb; have hwb := step2 hwa (Step.of_below (S := fun _ => False) hbb))
  | (go_at_call 16; with_reducible refine (dev_Writes_any _ i _ _ _ _ _ _ hDb).mono ?_; rintro e wc ⟨rfl, rfl⟩))
 go_ret
 exact ⟨rfl, hwb⟩
end

end Go.Proofs.YtpbkcdodpjpoeaaDoor.HCB
