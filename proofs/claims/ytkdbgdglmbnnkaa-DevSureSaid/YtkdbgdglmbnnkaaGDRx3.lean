/- WRITTEN BY wip/hyb.py, a program of this workplace (out of the kit's printer and this workplace's own contracts). -/
import Derived.Test.YtkdbgdglmbnnkaaGDRx0
import Derived.Test.YtkdbgdglmbnnkaaGDRx2
namespace Go.Proofs.Ytkdbgdglmbnnkaa.HDR
open Go.RowKit Go.Proofs.YtkdbgdglmbnnkaaW.PrintWords Go.Proofs.YtkdbgdglmbnnkaaW.PrintLast Go.Proofs.YtkdbgdglmbnnkaaW.PrintMore
attribute [local go_sem] max2_int min2_int max_two min_two max_three min_three max_four min_four   -- for this text's walks alone
set_option linter.unusedVariables false
set_option linter.unusedSimpArgs false

section
open Go Go.Shelf Go.Maps Go.Proofs.Ytkdbgdglmbnnkaa.Seq Go.Proofs.Ytkdbgdglmbnnkaa.MapL Go.Proofs.YtkdbgdglmbnnkaaW.PrintLast
attribute [local go_sem] Oper.semAt_some max2_int min2_int max_two min_two
theorem sizeBld : (Try.prog.info? 117).map (·.size) = some 2 := by kernel_rfl
set_option maxRecDepth 100000 in
theorem copyCheck_used (b : Nat) (w : World) (h0 : w.cell? ⟨b, 0, none⟩ = some (.pointer (some ⟨b, 0, none⟩))) :
  Calls Try.prog 96 #[.pointer (some ⟨b, 0, none⟩)] w fun e w' => e = .returned (.tuple #[]) ∧ w' = w := by
 obtain ⟨j, hj, _⟩ := Option.map_eq_some_iff.1 sizeBld
 go_enter Try.func96, Try.ntmps96
 go_wp2
 rw [Lib.run_neq_ptr_same w _ Try.underlying115 hj]
 go_wp2
 go_end0
 exact ⟨rfl, rfl⟩
set_option maxRecDepth 100000 in
theorem copyCheck_fresh (b : Nat) (w : World) (h0 : w.cell? ⟨b, 0, none⟩ = some (.pointer none)) (hsh : w.shape? b = some (117, 2)) (hfz : w.frozen? ⟨b, 0, none⟩ = false) :
  Calls Try.prog 96 #[.pointer (some ⟨b, 0, none⟩)] w fun e w' => e = .returned (.tuple #[]) ∧ w' = w.setCell ⟨b, 0, none⟩ (.pointer (some ⟨b, 0, none⟩)) := by
 obtain ⟨j, hj, hjs⟩ := Option.map_eq_some_iff.1 sizeBld
 go_enter Try.func96, Try.ntmps96
 go_wp2
 rw [Lib.run_to_unsafe w ⟨b, 0, none⟩ Try.underlying115 Try.underlying180 hj (by rw [hjs]; decide) hsh (Nat.zero_lt_succ 1)]
 simp only [Result.andThen]
 rw [Oper.upon_value]
 go_wp2
 rw [run_callFunc_extern Try.func114 (by kernel_rfl) (by kernel_rfl) (by kernel_rfl) (e := Extern.AbiNoEscape.same) (by kernel_rfl)]
 rw [Lib.run_noEscape]
 simp only [Result.andThen]
 rw [Oper.upon_value]
 go_wp2
 rw [Lib.run_from_unsafe w ⟨b, 0, none⟩ Try.underlying180 Try.underlying115 hj hsh Try.Builder_Extra_169.liesBuilder]
 simp only [Result.andThen]
 rw [Oper.upon_value]
 go_wp2
 go_end0
 exact ⟨rfl, rfl⟩
theorem copyCheck_k (B b : Nat) (bs : List Value) (w : World) (h : Lib.IsBuilderF 117 5 B b bs w) :
  Calls Try.prog 96 #[.pointer (some ⟨b, 0, none⟩)] w fun e w' => e = .returned (.tuple #[]) ∧ (Lib.BuilderAtF 117 5 B b (.pointer (some ⟨b, 0, none⟩)) bs w' ∧ Below B w w' ∧ Lib.OthersKept 5 (some b) w w') := by
 rcases h with h | h
 ·refine (copyCheck_fresh b w h.cell0 h.shape h.frozen0).mono ?_
  rintro e w' ⟨rfl, rfl⟩
  exact ⟨rfl, h.used _, (Below.refl B w).setCell (p := ⟨b, 0, none⟩) h.1 _, (Lib.OthersKept.refl _ _ w).setCell ⟨b, 0, none⟩ rfl _⟩
 ·refine (copyCheck_used b w h.cell0).mono ?_
  rintro e w' ⟨rfl, rfl⟩
  exact ⟨rfl, h, Below.refl B _, Lib.OthersKept.refl _ _ _⟩
set_option maxHeartbeats 2000000 in
set_option maxRecDepth 100000 in
theorem writeString_k (B b : Nat) (bs : List Value) (s : ByteArray) (w : World) (h : Lib.IsBuilderF 117 5 B b bs w) (hlen : bs.length + s.size ≤ 140737488355328) (hBw : B ≤ w.heap.size) :
  Calls Try.prog 68 #[.pointer (some ⟨b, 0, none⟩), .string s] w fun e w' => e = .returned (.tuple #[.int .i64 s.size, .nilIface]) ∧ (Lib.BuilderAtF 117 5 B b (.pointer (some ⟨b, 0, none⟩)) (bs ++ Lib.strCells s) w' ∧ Below B w w' ∧ Lib.OthersKept 5 (some b) w w') := by
 obtain ⟨i0, hi, hz0, hz1, hz2⟩ := info_parts Try.Builder_Extra_169.infoByte
 go_enter Try.func68, Try.ntmps68
 go_wp2_with (go_at_call 96; refine (copyCheck_k B b bs _ h).mono ?_)
 rintro e w1 ⟨rfl, h1, hb1, hk1⟩
 obtain ⟨hB, v, hbk, hown, hne⟩ := h1
 have c0 : w1.cell? ⟨b, 0, none⟩ = some (.pointer (some ⟨b, 0, none⟩)) := by rw [Lib.cell_of_heap hbk]; rfl
 have c1 : w1.cell? ⟨b, 1, none⟩ = some v := by rw [Lib.cell_of_heap hbk]; rfl
 go_wp2_with (at_builtin; refine Lib.wpList_append_own_stringF _ rfl _ _ 92 9 rfl B 5 i0 Try.underlying92 Try.underlying9 hi hz0 hz1 hz2 _ _ _ rfl hown s rfl ?c3 ?c4 ?c5 ?_)
 case c3 => unfold maxLen; omega
 case c4 => omega
 case c5 => have := hb1.size; omega
 intro v' w2 hown' hgrow _
 have hlt : b < w1.heap.size := by
  rcases Nat.lt_or_ge b w1.heap.size with h' | h'
  ·exact h'
  ·simp [Array.getElem?_eq_none h'] at hbk
 have hb2 : w2.heap[b]? = some (.cells #[.pointer (some ⟨b, 0, none⟩), v] 117 (0, 0)) := by
  rw [hgrow.block b hlt (fun e => hne e.symm)]
  exact hbk
 have d0 : w2.cell? ⟨b, 0, none⟩ = some (.pointer (some ⟨b, 0, none⟩)) := by rw [Lib.cell_of_heap hb2]; rfl
 have d1 : w2.cell? ⟨b, 1, none⟩ = some v := by rw [Lib.cell_of_heap hb2]; rfl
 have f1 : w2.frozen? ⟨b, 1, none⟩ = false := Lib.frozen_of_heap hb2 1
 obtain ⟨ao, n', cap, rfl⟩ : ∃ ao n' cap, v' = .slice ao n' cap := by
  rcases hown'.2 with ⟨hv, _⟩ | ⟨g, cap, cur, fz, hv, _⟩
  ·exact ⟨_, _, _, hv⟩
  ·exact ⟨_, _, _, hv⟩
 go_wp2
 go_ret2
 refine ⟨rfl, ?_, ?_, (hk1.grown hgrow (Lib.ownsRowF_kind hown)).setCell ⟨b, 1, none⟩ rfl _⟩
 ·exact Lib.BuilderAtF.put (T := 117) (e := 5) hB hb2 (bs' := bs ++ Lib.strCells s) (by simpa [Lib.strCells_length] using hown') Try.Builder_Extra_169.neB5
 ·exact (hb1.grown hgrow (by have := hb1.size; omega) (fun k hk => (hown.lt k hk).1)).setCell (p := ⟨b, 1, none⟩) hB _
def outS (xs : List ByteArray) (B : BL) : List ByteArray := (List.range xs.length).map fun j : Nat => if getL (j : Int) B = some true then zeroS else xs.getD j ⟨#[]⟩
theorem outS_len (xs : List ByteArray) (B : BL) : (outS xs B).length = xs.length := by simp [outS]
theorem outS_at (xs : List ByteArray) (B : BL) (k : Nat) (hk : k < xs.length) (hk2 : k < (outS xs B).length) : (outS xs B)[k] = if getL (k : Int) B = some true then zeroS else xs[k] := by
 simp [outS, List.getD, hk]
set_option maxRecDepth 100000 in
set_option maxHeartbeats 2000000 in
theorem all_seq (w : World) (Bx : Nat) (i : DevIds) (xs : List ByteArray) (F : FL) (B : BL) (off : Bool) (fuse nw : Int) (hB : Boxed w Bx 25 (.pointer (some ⟨i.d, 0, none⟩))) (hD : DevAt w i xs F B off fuse nw) :
  SeqO (fun r => r = Bx ∨ i.In r) (fun _ => False) Try.prog 95 #[.pointer (some ⟨Bx, 0, none⟩)] (fun s : ByteArray => #[.string s]) (outS xs B) w := by
 intro l J Jx O W hW hO hJ hY h0
 replace hB := hW.boxed hB (by simp)
 replace hD := hD.step hW (fun k hk h => h (Or.inr hk))
 have hcB := hB.cell
 obtain ⟨c0, _⟩ := hD.cells
 have hlt := hD.lt
 have hBl := hB.lt
 have hln := hD.ok.2.1
 have hol := outS_len xs B
 refine callsIn_of_wp Try.func95 rfl trivial ?_ rfl
 simp only [Try.ntmps95, List.size_toArray, List.length_cons, List.length_nil, Nat.reduceAdd, Nat.reduceSub, Array.replicate_succ, Array.replicate_zero, List.push_toArray, List.append_toArray, List.nil_append, List.cons_append]
 obtain ⟨z, hz⟩ : ∃ z, z = W.heap.size := ⟨_, rfl⟩
 have hzc := World.alloc_heap_new W (.cells Try.zeroCells88 88)
 have hs0 : Step (fun _ => False) W (W.alloc (.cells Try.zeroCells88 88)) := Step.alloc _ _ _
 have hs0z : (W.alloc (.cells Try.zeroCells88 88)).heap.size = W.heap.size + 1 := by simp
 have c0' : (W.alloc (.cells Try.zeroCells88 88)).cell? ⟨i.d, 0, none⟩ = some (.slice (some ⟨i.bs, 0, none⟩) xs.length i.cap) := hs0.cell c0 (fun h => h)
 have cB' := hs0.cell hcB (fun h => h)
 gi_wp2
 generalize hgW : W.alloc (.cells Try.zeroCells88 88) = W0 at hzc hs0 hs0z c0' cB' ⊢
 clear hgW
 gi_loopw [11] (fun t wr => ∃ k : Nat, k ≤ xs.length ∧ t = .int .i64 k ∧ Boxed wr Bx 25 (.pointer (some ⟨i.d, 0, none⟩)) ∧ DevAt wr i xs F B off fuse nw ∧ wr.heap[W.heap.size]? = some (.cells Try.zeroCells88 88 (0, 0)) ∧ ∃ O', J O' ((outS xs B).take k) wr ∧ (∀ q, O' q → ¬ (q = Bx ∨ i.In q) ∧ q ≠ W.heap.size)) (fun t _ => xs.length - (intOf t).toNat)
 case atStart => exact ⟨0, Nat.zero_le _, rfl, hs0.boxed hB (fun h => h), hD.step hs0 (fun _ _ h => h), hzc, O, hJ.step O [] W W0 _ h0 hs0 (fun _ h => h.elim), fun q hq => ⟨hO q hq, fun e => by have := hJ.lt O [] W h0 q hq; omega⟩⟩
 case round =>
  obtain ⟨k, hk, rfl, hBr, hDr, hzr, O1, hJr, hO1⟩ := hrel
  by_cases hkl : k < xs.length
  ·have hnew : ∀ q, wr.heap.size ≤ q → ¬ (q = Bx ∨ i.In q) ∧ q ≠ W.heap.size := fun q h => ⟨fun e => e.elim (fun e => by have := hBr.lt; omega) (fun e => by have := hDr.lt q e; omega), fun e => by have := blk_lt hzr; omega⟩
   have hr := hDr.row hkl
   have cB := hBr.cell
   obtain ⟨_, _, c2, _⟩ := hDr.cells
   have hcz := conv_zero hzr
   have hat := outS_at xs B k hkl (by omega)
   have hpre : (outS xs B).take k ++ [(outS xs B)[k]'(by omega)] <+: outS xs B := by rw [← List.take_succ_eq_append_getElem]; exact List.take_prefix _ _
   rw [hat] at hpre
   have htk : (outS xs B).take (k + 1) = (outS xs B).take k ++ [if getL (k : Int) B = some true then zeroS else xs[k]] := by rw [← hat]; exact List.take_succ_eq_append_getElem _
   cases hgb : getL (k : Int) B with
   | some v =>
    have hv : v = true := (hDr.ok.2.2.2.2.1 _ (getL_mem hgb)).2.2
    subst hv
    rw [hgb, if_pos rfl] at htk hpre
    obtain ⟨fn, tmps, assign, body, hy, hR⟩ := hY O1 _ _ wr hJr hpre
    have hlb := (hDr.2.2.2.1.look_hit kitB (wf_at hln ⟨by omega, by omega⟩) hgb).2
    gi_wp2
    refine hR.mono ?_
    rintro e W' ⟨O3, hO3, hs3, ⟨rfl, hJ3⟩ | ⟨rfl, hJ3⟩⟩
    ·gi_wp2
     go_roundw
     case rel => exact ⟨k + 1, by omega, by simp, hs3.boxed hBr (fun h => (hO1 _ h).1 (Or.inl rfl)), hDr.step hs3 (fun q hq h => (hO1 _ h).1 (Or.inr hq)), hs3.block hzr (fun h => (hO1 _ h).2 rfl), O3, by rw [htk]; exact hJ3, fun q hq => (hO3 q hq).elim (hO1 q) (hnew q)⟩
     case measure => simp [intOf]; omega
    ·gi_wp2
     refine bodyPost_ret (results_none rfl _ _ _) rfl ?_
     exact ⟨⟨_, rfl⟩, O3, .inr ⟨_, hpre, hJ3⟩⟩
   | none =>
    rw [hgb, if_neg (by simp)] at htk hpre
    obtain ⟨fn, tmps, assign, body, hy, hR⟩ := hY O1 _ _ wr hJr hpre
    generalize xs[k] = x at hr hpre htk hy hR
    have hlb := (hDr.2.2.2.1.look_miss kitB (wf_at hln ⟨by omega, by omega⟩) hgb).2
    gi_wp2
    refine hR.mono ?_
    rintro e W' ⟨O3, hO3, hs3, ⟨rfl, hJ3⟩ | ⟨rfl, hJ3⟩⟩
    ·gi_wp2
     go_roundw
     case rel => exact ⟨k + 1, by omega, by simp, hs3.boxed hBr (fun h => (hO1 _ h).1 (Or.inl rfl)), hDr.step hs3 (fun q hq h => (hO1 _ h).1 (Or.inr hq)), hs3.block hzr (fun h => (hO1 _ h).2 rfl), O3, by rw [htk]; exact hJ3, fun q hq => (hO3 q hq).elim (hO1 q) (hnew q)⟩
     case measure => simp [intOf]; omega
    ·gi_wp2
     refine bodyPost_ret (results_none rfl _ _ _) rfl ?_
     exact ⟨⟨_, rfl⟩, O3, .inr ⟨_, hpre, hJ3⟩⟩
  ·have ek : k = xs.length := by omega
   gi_wp2
   go_end0
   exact ⟨⟨_, rfl⟩, O1, .inl (by rw [List.take_of_length_le (by omega)] at hJr; exact hJr)⟩
theorem append_str_at {w : World} {base : Nat} {v : Value} {n : Nat} {xs : List Value} (hown : w.ownsRowF base 5 1 v n xs) (s : ByteArray) (hb : n + s.size ≤ 140737488355328) (hbase : base ≤ w.heap.size) :
  ∃ v' w', (Builtin.append_ #[92, 9] 92 #[v, .string s]).run Try.prog w = .ok v' w' ∧ w'.ownsRowF base 5 1 v' (n + s.size) (xs ++ Lib.strCells s) ∧ w.grownBy w' v.ownBlock ∧ (∀ q, v'.ownBlock = some q → v.ownBlock = some q ∨ w.heap.size ≤ q) := by
 obtain ⟨i0, hi, hz0, hz1, hz2⟩ := info_parts Try.Builder_Extra_169.infoByte
 have h63 : n + s.size ≤ maxLen := by unfold maxLen; omega
 rcases hown.2 with ⟨rfl, rfl⟩ | ⟨g, cap, cur, fz, rfl, hbg, hg, hfz, hnc, hcm, hcs, htake⟩
 ·have hx0 : xs = [] := List.eq_nil_of_length_eq_zero (by simpa using hown.1)
  subst hx0
  obtain ⟨v', w', h1, h2, h3, _⟩ := Lib.run_append_own_stringF (P := Try.prog) (w := w) w.heap.size 92 9 92 5 i0 Try.underlying92 Try.underlying9 hi hz0 hz1 hz2 (.slice none 0 0) 0 [] (World.ownsRowF_nil _ _ _ _) s h63 hb (Nat.le_refl _)
  refine ⟨v', w', h1, ?_, h3, fun q hq => Or.inr (h2.lt q hq).1⟩
  refine ⟨h2.1, h2.2.imp id ?_⟩
  rintro ⟨g, cap, cur, fz, e, h4, h5⟩
  exact ⟨g, cap, cur, fz, e, by omega, h5⟩
 ·obtain ⟨v', w', h1, h2, h3, _⟩ := Lib.run_append_own_stringF (P := Try.prog) (w := w) base 92 9 92 5 i0 Try.underlying92 Try.underlying9 hi hz0 hz1 hz2 _ n xs hown s h63 hb hbase
  refine ⟨v', w', h1, h2, h3, fun q hq => ?_⟩
  have hcs' : cur.size = cap := by simpa using hcs
  by_cases hroom : n + s.size ≤ cap
  ·have hr := Lib.run_append_room_stringF (P := Try.prog) w 92 9 92 5 i0 Try.underlying92 Try.underlying9 hi hz1 g n cap cur fz hg (by simpa using hfz) s hroom (by omega)
   rw [h1] at hr
   injection hr with e1 e2
   subst e1
   exact Or.inl hq
  ·have hxl : xs.length = n := by simpa using hown.1
   have hr := Lib.run_append_grow_string (P := Try.prog) w 92 9 92 5 i0 (.int .u8 0) Try.underlying92 Try.underlying9 hi hz0 ⟨g, 0, none⟩ n cap xs (by rw [hz1]; simpa using hxl) (hown.cells (g := g) rfl) s (by unfold maxLen at h63; omega) (by omega) (by rw [hz2]; exact growslice_fits (by omega) (by omega))
   rw [h1] at hr
   injection hr with e1 e2
   subst e1
   right
   simp [Value.ownBlock] at hq
   omega
theorem wpList_append_str_at {w : World} {ops : Array Oper} {rest : List Oper} {o : Oper} {a : Act} {Q : Exit → Act → World → Prop} (hgd : o.guard = none) (sl x : Operand) (ho : o.op = .call { callee := .builtin .append, args := #[sl, x], argTypes := #[92, 9] }) (hty : o.type = 92) (v : Value) (s : ByteArray) (hs : a.eval sl = v) (hx : a.eval x = .string s)
  (v' : Value) (w' : World) (hrun : (Builtin.append_ #[92, 9] 92 #[v, .string s]).run Try.prog w = .ok v' w') (h : wpList Try.prog ops Q rest (a.put o.dst v') w') : wpList Try.prog ops Q (o :: rest) a w := by
 refine wpList_plain hgd fun K hK => ?_
 unfold Oper.wp execOp
 simp only [ho, hty, resolve, invoke, builtin, Sem.run_bind, Sem.run_pure, Result.andThen_ok, List.map_toArray, List.map_cons, List.map_nil, hs, hx, hrun]
 exact hK _ _ h
theorem copyCheck_s (b : Nat) (p v : Value) (w : World) (hp : p = .pointer none ∨ p = .pointer (some ⟨b, 0, none⟩)) (hbk : w.heap[b]? = some (.cells #[p, v] 117 (0, 0))) :
  Calls Try.prog 96 #[.pointer (some ⟨b, 0, none⟩)] w fun e w' => e = .returned (.tuple #[]) ∧ w'.heap[b]? = some (.cells #[.pointer (some ⟨b, 0, none⟩), v] 117 (0, 0)) ∧ Step (fun q => q = b) w w' := by
 rcases hp with rfl | rfl
 ·refine (copyCheck_fresh b w (by simp [World.cell?, hbk]) (by simp [World.shape?, hbk]) (blk_frozen hbk 0)).mono ?_
  rintro e w' ⟨rfl, rfl⟩
  exact ⟨rfl, blk_set hbk 0 _, Step.setCell w (p := ⟨b, 0, none⟩) (S := fun q => q = b) rfl _⟩
 ·refine (copyCheck_used b w (by simp [World.cell?, hbk])).mono ?_
  rintro e w' ⟨rfl, rfl⟩
  exact ⟨rfl, hbk, Step.refl _ _⟩
theorem ownsRowF_step {S : Nat → Prop} {W W' : World} {base : Nat} {e : TypeId} {size n : Nat} {v : Value} {xs : List Value} (hS : Step S W W') (h : W.ownsRowF base e size v n xs) (hn : ∀ g, v.ownBlock = some g → ¬ S g) : W'.ownsRowF base e size v n xs := by
 refine ⟨h.1, ?_⟩
 rcases h.2 with h0 | ⟨g, cap, cur, fz, rfl, hb, hg, h1⟩
 ·exact Or.inl h0
 ·exact Or.inr ⟨g, cap, cur, fz, rfl, hb, hS.block hg (hn g rfl), h1⟩
set_option maxHeartbeats 2000000 in
set_option maxRecDepth 100000 in
theorem writeString_s (B b : Nat) (p v : Value) (n : Nat) (bs : List Value) (s : ByteArray) (w : World) (hp : p = .pointer none ∨ p = .pointer (some ⟨b, 0, none⟩)) (hbk : w.heap[b]? = some (.cells #[p, v] 117 (0, 0))) (hown : w.ownsRowF B 5 1 v n bs) (hne : v.ownBlock ≠ some b) (hlen : n + s.size ≤ 140737488355328) (hBw : B ≤ w.heap.size) :
  Calls Try.prog 68 #[.pointer (some ⟨b, 0, none⟩), .string s] w fun e w' => e = .returned (.tuple #[.int .i64 s.size, .nilIface]) ∧ ∃ v', w'.heap[b]? = some (.cells #[.pointer (some ⟨b, 0, none⟩), v'] 117 (0, 0)) ∧ w'.ownsRowF B 5 1 v' (n + s.size) (bs ++ Lib.strCells s) ∧ v'.ownBlock ≠ some b ∧ (∀ q, v'.ownBlock = some q → v.ownBlock = some q ∨ w.heap.size ≤ q) ∧ Step (fun q => q = b ∨ v.ownBlock = some q) w w' := by
 have hbl := blk_lt hbk
 go_enter Try.func68, Try.ntmps68
 go_wp2_with (go_at_call 96; refine (copyCheck_s b p v _ hp hbk).mono ?_)
 rintro e w1 ⟨rfl, hbk1, hs1⟩
 have hown1 := ownsRowF_step hs1 hown (fun g hg e => hne (e ▸ hg))
 have hz1 := hs1.size
 obtain ⟨v', w2, hrun, hown2, hgr, hat⟩ := append_str_at hown1 s hlen (by omega)
 have c0 : w1.cell? ⟨b, 0, none⟩ = some (.pointer (some ⟨b, 0, none⟩)) := by rw [Lib.cell_of_heap hbk1]; rfl
 have c1 : w1.cell? ⟨b, 1, none⟩ = some v := by rw [Lib.cell_of_heap hbk1]; rfl
 have hb2 : w2.heap[b]? = some (.cells #[.pointer (some ⟨b, 0, none⟩), v] 117 (0, 0)) := by
  rw [hgr.block b (by omega) (fun e => hne e.symm)]
  exact hbk1
 have d1 : w2.cell? ⟨b, 1, none⟩ = some v := by rw [Lib.cell_of_heap hb2]; rfl
 have f1 : w2.frozen? ⟨b, 1, none⟩ = false := Lib.frozen_of_heap hb2 1
 have hg2 : Step (fun q => q = b ∨ v.ownBlock = some q) w1 w2 := Step.grown hgr (fun k hk => Or.inr hk)
 have hv' : v'.ownBlock ≠ some b := fun e => by
  rcases hat b e with h | h
  ·exact hne h
  ·omega
 obtain ⟨ao, n', cap, rfl⟩ : ∃ ao n' cap, v' = .slice ao n' cap := by
  rcases hown2.2 with ⟨hv, _⟩ | ⟨g, cap, cur, fz, hv, _⟩
  ·exact ⟨_, _, _, hv⟩
  ·exact ⟨_, _, _, hv⟩
 go_wp2_with (at_builtin; refine wpList_append_str_at rfl _ _ rfl rfl _ s rfl rfl _ _ hrun ?_)
 go_ret2
 refine ⟨rfl, _, blk_set hb2 1 _, ownsRowF_step (Step.setCell w2 (p := ⟨b, 1, none⟩) (S := fun q => q = b) rfl _) hown2 (fun g hg e => hv' (e ▸ hg)), hv', fun q hq => (hat q hq).imp id (fun h => by omega), (hs1.trans hg2 (fun _ h => Or.inl h) (fun _ h => Or.inl h)).trans (Step.setCell w2 (p := ⟨b, 1, none⟩) (S := fun q => q = b) rfl _) (fun _ h => h) (fun _ h => Or.inl (Or.inl h))⟩
theorem dev_all_any (w : World) (d : Nat) : Calls Try.prog 67 #[.pointer (some ⟨d, 0, none⟩)] w fun e w' => e = .returned (.func (.func 95) #[] #[.pointer (some ⟨w.heap.size, 0, none⟩)]) ∧ w' = w.alloc (.cells #[.pointer (some ⟨d, 0, none⟩)] 25) := by
 go_enter Try.func67, Try.ntmps67
 go_wp2
 go_ret
 exact ⟨rfl, rfl⟩
def catS (l : List ByteArray) : ByteArray := ⟨(l.flatMap fun s => s.data.toList).toArray⟩
theorem flat_len : ∀ (l : List ByteArray), (∀ s ∈ l, s.size = 512) → (l.flatMap fun s => s.data.toList).length = 512 * l.length
 | [], _ => rfl
 | s :: l, h => by
  rw [List.flatMap_cons, List.length_append, flat_len l (fun x hx => h x (List.mem_cons_of_mem _ hx)), data_length, h s List.mem_cons_self, List.length_cons]
  omega
theorem ownsRowF_less {w : World} {b base n : Nat} {e : TypeId} {size : Nat} {v : Value} {xs : List Value} (h : w.ownsRowF b e size v n xs) (hle : base ≤ b) : w.ownsRowF base e size v n xs := by
 refine ⟨h.1, h.2.imp id ?_⟩
 rintro ⟨g, cap, cur, fz, e, h4, h5⟩
 exact ⟨g, cap, cur, fz, e, by omega, h5⟩
set_option maxRecDepth 100000 in
set_option maxHeartbeats 2000000 in
theorem dev_Bytes_any (w : World) (i : DevIds) (xs : List ByteArray) (F : FL) (B : BL) (off : Bool) (fuse nw : Int) (h : DevAt w i xs F B off fuse nw) :
  Calls Try.prog 26 #[.pointer (some ⟨i.d, 0, none⟩)] w fun e w' => e = .returned (.string (catS (outS xs B))) ∧ Below w.heap.size w w' := by
 refine (callsIn_wide (n := 4)).1 ?_
 refine callsIn_of_wp_marks Try.func26 rfl trivial ?_ rfl
 simp only [Try.ntmps26, List.size_toArray, List.length_cons, List.length_nil, Nat.reduceAdd, Nat.reduceSub, Array.replicate_succ, Array.replicate_zero, List.push_toArray, List.append_toArray, List.nil_append, List.cons_append]
 gi_wp2
 refine ⟨trivial, ?_⟩
 gi_at_call 67
 refine (callsIn_wide.2 (dev_all_any _ i.d)).mono ?_
 rintro e w1 ⟨rfl, rfl⟩
 have hbl := h.lt
 gi_wp2
 obtain ⟨b, hb⟩ : ∃ b, b = w.heap.size := ⟨_, rfl⟩
 rw [← hb]
 obtain ⟨W0, hW0⟩ : ∃ W0, W0 = (w.alloc (.cells #[.pointer none, .slice none 0 0] 117)).alloc (.cells #[.pointer (some ⟨i.d, 0, none⟩)] 25) := ⟨_, rfl⟩
 have hs0 : Step (fun _ => False) w W0 := by rw [hW0]; exact (Step.alloc (fun _ => False) _ _).trans (Step.alloc (fun _ => False) _ _) (fun _ h => h) (fun _ h => Or.inl h)
 have hz0 : W0.heap.size = b + 2 := by rw [hW0, hb]; simp
 have hk0 : W0.heap[b]? = some (.cells #[.pointer none, .slice none 0 0] 117 (0, 0)) := by rw [hW0, hb]; exact (Step.alloc (fun _ => False) _ _).block (World.alloc_heap_new w _) (fun h => h)
 have hx0 : Boxed W0 (b + 1) 25 (.pointer (some ⟨i.d, 0, none⟩)) := by
  have := Boxed.new (w.alloc (.cells #[.pointer none, .slice none 0 0] 117)) 25 (.pointer (some ⟨i.d, 0, none⟩))
  rw [hW0, hb]; simpa using this
 have hD0 := h.step hs0 (fun _ _ h => h)
 rw [← hW0]
 clear hW0
 have hb1 : b ≤ w.heap.size := by omega
 have hb2 : w.heap.size ≤ b := by omega
 clear hb
 have hseq := all_seq W0 (b + 1) i xs F B off fuse nw hx0 hD0
 have hol := outS_len xs B
 have hl1 := h.ok.2.1
 have hsz : ∀ s ∈ outS xs B, s.size = 512 := fun s hs => by
  obtain ⟨j, hj, rfl⟩ := List.getElem_of_mem hs
  rw [outS_at xs B j (by omega) hj]
  split
  ·exact zeroS_size
  ·exact h.ok.2.2.1 _ (List.getElem_mem _)
 generalize hys : outS xs B = ys at hseq hol hsz
 have hlp : ∀ pre, pre <+: ys → ((pre.flatMap fun s => s.data.toList).length ≤ 20000000) := fun pre hp => by
  rw [flat_len pre (fun s hs => hsz s (hp.subset hs))]
  have := hp.length_le
  omega
 refine wpIn_rangeFunc_O (gf := 95) (lb := #[.pointer (some ⟨b + 1, 0, none⟩)]) rfl (enters_of Try.func95 (by kernel_rfl) rfl) hseq (fun r hr => by rcases hr with rfl | hr; omega; have := hbl r hr; omega) (fun _ => rfl)
  (fun O pre W => pre <+: ys ∧ ∃ p v, (∀ k, O k ↔ k = b ∨ v.ownBlock = some k) ∧ (p = .pointer none ∨ p = .pointer (some ⟨b, 0, none⟩)) ∧ W.heap[b]? = some (.cells #[p, v] 117 (0, 0)) ∧ W.ownsRowF (b + 2) 5 1 v (pre.flatMap fun s => s.data.toList).length (Lib.byteCells (pre.flatMap fun s => s.data.toList)) ∧ b + 2 ≤ W.heap.size ∧ Below b w W)
  (fun _ _ _ _ => False) ⟨?lt, ?step⟩ (fun _ => ⟨fun _ _ _ h => h.elim, fun _ _ _ _ _ h => h.elim⟩) (fun k => k = b) (fun k hk hz => by rcases hz with hz | hz; omega; have := hbl k hz; omega) ⟨List.nil_prefix, _, _, by simp [Value.ownBlock], Or.inl rfl, hk0, World.ownsRowF_nil _ _ _ _, by omega, hs0.below (by omega) (fun _ h => h.elim)⟩ ?round ?done ?stop
 case lt =>
  rintro O pre W ⟨_, p, v, h1, _, h2, h3, _⟩ k hk
  rcases (h1 k).1 hk with rfl | hk
  ·exact blk_lt h2
  ·exact (h3.lt k hk).2
 case step =>
  rintro O pre W W' S ⟨h0, p, v, h1, hp, h2, h3, h4, h5⟩ hS hs
  exact ⟨h0, p, v, h1, hp, hS.block h2 (fun h => (hs _ h).1 ((h1 _).2 (Or.inl rfl))), ownsRowF_step hS h3 (fun g hg h => (hs _ h).1 ((h1 _).2 (Or.inr hg))), by have := hS.size; omega, h5.trans (hS.below (by omega) (fun k hk => by rcases (hs k hk).2 with h | h; exact h.elim; omega))⟩
 case round =>
  rintro l O pre x W hl hWs - hpre
  gi_wp2
  refine ⟨Step.refl _ _, ?_⟩
  rintro Wb hsb ⟨h0, p, v, h1, hp, h2, h3, h4, h5⟩
  have hne : v.ownBlock ≠ some b := fun e => by have := (h3.lt b e).1; omega
  have hxs := hsz x (hpre.subset (by simp))
  have hW := writeString_s (b + 2) b p v _ _ x Wb hp h2 h3 hne (by have := hlp pre h0; omega) h4
  gi_wp2
  refine ⟨trivial, ?_⟩
  gi_at_call 68
  refine (callsIn_wide.2 hW).mono ?_
  rintro e W2 ⟨rfl, v', g1, g2, g3, g4, g5⟩
  gi_wp2
  refine ⟨fun k => k = b ∨ v'.ownBlock = some k, fun k hk => ?_, g5.mono (fun k hk => (h1 k).2 hk), hpre, _, v', fun k => Iff.rfl, Or.inr rfl, g1, ?_, by have := g5.size; omega, h5.trans (g5.below (by omega) (fun k hk => by rcases hk with rfl | hk; exact Nat.le_refl _; have := (h3.lt k hk).1; omega))⟩
  ·rcases hk with rfl | hk
   ·exact Or.inl ((h1 _).2 (Or.inl rfl))
   ·rcases g4 k hk with h | h
    ·exact Or.inl ((h1 _).2 (Or.inr h))
    ·exact Or.inr h
  ·rw [List.flatMap_append, List.flatMap_singleton, Lib.byteCells_append, List.length_append, data_length, ← Lib.strCells_eq]
   exact g2
 case done =>
  rintro D O W hD hOD ⟨h0, p, v, h1, hp, h2, h3, h4, h5⟩ hK
  have hne : v.ownBlock ≠ some b := fun e => by have := (h3.lt b e).1; omega
  have hIs : Lib.IsBuilderF 117 5 b b (Lib.byteCells (ys.flatMap fun s => s.data.toList)) W := by
   rw [← Lib.byteCells_length (ys.flatMap fun s => s.data.toList)] at h3
   rcases hp with rfl | rfl
   ·exact Or.inl ⟨Nat.le_refl _, v, h2, ownsRowF_less h3 (by omega), hne⟩
   ·exact Or.inr ⟨Nat.le_refl _, v, h2, ownsRowF_less h3 (by omega), hne⟩
  have hS := Try.Builder_String_any_k b b _ W hIs (by omega)
  gi_wp2
  refine ⟨trivial, ?_⟩
  gi_at_call 69
  refine (callsIn_wide.2 hS).mono ?_
  rintro e W3 ⟨rfl, _, hB3, hO3⟩
  have hK3 := hO3 D _ hK (fun e => by injection e with e; exact hOD ((h1 D).2 (Or.inl e))) (fun c fz e => by cases e)
  gi_wp2
  refine ⟨by simp, .inl ⟨_, _, rfl, run_takeDeferred hK3, ?_⟩⟩
  refine ⟨_, results_tmp rfl _ _ _, by simp [catS, hys], (h5.mono hb2).trans ((hB3.mono hb2).trans ((Step.put W3 D _).below (by have := hB3.size; omega) (fun k hk => by omega)))⟩
 case stop => rintro D O c pre W _ _ _ h; exact h.elim
structure CloneS (w0 : World) (i : DevIds) (xs : List ByteArray) (F : FL) (B : BL) (off : Bool) (fuse nw : Int) (w : World) : Prop where
 st : DevAt w i xs F B off fuse nw
 lt : ∀ k, i.In k → k < w0.heap.size
 bl : Below w0.heap.size w0 w
section
variable {w0 : World} {i : DevIds} {xs : List ByteArray} {F : FL} {B : BL} {off : Bool} {fuse nw : Int} {w w' : World}
theorem CloneS.step (h : CloneS w0 i xs F B off fuse nw w) (hb : Below w.heap.size w w') : CloneS w0 i xs F B off fuse nw w' :=
 ⟨h.st.step (Step.of_below (S := fun _ => False) hb) (fun _ _ h => h), h.lt, h.bl.trans (hb.mono h.bl.size)⟩
theorem CloneS.setZ (h : CloneS w0 i xs F B off fuse nw w) (j : Nat) (v : Value) : CloneS w0 i xs F B off fuse nw (w.setCell ⟨w0.heap.size, j, none⟩ v) :=
 ⟨h.st.step (Step.setCell w (p := ⟨w0.heap.size, j, none⟩) (S := fun q => q = w0.heap.size) rfl v) (fun k hk e => by have := h.lt k hk; omega), h.lt, h.bl.setCell (p := ⟨w0.heap.size, j, none⟩) (Nat.le_refl _) v⟩
theorem CloneS.all (h : CloneS w0 i xs F B off fuse nw w) : w.cell? ⟨i.d, 0, none⟩ = some (.slice (some ⟨i.bs, 0, none⟩) xs.length i.cap) ∧ w.cell? ⟨i.d, 1, none⟩ = some (.map (some i.bf)) ∧ w.cell? ⟨i.d, 2, none⟩ = some (.map (some i.bb)) ∧ CloneS w0 i xs F B off fuse nw w := ⟨h.st.cells.1, h.st.cells.2.1, h.st.cells.2.2.1, h⟩
end
set_option maxRecDepth 100000 in
set_option maxHeartbeats 4000000 in
theorem dev_Clone_any (w : World) (i : DevIds) (xs : List ByteArray) (F : FL) (B : BL) (off : Bool) (fuse nw : Int) (h : DevAt w i xs F B off fuse nw) :
  Calls Try.prog 25 #[.pointer (some ⟨i.d, 0, none⟩)] w fun e w' => ∃ i', e = .returned (.pointer (some ⟨i'.d, 0, none⟩)) ∧ DevAt w' i' xs F B off fuse nw ∧ (∀ k, i'.In k → w.heap.size ≤ k) ∧ Below w.heap.size w w' := by
 have hlt := h.lt
 obtain ⟨c0, c1, c2, c3, c4, c5⟩ := h.cells
 have hd := h.1
 have hl1 := h.ok.1
 have hl2 := h.ok.2.1
 have hs0 : Step (fun _ => False) w (w.alloc (.cells #[.slice (some ⟨i.bs, 0, none⟩) xs.length i.cap, .map (some i.bf), .map (some i.bb), .bool off, .int .i64 fuse, .int .i64 nw] 96)) := Step.alloc _ _ _
 have hn0 := World.alloc_heap_new w (.cells #[.slice (some ⟨i.bs, 0, none⟩) xs.length i.cap, .map (some i.bf), .map (some i.bb), .bool off, .int .i64 fuse, .int .i64 nw] 96)
 have hD0 := h.step hs0 (fun _ _ h => h)
 have hB0 := (Below.refl w.heap.size w).alloc (Nat.le_refl _) (.cells #[.slice (some ⟨i.bs, 0, none⟩) xs.length i.cap, .map (some i.bf), .map (some i.bb), .bool off, .int .i64 fuse, .int .i64 nw] 96)
 have hS0 : CloneS w i xs F B off fuse nw _ := ⟨hD0, hlt, hB0⟩
 go_enter Try.func25, Try.ntmps25
 go_wp2
 generalize w.alloc (.cells #[.slice (some ⟨i.bs, 0, none⟩) xs.length i.cap, .map (some i.bf), .map (some i.bb), .bool off, .int .i64 fuse, .int .i64 nw] 96) = W at hS0 hn0 ⊢
 clear hs0 hD0 hB0 c0 c1 c2 c3 c4 c5 hd
 obtain ⟨c0, c1, c2, _⟩ := hS0.all
 have hS1 : CloneS w i xs F B off fuse nw W.drew := ⟨hS0.st, hlt, pw_below_drewN hS0.bl 1⟩
 have hrow : ∀ j, j < xs.length → W.drew.cell? ⟨i.bs, 0 + j, none⟩ = some (.string (xs.getD j ByteArray.empty)) := fun j hj => by rw [Nat.zero_add, hS1.st.row hj]; simp [List.getD, hj]
 have k1 : W.drew.heap[w.heap.size]? = _ := hn0
 go_region_held3 (fun w' => w'.cell? ⟨i.d, 0, none⟩ = some (.slice (some ⟨i.bs, 0, none⟩) xs.length i.cap) ∧ w'.cell? ⟨i.d, 1, none⟩ = some (.map (some i.bf)) ∧ w'.cell? ⟨i.d, 2, none⟩ = some (.map (some i.bb)) ∧ CloneS w i xs F B off fuse nw w')
  (first | with_reducible exact hS1.all | with_reducible exact hS2.all | with_reducible exact hS3.all | with_reducible exact hS4.all | with_reducible exact (hS4.setZ _ _).all | with_reducible exact ((hS4.setZ _ _).setZ _ _).all | with_reducible exact (((hS4.setZ _ _).setZ _ _).setZ _ _).all)
  (first
   | (go_at_call 64; refine (Try.slices_Clone_string i.bs 0 xs.length i.cap xs _ (Nat.le_refl _) (by omega) hrow).mono ?_; rintro e w2 ⟨v', rfl, hown', hvn, hb2⟩; rw [List.take_length] at hown'; have hS2 : CloneS w i xs F B off fuse nw w2 := CloneS.step hS1 hb2; have k2 := (Step.of_below (S := fun _ => False) hb2).block k1 (fun h => h); obtain ⟨g2, cap2, rfl, hg2, hgs2, _⟩ := ownsRow_form hown' (by omega))
   | (go_at_call 65; refine (mapsCloneS_any _ i.bf F hS2.st.2.2.1).mono ?_; rintro e w3 ⟨rfl, hm3, hb3⟩; have hS3 : CloneS w i xs F B off fuse nw w3 := CloneS.step hS2 hb3; have k3 := (Step.of_below (S := fun _ => False) hb3).block k2 (fun h => h))
   | (go_at_call 66; refine (mapsCloneB_any _ i.bb B hS3.st.2.2.2.1).mono ?_; rintro e w4 ⟨rfl, hm4, hb4⟩; have hS4 : CloneS w i xs F B off fuse nw w4 := CloneS.step hS3 hb4; have k4 := (Step.of_below (S := fun _ => False) hb4).block k3 (fun h => h); have z0 : w4.cell? ⟨w.heap.size, 0, none⟩ = some (.slice (some ⟨i.bs, 0, none⟩) xs.length i.cap) := (by rw [Lib.cell_of_heap k4]; rfl); have z1 : w4.cell? ⟨w.heap.size, 1, none⟩ = some (.map (some i.bf)) := (by rw [Lib.cell_of_heap k4]; rfl); have z2 : w4.cell? ⟨w.heap.size, 2, none⟩ = some (.map (some i.bb)) := (by rw [Lib.cell_of_heap k4]; rfl); have y0 := Lib.frozen_of_heap k4 0; have y1 := Lib.frozen_of_heap k4 1; have y2 := Lib.frozen_of_heap k4 2))
 go_wp2
 go_ret
 have hz := blk_lt k1
 have hz2 := hb2.size
 have hz3 := hb3.size
 have hl3 := hm3.lt
 have hl4 := hm4.lt
 have m3 := blk_set (blk_set (blk_set k4 0 (.slice (some ⟨g2, 0, none⟩) xs.length cap2)) 1 (.map (some w2.heap.size))) 2 (.map (some w3.heap.size))
 have st3 : Step (fun q => q = w.heap.size) w4 (((w4.setCell ⟨w.heap.size, 0, none⟩ (.slice (some ⟨g2, 0, none⟩) xs.length cap2)).setCell ⟨w.heap.size, 1, none⟩ (.map (some w2.heap.size))).setCell ⟨w.heap.size, 2, none⟩ (.map (some w3.heap.size))) :=
  ((Step.setCell _ (p := ⟨w.heap.size, 0, none⟩) (S := fun q => q = w.heap.size) rfl _).trans (Step.setCell _ (p := ⟨w.heap.size, 1, none⟩) (S := fun q => q = w.heap.size) rfl _) (fun _ h => h) (fun _ h => Or.inl h)).trans (Step.setCell _ (p := ⟨w.heap.size, 2, none⟩) (S := fun q => q = w.heap.size) rfl _) (fun _ h => h) (fun _ h => Or.inl h)
 have st24 : Step (fun _ => False) w2 w4 := (Step.of_below hb3).trans (Step.of_below (S := fun _ => False) hb4) (fun _ h => h) (fun _ h => Or.inl h)
 refine ⟨⟨w.heap.size, g2, cap2, w2.heap.size, w3.heap.size⟩, rfl, ⟨m3, ?_, ?_, ?_, ?_, h.ok⟩, fun k hk => ?_, hS4.bl.trans (st3.below (by have := hS4.bl.size; omega) (fun k hk => by omega))⟩
 ·refine own_weaken (ownsRow_step st3 (ownsRow_step st24 hown' (fun _ _ h => h)) (fun q hq e => ?_)) (Nat.zero_le _)
  simp [Value.ownBlock] at hq
  omega
 ·exact (hm3.step (Step.of_below (S := fun _ => False) hb4) (fun h => h)).step st3 (by omega)
 ·exact hm4.step st3 (by omega)
 ·show w2.heap.size ≠ w3.heap.size; omega
 ·have q1 : w.heap.size ≤ g2 := by omega
  have q2 : w.heap.size ≤ w2.heap.size := by omega
  have q3 : w.heap.size ≤ w3.heap.size := by omega
  rcases hk with rfl | rfl | rfl | rfl
  ·exact Nat.le_refl _
  ·exact q1
  ·exact q2
  ·exact q3
set_option maxRecDepth 100000 in
set_option maxHeartbeats 2000000 in
theorem dev_Garble_no (w : World) (i : DevIds) (xs : List ByteArray) (F : FL) (B : BL) (off : Bool) (fuse nw : Int) (at_ o b : Int) (h : DevAt w i xs F B off fuse nw) (hn : ¬ ((0 ≤ at_ ∧ at_ < xs.length) ∧ 0 ≤ o ∧ o ≤ 508)) :
  Calls Try.prog 48 #[.pointer (some ⟨i.d, 0, none⟩), .int .i64 at_, .int .i64 o, .int .u32 b] w fun e w' => e = .returned (.int .i64 1) ∧ w' = w := by
 have hH := dev_has_any w i xs F B off fuse nw at_ h
 go_enter Try.func48, Try.ntmps48
 go_wp2_with (go_at_call 70; refine hH.mono ?_)
 rintro e w1 ⟨rfl, rfl⟩
 by_cases hh : 0 ≤ at_ ∧ at_ < (xs.length : Int)
 ·have d1 : decide (0 ≤ at_ ∧ at_ < (xs.length : Int)) = true := decide_eq_true hh
  by_cases h0 : o < 0
  ·have d2 : decide (o < 0) = true := decide_eq_true h0
   rw [d1]
   go_wp2
   go_ret
   exact ⟨rfl, rfl⟩
  ·have h5 : 508 < o := by omega
   have d2 : decide (o < 0) = false := decide_eq_false h0
   have d3 : decide (508 < o) = true := decide_eq_true h5
   rw [d1]
   go_wp2
   go_ret
   exact ⟨rfl, rfl⟩
 ·have d1 : decide (0 ≤ at_ ∧ at_ < (xs.length : Int)) = false := decide_eq_false hh
  rw [d1]
  go_wp2
  go_ret
  exact ⟨rfl, rfl⟩
end

end Go.Proofs.Ytkdbgdglmbnnkaa.HDR
