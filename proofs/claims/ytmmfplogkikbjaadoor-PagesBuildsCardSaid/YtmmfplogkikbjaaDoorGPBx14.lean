/- a text of this claim -/
import Derived.Test.YtmmfplogkikbjaaDoorGPBx0
import Derived.Test.YtmmfplogkikbjaaDoorGPBx3
import Derived.Test.YtmmfplogkikbjaaDoorGPBx9
import Derived.Test.YtmmfplogkikbjaaDoorGPBx12
import Derived.Test.YtmmfplogkikbjaaDoorGPBx13
namespace Go.Proofs.YtmmfplogkikbjaaDoor.HPB
open Go.RowKit Go.Proofs.YtmmfplogkikbjaaDoorW.PrintWords Go.Proofs.YtmmfplogkikbjaaDoorW.PrintLast Go.Proofs.YtmmfplogkikbjaaDoorW.PrintMore
attribute [local go_sem] max2_int min2_int max_two min_two max_three min_three max_four min_four
set_option linter.unusedVariables false
set_option linter.unusedSimpArgs false
section
open Go Go.Shelf Go.Maps Go.Proofs.YtmmfplogkikbjaaDoor.Seq Go.Proofs.YtmmfplogkikbjaaDoor.MapL Go.Proofs.YtmmfplogkikbjaaDoorW.PrintLast
attribute [local go_sem] Oper.semAt_some max2_int min2_int max_two min_two
theorem slice_lo (w : World) (s : ByteArray) (l : Int) (h0 : 0 ≤ l) (h1 : l ≤ s.size) : (Instr.slice 9 (.string s) (some (.int .i64 l)) none none).run Tryd.prog w = .ok (.string (s.extract l.toNat s.size)) w := by
 have ht := Tryd.underlying9
 simp [Instr.slice, run_underlying ht, Instr.sliceBounds, run_sliceBound, sliced, *]
theorem slice_hi (w : World) (s : ByteArray) (l : Int) (h0 : 0 ≤ l) (h1 : l ≤ s.size) : (Instr.slice 9 (.string s) none (some (.int .i64 l)) none).run Tryd.prog w = .ok (.string (s.extract 0 l.toNat)) w := by
 have ht := Tryd.underlying9
 have eh : (l.toNat : Int) = l := Int.toNat_of_nonneg (by omega)
 simp [Instr.slice, run_underlying ht, Instr.sliceBounds, run_sliceBound, sliced, eh, *]
theorem C_at {k : IntKind} {W : World} {ad : Addr} {n : Nat} {xs : List Int} (h : Kd.C (Kd.int k) W (some ad) n xs) (j : Nat) (hj : j < n) : W.cell? (if j = 0 then ad else ⟨ad.block, ad.off + j, none⟩) = some (.int k (xs.getD j 0)) := by
 obtain ⟨h1, _, h3⟩ := h
 obtain ⟨ad', e, hx⟩ := h3 (by omega)
 cases e
 have hl : j < xs.length := by omega
 obtain ⟨cs, hlen, hK, hc⟩ := hx j xs[j] (List.getElem?_eq_getElem hl)
 have hK' : cs = [.int k xs[j]] := hK
 subst hK'
 have := hc 0 _ rfl
 have e1 : (Kd.int k).sz = 1 := rfl
 rw [e1, Nat.mul_one, Nat.add_zero] at this
 have e2 : ad.add j = (if j = 0 then ad else ⟨ad.block, ad.off + j, none⟩) := by
  by_cases hz : j = 0
  ·subst hz; simp [Addr.add]
  ·rw [if_neg hz]; simp [Addr.add, hz]
 rw [e2] at this
 rw [this, List.getD_eq_getElem?_getD, List.getElem?_eq_getElem hl]
 rfl
theorem blk3 {w : World} {g : Nat} {t : TypeId} {a b c : Value} (h : w.heap[g]? = some (.cells #[a, b, c] t (0, 0))) : w.cell? ⟨g, 0, none⟩ = some a ∧ w.cell? ⟨g, 1, none⟩ = some b ∧ w.cell? ⟨g, 2, none⟩ = some c := by
 refine ⟨?_, ?_, ?_⟩ <;> (rw [blk_cell h]; rfl)
theorem infoS88 : (Tryd.prog.info? 88).map (fun i => (i.zero, i.size, i.bytes)) = some (some (.agg #[(.int .i64 0), (.bool false)]), 2, 16) := by kernel_rfl
theorem TabAt.pos {w : World} (h : TabAt w) : 0 < w.heap.size := World.block_lt_of_cell? w _ (h 0 (by decide))
theorem step2 {w w1 w2 : World} (h1 : Step (fun _ => False) w w1) (h2 : Step (fun _ => False) w1 w2) : Step (fun _ => False) w w2 := h1.trans h2 (fun _ h => h) (fun _ h => h.elim)
theorem rootL_in (a b s : Int) : ∀ x ∈ rootL a b s, 0 ≤ x ∧ x < 256 := by
 intro x hx
 simp only [rootL, List.mem_append, List.mem_nil_iff, or_false] at hx
 rcases hx with h | h | h <;> exact leI_in _ _ x h
theorem take_leI (w : Nat) (n : Int) (l : List Int) : (leI w n ++ l).take w = leI w n := by
 rw [List.take_append_of_le_length (by rw [leI_len]; omega), List.take_of_length_le (by rw [leI_len]; omega)]
theorem drop_leI (w : Nat) (n : Int) (l : List Int) : (leI w n ++ l).drop w = l := by
 rw [List.drop_append, List.drop_of_length_le (by rw [leI_len]; omega), leI_len, Nat.sub_self, List.drop_zero, List.nil_append]
theorem dec_root (a b s : Int) (h0 : 0 ≤ a ∧ a < 4294967296) (h1 : 0 ≤ b ∧ b < 4294967296) (h2 : 0 ≤ s ∧ s < 4294967296) (X : List Int) : ptrV (rootL a b s ++ X) 0 = a ∧ ptrV (rootL a b s ++ X) 1 = b ∧ ptrV (rootL a b s ++ X) 2 = s := by
 have e := allV_ptr (rootL a b s ++ X)
 have e2 : rootL a b s ++ X = leI 4 a ++ (leI 4 b ++ (leI 4 s ++ X)) := by simp [rootL]
 have e3 : allV [4, 4, 4] (rootL a b s ++ X) = [a, b, s] := by
  rw [e2]
  simp only [allV, show (4 : Int).toNat = 4 from rfl, take_leI, drop_leI]
  rw [deI_leI 4 a h0.1 (by omega), deI_leI 4 b h1.1 (by omega), deI_leI 4 s h2.1 (by omega)]
 rw [e3] at e
 simp only [List.cons.injEq, and_true] at e
 exact ⟨e.1.symm, e.2.1.symm, e.2.2.symm⟩
def xs0 : List ByteArray := List.replicate 16 zeroS
theorem geom_Size_any (sh K M C : Int) (w : World) : Calls Tryd.prog 73 #[geoV sh K M C] w fun e w' => e = .returned (.int .i64 (sizeP sh K M C)) ∧ Below w.heap.size w w' := by
 refine geom_Size.calls 1 sh K M C _ w ?_
 unfold geom_Size.f sizeP
 rw [geom_right_f]
 by_cases h : GeoOk sh K M C
 ·rw [if_pos h, decide_eq_true h]
  simp only [Option.bind_some, ↓reduceIte]
  rw [shl9 sh h.1 h.2.1, nS_int, if_pos]
  rw [wrap64_id (by have := h.1; omega) (by have := h.2.1; omega)]
  have := h.1; omega
 ·rw [if_neg h, decide_eq_false h]; rfl
theorem geom_First_any (sh K M C at_ : Int) (w : World) : Calls Tryd.prog 119 #[geoV sh K M C, .int .i64 at_] w fun e w' => e = .returned (.tuple #[.int .i64 (firstP sh K M C at_).1, .int .i64 (firstP sh K M C at_).2]) ∧ Below w.heap.size w w' := by
 refine geom_First.calls 1 sh K M C at_ _ _ w ?_
 unfold geom_First.f firstP
 rw [geom_right_f]
 by_cases h : GeoOk sh K M C
 ·rw [if_pos h, decide_eq_true h]
  simp only [Option.bind_some, ↓reduceIte]
  have g := h
  obtain ⟨g1, g2, _, _, _, _, g3, g4, _⟩ := g
  by_cases a : at_ < 0
  ·rw [if_pos a, if_neg (by omega)]
  by_cases b : at_ ≥ C
  ·rw [if_neg a, if_pos b, if_neg (by omega)]
  rw [if_neg a, if_neg b, if_pos g1, shl_is at_ sh g1 g2 (by omega) (by omega), if_pos (by omega), nS_int]
 ·rw [if_neg h, decide_eq_false h]; rfl
def fillG (n : Nat) (s : ByteArray) : ByteArray := strOfNums (bytesOf s ++ List.replicate (n - s.size) 0)
theorem fillG_size (n : Nat) (s : ByteArray) (h : s.size ≤ n) : (fillG n s).size = n := by
 rw [fillG, strOfNums_size, List.length_append, bytesOf_length, List.length_replicate]; omega
def fillP (sh K M C : Int) (s : ByteArray) : ByteArray × Int := if GeoOk sh K M C then (if s.size ≤ 512 * nS sh then (fillG (512 * nS sh) s, (0 : Int)) else (⟨#[]⟩, (7 : Int))) else (⟨#[]⟩, (2 : Int))
theorem info5P : (Tryd.prog.info? 5).map (fun i => (i.zero, i.size, i.bytes)) = some (some (.int .u8 0), 1, 1) := by kernel_rfl
def fillC (N : Nat) (s : ByteArray) : Array Value := ((bytesOf s ++ List.replicate (N - s.size) 0).map (Value.int .u8)).toArray
theorem fill_run (W : World) (N : Nat) (s : ByteArray) (hN : N ≤ 65536) (hs : s.size ≤ N) :
  (Instr.makeSlice 95 (.int .i64 N) (.int .i64 N)).run Tryd.prog W = .ok (.slice (some ⟨W.heap.size, 0, none⟩) N N) (W.alloc (.cells (Array.replicate N (Value.int .u8 0)) 5)) ∧
  (Builtin.copy_ #[95, 9] 3 #[.slice (some ⟨W.heap.size, 0, none⟩) N N, .string s]).run Tryd.prog (W.alloc (.cells (Array.replicate N (Value.int .u8 0)) 5)) = .ok (goInt s.size) (W.alloc (.cells (fillC N s) 5)) ∧
  (convert 95 9 (.slice (some ⟨W.heap.size, 0, none⟩) N N)).run Tryd.prog (W.alloc (.cells (fillC N s) 5)) = .ok (.string (fillG N s)) (W.alloc (.cells (fillC N s) 5)) := by
 unfold fillC
 obtain ⟨i, hi, hz⟩ := Option.map_eq_some_iff.1 info5P
 simp only [Prod.mk.injEq] at hz
 obtain ⟨hz0, hz1, hz2⟩ := hz
 have hr := run_make (P := Tryd.prog) W 95 5 i _ Tryd.underlying95 hi hz0 .i64 .i64 N N (by omega) (Int.le_refl _) (by rw [hz2]; omega) (by omega)
 simp only [Int.toNat_natCast, hz1, Nat.mul_one] at hr
 have hm : madeCells (Value.int .u8 0).cells N = (List.replicate N (Value.int .u8 0)).toArray := by
  apply Array.ext'
  simp [madeCells, Value.cells, Nat.mod_one]
  rw [List.map_const', List.length_range]
 rw [hm] at hr
 have hn := World.alloc_heap_new W (.cells (List.replicate N (Value.int .u8 0)).toArray 5)
 have hc := Lib.run_copy_row_string (P := Tryd.prog) (W.alloc (.cells (List.replicate N (Value.int .u8 0)).toArray 5)) 95 9 3 5 W.heap.size 0 N N s _ 5 Tryd.underlying95 (by kernel_rfl) hn hs (by simp; omega)
 rw [World.setRow_alloc_new] at hc
 have hl : (((List.replicate N (Value.int .u8 0)).toArray.toList.take 0 ++ Lib.byteCells s.data.toList ++ (List.replicate N (Value.int .u8 0)).toArray.toList.drop (0 + s.size))).toArray = ((bytesOf s ++ List.replicate (N - s.size) 0).map (Value.int .u8)).toArray := by
  refine congrArg List.toArray ?_
  rw [List.take_zero, List.nil_append, Nat.zero_add, List.map_append, List.map_replicate, List.drop_replicate, bytesOf, List.map_map]
  rfl
 rw [hl] at hc
 rw [List.toArray_replicate] at hr hc
 refine ⟨hr, hc, ?_⟩
 have hn2 := World.alloc_heap_new W (.cells ((bytesOf s ++ List.replicate (N - s.size) 0).map (Value.int .u8)).toArray 5)
 exact run_convert_bytes_arg (P := Tryd.prog) _ 95 5 Tryd.underlying95 (by kernel_rfl) W.heap.size 0 N N (bytesOf s ++ List.replicate (N - s.size) 0) (by rw [List.length_append, bytesOf_length, List.length_replicate]; omega) (fun j hj => by
  have hl2 : j < (bytesOf s ++ List.replicate (N - s.size) 0).length := by rw [List.length_append, bytesOf_length, List.length_replicate]; omega
  simp only [World.cell?, hn2, Nat.zero_add]
  rw [List.getElem?_toArray, List.getElem?_map, List.getElem?_eq_getElem hl2, List.getD_eq_getElem?_getD, List.getElem?_eq_getElem hl2]
  rfl) 9 Tryd.underlying9
set_option maxRecDepth 100000 in
set_option maxHeartbeats 4000000 in
theorem cluster_Fill_any (sh K M C : Int) (s : ByteArray) (w : World) (hL : s.size ≤ 9223372036854775807) :
  Calls Tryd.prog 117 #[geoV sh K M C, .string s] w fun e w' => e = .returned (.tuple #[.string (fillP sh K M C s).1, .int .i64 (fillP sh K M C s).2]) ∧ Below w.heap.size w w' := by
 have hu23 := Tryd.underlying23
 unfold geoV
 by_cases hg : GeoOk sh K M C
 ·obtain ⟨N, hN⟩ : ∃ N, N = 512 * nS sh := ⟨_, rfl⟩
  have hN1 : 1 ≤ N := by have := nS_pos sh; omega
  have hN2 : N ≤ 65536 := by have := nS_le hg.2.1; omega
  have hS : sizeP sh K M C = (N : Int) := by rw [sizeP, if_pos hg]; omega
  by_cases hl : s.size ≤ N
  ·rw [fillP, if_pos hg, if_pos (by omega), ← hN]
   clear hN
   go_enter Tryd.func117, Tryd.ntmps117
   go_wp2_with (go_at_call 73; refine (geom_Size_any sh K M C _).mono ?_; rintro e w1 ⟨rfl, hb1⟩; rw [hS]; have hF := fill_run w1 N s hN2 hl; obtain ⟨hF1, hF2, hF3⟩ := hF)
   go_ret2
   exact ⟨rfl, ((((Below.refl _ _).alloc (Nat.le_refl _) _).trans (hb1.mono (by simp))).alloc (by have := hb1.size; simp at this; omega) _)⟩
  ·rw [fillP, if_pos hg, if_neg (by omega)]
   clear hN
   go_enter Tryd.func117, Tryd.ntmps117
   go_wp2_with (go_at_call 73; refine (geom_Size_any sh K M C _).mono ?_; rintro e w1 ⟨rfl, hb1⟩; rw [hS])
   go_ret2
   exact ⟨rfl, ((Below.refl _ _).alloc (Nat.le_refl _) _).trans (hb1.mono (by simp))⟩
 ·rw [fillP, if_neg hg]
  have hS : sizeP sh K M C = 0 := if_neg hg
  go_enter Tryd.func117, Tryd.ntmps117
  go_wp2_with (go_at_call 73; refine (geom_Size_any sh K M C _).mono ?_; rintro e w1 ⟨rfl, hb1⟩; rw [hS])
  go_ret2
  exact ⟨rfl, ((Below.refl _ _).alloc (Nat.le_refl _) _).trans (hb1.mono (by simp))⟩
theorem cluster_parts_any (sh K M C : Int) (w : World) : Calls Tryd.prog 120 #[geoV sh K M C] w fun e w' => e = .returned (.func (.func 141) #[] #[.pointer (some ⟨w.heap.size, 0, none⟩)]) ∧ w' = w.alloc (.cells #[.int .i64 sh, .int .i64 K, .int .i64 M, .int .i64 C] 23) := by
 unfold geoV
 have hu23 := Tryd.underlying23
 go_enter Tryd.func120, Tryd.ntmps120
 go_wp2
 go_ret
 exact ⟨rfl, rfl⟩
def partL (n : Nat) : List Nat := List.range n
def partE (i : Nat) : Array Value := #[.int .i64 (i : Int), .int .i64 ((i : Int) * 512)]
def GeoAt (w : World) (b : Nat) (sh K M C : Int) : Prop := w.heap[b]? = some (.cells #[.int .i64 sh, .int .i64 K, .int .i64 M, .int .i64 C] 23 (0, 0))
theorem GeoAt.step {Z : Nat → Prop} {w w' : World} {b : Nat} {sh K M C : Int} (h : GeoAt w b sh K M C) (hs : Step Z w w') (hz : ¬ Z b) : GeoAt w' b sh K M C := hs.block h hz
set_option maxRecDepth 100000 in
set_option maxHeartbeats 2000000 in
theorem parts_seq (w : World) (Bx : Nat) (sh K M C : Int) (hg : GeoOk sh K M C) (hB : GeoAt w Bx sh K M C) :
  SeqO (fun r => r = Bx) (fun _ => False) Tryd.prog 141 #[.pointer (some ⟨Bx, 0, none⟩)] partE (partL (nS sh)) w := by
 intro l J Jx O W hW hO hJ hY h0
 replace hB := hW.block hB (by simp)
 have hBl := blk_lt hB
 have hnl := nS_le hg.2.1
 have hS : sizeP sh K M C = 512 * (nS sh : Int) := if_pos hg
 generalize nS sh = n at hnl hY hS ⊢
 refine callsIn_of_wp Tryd.func141 rfl trivial ?_ rfl
 simp only [Tryd.ntmps141, List.size_toArray, List.length_cons, List.length_nil, Nat.reduceAdd, Nat.reduceSub, Array.replicate_succ, Array.replicate_zero, List.push_toArray, List.append_toArray, List.nil_append, List.cons_append]
 have hu23 := Tryd.underlying23
 have z0 : W.cell? ⟨Bx, 0, none⟩ = some (.int .i64 sh) := by rw [Lib.cell_of_heap hB]; rfl
 have z1 : W.cell? ⟨Bx, 1, none⟩ = some (.int .i64 K) := by rw [Lib.cell_of_heap hB]; rfl
 have z2 : W.cell? ⟨Bx, 2, none⟩ = some (.int .i64 M) := by rw [Lib.cell_of_heap hB]; rfl
 have z3 : W.cell? ⟨Bx, 3, none⟩ = some (.int .i64 C) := by rw [Lib.cell_of_heap hB]; rfl
 gi_wp2
 refine ⟨trivial, ?_⟩
 gi_at_call 73
 refine (callsIn_wide.2 (geom_Size_any sh K M C _)).mono ?_
 rintro e w1 ⟨rfl, hb1⟩
 rw [hS]
 gi_wp2
 have hs0 : Step (fun _ => False) W w1 := Step.of_below hb1
 have hB1 : GeoAt w1 Bx sh K M C := hs0.block hB (fun h => h)
 have hJ1 := hJ.step O [] W w1 _ h0 hs0 (fun _ h => h.elim)
 have hz1 := hb1.size
 gi_loopw [7] (fun t wr => ∃ k : Nat, k ≤ n ∧ t = .int .i64 k ∧ GeoAt wr Bx sh K M C ∧ ∃ O', J O' ((partL n).take k) wr ∧ (∀ q, O' q → q ≠ Bx)) (fun t _ => n - (intOf t).toNat)
 case atStart => exact ⟨0, Nat.zero_le _, rfl, hB1, O, hJ1, fun q hq => hO q hq⟩
 case round =>
  obtain ⟨k, hk, rfl, hBr, O1, hJr, hO1⟩ := hrel
  by_cases hkl : k < n
  ·have hpre : (partL n).take k ++ [k] <+: partL n := by
    have h1 : (partL n)[k]'(by simpa [partL] using hkl) = k := by simp [partL]
    have h2 := List.take_succ_eq_append_getElem (l := partL n) (i := k) (by simpa [partL] using hkl)
    rw [h1] at h2
    rw [← h2]; exact List.take_prefix _ _
   have htk : (partL n).take (k + 1) = (partL n).take k ++ [k] := by
    have h1 : (partL n)[k]'(by simpa [partL] using hkl) = k := by simp [partL]
    have h2 := List.take_succ_eq_append_getElem (l := partL n) (i := k) (by simpa [partL] using hkl)
    rwa [h1] at h2
   obtain ⟨fn, tmps, assign, body, hy, hR⟩ := hY O1 _ _ wr hJr hpre
   dsimp only [partE] at hy
   gi_wp2
   refine hR.mono ?_
   rintro e W' ⟨O3, hO3, hs3, ⟨rfl, hJ3⟩ | ⟨rfl, hJ3⟩⟩
   ·gi_wp2
    go_roundw
    case rel => exact ⟨k + 1, by omega, by simp, hBr.step hs3 (fun h => hO1 _ h rfl), O3, by rw [htk]; exact hJ3, fun q hq => (hO3 q hq).elim (hO1 q) (fun h => by have := blk_lt hBr; omega)⟩
    case measure => simp [intOf]; omega
   ·gi_wp2
    refine bodyPost_ret (results_none rfl _ _ _) rfl ?_
    exact ⟨⟨_, rfl⟩, O3, .inr ⟨_, hpre, hJ3⟩⟩
  ·have ek : k = n := by omega
   gi_wp2
   go_end0
   exact ⟨⟨_, rfl⟩, O1, .inl (by rw [List.take_of_length_le (by simp [partL]; omega)] at hJr; exact hJr)⟩
theorem fourA (w : World) (c0 c1 c2 c3 : Array Value) (t0 t1 t2 t3 : TypeId) : ∃ W, W = (((w.alloc (.cells c0 t0)).alloc (.cells c1 t1)).alloc (.cells c2 t2)).alloc (.cells c3 t3) ∧ Step (fun _ => False) w W ∧ W.heap.size = w.heap.size + 4 ∧
  W.heap[w.heap.size]? = some (.cells c0 t0 (0, 0)) ∧ W.heap[w.heap.size + 1]? = some (.cells c1 t1 (0, 0)) ∧ W.heap[w.heap.size + 1 + 1]? = some (.cells c2 t2 (0, 0)) ∧ W.heap[w.heap.size + 1 + 1 + 1]? = some (.cells c3 t3 (0, 0)) := by
 have n0 := World.alloc_heap_new w (.cells c0 t0)
 have n1 := World.alloc_heap_new (w.alloc (.cells c0 t0)) (.cells c1 t1)
 have n2 := World.alloc_heap_new ((w.alloc (.cells c0 t0)).alloc (.cells c1 t1)) (.cells c2 t2)
 have n3 := World.alloc_heap_new (((w.alloc (.cells c0 t0)).alloc (.cells c1 t1)).alloc (.cells c2 t2)) (.cells c3 t3)
 simp only [World.size_alloc] at n0 n1 n2 n3
 have s3 := Step.alloc (fun _ => False) (((w.alloc (.cells c0 t0)).alloc (.cells c1 t1)).alloc (.cells c2 t2)) (.cells c3 t3)
 have s2 := Step.alloc (fun _ => False) ((w.alloc (.cells c0 t0)).alloc (.cells c1 t1)) (.cells c2 t2)
 have s1 := Step.alloc (fun _ => False) (w.alloc (.cells c0 t0)) (.cells c1 t1)
 have s0 := Step.alloc (fun _ => False) w (.cells c0 t0)
 exact ⟨_, rfl, step2 s0 (step2 s1 (step2 s2 s3)), by simp, (step2 s1 (step2 s2 s3)).block n0 (fun h => h), (step2 s2 s3).block n1 (fun h => h), s3.block n2 (fun h => h), n3⟩
theorem run_slice_lh (w : World) (s : ByteArray) (l h : Int) (h0 : 0 ≤ l) (h1 : l ≤ h) (h2 : h ≤ s.size) : (Instr.slice 9 (.string s) (some (.int .i64 l)) (some (.int .i64 h)) none).run Tryd.prog w = .ok (.string (s.extract l.toNat h.toNat)) w := by
 have ht := Tryd.underlying9
 have eh : (h.toNat : Int) = h := Int.toNat_of_nonneg (by omega)
 simp [Instr.slice, run_underlying ht, Instr.sliceBounds, run_sliceBound, sliced, *, eh, (by omega : 0 ≤ l), (by omega : 0 ≤ h)]
theorem results_c1 {P : Program} {fn : Func} {p : Tmp} {ty : TypeId} (h : fn.results = #[.cell p ty]) (tmps : Array Value) (w : World) (ad : Addr) {v : Value} (hp : tmps.getD p undef = .pointer (some ad)) (hv : (loadVar ty ad).run P w = .ok v w) : (results fn tmps).run P w = .ok v w := by
 have hp' : tmps[p]?.getD undef = .pointer (some ad) := by simpa using hp
 simp [results, h, hp', asAddr, hv]
theorem results_c2 {P : Program} {fn : Func} {p q : Tmp} {ty tq : TypeId} (h : fn.results = #[.cell p ty, .cell q tq]) (tmps : Array Value) (w : World) (ad bd : Addr) {v u : Value} (hp : tmps.getD p undef = .pointer (some ad)) (hv : (loadVar ty ad).run P w = .ok v w) (hq : tmps.getD q undef = .pointer (some bd)) (hu : (loadVar tq bd).run P w = .ok u w) : (results fn tmps).run P w = .ok (.tuple #[v, u]) w := by
 have hp' : tmps[p]?.getD undef = .pointer (some ad) := by simpa using hp
 have hq' : tmps[q]?.getD undef = .pointer (some bd) := by simpa using hq
 simp [results, h, hp', hq', asAddr, hv, hu]
theorem loadVar30 (w : World) (ad : Addr) (n : Int) (h : w.cell? ad = some (.int .i64 n)) : (loadVar 30 ad).run Tryd.prog w = .ok (.int .i64 n) w := by
 have u := Tryd.underlying30
 go_simp
theorem loadVar9 (w : World) (ad : Addr) (s : ByteArray) (h : w.cell? ad = some (.string s)) : (loadVar 9 ad).run Tryd.prog w = .ok (.string s) w := by
 have u := Tryd.underlying9
 go_simp
def onlyN (R : Act → World → Prop) : Exit → Act → World → Prop
 | .normal, a, w => R a w
 | _, _, _ => False
theorem region_only {c : Code} {n : Nat} {Q : Exit → Act → World → Prop} {a : Act} {w : World} (h : c.wp Tryd.prog (onlyN (Q .normal)) a w) : c.wpIn Fence.wide n Tryd.prog Q a w := by
 refine wpIn_wide.2 (Code.wp_mono ?_ h)
 intro e a w h
 cases e <;> first | exact h | exact h.elim
theorem part_pre {n x : Nat} {pre : List Nat} (h : (pre ++ [x]) <+: partL n) : x = pre.length ∧ x < n := by
 obtain ⟨t, ht⟩ := h
 have h1 : (partL n)[pre.length]? = some x := by rw [← ht]; simp
 obtain ⟨hlt, he⟩ := List.getElem?_eq_some_iff.1 h1
 simp [partL] at hlt he
 omega
theorem wpListIn_append_str_at {F : Fence} {n : Nat} {w : World} {ops : Array Oper} {rest : List Oper} {o : Oper} {a : Act} {Q : Exit → Act → World → Prop} (hgd : o.guard = none) (sl x : Operand) (ho : o.op = .call { callee := .builtin .append, args := #[sl, x], argTypes := #[95, 9] }) (hty : o.type = 95) (v : Value) (s : ByteArray) (hs : a.eval sl = v) (hx : a.eval x = .string s)
  (v' : Value) (w' : World) (hrun : (Builtin.append_ #[95, 9] 95 #[v, .string s]).run Tryd.prog w = .ok v' w') (h : wpListIn F n Tryd.prog ops Q rest (a.put o.dst v') w') : wpListIn F n Tryd.prog ops Q (o :: rest) a w := by
 refine wpListIn_plain hgd fun K hK' => ?_
 unfold Oper.wpIn
 refine ⟨?_, ?_⟩
 ·simp [Oper.about, ho, resolve, Target.leads, Sem.run_pure]
 ·rw [Oper.semAt_plain F _ _ (by rw [ho]; intro c hc'; cases hc')]
  simp [execOp, ho, hty, resolve, invoke, builtin, hs, hx, hrun, Result.andThen]
  exact hK' _ _ h
def rdV (xs : List ByteArray) (F : FL) (at_ : Int) : ByteArray := (getL at_ F).getD (xs.getD at_.toNat ⟨#[]⟩)
def rawL (xs : List ByteArray) (F : FL) (f0 : Int) : Nat → List UInt8
 | 0 => []
 | k + 1 => rawL xs F f0 k ++ (rdV xs F (f0 + (k : Int))).data.toList
theorem conv_rowC {W : World} {B : Nat} {v : Value} {l : List UInt8} (h : W.ownsRowF B 5 1 v l.length (Lib.byteCells l)) (hl : 0 < l.length) : ∃ g cap, v = .slice (some ⟨g, 0, none⟩) l.length cap ∧ (convert 95 9 (.slice (some ⟨g, 0, none⟩) l.length cap)).run Tryd.prog W = .ok (.string ⟨l.toArray⟩) W := by
 rcases h.2 with ⟨_, h0⟩ | ⟨g, cap, cur, fz, rfl, hb, hg, _, hn, _, hcs, ht⟩
 ·omega
 ·refine ⟨g, cap, rfl, ?_⟩
  have := run_convert_bytes_arg (P := Tryd.prog) W 95 5 Tryd.underlying95 (by kernel_rfl) g 0 l.length cap (l.map fun b => (b.toNat : Int)) (by simp) (fun j hj => by
   have h1 : (cur.toList.take (l.length * 1))[j]? = some (.int .u8 (l[j].toNat : Int)) := by
    rw [ht]
    simp [Lib.byteCells, hj]
   rw [Nat.mul_one, List.getElem?_take_of_lt hj, Array.getElem?_toList] at h1
   simp only [World.cell?, hg, Nat.zero_add]
   rw [h1]
   simp [List.getD, hj]) 9 Tryd.underlying9
  have e : strOfNums (l.map fun b => (b.toNat : Int)) = ⟨l.toArray⟩ := by
   unfold strOfNums
   rw [List.map_map]
   have : ((fun n : Int => UInt8.ofNat n.toNat) ∘ fun b : UInt8 => (b.toNat : Int)) = id := by funext b; simp
   rw [this, List.map_id]
  rw [e] at this
  exact this
theorem two (w : World) (c0 c1 : Array Value) (t0 t1 : TypeId) : ∃ W, W = (w.alloc (.cells c0 t0)).alloc (.cells c1 t1) ∧ Step (fun _ => False) w W ∧ W.heap.size = w.heap.size + 2 ∧
  W.heap[w.heap.size]? = some (.cells c0 t0 (0, 0)) ∧ W.heap[w.heap.size + 1]? = some (.cells c1 t1 (0, 0)) := by
 have n0 := World.alloc_heap_new w (.cells c0 t0)
 have n1 := World.alloc_heap_new (w.alloc (.cells c0 t0)) (.cells c1 t1)
 simp only [World.size_alloc] at n0 n1
 have s1 := Step.alloc (fun _ => False) (w.alloc (.cells c0 t0)) (.cells c1 t1)
 have s0 := Step.alloc (fun _ => False) w (.cells c0 t0)
 exact ⟨_, rfl, step2 s0 s1, by simp, s1.block n0 (fun h => h), n1⟩
structure RawI (w Wc : World) (i : DevIds) (xs : List ByteArray) (F : FL) (nw : Int) (b p q : Nat) (f0 : Int) (v : Value) (k : Nat) : Prop where
 dev : DevAt Wc i xs F [] false (-1) nw
 h0 : Wc.heap[b]? = some (.cells #[.pointer (some ⟨i.d, 0, none⟩)] 38 (0, 0))
 h2 : Wc.heap[b + 1 + 1]? = some (.cells #[.string ⟨#[]⟩] 9 (0, 0))
 h3 : Wc.heap[b + 1 + 1 + 1]? = some (.cells #[.int .i64 0] 30 (0, 0))
 hp : Wc.heap[p]? = some (.cells #[.int .i64 f0] 3 (0, 0))
 hq : Wc.heap[q]? = some (.cells #[v] 95 (0, 0))
 row : Wc.ownsRowF (q + 1) 5 1 v (rawL xs F f0 k).length (Lib.byteCells (rawL xs F f0 k))
 st : Step (fun _ => False) w Wc
theorem RawI.step {w Wc W' : World} {i : DevIds} {xs : List ByteArray} {F : FL} {nw : Int} {b p q : Nat} {f0 : Int} {v : Value} {k : Nat} {S : Nat → Prop} (h : RawI w Wc i xs F nw b p q f0 v k) (hS : Step S Wc W') (hn : ∀ j, j < q → ¬ S j) (hq : ¬ S q) (hv : ∀ g, v.ownBlock = some g → ¬ S g) (hi : ∀ j, i.In j → j < q) (hb : b + 1 + 1 + 1 < p) (hp : p < q) (hw : w.heap.size ≤ q) : RawI w W' i xs F nw b p q f0 v k :=
 ⟨h.dev.step hS (fun j hj => hn j (hi j hj)), hS.block h.h0 (hn _ (by omega)), hS.block h.h2 (hn _ (by omega)), hS.block h.h3 (hn _ (by omega)), hS.block h.hp (hn _ hp), hS.block h.hq hq, ownsRowF_step hS h.row hv, h.st.trans hS (fun _ h => h) (fun j hj => Or.inr (by
  rcases Nat.lt_or_ge j q with h1 | h1
  ·exact absurd hj (hn j h1)
  ·omega))⟩
structure WrS where
 F : FL
 off : Bool
 fuse : Int
 nw : Int
 e : Int
def wr1 (n : Nat) (f0 : Int) (s : ByteArray) (k : Nat) (r : WrS) : WrS :=
 let q := writeP n r.F r.off r.fuse r.nw (f0 + (k : Int)) (s.extract (512 * k) (512 * k + 512))
 ⟨q.1, q.2.1, q.2.2.1, q.2.2.2.1, q.2.2.2.2⟩
def wrK (n : Nat) (f0 : Int) (s : ByteArray) (r : WrS) : Nat → WrS
 | 0 => r
 | k + 1 => if (wrK n f0 s r k).e = 0 then wr1 n f0 s k (wrK n f0 s r k) else wrK n f0 s r k
theorem wrK_stop {n : Nat} {f0 : Int} {s : ByteArray} {r : WrS} {k : Nat} (h : (wrK n f0 s r k).e ≠ 0) : ∀ m, k ≤ m → wrK n f0 s r m = wrK n f0 s r k := by
 intro m hm
 induction m with
 | zero =>
  have : k = 0 := by omega
  rw [this]
 | succ m ih =>
  by_cases e : k = m + 1
  ·rw [e]
  ·rw [wrK, ih (by omega), if_neg h]
set_option maxRecDepth 100000 in
set_option maxHeartbeats 4000000 in
theorem cluster_Write_gen (w : World) (i : DevIds) (xs : List ByteArray) (F : FL) (B : BL) (off : Bool) (fuse nw : Int) (sh gk gm C at_ : Int) (s : ByteArray) (h : DevAt w i xs F B off fuse nw) (hg : GeoOk sh gk gm C) (ha : 0 ≤ at_) (hb : at_ < C) (hs : s.size = 512 * nS sh) (R : WrS) (hR : R = wrK xs.length (at_ * (nS sh : Int)) s ⟨F, off, fuse, nw, 0⟩ (nS sh)) :
  Calls Tryd.prog 81 #[.pointer (some ⟨i.d, 0, none⟩), geoV sh gk gm C, .int .i64 at_, .string s] w fun e w' => e = .returned (.int .i64 R.e) ∧ DevAt w' i xs R.F B R.off R.fuse R.nw ∧ Step i.In w w' := by
 unfold geoV
 have hu23 := Tryd.underlying23
 have hF : firstP sh gk gm C at_ = (at_ * (nS sh : Int), 0) := by rw [firstP, if_pos hg, if_pos ⟨ha, hb⟩]
 have hS : sizeP sh gk gm C = 512 * (nS sh : Int) := if_pos hg
 refine (callsIn_wide (n := 4)).1 ?_
 refine callsIn_of_wp_marks Tryd.func81 rfl trivial ?_ rfl
 simp only [Tryd.ntmps81, List.size_toArray, List.length_cons, List.length_nil, Nat.reduceAdd, Nat.reduceSub, Array.replicate_succ, Array.replicate_zero, List.push_toArray, List.append_toArray, List.nil_append, List.cons_append]
 obtain ⟨W0, hW0, hs0, hz0, k0, k1, k2, k3⟩ := fourA w #[.pointer (some ⟨i.d, 0, none⟩)] #[.int .i64 sh, .int .i64 gk, .int .i64 gm, .int .i64 C] #[.string s] #[.int .i64 0] 38 23 9 30
 gi_wp2
 refine ⟨trivial, ?_⟩
 gi_at_call 119
 refine (callsIn_wide.2 (geom_First_any sh gk gm C at_ _)).mono ?_
 rintro e w1 ⟨rfl, hb1⟩
 rw [hF]
 dsimp only
 rw [← hW0] at hb1
 have hs1 := step2 hs0 (Step.of_below (S := fun _ => False) hb1)
 have q0 := (Step.of_below (S := fun _ => False) hb1).block k0 (fun h => h)
 have q1 := (Step.of_below (S := fun _ => False) hb1).block k1 (fun h => h)
 have q2 := (Step.of_below (S := fun _ => False) hb1).block k2 (fun h => h)
 have q3 := (Step.of_below (S := fun _ => False) hb1).block k3 (fun h => h)
 have hz1 := hb1.size
 rw [hz0] at hz1
 clear hW0 hb1 k0 k1 k2 k3 hs0 hz0
 obtain ⟨b, hbe⟩ : ∃ b, b = w.heap.size := ⟨_, rfl⟩
 have hD1 := h.step hs1 (fun _ _ h => h)
 have hlt := h.lt
 have hbw : w.heap.size ≤ b := by omega
 rw [← hbe] at q0 q1 q2 q3 hz1 hlt ⊢
 clear hbe
 have hn1 := nS_pos sh
 have hn2 := nS_le hg.2.1
 have hln := h.ok.2.1
 have hf1 : 0 ≤ at_ * (nS sh : Int) := Int.mul_nonneg ha (Int.natCast_nonneg _)
 have hf3 : at_ * (nS sh : Int) ≤ 524288 := by
  have h1 := Int.mul_le_mul_of_nonneg_right (show at_ ≤ 4096 by have := hg.2.2.2.2.2.2.2.1; omega) (Int.natCast_nonneg (nS sh))
  have h2 := Int.mul_le_mul_of_nonneg_left (show (nS sh : Int) ≤ 128 by omega) (show (0 : Int) ≤ 4096 by omega)
  omega
 generalize hf0 : at_ * (nS sh : Int) = f0 at *
 gi_wp2
 have hs2 := Step.alloc (fun _ => False) w1 (.cells #[.int .i64 f0] 3)
 have r0 := hs2.block q0 (fun h => h)
 have r1 := hs2.block q1 (fun h => h)
 have r2 := hs2.block q2 (fun h => h)
 have r3 := hs2.block q3 (fun h => h)
 have r4 := World.alloc_heap_new w1 (.cells #[.int .i64 f0] 3)
 have hD2 := hD1.step hs2 (fun _ _ h => h)
 have hs2' := step2 hs1 hs2
 have hz2 : (w1.alloc (.cells #[.int .i64 f0] 3)).heap.size = w1.heap.size + 1 := by simp
 obtain ⟨p, hpe⟩ : ∃ p, p = w1.heap.size := ⟨_, rfl⟩
 rw [← hpe] at r4 hz1 hz2 ⊢
 generalize w1.alloc (.cells #[.int .i64 f0] 3) = W at *
 clear q0 q1 q2 q3 hs1 hs2 hD1 hpe
 have y2 : W.drew.cell? ⟨b + 1 + 1, 0, none⟩ = some (.string s) := by show W.cell? _ = _; rw [Lib.cell_of_heap r2]; rfl
 have y10 : W.drew.cell? ⟨b + 1, 0, none⟩ = some (.int .i64 sh) := by show W.cell? _ = _; rw [Lib.cell_of_heap r1]; rfl
 have y11 : W.drew.cell? ⟨b + 1, 1, none⟩ = some (.int .i64 gk) := by show W.cell? _ = _; rw [Lib.cell_of_heap r1]; rfl
 have y12 : W.drew.cell? ⟨b + 1, 2, none⟩ = some (.int .i64 gm) := by show W.cell? _ = _; rw [Lib.cell_of_heap r1]; rfl
 have y13 : W.drew.cell? ⟨b + 1, 3, none⟩ = some (.int .i64 C) := by show W.cell? _ = _; rw [Lib.cell_of_heap r1]; rfl
 have hSize : ∀ w, Calls Tryd.prog 73 #[.agg #[.int .i64 sh, .int .i64 gk, .int .i64 gm, .int .i64 C]] w fun e w' => e = .returned (.int .i64 (512 * (nS sh : Int))) ∧ Below w.heap.size w w' := by
  intro w
  have := geom_Size_any sh gk gm C w
  rwa [hS] at this
 have hne : ((s.size : Int) != 512 * (nS sh : Int)) = false := by rw [hs]; simp
 refine region_only ?_
 refine start_ (n := 6) (S := fun w' => w'.cell? ⟨b + 1 + 1, 0, none⟩ = some (.string s) ∧ w'.cell? ⟨b + 1, 0, none⟩ = some (.int .i64 sh) ∧ w'.cell? ⟨b + 1, 1, none⟩ = some (.int .i64 gk) ∧ w'.cell? ⟨b + 1, 2, none⟩ = some (.int .i64 gm) ∧ w'.cell? ⟨b + 1, 3, none⟩ = some (.int .i64 C)) (ds := []) #[G,G,G,G,G,G] (by kernel_rfl) rfl rfl ⟨y2, y10, y11, y12, y13⟩ (fun hHeld => ?_)
 refine tk_ 0 25 ?_ #[Y,G,G,G,G,G] rfl rfl (by kernel_rfl) (fun _ _ _ h => h) (Or.inl ⟨by rfl, ?_⟩) hHeld ?_ ?_ ?_;rotate_left
 ·rintro w' ⟨s0, s1, s2, s3, s4⟩
  go_simp
  with_reducible rfl
 rotate_left;·simp only [Act.put, sA_];rfl
 refine pu_ 1 26 ?_ #[Y,Y,G,G,G,G] rfl rfl (by kernel_rfl) (fun _ _ _ h => h) (Or.inl ⟨by rfl, ?_⟩) ?_ ?_ ?_;rotate_left
 ·intro w';go_simp;with_reducible rfl
 rotate_left;·simp only [Act.put, sA_];rfl
 refine tk_ 2 27 ?_ #[Y,Y,Y,G,G,G] rfl rfl (by kernel_rfl) (fun _ _ _ h => h) (Or.inl ⟨by rfl, ?_⟩) hHeld ?_ ?_ ?_;rotate_left
 ·rintro w' ⟨s0, s1, s2, s3, s4⟩
  go_simp
  with_reducible rfl
 rotate_left;·simp only [Act.put, sA_];rfl
 refine one_ (i := 3) (N := some 28) #[Y,Y,Y,Y,G,G] rfl rfl (by kernel_rfl) (by decide) (fun K hK => ?_)
 refine goes_ Tryd.func73 (by kernel_rfl) rfl #[.agg #[.int .i64 sh, .int .i64 gk, .int .i64 gm, .int .i64 C]] (by rfl) rfl rfl (by simp only [List.map_toArray, List.map_cons, List.map_nil]; rfl) ?_
 with_reducible refine (hSize _).mono ?_
 rintro e w3 ⟨rfl, hb3⟩
 refine ⟨_, rfl, ?_⟩
 refine hK.out _ _ ⟨pw_cell_below hb3 hHeld.1, pw_cell_below hb3 hHeld.2.1, pw_cell_below hb3 hHeld.2.2.1, pw_cell_below hb3 hHeld.2.2.2.1, pw_cell_below hb3 hHeld.2.2.2.2⟩ (fun hHeld => ?_)
 clear hK K
 refine norm_ (a' := ?_) ?_ ?_;rotate_left
 ·show Act.put _ (some 28) _ = _
  simp only [Act.put, sA_]
  rfl
 refine pu_ 4 29 ?_ #[Y,Y,Y,Y,Y,G] rfl rfl (by kernel_rfl) (fun _ _ _ h => h) (Or.inl ⟨by rfl, ?_⟩) ?_ ?_ ?_;rotate_left
 ·intro w';go_simp;with_reducible rfl
 rotate_left;·simp only [Act.put, sA_];rfl
 refine pu_ 5 24 ?_ #[Y,Y,Y,Y,Y,Y] rfl rfl (by kernel_rfl) (fun _ _ _ h => h) (Or.inl ⟨by rfl, ?_⟩) ?_ ?_ ?_;rotate_left
 ·intro w';go_simp;with_reducible rfl
 rotate_left;·simp only [Act.put, sA_];rfl
 refine done_ (by kernel_rfl) ?_

 dsimp only [onlyN]
 gi_wp2
 have hsW : Step (fun _ => False) W w3 := step2 ⟨pw_below_drewN (Below.refl _ _) 1, fun _ _ _ => rfl⟩ (Step.of_below hb3)
 refine ⟨trivial, ?_⟩
 gi_at_call 120
 refine (callsIn_wide.2 (cluster_parts_any sh gk gm C _)).mono ?_
 rintro e w4 ⟨rfl, rfl⟩
 have hs3 := step2 hsW (Step.alloc (fun _ => False) w3 (.cells #[.int .i64 sh, .int .i64 gk, .int .i64 gm, .int .i64 C] 23))
 have hgeo : GeoAt (w3.alloc (.cells #[.int .i64 sh, .int .i64 gk, .int .i64 gm, .int .i64 C] 23)) w3.heap.size sh gk gm C := World.alloc_heap_new w3 _
 have u0 := hs3.block r0 (fun h => h)
 have u2 := hs3.block r2 (fun h => h)
 have u3 := hs3.block r3 (fun h => h)
 have u4 := hs3.block r4 (fun h => h)
 have hD3 := hD2.step hs3 (fun _ _ h => h)
 have hs4 := step2 hs2' hs3
 have hz3 := hsW.size
 have hz4 : (w3.alloc (.cells #[.int .i64 sh, .int .i64 gk, .int .i64 gm, .int .i64 C] 23)).heap.size = w3.heap.size + 1 := by simp
 gi_wp2
 obtain ⟨Gq, hG⟩ : ∃ Gq, Gq = w3.heap.size := ⟨_, rfl⟩
 rw [← hG] at hgeo hz4 hz3 ⊢
 generalize w3.alloc (.cells #[.int .i64 sh, .int .i64 gk, .int .i64 gm, .int .i64 C] 23) = V at *
 clear hG
 refine wpIn_rangeFunc_O (gf := 141) (lb := #[.pointer (some ⟨Gq, 0, none⟩)]) rfl (enters_of Tryd.func141 (by kernel_rfl) rfl) (parts_seq V Gq sh gk gm C hg hgeo) (fun r hr => by omega) (fun _ => rfl)
  (fun O pre Wc => (∀ k, O k ↔ i.In k ∨ k = b + 1 + 1 + 1) ∧ (wrK xs.length f0 s ⟨F, off, fuse, nw, 0⟩ pre.length).e = 0 ∧ DevAt Wc i xs (wrK xs.length f0 s ⟨F, off, fuse, nw, 0⟩ pre.length).F B (wrK xs.length f0 s ⟨F, off, fuse, nw, 0⟩ pre.length).off (wrK xs.length f0 s ⟨F, off, fuse, nw, 0⟩ pre.length).fuse (wrK xs.length f0 s ⟨F, off, fuse, nw, 0⟩ pre.length).nw ∧ Wc.heap[b]? = some (.cells #[.pointer (some ⟨i.d, 0, none⟩)] 38 (0, 0)) ∧ Wc.heap[b + 1 + 1]? = some (.cells #[.string s] 9 (0, 0)) ∧ Wc.heap[b + 1 + 1 + 1]? = some (.cells #[.int .i64 0] 30 (0, 0)) ∧ Wc.heap[p]? = some (.cells #[.int .i64 f0] 3 (0, 0)) ∧ Step i.In w Wc)
  (fun c O pre Wc => c = .ret ∧ (∀ k, O k ↔ i.In k ∨ k = b + 1 + 1 + 1) ∧ (wrK xs.length f0 s ⟨F, off, fuse, nw, 0⟩ pre.length).e ≠ 0 ∧ pre.length ≤ nS sh ∧ DevAt Wc i xs (wrK xs.length f0 s ⟨F, off, fuse, nw, 0⟩ pre.length).F B (wrK xs.length f0 s ⟨F, off, fuse, nw, 0⟩ pre.length).off (wrK xs.length f0 s ⟨F, off, fuse, nw, 0⟩ pre.length).fuse (wrK xs.length f0 s ⟨F, off, fuse, nw, 0⟩ pre.length).nw ∧ Wc.heap[b + 1 + 1 + 1]? = some (.cells #[.int .i64 (wrK xs.length f0 s ⟨F, off, fuse, nw, 0⟩ pre.length).e] 30 (0, 0)) ∧ Step i.In w Wc)
  ⟨?lt, ?step⟩ (fun _ => ⟨?ltx, ?stepx⟩) (fun k => i.In k ∨ k = b + 1 + 1 + 1) (fun k hk hz => by rcases hk with hk | hk; have := hlt k hk; omega; omega) ⟨fun _ => Iff.rfl, rfl, hD3, u0, u2, u3, u4, hs4.mono (fun _ h => h.elim)⟩ ?round ?done ?stop
 case lt =>
  rintro O pre Wc ⟨h1, _, h2, _, _, h5, _⟩ k hk
  rcases (h1 k).1 hk with hk | rfl
  ·exact h2.lt k hk
  ·exact blk_lt h5
 case ltx =>
  rintro O pre Wc ⟨_, h1, _, _, h2, h5, _⟩ k hk
  rcases (h1 k).1 hk with hk | rfl
  ·exact h2.lt k hk
  ·exact blk_lt h5
 case stepx =>
  rintro O pre Wc W' S ⟨h0, h1, he, hl, h2, h5, h7⟩ hS hs
  have hno : ∀ k, k < V.heap.size → ¬ S k := fun k hk h => (hs k h).2.elim (fun h => h) (fun h => by omega)
  exact ⟨h0, h1, he, hl, h2.step hS (fun k hk h => (hs k h).1 ((h1 k).2 (Or.inl hk))), hS.block h5 (hno _ (by omega)), h7.trans hS (fun _ h => h) (fun k hk => Or.inr ((hs k hk).2.elim (fun h => h.elim) (fun h => by omega)))⟩
 case step =>
  rintro O pre Wc W' S ⟨h1, he, h2, h3, h4, h5, h6, h7⟩ hS hs
  have hno : ∀ k, k < V.heap.size → ¬ S k := fun k hk h => (hs k h).2.elim (fun h => h) (fun h => by omega)
  exact ⟨h1, he, h2.step hS (fun k hk h => (hs k h).1 ((h1 k).2 (Or.inl hk))), hS.block h3 (hno _ (by omega)), hS.block h4 (hno _ (by omega)), hS.block h5 (hno _ (by omega)), hS.block h6 (hno _ (by omega)), h7.trans hS (fun _ h => h) (fun k hk => Or.inr ((hs k hk).2.elim (fun h => h.elim) (fun h => by omega)))⟩
 case round =>
  as_aux_lemma =>
   rintro l O pre x Wc hl hWs - hpre
   obtain ⟨hx1, hx2⟩ := part_pre hpre
   replace hx1 := hx1.symm
   dsimp only [partE]
   gi_wp2
   refine ⟨Step.refl _ _, ?_⟩
   rintro Wb hsb ⟨h1, he, h2, h3, h4, h5, h6, h7⟩
   gi_wp2
   have y0 : Wb.drew.cell? ⟨b, 0, none⟩ = some (.pointer (some ⟨i.d, 0, none⟩)) := by show Wb.cell? _ = _; rw [Lib.cell_of_heap h3]; rfl
   have yp : Wb.drew.cell? ⟨p, 0, none⟩ = some (.int .i64 f0) := by show Wb.cell? _ = _; rw [Lib.cell_of_heap h6]; rfl
   have y2 : Wb.drew.cell? ⟨b + 1 + 1, 0, none⟩ = some (.string s) := by show Wb.cell? _ = _; rw [Lib.cell_of_heap h4]; rfl
   have nb : ¬ i.In b := fun h => by have := hlt b h; omega
   have np : ¬ i.In p := fun h => by have := hlt p h; omega
   have ns : ¬ i.In (b + 1 + 1) := fun h => by have := hlt _ h; omega
   have nr : ¬ i.In (b + 1 + 1 + 1) := fun h => by have := hlt _ h; omega
   rw [hx1] at h2 he
   have hk1 : wrK xs.length f0 s ⟨F, off, fuse, nw, 0⟩ (x + 1) = wr1 xs.length f0 s x (wrK xs.length f0 s ⟨F, off, fuse, nw, 0⟩ x) := by rw [wrK, if_pos he]
   generalize wrK xs.length f0 s ⟨F, off, fuse, nw, 0⟩ x = r at h2 he hk1
   have hDd : DevAt Wb.drew i xs r.F B r.off r.fuse r.nw := h2.step (Z := fun _ => False) ⟨pw_below_drewN (Below.refl _ _) 1, fun _ _ _ => rfl⟩ (fun _ _ h => h)
   have hxI : (x : Int) < (nS sh : Int) := by omega
   have hWr : Calls Tryd.prog 58 #[.pointer (some ⟨i.d, 0, none⟩), .int .i64 (wrap64 (f0 + (x : Int))), .string (s.extract (512 * x) (512 * x + 512))] Wb.drew fun e w' => e = .returned (.int .i64 (wr1 xs.length f0 s x r).e) ∧ DevAt w' i xs (wr1 xs.length f0 s x r).F B (wr1 xs.length f0 s x r).off (wr1 xs.length f0 s x r).fuse (wr1 xs.length f0 s x r).nw ∧ Step i.In Wb.drew w' := by
    rw [wrap64_id (by omega) (by omega)]
    exact dev_Write_any Wb.drew i xs r.F B r.off r.fuse r.nw (f0 + (x : Int)) (s.extract (512 * x) (512 * x + 512)) hDd
   generalize wr1 xs.length f0 s x r = r1 at hk1 hWr
   have hsl : ∀ w' : World, (Instr.slice 9 (.string s) (some (.int .i64 ((x : Int) * 512))) (some (.int .i64 (wrap64 ((x : Int) * 512 + 512)))) none).run Tryd.prog w' = .ok (.string (s.extract (512 * x) (512 * x + 512))) w' := by
    intro w'
    have e1 : (((x : Int) * 512).toNat) = 512 * x := by omega
    have e2 : (((x : Int) * 512 + 512).toNat) = 512 * x + 512 := by omega
    rw [wrap64_id (by omega) (by omega)]
    have := run_slice_lh w' s ((x : Int) * 512) ((x : Int) * 512 + 512) (by omega) (by omega) (by omega)
    rw [e1, e2] at this
    exact this
   refine startIn_ (n := 11) (S := fun w' => w'.cell? ⟨b, 0, none⟩ = some (.pointer (some ⟨i.d, 0, none⟩)) ∧ w'.cell? ⟨p, 0, none⟩ = some (.int .i64 f0) ∧ w'.cell? ⟨b + 1 + 1, 0, none⟩ = some (.string s)) (ds := []) (by rintro ⟨_, _, h⟩; exact h) (by kernel_rfl) #[G,G,G,G,G,G,G,G,G,G,G] (by kernel_rfl) rfl rfl ⟨y0, yp, y2⟩ (fun hHeld => ?_)
   refine pu_ 2 36 ?_ #[G,G,Y,G,G,G,G,G,G,G,G] rfl rfl (by kernel_rfl) (fun _ _ _ h => h) (Or.inl ⟨by rfl, ?_⟩) ?_ ?_ ?_;rotate_left
   ·intro w';go_simp;with_reducible rfl
   rotate_left;·simp only [Act.put, sA_];rfl
   refine pu_ 5 39 ?_ #[G,G,Y,G,G,Y,G,G,G,G,G] rfl rfl (by kernel_rfl) (fun _ _ _ h => h) (Or.inl ⟨by rfl, ?_⟩) ?_ ?_ ?_;rotate_left
   ·intro w';go_simp;with_reducible rfl
   rotate_left;·simp only [Act.put, sA_];rfl
   refine pu_ 6 40 ?_ #[G,G,Y,G,G,Y,Y,G,G,G,G] rfl rfl (by kernel_rfl) (fun _ _ _ h => h) (Or.inl ⟨by rfl, ?_⟩) ?_ ?_ ?_;rotate_left
   ·intro w';go_simp;with_reducible rfl
   rotate_left;·simp only [Act.put, sA_];rfl
   refine pu_ 7 41 ?_ #[G,G,Y,G,G,Y,Y,Y,G,G,G] rfl rfl (by kernel_rfl) (fun _ _ _ h => h) (Or.inl ⟨by rfl, ?_⟩) ?_ ?_ ?_;rotate_left
   ·intro w';go_simp;with_reducible rfl
   rotate_left;·simp only [Act.put, sA_];rfl
   refine tk_ 0 34 ?_ #[Y,G,Y,G,G,Y,Y,Y,G,G,G] rfl rfl (by kernel_rfl) (fun _ _ _ h => h) (Or.inl ⟨by rfl, ?_⟩) hHeld ?_ ?_ ?_;rotate_left
   ·rintro w' ⟨s0, s1, s2⟩
    go_simp
    with_reducible rfl
   rotate_left;·simp only [Act.put, sA_];rfl
   refine tk_ 1 35 ?_ #[Y,Y,Y,G,G,Y,Y,Y,G,G,G] rfl rfl (by kernel_rfl) (fun _ _ _ h => h) (Or.inl ⟨by rfl, ?_⟩) hHeld ?_ ?_ ?_;rotate_left
   ·rintro w' ⟨s0, s1, s2⟩
    go_simp
    with_reducible rfl
   rotate_left;·simp only [Act.put, sA_];rfl
   refine pu_ 3 37 ?_ #[Y,Y,Y,Y,G,Y,Y,Y,G,G,G] rfl rfl (by kernel_rfl) (fun _ _ _ h => h) (Or.inl ⟨by rfl, ?_⟩) ?_ ?_ ?_;rotate_left
   ·intro w';go_simp;with_reducible rfl
   rotate_left;·simp only [Act.put, sA_];rfl
   refine tk_ 4 38 ?_ #[Y,Y,Y,Y,Y,Y,Y,Y,G,G,G] rfl rfl (by kernel_rfl) (fun _ _ _ h => h) (Or.inl ⟨by rfl, ?_⟩) hHeld ?_ ?_ ?_;rotate_left
   ·rintro w' ⟨s0, s1, s2⟩
    go_simp
    with_reducible rfl
   rotate_left;·simp only [Act.put, sA_];rfl
   refine pu_ 8 42 ?_ #[Y,Y,Y,Y,Y,Y,Y,Y,Y,G,G] rfl rfl (by kernel_rfl) (fun _ _ _ h => h) (Or.inl ⟨by rfl, ?_⟩) ?_ ?_ ?_;rotate_left
   ·intro w';go_simp;with_reducible rfl
   rotate_left;·simp only [Act.put, sA_];rfl
   refine one_ (i := 9) (N := some 43) #[Y,Y,Y,Y,Y,Y,Y,Y,Y,Y,G] rfl rfl (by kernel_rfl) (by decide) (fun K hK => ?_)
   refine goes_ Tryd.func58 (by kernel_rfl) rfl #[.pointer (some ⟨i.d, 0, none⟩), .int .i64 (wrap64 (f0 + (x : Int))), .string (s.extract (512 * x) (512 * x + 512))] (by rfl) rfl rfl (by simp only [List.map_toArray, List.map_cons, List.map_nil]; rfl) ?_
   with_reducible refine (hWr).mono ?_
   rintro e w4 ⟨rfl, hD4, hs4⟩
   refine ⟨_, rfl, ?_⟩
   refine hK.out _ _ ⟨hs4.cell hHeld.1 nb, hs4.cell hHeld.2.1 np, hs4.cell hHeld.2.2 ns⟩ (fun hHeld => ?_)
   clear hK K
   refine norm_ (a' := ?_) ?_ ?_;rotate_left
   ·show Act.put _ (some 43) _ = _
    simp only [Act.put, sA_]
    rfl
   refine pu_ 10 13 ?_ #[Y,Y,Y,Y,Y,Y,Y,Y,Y,Y,Y] rfl rfl (by kernel_rfl) (fun _ _ _ h => h) (Or.inl ⟨by rfl, ?_⟩) ?_ ?_ ?_;rotate_left
   ·intro w';go_simp;with_reducible rfl
   rotate_left;·simp only [Act.put, sA_];rfl
   refine done_ (by kernel_rfl) ?_

   have hst : Step i.In Wb w4 := Step.trans (T := i.In) (S := fun _ => False) ⟨pw_below_drewN (Below.refl _ _) 1, fun _ _ _ => rfl⟩ hs4 (fun _ h => h.elim) (fun _ h => Or.inl h)
   have g5 := hst.block h5 nr
   by_cases hz : r1.e = 0
   ·have hzz : (r1.e != 0) = false := by simpa using hz
    gi_wp2
    refine ⟨fun k => i.In k ∨ k = b + 1 + 1 + 1, fun k hk => Or.inl ((h1 k).2 hk), hst.mono (fun k hk => (h1 k).2 (Or.inl hk)), fun _ => Iff.rfl, ?_, ?_, hst.block h3 nb, hst.block h4 ns, g5, hst.block h6 np, h7.trans hst (fun _ h => h) (fun _ h => Or.inl h)⟩
    ·rw [List.length_append, hx1]
     show (wrK xs.length f0 s ⟨F, off, fuse, nw, 0⟩ (x + 1)).e = 0
     rw [hk1]; exact hz
    ·rw [List.length_append, hx1]
     show DevAt w4 i xs (wrK xs.length f0 s ⟨F, off, fuse, nw, 0⟩ (x + 1)).F B (wrK xs.length f0 s ⟨F, off, fuse, nw, 0⟩ (x + 1)).off (wrK xs.length f0 s ⟨F, off, fuse, nw, 0⟩ (x + 1)).fuse (wrK xs.length f0 s ⟨F, off, fuse, nw, 0⟩ (x + 1)).nw
     rw [hk1]; exact hD4
   ·have hzz : (r1.e != 0) = true := by simpa using hz
    have c5 : w4.cell? ⟨b + 1 + 1 + 1, 0, none⟩ = some (.int .i64 0) := by rw [Lib.cell_of_heap g5]; rfl
    have f5 := Lib.frozen_of_heap g5 0
    gi_wp2
    have hsr : Step (fun q => q = b + 1 + 1 + 1) w4 (w4.setCell ⟨b + 1 + 1 + 1, 0, none⟩ (.int .i64 r1.e)) := Step.setCell w4 (p := ⟨b + 1 + 1 + 1, 0, none⟩) (S := fun q => q = b + 1 + 1 + 1) rfl _
    have hbz := hsb.size
    have hzV : b + 1 + 1 + 1 < V.heap.size := by omega
    have hDr := hD4.step hsr (fun k hk e => nr (e ▸ hk))
    have hwb := Step.size h7
    refine ⟨fun k => i.In k ∨ k = b + 1 + 1 + 1, fun k hk => Or.inl ((h1 k).2 hk), hst.trans hsr (fun k hk => (h1 k).2 (Or.inl hk)) (fun k hk => Or.inl ((h1 k).2 (Or.inr hk))), rfl, fun _ => Iff.rfl, ?_, ?_, ?_, ?_, (h7.trans hst (fun _ h => h) (fun _ h => Or.inl h)).trans hsr (fun _ h => h) (fun k hk => Or.inr (by omega))⟩
    ·rw [List.length_append, hx1]
     show (wrK xs.length f0 s ⟨F, off, fuse, nw, 0⟩ (x + 1)).e ≠ 0
     rw [hk1]; exact hz
    ·rw [List.length_append, hx1]
     show x + 1 ≤ nS sh
     omega
    ·rw [List.length_append, hx1]
     show DevAt _ i xs (wrK xs.length f0 s ⟨F, off, fuse, nw, 0⟩ (x + 1)).F B (wrK xs.length f0 s ⟨F, off, fuse, nw, 0⟩ (x + 1)).off (wrK xs.length f0 s ⟨F, off, fuse, nw, 0⟩ (x + 1)).fuse (wrK xs.length f0 s ⟨F, off, fuse, nw, 0⟩ (x + 1)).nw
     rw [hk1]; exact hDr
    ·rw [List.length_append, hx1]
     show _ = some (Obj.cells #[.int .i64 (wrK xs.length f0 s ⟨F, off, fuse, nw, 0⟩ (x + 1)).e] 30 (0, 0))
     rw [hk1]; exact blk_set g5 0 (.int .i64 r1.e)
 case done =>
  rintro D O Wc hD hOD ⟨h1, he, h2, h3, h4, h5, h6, h7⟩ hK
  have hpl : (partL (nS sh)).length = nS sh := by simp [partL]
  rw [hpl] at h2 he
  rw [← hR] at h2 he
  have c5 : Wc.cell? ⟨b + 1 + 1 + 1, 0, none⟩ = some (.int .i64 0) := by rw [Lib.cell_of_heap h5]; rfl
  have f5 := Lib.frozen_of_heap h5 0
  gi_wp2
  have hk5 := blk_set h5 0 (.int .i64 0)
  have nr : ¬ i.In (b + 1 + 1 + 1) := fun h => by have := hlt _ h; omega
  have hsc : Step (fun q => q = b + 1 + 1 + 1) Wc (Wc.setCell ⟨b + 1 + 1 + 1, 0, none⟩ (.int .i64 0)) := Step.setCell Wc (p := ⟨b + 1 + 1 + 1, 0, none⟩) (S := fun q => q = b + 1 + 1 + 1) rfl _
  have hK2 := hsc.block hK (by omega)
  have hD5 := h2.step hsc (fun k hk e => nr (e ▸ hk))
  have h75 := h7.trans hsc (fun _ h => h) (fun k hk => Or.inr (by omega))
  generalize Wc.setCell ⟨b + 1 + 1 + 1, 0, none⟩ (.int .i64 0) = Wd at *
  refine ⟨by simp, .inl ⟨_, _, rfl, run_takeDeferred hK2, ?_⟩⟩
  have hsp : Step (fun q => q = D) Wd (Wd.putObj D (.deferred none)) := Step.put Wd D _
  have hkD := hsp.block hk5 (by omega)
  refine ⟨_, results_c1 rfl _ _ ⟨b + 1 + 1 + 1, 0, none⟩ rfl (loadVar30 _ _ 0 (by rw [Lib.cell_of_heap hkD]; rfl)), by rw [he], ?_, ?_⟩
  ·exact hD5.step hsp (fun k hk e => by have := hlt k hk; omega)
  ·exact h75.trans hsp (fun _ h => h) (fun k hk => Or.inr (by omega))
 case stop =>
  rintro D O c pre Wc hD hOD hpre ⟨rfl, h1, he, hl, h2, h5, h7⟩ hK
  have hst := wrK_stop he (nS sh) hl
  rw [← hst, ← hR] at h2 h5
  gi_wp2
  refine ⟨by simp, .inl ⟨_, _, rfl, run_takeDeferred hK, ?_⟩⟩
  have hsp : Step (fun q => q = D) Wc (Wc.putObj D (.deferred none)) := Step.put Wc D _
  have hkD := hsp.block h5 (by omega)
  refine ⟨_, results_c1 rfl _ _ ⟨b + 1 + 1 + 1, 0, none⟩ rfl (loadVar30 _ _ R.e (by rw [Lib.cell_of_heap hkD]; rfl)), rfl, ?_, ?_⟩
  ·exact h2.step hsp (fun k hk e => by have := hlt k hk; omega)
  ·exact h7.trans hsp (fun _ h => h) (fun k hk => Or.inr (by omega))
def rawG (xs : List ByteArray) (F : FL) (B : BL) (off : Bool) (f0 : Int) : Nat → List UInt8 × Int
 | 0 => ([], 0)
 | k + 1 => if (rawG xs F B off f0 k).2 = 0 then
   (if (readP xs F B off (f0 + (k : Int))).2 = 0 then ((rawG xs F B off f0 k).1 ++ (readP xs F B off (f0 + (k : Int))).1.data.toList, 0) else ([], (readP xs F B off (f0 + (k : Int))).2))
  else rawG xs F B off f0 k
theorem rawG_stop {xs : List ByteArray} {F : FL} {B : BL} {off : Bool} {f0 : Int} {k : Nat} (h : (rawG xs F B off f0 k).2 ≠ 0) : ∀ m, k ≤ m → rawG xs F B off f0 m = rawG xs F B off f0 k := by
 intro m hm
 induction m with
 | zero =>
  have : k = 0 := by omega
  rw [this]
 | succ m ih =>
  by_cases e : k = m + 1
  ·rw [e]
  ·rw [rawG, ih (by omega), if_neg h]
theorem rawG_err {xs : List ByteArray} {F : FL} {B : BL} {off : Bool} {f0 : Int} : ∀ k, (rawG xs F B off f0 k).2 ≠ 0 → (rawG xs F B off f0 k).1 = []
 | 0, h => rfl
 | k + 1, h => by
  rw [rawG] at h ⊢
  split
  ·rename_i h0
   rw [if_pos h0] at h
   split
   ·rename_i h1; rw [if_pos h1] at h; exact absurd rfl h
   ·rfl
  ·rename_i h0
   exact rawG_err k h0
theorem readP_size {xs : List ByteArray} {F : FL} {B : BL} {fuse : Int} {off : Bool} (h : DevOk xs F B fuse) {at_ : Int} (h0 : (readP xs F B off at_).2 = 0) : (readP xs F B off at_).1.size = 512 := by
 unfold readP at h0 ⊢
 by_cases hr : reachP xs.length off at_ ≠ 0
 ·rw [if_pos hr] at h0; exact absurd h0 hr
 ·rw [if_neg hr] at h0 ⊢
  obtain ⟨_, h1, h2⟩ := reach_ok (by simpa using hr)
  cases hg : getL at_ F with
  | some s => exact (h.2.2.2.1 _ (getL_mem hg)).2.2
  | none =>
   have hx : (xs.getD at_.toNat ⟨#[]⟩).size = 512 := by
    rw [List.getD_eq_getElem?_getD, List.getElem?_eq_getElem (show at_.toNat < xs.length by omega)]
    exact h.2.2.1 _ (List.getElem_mem _)
   rw [hg] at h0
   cases hb : getL at_ B with
   | none => exact hx
   | some v =>
    rw [hb] at h0
    cases v
    ·exact hx
    ·cases h0
theorem rawG_len {xs : List ByteArray} {F : FL} {B : BL} {fuse : Int} {off : Bool} (h : DevOk xs F B fuse) {f0 : Int} : ∀ k : Nat, (rawG xs F B off f0 k).2 = 0 → (rawG xs F B off f0 k).1.length = 512 * k
 | 0, _ => rfl
 | k + 1, h1 => by
  rw [rawG] at h1 ⊢
  by_cases h0 : (rawG xs F B off f0 k).2 = 0
  ·rw [if_pos h0] at h1 ⊢
   by_cases h2 : (readP xs F B off (f0 + (k : Int))).2 = 0
   ·rw [if_pos h2, List.length_append, rawG_len h k h0, data_length, readP_size h h2]; omega
   ·rw [if_neg h2] at h1; exact absurd h1 h2
  ·rw [if_neg h0] at h1; exact absurd h1 h0
structure RawJ (w Wc : World) (i : DevIds) (xs : List ByteArray) (F : FL) (B : BL) (off : Bool) (fuse nw : Int) (b p q : Nat) (f0 : Int) (v : Value) (l : List UInt8) : Prop where
 dev : DevAt Wc i xs F B off fuse nw
 h0 : Wc.heap[b]? = some (.cells #[.pointer (some ⟨i.d, 0, none⟩)] 38 (0, 0))
 h2 : Wc.heap[b + 1 + 1]? = some (.cells #[.string ⟨#[]⟩] 9 (0, 0))
 h3 : Wc.heap[b + 1 + 1 + 1]? = some (.cells #[.int .i64 0] 30 (0, 0))
 hp : Wc.heap[p]? = some (.cells #[.int .i64 f0] 3 (0, 0))
 hq : Wc.heap[q]? = some (.cells #[v] 95 (0, 0))
 row : Wc.ownsRowF (q + 1) 5 1 v l.length (Lib.byteCells l)
 st : Step (fun _ => False) w Wc
theorem RawJ.step {w Wc W' : World} {i : DevIds} {xs : List ByteArray} {F : FL} {B : BL} {off : Bool} {fuse nw : Int} {b p q : Nat} {f0 : Int} {v : Value} {l : List UInt8} {S : Nat → Prop} (h : RawJ w Wc i xs F B off fuse nw b p q f0 v l) (hS : Step S Wc W') (hn : ∀ j, j < q → ¬ S j) (hq : ¬ S q) (hv : ∀ g, v.ownBlock = some g → ¬ S g) (hi : ∀ j, i.In j → j < q) (hb : b + 1 + 1 + 1 < p) (hp : p < q) (hw : w.heap.size ≤ q) : RawJ w W' i xs F B off fuse nw b p q f0 v l :=
 ⟨h.dev.step hS (fun j hj => hn j (hi j hj)), hS.block h.h0 (hn _ (by omega)), hS.block h.h2 (hn _ (by omega)), hS.block h.h3 (hn _ (by omega)), hS.block h.hp (hn _ hp), hS.block h.hq hq, ownsRowF_step hS h.row hv, h.st.trans hS (fun _ h => h) (fun j hj => Or.inr (by
  rcases Nat.lt_or_ge j q with h1 | h1
  ·exact absurd hj (hn j h1)
  ·omega))⟩
set_option maxRecDepth 100000 in
set_option maxHeartbeats 4000000 in
theorem cluster_Raw_gen (w : World) (i : DevIds) (xs : List ByteArray) (F : FL) (B : BL) (off : Bool) (fuse nw : Int) (sh gk gm C at_ : Int) (h : DevAt w i xs F B off fuse nw) (hg : GeoOk sh gk gm C) (ha : 0 ≤ at_) (hb : at_ < C) (R : List UInt8 × Int) (hR : R = rawG xs F B off (at_ * (nS sh : Int)) (nS sh)) :
  Calls Tryd.prog 142 #[.pointer (some ⟨i.d, 0, none⟩), geoV sh gk gm C, .int .i64 at_] w fun e w' => e = .returned (.tuple #[.string ⟨R.1.toArray⟩, .int .i64 R.2]) ∧ Step (fun _ => False) w w' := by
 unfold geoV
 have hu23 := Tryd.underlying23
 have hF : firstP sh gk gm C at_ = (at_ * (nS sh : Int), 0) := by rw [firstP, if_pos hg, if_pos ⟨ha, hb⟩]
 refine (callsIn_wide (n := 4)).1 ?_
 refine callsIn_of_wp_marks Tryd.func142 rfl trivial ?_ rfl
 simp only [Tryd.ntmps142, List.size_toArray, List.length_cons, List.length_nil, Nat.reduceAdd, Nat.reduceSub, Array.replicate_succ, Array.replicate_zero, List.push_toArray, List.append_toArray, List.nil_append, List.cons_append]
 obtain ⟨W0, hW0, hs0, hz0, k0, k1, k2, k3⟩ := fourA w #[.pointer (some ⟨i.d, 0, none⟩)] #[.int .i64 sh, .int .i64 gk, .int .i64 gm, .int .i64 C] #[.string ⟨#[]⟩] #[.int .i64 0] 38 23 9 30
 gi_wp2
 refine ⟨trivial, ?_⟩
 gi_at_call 119
 refine (callsIn_wide.2 (geom_First_any sh gk gm C at_ _)).mono ?_
 rintro e w1 ⟨rfl, hb1⟩
 rw [hF]
 dsimp only
 rw [show (((w.alloc (.cells #[.pointer (some ⟨i.d, 0, none⟩)] 38)).alloc (.cells #[.int .i64 sh, .int .i64 gk, .int .i64 gm, .int .i64 C] 23)).alloc (.cells #[.string ⟨#[]⟩] 9)).alloc (.cells #[.int .i64 0] 30) = W0 from hW0.symm] at hb1
 have hs1 := step2 hs0 (Step.of_below (S := fun _ => False) hb1)
 have q0 := (Step.of_below (S := fun _ => False) hb1).block k0 (fun h => h)
 have q1 := (Step.of_below (S := fun _ => False) hb1).block k1 (fun h => h)
 have q2 := (Step.of_below (S := fun _ => False) hb1).block k2 (fun h => h)
 have q3 := (Step.of_below (S := fun _ => False) hb1).block k3 (fun h => h)
 have hz1 := hb1.size
 rw [hz0] at hz1
 clear hW0 hb1 k0 k1 k2 k3 hs0 hz0
 obtain ⟨b, hbe⟩ : ∃ b, b = w.heap.size := ⟨_, rfl⟩
 have hD1 := h.step hs1 (fun _ _ h => h)
 have hlt := h.lt
 have hbw : w.heap.size ≤ b := by omega
 rw [← hbe] at q0 q1 q2 q3 hz1 hlt ⊢
 clear hbe
 have hn1 := nS_pos sh
 have hn2 := nS_le hg.2.1
 have hln := h.ok.2.1
 have hf1 : 0 ≤ at_ * (nS sh : Int) := Int.mul_nonneg ha (Int.natCast_nonneg _)
 have hf3 : at_ * (nS sh : Int) ≤ 524288 := by
  have h1 := Int.mul_le_mul_of_nonneg_right (show at_ ≤ 4096 by have := hg.2.2.2.2.2.2.2.1; omega) (Int.natCast_nonneg (nS sh))
  have h2 := Int.mul_le_mul_of_nonneg_left (show (nS sh : Int) ≤ 128 by omega) (show (0 : Int) ≤ 4096 by omega)
  omega
 generalize hf0 : at_ * (nS sh : Int) = f0 at *
 obtain ⟨W, hW, hs2, hz2, r4, r5⟩ := two w1 #[.int .i64 f0] #[.slice none 0 0] 3 95
 have r0 := hs2.block q0 (fun h => h)
 have r1 := hs2.block q1 (fun h => h)
 have r2 := hs2.block q2 (fun h => h)
 have r3 := hs2.block q3 (fun h => h)
 have hD2 := hD1.step hs2 (fun _ _ h => h)
 have z0 : ((w1.alloc (.cells #[.int .i64 f0] 3)).alloc (.cells #[.slice none 0 0] 95)).cell? ⟨b + 1, 0, none⟩ = some (.int .i64 sh) := by rw [← hW, Lib.cell_of_heap r1]; rfl
 have z1 : ((w1.alloc (.cells #[.int .i64 f0] 3)).alloc (.cells #[.slice none 0 0] 95)).cell? ⟨b + 1, 1, none⟩ = some (.int .i64 gk) := by rw [← hW, Lib.cell_of_heap r1]; rfl
 have z2 : ((w1.alloc (.cells #[.int .i64 f0] 3)).alloc (.cells #[.slice none 0 0] 95)).cell? ⟨b + 1, 2, none⟩ = some (.int .i64 gm) := by rw [← hW, Lib.cell_of_heap r1]; rfl
 have z3 : ((w1.alloc (.cells #[.int .i64 f0] 3)).alloc (.cells #[.slice none 0 0] 95)).cell? ⟨b + 1, 3, none⟩ = some (.int .i64 C) := by rw [← hW, Lib.cell_of_heap r1]; rfl
 gi_wp2
 refine ⟨trivial, ?_⟩
 gi_at_call 120
 refine (callsIn_wide.2 (cluster_parts_any sh gk gm C _)).mono ?_
 rintro e w4 ⟨rfl, rfl⟩
 rw [← hW]
 clear z0 z1 z2 z3 hW
 have hs3 := Step.alloc (fun _ => False) W (.cells #[.int .i64 sh, .int .i64 gk, .int .i64 gm, .int .i64 C] 23)
 have hgeo : GeoAt (W.alloc (.cells #[.int .i64 sh, .int .i64 gk, .int .i64 gm, .int .i64 C] 23)) W.heap.size sh gk gm C := World.alloc_heap_new W _
 have u0 := hs3.block r0 (fun h => h)
 have u2 := hs3.block r2 (fun h => h)
 have u3 := hs3.block r3 (fun h => h)
 have u4 := hs3.block r4 (fun h => h)
 have u5 := hs3.block r5 (fun h => h)
 have hD3 := hD2.step hs3 (fun _ _ h => h)
 have hs4 := step2 (step2 hs1 hs2) hs3
 have hz4 : (W.alloc (.cells #[.int .i64 sh, .int .i64 gk, .int .i64 gm, .int .i64 C] 23)).heap.size = W.heap.size + 1 := by simp
 have hz2a : w1.heap.size + 2 ≤ W.heap.size := by omega
 clear hz2 hs1 hs2 hs3 q0 q1 q2 q3 r0 r1 r2 r3 r4 r5 hD1 hD2
 gi_wp2
 obtain ⟨p, hp⟩ : ∃ p, p = w1.heap.size := ⟨_, rfl⟩
 obtain ⟨q, hq⟩ : ∃ q, q = p + 1 := ⟨_, rfl⟩
 obtain ⟨Gq, hG⟩ : ∃ Gq, Gq = W.heap.size := ⟨_, rfl⟩
 rw [← hp] at u4 u5 hz1 hz2a ⊢
 rw [← hq] at u5 ⊢
 rw [← hG] at hgeo hz4 hz2a ⊢
 generalize W.alloc (.cells #[.int .i64 sh, .int .i64 gk, .int .i64 gm, .int .i64 C] 23) = V at *
 have hpq : p < q := by omega
 have hGq : q < Gq := by omega
 clear hG hp hq hz2a
 have hiq : ∀ j, i.In j → j < q := fun j hj => by have := hlt j hj; omega
 have hok := h.ok
 refine wpIn_rangeFunc_O (gf := 141) (lb := #[.pointer (some ⟨Gq, 0, none⟩)]) rfl (enters_of Tryd.func141 (by kernel_rfl) rfl) (parts_seq V Gq sh gk gm C hg hgeo) (fun r hr => by omega) (fun _ => rfl)
  (fun O pre Wc => ∃ v, (∀ k, O k ↔ (k = q ∨ k = b + 1 + 1 ∨ k = b + 1 + 1 + 1) ∨ v.ownBlock = some k) ∧ (rawG xs F B off f0 pre.length).2 = 0 ∧ RawJ w Wc i xs F B off fuse nw b p q f0 v (rawG xs F B off f0 pre.length).1)
  (fun c O pre Wc => c = .ret ∧ (∀ k, O k ↔ k = b + 1 + 1 ∨ k = b + 1 + 1 + 1) ∧ (rawG xs F B off f0 pre.length).2 ≠ 0 ∧ pre.length ≤ nS sh ∧ Wc.heap[b + 1 + 1]? = some (.cells #[.string ⟨#[]⟩] 9 (0, 0)) ∧ Wc.heap[b + 1 + 1 + 1]? = some (.cells #[.int .i64 (rawG xs F B off f0 pre.length).2] 30 (0, 0)) ∧ Step (fun _ => False) w Wc)
  ⟨?lt, ?step⟩ (fun _ => ⟨?ltx, ?stepx⟩) (fun k => k = q ∨ k = b + 1 + 1 ∨ k = b + 1 + 1 + 1) (fun k hk hz => by omega) ⟨.slice none 0 0, by simp [Value.ownBlock], rfl, ⟨hD3, u0, u2, u3, u4, u5, World.ownsRowF_nil _ _ _ _, hs4⟩⟩ ?round ?done ?stop
 case lt =>
  rintro O pre Wc ⟨v, h1, _, h2⟩ k hk
  rcases (h1 k).1 hk with (rfl | rfl | rfl) | hk
  ·exact blk_lt h2.hq
  ·exact blk_lt h2.h2
  ·exact blk_lt h2.h3
  ·exact (h2.row.lt k hk).2
 case step =>
  rintro O pre Wc W' S ⟨v, h1, he, h2⟩ hS hs
  exact ⟨v, h1, he, h2.step hS (fun j hj h => (hs j h).2.elim (fun h => h) (fun h => by omega)) (fun h => (hs _ h).1 ((h1 _).2 (Or.inl (Or.inl rfl)))) (fun g hg h => (hs _ h).1 ((h1 _).2 (Or.inr hg))) hiq (by omega) hpq (by omega)⟩
 case ltx =>
  rintro O pre Wc ⟨_, h1, _, _, h2, h3, _⟩ k hk
  rcases (h1 k).1 hk with rfl | rfl
  ·exact blk_lt h2
  ·exact blk_lt h3
 case stepx =>
  rintro O pre Wc W' S ⟨h0, h1, he, hl, h2, h3, h7⟩ hS hs
  exact ⟨h0, h1, he, hl, hS.block h2 (fun h => (hs _ h).1 ((h1 _).2 (Or.inl rfl))), hS.block h3 (fun h => (hs _ h).1 ((h1 _).2 (Or.inr rfl))), h7.trans hS (fun _ h => h) (fun k hk => Or.inr ((hs k hk).2.elim (fun h => h.elim) (fun h => by omega)))⟩
 case round =>
  as_aux_lemma =>
   rintro l O pre x Wc hl hWs - hpre
   obtain ⟨hx1, hx2⟩ := part_pre hpre
   replace hx1 := hx1.symm
   dsimp only [partE]
   gi_wp2
   refine ⟨Step.refl _ _, ?_⟩
   rintro Wb hsb ⟨v, h1, he, h2⟩
   rw [hx1] at h2 he
   have y0 : Wb.cell? ⟨b, 0, none⟩ = some (.pointer (some ⟨i.d, 0, none⟩)) := by rw [Lib.cell_of_heap h2.h0]; rfl
   have yp : Wb.cell? ⟨p, 0, none⟩ = some (.int .i64 f0) := by rw [Lib.cell_of_heap h2.hp]; rfl
   have hRd := dev_Read_any Wb i xs F B off fuse nw (f0 + (x : Int)) h2.dev
   have hsz := fun h => readP_size (off := off) (at_ := f0 + (x : Int)) h2.dev.ok h
   have hrl := rawG_len (off := off) h2.dev.ok x he
   have hk1 : rawG xs F B off f0 (x + 1) = if (readP xs F B off (f0 + (x : Int))).2 = 0 then ((rawG xs F B off f0 x).1 ++ (readP xs F B off (f0 + (x : Int))).1.data.toList, 0) else ([], (readP xs F B off (f0 + (x : Int))).2) := by rw [rawG, if_pos he]
   generalize readP xs F B off (f0 + (x : Int)) = rp at hRd hsz hk1
   generalize (rawG xs F B off f0 x).1 = rl at h2 hrl hk1
   obtain ⟨rs, re⟩ := rp
   dsimp only at hRd hsz hk1
   gi_wp2
   refine ⟨trivial, ?_⟩
   gi_at_call 96
   refine (callsIn_wide.2 hRd).mono ?_
   rintro e W2 ⟨rfl, hs2⟩
   have h4 := h2.step hs2 (fun _ _ h => h) (fun h => h) (fun _ _ h => h) hiq (by omega) hpq (by omega)
   have hzb := hsb.size
   by_cases hre : re ≠ 0
   ·have hzz : (re != 0) = true := by simpa using hre
    rw [if_neg hre] at hk1
    have c2 : W2.cell? ⟨b + 1 + 1, 0, none⟩ = some (.string ⟨#[]⟩) := by rw [Lib.cell_of_heap h4.h2]; rfl
    have f2 := Lib.frozen_of_heap h4.h2 0
    have hT1 : Step (fun k => k = b + 1 + 1) W2 (W2.setCell ⟨b + 1 + 1, 0, none⟩ (.string ⟨#[]⟩)) := Step.setCell W2 (p := ⟨b + 1 + 1, 0, none⟩) (S := fun k => k = b + 1 + 1) rfl _
    have m3 := hT1.block h4.h3 (by omega)
    have m2 := blk_set h4.h2 0 (.string ⟨#[]⟩)
    have c3 : (W2.setCell ⟨b + 1 + 1, 0, none⟩ (.string ⟨#[]⟩)).cell? ⟨b + 1 + 1 + 1, 0, none⟩ = some (.int .i64 0) := by rw [Lib.cell_of_heap m3]; rfl
    have f3 := Lib.frozen_of_heap m3 0
    gi_wp2
    have hT2 : Step (fun k => k = b + 1 + 1 + 1) (W2.setCell ⟨b + 1 + 1, 0, none⟩ (.string ⟨#[]⟩)) ((W2.setCell ⟨b + 1 + 1, 0, none⟩ (.string ⟨#[]⟩)).setCell ⟨b + 1 + 1 + 1, 0, none⟩ (.int .i64 re)) := Step.setCell _ (p := ⟨b + 1 + 1 + 1, 0, none⟩) (S := fun k => k = b + 1 + 1 + 1) rfl _
    refine ⟨fun k => k = b + 1 + 1 ∨ k = b + 1 + 1 + 1, fun k hk => Or.inl ((h1 k).2 (Or.inl (Or.inr hk))), (hs2.trans hT1 (fun _ h => h.elim) (fun k hk => Or.inl ((h1 k).2 (Or.inl (Or.inr (Or.inl hk)))))).trans hT2 (fun _ h => h) (fun k hk => Or.inl ((h1 k).2 (Or.inl (Or.inr (Or.inr hk))))), rfl, fun _ => Iff.rfl, ?_, ?_, hT2.block m2 (by omega), ?_, (h4.st.trans hT1 (fun _ h => h) (fun k hk => Or.inr (by omega))).trans hT2 (fun _ h => h) (fun k hk => Or.inr (by omega))⟩
    ·rw [List.length_append, hx1]
     show (rawG xs F B off f0 (x + 1)).2 ≠ 0
     rw [hk1]; exact hre
    ·rw [List.length_append, hx1]
     show x + 1 ≤ nS sh
     omega
    ·rw [List.length_append, hx1]
     show _ = some (Obj.cells #[.int .i64 (rawG xs F B off f0 (x + 1)).2] 30 (0, 0))
     rw [hk1]; exact blk_set m3 0 (.int .i64 re)
   replace hre : re = 0 := by simpa using hre
   subst hre
   rw [if_pos rfl] at hk1
   replace hsz := hsz rfl
   have hq2 := blk_lt h4.hq
   have hnq : ∀ g, v.ownBlock = some g → g ≠ q := fun g hg => by have := (h4.row.lt g hg).1; omega
   obtain ⟨v', W3, hrun, hown3, hgr, hat⟩ := append_str_at h4.row (rs) (by rw [hrl, hsz]; omega) (by omega)
   have hg3 : Step (fun k => v.ownBlock = some k) W2 W3 := Step.grown hgr (fun k hk => hk)
   have k3 := hg3.block h4.hq (fun e => hnq q e rfl)
   have c2 : W2.cell? ⟨q, 0, none⟩ = some v := by rw [Lib.cell_of_heap h4.hq]; rfl
   have c3 : W3.cell? ⟨q, 0, none⟩ = some v := by rw [Lib.cell_of_heap k3]; rfl
   have f3 := Lib.frozen_of_heap k3 0
   obtain ⟨av, nv, cv, rfl⟩ : ∃ ao n' cap, v = .slice ao n' cap := by
    rcases h4.row.2 with ⟨hv, _⟩ | ⟨g, cap, cur, fz, hv, _⟩
    ·exact ⟨_, _, _, hv⟩
    ·exact ⟨_, _, _, hv⟩
   obtain ⟨ao, n', cap, rfl⟩ : ∃ ao n' cap, v' = .slice ao n' cap := by
    rcases hown3.2 with ⟨hv, _⟩ | ⟨g, cap, cur, fz, hv, _⟩
    ·exact ⟨_, _, _, hv⟩
    ·exact ⟨_, _, _, hv⟩
   gi_wp2_with (gi_at_builtin; refine wpListIn_append_str_at rfl _ _ rfl rfl _ (rs) rfl rfl _ _ hrun ?_)
   have hset := Step.setCell W3 (p := ⟨q, 0, none⟩) (S := fun k => k = q) rfl (.slice ao n' cap)
   have hT : Step (fun k => k = q ∨ (Value.slice av nv cv).ownBlock = some k) W2 (W3.setCell ⟨q, 0, none⟩ (.slice ao n' cap)) := hg3.trans hset (fun _ h => Or.inr h) (fun _ h => Or.inl (Or.inl h))
   have hvq : ∀ g, (Value.slice ao n' cap).ownBlock = some g → g ≠ q := fun g hg => by
    rcases hat g hg with h | h
    ·exact hnq g h
    ·omega
   have hlow : ∀ j, j < q → ¬ (j = q ∨ (Value.slice av nv cv).ownBlock = some j) := fun j hj h => h.elim (fun h => by omega) (fun h => by have := (h4.row.lt j h).1; omega)
   have hz2' := hs2.size
   have hk3 := blk_set k3 0 (.slice ao n' cap)
   have hown4 := ownsRowF_step hset hown3 (fun g hg e => hvq g hg e)
   refine ⟨fun k => (k = q ∨ k = b + 1 + 1 ∨ k = b + 1 + 1 + 1) ∨ (Value.slice ao n' cap).ownBlock = some k, fun k hk => ?_, ?_, .slice ao n' cap, fun _ => Iff.rfl, ?_, ?_⟩
   ·rcases hk with hk | hk
    ·exact Or.inl ((h1 k).2 (Or.inl hk))
    ·rcases hat k hk with h | h
     ·exact Or.inl ((h1 k).2 (Or.inr h))
     ·exact Or.inr (by omega)
   ·exact (hs2.trans hT (fun _ h => h.elim) (fun k h => Or.inl h)).mono (fun k hk => (h1 k).2 (hk.elim (fun h => Or.inl (Or.inl h)) Or.inr))
   ·rw [List.length_append, hx1]
    show (rawG xs F B off f0 (x + 1)).2 = 0
    rw [hk1]
   ·rw [List.length_append, hx1]
    show RawJ w _ i xs F B off fuse nw b p q f0 _ (rawG xs F B off f0 (x + 1)).1
    rw [hk1]
    refine ⟨h4.dev.step hT (fun j hj => hlow j (hiq j hj)), hT.block h4.h0 (hlow _ (by omega)), hT.block h4.h2 (hlow _ (by omega)), hT.block h4.h3 (hlow _ (by omega)), hT.block h4.hp (hlow _ hpq), hk3, ?_, h4.st.trans hT (fun _ h => h) (fun j hj => Or.inr ?_)⟩
    ·rw [Lib.byteCells_append, List.length_append, data_length, ← Lib.strCells_eq]
     exact hown4
    ·rcases hj with hj | hj
     ·omega
     ·have := (h4.row.lt j hj).1; omega
 case done =>
  rintro D O Wc hD hOD ⟨v, h1, he, h2⟩ hK
  have hpl : (partL (nS sh)).length = nS sh := by simp [partL]
  rw [hpl] at h2 he
  have hrl := rawG_len (off := off) h2.dev.ok (nS sh) he
  rw [← hR] at h2 he hrl
  obtain ⟨l, e⟩ := R
  dsimp only at h2 he hrl ⊢
  subst he
  obtain ⟨g, cap, rfl, hconv⟩ := conv_rowC h2.row (by omega)
  have cq : Wc.cell? ⟨q, 0, none⟩ = some (.slice (some ⟨g, 0, none⟩) l.length cap) := by rw [Lib.cell_of_heap h2.hq]; rfl
  have c2 : Wc.cell? ⟨b + 1 + 1, 0, none⟩ = some (.string ⟨#[]⟩) := by rw [Lib.cell_of_heap h2.h2]; rfl
  have f2 := Lib.frozen_of_heap h2.h2 0
  have hT1 : Step (fun k => k = b + 1 + 1) Wc (Wc.setCell ⟨b + 1 + 1, 0, none⟩ (.string ⟨l.toArray⟩)) := Step.setCell Wc (p := ⟨b + 1 + 1, 0, none⟩) (S := fun k => k = b + 1 + 1) rfl _
  have m3 := hT1.block h2.h3 (by omega)
  have m2 := blk_set h2.h2 0 (.string ⟨l.toArray⟩)
  have c3 : (Wc.setCell ⟨b + 1 + 1, 0, none⟩ (.string ⟨l.toArray⟩)).cell? ⟨b + 1 + 1 + 1, 0, none⟩ = some (.int .i64 0) := by rw [Lib.cell_of_heap m3]; rfl
  have f3 := Lib.frozen_of_heap m3 0
  have hKa := hT1.block hK (by omega)
  have hs := h2.st
  clear hrl
  gi_wp2
  generalize Wc.setCell ⟨b + 1 + 1, 0, none⟩ (.string ⟨l.toArray⟩) = Wd at *
  have hT2 : Step (fun k => k = b + 1 + 1 + 1) Wd (Wd.setCell ⟨b + 1 + 1 + 1, 0, none⟩ (.int .i64 0)) := Step.setCell Wd (p := ⟨b + 1 + 1 + 1, 0, none⟩) (S := fun k => k = b + 1 + 1 + 1) rfl _
  have n3 := blk_set m3 0 (.int .i64 0)
  have n2 := hT2.block m2 (by omega)
  have hKb := hT2.block hKa (by omega)
  have hsz := hT1.size
  generalize Wd.setCell ⟨b + 1 + 1 + 1, 0, none⟩ (.int .i64 0) = We at *
  have hsp : Step (fun j => j = D) We (We.putObj D (.deferred none)) := Step.put We D _
  have o3 := hsp.block n3 (by omega)
  have o2 := hsp.block n2 (by omega)
  refine ⟨by simp, .inl ⟨_, _, rfl, run_takeDeferred hKb, ?_⟩⟩
  refine ⟨_, results_c2 rfl _ _ ⟨b + 1 + 1, 0, none⟩ ⟨b + 1 + 1 + 1, 0, none⟩ rfl (loadVar9 _ _ ⟨l.toArray⟩ (by rw [Lib.cell_of_heap o2]; rfl)) rfl (loadVar30 _ _ 0 (by rw [Lib.cell_of_heap o3]; rfl)), rfl, ?_⟩
  exact ((hs.trans hT1 (fun _ h => h) (fun k hk => Or.inr (by omega))).trans hT2 (fun _ h => h) (fun k hk => Or.inr (by omega))).trans hsp (fun _ h => h) (fun k hk => Or.inr (by omega))
 case stop =>
  rintro D O c pre Wc hD hOD hpre ⟨rfl, h1, he, hl, h2, h3, h7⟩ hK
  have hst := rawG_stop he (nS sh) hl
  have hem := rawG_err _ he
  rw [← hst, ← hR] at h3 hem
  gi_wp2
  refine ⟨by simp, .inl ⟨_, _, rfl, run_takeDeferred hK, ?_⟩⟩
  have hsp : Step (fun j => j = D) Wc (Wc.putObj D (.deferred none)) := Step.put Wc D _
  have o3 := hsp.block h3 (by omega)
  have o2 := hsp.block h2 (by omega)
  rw [hem]
  exact ⟨_, results_c2 rfl _ _ ⟨b + 1 + 1, 0, none⟩ ⟨b + 1 + 1 + 1, 0, none⟩ rfl (loadVar9 _ _ ⟨#[]⟩ (by rw [Lib.cell_of_heap o2]; rfl)) rfl (loadVar30 _ _ R.2 (by rw [Lib.cell_of_heap o3]; rfl)), rfl, h7.trans hsp (fun _ h => h) (fun k hk => Or.inr (by omega))⟩
set_option maxRecDepth 100000 in
set_option maxHeartbeats 4000000 in
theorem cluster_Write_why (w : World) (i : DevIds) (sh gk gm C at_ : Int) (s : ByteArray) (y : Int) (hF : firstP sh gk gm C at_ = (0, y)) (hy : (y != 0) = true) :
  Calls Tryd.prog 81 #[.pointer (some ⟨i.d, 0, none⟩), geoV sh gk gm C, .int .i64 at_, .string s] w fun e w' => e = .returned (.int .i64 y) ∧ Step (fun _ => False) w w' := by
 unfold geoV
 have hu23 := Tryd.underlying23
 refine (callsIn_wide (n := 4)).1 ?_
 refine callsIn_of_wp_marks Tryd.func81 rfl trivial ?_ rfl
 simp only [Tryd.ntmps81, List.size_toArray, List.length_cons, List.length_nil, Nat.reduceAdd, Nat.reduceSub, Array.replicate_succ, Array.replicate_zero, List.push_toArray, List.append_toArray, List.nil_append, List.cons_append]
 obtain ⟨W0, hW0, hs0, hz0, k0, k1, k2, k3⟩ := fourA w #[.pointer (some ⟨i.d, 0, none⟩)] #[.int .i64 sh, .int .i64 gk, .int .i64 gm, .int .i64 C] #[.string s] #[.int .i64 0] 38 23 9 30
 gi_wp2
 refine ⟨trivial, ?_⟩
 gi_at_call 119
 refine (callsIn_wide.2 (geom_First_any sh gk gm C at_ _)).mono ?_
 rintro e w1 ⟨rfl, hb1⟩
 rw [hF]
 dsimp only
 rw [← hW0] at hb1
 have hs1 := step2 hs0 (Step.of_below (S := fun _ => False) hb1)
 have q3 := (Step.of_below (S := fun _ => False) hb1).block k3 (fun h => h)
 clear hW0 hb1 k0 k1 k2 k3 hs0 hz0
 have hs2 := step2 hs1 (Step.alloc (fun _ => False) w1 (.cells #[.int .i64 0] 3))
 have r3 := (Step.alloc (fun _ => False) w1 (.cells #[.int .i64 0] 3)).block q3 (fun h => h)
 have c3 : (w1.alloc (.cells #[.int .i64 0] 3)).cell? ⟨w.heap.size + 1 + 1 + 1, 0, none⟩ = some (.int .i64 0) := by rw [Lib.cell_of_heap r3]; rfl
 have f3 := Lib.frozen_of_heap r3 0
 gi_wp2
 have hk3 := blk_set r3 0 (.int .i64 y)
 have hsc : Step (fun q => q = w.heap.size + 1 + 1 + 1) (w1.alloc (.cells #[.int .i64 0] 3)) ((w1.alloc (.cells #[.int .i64 0] 3)).setCell ⟨w.heap.size + 1 + 1 + 1, 0, none⟩ (.int .i64 y)) := Step.setCell _ (p := ⟨w.heap.size + 1 + 1 + 1, 0, none⟩) (S := fun q => q = w.heap.size + 1 + 1 + 1) rfl _
 refine ⟨_, results_c1 rfl _ _ ⟨w.heap.size + 1 + 1 + 1, 0, none⟩ rfl (loadVar30 _ _ y (by rw [Lib.cell_of_heap hk3]; rfl)), rfl, hs2.trans hsc (fun _ h => h) (fun k hk => Or.inr (by omega))⟩
set_option maxRecDepth 100000 in
set_option maxHeartbeats 4000000 in
theorem cluster_Raw_why (w : World) (i : DevIds) (sh gk gm C at_ : Int) (y : Int) (hF : firstP sh gk gm C at_ = (0, y)) (hy : (y != 0) = true) :
  Calls Tryd.prog 142 #[.pointer (some ⟨i.d, 0, none⟩), geoV sh gk gm C, .int .i64 at_] w fun e w' => e = .returned (.tuple #[.string ⟨#[]⟩, .int .i64 y]) ∧ Step (fun _ => False) w w' := by
 unfold geoV
 have hu23 := Tryd.underlying23
 refine (callsIn_wide (n := 4)).1 ?_
 refine callsIn_of_wp_marks Tryd.func142 rfl trivial ?_ rfl
 simp only [Tryd.ntmps142, List.size_toArray, List.length_cons, List.length_nil, Nat.reduceAdd, Nat.reduceSub, Array.replicate_succ, Array.replicate_zero, List.push_toArray, List.append_toArray, List.nil_append, List.cons_append]
 obtain ⟨W0, hW0, hs0, hz0, k0, k1, k2, k3⟩ := fourA w #[.pointer (some ⟨i.d, 0, none⟩)] #[.int .i64 sh, .int .i64 gk, .int .i64 gm, .int .i64 C] #[.string ⟨#[]⟩] #[.int .i64 0] 38 23 9 30
 gi_wp2
 refine ⟨trivial, ?_⟩
 gi_at_call 119
 refine (callsIn_wide.2 (geom_First_any sh gk gm C at_ _)).mono ?_
 rintro e w1 ⟨rfl, hb1⟩
 rw [hF]
 dsimp only
 rw [show (((w.alloc (.cells #[.pointer (some ⟨i.d, 0, none⟩)] 38)).alloc (.cells #[.int .i64 sh, .int .i64 gk, .int .i64 gm, .int .i64 C] 23)).alloc (.cells #[.string ⟨#[]⟩] 9)).alloc (.cells #[.int .i64 0] 30) = W0 from hW0.symm] at hb1
 have hs1 := step2 hs0 (Step.of_below (S := fun _ => False) hb1)
 have q2 := (Step.of_below (S := fun _ => False) hb1).block k2 (fun h => h)
 have q3 := (Step.of_below (S := fun _ => False) hb1).block k3 (fun h => h)
 clear hW0 hb1 k0 k1 k2 k3 hs0 hz0
 have hs2 := step2 hs1 (Step.alloc (fun _ => False) w1 (.cells #[.int .i64 0] 3))
 have r2 := (Step.alloc (fun _ => False) w1 (.cells #[.int .i64 0] 3)).block q2 (fun h => h)
 have r3 := (Step.alloc (fun _ => False) w1 (.cells #[.int .i64 0] 3)).block q3 (fun h => h)
 have c2 : (w1.alloc (.cells #[.int .i64 0] 3)).cell? ⟨w.heap.size + 1 + 1, 0, none⟩ = some (.string ⟨#[]⟩) := by rw [Lib.cell_of_heap r2]; rfl
 have f2 := Lib.frozen_of_heap r2 0
 have hT1 : Step (fun q => q = w.heap.size + 1 + 1) (w1.alloc (.cells #[.int .i64 0] 3)) ((w1.alloc (.cells #[.int .i64 0] 3)).setCell ⟨w.heap.size + 1 + 1, 0, none⟩ (.string ⟨#[]⟩)) := Step.setCell _ (p := ⟨w.heap.size + 1 + 1, 0, none⟩) (S := fun q => q = w.heap.size + 1 + 1) rfl _
 have m2 := blk_set r2 0 (.string ⟨#[]⟩)
 have m3 := hT1.block r3 (by omega)
 have c3 : ((w1.alloc (.cells #[.int .i64 0] 3)).setCell ⟨w.heap.size + 1 + 1, 0, none⟩ (.string ⟨#[]⟩)).cell? ⟨w.heap.size + 1 + 1 + 1, 0, none⟩ = some (.int .i64 0) := by rw [Lib.cell_of_heap m3]; rfl
 have f3 := Lib.frozen_of_heap m3 0
 gi_wp2
 have hT2 : Step (fun q => q = w.heap.size + 1 + 1 + 1) ((w1.alloc (.cells #[.int .i64 0] 3)).setCell ⟨w.heap.size + 1 + 1, 0, none⟩ (.string ⟨#[]⟩)) (((w1.alloc (.cells #[.int .i64 0] 3)).setCell ⟨w.heap.size + 1 + 1, 0, none⟩ (.string ⟨#[]⟩)).setCell ⟨w.heap.size + 1 + 1 + 1, 0, none⟩ (.int .i64 y)) := Step.setCell _ (p := ⟨w.heap.size + 1 + 1 + 1, 0, none⟩) (S := fun q => q = w.heap.size + 1 + 1 + 1) rfl _
 have n3 := blk_set m3 0 (.int .i64 y)
 have n2 := hT2.block m2 (by omega)
 refine ⟨_, results_c2 rfl _ _ ⟨w.heap.size + 1 + 1, 0, none⟩ ⟨w.heap.size + 1 + 1 + 1, 0, none⟩ rfl (loadVar9 _ _ ⟨#[]⟩ (by rw [Lib.cell_of_heap n2]; rfl)) rfl (loadVar30 _ _ y (by rw [Lib.cell_of_heap n3]; rfl)), rfl, (hs2.trans hT1 (fun _ h => h) (fun k hk => Or.inr (by omega))).trans hT2 (fun _ h => h) (fun k hk => Or.inr (by omega))⟩
set_option maxRecDepth 100000 in
set_option maxHeartbeats 4000000 in
theorem cluster_Write_formG (w : World) (i : DevIds) (xs : List ByteArray) (F : FL) (B : BL) (off : Bool) (fuse nw : Int) (sh gk gm C at_ : Int) (s : ByteArray) (h : DevAt w i xs F B off fuse nw) (hg : GeoOk sh gk gm C) (ha : 0 ≤ at_) (hb : at_ < C) (hs : s.size ≠ 512 * nS sh) :
  Calls Tryd.prog 81 #[.pointer (some ⟨i.d, 0, none⟩), geoV sh gk gm C, .int .i64 at_, .string s] w fun e w' => e = .returned (.int .i64 2) ∧ Step (fun _ => False) w w' := by
 unfold geoV
 have hu23 := Tryd.underlying23
 have hF : firstP sh gk gm C at_ = (at_ * (nS sh : Int), 0) := by rw [firstP, if_pos hg, if_pos ⟨ha, hb⟩]
 have hS : sizeP sh gk gm C = 512 * (nS sh : Int) := if_pos hg
 refine (callsIn_wide (n := 4)).1 ?_
 refine callsIn_of_wp_marks Tryd.func81 rfl trivial ?_ rfl
 simp only [Tryd.ntmps81, List.size_toArray, List.length_cons, List.length_nil, Nat.reduceAdd, Nat.reduceSub, Array.replicate_succ, Array.replicate_zero, List.push_toArray, List.append_toArray, List.nil_append, List.cons_append]
 obtain ⟨W0, hW0, hs0, hz0, k0, k1, k2, k3⟩ := fourA w #[.pointer (some ⟨i.d, 0, none⟩)] #[.int .i64 sh, .int .i64 gk, .int .i64 gm, .int .i64 C] #[.string s] #[.int .i64 0] 38 23 9 30
 gi_wp2
 refine ⟨trivial, ?_⟩
 gi_at_call 119
 refine (callsIn_wide.2 (geom_First_any sh gk gm C at_ _)).mono ?_
 rintro e w1 ⟨rfl, hb1⟩
 rw [hF]
 dsimp only
 rw [← hW0] at hb1
 have hs1 := step2 hs0 (Step.of_below (S := fun _ => False) hb1)
 have q0 := (Step.of_below (S := fun _ => False) hb1).block k0 (fun h => h)
 have q1 := (Step.of_below (S := fun _ => False) hb1).block k1 (fun h => h)
 have q2 := (Step.of_below (S := fun _ => False) hb1).block k2 (fun h => h)
 have q3 := (Step.of_below (S := fun _ => False) hb1).block k3 (fun h => h)
 have hz1 := hb1.size
 rw [hz0] at hz1
 clear hW0 hb1 k0 k1 k2 k3 hs0 hz0
 obtain ⟨b, hbe⟩ : ∃ b, b = w.heap.size := ⟨_, rfl⟩
 have hD1 := h.step hs1 (fun _ _ h => h)
 have hlt := h.lt
 have hbw : w.heap.size ≤ b := by omega
 rw [← hbe] at q0 q1 q2 q3 hz1 hlt ⊢
 clear hbe
 have hn1 := nS_pos sh
 have hn2 := nS_le hg.2.1
 have hln := h.ok.2.1
 have hf1 : 0 ≤ at_ * (nS sh : Int) := Int.mul_nonneg ha (Int.natCast_nonneg _)
 generalize hf0 : at_ * (nS sh : Int) = f0 at *
 gi_wp2
 have hs2 := Step.alloc (fun _ => False) w1 (.cells #[.int .i64 f0] 3)
 have r0 := hs2.block q0 (fun h => h)
 have r1 := hs2.block q1 (fun h => h)
 have r2 := hs2.block q2 (fun h => h)
 have r3 := hs2.block q3 (fun h => h)
 have r4 := World.alloc_heap_new w1 (.cells #[.int .i64 f0] 3)
 have hD2 := hD1.step hs2 (fun _ _ h => h)
 have hs2' := step2 hs1 hs2
 have hz2 : (w1.alloc (.cells #[.int .i64 f0] 3)).heap.size = w1.heap.size + 1 := by simp
 obtain ⟨p, hpe⟩ : ∃ p, p = w1.heap.size := ⟨_, rfl⟩
 rw [← hpe] at r4 hz1 hz2 ⊢
 generalize w1.alloc (.cells #[.int .i64 f0] 3) = W at *
 clear q0 q1 q2 q3 hs1 hs2 hD1 hpe
 have y2 : W.drew.cell? ⟨b + 1 + 1, 0, none⟩ = some (.string s) := by show W.cell? _ = _; rw [Lib.cell_of_heap r2]; rfl
 have y10 : W.drew.cell? ⟨b + 1, 0, none⟩ = some (.int .i64 sh) := by show W.cell? _ = _; rw [Lib.cell_of_heap r1]; rfl
 have y11 : W.drew.cell? ⟨b + 1, 1, none⟩ = some (.int .i64 gk) := by show W.cell? _ = _; rw [Lib.cell_of_heap r1]; rfl
 have y12 : W.drew.cell? ⟨b + 1, 2, none⟩ = some (.int .i64 gm) := by show W.cell? _ = _; rw [Lib.cell_of_heap r1]; rfl
 have y13 : W.drew.cell? ⟨b + 1, 3, none⟩ = some (.int .i64 C) := by show W.cell? _ = _; rw [Lib.cell_of_heap r1]; rfl
 have hSize : ∀ w, Calls Tryd.prog 73 #[.agg #[.int .i64 sh, .int .i64 gk, .int .i64 gm, .int .i64 C]] w fun e w' => e = .returned (.int .i64 (512 * (nS sh : Int))) ∧ Below w.heap.size w w' := by
  intro w
  have := geom_Size_any sh gk gm C w
  rwa [hS] at this
 have hne : ((s.size : Int) != 512 * (nS sh : Int)) = true := by simp; omega
 refine region_only ?_
 refine start_ (n := 6) (S := fun w' => w'.cell? ⟨b + 1 + 1, 0, none⟩ = some (.string s) ∧ w'.cell? ⟨b + 1, 0, none⟩ = some (.int .i64 sh) ∧ w'.cell? ⟨b + 1, 1, none⟩ = some (.int .i64 gk) ∧ w'.cell? ⟨b + 1, 2, none⟩ = some (.int .i64 gm) ∧ w'.cell? ⟨b + 1, 3, none⟩ = some (.int .i64 C)) (ds := []) #[G,G,G,G,G,G] (by kernel_rfl) rfl rfl ⟨y2, y10, y11, y12, y13⟩ (fun hHeld => ?_)
 refine tk_ 0 25 ?_ #[Y,G,G,G,G,G] rfl rfl (by kernel_rfl) (fun _ _ _ h => h) (Or.inl ⟨by rfl, ?_⟩) hHeld ?_ ?_ ?_;rotate_left
 ·rintro w' ⟨s0, s1, s2, s3, s4⟩
  go_simp
  with_reducible rfl
 rotate_left;·simp only [Act.put, sA_];rfl
 refine pu_ 1 26 ?_ #[Y,Y,G,G,G,G] rfl rfl (by kernel_rfl) (fun _ _ _ h => h) (Or.inl ⟨by rfl, ?_⟩) ?_ ?_ ?_;rotate_left
 ·intro w';go_simp;with_reducible rfl
 rotate_left;·simp only [Act.put, sA_];rfl
 refine tk_ 2 27 ?_ #[Y,Y,Y,G,G,G] rfl rfl (by kernel_rfl) (fun _ _ _ h => h) (Or.inl ⟨by rfl, ?_⟩) hHeld ?_ ?_ ?_;rotate_left
 ·rintro w' ⟨s0, s1, s2, s3, s4⟩
  go_simp
  with_reducible rfl
 rotate_left;·simp only [Act.put, sA_];rfl
 refine one_ (i := 3) (N := some 28) #[Y,Y,Y,Y,G,G] rfl rfl (by kernel_rfl) (by decide) (fun K hK => ?_)
 refine goes_ Tryd.func73 (by kernel_rfl) rfl #[.agg #[.int .i64 sh, .int .i64 gk, .int .i64 gm, .int .i64 C]] (by rfl) rfl rfl (by simp only [List.map_toArray, List.map_cons, List.map_nil]; rfl) ?_
 with_reducible refine (hSize _).mono ?_
 rintro e w3 ⟨rfl, hb3⟩
 refine ⟨_, rfl, ?_⟩
 refine hK.out _ _ ⟨pw_cell_below hb3 hHeld.1, pw_cell_below hb3 hHeld.2.1, pw_cell_below hb3 hHeld.2.2.1, pw_cell_below hb3 hHeld.2.2.2.1, pw_cell_below hb3 hHeld.2.2.2.2⟩ (fun hHeld => ?_)
 clear hK K
 refine norm_ (a' := ?_) ?_ ?_;rotate_left
 ·show Act.put _ (some 28) _ = _
  simp only [Act.put, sA_]
  rfl
 refine pu_ 4 29 ?_ #[Y,Y,Y,Y,Y,G] rfl rfl (by kernel_rfl) (fun _ _ _ h => h) (Or.inl ⟨by rfl, ?_⟩) ?_ ?_ ?_;rotate_left
 ·intro w';go_simp;with_reducible rfl
 rotate_left;·simp only [Act.put, sA_];rfl
 refine pu_ 5 24 ?_ #[Y,Y,Y,Y,Y,Y] rfl rfl (by kernel_rfl) (fun _ _ _ h => h) (Or.inl ⟨by rfl, ?_⟩) ?_ ?_ ?_;rotate_left
 ·intro w';go_simp;with_reducible rfl
 rotate_left;·simp only [Act.put, sA_];rfl
 refine done_ (by kernel_rfl) ?_

 have hsW : Step (fun _ => False) W w3 := step2 ⟨pw_below_drewN (Below.refl _ _) 1, fun _ _ _ => rfl⟩ (Step.of_below hb3)
 have u3 := hsW.block r3 (fun h => h)
 have c3 : w3.cell? ⟨b + 1 + 1 + 1, 0, none⟩ = some (.int .i64 0) := by rw [Lib.cell_of_heap u3]; rfl
 have f3 := Lib.frozen_of_heap u3 0
 dsimp only [onlyN]
 gi_wp2
 have hk3 := blk_set u3 0 (.int .i64 2)
 have hsc : Step (fun q => q = b + 1 + 1 + 1) w3 (w3.setCell ⟨b + 1 + 1 + 1, 0, none⟩ (.int .i64 2)) := Step.setCell _ (p := ⟨b + 1 + 1 + 1, 0, none⟩) (S := fun q => q = b + 1 + 1 + 1) rfl _
 refine ⟨_, results_c1 rfl _ _ ⟨b + 1 + 1 + 1, 0, none⟩ rfl (loadVar30 _ _ 2 (by rw [Lib.cell_of_heap hk3]; rfl)), rfl, (step2 hs2' hsW).trans hsc (fun _ h => h) (fun k hk => Or.inr (by omega))⟩
def rawA (xs : List ByteArray) (F : FL) (B : BL) (off : Bool) (sh gk gm C at_ : Int) : ByteArray × Int :=
 if (firstP sh gk gm C at_).2 ≠ 0 then (⟨#[]⟩, (firstP sh gk gm C at_).2) else (⟨(rawG xs F B off (at_ * (nS sh : Int)) (nS sh)).1.toArray⟩, (rawG xs F B off (at_ * (nS sh : Int)) (nS sh)).2)
theorem firstP_ok {sh gk gm C at_ : Int} (h : (firstP sh gk gm C at_).2 = 0) : GeoOk sh gk gm C ∧ 0 ≤ at_ ∧ at_ < C := by
 unfold firstP at h
 by_cases hg : GeoOk sh gk gm C
 ·rw [if_pos hg] at h
  by_cases ha : 0 ≤ at_ ∧ at_ < C
  ·exact ⟨hg, ha⟩
  ·rw [if_neg ha] at h; exact absurd h (by decide)
 ·rw [if_neg hg] at h; exact absurd h (by decide)
theorem firstP_no {sh gk gm C at_ : Int} (h : (firstP sh gk gm C at_).2 ≠ 0) : firstP sh gk gm C at_ = (0, (firstP sh gk gm C at_).2) := by
 unfold firstP at h ⊢
 by_cases hg : GeoOk sh gk gm C
 ·rw [if_pos hg] at h ⊢
  by_cases ha : 0 ≤ at_ ∧ at_ < C
  ·rw [if_pos ha] at h; exact absurd rfl h
  ·rw [if_neg ha]
 ·rw [if_neg hg]
theorem cluster_Raw_all (w : World) (i : DevIds) (xs : List ByteArray) (F : FL) (B : BL) (off : Bool) (fuse nw : Int) (sh gk gm C at_ : Int) (h : DevAt w i xs F B off fuse nw) :
  Calls Tryd.prog 142 #[.pointer (some ⟨i.d, 0, none⟩), geoV sh gk gm C, .int .i64 at_] w fun e w' => e = .returned (.tuple #[.string (rawA xs F B off sh gk gm C at_).1, .int .i64 (rawA xs F B off sh gk gm C at_).2]) ∧ Step (fun _ => False) w w' := by
 unfold rawA
 by_cases h0 : (firstP sh gk gm C at_).2 ≠ 0
 ·rw [if_pos h0]
  exact cluster_Raw_why w i sh gk gm C at_ _ (firstP_no h0) (by simpa using h0)
 ·rw [if_neg h0]
  obtain ⟨hg, ha, hb⟩ := firstP_ok (by simpa using h0)
  exact cluster_Raw_gen w i xs F B off fuse nw sh gk gm C at_ h hg ha hb _ rfl
def writeA (n : Nat) (r : WrS) (sh gk gm C at_ : Int) (s : ByteArray) : WrS :=
 if (firstP sh gk gm C at_).2 ≠ 0 then { r with e := (firstP sh gk gm C at_).2 } else if s.size ≠ 512 * nS sh then { r with e := 2 } else wrK n (at_ * (nS sh : Int)) s { r with e := 0 } (nS sh)
theorem cluster_Write_all (w : World) (i : DevIds) (xs : List ByteArray) (F : FL) (B : BL) (off : Bool) (fuse nw : Int) (sh gk gm C at_ : Int) (s : ByteArray) (h : DevAt w i xs F B off fuse nw) (R : WrS) (hR : R = writeA xs.length ⟨F, off, fuse, nw, 0⟩ sh gk gm C at_ s) :
  Calls Tryd.prog 81 #[.pointer (some ⟨i.d, 0, none⟩), geoV sh gk gm C, .int .i64 at_, .string s] w fun e w' => e = .returned (.int .i64 R.e) ∧ DevAt w' i xs R.F B R.off R.fuse R.nw ∧ Step i.In w w' := by
 unfold writeA at hR
 by_cases h0 : (firstP sh gk gm C at_).2 ≠ 0
 ·rw [if_pos h0] at hR
  subst hR
  exact (cluster_Write_why w i sh gk gm C at_ s _ (firstP_no h0) (by simpa using h0)).mono fun e w' ⟨h1, h2⟩ => ⟨h1, h.step h2 (fun _ _ h => h), h2.mono (fun _ h => h.elim)⟩
 ·rw [if_neg h0] at hR
  obtain ⟨hg, ha, hb⟩ := firstP_ok (by simpa using h0)
  by_cases hs : s.size ≠ 512 * nS sh
  ·rw [if_pos hs] at hR
   subst hR
   exact (cluster_Write_formG w i xs F B off fuse nw sh gk gm C at_ s h hg ha hb hs).mono fun e w' ⟨h1, h2⟩ => ⟨h1, h.step h2 (fun _ _ h => h), h2.mono (fun _ h => h.elim)⟩
  ·rw [if_neg hs] at hR
   exact cluster_Write_gen w i xs F B off fuse nw sh gk gm C at_ s h hg ha hb (by omega) R hR
def readA (xs : List ByteArray) (F : FL) (B : BL) (off : Bool) (sh gk gm C at_ sum : Int) : ByteArray × Int :=
 if (rawA xs F B off sh gk gm C at_).2 ≠ 0 then (⟨#[]⟩, (rawA xs F B off sh gk gm C at_).2) else if sumC (rawA xs F B off sh gk gm C at_).1 = sum then ((rawA xs F B off sh gk gm C at_).1, 0) else (⟨#[]⟩, 9)
theorem rawA_size {xs : List ByteArray} {F : FL} {B : BL} {fuse : Int} {off : Bool} (h : DevOk xs F B fuse) {sh gk gm C at_ : Int} (h0 : (rawA xs F B off sh gk gm C at_).2 = 0) : (rawA xs F B off sh gk gm C at_).1.size ≤ 65536 := by
 unfold rawA at h0 ⊢
 by_cases h1 : (firstP sh gk gm C at_).2 ≠ 0
 ·rw [if_pos h1] at h0; exact absurd h0 h1
 ·rw [if_neg h1] at h0 ⊢
  obtain ⟨hg, _⟩ := firstP_ok (by simpa using h1)
  have hn := nS_le hg.2.1
  have hl := rawG_len h (nS sh) h0
  show (rawG xs F B off (at_ * (nS sh : Int)) (nS sh)).1.toArray.size ≤ 65536
  rw [List.size_toArray, hl]
  omega
set_option maxRecDepth 100000 in
set_option maxHeartbeats 4000000 in
theorem cluster_Read_all (w : World) (i : DevIds) (xs : List ByteArray) (F : FL) (B : BL) (off : Bool) (fuse nw : Int) (sh gk gm C at_ sum : Int) (hT : TabAt w) (h : DevAt w i xs F B off fuse nw) :
  Calls Tryd.prog 125 #[.pointer (some ⟨i.d, 0, none⟩), geoV sh gk gm C, .int .i64 at_, .int .u32 sum] w fun e w' => e = .returned (.tuple #[.string (readA xs F B off sh gk gm C at_ sum).1, .int .i64 (readA xs F B off sh gk gm C at_ sum).2]) ∧ Step (fun _ => False) w w' := by
 have hW : ∀ W, Step (fun _ => False) w W → Calls Tryd.prog 142 #[.pointer (some ⟨i.d, 0, none⟩), .agg #[.int .i64 sh, .int .i64 gk, .int .i64 gm, .int .i64 C], .int .i64 at_] W fun e w' => e = .returned (.tuple #[.string (rawA xs F B off sh gk gm C at_).1, .int .i64 (rawA xs F B off sh gk gm C at_).2]) ∧ Step (fun _ => False) W w' := fun W hW => cluster_Raw_all W i xs F B off fuse nw sh gk gm C at_ (h.step hW (fun _ _ h => h))
 have hz := rawA_size (off := off) h.ok (sh := sh) (gk := gk) (gm := gm) (C := C) (at_ := at_)
 unfold readA geoV
 generalize rawA xs F B off sh gk gm C at_ = r at *
 obtain ⟨R, y⟩ := r
 dsimp only at hW hz ⊢
 have hu23 := Tryd.underlying23
 have hs0 := Step.alloc (fun _ => False) w (.cells #[.int .i64 sh, .int .i64 gk, .int .i64 gm, .int .i64 C] 23)
 by_cases hy : y ≠ 0
 ·have hyy : (y != 0) = true := by simpa using hy
  rw [if_pos hy]
  go_enter Tryd.func125, Tryd.ntmps125
  go_wp2_with (first
   | (go_at_call 142; refine (hW _ hs0).mono ?_; rintro e w1 ⟨rfl, hs1⟩; have hs2 := step2 hs0 hs1))
  go_ret2
  exact ⟨rfl, hs2⟩
 replace hy : y = 0 := by simpa using hy
 subst hy
 replace hz := hz rfl
 rw [if_neg (by decide)]
 by_cases hc : sumC R = sum
 ·have hcc : (sumC R != sum) = false := by simpa using hc
  rw [if_pos hc]
  go_enter Tryd.func125, Tryd.ntmps125
  go_wp2_with (first
   | (go_at_call 142; refine (hW _ hs0).mono ?_; rintro e w1 ⟨rfl, hs1⟩; have hs2 := step2 hs0 hs1)
   | (go_at_call 101; refine (crc_Sum_any R _ (hT.step hs2 (fun h => h)) (by omega)).mono ?_; rintro e w2 ⟨rfl, hb2⟩))
  go_ret2
  exact ⟨rfl, step2 hs2 (Step.of_below hb2)⟩
 ·have hcc : (sumC R != sum) = true := by simpa using hc
  rw [if_neg hc]
  go_enter Tryd.func125, Tryd.ntmps125
  go_wp2_with (first
   | (go_at_call 142; refine (hW _ hs0).mono ?_; rintro e w1 ⟨rfl, hs1⟩; have hs2 := step2 hs0 hs1)
   | (go_at_call 101; refine (crc_Sum_any R _ (hT.step hs2 (fun h => h)) (by omega)).mono ?_; rintro e w2 ⟨rfl, hb2⟩))
  go_ret2
  exact ⟨rfl, step2 hs2 (Step.of_below hb2)⟩
end
end Go.Proofs.YtmmfplogkikbjaaDoor.HPB
