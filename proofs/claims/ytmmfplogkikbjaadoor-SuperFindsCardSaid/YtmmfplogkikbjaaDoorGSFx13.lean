/- a text of this claim -/
import Derived.Test.YtmmfplogkikbjaaDoorGSFx0
import Derived.Test.YtmmfplogkikbjaaDoorGSFx6
import Derived.Test.YtmmfplogkikbjaaDoorGSFx10
import Derived.Test.YtmmfplogkikbjaaDoorGSFx11
import Derived.Test.YtmmfplogkikbjaaDoorGSFx12
namespace Go.Proofs.YtmmfplogkikbjaaDoor.HSF
open Go.RowKit Go.Proofs.YtmmfplogkikbjaaDoorW.PrintWords Go.Proofs.YtmmfplogkikbjaaDoorW.PrintLast Go.Proofs.YtmmfplogkikbjaaDoorW.PrintMore
attribute [local go_sem] max2_int min2_int max_two min_two max_three min_three max_four min_four
set_option linter.unusedVariables false
set_option linter.unusedSimpArgs false
section
open Go Go.Shelf Go.Maps Go.Proofs.YtmmfplogkikbjaaDoor.Seq Go.Proofs.YtmmfplogkikbjaaDoor.MapL Go.Proofs.YtmmfplogkikbjaaDoorW.PrintLast
attribute [local go_sem] Oper.semAt_some max2_int min2_int max_two min_two
theorem frz9 {w : World} {g : Nat} {cs : Array Value} {t : TypeId} (h : w.heap[g]? = some (.cells cs t (0, 0))) : w.frozen? ⟨g, 0, none⟩ = false ∧ w.frozen? ⟨g, 1, none⟩ = false ∧ w.frozen? ⟨g, 2, none⟩ = false ∧ w.frozen? ⟨g, 3, none⟩ = false ∧ w.frozen? ⟨g, 4, none⟩ = false ∧ w.frozen? ⟨g, 5, none⟩ = false ∧ w.frozen? ⟨g, 6, none⟩ = false ∧ w.frozen? ⟨g, 7, none⟩ = false ∧ w.frozen? ⟨g, 8, none⟩ = false :=
 ⟨blk_frozen h 0, blk_frozen h 1, blk_frozen h 2, blk_frozen h 3, blk_frozen h 4, blk_frozen h 5, blk_frozen h 6, blk_frozen h 7, blk_frozen h 8⟩
section
variable {w : World} {g : Nat} {t : TypeId} {a b c d e f i j k : Value}
theorem put9 (h : w.heap[g]? = some (.cells #[a, b, c, d, e, f, i, j, k] t (0, 0))) (a' b' c' d' e' f' i' j' k' : Value) :
  (((((((((w.setCell ⟨g, 0, none⟩ a').setCell ⟨g, 1, none⟩ b').setCell ⟨g, 2, none⟩ c').setCell ⟨g, 3, none⟩ d').setCell ⟨g, 4, none⟩ e').setCell ⟨g, 5, none⟩ f').setCell ⟨g, 6, none⟩ i').setCell ⟨g, 7, none⟩ j').setCell ⟨g, 8, none⟩ k').heap[g]? = some (.cells #[a', b', c', d', e', f', i', j', k'] t (0, 0)) := by
 simpa using blk_set (blk_set (blk_set (blk_set (blk_set (blk_set (blk_set (blk_set (blk_set h 0 a') 1 b') 2 c') 3 d') 4 e') 5 f') 6 i') 7 j') 8 k'
theorem step_set (w : World) (g q : Nat) (v : Value) {w0 : World} (h : Step (fun k => k = g) w0 w) : Step (fun k => k = g) w0 (w.setCell ⟨g, q, none⟩ v) :=
 h.trans (Step.setCell w (p := ⟨g, q, none⟩) (S := fun q => q = g) rfl v) (fun _ h => h) (fun _ h => Or.inl h)
theorem step_put9 (w : World) (g : Nat) (a' b' c' d' e' f' i' j' k' : Value) : Step (fun k => k = g) w (((((((((w.setCell ⟨g, 0, none⟩ a').setCell ⟨g, 1, none⟩ b').setCell ⟨g, 2, none⟩ c').setCell ⟨g, 3, none⟩ d').setCell ⟨g, 4, none⟩ e').setCell ⟨g, 5, none⟩ f').setCell ⟨g, 6, none⟩ i').setCell ⟨g, 7, none⟩ j').setCell ⟨g, 8, none⟩ k') :=
 step_set _ _ _ _ (step_set _ _ _ _ (step_set _ _ _ _ (step_set _ _ _ _ (step_set _ _ _ _ (step_set _ _ _ _ (step_set _ _ _ _ (step_set _ _ _ _ (step_set _ _ _ _ (Step.refl _ _)))))))))
theorem below_put9 {w0 : World} (hb : Below w0.heap.size w0 w) (hg : w0.heap.size ≤ g) (a' b' c' d' e' f' i' j' k' : Value) : Below w0.heap.size w0 (((((((((w.setCell ⟨g, 0, none⟩ a').setCell ⟨g, 1, none⟩ b').setCell ⟨g, 2, none⟩ c').setCell ⟨g, 3, none⟩ d').setCell ⟨g, 4, none⟩ e').setCell ⟨g, 5, none⟩ f').setCell ⟨g, 6, none⟩ i').setCell ⟨g, 7, none⟩ j').setCell ⟨g, 8, none⟩ k') :=
 hb.trans ((step_put9 w g a' b' c' d' e' f' i' j' k').below hb.size (fun k hk => hk ▸ hg))
end
theorem tl_inj {a b : ByteArray} (h : a.toList = b.toList) : a = b := by
 rw [ByteArray.toList_eq, ByteArray.toList_eq] at h
 exact ByteArray.ext (Array.toList_inj.1 h)
theorem magic_list : magicS.toList = [99, 97, 117, 108, 107, 32, 48, 49] := by rw [ByteArray.toList_eq]; rfl
def ws7 : List Int := [8, 1, 1, 1, 1, 4, 4]
def vP (t : ByteArray) (j : Nat) : Int := (allV ws7 (bytesOf (t.extract 8 t.size))).getD j 0
def rP (t : ByteArray) : ByteArray := restV ws7 (t.extract 8 t.size)
def pP (t : ByteArray) (j : Nat) : Int := ptrV (bytesOf (rP t)) j
def decS (t : ByteArray) : ByteArray × Int := bytesS (wrap64 (vP t 0)) (wrap64 (vP t 1)) (wrap64 (vP t 2)) (wrap64 (vP t 3)) (wrap64 (vP t 5)) (wrap64 (vP t 6)) (pP t 0) (pP t 1) (pP t 2)
def IsS (t : ByteArray) : Prop := t.size = 512 ∧ decS t = (t, 0)
def supV (t : ByteArray) : Value := .agg #[.int .i64 (wrap64 (vP t 0)), .int .i64 (wrap64 (vP t 1)), .int .i64 (wrap64 (vP t 2)), .int .i64 (wrap64 (vP t 3)), .int .i64 (wrap64 (vP t 5)), .int .i64 (wrap64 (vP t 6)), .int .i64 (pP t 0), .int .i64 (pP t 1), .int .u32 (pP t 2)]
def zeroV : Value := .agg #[.int .i64 0, .int .i64 0, .int .i64 0, .int .i64 0, .int .i64 0, .int .i64 0, .int .i64 0, .int .i64 0, .int .u32 0]
open Classical in
noncomputable def parseR (t : ByteArray) : Value × Int := if IsS t then (supV t, 0) else (zeroV, 6)
theorem slice_lo (w : World) (s : ByteArray) (l : Int) (h0 : 0 ≤ l) (h1 : l ≤ s.size) : (Instr.slice 9 (.string s) (some (.int .i64 l)) none none).run Tryd.prog w = .ok (.string (s.extract l.toNat s.size)) w := by
 have ht := Tryd.underlying9
 simp [Instr.slice, run_underlying ht, Instr.sliceBounds, run_sliceBound, sliced, *]
theorem slice_hi (w : World) (s : ByteArray) (l : Int) (h0 : 0 ≤ l) (h1 : l ≤ s.size) : (Instr.slice 9 (.string s) none (some (.int .i64 l)) none).run Tryd.prog w = .ok (.string (s.extract 0 l.toNat)) w := by
 have ht := Tryd.underlying9
 have eh : (l.toNat : Int) = l := Int.toNat_of_nonneg (by omega)
 simp [Instr.slice, run_underlying ht, Instr.sliceBounds, run_sliceBound, sliced, eh, *]
theorem slice_8 (w : World) (s : ByteArray) (h : 8 ≤ s.size) : (Instr.slice 9 (.string s) (some (.int .i64 8)) none none).run Tryd.prog w = .ok (.string (s.extract 8 s.size)) w := slice_lo w s 8 (by decide) (by omega)
theorem slice_08 (w : World) (s : ByteArray) (h : 8 ≤ s.size) : (Instr.slice 9 (.string s) none (some (.int .i64 8)) none).run Tryd.prog w = .ok (.string (s.extract 0 8)) w := slice_hi w s 8 (by decide) (by omega)
theorem sect_magic (g sh k m c l a b s : Int) : (sectS g sh k m c l a b s).extract 0 8 = magicS := by
 unfold sectS bodyS
 rw [ByteArray.append_assoc, ByteArray.append_assoc, ByteArray.append_assoc]
 apply ByteArray.ext
 rw [ByteArray.data_extract, ByteArray.data_append]
 show (magicS.data ++ _).extract 0 magicS.data.size = _
 rw [Array.extract_append_left]
 rfl
theorem isS_magic {t : ByteArray} (h : IsS t) : t.extract 0 8 = magicS := by
 have h2 := h.2
 unfold decS bytesS at h2
 split at h2
 ·have e := congrArg Prod.fst h2
  dsimp only at e
  rw [← e, sect_magic]
 ·have e : (2 : Int) = 0 := congrArg Prod.snd h2
  omega
theorem C_at {k : IntKind} {W : World} {ad : Addr} {n : Nat} {xs : List Int} (h : Kd.C (Kd.int k) W (some ad) n xs) (j : Nat) (hj : j < n) : W.cell? (if j = 0 then ad else ⟨ad.block, ad.off + j, none⟩) = some (.int k (xs.getD j 0)) := by
 obtain ⟨h1, _, h3⟩ := h
 obtain ⟨ad', e, hx⟩ := h3 (by omega)
 cases e
 have hl : j < xs.length := by omega
 obtain ⟨cs, hlen, hK, hc⟩ := hx j xs[j] (List.getElem?_eq_getElem hl)
 have hK' : cs = [.int k xs[j]] := hK
 subst hK'
 have := hc 0 _ rfl
 have e1 : (Kd.int k).sz = 1 := rfl
 rw [e1, Nat.mul_one, Nat.add_zero] at this
 have e2 : ad.add j = (if j = 0 then ad else ⟨ad.block, ad.off + j, none⟩) := by
  by_cases hz : j = 0
  ·subst hz; simp [Addr.add]
  ·rw [if_neg hz]; simp [Addr.add, hz]
 rw [e2] at this
 rw [this, List.getD_eq_getElem?_getD, List.getElem?_eq_getElem hl]
 rfl
theorem field_All7 (W : World) (t : ByteArray) (A : Option Addr) (c1 : Nat) (hw : Kd.C (Kd.int .i64) W A 7 ws7) (h1 : 7 ≤ c1) (hs : 28 ≤ t.size) : Calls Tryd.prog 49 #[.string (t.extract 8 t.size), .slice A 7 c1] W fun e w' => ∃ ad c, e = .returned (.tuple #[.slice (some ad) 7 c, .string (rP t), .int .i64 0]) ∧ 7 ≤ c ∧ Kd.C (Kd.int .u64) w' (some ad) 7 (allV ws7 (bytesOf (t.extract 8 t.size))) ∧ Below W.heap.size W w' := by
 refine (field_All.calls 200 (t.extract 8 t.size) A c1 ws7 _ _ _ W hw h1 (field_All_ok ws7 (by decide) (by simp [ws7]) _ (by rw [ByteArray.size_extract]; simp [ws7, sumW]; omega) 200 (by simp [ws7]))).mono ?_
 rintro e w' ⟨v, rfl, hR, hb⟩
 obtain ⟨A', c, rfl, hc, hC⟩ := Kd.R_reads hR
 obtain ⟨ad, e, _⟩ := hC.2.2 (Nat.zero_lt_succ 6)
 subst e
 exact ⟨ad, c, rfl, hc, hC, hb⟩
theorem ref_All7 (W : World) (t : ByteArray) (A : Option Addr) (c1 : Nat) (hw : Kd.C (Kd.int .i64) W A 7 ws7) (h1 : 7 ≤ c1) (hs : 28 ≤ t.size) : Calls Tryd.prog 51 #[.string (t.extract 8 t.size), .slice A 7 c1] W fun e w' => ∃ ad c, e = .returned (.tuple #[.slice (some ad) 7 c, .string (rP t), .int .i64 0]) ∧ 7 ≤ c ∧ Kd.C (Kd.int .u64) w' (some ad) 7 (allV ws7 (bytesOf (t.extract 8 t.size))) ∧ Below W.heap.size W w' := by
 refine (caulkref07_All.calls 200 (t.extract 8 t.size) A c1 ws7 _ _ _ W hw h1 (ref_All_ok ws7 (by decide) (by simp [ws7]) _ (by rw [ByteArray.size_extract]; simp [ws7, sumW]; omega) 200 (by simp [ws7]))).mono ?_
 rintro e w' ⟨v, rfl, hR, hb⟩
 obtain ⟨A', c, rfl, hc, hC⟩ := Kd.R_reads hR
 obtain ⟨ad, e, _⟩ := hC.2.2 (Nat.zero_lt_succ 6)
 subst e
 exact ⟨ad, c, rfl, hc, hC, hb⟩
theorem rP_size {t : ByteArray} (hs : t.size = 512) : (rP t).size = 484 := by
 have h := congrArg List.length (restV_bytes ws7 (t.extract 8 t.size))
 rw [bytesOf_len, List.length_drop, bytesOf_len, ByteArray.size_extract] at h
 unfold rP
 rw [h]
 simp [ws7, sumW]
 omega
theorem field_GetPtr_any (W : World) (t : ByteArray) (hs : t.size = 512) : Calls Tryd.prog 50 #[.string (rP t)] W fun e w' => e = .returned (.tuple #[.agg #[.int .i64 (pP t 0), .int .i64 (pP t 1), .int .u32 (pP t 2)], .int .i64 0]) ∧ Below W.heap.size W w' :=
 field_GetPtr.calls 40 (rP t) _ _ _ _ W (field_GetPtr_ok (rP t) (by rw [rP_size hs]; omega) 40 (by omega))
theorem ref_GetPtr_any (W : World) (t : ByteArray) (hs : t.size = 512) : Calls Tryd.prog 52 #[.string (rP t)] W fun e w' => e = .returned (.tuple #[.agg #[.int .i64 (pP t 0), .int .i64 (pP t 1), .int .u32 (pP t 2)], .int .i64 0]) ∧ Below W.heap.size W w' :=
 caulkref07_GetPtr.calls 40 (rP t) _ _ _ _ W (ref_GetPtr_ok (rP t) (by rw [rP_size hs]; omega) 40 (by omega))
theorem blk3 {w : World} {g : Nat} {t : TypeId} {a b c : Value} (h : w.heap[g]? = some (.cells #[a, b, c] t (0, 0))) : w.cell? ⟨g, 0, none⟩ = some a ∧ w.cell? ⟨g, 1, none⟩ = some b ∧ w.cell? ⟨g, 2, none⟩ = some c := by
 refine ⟨?_, ?_, ?_⟩ <;> (rw [blk_cell h]; rfl)
set_option maxRecDepth 100000 in
set_option maxHeartbeats 16000000 in
theorem super_Parse_any (w : World) (hT : TabAt w) (h0 : 0 < w.heap.size) (t : ByteArray) : Calls Tryd.prog 11 #[.string t] w fun e w' => e = .returned (.tuple #[(parseR t).1, .int .i64 (parseR t).2]) ∧ Below w.heap.size w w' := by
 have hu23 := Tryd.underlying23
 have hu26 := Tryd.underlying26
 have hu28 := Tryd.underlying28
 have hB0 : Below w.heap.size w (w.alloc (.cells #[.int .i64 0, .int .i64 0, .int .i64 0, .int .i64 0, .int .i64 0, .int .i64 0, .int .i64 0, .int .i64 0, .int .u32 0] 28)) := (Below.refl _ _).alloc (Nat.le_refl _) _
 have hx0 := World.alloc_heap_new w (.cells #[.int .i64 0, .int .i64 0, .int .i64 0, .int .i64 0, .int .i64 0, .int .i64 0, .int .i64 0, .int .i64 0, .int .u32 0] 28)
 have hsz0 : w.heap.size + 1 = (w.alloc (.cells #[.int .i64 0, .int .i64 0, .int .i64 0, .int .i64 0, .int .i64 0, .int .i64 0, .int .i64 0, .int .i64 0, .int .u32 0] 28)).heap.size := by simp
 go_enter Tryd.func11, Tryd.ntmps11
 go_upto_region 1 with (fail)
 generalize w.alloc (.cells #[.int .i64 0, .int .i64 0, .int .i64 0, .int .i64 0, .int .i64 0, .int .i64 0, .int .i64 0, .int .i64 0, .int .u32 0] 28) = W0 at hB0 hx0 hsz0 ⊢
 obtain ⟨x0, x1, x2, x3, x4, x5, x6, x7, x8⟩ := blk9 hx0
 obtain ⟨f0, f1, f2, f3, f4, f5, f6, f7, f8⟩ := frz9 hx0
 by_cases hs : t.size = 512
 case neg =>
  have hp : parseR t = (zeroV, 6) := if_neg (fun h => hs h.1)
  have hne : ((t.size : Int) != 512) = true := by simp; omega
  clear hsz0
  go_wp2
  refine bodyPost_ret (results_ct rfl _ _ w.heap.size 28 _ (0, 0) _ rfl (put9 hx0 (.int .i64 0) (.int .i64 0) (.int .i64 0) (.int .i64 0) (.int .i64 0) (.int .i64 0) (.int .i64 0) (.int .i64 0) (.int .u32 0)) Tryd.underlying28 rfl (by kernel_rfl)) rfl ?_
  rw [hp]
  exact ⟨rfl, below_put9 hB0 (Nat.le_refl _) (.int .i64 0) (.int .i64 0) (.int .i64 0) (.int .i64 0) (.int .i64 0) (.int .i64 0) (.int .i64 0) (.int .i64 0) (.int .u32 0)⟩
 have hne : ((t.size : Int) != 512) = false := by simp; omega
 have hl1 := fun W => slice_08 W t (by omega)
 have hl2 := fun W => slice_8 W t (by omega)
 by_cases hm : t.extract 0 8 = magicS
 case neg =>
  have hp : parseR t = (zeroV, 6) := if_neg (fun h => hm (isS_magic h))
  have hmm : ((t.extract 0 8).toList == [99, 97, 117, 108, 107, 32, 48, 49]) = false := beq_eq_false_iff_ne.2 (fun e => hm (tl_inj (e.trans magic_list.symm)))
  have hl1 := fun W => slice_08 W t (by omega)
  have hne : ((t.size : Int) != 512) = false := by simp; omega
  clear hsz0 hs
  go_wp2
  refine bodyPost_ret (results_ct rfl _ _ w.heap.size 28 _ (0, 0) _ rfl (put9 hx0 (.int .i64 0) (.int .i64 0) (.int .i64 0) (.int .i64 0) (.int .i64 0) (.int .i64 0) (.int .i64 0) (.int .i64 0) (.int .u32 0)) Tryd.underlying28 rfl (by kernel_rfl)) rfl ?_
  rw [hp]
  exact ⟨rfl, below_put9 hB0 (Nat.le_refl _) (.int .i64 0) (.int .i64 0) (.int .i64 0) (.int .i64 0) (.int .i64 0) (.int .i64 0) (.int .i64 0) (.int .i64 0) (.int .u32 0)⟩
 have hmm : ((t.extract 0 8).toList == [99, 97, 117, 108, 107, 32, 48, 49]) = true := by rw [hm, magic_list]; rfl
 clear hm
 have kw := C_cells (k := .i64) (t := 3) [8, 1, 1, 1, 1, 4, 4] (World.alloc_heap_new W0 (.cells #[.int .i64 8, .int .i64 1, .int .i64 1, .int .i64 1, .int .i64 1, .int .i64 4, .int .i64 4] 3)) (by decide)
 have hA7 := field_All7 (W0.alloc (.cells #[.int .i64 8, .int .i64 1, .int .i64 1, .int .i64 1, .int .i64 1, .int .i64 4, .int .i64 4] 3)) t (some ⟨W0.heap.size, 0, none⟩) 7 kw (Nat.le_refl _) (by omega)
 have hGP := fun W => field_GetPtr_any W t hs
 have hdec : IsS t ↔ decS t = (t, 0) := ⟨fun h => h.2, fun h => ⟨hs, h⟩⟩
 obtain ⟨hsa, hsb⟩ : t.size ≤ 512 ∧ 512 ≤ t.size := ⟨by omega, by omega⟩
 clear hs
 have hpin := ptrV_in (rP t) 2
 have hBy : ∀ W, Below w.heap.size w W → Calls Tryd.prog 9 #[.agg #[.int .i64 (wrap64 (vP t 0)), .int .i64 (wrap64 (vP t 1)), .int .i64 (wrap64 (vP t 2)), .int .i64 (wrap64 (vP t 3)), .int .i64 (wrap64 (vP t 5)), .int .i64 (wrap64 (vP t 6)), .int .i64 (pP t 0), .int .i64 (pP t 1), .int .u32 (pP t 2)]] W fun e w' => e = .returned (.tuple #[.string (decS t).1, .int .i64 (decS t).2]) ∧ Below W.heap.size W w' := fun W hW => super_Bytes_any W (hT.below hW) (by have := hW.size; omega) _ _ _ _ _ _ _ _ _ hpin
 have hbw : Below W0.heap.size W0 (W0.alloc (.cells #[.int .i64 8, .int .i64 1, .int .i64 1, .int .i64 1, .int .i64 1, .int .i64 4, .int .i64 4] 3)) := (Below.refl _ _).alloc (Nat.le_refl _) _
 have hxx := Stepb hbw hx0
 have hBB := hB0.trans (hbw.mono hB0.size)
 have hzz := hbw.size
 clear kw x0 x1 x2 x3 x4 x5 x6 x7 x8 f0 f1 f2 f3 f4 f5 f6 f7 f8 hbw
 go_wp2_with (go_at_call 49; refine hA7.mono ?_)
 rintro e w2 ⟨ad, c, rfl, hc7, hC, hb2⟩
 have hx := Stepb hb2 hxx
 have hB := hBB.trans (hb2.mono hBB.size)
 have hszB : w.heap.size + 1 ≤ w2.heap.size := Nat.le_trans (by omega) hb2.size
 clear hxx hBB hb2 hx0 hB0 hsz0 hA7 hzz
 go_wp2_with (go_at_call 50; with_reducible refine (hGP _).mono ?_)
 rintro e w3 ⟨rfl, hb3⟩
 replace hx := Stepb hb3 hx
 replace hC := Kd.C_below hC hb3
 replace hB := hB.trans (hb3.mono hB.size)
 replace hszB := Nat.le_trans hszB hb3.size
 clear hb3 hGP hl1 hl2
 have hsv : supV t = .agg #[.int .i64 (wrap64 (vP t 0)), .int .i64 (wrap64 (vP t 1)), .int .i64 (wrap64 (vP t 2)), .int .i64 (wrap64 (vP t 3)), .int .i64 (wrap64 (vP t 5)), .int .i64 (wrap64 (vP t 6)), .int .i64 (pP t 0), .int .i64 (pP t 1), .int .u32 (pP t 2)] := rfl
 have n0 := C_at hC 0 (by omega)
 have n1 := C_at hC 1 (by omega)
 have n2 := C_at hC 2 (by omega)
 have n3 := C_at hC 3 (by omega)
 have n5 := C_at hC 5 (by omega)
 have n6 := C_at hC 6 (by omega)
 replace n0 : w3.cell? ad = some (.int .u64 (vP t 0)) := n0
 replace n1 : w3.cell? ⟨ad.block, ad.off + 1, none⟩ = some (.int .u64 (vP t 1)) := n1
 replace n2 : w3.cell? ⟨ad.block, ad.off + 2, none⟩ = some (.int .u64 (vP t 2)) := n2
 replace n3 : w3.cell? ⟨ad.block, ad.off + 3, none⟩ = some (.int .u64 (vP t 3)) := n3
 replace n5 : w3.cell? ⟨ad.block, ad.off + 5, none⟩ = some (.int .u64 (vP t 5)) := n5
 replace n6 : w3.cell? ⟨ad.block, ad.off + 6, none⟩ = some (.int .u64 (vP t 6)) := n6
 clear hC
 generalize vP t 0 = v0 at *
 generalize vP t 1 = v1 at *
 generalize vP t 2 = v2 at *
 generalize vP t 3 = v3 at *
 generalize vP t 5 = v5 at *
 generalize vP t 6 = v6 at *
 unfold pP at *
 generalize ptrV (bytesOf (rP t)) 0 = pa at *
 generalize ptrV (bytesOf (rP t)) 1 = pb at *
 generalize ptrV (bytesOf (rP t)) 2 = ps at *
 generalize decS t = dS at *
 generalize rP t = rT at *
 obtain ⟨dt, dn⟩ := dS
 dsimp only at hBy
 go_upto_region 7 with (fail)
 have hb4 : Below w3.heap.size w3 (w3.alloc (.cells #[.int .i64 pa, .int .i64 pb, .int .u32 ps] 26)) := (Below.refl _ _).alloc (Nat.le_refl _) _
 have hp7 := World.alloc_heap_new w3 (.cells #[.int .i64 pa, .int .i64 pb, .int .u32 ps] 26)
 have hg7 := hszB
 replace hx := Stepb hb4 hx
 replace n0 := pw_cell_below hb4 n0
 replace n1 := pw_cell_below hb4 n1
 replace n2 := pw_cell_below hb4 n2
 replace n3 := pw_cell_below hb4 n3
 replace n5 := pw_cell_below hb4 n5
 replace n6 := pw_cell_below hb4 n6
 have hB3 := hB.trans (hb4.mono hB.size)
 have hsz := Nat.le_trans hszB hb4.size
 clear hb4 hB hszB
 generalize w3.heap.size = g7 at hp7 hg7 ⊢
 generalize w3.alloc (.cells #[.int .i64 pa, .int .i64 pb, .int .u32 ps] 26) = W6 at hp7 hx n0 n1 n2 n3 n5 n6 hB3 hsz ⊢
 obtain ⟨p0, p1, p2⟩ := blk3 hp7
 go_wp2_with fail
 try simp only [List.append_eq, List.cons_append, List.nil_append]
 replace hB3 := hB3.trans ((below_drew1 (Below.refl W6.heap.size W6)).mono hB3.size)
 replace hx := Stepb (below_drew1 (Below.refl W6.heap.size W6)) hx
 replace hsz := Nat.le_trans hsz (below_drew1 (Below.refl W6.heap.size W6)).size
 refine start_ (n := 29) (S := fun w' => w'.cell? ad = some (.int .u64 v0) ∧ w'.cell? ⟨ad.block, ad.off + 1, none⟩ = some (.int .u64 v1) ∧ w'.cell? ⟨ad.block, ad.off + 2, none⟩ = some (.int .u64 v2) ∧ w'.cell? ⟨ad.block, ad.off + 3, none⟩ = some (.int .u64 v3) ∧ w'.cell? ⟨ad.block, ad.off + 5, none⟩ = some (.int .u64 v5) ∧ w'.cell? ⟨ad.block, ad.off + 6, none⟩ = some (.int .u64 v6) ∧ w'.cell? ⟨g7, 0, none⟩ = some (.int .i64 pa) ∧ w'.cell? ⟨g7, 1, none⟩ = some (.int .i64 pb) ∧ w'.cell? ⟨g7, 2, none⟩ = some (.int .u32 ps)) (ds := [28]) #[G,G,G,G,G,G,G,G,G,G,G,G,G,G,G,G,G,G,G,G,G,G,G,G,G,G,G,G,G] (by kernel_rfl) rfl rfl ⟨n0, n1, n2, n3, n5, n6, p0, p1, p2⟩ (fun hHeld => ?_)
 generalize W6.drew = w3 at hHeld hx hB3 hsz ⊢
 refine pure_ (i := 0) (N := some 39) (v := ?_) (a' := ?_) #[Y,G,G,G,G,G,G,G,G,G,G,G,G,G,G,G,G,G,G,G,G,G,G,G,G,G,G,G,G] rfl rfl (by kernel_rfl) (fun _ _ _ h => h) (Or.inl ⟨by rfl, ?_⟩) ?_ ?_;rotate_left
 ·intro w';go_simp;with_reducible rfl
 rotate_left;·simp only [Act.put, sA_];rfl
 refine pure_ (i := 1) (N := some 40) (v := ?_) (a' := ?_) #[Y,Y,G,G,G,G,G,G,G,G,G,G,G,G,G,G,G,G,G,G,G,G,G,G,G,G,G,G,G] rfl rfl (by kernel_rfl) (fun _ _ _ h => h) (Or.inl ⟨by rfl, ?_⟩) ?_ ?_;rotate_left
 ·intro w';go_simp;with_reducible rfl
 rotate_left;·simp only [Act.put, sA_];rfl
 refine pure_ (i := 4) (N := some 43) (v := ?_) (a' := ?_) #[Y,Y,G,G,Y,G,G,G,G,G,G,G,G,G,G,G,G,G,G,G,G,G,G,G,G,G,G,G,G] rfl rfl (by kernel_rfl) (fun _ _ _ h => h) (Or.inl ⟨by rfl, ?_⟩) ?_ ?_;rotate_left
 ·intro w';go_simp;with_reducible rfl
 rotate_left;·simp only [Act.put, sA_];rfl
 refine pure_ (i := 5) (N := some 44) (v := ?_) (a' := ?_) #[Y,Y,G,G,Y,Y,G,G,G,G,G,G,G,G,G,G,G,G,G,G,G,G,G,G,G,G,G,G,G] rfl rfl (by kernel_rfl) (fun _ _ _ h => h) (Or.inl ⟨by rfl, ?_⟩) ?_ ?_;rotate_left
 ·intro w';go_simp;with_reducible rfl
 rotate_left;·simp only [Act.put, sA_];rfl
 refine pure_ (i := 8) (N := some 47) (v := ?_) (a' := ?_) #[Y,Y,G,G,Y,Y,G,G,Y,G,G,G,G,G,G,G,G,G,G,G,G,G,G,G,G,G,G,G,G] rfl rfl (by kernel_rfl) (fun _ _ _ h => h) (Or.inl ⟨by rfl, ?_⟩) ?_ ?_;rotate_left
 ·intro w';go_simp;with_reducible rfl
 rotate_left;·simp only [Act.put, sA_];rfl
 refine pure_ (i := 9) (N := some 48) (v := ?_) (a' := ?_) #[Y,Y,G,G,Y,Y,G,G,Y,Y,G,G,G,G,G,G,G,G,G,G,G,G,G,G,G,G,G,G,G] rfl rfl (by kernel_rfl) (fun _ _ _ h => h) (Or.inl ⟨by rfl, ?_⟩) ?_ ?_;rotate_left
 ·intro w';go_simp;with_reducible rfl
 rotate_left;·simp only [Act.put, sA_];rfl
 refine pure_ (i := 12) (N := some 51) (v := ?_) (a' := ?_) #[Y,Y,G,G,Y,Y,G,G,Y,Y,G,G,Y,G,G,G,G,G,G,G,G,G,G,G,G,G,G,G,G] rfl rfl (by kernel_rfl) (fun _ _ _ h => h) (Or.inl ⟨by rfl, ?_⟩) ?_ ?_;rotate_left
 ·intro w';go_simp;with_reducible rfl
 rotate_left;·simp only [Act.put, sA_];rfl
 refine pure_ (i := 13) (N := some 52) (v := ?_) (a' := ?_) #[Y,Y,G,G,Y,Y,G,G,Y,Y,G,G,Y,Y,G,G,G,G,G,G,G,G,G,G,G,G,G,G,G] rfl rfl (by kernel_rfl) (fun _ _ _ h => h) (Or.inl ⟨by rfl, ?_⟩) ?_ ?_;rotate_left
 ·intro w';go_simp;with_reducible rfl
 rotate_left;·simp only [Act.put, sA_];rfl
 refine pure_ (i := 16) (N := some 55) (v := ?_) (a' := ?_) #[Y,Y,G,G,Y,Y,G,G,Y,Y,G,G,Y,Y,G,G,Y,G,G,G,G,G,G,G,G,G,G,G,G] rfl rfl (by kernel_rfl) (fun _ _ _ h => h) (Or.inl ⟨by rfl, ?_⟩) ?_ ?_;rotate_left
 ·intro w';go_simp;with_reducible rfl
 rotate_left;·simp only [Act.put, sA_];rfl
 refine pure_ (i := 17) (N := some 56) (v := ?_) (a' := ?_) #[Y,Y,G,G,Y,Y,G,G,Y,Y,G,G,Y,Y,G,G,Y,Y,G,G,G,G,G,G,G,G,G,G,G] rfl rfl (by kernel_rfl) (fun _ _ _ h => h) (Or.inl ⟨by rfl, ?_⟩) ?_ ?_;rotate_left
 ·intro w';go_simp;with_reducible rfl
 rotate_left;·simp only [Act.put, sA_];rfl
 refine pure_ (i := 21) (N := some 60) (v := ?_) (a' := ?_) #[Y,Y,G,G,Y,Y,G,G,Y,Y,G,G,Y,Y,G,G,Y,Y,G,G,G,Y,G,G,G,G,G,G,G] rfl rfl (by kernel_rfl) (fun _ _ _ h => h) (Or.inl ⟨by rfl, ?_⟩) ?_ ?_;rotate_left
 ·intro w';go_simp;with_reducible rfl
 rotate_left;·simp only [Act.put, sA_];rfl
 refine pure_ (i := 22) (N := some 61) (v := ?_) (a' := ?_) #[Y,Y,G,G,Y,Y,G,G,Y,Y,G,G,Y,Y,G,G,Y,Y,G,G,G,Y,Y,G,G,G,G,G,G] rfl rfl (by kernel_rfl) (fun _ _ _ h => h) (Or.inl ⟨by rfl, ?_⟩) ?_ ?_;rotate_left
 ·intro w';go_simp;with_reducible rfl
 rotate_left;·simp only [Act.put, sA_];rfl
 refine take_ (i := 2) (N := some 41) (v := ?_) (a' := ?_) #[Y,Y,Y,G,Y,Y,G,G,Y,Y,G,G,Y,Y,G,G,Y,Y,G,G,G,Y,Y,G,G,G,G,G,G] rfl rfl (by kernel_rfl) (fun _ _ _ h => h) (Or.inl ⟨by rfl, ?_⟩) hHeld ?_ ?_;rotate_left
 ·rintro w' ⟨s0, s1, s2, s3, s4, s5, s6, s7, s8⟩
  go_simp
  with_reducible rfl
 rotate_left;·simp only [Act.put, sA_];rfl
 refine pure_ (i := 3) (N := some 42) (v := ?_) (a' := ?_) #[Y,Y,Y,Y,Y,Y,G,G,Y,Y,G,G,Y,Y,G,G,Y,Y,G,G,G,Y,Y,G,G,G,G,G,G] rfl rfl (by kernel_rfl) (fun _ _ _ h => h) (Or.inl ⟨by rfl, ?_⟩) ?_ ?_;rotate_left
 ·intro w';go_simp;with_reducible rfl
 rotate_left;·simp only [Act.put, sA_];rfl
 refine take_ (i := 6) (N := some 45) (v := ?_) (a' := ?_) #[Y,Y,Y,Y,Y,Y,Y,G,Y,Y,G,G,Y,Y,G,G,Y,Y,G,G,G,Y,Y,G,G,G,G,G,G] rfl rfl (by kernel_rfl) (fun _ _ _ h => h) (Or.inl ⟨by rfl, ?_⟩) hHeld ?_ ?_;rotate_left
 ·rintro w' ⟨s0, s1, s2, s3, s4, s5, s6, s7, s8⟩
  go_simp
  with_reducible rfl
 rotate_left;·simp only [Act.put, sA_];rfl
 refine pure_ (i := 7) (N := some 46) (v := ?_) (a' := ?_) #[Y,Y,Y,Y,Y,Y,Y,Y,Y,Y,G,G,Y,Y,G,G,Y,Y,G,G,G,Y,Y,G,G,G,G,G,G] rfl rfl (by kernel_rfl) (fun _ _ _ h => h) (Or.inl ⟨by rfl, ?_⟩) ?_ ?_;rotate_left
 ·intro w';go_simp;with_reducible rfl
 rotate_left;·simp only [Act.put, sA_];rfl
 refine take_ (i := 10) (N := some 49) (v := ?_) (a' := ?_) #[Y,Y,Y,Y,Y,Y,Y,Y,Y,Y,Y,G,Y,Y,G,G,Y,Y,G,G,G,Y,Y,G,G,G,G,G,G] rfl rfl (by kernel_rfl) (fun _ _ _ h => h) (Or.inl ⟨by rfl, ?_⟩) hHeld ?_ ?_;rotate_left
 ·rintro w' ⟨s0, s1, s2, s3, s4, s5, s6, s7, s8⟩
  go_simp
  with_reducible rfl
 rotate_left;·simp only [Act.put, sA_];rfl
 refine pure_ (i := 11) (N := some 50) (v := ?_) (a' := ?_) #[Y,Y,Y,Y,Y,Y,Y,Y,Y,Y,Y,Y,Y,Y,G,G,Y,Y,G,G,G,Y,Y,G,G,G,G,G,G] rfl rfl (by kernel_rfl) (fun _ _ _ h => h) (Or.inl ⟨by rfl, ?_⟩) ?_ ?_;rotate_left
 ·intro w';go_simp;with_reducible rfl
 rotate_left;·simp only [Act.put, sA_];rfl
 refine take_ (i := 14) (N := some 53) (v := ?_) (a' := ?_) #[Y,Y,Y,Y,Y,Y,Y,Y,Y,Y,Y,Y,Y,Y,Y,G,Y,Y,G,G,G,Y,Y,G,G,G,G,G,G] rfl rfl (by kernel_rfl) (fun _ _ _ h => h) (Or.inl ⟨by rfl, ?_⟩) hHeld ?_ ?_;rotate_left
 ·rintro w' ⟨s0, s1, s2, s3, s4, s5, s6, s7, s8⟩
  go_simp
  with_reducible rfl
 rotate_left;·simp only [Act.put, sA_];rfl
 refine pure_ (i := 15) (N := some 54) (v := ?_) (a' := ?_) #[Y,Y,Y,Y,Y,Y,Y,Y,Y,Y,Y,Y,Y,Y,Y,Y,Y,Y,G,G,G,Y,Y,G,G,G,G,G,G] rfl rfl (by kernel_rfl) (fun _ _ _ h => h) (Or.inl ⟨by rfl, ?_⟩) ?_ ?_;rotate_left
 ·intro w';go_simp;with_reducible rfl
 rotate_left;·simp only [Act.put, sA_];rfl
 refine take_ (i := 18) (N := some 57) (v := ?_) (a' := ?_) #[Y,Y,Y,Y,Y,Y,Y,Y,Y,Y,Y,Y,Y,Y,Y,Y,Y,Y,Y,G,G,Y,Y,G,G,G,G,G,G] rfl rfl (by kernel_rfl) (fun _ _ _ h => h) (Or.inl ⟨by rfl, ?_⟩) hHeld ?_ ?_;rotate_left
 ·rintro w' ⟨s0, s1, s2, s3, s4, s5, s6, s7, s8⟩
  go_simp
  with_reducible rfl
 rotate_left;·simp only [Act.put, sA_];rfl
 refine pure_ (i := 19) (N := some 58) (v := ?_) (a' := ?_) #[Y,Y,Y,Y,Y,Y,Y,Y,Y,Y,Y,Y,Y,Y,Y,Y,Y,Y,Y,Y,G,Y,Y,G,G,G,G,G,G] rfl rfl (by kernel_rfl) (fun _ _ _ h => h) (Or.inl ⟨by rfl, ?_⟩) ?_ ?_;rotate_left
 ·intro w';go_simp;with_reducible rfl
 rotate_left;·simp only [Act.put, sA_];rfl
 refine pure_ (i := 20) (N := some 59) (v := ?_) (a' := ?_) #[Y,Y,Y,Y,Y,Y,Y,Y,Y,Y,Y,Y,Y,Y,Y,Y,Y,Y,Y,Y,Y,Y,Y,G,G,G,G,G,G] rfl rfl (by kernel_rfl) (fun _ _ _ h => h) (Or.inl ⟨by rfl, ?_⟩) ?_ ?_;rotate_left
 ·intro w';go_simp;with_reducible rfl
 rotate_left;·simp only [Act.put, sA_];rfl
 refine take_ (i := 23) (N := some 62) (v := ?_) (a' := ?_) #[Y,Y,Y,Y,Y,Y,Y,Y,Y,Y,Y,Y,Y,Y,Y,Y,Y,Y,Y,Y,Y,Y,Y,Y,G,G,G,G,G] rfl rfl (by kernel_rfl) (fun _ _ _ h => h) (Or.inl ⟨by rfl, ?_⟩) hHeld ?_ ?_;rotate_left
 ·rintro w' ⟨s0, s1, s2, s3, s4, s5, s6, s7, s8⟩
  go_simp
  with_reducible rfl
 rotate_left;·simp only [Act.put, sA_];rfl
 refine pure_ (i := 24) (N := some 63) (v := ?_) (a' := ?_) #[Y,Y,Y,Y,Y,Y,Y,Y,Y,Y,Y,Y,Y,Y,Y,Y,Y,Y,Y,Y,Y,Y,Y,Y,Y,G,G,G,G] rfl rfl (by kernel_rfl) (fun _ _ _ h => h) (Or.inl ⟨by rfl, ?_⟩) ?_ ?_;rotate_left
 ·intro w';go_simp;with_reducible rfl
 rotate_left;·simp only [Act.put, sA_];rfl
 refine take_ (i := 25) (N := some 64) (v := ?_) (a' := ?_) #[Y,Y,Y,Y,Y,Y,Y,Y,Y,Y,Y,Y,Y,Y,Y,Y,Y,Y,Y,Y,Y,Y,Y,Y,Y,Y,G,G,G] rfl rfl (by kernel_rfl) (fun _ _ _ h => h) (Or.inl ⟨by rfl, ?_⟩) hHeld ?_ ?_;rotate_left
 ·rintro w' ⟨s0, s1, s2, s3, s4, s5, s6, s7, s8⟩
  go_simp
  with_reducible rfl
 rotate_left;·simp only [Act.put, sA_];rfl
 refine pure_ (i := 26) (N := some 65) (v := ?_) (a' := ?_) #[Y,Y,Y,Y,Y,Y,Y,Y,Y,Y,Y,Y,Y,Y,Y,Y,Y,Y,Y,Y,Y,Y,Y,Y,Y,Y,Y,G,G] rfl rfl (by kernel_rfl) (fun _ _ _ h => h) (Or.inl ⟨by rfl, ?_⟩) ?_ ?_;rotate_left
 ·intro w';go_simp;with_reducible rfl
 rotate_left;·simp only [Act.put, sA_];rfl
 refine one_ (i := 27) (N := some 8) #[Y,Y,Y,Y,Y,Y,Y,Y,Y,Y,Y,Y,Y,Y,Y,Y,Y,Y,Y,Y,Y,Y,Y,Y,Y,Y,Y,Y,G] rfl rfl (by kernel_rfl) (by decide) (fun K hK => ?_)
 refine value_ (w1 := ?_) (v := ?_) (by rfl) rfl ?_ ?_
 rotate_left 2
 ·go_simp
  constructor
  ·rfl
  ·rfl
 have hb3 : Below w3.heap.size w3 (w3.alloc (.cells #[.int .i64 0, .int .i64 0, .int .i64 0, .int .i64 0, .int .i64 0, .int .i64 0, .int .i64 0, .int .i64 0, .int .u32 0] 28)) := (Below.refl _ _).alloc (Nat.le_refl _) _
 have hz8 := World.alloc_heap_new w3 (.cells #[.int .i64 0, .int .i64 0, .int .i64 0, .int .i64 0, .int .i64 0, .int .i64 0, .int .i64 0, .int .i64 0, .int .u32 0] 28)
 have hg8 := hB3.size
 replace hx := Stepb hb3 hx
 replace hB3 := hB3.trans (hb3.mono hB3.size)
 have hg8b : w.heap.size + 1 ≤ w3.heap.size := hsz
 replace hsz := Nat.le_trans hsz hb3.size
 generalize w3.heap.size = g8 at hz8 hg8 hg8b ⊢
 generalize w3.alloc (.cells #[.int .i64 0, .int .i64 0, .int .i64 0, .int .i64 0, .int .i64 0, .int .i64 0, .int .i64 0, .int .i64 0, .int .u32 0] 28) = w4 at hb3 hz8 hx hB3 hsz ⊢
 refine hK.out _ _ ⟨pw_cell_below hb3 hHeld.1, pw_cell_below hb3 hHeld.2.1, pw_cell_below hb3 hHeld.2.2.1, pw_cell_below hb3 hHeld.2.2.2.1, pw_cell_below hb3 hHeld.2.2.2.2.1, pw_cell_below hb3 hHeld.2.2.2.2.2.1, pw_cell_below hb3 hHeld.2.2.2.2.2.2.1, pw_cell_below hb3 hHeld.2.2.2.2.2.2.2.1, pw_cell_below hb3 hHeld.2.2.2.2.2.2.2.2⟩ (fun hHeld => ?_)
 clear hK K
 refine norm_ (a' := ?_) ?_ ?_;rotate_left
 ·show Act.put _ (some 8) _ = _
  simp only [Act.put, sA_]
  rfl
 refine last_ (i := 28) (N := none) #[Y,Y,Y,Y,Y,Y,Y,Y,Y,Y,Y,Y,Y,Y,Y,Y,Y,Y,Y,Y,Y,Y,Y,Y,Y,Y,Y,Y,Y] rfl rfl (by kernel_rfl) (by decide) (fun K hK => ?_)
 obtain ⟨z0, z1, z2, z3, z4, z5, z6, z7, z8⟩ := blk9 hz8
 obtain ⟨q0, q1, q2, q3, q4, q5, q6, q7, q8⟩ := frz9 hz8
 refine skip_ (w1 := ?_) (by rfl) rfl ?_ ?_;rotate_left
 ·go_simp
  rfl
 refine hK.out _ _ ?_
 clear hK K
 refine done_ (by kernel_rfl) ?_

 clear hHeld n0 n1 n2 n3 n5 n6 p0 p1 p2 hp7 hg7
 have hst8 := step_put9 w4 g8 (.int .i64 (wrap64 v0)) (.int .i64 (wrap64 v1)) (.int .i64 (wrap64 v2)) (.int .i64 (wrap64 v3)) (.int .i64 (wrap64 v5)) (.int .i64 (wrap64 v6)) (.int .i64 pa) (.int .i64 pb) (.int .u32 ps)
 have hz9 := put9 hz8 (.int .i64 (wrap64 v0)) (.int .i64 (wrap64 v1)) (.int .i64 (wrap64 v2)) (.int .i64 (wrap64 v3)) (.int .i64 (wrap64 v5)) (.int .i64 (wrap64 v6)) (.int .i64 pa) (.int .i64 pb) (.int .u32 ps)
 replace hx := hst8.block hx (fun e => by omega)
 replace hB3 := below_put9 hB3 (g := g8) (by omega) (.int .i64 (wrap64 v0)) (.int .i64 (wrap64 v1)) (.int .i64 (wrap64 v2)) (.int .i64 (wrap64 v3)) (.int .i64 (wrap64 v5)) (.int .i64 (wrap64 v6)) (.int .i64 pa) (.int .i64 pb) (.int .u32 ps)
 clear hz8 hst8
 generalize (((((((((w4.setCell ⟨g8, 0, none⟩ (.int .i64 (wrap64 v0))).setCell ⟨g8, 1, none⟩ (.int .i64 (wrap64 v1))).setCell ⟨g8, 2, none⟩ (.int .i64 (wrap64 v2))).setCell ⟨g8, 3, none⟩ (.int .i64 (wrap64 v3))).setCell ⟨g8, 4, none⟩ (.int .i64 (wrap64 v5))).setCell ⟨g8, 5, none⟩ (.int .i64 (wrap64 v6))).setCell ⟨g8, 6, none⟩ (.int .i64 pa)).setCell ⟨g8, 7, none⟩ (.int .i64 pb)).setCell ⟨g8, 8, none⟩ (.int .u32 ps)) = W8 at hz9 hx hB3 ⊢
 obtain ⟨y0, y1, y2, y3, y4, y5, y6, y7, y8⟩ := blk9 hz9
 go_wp2_with (go_at_call 9; with_reducible refine (hBy _ hB3).mono ?_)
 rintro e w9 ⟨rfl, hb9⟩
 replace hx := Stepb hb9 hx
 replace hz9 := Stepb hb9 hz9
 replace hB3 := hB3.trans (hb9.mono hB3.size)
 clear hb9 y0 y1 y2 y3 y4 y5 y6 y7 y8 hBy
 obtain ⟨y0, y1, y2, y3, y4, y5, y6, y7, y8⟩ := blk9 hz9
 obtain ⟨x0, x1, x2, x3, x4, x5, x6, x7, x8⟩ := blk9 hx
 obtain ⟨f0, f1, f2, f3, f4, f5, f6, f7, f8⟩ := frz9 hx
 by_cases hn : dn = 0
 ·have hn1 : (dn != 0) = false := by simpa using hn
  by_cases hd : dt = t
  ·have hd1 : (dt.toList == t.toList) = true := by rw [hd]; simp
   have hp : parseR t = (supV t, 0) := if_pos (hdec.2 (by rw [hn, hd]))
   clear hn hd hdec
   go_wp2
   refine bodyPost_ret (results_ct rfl _ _ w.heap.size 28 _ (0, 0) _ rfl (put9 hx (.int .i64 (wrap64 v0)) (.int .i64 (wrap64 v1)) (.int .i64 (wrap64 v2)) (.int .i64 (wrap64 v3)) (.int .i64 (wrap64 v5)) (.int .i64 (wrap64 v6)) (.int .i64 pa) (.int .i64 pb) (.int .u32 ps)) Tryd.underlying28 rfl (by kernel_rfl)) rfl ?_
   rw [hp]
   rw [hsv]
   exact ⟨rfl, below_put9 hB3 (Nat.le_refl _) (.int .i64 (wrap64 v0)) (.int .i64 (wrap64 v1)) (.int .i64 (wrap64 v2)) (.int .i64 (wrap64 v3)) (.int .i64 (wrap64 v5)) (.int .i64 (wrap64 v6)) (.int .i64 pa) (.int .i64 pb) (.int .u32 ps)⟩
  ·have hd1 : (dt.toList == t.toList) = false := beq_eq_false_iff_ne.2 (fun e => hd (tl_inj e))
   have hp : parseR t = (zeroV, 6) := if_neg (fun h => hd (congrArg Prod.fst (hdec.1 h)))
   clear hn hd hdec
   go_wp2
   refine bodyPost_ret (results_ct rfl _ _ w.heap.size 28 _ (0, 0) _ rfl (put9 hx (.int .i64 0) (.int .i64 0) (.int .i64 0) (.int .i64 0) (.int .i64 0) (.int .i64 0) (.int .i64 0) (.int .i64 0) (.int .u32 0)) Tryd.underlying28 rfl (by kernel_rfl)) rfl ?_
   rw [hp]
   exact ⟨rfl, below_put9 hB3 (Nat.le_refl _) (.int .i64 0) (.int .i64 0) (.int .i64 0) (.int .i64 0) (.int .i64 0) (.int .i64 0) (.int .i64 0) (.int .i64 0) (.int .u32 0)⟩
 ·have hn1 : (dn != 0) = true := by simpa using hn
  have hp : parseR t = (zeroV, 6) := if_neg (fun h => hn (congrArg Prod.snd (hdec.1 h)))
  clear hn hdec
  go_wp2
  refine bodyPost_ret (results_ct rfl _ _ w.heap.size 28 _ (0, 0) _ rfl (put9 hx (.int .i64 0) (.int .i64 0) (.int .i64 0) (.int .i64 0) (.int .i64 0) (.int .i64 0) (.int .i64 0) (.int .i64 0) (.int .u32 0)) Tryd.underlying28 rfl (by kernel_rfl)) rfl ?_
  rw [hp]
  exact ⟨rfl, below_put9 hB3 (Nat.le_refl _) (.int .i64 0) (.int .i64 0) (.int .i64 0) (.int .i64 0) (.int .i64 0) (.int .i64 0) (.int .i64 0) (.int .i64 0) (.int .u32 0)⟩
theorem ref10_Bytes_any (W : World) (g sh k m c l a b s : Int) (hs : 0 ≤ s ∧ s < 4294967296) : Calls Tryd.prog 10 #[.agg #[.int .i64 g, .int .i64 sh, .int .i64 k, .int .i64 m, .int .i64 c, .int .i64 l, .int .i64 a, .int .i64 b, .int .u32 s]] W fun e w' => e = .returned (.tuple #[.string (bytesS g sh k m c l a b s).1, .int .i64 (bytesS g sh k m c l a b s).2]) ∧ Below W.heap.size W w' := by
 obtain ⟨k0, hk⟩ := ref10_Bytes_is g sh k m c l a b s hs
 exact caulkref10_Bytes.calls k0 g sh k m c l a b s _ _ W (hk k0 (Nat.le_refl _))
set_option maxRecDepth 100000 in
set_option maxHeartbeats 16000000 in
theorem ref10_Parse_any (w : World) (t : ByteArray) : Calls Tryd.prog 12 #[.string t] w fun e w' => e = .returned (.tuple #[(parseR t).1, .int .i64 (parseR t).2]) ∧ Below w.heap.size w w' := by
 have hu23 := Tryd.underlying23
 have hu26 := Tryd.underlying26
 have hu28 := Tryd.underlying28
 have hB0 : Below w.heap.size w (w.alloc (.cells #[.int .i64 0, .int .i64 0, .int .i64 0, .int .i64 0, .int .i64 0, .int .i64 0, .int .i64 0, .int .i64 0, .int .u32 0] 28)) := (Below.refl _ _).alloc (Nat.le_refl _) _
 have hx0 := World.alloc_heap_new w (.cells #[.int .i64 0, .int .i64 0, .int .i64 0, .int .i64 0, .int .i64 0, .int .i64 0, .int .i64 0, .int .i64 0, .int .u32 0] 28)
 have hsz0 : w.heap.size + 1 = (w.alloc (.cells #[.int .i64 0, .int .i64 0, .int .i64 0, .int .i64 0, .int .i64 0, .int .i64 0, .int .i64 0, .int .i64 0, .int .u32 0] 28)).heap.size := by simp
 go_enter Tryd.func12, Tryd.ntmps12
 go_upto_region 1 with (fail)
 generalize w.alloc (.cells #[.int .i64 0, .int .i64 0, .int .i64 0, .int .i64 0, .int .i64 0, .int .i64 0, .int .i64 0, .int .i64 0, .int .u32 0] 28) = W0 at hB0 hx0 hsz0 ⊢
 obtain ⟨x0, x1, x2, x3, x4, x5, x6, x7, x8⟩ := blk9 hx0
 obtain ⟨f0, f1, f2, f3, f4, f5, f6, f7, f8⟩ := frz9 hx0
 by_cases hs : t.size = 512
 case neg =>
  have hp : parseR t = (zeroV, 6) := if_neg (fun h => hs h.1)
  have hne : ((t.size : Int) != 512) = true := by simp; omega
  clear hsz0
  go_wp2
  refine bodyPost_ret (results_ct rfl _ _ w.heap.size 28 _ (0, 0) _ rfl (put9 hx0 (.int .i64 0) (.int .i64 0) (.int .i64 0) (.int .i64 0) (.int .i64 0) (.int .i64 0) (.int .i64 0) (.int .i64 0) (.int .u32 0)) Tryd.underlying28 rfl (by kernel_rfl)) rfl ?_
  rw [hp]
  exact ⟨rfl, below_put9 hB0 (Nat.le_refl _) (.int .i64 0) (.int .i64 0) (.int .i64 0) (.int .i64 0) (.int .i64 0) (.int .i64 0) (.int .i64 0) (.int .i64 0) (.int .u32 0)⟩
 have hne : ((t.size : Int) != 512) = false := by simp; omega
 have hl1 := fun W => slice_08 W t (by omega)
 have hl2 := fun W => slice_8 W t (by omega)
 have kw := C_cells (k := .i64) (t := 3) [8, 1, 1, 1, 1, 4, 4] (World.alloc_heap_new W0 (.cells #[.int .i64 8, .int .i64 1, .int .i64 1, .int .i64 1, .int .i64 1, .int .i64 4, .int .i64 4] 3)) (by decide)
 have hA7 := ref_All7 (W0.alloc (.cells #[.int .i64 8, .int .i64 1, .int .i64 1, .int .i64 1, .int .i64 1, .int .i64 4, .int .i64 4] 3)) t (some ⟨W0.heap.size, 0, none⟩) 7 kw (Nat.le_refl _) (by omega)
 have hGP := fun W => ref_GetPtr_any W t hs
 have hdec : IsS t ↔ decS t = (t, 0) := ⟨fun h => h.2, fun h => ⟨hs, h⟩⟩
 obtain ⟨hsa, hsb⟩ : t.size ≤ 512 ∧ 512 ≤ t.size := ⟨by omega, by omega⟩
 clear hs
 have hpin := ptrV_in (rP t) 2
 have hBy : ∀ W, Below w.heap.size w W → Calls Tryd.prog 10 #[.agg #[.int .i64 (wrap64 (vP t 0)), .int .i64 (wrap64 (vP t 1)), .int .i64 (wrap64 (vP t 2)), .int .i64 (wrap64 (vP t 3)), .int .i64 (wrap64 (vP t 5)), .int .i64 (wrap64 (vP t 6)), .int .i64 (pP t 0), .int .i64 (pP t 1), .int .u32 (pP t 2)]] W fun e w' => e = .returned (.tuple #[.string (decS t).1, .int .i64 (decS t).2]) ∧ Below W.heap.size W w' := fun W hW => ref10_Bytes_any W _ _ _ _ _ _ _ _ _ hpin
 have hbw : Below W0.heap.size W0 (W0.alloc (.cells #[.int .i64 8, .int .i64 1, .int .i64 1, .int .i64 1, .int .i64 1, .int .i64 4, .int .i64 4] 3)) := (Below.refl _ _).alloc (Nat.le_refl _) _
 have hxx := Stepb hbw hx0
 have hBB := hB0.trans (hbw.mono hB0.size)
 have hzz := hbw.size
 clear kw x0 x1 x2 x3 x4 x5 x6 x7 x8 f0 f1 f2 f3 f4 f5 f6 f7 f8 hbw
 go_wp2_with (go_at_call 51; refine hA7.mono ?_)
 rintro e w2 ⟨ad, c, rfl, hc7, hC, hb2⟩
 have hx := Stepb hb2 hxx
 have hB := hBB.trans (hb2.mono hBB.size)
 have hszB : w.heap.size + 1 ≤ w2.heap.size := Nat.le_trans (by omega) hb2.size
 clear hxx hBB hb2 hx0 hB0 hsz0 hA7 hzz
 go_wp2_with (go_at_call 52; with_reducible refine (hGP _).mono ?_)
 rintro e w3 ⟨rfl, hb3⟩
 replace hx := Stepb hb3 hx
 replace hC := Kd.C_below hC hb3
 replace hB := hB.trans (hb3.mono hB.size)
 replace hszB := Nat.le_trans hszB hb3.size
 clear hb3 hGP hl1 hl2
 have hsv : supV t = .agg #[.int .i64 (wrap64 (vP t 0)), .int .i64 (wrap64 (vP t 1)), .int .i64 (wrap64 (vP t 2)), .int .i64 (wrap64 (vP t 3)), .int .i64 (wrap64 (vP t 5)), .int .i64 (wrap64 (vP t 6)), .int .i64 (pP t 0), .int .i64 (pP t 1), .int .u32 (pP t 2)] := rfl
 have n0 := C_at hC 0 (by omega)
 have n1 := C_at hC 1 (by omega)
 have n2 := C_at hC 2 (by omega)
 have n3 := C_at hC 3 (by omega)
 have n5 := C_at hC 5 (by omega)
 have n6 := C_at hC 6 (by omega)
 replace n0 : w3.cell? ad = some (.int .u64 (vP t 0)) := n0
 replace n1 : w3.cell? ⟨ad.block, ad.off + 1, none⟩ = some (.int .u64 (vP t 1)) := n1
 replace n2 : w3.cell? ⟨ad.block, ad.off + 2, none⟩ = some (.int .u64 (vP t 2)) := n2
 replace n3 : w3.cell? ⟨ad.block, ad.off + 3, none⟩ = some (.int .u64 (vP t 3)) := n3
 replace n5 : w3.cell? ⟨ad.block, ad.off + 5, none⟩ = some (.int .u64 (vP t 5)) := n5
 replace n6 : w3.cell? ⟨ad.block, ad.off + 6, none⟩ = some (.int .u64 (vP t 6)) := n6
 clear hC
 generalize vP t 0 = v0 at *
 generalize vP t 1 = v1 at *
 generalize vP t 2 = v2 at *
 generalize vP t 3 = v3 at *
 generalize vP t 5 = v5 at *
 generalize vP t 6 = v6 at *
 unfold pP at *
 generalize ptrV (bytesOf (rP t)) 0 = pa at *
 generalize ptrV (bytesOf (rP t)) 1 = pb at *
 generalize ptrV (bytesOf (rP t)) 2 = ps at *
 generalize decS t = dS at *
 generalize rP t = rT at *
 obtain ⟨dt, dn⟩ := dS
 dsimp only at hBy
 go_upto_region 5 with (fail)
 have hb4 : Below w3.heap.size w3 (w3.alloc (.cells #[.int .i64 pa, .int .i64 pb, .int .u32 ps] 26)) := (Below.refl _ _).alloc (Nat.le_refl _) _
 have hp7 := World.alloc_heap_new w3 (.cells #[.int .i64 pa, .int .i64 pb, .int .u32 ps] 26)
 have hg7 := hszB
 replace hx := Stepb hb4 hx
 replace n0 := pw_cell_below hb4 n0
 replace n1 := pw_cell_below hb4 n1
 replace n2 := pw_cell_below hb4 n2
 replace n3 := pw_cell_below hb4 n3
 replace n5 := pw_cell_below hb4 n5
 replace n6 := pw_cell_below hb4 n6
 have hB3 := hB.trans (hb4.mono hB.size)
 have hsz := Nat.le_trans hszB hb4.size
 clear hb4 hB hszB
 generalize w3.heap.size = g7 at hp7 hg7 ⊢
 generalize w3.alloc (.cells #[.int .i64 pa, .int .i64 pb, .int .u32 ps] 26) = W6 at hp7 hx n0 n1 n2 n3 n5 n6 hB3 hsz ⊢
 obtain ⟨p0, p1, p2⟩ := blk3 hp7
 go_wp2_with fail
 try simp only [List.append_eq, List.cons_append, List.nil_append]
 replace hB3 := hB3.trans ((below_drew1 (Below.refl W6.heap.size W6)).mono hB3.size)
 replace hx := Stepb (below_drew1 (Below.refl W6.heap.size W6)) hx
 replace hsz := Nat.le_trans hsz (below_drew1 (Below.refl W6.heap.size W6)).size
 refine start_ (n := 29) (S := fun w' => w'.cell? ad = some (.int .u64 v0) ∧ w'.cell? ⟨ad.block, ad.off + 1, none⟩ = some (.int .u64 v1) ∧ w'.cell? ⟨ad.block, ad.off + 2, none⟩ = some (.int .u64 v2) ∧ w'.cell? ⟨ad.block, ad.off + 3, none⟩ = some (.int .u64 v3) ∧ w'.cell? ⟨ad.block, ad.off + 5, none⟩ = some (.int .u64 v5) ∧ w'.cell? ⟨ad.block, ad.off + 6, none⟩ = some (.int .u64 v6) ∧ w'.cell? ⟨g7, 0, none⟩ = some (.int .i64 pa) ∧ w'.cell? ⟨g7, 1, none⟩ = some (.int .i64 pb) ∧ w'.cell? ⟨g7, 2, none⟩ = some (.int .u32 ps)) (ds := [28]) #[G,G,G,G,G,G,G,G,G,G,G,G,G,G,G,G,G,G,G,G,G,G,G,G,G,G,G,G,G] (by kernel_rfl) rfl rfl ⟨n0, n1, n2, n3, n5, n6, p0, p1, p2⟩ (fun hHeld => ?_)
 generalize W6.drew = w3 at hHeld hx hB3 hsz ⊢
 refine pure_ (i := 0) (N := some 29) (v := ?_) (a' := ?_) #[Y,G,G,G,G,G,G,G,G,G,G,G,G,G,G,G,G,G,G,G,G,G,G,G,G,G,G,G,G] rfl rfl (by kernel_rfl) (fun _ _ _ h => h) (Or.inl ⟨by rfl, ?_⟩) ?_ ?_;rotate_left
 ·intro w';go_simp;with_reducible rfl
 rotate_left;·simp only [Act.put, sA_];rfl
 refine pure_ (i := 1) (N := some 30) (v := ?_) (a' := ?_) #[Y,Y,G,G,G,G,G,G,G,G,G,G,G,G,G,G,G,G,G,G,G,G,G,G,G,G,G,G,G] rfl rfl (by kernel_rfl) (fun _ _ _ h => h) (Or.inl ⟨by rfl, ?_⟩) ?_ ?_;rotate_left
 ·intro w';go_simp;with_reducible rfl
 rotate_left;·simp only [Act.put, sA_];rfl
 refine pure_ (i := 4) (N := some 33) (v := ?_) (a' := ?_) #[Y,Y,G,G,Y,G,G,G,G,G,G,G,G,G,G,G,G,G,G,G,G,G,G,G,G,G,G,G,G] rfl rfl (by kernel_rfl) (fun _ _ _ h => h) (Or.inl ⟨by rfl, ?_⟩) ?_ ?_;rotate_left
 ·intro w';go_simp;with_reducible rfl
 rotate_left;·simp only [Act.put, sA_];rfl
 refine pure_ (i := 5) (N := some 34) (v := ?_) (a' := ?_) #[Y,Y,G,G,Y,Y,G,G,G,G,G,G,G,G,G,G,G,G,G,G,G,G,G,G,G,G,G,G,G] rfl rfl (by kernel_rfl) (fun _ _ _ h => h) (Or.inl ⟨by rfl, ?_⟩) ?_ ?_;rotate_left
 ·intro w';go_simp;with_reducible rfl
 rotate_left;·simp only [Act.put, sA_];rfl
 refine pure_ (i := 8) (N := some 37) (v := ?_) (a' := ?_) #[Y,Y,G,G,Y,Y,G,G,Y,G,G,G,G,G,G,G,G,G,G,G,G,G,G,G,G,G,G,G,G] rfl rfl (by kernel_rfl) (fun _ _ _ h => h) (Or.inl ⟨by rfl, ?_⟩) ?_ ?_;rotate_left
 ·intro w';go_simp;with_reducible rfl
 rotate_left;·simp only [Act.put, sA_];rfl
 refine pure_ (i := 9) (N := some 38) (v := ?_) (a' := ?_) #[Y,Y,G,G,Y,Y,G,G,Y,Y,G,G,G,G,G,G,G,G,G,G,G,G,G,G,G,G,G,G,G] rfl rfl (by kernel_rfl) (fun _ _ _ h => h) (Or.inl ⟨by rfl, ?_⟩) ?_ ?_;rotate_left
 ·intro w';go_simp;with_reducible rfl
 rotate_left;·simp only [Act.put, sA_];rfl
 refine pure_ (i := 12) (N := some 41) (v := ?_) (a' := ?_) #[Y,Y,G,G,Y,Y,G,G,Y,Y,G,G,Y,G,G,G,G,G,G,G,G,G,G,G,G,G,G,G,G] rfl rfl (by kernel_rfl) (fun _ _ _ h => h) (Or.inl ⟨by rfl, ?_⟩) ?_ ?_;rotate_left
 ·intro w';go_simp;with_reducible rfl
 rotate_left;·simp only [Act.put, sA_];rfl
 refine pure_ (i := 13) (N := some 42) (v := ?_) (a' := ?_) #[Y,Y,G,G,Y,Y,G,G,Y,Y,G,G,Y,Y,G,G,G,G,G,G,G,G,G,G,G,G,G,G,G] rfl rfl (by kernel_rfl) (fun _ _ _ h => h) (Or.inl ⟨by rfl, ?_⟩) ?_ ?_;rotate_left
 ·intro w';go_simp;with_reducible rfl
 rotate_left;·simp only [Act.put, sA_];rfl
 refine pure_ (i := 16) (N := some 45) (v := ?_) (a' := ?_) #[Y,Y,G,G,Y,Y,G,G,Y,Y,G,G,Y,Y,G,G,Y,G,G,G,G,G,G,G,G,G,G,G,G] rfl rfl (by kernel_rfl) (fun _ _ _ h => h) (Or.inl ⟨by rfl, ?_⟩) ?_ ?_;rotate_left
 ·intro w';go_simp;with_reducible rfl
 rotate_left;·simp only [Act.put, sA_];rfl
 refine pure_ (i := 17) (N := some 46) (v := ?_) (a' := ?_) #[Y,Y,G,G,Y,Y,G,G,Y,Y,G,G,Y,Y,G,G,Y,Y,G,G,G,G,G,G,G,G,G,G,G] rfl rfl (by kernel_rfl) (fun _ _ _ h => h) (Or.inl ⟨by rfl, ?_⟩) ?_ ?_;rotate_left
 ·intro w';go_simp;with_reducible rfl
 rotate_left;·simp only [Act.put, sA_];rfl
 refine pure_ (i := 21) (N := some 50) (v := ?_) (a' := ?_) #[Y,Y,G,G,Y,Y,G,G,Y,Y,G,G,Y,Y,G,G,Y,Y,G,G,G,Y,G,G,G,G,G,G,G] rfl rfl (by kernel_rfl) (fun _ _ _ h => h) (Or.inl ⟨by rfl, ?_⟩) ?_ ?_;rotate_left
 ·intro w';go_simp;with_reducible rfl
 rotate_left;·simp only [Act.put, sA_];rfl
 refine pure_ (i := 22) (N := some 51) (v := ?_) (a' := ?_) #[Y,Y,G,G,Y,Y,G,G,Y,Y,G,G,Y,Y,G,G,Y,Y,G,G,G,Y,Y,G,G,G,G,G,G] rfl rfl (by kernel_rfl) (fun _ _ _ h => h) (Or.inl ⟨by rfl, ?_⟩) ?_ ?_;rotate_left
 ·intro w';go_simp;with_reducible rfl
 rotate_left;·simp only [Act.put, sA_];rfl
 refine take_ (i := 2) (N := some 31) (v := ?_) (a' := ?_) #[Y,Y,Y,G,Y,Y,G,G,Y,Y,G,G,Y,Y,G,G,Y,Y,G,G,G,Y,Y,G,G,G,G,G,G] rfl rfl (by kernel_rfl) (fun _ _ _ h => h) (Or.inl ⟨by rfl, ?_⟩) hHeld ?_ ?_;rotate_left
 ·rintro w' ⟨s0, s1, s2, s3, s4, s5, s6, s7, s8⟩
  go_simp
  with_reducible rfl
 rotate_left;·simp only [Act.put, sA_];rfl
 refine pure_ (i := 3) (N := some 32) (v := ?_) (a' := ?_) #[Y,Y,Y,Y,Y,Y,G,G,Y,Y,G,G,Y,Y,G,G,Y,Y,G,G,G,Y,Y,G,G,G,G,G,G] rfl rfl (by kernel_rfl) (fun _ _ _ h => h) (Or.inl ⟨by rfl, ?_⟩) ?_ ?_;rotate_left
 ·intro w';go_simp;with_reducible rfl
 rotate_left;·simp only [Act.put, sA_];rfl
 refine take_ (i := 6) (N := some 35) (v := ?_) (a' := ?_) #[Y,Y,Y,Y,Y,Y,Y,G,Y,Y,G,G,Y,Y,G,G,Y,Y,G,G,G,Y,Y,G,G,G,G,G,G] rfl rfl (by kernel_rfl) (fun _ _ _ h => h) (Or.inl ⟨by rfl, ?_⟩) hHeld ?_ ?_;rotate_left
 ·rintro w' ⟨s0, s1, s2, s3, s4, s5, s6, s7, s8⟩
  go_simp
  with_reducible rfl
 rotate_left;·simp only [Act.put, sA_];rfl
 refine pure_ (i := 7) (N := some 36) (v := ?_) (a' := ?_) #[Y,Y,Y,Y,Y,Y,Y,Y,Y,Y,G,G,Y,Y,G,G,Y,Y,G,G,G,Y,Y,G,G,G,G,G,G] rfl rfl (by kernel_rfl) (fun _ _ _ h => h) (Or.inl ⟨by rfl, ?_⟩) ?_ ?_;rotate_left
 ·intro w';go_simp;with_reducible rfl
 rotate_left;·simp only [Act.put, sA_];rfl
 refine take_ (i := 10) (N := some 39) (v := ?_) (a' := ?_) #[Y,Y,Y,Y,Y,Y,Y,Y,Y,Y,Y,G,Y,Y,G,G,Y,Y,G,G,G,Y,Y,G,G,G,G,G,G] rfl rfl (by kernel_rfl) (fun _ _ _ h => h) (Or.inl ⟨by rfl, ?_⟩) hHeld ?_ ?_;rotate_left
 ·rintro w' ⟨s0, s1, s2, s3, s4, s5, s6, s7, s8⟩
  go_simp
  with_reducible rfl
 rotate_left;·simp only [Act.put, sA_];rfl
 refine pure_ (i := 11) (N := some 40) (v := ?_) (a' := ?_) #[Y,Y,Y,Y,Y,Y,Y,Y,Y,Y,Y,Y,Y,Y,G,G,Y,Y,G,G,G,Y,Y,G,G,G,G,G,G] rfl rfl (by kernel_rfl) (fun _ _ _ h => h) (Or.inl ⟨by rfl, ?_⟩) ?_ ?_;rotate_left
 ·intro w';go_simp;with_reducible rfl
 rotate_left;·simp only [Act.put, sA_];rfl
 refine take_ (i := 14) (N := some 43) (v := ?_) (a' := ?_) #[Y,Y,Y,Y,Y,Y,Y,Y,Y,Y,Y,Y,Y,Y,Y,G,Y,Y,G,G,G,Y,Y,G,G,G,G,G,G] rfl rfl (by kernel_rfl) (fun _ _ _ h => h) (Or.inl ⟨by rfl, ?_⟩) hHeld ?_ ?_;rotate_left
 ·rintro w' ⟨s0, s1, s2, s3, s4, s5, s6, s7, s8⟩
  go_simp
  with_reducible rfl
 rotate_left;·simp only [Act.put, sA_];rfl
 refine pure_ (i := 15) (N := some 44) (v := ?_) (a' := ?_) #[Y,Y,Y,Y,Y,Y,Y,Y,Y,Y,Y,Y,Y,Y,Y,Y,Y,Y,G,G,G,Y,Y,G,G,G,G,G,G] rfl rfl (by kernel_rfl) (fun _ _ _ h => h) (Or.inl ⟨by rfl, ?_⟩) ?_ ?_;rotate_left
 ·intro w';go_simp;with_reducible rfl
 rotate_left;·simp only [Act.put, sA_];rfl
 refine take_ (i := 18) (N := some 47) (v := ?_) (a' := ?_) #[Y,Y,Y,Y,Y,Y,Y,Y,Y,Y,Y,Y,Y,Y,Y,Y,Y,Y,Y,G,G,Y,Y,G,G,G,G,G,G] rfl rfl (by kernel_rfl) (fun _ _ _ h => h) (Or.inl ⟨by rfl, ?_⟩) hHeld ?_ ?_;rotate_left
 ·rintro w' ⟨s0, s1, s2, s3, s4, s5, s6, s7, s8⟩
  go_simp
  with_reducible rfl
 rotate_left;·simp only [Act.put, sA_];rfl
 refine pure_ (i := 19) (N := some 48) (v := ?_) (a' := ?_) #[Y,Y,Y,Y,Y,Y,Y,Y,Y,Y,Y,Y,Y,Y,Y,Y,Y,Y,Y,Y,G,Y,Y,G,G,G,G,G,G] rfl rfl (by kernel_rfl) (fun _ _ _ h => h) (Or.inl ⟨by rfl, ?_⟩) ?_ ?_;rotate_left
 ·intro w';go_simp;with_reducible rfl
 rotate_left;·simp only [Act.put, sA_];rfl
 refine pure_ (i := 20) (N := some 49) (v := ?_) (a' := ?_) #[Y,Y,Y,Y,Y,Y,Y,Y,Y,Y,Y,Y,Y,Y,Y,Y,Y,Y,Y,Y,Y,Y,Y,G,G,G,G,G,G] rfl rfl (by kernel_rfl) (fun _ _ _ h => h) (Or.inl ⟨by rfl, ?_⟩) ?_ ?_;rotate_left
 ·intro w';go_simp;with_reducible rfl
 rotate_left;·simp only [Act.put, sA_];rfl
 refine take_ (i := 23) (N := some 52) (v := ?_) (a' := ?_) #[Y,Y,Y,Y,Y,Y,Y,Y,Y,Y,Y,Y,Y,Y,Y,Y,Y,Y,Y,Y,Y,Y,Y,Y,G,G,G,G,G] rfl rfl (by kernel_rfl) (fun _ _ _ h => h) (Or.inl ⟨by rfl, ?_⟩) hHeld ?_ ?_;rotate_left
 ·rintro w' ⟨s0, s1, s2, s3, s4, s5, s6, s7, s8⟩
  go_simp
  with_reducible rfl
 rotate_left;·simp only [Act.put, sA_];rfl
 refine pure_ (i := 24) (N := some 53) (v := ?_) (a' := ?_) #[Y,Y,Y,Y,Y,Y,Y,Y,Y,Y,Y,Y,Y,Y,Y,Y,Y,Y,Y,Y,Y,Y,Y,Y,Y,G,G,G,G] rfl rfl (by kernel_rfl) (fun _ _ _ h => h) (Or.inl ⟨by rfl, ?_⟩) ?_ ?_;rotate_left
 ·intro w';go_simp;with_reducible rfl
 rotate_left;·simp only [Act.put, sA_];rfl
 refine take_ (i := 25) (N := some 54) (v := ?_) (a' := ?_) #[Y,Y,Y,Y,Y,Y,Y,Y,Y,Y,Y,Y,Y,Y,Y,Y,Y,Y,Y,Y,Y,Y,Y,Y,Y,Y,G,G,G] rfl rfl (by kernel_rfl) (fun _ _ _ h => h) (Or.inl ⟨by rfl, ?_⟩) hHeld ?_ ?_;rotate_left
 ·rintro w' ⟨s0, s1, s2, s3, s4, s5, s6, s7, s8⟩
  go_simp
  with_reducible rfl
 rotate_left;·simp only [Act.put, sA_];rfl
 refine pure_ (i := 26) (N := some 55) (v := ?_) (a' := ?_) #[Y,Y,Y,Y,Y,Y,Y,Y,Y,Y,Y,Y,Y,Y,Y,Y,Y,Y,Y,Y,Y,Y,Y,Y,Y,Y,Y,G,G] rfl rfl (by kernel_rfl) (fun _ _ _ h => h) (Or.inl ⟨by rfl, ?_⟩) ?_ ?_;rotate_left
 ·intro w';go_simp;with_reducible rfl
 rotate_left;·simp only [Act.put, sA_];rfl
 refine one_ (i := 27) (N := some 9) #[Y,Y,Y,Y,Y,Y,Y,Y,Y,Y,Y,Y,Y,Y,Y,Y,Y,Y,Y,Y,Y,Y,Y,Y,Y,Y,Y,Y,G] rfl rfl (by kernel_rfl) (by decide) (fun K hK => ?_)
 refine value_ (w1 := ?_) (v := ?_) (by rfl) rfl ?_ ?_
 rotate_left 2
 ·go_simp
  constructor
  ·rfl
  ·rfl
 have hb3 : Below w3.heap.size w3 (w3.alloc (.cells #[.int .i64 0, .int .i64 0, .int .i64 0, .int .i64 0, .int .i64 0, .int .i64 0, .int .i64 0, .int .i64 0, .int .u32 0] 28)) := (Below.refl _ _).alloc (Nat.le_refl _) _
 have hz8 := World.alloc_heap_new w3 (.cells #[.int .i64 0, .int .i64 0, .int .i64 0, .int .i64 0, .int .i64 0, .int .i64 0, .int .i64 0, .int .i64 0, .int .u32 0] 28)
 have hg8 := hB3.size
 replace hx := Stepb hb3 hx
 replace hB3 := hB3.trans (hb3.mono hB3.size)
 have hg8b : w.heap.size + 1 ≤ w3.heap.size := hsz
 replace hsz := Nat.le_trans hsz hb3.size
 generalize w3.heap.size = g8 at hz8 hg8 hg8b ⊢
 generalize w3.alloc (.cells #[.int .i64 0, .int .i64 0, .int .i64 0, .int .i64 0, .int .i64 0, .int .i64 0, .int .i64 0, .int .i64 0, .int .u32 0] 28) = w4 at hb3 hz8 hx hB3 hsz ⊢
 refine hK.out _ _ ⟨pw_cell_below hb3 hHeld.1, pw_cell_below hb3 hHeld.2.1, pw_cell_below hb3 hHeld.2.2.1, pw_cell_below hb3 hHeld.2.2.2.1, pw_cell_below hb3 hHeld.2.2.2.2.1, pw_cell_below hb3 hHeld.2.2.2.2.2.1, pw_cell_below hb3 hHeld.2.2.2.2.2.2.1, pw_cell_below hb3 hHeld.2.2.2.2.2.2.2.1, pw_cell_below hb3 hHeld.2.2.2.2.2.2.2.2⟩ (fun hHeld => ?_)
 clear hK K
 refine norm_ (a' := ?_) ?_ ?_;rotate_left
 ·show Act.put _ (some 9) _ = _
  simp only [Act.put, sA_]
  rfl
 refine last_ (i := 28) (N := none) #[Y,Y,Y,Y,Y,Y,Y,Y,Y,Y,Y,Y,Y,Y,Y,Y,Y,Y,Y,Y,Y,Y,Y,Y,Y,Y,Y,Y,Y] rfl rfl (by kernel_rfl) (by decide) (fun K hK => ?_)
 obtain ⟨z0, z1, z2, z3, z4, z5, z6, z7, z8⟩ := blk9 hz8
 obtain ⟨q0, q1, q2, q3, q4, q5, q6, q7, q8⟩ := frz9 hz8
 refine skip_ (w1 := ?_) (by rfl) rfl ?_ ?_;rotate_left
 ·go_simp
  rfl
 refine hK.out _ _ ?_
 clear hK K
 refine done_ (by kernel_rfl) ?_

 clear hHeld n0 n1 n2 n3 n5 n6 p0 p1 p2 hp7 hg7
 have hst8 := step_put9 w4 g8 (.int .i64 (wrap64 v0)) (.int .i64 (wrap64 v1)) (.int .i64 (wrap64 v2)) (.int .i64 (wrap64 v3)) (.int .i64 (wrap64 v5)) (.int .i64 (wrap64 v6)) (.int .i64 pa) (.int .i64 pb) (.int .u32 ps)
 have hz9 := put9 hz8 (.int .i64 (wrap64 v0)) (.int .i64 (wrap64 v1)) (.int .i64 (wrap64 v2)) (.int .i64 (wrap64 v3)) (.int .i64 (wrap64 v5)) (.int .i64 (wrap64 v6)) (.int .i64 pa) (.int .i64 pb) (.int .u32 ps)
 replace hx := hst8.block hx (fun e => by omega)
 replace hB3 := below_put9 hB3 (g := g8) (by omega) (.int .i64 (wrap64 v0)) (.int .i64 (wrap64 v1)) (.int .i64 (wrap64 v2)) (.int .i64 (wrap64 v3)) (.int .i64 (wrap64 v5)) (.int .i64 (wrap64 v6)) (.int .i64 pa) (.int .i64 pb) (.int .u32 ps)
 clear hz8 hst8
 generalize (((((((((w4.setCell ⟨g8, 0, none⟩ (.int .i64 (wrap64 v0))).setCell ⟨g8, 1, none⟩ (.int .i64 (wrap64 v1))).setCell ⟨g8, 2, none⟩ (.int .i64 (wrap64 v2))).setCell ⟨g8, 3, none⟩ (.int .i64 (wrap64 v3))).setCell ⟨g8, 4, none⟩ (.int .i64 (wrap64 v5))).setCell ⟨g8, 5, none⟩ (.int .i64 (wrap64 v6))).setCell ⟨g8, 6, none⟩ (.int .i64 pa)).setCell ⟨g8, 7, none⟩ (.int .i64 pb)).setCell ⟨g8, 8, none⟩ (.int .u32 ps)) = W8 at hz9 hx hB3 ⊢
 obtain ⟨y0, y1, y2, y3, y4, y5, y6, y7, y8⟩ := blk9 hz9
 go_wp2_with (go_at_call 10; with_reducible refine (hBy _ hB3).mono ?_)
 rintro e w9 ⟨rfl, hb9⟩
 replace hx := Stepb hb9 hx
 replace hz9 := Stepb hb9 hz9
 replace hB3 := hB3.trans (hb9.mono hB3.size)
 clear hb9 y0 y1 y2 y3 y4 y5 y6 y7 y8 hBy
 obtain ⟨y0, y1, y2, y3, y4, y5, y6, y7, y8⟩ := blk9 hz9
 obtain ⟨x0, x1, x2, x3, x4, x5, x6, x7, x8⟩ := blk9 hx
 obtain ⟨f0, f1, f2, f3, f4, f5, f6, f7, f8⟩ := frz9 hx
 by_cases hn : dn = 0
 ·have hn1 : (dn != 0) = false := by simpa using hn
  by_cases hd : dt = t
  ·have hd1 : (dt.toList == t.toList) = true := by rw [hd]; simp
   have hp : parseR t = (supV t, 0) := if_pos (hdec.2 (by rw [hn, hd]))
   clear hn hd hdec
   go_wp2
   refine bodyPost_ret (results_ct rfl _ _ w.heap.size 28 _ (0, 0) _ rfl (put9 hx (.int .i64 (wrap64 v0)) (.int .i64 (wrap64 v1)) (.int .i64 (wrap64 v2)) (.int .i64 (wrap64 v3)) (.int .i64 (wrap64 v5)) (.int .i64 (wrap64 v6)) (.int .i64 pa) (.int .i64 pb) (.int .u32 ps)) Tryd.underlying28 rfl (by kernel_rfl)) rfl ?_
   rw [hp]
   rw [hsv]
   exact ⟨rfl, below_put9 hB3 (Nat.le_refl _) (.int .i64 (wrap64 v0)) (.int .i64 (wrap64 v1)) (.int .i64 (wrap64 v2)) (.int .i64 (wrap64 v3)) (.int .i64 (wrap64 v5)) (.int .i64 (wrap64 v6)) (.int .i64 pa) (.int .i64 pb) (.int .u32 ps)⟩
  ·have hd1 : (dt.toList == t.toList) = false := beq_eq_false_iff_ne.2 (fun e => hd (tl_inj e))
   have hp : parseR t = (zeroV, 6) := if_neg (fun h => hd (congrArg Prod.fst (hdec.1 h)))
   clear hn hd hdec
   go_wp2
   refine bodyPost_ret (results_ct rfl _ _ w.heap.size 28 _ (0, 0) _ rfl (put9 hx (.int .i64 0) (.int .i64 0) (.int .i64 0) (.int .i64 0) (.int .i64 0) (.int .i64 0) (.int .i64 0) (.int .i64 0) (.int .u32 0)) Tryd.underlying28 rfl (by kernel_rfl)) rfl ?_
   rw [hp]
   exact ⟨rfl, below_put9 hB3 (Nat.le_refl _) (.int .i64 0) (.int .i64 0) (.int .i64 0) (.int .i64 0) (.int .i64 0) (.int .i64 0) (.int .i64 0) (.int .i64 0) (.int .u32 0)⟩
 ·have hn1 : (dn != 0) = true := by simpa using hn
  have hp : parseR t = (zeroV, 6) := if_neg (fun h => hn (congrArg Prod.snd (hdec.1 h)))
  clear hn hdec
  go_wp2
  refine bodyPost_ret (results_ct rfl _ _ w.heap.size 28 _ (0, 0) _ rfl (put9 hx (.int .i64 0) (.int .i64 0) (.int .i64 0) (.int .i64 0) (.int .i64 0) (.int .i64 0) (.int .i64 0) (.int .i64 0) (.int .u32 0)) Tryd.underlying28 rfl (by kernel_rfl)) rfl ?_
  rw [hp]
  exact ⟨rfl, below_put9 hB3 (Nat.le_refl _) (.int .i64 0) (.int .i64 0) (.int .i64 0) (.int .i64 0) (.int .i64 0) (.int .i64 0) (.int .i64 0) (.int .i64 0) (.int .u32 0)⟩
end
end Go.Proofs.YtmmfplogkikbjaaDoor.HSF
