/- WRITTEN BY wip/hyb.py, a program of this workplace (out of the kit's printer and this workplace's own contracts). -/
import Derived.Test.YtmmfplogkikbjaaDoorGSKx0
import Derived.Test.YtmmfplogkikbjaaDoorGSKx7
import Derived.Test.YtmmfplogkikbjaaDoorGSKx10
import Derived.Test.YtmmfplogkikbjaaDoorGSKx11
import Derived.Test.YtmmfplogkikbjaaDoorGSKx12
import Derived.Test.YtmmfplogkikbjaaDoorGSKx14
import Derived.Test.YtmmfplogkikbjaaDoorGSKx15
import Derived.Test.YtmmfplogkikbjaaDoorGSKx16
namespace Go.Proofs.YtmmfplogkikbjaaDoor.HSK
open Go.RowKit Go.Proofs.YtmmfplogkikbjaaDoorW.PrintWords Go.Proofs.YtmmfplogkikbjaaDoorW.PrintLast Go.Proofs.YtmmfplogkikbjaaDoorW.PrintMore
attribute [local go_sem] max2_int min2_int max_two min_two max_three min_three max_four min_four   -- for this text's walks alone
set_option linter.unusedVariables false
set_option linter.unusedSimpArgs false

section
open Go Go.Shelf Go.Maps Go.Proofs.YtmmfplogkikbjaaDoor.Seq Go.Proofs.YtmmfplogkikbjaaDoor.MapL Go.Proofs.YtmmfplogkikbjaaDoorW.PrintLast
attribute [local go_sem] Oper.semAt_some max2_int min2_int max_two min_two
theorem eqS23 (d : Nat) (w : World) (x0 y0 : Int) (x1 y1 : Int) (x2 y2 : Int) (x3 y3 : Int) :
  (Op.equalIn (d + 2) 23 (.agg #[.int .i64 x0, .int .i64 x1, .int .i64 x2, .int .i64 x3]) (.agg #[.int .i64 y0, .int .i64 y1, .int .i64 y2, .int .i64 y3])).run Tryd.prog w = .ok (x0 == y0 && (x1 == y1 && (x2 == y2 && (x3 == y3)))) w := by
 refine eqA_of Tryd.underlying23 (by kernel_rfl) ?_
 refine eqf_cons (by rfl) (by go_simp; rfl) (by go_simp; rfl) (by go_simp) ?_
 refine eqf_cons (by rfl) (by go_simp; rfl) (by go_simp; rfl) (by go_simp) ?_
 refine eqf_cons (by rfl) (by go_simp; rfl) (by go_simp; rfl) (by go_simp) ?_
 exact eqf_last (by rfl) (by go_simp; rfl) (by go_simp; rfl) (by go_simp)
theorem eqS26 (d : Nat) (w : World) (x0 y0 : Int) (x1 y1 : Int) (x2 y2 : Int) :
  (Op.equalIn (d + 2) 26 (.agg #[.int .i64 x0, .int .i64 x1, .int .u32 x2]) (.agg #[.int .i64 y0, .int .i64 y1, .int .u32 y2])).run Tryd.prog w = .ok (x0 == y0 && (x1 == y1 && (x2 == y2))) w := by
 refine eqA_of Tryd.underlying26 (by kernel_rfl) ?_
 refine eqf_cons (by rfl) (by go_simp; rfl) (by go_simp; rfl) (by go_simp) ?_
 refine eqf_cons (by rfl) (by go_simp; rfl) (by go_simp; rfl) (by go_simp) ?_
 exact eqf_last (by rfl) (by go_simp; rfl) (by go_simp; rfl) (by go_simp)
theorem eqS28 (d : Nat) (w : World) (x0 y0 : Int) (x1 y1 : Int) (x2 y2 : Int) (x3 y3 : Int) (x4 y4 : Int) (x5 y5 : Int) (x6 y6 : Int) (x7 y7 : Int) (x8 y8 : Int) :
  (Op.equalIn (d + 3) 28 (.agg #[.int .i64 x0, .int .i64 x1, .int .i64 x2, .int .i64 x3, .int .i64 x4, .int .i64 x5, .int .i64 x6, .int .i64 x7, .int .u32 x8]) (.agg #[.int .i64 y0, .int .i64 y1, .int .i64 y2, .int .i64 y3, .int .i64 y4, .int .i64 y5, .int .i64 y6, .int .i64 y7, .int .u32 y8])).run Tryd.prog w = .ok (x0 == y0 && ((x1 == y1 && (x2 == y2 && (x3 == y3 && (x4 == y4)))) && (x5 == y5 && ((x6 == y6 && (x7 == y7 && (x8 == y8))))))) w := by
 refine eqA_of Tryd.underlying28 (by kernel_rfl) ?_
 refine eqf_cons (by rfl) (by go_simp; rfl) (by go_simp; rfl) (by go_simp) ?_
 refine eqf_cons (by rfl) (by go_simp) (by go_simp) (eqS23 (d + 0) w _ _ _ _ _ _ _ _) ?_
 refine eqf_cons (by rfl) (by go_simp; rfl) (by go_simp; rfl) (by go_simp) ?_
 exact eqf_last (by rfl) (by go_simp) (by go_simp) (eqS26 (d + 0) w _ _ _ _ _ _)
theorem ref_Sectors_f (q : Nat) (sh K M C : Int) : caulkref06_Sectors.f (q + 10) sh K M C = some (sectorsP sh K M C) := by
 unfold caulkref06_Sectors.f
 rw [ref_Check_is]
 by_cases h : GeoOk sh K M C
 ·have hb := h.2.2.2.2.2.2.2.2
  have h0 : 0 ≤ C * (nS sh : Int) := Int.mul_nonneg (by have := h.2.2.2.2.2.2.1; omega) (Int.natCast_nonneg _)
  rw [← nS_int] at hb
  rw [if_pos h, Option.bind_some, if_pos rfl, each_is q sh K M C h.1 h.2.1, Option.bind_some, sectorsP, if_pos h, wrap64_id (by omega) (by omega)]
 ·rw [if_neg h, Option.bind_some, if_neg (by decide), sectorsP, if_neg h]
theorem ref_Sectors_any (w : World) (sh K M C : Int) : Calls Tryd.prog 15 #[.agg #[.int .i64 sh, .int .i64 K, .int .i64 M, .int .i64 C]] w fun e w' => e = .returned (.int .i64 (sectorsP sh K M C)) ∧ Below w.heap.size w w' :=
 caulkref06_Sectors.calls 10 sh K M C _ w (ref_Sectors_f 0 sh K M C)
theorem eqS48 (d : Nat) (w : World) (x0 y0 : Int) (x1 y1 : Int) (x2 y2 : Int) (x3 y3 : Int) (x4 y4 : Int) (x5 y5 : Int) (x6 y6 : Int) (x7 y7 : Int) (x8 y8 : Int) (x9 y9 : Int) :
  (Op.equalIn (d + 4) 48 (.agg #[.int .i64 x0, .int .i64 x1, .int .i64 x2, .int .i64 x3, .int .i64 x4, .int .i64 x5, .int .i64 x6, .int .i64 x7, .int .i64 x8, .int .u32 x9]) (.agg #[.int .i64 y0, .int .i64 y1, .int .i64 y2, .int .i64 y3, .int .i64 y4, .int .i64 y5, .int .i64 y6, .int .i64 y7, .int .i64 y8, .int .u32 y9])).run Tryd.prog w = .ok (x0 == y0 && ((x1 == y1 && ((x2 == y2 && (x3 == y3 && (x4 == y4 && (x5 == y5)))) && (x6 == y6 && ((x7 == y7 && (x8 == y8 && (x9 == y9))))))))) w := by
 refine eqA_of Tryd.underlying48 (by kernel_rfl) ?_
 refine eqf_cons (by rfl) (by go_simp; rfl) (by go_simp; rfl) (by go_simp) ?_
 exact eqf_last (by rfl) (by go_simp) (by go_simp) (eqS28 (d + 0) w _ _ _ _ _ _ _ _ _ _ _ _ _ _ _ _ _ _)
theorem bk_slot (xs : List ByteArray) (F : FL) (B : BL) (off : Bool) (j : Nat) (g sh k m c l a b s : Int) (h : SupOk g sh k m c l a b) (hs : 0 ≤ s ∧ s < 4294967296) (hr : rdT xs F B off j = sectS g sh k m c l a b s) :
  slotC xs F B off j = [.int .i64 (j : Int), .int .i64 g, .int .i64 sh, .int .i64 k, .int .i64 m, .int .i64 c, .int .i64 l, .int .i64 a, .int .i64 b, .int .u32 s] ∧ genS xs F B off j = g ∧ (sectorsP sh k m c ≤ (xs.length : Int) → slotFits xs F B off j = true) := by
 obtain ⟨v0, v1, v2, v3, v5, v6⟩ := sect_vP g sh k m c l a b s h hs
 obtain ⟨_, p0, p1, p2⟩ := sect_dec g sh k m c l a b s h hs
 obtain ⟨h1, h2, ⟨q1, q2, q3, q4, q5, q6, q7, q8, _⟩, h4, h5, h6, h7, h8, h9⟩ := h
 obtain ⟨w0, w1, w2, w3, w5, w6⟩ : wrap64 g = g ∧ wrap64 sh = sh ∧ wrap64 k = k ∧ wrap64 m = m ∧ wrap64 c = c ∧ wrap64 l = l := ⟨wrap64_id (by omega) (by omega), wrap64_id (by omega) (by omega), wrap64_id (by omega) (by omega), wrap64_id (by omega) (by omega), wrap64_id (by omega) (by omega), wrap64_id (by omega) (by omega)⟩
 refine ⟨by rw [slotC, hr, v0, v1, v2, v3, v5, v6, p0, p1, p2, w0, w1, w2, w3, w5, w6], by rw [genS, hr, v0, w0], fun hx => ?_⟩
 rw [slotFits, hr, v1, v2, v3, v5, w1, w2, w3, w5]
 exact decide_eq_true hx
theorem par_sect (g sh k m c l a b s : Int) (h : SupOk g sh k m c l a b) (hs : 0 ≤ s ∧ s < 4294967296) : parseR (sectS g sh k m c l a b s) = (.agg #[.int .i64 g, .int .i64 sh, .int .i64 k, .int .i64 m, .int .i64 c, .int .i64 l, .int .i64 a, .int .i64 b, .int .u32 s], 0) := by
 obtain ⟨v0, v1, v2, v3, v5, v6⟩ := sect_vP g sh k m c l a b s h hs
 obtain ⟨_, p0, p1, p2⟩ := sect_dec g sh k m c l a b s h hs
 have hi := sect_is g sh k m c l a b s h hs
 obtain ⟨h1, h2, ⟨q1, q2, q3, q4, q5, q6, q7, q8, _⟩, h4, h5, h6, h7, h8, h9⟩ := h
 obtain ⟨w0, w1, w2, w3, w5, w6⟩ : wrap64 g = g ∧ wrap64 sh = sh ∧ wrap64 k = k ∧ wrap64 m = m ∧ wrap64 c = c ∧ wrap64 l = l := ⟨wrap64_id (by omega) (by omega), wrap64_id (by omega) (by omega), wrap64_id (by omega) (by omega), wrap64_id (by omega) (by omega), wrap64_id (by omega) (by omega), wrap64_id (by omega) (by omega)⟩
 rw [show parseR (sectS g sh k m c l a b s) = (supV (sectS g sh k m c l a b s), 0) from if_pos hi, supV, v0, v1, v2, v3, v5, v6, p0, p1, p2, w0, w1, w2, w3, w5, w6]
theorem parse_back (t : ByteArray) : ∃ p0 p1 p2 p3 p4 p5 p6 p7 p8 n : Int, parseR t = (.agg #[.int .i64 p0, .int .i64 p1, .int .i64 p2, .int .i64 p3, .int .i64 p4, .int .i64 p5, .int .i64 p6, .int .i64 p7, .int .u32 p8], n) ∧ (n = 0 → bytesS p0 p1 p2 p3 p4 p5 p6 p7 p8 = (t, 0)) ∧ 0 ≤ p8 ∧ p8 < 4294967296 := by
 by_cases h : IsS t
 ·exact ⟨_, _, _, _, _, _, _, _, _, _, if_pos h, fun _ => h.2, ptrV_in (rP t) 2⟩
 ·exact ⟨0, 0, 0, 0, 0, 0, 0, 0, 0, 6, if_neg h, fun e => absurd e (by decide), by decide, by decide⟩
theorem bk_w0 (n : Nat) (T : ByteArray) (hn : 2 ≤ n) (hT : T.size = 512) : swP n [] false (-1) 0 0 (T, 0) = ([(0, T)], false, -1, 1, 0) := by
 have hw : wrap64 (0 + 1) = 1 := wrapJ (by omega) (by omega)
 have hr : reachP n false 0 = 0 := by rw [reachP, if_neg (by decide), if_pos ⟨by omega, by omega⟩]
 show (if _ then _ else _) = _
 rw [if_neg (by decide), if_neg (fun h : (0 : Int) ≠ 0 => h rfl)]
 show writeP n [] false (-1) 0 0 T = _
 rw [writeP, if_neg (by rw [hr]; decide), if_neg (by rw [hT]; decide), if_neg (by decide), hw]
 rfl
theorem bk_w1 (n : Nat) (T : ByteArray) (hn : 2 ≤ n) (hT : T.size = 512) : swP n [(0, T)] false (-1) 1 1 (T, 0) = ([(0, T), (1, T)], false, -1, 2, 0) := by
 have hw : wrap64 (1 + 1) = 2 := wrapJ (by omega) (by omega)
 have hr : reachP n false 1 = 0 := by rw [reachP, if_neg (by decide), if_pos ⟨by omega, by omega⟩]
 show (if _ then _ else _) = _
 rw [if_neg (by decide), if_neg (fun h : (0 : Int) ≠ 0 => h rfl)]
 show writeP n [(0, T)] false (-1) 1 1 T = _
 rw [writeP, if_neg (by rw [hr]; decide), if_neg (by rw [hT]; decide), if_neg (by decide), hw]
 rfl
def bkX (n : Nat) (T : ByteArray) : List ByteArray := landXs (List.replicate n zeroS) [(0, T), (1, T)]
theorem bkX_len (n : Nat) (T : ByteArray) : (bkX n T).length = n := by rw [bkX, landXs_len, List.length_replicate]
theorem bk_fl (n : Nat) (T : ByteArray) : flushP (List.replicate n zeroS) [(0, T), (1, T)] [] false (-1) = (bkX n T, [], [], false, -1, 0) := rfl
theorem bkX_get (n : Nat) (T : ByteArray) (hn : 2 ≤ n) (j : Nat) (hj : j < 2) : (bkX n T).getD j ⟨#[]⟩ = T := by
 unfold bkX landXs
 rw [List.getD_eq_getElem?_getD, List.getElem?_map, List.length_replicate, List.getElem?_range (by omega)]
 rcases (show j = 0 ∨ j = 1 by omega) with rfl | rfl <;> rfl
theorem bk_rd (n : Nat) (T : ByteArray) (hn : 2 ≤ n) (B : BL) (j : Nat) (hj : j < 2) (hB : getL (j : Int) B = none) : rdT (bkX n T) [] B false j = T := by
 have hr : reachP (bkX n T).length false (j : Int) = 0 := by rw [reachP, if_neg (by decide), bkX_len, if_pos ⟨by omega, by omega⟩]
 unfold rdT readP
 rw [if_neg (by rw [hr]; decide), hB]
 show (bkX n T).getD ((j : Int)).toNat ⟨#[]⟩ = T
 rw [Int.toNat_natCast, bkX_get n T hn j hj]
theorem bk_bad (n : Nat) (T : ByteArray) (hn : 2 ≤ n) (B : BL) (j : Nat) (hj : j < 2) (hB : getL (j : Int) B = some true) : ¬ IsS (rdT (bkX n T) [] B false j) := by
 have hr : reachP (bkX n T).length false (j : Int) = 0 := by rw [reachP, if_neg (by decide), bkX_len, if_pos ⟨by omega, by omega⟩]
 have e : rdT (bkX n T) [] B false j = ⟨#[]⟩ := by
  unfold rdT readP
  rw [if_neg (by rw [hr]; decide), hB]
  rfl
 rw [e]
 exact fun h => absurd h.1 (by decide)
theorem bk_er (n : Nat) (j : Int) (hn : 2 ≤ n) (h0 : 0 ≤ j) (h1 : j < 2) : eraseP n [] j = ([(j, true)], 0) := by
 rw [eraseP, if_pos ⟨by omega, by omega⟩]
 rfl
section
variable (n : Nat) (g sh k m c l a b s : Int) (hn : 2 ≤ n) (hc : sectorsP sh k m c ≤ (n : Int)) (h : SupOk g sh k m c l a b) (hs : 0 ≤ s ∧ s < 4294967296)
include hn hc h hs
theorem bk_find2 : fndS (bkX n (sectS g sh k m c l a b s)) [] [] false = [0, 1] ∧ srtS (bkX n (sectS g sh k m c l a b s)) [] [] false [0, 1] = [0, 1] := by
 have r0 := bk_rd n (sectS g sh k m c l a b s) hn [] 0 (by decide) rfl
 have r1 := bk_rd n (sectS g sh k m c l a b s) hn [] 1 (by decide) rfl
 have hi := sect_is g sh k m c l a b s h hs
 obtain ⟨_, g0, f0⟩ := bk_slot _ [] [] false 0 g sh k m c l a b s h hs r0
 obtain ⟨_, g1, f1⟩ := bk_slot _ [] [] false 1 g sh k m c l a b s h hs r1
 rw [bkX_len] at f0 f1
 have hS : stL (bkX n (sectS g sh k m c l a b s)) [] [] false 2 = [0, 1] := by
  rw [stL, stL, stL, r0, r1, if_pos hi, if_pos hi]; rfl
 refine ⟨by rw [fndS, hS, List.filter_cons, f0 hc, if_pos rfl, List.filter_cons, f1 hc, if_pos rfl, List.filter_nil], ?_⟩
 show (if genS _ _ _ _ 0 < genS _ _ _ _ 1 then [1, 0] else [0, 1]) = _
 rw [g0, g1, if_neg (by omega)]
theorem bk_find1 (j : Nat) (hj : j < 2) : fndS (bkX n (sectS g sh k m c l a b s)) [] [(((1 - j : Nat) : Int), true)] false = [j] := by
 have hi := sect_is g sh k m c l a b s h hs
 rcases (show j = 0 ∨ j = 1 by omega) with rfl | rfl
 ·have r0 := bk_rd n (sectS g sh k m c l a b s) hn [(((1 - 0 : Nat) : Int), true)] 0 (by decide) rfl
  have r1 := bk_bad n (sectS g sh k m c l a b s) hn [(((1 - 0 : Nat) : Int), true)] 1 (by decide) rfl
  obtain ⟨_, _, f0⟩ := bk_slot _ [] [(((1 - 0 : Nat) : Int), true)] false 0 g sh k m c l a b s h hs r0
  rw [bkX_len] at f0
  have hS : stL (bkX n (sectS g sh k m c l a b s)) [] [(((1 - 0 : Nat) : Int), true)] false 2 = [0] := by
   rw [stL, stL, stL, r0, if_pos hi, if_neg r1]; rfl
  rw [fndS, hS, List.filter_cons, f0 hc, if_pos rfl, List.filter_nil]
 ·have r0 := bk_bad n (sectS g sh k m c l a b s) hn [(((1 - 1 : Nat) : Int), true)] 0 (by decide) rfl
  have r1 := bk_rd n (sectS g sh k m c l a b s) hn [(((1 - 1 : Nat) : Int), true)] 1 (by decide) rfl
  obtain ⟨_, _, f1⟩ := bk_slot _ [] [(((1 - 1 : Nat) : Int), true)] false 1 g sh k m c l a b s h hs r1
  rw [bkX_len] at f1
  have hS : stL (bkX n (sectS g sh k m c l a b s)) [] [(((1 - 1 : Nat) : Int), true)] false 2 = [1] := by
   rw [stL, stL, stL, r1, if_pos hi, if_neg r0]; rfl
  rw [fndS, hS, List.filter_cons, f1 hc, if_pos rfl, List.filter_nil]
end
theorem back_all (a0_0 a0_1 a0_2 a0_3 a0_4 a0_5 a0_6 a0_7 a0_8 : Int) (hok : SupOk a0_0 a0_1 a0_2 a0_3 a0_4 a0_5 a0_6 a0_7) (hw0 : 0 ≤ a0_8 ∧ a0_8 < 4294967296) (hn : sectorsP a0_1 a0_2 a0_3 a0_4 ≤ 256) : ∃ X0 X2 : List ByteArray,
  (∀ W, Calls Tryd.prog 16 #[.int .i64 (sectorsP a0_1 a0_2 a0_3 a0_4)] W fun e w' => ∃ i, e = .returned (.tuple #[.pointer (some ⟨i.d, 0, none⟩), .int .i64 0]) ∧ DevAt w' i X0 [] [] false (-1) 0 ∧ (∀ k, i.In k → W.heap.size ≤ k) ∧ Below W.heap.size W w') ∧
  (∀ W i, TabAt W → DevAt W i X0 [] [] false (-1) 0 → Calls Tryd.prog 17 #[.pointer (some ⟨i.d, 0, none⟩), .int .i64 0, .agg #[.int .i64 a0_0, .int .i64 a0_1, .int .i64 a0_2, .int .i64 a0_3, .int .i64 a0_4, .int .i64 a0_5, .int .i64 a0_6, .int .i64 a0_7, .int .u32 a0_8]] W fun e w' => e = .returned (.int .i64 0) ∧ DevAt w' i X0 [(0, sectS a0_0 a0_1 a0_2 a0_3 a0_4 a0_5 a0_6 a0_7 a0_8)] [] false (-1) 1 ∧ Step i.In W w') ∧
  (∀ W i, TabAt W → DevAt W i X0 [(0, sectS a0_0 a0_1 a0_2 a0_3 a0_4 a0_5 a0_6 a0_7 a0_8)] [] false (-1) 1 → Calls Tryd.prog 17 #[.pointer (some ⟨i.d, 0, none⟩), .int .i64 1, .agg #[.int .i64 a0_0, .int .i64 a0_1, .int .i64 a0_2, .int .i64 a0_3, .int .i64 a0_4, .int .i64 a0_5, .int .i64 a0_6, .int .i64 a0_7, .int .u32 a0_8]] W fun e w' => e = .returned (.int .i64 0) ∧ DevAt w' i X0 [(0, sectS a0_0 a0_1 a0_2 a0_3 a0_4 a0_5 a0_6 a0_7 a0_8), (1, sectS a0_0 a0_1 a0_2 a0_3 a0_4 a0_5 a0_6 a0_7 a0_8)] [] false (-1) 2 ∧ Step i.In W w') ∧
  (∀ W i, DevAt W i X0 [(0, sectS a0_0 a0_1 a0_2 a0_3 a0_4 a0_5 a0_6 a0_7 a0_8), (1, sectS a0_0 a0_1 a0_2 a0_3 a0_4 a0_5 a0_6 a0_7 a0_8)] [] false (-1) 2 → Calls Tryd.prog 18 #[.pointer (some ⟨i.d, 0, none⟩)] W fun e w' => e = .returned (.int .i64 0) ∧ DevAt w' i X2 [] [] false (-1) 2 ∧ Step i.In W w') ∧
  (∀ W i, TabAt W → DevAt W i X2 [] [] false (-1) 2 → Calls Tryd.prog 19 #[.pointer (some ⟨i.d, 0, none⟩)] W fun e w' => ∃ v, e = .returned (.tuple #[v, .int .i64 0]) ∧ w'.ownsRow W.heap.size 48 10 v 2 [.int .i64 0, .int .i64 a0_0, .int .i64 a0_1, .int .i64 a0_2, .int .i64 a0_3, .int .i64 a0_4, .int .i64 a0_5, .int .i64 a0_6, .int .i64 a0_7, .int .u32 a0_8, .int .i64 1, .int .i64 a0_0, .int .i64 a0_1, .int .i64 a0_2, .int .i64 a0_3, .int .i64 a0_4, .int .i64 a0_5, .int .i64 a0_6, .int .i64 a0_7, .int .u32 a0_8] ∧ Step (fun _ => False) W w') ∧
  (∀ W i, DevAt W i X2 [] [] false (-1) 2 → Calls Tryd.prog 20 #[.pointer (some ⟨i.d, 0, none⟩), .int .i64 0] W fun e w' => e = .returned (.int .i64 0) ∧ DevAt w' i X2 [] [(0, true)] false (-1) 2 ∧ Step i.In W w') ∧
  (∀ W i, DevAt W i X2 [] [] false (-1) 2 → Calls Tryd.prog 20 #[.pointer (some ⟨i.d, 0, none⟩), .int .i64 1] W fun e w' => e = .returned (.int .i64 0) ∧ DevAt w' i X2 [] [(1, true)] false (-1) 2 ∧ Step i.In W w') ∧
  (∀ W i, TabAt W → DevAt W i X2 [] [(1, true)] false (-1) 2 → Calls Tryd.prog 19 #[.pointer (some ⟨i.d, 0, none⟩)] W fun e w' => ∃ v, e = .returned (.tuple #[v, .int .i64 0]) ∧ w'.ownsRow W.heap.size 48 10 v 1 [.int .i64 0, .int .i64 a0_0, .int .i64 a0_1, .int .i64 a0_2, .int .i64 a0_3, .int .i64 a0_4, .int .i64 a0_5, .int .i64 a0_6, .int .i64 a0_7, .int .u32 a0_8] ∧ Step (fun _ => False) W w') ∧
  (∀ W i, TabAt W → DevAt W i X2 [] [(0, true)] false (-1) 2 → Calls Tryd.prog 19 #[.pointer (some ⟨i.d, 0, none⟩)] W fun e w' => ∃ v, e = .returned (.tuple #[v, .int .i64 0]) ∧ w'.ownsRow W.heap.size 48 10 v 1 [.int .i64 1, .int .i64 a0_0, .int .i64 a0_1, .int .i64 a0_2, .int .i64 a0_3, .int .i64 a0_4, .int .i64 a0_5, .int .i64 a0_6, .int .i64 a0_7, .int .u32 a0_8] ∧ Step (fun _ => False) W w') := by
 have hn4 : 4 ≤ sectorsP a0_1 a0_2 a0_3 a0_4 := by
  obtain ⟨h1, h2, hg, h4, h5, h6, h7, h8, h9⟩ := hok
  rw [sectorsP, if_pos hg]
  have hp := nS_pos a0_1
  have hc4 : 4 ≤ a0_4 := hg.2.2.2.2.2.2.1
  have : 4 * 1 ≤ a0_4 * (nS a0_1 : Int) := Int.mul_le_mul hc4 (by omega) (by omega) (by omega)
  omega
 have hby : bytesS a0_0 a0_1 a0_2 a0_3 a0_4 a0_5 a0_6 a0_7 a0_8 = (sectS a0_0 a0_1 a0_2 a0_3 a0_4 a0_5 a0_6 a0_7 a0_8, 0) := if_pos hok
 have hsz := sect_size a0_0 a0_1 a0_2 a0_3 a0_4 a0_5 a0_6 a0_7 a0_8
 obtain ⟨m, hm⟩ : ∃ m : Nat, sectorsP a0_1 a0_2 a0_3 a0_4 = (m : Int) := ⟨(sectorsP a0_1 a0_2 a0_3 a0_4).toNat, by omega⟩
 have hm2 : 2 ≤ m := by omega
 have hc : sectorsP a0_1 a0_2 a0_3 a0_4 ≤ (m : Int) := by omega
 obtain ⟨f2, f3⟩ := bk_find2 m a0_0 a0_1 a0_2 a0_3 a0_4 a0_5 a0_6 a0_7 a0_8 hm2 hc hok hw0
 have fA := bk_find1 m a0_0 a0_1 a0_2 a0_3 a0_4 a0_5 a0_6 a0_7 a0_8 hm2 hc hok hw0 0 (by decide)
 have fB := bk_find1 m a0_0 a0_1 a0_2 a0_3 a0_4 a0_5 a0_6 a0_7 a0_8 hm2 hc hok hw0 1 (by decide)
 have sl := fun B j hj hB => (bk_slot (bkX m (sectS a0_0 a0_1 a0_2 a0_3 a0_4 a0_5 a0_6 a0_7 a0_8)) [] B false j a0_0 a0_1 a0_2 a0_3 a0_4 a0_5 a0_6 a0_7 a0_8 hok hw0 (bk_rd m (sectS a0_0 a0_1 a0_2 a0_3 a0_4 a0_5 a0_6 a0_7 a0_8) hm2 B j hj hB)).1
 refine ⟨List.replicate m zeroS, bkX m (sectS a0_0 a0_1 a0_2 a0_3 a0_4 a0_5 a0_6 a0_7 a0_8), ?_, ?_, ?_, ?_, ?_, ?_, ?_, ?_, ?_⟩
 ·intro W
  have := dev_New_any W (m : Int) (by omega) (by omega)
  rw [Int.toNat_natCast] at this
  rw [hm]
  exact this
 ·intro W i hTW hD
  exact super_Write_any W hTW i _ _ _ _ _ _ hD 0 a0_0 a0_1 a0_2 a0_3 a0_4 a0_5 a0_6 a0_7 a0_8 hw0 _ _ _ _ _ (by rw [List.length_replicate, hby]; exact bk_w0 m _ hm2 hsz)
 ·intro W i hTW hD
  exact super_Write_any W hTW i _ _ _ _ _ _ hD 1 a0_0 a0_1 a0_2 a0_3 a0_4 a0_5 a0_6 a0_7 a0_8 hw0 _ _ _ _ _ (by rw [List.length_replicate, hby]; exact bk_w1 m _ hm2 hsz)
 ·intro W i hD
  refine (dev_Flush_any W i _ _ _ _ _ _ hD).mono ?_
  rintro e w' ⟨xs', F', B', o', l', why, he, rfl, hD', hs⟩
  rw [bk_fl] at he
  simp only [Prod.mk.injEq] at he
  obtain ⟨rfl, rfl, rfl, rfl, rfl, rfl⟩ := he
  exact ⟨rfl, hD', hs⟩
 ·intro W i hTW hD
  have := super_Find_ok W hTW i _ _ _ _ _ hD
  rw [f2, f3, List.flatMap_cons, List.flatMap_cons, List.flatMap_nil, sl [] 0 (by decide) rfl, sl [] 1 (by decide) rfl] at this
  exact this
 ·intro W i hD
  have := dev_Erase_any W i _ _ _ _ _ _ 0 hD
  rw [bkX_len, bk_er m 0 hm2 (by decide) (by decide)] at this
  exact this
 ·intro W i hD
  have := dev_Erase_any W i _ _ _ _ _ _ 1 hD
  rw [bkX_len, bk_er m 1 hm2 (by decide) (by decide)] at this
  exact this
 ·intro W i hTW hD
  have := super_Find_ok W hTW i _ _ _ _ _ hD
  have e : srtS (bkX m (sectS a0_0 a0_1 a0_2 a0_3 a0_4 a0_5 a0_6 a0_7 a0_8)) [] [(1, true)] false [0] = [0] := rfl
  rw [show fndS (bkX m (sectS a0_0 a0_1 a0_2 a0_3 a0_4 a0_5 a0_6 a0_7 a0_8)) [] [(1, true)] false = [0] from fA, e, List.flatMap_cons, List.flatMap_nil, sl [(1, true)] 0 (by decide) rfl] at this
  exact this
 ·intro W i hTW hD
  have := super_Find_ok W hTW i _ _ _ _ _ hD
  have e : srtS (bkX m (sectS a0_0 a0_1 a0_2 a0_3 a0_4 a0_5 a0_6 a0_7 a0_8)) [] [(0, true)] false [1] = [1] := rfl
  rw [show fndS (bkX m (sectS a0_0 a0_1 a0_2 a0_3 a0_4 a0_5 a0_6 a0_7 a0_8)) [] [(0, true)] false = [1] from fB, e, List.flatMap_cons, List.flatMap_nil, sl [(0, true)] 1 (by decide) rfl] at this
  exact this
def caulklaw10_SuperBack.Pure : Prop := True
section
attribute [local go_sem high] eqS28 eqS48
set_option maxRecDepth 100000 in
set_option maxHeartbeats 16000000 in
theorem caulklaw10_SuperBack.walk (P : caulklaw10_SuperBack.Pure) (a0_0 a0_1 a0_2 a0_3 a0_4 a0_5 a0_6 a0_7 a0_8 : Int) (a1 : ByteArray) (a2 : Bool) (w : World) (hT : TabAt w) (hw0 : 0 ≤ a0_8 ∧ a0_8 < 4294967296) :
  Calls Tryd.prog 4 #[.agg #[.int .i64 a0_0, .int .i64 a0_1, .int .i64 a0_2, .int .i64 a0_3, .int .i64 a0_4, .int .i64 a0_5, .int .i64 a0_6, .int .i64 a0_7, .int .u32 a0_8], .string a1, .bool a2] w fun e w' => e = .returned (.bool true) ∧ Below w.heap.size w w' := by
 have hu28 := Tryd.underlying28
 have hu23 := Tryd.underlying23
 have hu26 := Tryd.underlying26
 have hu48 := Tryd.underlying48
 obtain ⟨p0, p1, p2, p3, p4, p5, p6, p7, p8, n1, hp, hpb, hp8⟩ := parse_back a1
 have hP2 : ∀ W, TabAt W → Calls Tryd.prog 11 #[.string a1] W fun e w' => e = .returned (.tuple #[.agg #[.int .i64 p0, .int .i64 p1, .int .i64 p2, .int .i64 p3, .int .i64 p4, .int .i64 p5, .int .i64 p6, .int .i64 p7, .int .u32 p8], .int .i64 n1]) ∧ Below W.heap.size W w' := fun W h => by
  have := super_Parse_any W h h.pos a1
  rw [hp] at this
  exact this
 clear hp
 have hB2 : ∃ qb qn, (n1 = 0 → qb = a1 ∧ qn = 0) ∧ ∀ W, TabAt W → Calls Tryd.prog 9 #[.agg #[.int .i64 p0, .int .i64 p1, .int .i64 p2, .int .i64 p3, .int .i64 p4, .int .i64 p5, .int .i64 p6, .int .i64 p7, .int .u32 p8]] W fun e w' => e = .returned (.tuple #[.string qb, .int .i64 qn]) ∧ Below W.heap.size W w' :=
  ⟨(bytesS p0 p1 p2 p3 p4 p5 p6 p7 p8).1, (bytesS p0 p1 p2 p3 p4 p5 p6 p7 p8).2, fun h => by rw [hpb h]; exact ⟨rfl, rfl⟩, fun W h => super_Bytes_any W h h.pos p0 p1 p2 p3 p4 p5 p6 p7 p8 hp8⟩
 clear hpb hp8
 obtain ⟨qb, qn, hq, hB2⟩ := hB2
 have hSec := fun W => ref_Sectors_any W a0_1 a0_2 a0_3 a0_4
 by_cases hok : SupOk a0_0 a0_1 a0_2 a0_3 a0_4 a0_5 a0_6 a0_7
 case neg =>
  have hB1 : ∀ W, TabAt W → Calls Tryd.prog 9 #[.agg #[.int .i64 a0_0, .int .i64 a0_1, .int .i64 a0_2, .int .i64 a0_3, .int .i64 a0_4, .int .i64 a0_5, .int .i64 a0_6, .int .i64 a0_7, .int .u32 a0_8]] W fun e w' => e = .returned (.tuple #[.string ⟨#[]⟩, .int .i64 2]) ∧ Below W.heap.size W w' := fun W h => by
   have := super_Bytes_any W h h.pos a0_0 a0_1 a0_2 a0_3 a0_4 a0_5 a0_6 a0_7 a0_8 hw0
   rw [bytesS, if_neg hok] at this
   exact this
  obtain ⟨r0, r1, r2, r3, r4, r5, r6, r7, r8, n0, hr, -⟩ := parse_back ⟨#[]⟩
  have hP1 : ∀ W, TabAt W → Calls Tryd.prog 11 #[.string ⟨#[]⟩] W fun e w' => e = .returned (.tuple #[.agg #[.int .i64 r0, .int .i64 r1, .int .i64 r2, .int .i64 r3, .int .i64 r4, .int .i64 r5, .int .i64 r6, .int .i64 r7, .int .u32 r8], .int .i64 n0]) ∧ Below W.heap.size W w' := fun W h => by
   have := super_Parse_any W h h.pos ⟨#[]⟩
   rw [hr] at this
   exact this
  clear hr hok hw0
  generalize sectorsP a0_1 a0_2 a0_3 a0_4 = n at hSec
  by_cases hn1 : n1 = 0
  ·obtain ⟨rfl, rfl⟩ := hq hn1
   subst hn1
   clear hq
   have hb0 : Step (fun _ => False) w (w.alloc (.cells #[.int .i64 a0_0, .int .i64 a0_1, .int .i64 a0_2, .int .i64 a0_3, .int .i64 a0_4, .int .i64 a0_5, .int .i64 a0_6, .int .i64 a0_7, .int .u32 a0_8] 28)) := Step.alloc _ w _
   have k0 := World.alloc_heap_new w (.cells #[.int .i64 a0_0, .int .i64 a0_1, .int .i64 a0_2, .int .i64 a0_3, .int .i64 a0_4, .int .i64 a0_5, .int .i64 a0_6, .int .i64 a0_7, .int .u32 a0_8] 28)
   go_enter Tryd.func4, Tryd.ntmps4
   try simp only [List.append_eq, List.cons_append, List.nil_append]
   go_wp2_with (go_at_call 8; with_reducible refine (super_lives_any _ (hT.step hb0 (fun h => h))).mono ?_)
   rintro e w1 ⟨rfl, hs01⟩
   have k1 := hs01.block k0 (fun h => h)
   have hs1 := step2 hb0 hs01
   have hT1 := hT.step hs1 (fun h => h)
   clear hb0 k0 hs01
   obtain ⟨x0, x1, x2, x3, x4, x5, x6, x7, x8⟩ := blk9 k1
   go_wp2_with (go_at_call 9; with_reducible refine (hB1 _ hT1).mono ?_)
   rintro e w2 ⟨rfl, hb2⟩
   have k2 := Stepb hb2 k1
   have hs2 := step2 hs1 (Step.of_below (S := fun _ => False) hb2)
   have hT2 := hT.step hs2 (fun h => h)
   clear x0 x1 x2 x3 x4 x5 x6 x7 x8 hb2 k1 hs1 hT1 hB1
   go_wp2_with (go_at_call 11; with_reducible refine (hP1 _ hT2).mono ?_)
   rintro e w3 ⟨rfl, hb3⟩
   have k3 := Stepb hb3 k2
   have hs3 := step2 hs2 (Step.of_below (S := fun _ => False) hb3)
   have ha4 := Step.alloc (fun _ => False) w3 (.cells #[.int .i64 r0, .int .i64 r1, .int .i64 r2, .int .i64 r3, .int .i64 r4, .int .i64 r5, .int .i64 r6, .int .i64 r7, .int .u32 r8] 28)
   have g4 := World.alloc_heap_new w3 (.cells #[.int .i64 r0, .int .i64 r1, .int .i64 r2, .int .i64 r3, .int .i64 r4, .int .i64 r5, .int .i64 r6, .int .i64 r7, .int .u32 r8] 28)
   have k4 := ha4.block k3 (fun h => h)
   have hs4 := step2 hs3 ha4
   have hT4 := hT.step hs4 (fun h => h)
   clear hb3 k2 hs2 hT2 hs3 ha4 k3 hP1
   go_wp2_with (go_at_call 11; with_reducible refine (hP2 _ hT4).mono ?_)
   rintro e w5 ⟨rfl, hb5⟩
   have k5 := Stepb hb5 k4
   have g5 := Stepb hb5 g4
   have hs5 := step2 hs4 (Step.of_below (S := fun _ => False) hb5)
   have ha6 := Step.alloc (fun _ => False) w5 (.cells #[.int .i64 p0, .int .i64 p1, .int .i64 p2, .int .i64 p3, .int .i64 p4, .int .i64 p5, .int .i64 p6, .int .i64 p7, .int .u32 p8] 28)
   have y6 := World.alloc_heap_new w5 (.cells #[.int .i64 p0, .int .i64 p1, .int .i64 p2, .int .i64 p3, .int .i64 p4, .int .i64 p5, .int .i64 p6, .int .i64 p7, .int .u32 p8] 28)
   have k6 := ha6.block k5 (fun h => h)
   have g6 := ha6.block g5 (fun h => h)
   have hs6 := step2 hs5 ha6
   have hT6 := hT.step hs6 (fun h => h)
   clear hb5 k4 g4 hs4 hT4 k5 g5 hs5 ha6 hP2
   obtain ⟨z0, z1, z2, z3, z4, z5, z6, z7, z8⟩ := blk9 y6
   go_wp2_with (go_at_call 9; with_reducible refine (hB2 _ hT6).mono ?_)
   rintro e w7 ⟨rfl, hb7⟩
   have k7 := Stepb hb7 k6
   have g7 := Stepb hb7 g6
   have hs7 := step2 hs6 (Step.of_below (S := fun _ => False) hb7)
   clear z0 z1 z2 z3 z4 z5 z6 z7 z8 hb7 k6 g6 y6 hs6 hT6 hB2
   obtain ⟨x0, x1, x2, x3, x4, x5, x6, x7, x8⟩ := blk9 k7
   obtain ⟨y0, y1, y2, y3, y4, y5, y6, y7, y8⟩ := blk9 g7
   go_wp2_with (go_at_call 15; with_reducible refine (hSec _).mono ?_)
   rintro e w8 ⟨rfl, hb8⟩
   have k8 := Stepb hb8 k7
   have hs8 := step2 hs7 (Step.of_below (S := fun _ => False) hb8)
   clear x0 x1 x2 x3 x4 x5 x6 x7 x8 y0 y1 y2 y3 y4 y5 y6 y7 y8 hb8 k7 g7 hs7 hSec
   go_wp2
   go_ret
   exact ⟨rfl, hs8.below (Nat.le_refl _) (fun _ h => h.elim)⟩
  ·have d1 : (n1 == 0) = false := by simpa using hn1
   clear hq hn1
   have hb0 : Step (fun _ => False) w (w.alloc (.cells #[.int .i64 a0_0, .int .i64 a0_1, .int .i64 a0_2, .int .i64 a0_3, .int .i64 a0_4, .int .i64 a0_5, .int .i64 a0_6, .int .i64 a0_7, .int .u32 a0_8] 28)) := Step.alloc _ w _
   have k0 := World.alloc_heap_new w (.cells #[.int .i64 a0_0, .int .i64 a0_1, .int .i64 a0_2, .int .i64 a0_3, .int .i64 a0_4, .int .i64 a0_5, .int .i64 a0_6, .int .i64 a0_7, .int .u32 a0_8] 28)
   go_enter Tryd.func4, Tryd.ntmps4
   try simp only [List.append_eq, List.cons_append, List.nil_append]
   go_wp2_with (go_at_call 8; with_reducible refine (super_lives_any _ (hT.step hb0 (fun h => h))).mono ?_)
   rintro e w1 ⟨rfl, hs01⟩
   have k1 := hs01.block k0 (fun h => h)
   have hs1 := step2 hb0 hs01
   have hT1 := hT.step hs1 (fun h => h)
   clear hb0 k0 hs01
   obtain ⟨x0, x1, x2, x3, x4, x5, x6, x7, x8⟩ := blk9 k1
   go_wp2_with (go_at_call 9; with_reducible refine (hB1 _ hT1).mono ?_)
   rintro e w2 ⟨rfl, hb2⟩
   have k2 := Stepb hb2 k1
   have hs2 := step2 hs1 (Step.of_below (S := fun _ => False) hb2)
   have hT2 := hT.step hs2 (fun h => h)
   clear x0 x1 x2 x3 x4 x5 x6 x7 x8 hb2 k1 hs1 hT1 hB1
   go_wp2_with (go_at_call 11; with_reducible refine (hP1 _ hT2).mono ?_)
   rintro e w3 ⟨rfl, hb3⟩
   have k3 := Stepb hb3 k2
   have hs3 := step2 hs2 (Step.of_below (S := fun _ => False) hb3)
   have ha4 := Step.alloc (fun _ => False) w3 (.cells #[.int .i64 r0, .int .i64 r1, .int .i64 r2, .int .i64 r3, .int .i64 r4, .int .i64 r5, .int .i64 r6, .int .i64 r7, .int .u32 r8] 28)
   have g4 := World.alloc_heap_new w3 (.cells #[.int .i64 r0, .int .i64 r1, .int .i64 r2, .int .i64 r3, .int .i64 r4, .int .i64 r5, .int .i64 r6, .int .i64 r7, .int .u32 r8] 28)
   have k4 := ha4.block k3 (fun h => h)
   have hs4 := step2 hs3 ha4
   have hT4 := hT.step hs4 (fun h => h)
   clear hb3 k2 hs2 hT2 hs3 ha4 k3 hP1
   go_wp2_with (go_at_call 11; with_reducible refine (hP2 _ hT4).mono ?_)
   rintro e w5 ⟨rfl, hb5⟩
   have k5 := Stepb hb5 k4
   have g5 := Stepb hb5 g4
   have hs5 := step2 hs4 (Step.of_below (S := fun _ => False) hb5)
   have ha6 := Step.alloc (fun _ => False) w5 (.cells #[.int .i64 p0, .int .i64 p1, .int .i64 p2, .int .i64 p3, .int .i64 p4, .int .i64 p5, .int .i64 p6, .int .i64 p7, .int .u32 p8] 28)
   have y6 := World.alloc_heap_new w5 (.cells #[.int .i64 p0, .int .i64 p1, .int .i64 p2, .int .i64 p3, .int .i64 p4, .int .i64 p5, .int .i64 p6, .int .i64 p7, .int .u32 p8] 28)
   have k6 := ha6.block k5 (fun h => h)
   have g6 := ha6.block g5 (fun h => h)
   have hs6 := step2 hs5 ha6
   have hT6 := hT.step hs6 (fun h => h)
   clear hb5 k4 g4 hs4 hT4 k5 g5 hs5 ha6 hP2
   obtain ⟨z0, z1, z2, z3, z4, z5, z6, z7, z8⟩ := blk9 y6
   go_wp2_with (go_at_call 9; with_reducible refine (hB2 _ hT6).mono ?_)
   rintro e w7 ⟨rfl, hb7⟩
   have k7 := Stepb hb7 k6
   have g7 := Stepb hb7 g6
   have hs7 := step2 hs6 (Step.of_below (S := fun _ => False) hb7)
   clear z0 z1 z2 z3 z4 z5 z6 z7 z8 hb7 k6 g6 y6 hs6 hT6 hB2
   obtain ⟨x0, x1, x2, x3, x4, x5, x6, x7, x8⟩ := blk9 k7
   obtain ⟨y0, y1, y2, y3, y4, y5, y6, y7, y8⟩ := blk9 g7
   go_wp2_with (go_at_call 15; with_reducible refine (hSec _).mono ?_)
   rintro e w8 ⟨rfl, hb8⟩
   have k8 := Stepb hb8 k7
   have hs8 := step2 hs7 (Step.of_below (S := fun _ => False) hb8)
   clear x0 x1 x2 x3 x4 x5 x6 x7 x8 y0 y1 y2 y3 y4 y5 y6 y7 y8 hb8 k7 g7 hs7 hSec
   go_wp2
   go_ret
   exact ⟨rfl, hs8.below (Nat.le_refl _) (fun _ h => h.elim)⟩
 have hB1 : ∀ W, TabAt W → Calls Tryd.prog 9 #[.agg #[.int .i64 a0_0, .int .i64 a0_1, .int .i64 a0_2, .int .i64 a0_3, .int .i64 a0_4, .int .i64 a0_5, .int .i64 a0_6, .int .i64 a0_7, .int .u32 a0_8]] W fun e w' => e = .returned (.tuple #[.string (sectS a0_0 a0_1 a0_2 a0_3 a0_4 a0_5 a0_6 a0_7 a0_8), .int .i64 0]) ∧ Below W.heap.size W w' := fun W h => by
  have := super_Bytes_any W h h.pos a0_0 a0_1 a0_2 a0_3 a0_4 a0_5 a0_6 a0_7 a0_8 hw0
  rw [bytesS, if_pos hok] at this
  exact this
 have hP1 : ∀ W, TabAt W → Calls Tryd.prog 11 #[.string (sectS a0_0 a0_1 a0_2 a0_3 a0_4 a0_5 a0_6 a0_7 a0_8)] W fun e w' => e = .returned (.tuple #[.agg #[.int .i64 a0_0, .int .i64 a0_1, .int .i64 a0_2, .int .i64 a0_3, .int .i64 a0_4, .int .i64 a0_5, .int .i64 a0_6, .int .i64 a0_7, .int .u32 a0_8], .int .i64 0]) ∧ Below W.heap.size W w' := fun W h => by
  have := super_Parse_any W h h.pos (sectS a0_0 a0_1 a0_2 a0_3 a0_4 a0_5 a0_6 a0_7 a0_8)
  rw [par_sect a0_0 a0_1 a0_2 a0_3 a0_4 a0_5 a0_6 a0_7 a0_8 hok hw0] at this
  exact this
 have hbk := back_all a0_0 a0_1 a0_2 a0_3 a0_4 a0_5 a0_6 a0_7 a0_8 hok hw0
 generalize sectS a0_0 a0_1 a0_2 a0_3 a0_4 a0_5 a0_6 a0_7 a0_8 = T at hB1 hP1 hbk
 generalize sectorsP a0_1 a0_2 a0_3 a0_4 = n at hSec hbk
 clear hok hw0
 by_cases hn : n ≤ 256
 case neg =>
  have dn : decide (256 < n) = true := decide_eq_true (by omega)
  clear hbk hn
  by_cases hn1 : n1 = 0
  ·obtain ⟨rfl, rfl⟩ := hq hn1
   subst hn1
   clear hq
   have hb0 : Step (fun _ => False) w (w.alloc (.cells #[.int .i64 a0_0, .int .i64 a0_1, .int .i64 a0_2, .int .i64 a0_3, .int .i64 a0_4, .int .i64 a0_5, .int .i64 a0_6, .int .i64 a0_7, .int .u32 a0_8] 28)) := Step.alloc _ w _
   have k0 := World.alloc_heap_new w (.cells #[.int .i64 a0_0, .int .i64 a0_1, .int .i64 a0_2, .int .i64 a0_3, .int .i64 a0_4, .int .i64 a0_5, .int .i64 a0_6, .int .i64 a0_7, .int .u32 a0_8] 28)
   go_enter Tryd.func4, Tryd.ntmps4
   try simp only [List.append_eq, List.cons_append, List.nil_append]
   go_wp2_with (go_at_call 8; with_reducible refine (super_lives_any _ (hT.step hb0 (fun h => h))).mono ?_)
   rintro e w1 ⟨rfl, hs01⟩
   have k1 := hs01.block k0 (fun h => h)
   have hs1 := step2 hb0 hs01
   have hT1 := hT.step hs1 (fun h => h)
   clear hb0 k0 hs01
   obtain ⟨x0, x1, x2, x3, x4, x5, x6, x7, x8⟩ := blk9 k1
   go_wp2_with (go_at_call 9; with_reducible refine (hB1 _ hT1).mono ?_)
   rintro e w2 ⟨rfl, hb2⟩
   have k2 := Stepb hb2 k1
   have hs2 := step2 hs1 (Step.of_below (S := fun _ => False) hb2)
   have hT2 := hT.step hs2 (fun h => h)
   clear x0 x1 x2 x3 x4 x5 x6 x7 x8 hb2 k1 hs1 hT1 hB1
   go_wp2_with (go_at_call 11; with_reducible refine (hP1 _ hT2).mono ?_)
   rintro e w3 ⟨rfl, hb3⟩
   have k3 := Stepb hb3 k2
   have hs3 := step2 hs2 (Step.of_below (S := fun _ => False) hb3)
   have ha4 := Step.alloc (fun _ => False) w3 (.cells #[.int .i64 a0_0, .int .i64 a0_1, .int .i64 a0_2, .int .i64 a0_3, .int .i64 a0_4, .int .i64 a0_5, .int .i64 a0_6, .int .i64 a0_7, .int .u32 a0_8] 28)
   have g4 := World.alloc_heap_new w3 (.cells #[.int .i64 a0_0, .int .i64 a0_1, .int .i64 a0_2, .int .i64 a0_3, .int .i64 a0_4, .int .i64 a0_5, .int .i64 a0_6, .int .i64 a0_7, .int .u32 a0_8] 28)
   have k4 := ha4.block k3 (fun h => h)
   have hs4 := step2 hs3 ha4
   have hT4 := hT.step hs4 (fun h => h)
   clear hb3 k2 hs2 hT2 hs3 ha4 k3 hP1
   go_wp2_with (go_at_call 11; with_reducible refine (hP2 _ hT4).mono ?_)
   rintro e w5 ⟨rfl, hb5⟩
   have k5 := Stepb hb5 k4
   have g5 := Stepb hb5 g4
   have hs5 := step2 hs4 (Step.of_below (S := fun _ => False) hb5)
   have ha6 := Step.alloc (fun _ => False) w5 (.cells #[.int .i64 p0, .int .i64 p1, .int .i64 p2, .int .i64 p3, .int .i64 p4, .int .i64 p5, .int .i64 p6, .int .i64 p7, .int .u32 p8] 28)
   have y6 := World.alloc_heap_new w5 (.cells #[.int .i64 p0, .int .i64 p1, .int .i64 p2, .int .i64 p3, .int .i64 p4, .int .i64 p5, .int .i64 p6, .int .i64 p7, .int .u32 p8] 28)
   have k6 := ha6.block k5 (fun h => h)
   have g6 := ha6.block g5 (fun h => h)
   have hs6 := step2 hs5 ha6
   have hT6 := hT.step hs6 (fun h => h)
   clear hb5 k4 g4 hs4 hT4 k5 g5 hs5 ha6 hP2
   obtain ⟨z0, z1, z2, z3, z4, z5, z6, z7, z8⟩ := blk9 y6
   go_wp2_with (go_at_call 9; with_reducible refine (hB2 _ hT6).mono ?_)
   rintro e w7 ⟨rfl, hb7⟩
   have k7 := Stepb hb7 k6
   have g7 := Stepb hb7 g6
   have hs7 := step2 hs6 (Step.of_below (S := fun _ => False) hb7)
   clear z0 z1 z2 z3 z4 z5 z6 z7 z8 hb7 k6 g6 y6 hs6 hT6 hB2
   obtain ⟨x0, x1, x2, x3, x4, x5, x6, x7, x8⟩ := blk9 k7
   obtain ⟨y0, y1, y2, y3, y4, y5, y6, y7, y8⟩ := blk9 g7
   go_wp2_with (go_at_call 15; with_reducible refine (hSec _).mono ?_)
   rintro e w8 ⟨rfl, hb8⟩
   have k8 := Stepb hb8 k7
   have hs8 := step2 hs7 (Step.of_below (S := fun _ => False) hb8)
   clear x0 x1 x2 x3 x4 x5 x6 x7 x8 y0 y1 y2 y3 y4 y5 y6 y7 y8 hb8 k7 g7 hs7 hSec
   go_wp2
   go_ret
   exact ⟨rfl, hs8.below (Nat.le_refl _) (fun _ h => h.elim)⟩
  ·have d1 : (n1 == 0) = false := by simpa using hn1
   clear hq hn1
   have hb0 : Step (fun _ => False) w (w.alloc (.cells #[.int .i64 a0_0, .int .i64 a0_1, .int .i64 a0_2, .int .i64 a0_3, .int .i64 a0_4, .int .i64 a0_5, .int .i64 a0_6, .int .i64 a0_7, .int .u32 a0_8] 28)) := Step.alloc _ w _
   have k0 := World.alloc_heap_new w (.cells #[.int .i64 a0_0, .int .i64 a0_1, .int .i64 a0_2, .int .i64 a0_3, .int .i64 a0_4, .int .i64 a0_5, .int .i64 a0_6, .int .i64 a0_7, .int .u32 a0_8] 28)
   go_enter Tryd.func4, Tryd.ntmps4
   try simp only [List.append_eq, List.cons_append, List.nil_append]
   go_wp2_with (go_at_call 8; with_reducible refine (super_lives_any _ (hT.step hb0 (fun h => h))).mono ?_)
   rintro e w1 ⟨rfl, hs01⟩
   have k1 := hs01.block k0 (fun h => h)
   have hs1 := step2 hb0 hs01
   have hT1 := hT.step hs1 (fun h => h)
   clear hb0 k0 hs01
   obtain ⟨x0, x1, x2, x3, x4, x5, x6, x7, x8⟩ := blk9 k1
   go_wp2_with (go_at_call 9; with_reducible refine (hB1 _ hT1).mono ?_)
   rintro e w2 ⟨rfl, hb2⟩
   have k2 := Stepb hb2 k1
   have hs2 := step2 hs1 (Step.of_below (S := fun _ => False) hb2)
   have hT2 := hT.step hs2 (fun h => h)
   clear x0 x1 x2 x3 x4 x5 x6 x7 x8 hb2 k1 hs1 hT1 hB1
   go_wp2_with (go_at_call 11; with_reducible refine (hP1 _ hT2).mono ?_)
   rintro e w3 ⟨rfl, hb3⟩
   have k3 := Stepb hb3 k2
   have hs3 := step2 hs2 (Step.of_below (S := fun _ => False) hb3)
   have ha4 := Step.alloc (fun _ => False) w3 (.cells #[.int .i64 a0_0, .int .i64 a0_1, .int .i64 a0_2, .int .i64 a0_3, .int .i64 a0_4, .int .i64 a0_5, .int .i64 a0_6, .int .i64 a0_7, .int .u32 a0_8] 28)
   have g4 := World.alloc_heap_new w3 (.cells #[.int .i64 a0_0, .int .i64 a0_1, .int .i64 a0_2, .int .i64 a0_3, .int .i64 a0_4, .int .i64 a0_5, .int .i64 a0_6, .int .i64 a0_7, .int .u32 a0_8] 28)
   have k4 := ha4.block k3 (fun h => h)
   have hs4 := step2 hs3 ha4
   have hT4 := hT.step hs4 (fun h => h)
   clear hb3 k2 hs2 hT2 hs3 ha4 k3 hP1
   go_wp2_with (go_at_call 11; with_reducible refine (hP2 _ hT4).mono ?_)
   rintro e w5 ⟨rfl, hb5⟩
   have k5 := Stepb hb5 k4
   have g5 := Stepb hb5 g4
   have hs5 := step2 hs4 (Step.of_below (S := fun _ => False) hb5)
   have ha6 := Step.alloc (fun _ => False) w5 (.cells #[.int .i64 p0, .int .i64 p1, .int .i64 p2, .int .i64 p3, .int .i64 p4, .int .i64 p5, .int .i64 p6, .int .i64 p7, .int .u32 p8] 28)
   have y6 := World.alloc_heap_new w5 (.cells #[.int .i64 p0, .int .i64 p1, .int .i64 p2, .int .i64 p3, .int .i64 p4, .int .i64 p5, .int .i64 p6, .int .i64 p7, .int .u32 p8] 28)
   have k6 := ha6.block k5 (fun h => h)
   have g6 := ha6.block g5 (fun h => h)
   have hs6 := step2 hs5 ha6
   have hT6 := hT.step hs6 (fun h => h)
   clear hb5 k4 g4 hs4 hT4 k5 g5 hs5 ha6 hP2
   obtain ⟨z0, z1, z2, z3, z4, z5, z6, z7, z8⟩ := blk9 y6
   go_wp2_with (go_at_call 9; with_reducible refine (hB2 _ hT6).mono ?_)
   rintro e w7 ⟨rfl, hb7⟩
   have k7 := Stepb hb7 k6
   have g7 := Stepb hb7 g6
   have hs7 := step2 hs6 (Step.of_below (S := fun _ => False) hb7)
   clear z0 z1 z2 z3 z4 z5 z6 z7 z8 hb7 k6 g6 y6 hs6 hT6 hB2
   obtain ⟨x0, x1, x2, x3, x4, x5, x6, x7, x8⟩ := blk9 k7
   obtain ⟨y0, y1, y2, y3, y4, y5, y6, y7, y8⟩ := blk9 g7
   go_wp2_with (go_at_call 15; with_reducible refine (hSec _).mono ?_)
   rintro e w8 ⟨rfl, hb8⟩
   have k8 := Stepb hb8 k7
   have hs8 := step2 hs7 (Step.of_below (S := fun _ => False) hb8)
   clear x0 x1 x2 x3 x4 x5 x6 x7 x8 y0 y1 y2 y3 y4 y5 y6 y7 y8 hb8 k7 g7 hs7 hSec
   go_wp2
   go_ret
   exact ⟨rfl, hs8.below (Nat.le_refl _) (fun _ h => h.elim)⟩
 have dn : decide (256 < n) = false := decide_eq_false (by omega)
 obtain ⟨X0, X2, hNew, hWa, hWb, hFl, hF2, hEr0, hEr1, hFA, hFB⟩ := hbk hn
 clear hbk hn
 by_cases hn1 : n1 = 0
 ·obtain ⟨rfl, rfl⟩ := hq hn1
  subst hn1
  clear hq
  have hb0 : Step (fun _ => False) w (w.alloc (.cells #[.int .i64 a0_0, .int .i64 a0_1, .int .i64 a0_2, .int .i64 a0_3, .int .i64 a0_4, .int .i64 a0_5, .int .i64 a0_6, .int .i64 a0_7, .int .u32 a0_8] 28)) := Step.alloc _ w _
  have k0 := World.alloc_heap_new w (.cells #[.int .i64 a0_0, .int .i64 a0_1, .int .i64 a0_2, .int .i64 a0_3, .int .i64 a0_4, .int .i64 a0_5, .int .i64 a0_6, .int .i64 a0_7, .int .u32 a0_8] 28)
  go_enter Tryd.func4, Tryd.ntmps4
  try simp only [List.append_eq, List.cons_append, List.nil_append]
  go_wp2_with (go_at_call 8; with_reducible refine (super_lives_any _ (hT.step hb0 (fun h => h))).mono ?_)
  rintro e w1 ⟨rfl, hs01⟩
  have k1 := hs01.block k0 (fun h => h)
  have hs1 := step2 hb0 hs01
  have hT1 := hT.step hs1 (fun h => h)
  clear hb0 k0 hs01
  obtain ⟨x0, x1, x2, x3, x4, x5, x6, x7, x8⟩ := blk9 k1
  go_wp2_with (go_at_call 9; with_reducible refine (hB1 _ hT1).mono ?_)
  rintro e w2 ⟨rfl, hb2⟩
  have k2 := Stepb hb2 k1
  have hs2 := step2 hs1 (Step.of_below (S := fun _ => False) hb2)
  have hT2 := hT.step hs2 (fun h => h)
  clear x0 x1 x2 x3 x4 x5 x6 x7 x8 hb2 k1 hs1 hT1 hB1
  go_wp2_with (go_at_call 11; with_reducible refine (hP1 _ hT2).mono ?_)
  rintro e w3 ⟨rfl, hb3⟩
  have k3 := Stepb hb3 k2
  have hs3 := step2 hs2 (Step.of_below (S := fun _ => False) hb3)
  have ha4 := Step.alloc (fun _ => False) w3 (.cells #[.int .i64 a0_0, .int .i64 a0_1, .int .i64 a0_2, .int .i64 a0_3, .int .i64 a0_4, .int .i64 a0_5, .int .i64 a0_6, .int .i64 a0_7, .int .u32 a0_8] 28)
  have g4 := World.alloc_heap_new w3 (.cells #[.int .i64 a0_0, .int .i64 a0_1, .int .i64 a0_2, .int .i64 a0_3, .int .i64 a0_4, .int .i64 a0_5, .int .i64 a0_6, .int .i64 a0_7, .int .u32 a0_8] 28)
  have k4 := ha4.block k3 (fun h => h)
  have hs4 := step2 hs3 ha4
  have hT4 := hT.step hs4 (fun h => h)
  clear hb3 k2 hs2 hT2 hs3 ha4 k3 hP1
  go_wp2_with (go_at_call 11; with_reducible refine (hP2 _ hT4).mono ?_)
  rintro e w5 ⟨rfl, hb5⟩
  have k5 := Stepb hb5 k4
  have g5 := Stepb hb5 g4
  have hs5 := step2 hs4 (Step.of_below (S := fun _ => False) hb5)
  have ha6 := Step.alloc (fun _ => False) w5 (.cells #[.int .i64 p0, .int .i64 p1, .int .i64 p2, .int .i64 p3, .int .i64 p4, .int .i64 p5, .int .i64 p6, .int .i64 p7, .int .u32 p8] 28)
  have y6 := World.alloc_heap_new w5 (.cells #[.int .i64 p0, .int .i64 p1, .int .i64 p2, .int .i64 p3, .int .i64 p4, .int .i64 p5, .int .i64 p6, .int .i64 p7, .int .u32 p8] 28)
  have k6 := ha6.block k5 (fun h => h)
  have g6 := ha6.block g5 (fun h => h)
  have hs6 := step2 hs5 ha6
  have hT6 := hT.step hs6 (fun h => h)
  clear hb5 k4 g4 hs4 hT4 k5 g5 hs5 ha6 hP2
  obtain ⟨z0, z1, z2, z3, z4, z5, z6, z7, z8⟩ := blk9 y6
  go_wp2_with (go_at_call 9; with_reducible refine (hB2 _ hT6).mono ?_)
  rintro e w7 ⟨rfl, hb7⟩
  have k7 := Stepb hb7 k6
  have g7 := Stepb hb7 g6
  have hs7 := step2 hs6 (Step.of_below (S := fun _ => False) hb7)
  clear z0 z1 z2 z3 z4 z5 z6 z7 z8 hb7 k6 g6 y6 hs6 hT6 hB2
  obtain ⟨x0, x1, x2, x3, x4, x5, x6, x7, x8⟩ := blk9 k7
  obtain ⟨y0, y1, y2, y3, y4, y5, y6, y7, y8⟩ := blk9 g7
  go_wp2_with (go_at_call 15; with_reducible refine (hSec _).mono ?_)
  rintro e w8 ⟨rfl, hb8⟩
  have k8 := Stepb hb8 k7
  have hs8 := step2 hs7 (Step.of_below (S := fun _ => False) hb8)
  clear x0 x1 x2 x3 x4 x5 x6 x7 x8 y0 y1 y2 y3 y4 y5 y6 y7 y8 hb8 k7 g7 hs7 hSec
  go_wp2_with (go_at_call 16; with_reducible refine (hNew _).mono ?_)
  rintro e w9 ⟨i, rfl, hD9, hlo, hb9⟩
  have k9 := Stepb hb9 k8
  have hs9 := step2 hs8 (Step.of_below (S := fun _ => False) hb9)
  have hin : ∀ k, i.In k → w.heap.size < k := fun k hk => by have := hlo k hk; have := (Array.getElem?_eq_some_iff.1 k8).1; omega
  have hT9 := hT.step hs9 (fun h => h)
  clear hlo hb9 hs8 k8 hNew
  obtain ⟨x0, x1, x2, x3, x4, x5, x6, x7, x8⟩ := blk9 k9
  go_wp2_with (go_at_call 17; with_reducible refine (hWa _ i hT9 hD9).mono ?_)
  rintro e wa ⟨rfl, hDa, hs_a⟩
  have ka := hs_a.block k9 (fun h => Nat.lt_irrefl _ (hin _ h))
  have hsa := hs9.trans hs_a (fun _ h => h) (fun k hk => Or.inr (Nat.le_of_lt (hin k hk)))
  have hTa := hT.step hsa (fun h => h)
  clear x0 x1 x2 x3 x4 x5 x6 x7 x8 hs_a k9 hs9 hT9 hD9 hWa
  obtain ⟨x0, x1, x2, x3, x4, x5, x6, x7, x8⟩ := blk9 ka
  go_wp2_with (go_at_call 17; with_reducible refine (hWb _ i hTa hDa).mono ?_)
  rintro e wb ⟨rfl, hDb, hs_b⟩
  have kb := hs_b.block ka (fun h => Nat.lt_irrefl _ (hin _ h))
  have hsb := hsa.trans hs_b (fun _ h => h) (fun k hk => Or.inr (Nat.le_of_lt (hin k hk)))
  have hTb := hT.step hsb (fun h => h)
  clear x0 x1 x2 x3 x4 x5 x6 x7 x8 hs_b ka hsa hTa hDa hWb
  go_wp2_with (go_at_call 18; with_reducible refine (hFl _ i hDb).mono ?_)
  rintro e wc ⟨rfl, hDc, hs_c⟩
  have kc := hs_c.block kb (fun h => Nat.lt_irrefl _ (hin _ h))
  have hsc := hsb.trans hs_c (fun _ h => h) (fun k hk => Or.inr (Nat.le_of_lt (hin k hk)))
  have hTc := hT.step hsc (fun h => h)
  clear hs_c kb hsb hTb hDb hFl
  go_wp2_with (go_at_call 19; with_reducible refine (hF2 _ i hTc hDc).mono ?_)
  rintro e wd ⟨v, rfl, hod, hs_d⟩
  obtain ⟨rd, cd, rfl, hrd, hld, _⟩ := ownsRow_form hod (by omega)
  have kd := hs_d.block kc (fun h => h)
  have hsd := step2 hsc hs_d
  have hDd := hDc.step hs_d (fun _ _ h => h)
  have hnd : ¬ i.In rd := fun h => by have := hDc.lt _ h; omega
  clear hs_d kc hsc hTc hDc hF2
  cases a2
  case false =>
   go_wp2_with (go_at_call 20; with_reducible refine (hEr0 _ i hDd).mono ?_)
   rintro e we ⟨rfl, hDe, hs_e⟩
   have ke := hs_e.block kd (fun h => Nat.lt_irrefl _ (hin _ h))
   have hoe := ownsRow_step hs_e hod (fun q hq h => by simp [Value.ownBlock] at hq; subst hq; exact hnd h)
   have hse := hsd.trans hs_e (fun _ h => h) (fun k hk => Or.inr (Nat.le_of_lt (hin k hk)))
   have hTe := hT.step hse (fun h => h)
   clear hs_e kd hod hsd hDd
   go_wp2_with (go_at_call 19; with_reducible refine (hFB _ i hTe hDe).mono ?_)
   rintro e wf ⟨v, rfl, hof, hs_f⟩
   obtain ⟨rf, cf, rfl, hrf, hlf, _⟩ := ownsRow_form hof (by omega)
   have kf := hs_f.block ke (fun h => h)
   have hog := ownsRow_step hs_f hoe (fun q hq h => h)
   have hsf := step2 hse hs_f
   clear hs_f ke hoe hse hTe hDe
   obtain ⟨x0, x1, x2, x3, x4, x5, x6, x7, x8⟩ := blk9 kf
   have u0 := ownsRow_cell hog (j := 0) rfl
   have u1 := ownsRow_cell hog (j := 1) rfl
   have u2 := ownsRow_cell hog (j := 2) rfl
   have u3 := ownsRow_cell hog (j := 3) rfl
   have u4 := ownsRow_cell hog (j := 4) rfl
   have u5 := ownsRow_cell hog (j := 5) rfl
   have u6 := ownsRow_cell hog (j := 6) rfl
   have u7 := ownsRow_cell hog (j := 7) rfl
   have u8 := ownsRow_cell hog (j := 8) rfl
   have u9 := ownsRow_cell hog (j := 9) rfl
   have u10 := ownsRow_cell hog (j := 10) rfl
   have u11 := ownsRow_cell hog (j := 11) rfl
   have u12 := ownsRow_cell hog (j := 12) rfl
   have u13 := ownsRow_cell hog (j := 13) rfl
   have u14 := ownsRow_cell hog (j := 14) rfl
   have u15 := ownsRow_cell hog (j := 15) rfl
   have u16 := ownsRow_cell hog (j := 16) rfl
   have u17 := ownsRow_cell hog (j := 17) rfl
   have u18 := ownsRow_cell hog (j := 18) rfl
   have u19 := ownsRow_cell hog (j := 19) rfl
   have v0 := ownsRow_cell hof (j := 0) rfl
   have v1 := ownsRow_cell hof (j := 1) rfl
   have v2 := ownsRow_cell hof (j := 2) rfl
   have v3 := ownsRow_cell hof (j := 3) rfl
   have v4 := ownsRow_cell hof (j := 4) rfl
   have v5 := ownsRow_cell hof (j := 5) rfl
   have v6 := ownsRow_cell hof (j := 6) rfl
   have v7 := ownsRow_cell hof (j := 7) rfl
   have v8 := ownsRow_cell hof (j := 8) rfl
   have v9 := ownsRow_cell hof (j := 9) rfl
   clear hog hof kf hin hFA hFB hEr0 hEr1 hnd hrd hrf
   go_wp2_with fail
   try simp only [List.append_eq, List.cons_append, List.nil_append]
   go_quiet (fail)
   go_wp2
   go_ret
   exact ⟨rfl, pw_below_drewN (hsf.below (Nat.le_refl _) (fun _ h => h.elim)) _⟩
  case true =>
   go_wp2_with (go_at_call 20; with_reducible refine (hEr1 _ i hDd).mono ?_)
   rintro e we ⟨rfl, hDe, hs_e⟩
   have ke := hs_e.block kd (fun h => Nat.lt_irrefl _ (hin _ h))
   have hoe := ownsRow_step hs_e hod (fun q hq h => by simp [Value.ownBlock] at hq; subst hq; exact hnd h)
   have hse := hsd.trans hs_e (fun _ h => h) (fun k hk => Or.inr (Nat.le_of_lt (hin k hk)))
   have hTe := hT.step hse (fun h => h)
   clear hs_e kd hod hsd hDd
   go_wp2_with (go_at_call 19; with_reducible refine (hFA _ i hTe hDe).mono ?_)
   rintro e wf ⟨v, rfl, hof, hs_f⟩
   obtain ⟨rf, cf, rfl, hrf, hlf, _⟩ := ownsRow_form hof (by omega)
   have kf := hs_f.block ke (fun h => h)
   have hog := ownsRow_step hs_f hoe (fun q hq h => h)
   have hsf := step2 hse hs_f
   clear hs_f ke hoe hse hTe hDe
   obtain ⟨x0, x1, x2, x3, x4, x5, x6, x7, x8⟩ := blk9 kf
   have u0 := ownsRow_cell hog (j := 0) rfl
   have u1 := ownsRow_cell hog (j := 1) rfl
   have u2 := ownsRow_cell hog (j := 2) rfl
   have u3 := ownsRow_cell hog (j := 3) rfl
   have u4 := ownsRow_cell hog (j := 4) rfl
   have u5 := ownsRow_cell hog (j := 5) rfl
   have u6 := ownsRow_cell hog (j := 6) rfl
   have u7 := ownsRow_cell hog (j := 7) rfl
   have u8 := ownsRow_cell hog (j := 8) rfl
   have u9 := ownsRow_cell hog (j := 9) rfl
   have u10 := ownsRow_cell hog (j := 10) rfl
   have u11 := ownsRow_cell hog (j := 11) rfl
   have u12 := ownsRow_cell hog (j := 12) rfl
   have u13 := ownsRow_cell hog (j := 13) rfl
   have u14 := ownsRow_cell hog (j := 14) rfl
   have u15 := ownsRow_cell hog (j := 15) rfl
   have u16 := ownsRow_cell hog (j := 16) rfl
   have u17 := ownsRow_cell hog (j := 17) rfl
   have u18 := ownsRow_cell hog (j := 18) rfl
   have u19 := ownsRow_cell hog (j := 19) rfl
   have v0 := ownsRow_cell hof (j := 0) rfl
   have v1 := ownsRow_cell hof (j := 1) rfl
   have v2 := ownsRow_cell hof (j := 2) rfl
   have v3 := ownsRow_cell hof (j := 3) rfl
   have v4 := ownsRow_cell hof (j := 4) rfl
   have v5 := ownsRow_cell hof (j := 5) rfl
   have v6 := ownsRow_cell hof (j := 6) rfl
   have v7 := ownsRow_cell hof (j := 7) rfl
   have v8 := ownsRow_cell hof (j := 8) rfl
   have v9 := ownsRow_cell hof (j := 9) rfl
   clear hog hof kf hin hFA hFB hEr0 hEr1 hnd hrd hrf
   go_wp2_with fail
   try simp only [List.append_eq, List.cons_append, List.nil_append]
   go_quiet (fail)
   go_wp2
   go_ret
   exact ⟨rfl, pw_below_drewN (hsf.below (Nat.le_refl _) (fun _ h => h.elim)) _⟩
 ·have d1 : (n1 == 0) = false := by simpa using hn1
  clear hq hn1
  have hb0 : Step (fun _ => False) w (w.alloc (.cells #[.int .i64 a0_0, .int .i64 a0_1, .int .i64 a0_2, .int .i64 a0_3, .int .i64 a0_4, .int .i64 a0_5, .int .i64 a0_6, .int .i64 a0_7, .int .u32 a0_8] 28)) := Step.alloc _ w _
  have k0 := World.alloc_heap_new w (.cells #[.int .i64 a0_0, .int .i64 a0_1, .int .i64 a0_2, .int .i64 a0_3, .int .i64 a0_4, .int .i64 a0_5, .int .i64 a0_6, .int .i64 a0_7, .int .u32 a0_8] 28)
  go_enter Tryd.func4, Tryd.ntmps4
  try simp only [List.append_eq, List.cons_append, List.nil_append]
  go_wp2_with (go_at_call 8; with_reducible refine (super_lives_any _ (hT.step hb0 (fun h => h))).mono ?_)
  rintro e w1 ⟨rfl, hs01⟩
  have k1 := hs01.block k0 (fun h => h)
  have hs1 := step2 hb0 hs01
  have hT1 := hT.step hs1 (fun h => h)
  clear hb0 k0 hs01
  obtain ⟨x0, x1, x2, x3, x4, x5, x6, x7, x8⟩ := blk9 k1
  go_wp2_with (go_at_call 9; with_reducible refine (hB1 _ hT1).mono ?_)
  rintro e w2 ⟨rfl, hb2⟩
  have k2 := Stepb hb2 k1
  have hs2 := step2 hs1 (Step.of_below (S := fun _ => False) hb2)
  have hT2 := hT.step hs2 (fun h => h)
  clear x0 x1 x2 x3 x4 x5 x6 x7 x8 hb2 k1 hs1 hT1 hB1
  go_wp2_with (go_at_call 11; with_reducible refine (hP1 _ hT2).mono ?_)
  rintro e w3 ⟨rfl, hb3⟩
  have k3 := Stepb hb3 k2
  have hs3 := step2 hs2 (Step.of_below (S := fun _ => False) hb3)
  have ha4 := Step.alloc (fun _ => False) w3 (.cells #[.int .i64 a0_0, .int .i64 a0_1, .int .i64 a0_2, .int .i64 a0_3, .int .i64 a0_4, .int .i64 a0_5, .int .i64 a0_6, .int .i64 a0_7, .int .u32 a0_8] 28)
  have g4 := World.alloc_heap_new w3 (.cells #[.int .i64 a0_0, .int .i64 a0_1, .int .i64 a0_2, .int .i64 a0_3, .int .i64 a0_4, .int .i64 a0_5, .int .i64 a0_6, .int .i64 a0_7, .int .u32 a0_8] 28)
  have k4 := ha4.block k3 (fun h => h)
  have hs4 := step2 hs3 ha4
  have hT4 := hT.step hs4 (fun h => h)
  clear hb3 k2 hs2 hT2 hs3 ha4 k3 hP1
  go_wp2_with (go_at_call 11; with_reducible refine (hP2 _ hT4).mono ?_)
  rintro e w5 ⟨rfl, hb5⟩
  have k5 := Stepb hb5 k4
  have g5 := Stepb hb5 g4
  have hs5 := step2 hs4 (Step.of_below (S := fun _ => False) hb5)
  have ha6 := Step.alloc (fun _ => False) w5 (.cells #[.int .i64 p0, .int .i64 p1, .int .i64 p2, .int .i64 p3, .int .i64 p4, .int .i64 p5, .int .i64 p6, .int .i64 p7, .int .u32 p8] 28)
  have y6 := World.alloc_heap_new w5 (.cells #[.int .i64 p0, .int .i64 p1, .int .i64 p2, .int .i64 p3, .int .i64 p4, .int .i64 p5, .int .i64 p6, .int .i64 p7, .int .u32 p8] 28)
  have k6 := ha6.block k5 (fun h => h)
  have g6 := ha6.block g5 (fun h => h)
  have hs6 := step2 hs5 ha6
  have hT6 := hT.step hs6 (fun h => h)
  clear hb5 k4 g4 hs4 hT4 k5 g5 hs5 ha6 hP2
  obtain ⟨z0, z1, z2, z3, z4, z5, z6, z7, z8⟩ := blk9 y6
  go_wp2_with (go_at_call 9; with_reducible refine (hB2 _ hT6).mono ?_)
  rintro e w7 ⟨rfl, hb7⟩
  have k7 := Stepb hb7 k6
  have g7 := Stepb hb7 g6
  have hs7 := step2 hs6 (Step.of_below (S := fun _ => False) hb7)
  clear z0 z1 z2 z3 z4 z5 z6 z7 z8 hb7 k6 g6 y6 hs6 hT6 hB2
  obtain ⟨x0, x1, x2, x3, x4, x5, x6, x7, x8⟩ := blk9 k7
  obtain ⟨y0, y1, y2, y3, y4, y5, y6, y7, y8⟩ := blk9 g7
  go_wp2_with (go_at_call 15; with_reducible refine (hSec _).mono ?_)
  rintro e w8 ⟨rfl, hb8⟩
  have k8 := Stepb hb8 k7
  have hs8 := step2 hs7 (Step.of_below (S := fun _ => False) hb8)
  clear x0 x1 x2 x3 x4 x5 x6 x7 x8 y0 y1 y2 y3 y4 y5 y6 y7 y8 hb8 k7 g7 hs7 hSec
  go_wp2_with (go_at_call 16; with_reducible refine (hNew _).mono ?_)
  rintro e w9 ⟨i, rfl, hD9, hlo, hb9⟩
  have k9 := Stepb hb9 k8
  have hs9 := step2 hs8 (Step.of_below (S := fun _ => False) hb9)
  have hin : ∀ k, i.In k → w.heap.size < k := fun k hk => by have := hlo k hk; have := (Array.getElem?_eq_some_iff.1 k8).1; omega
  have hT9 := hT.step hs9 (fun h => h)
  clear hlo hb9 hs8 k8 hNew
  obtain ⟨x0, x1, x2, x3, x4, x5, x6, x7, x8⟩ := blk9 k9
  go_wp2_with (go_at_call 17; with_reducible refine (hWa _ i hT9 hD9).mono ?_)
  rintro e wa ⟨rfl, hDa, hs_a⟩
  have ka := hs_a.block k9 (fun h => Nat.lt_irrefl _ (hin _ h))
  have hsa := hs9.trans hs_a (fun _ h => h) (fun k hk => Or.inr (Nat.le_of_lt (hin k hk)))
  have hTa := hT.step hsa (fun h => h)
  clear x0 x1 x2 x3 x4 x5 x6 x7 x8 hs_a k9 hs9 hT9 hD9 hWa
  obtain ⟨x0, x1, x2, x3, x4, x5, x6, x7, x8⟩ := blk9 ka
  go_wp2_with (go_at_call 17; with_reducible refine (hWb _ i hTa hDa).mono ?_)
  rintro e wb ⟨rfl, hDb, hs_b⟩
  have kb := hs_b.block ka (fun h => Nat.lt_irrefl _ (hin _ h))
  have hsb := hsa.trans hs_b (fun _ h => h) (fun k hk => Or.inr (Nat.le_of_lt (hin k hk)))
  have hTb := hT.step hsb (fun h => h)
  clear x0 x1 x2 x3 x4 x5 x6 x7 x8 hs_b ka hsa hTa hDa hWb
  go_wp2_with (go_at_call 18; with_reducible refine (hFl _ i hDb).mono ?_)
  rintro e wc ⟨rfl, hDc, hs_c⟩
  have kc := hs_c.block kb (fun h => Nat.lt_irrefl _ (hin _ h))
  have hsc := hsb.trans hs_c (fun _ h => h) (fun k hk => Or.inr (Nat.le_of_lt (hin k hk)))
  have hTc := hT.step hsc (fun h => h)
  clear hs_c kb hsb hTb hDb hFl
  go_wp2_with (go_at_call 19; with_reducible refine (hF2 _ i hTc hDc).mono ?_)
  rintro e wd ⟨v, rfl, hod, hs_d⟩
  obtain ⟨rd, cd, rfl, hrd, hld, _⟩ := ownsRow_form hod (by omega)
  have kd := hs_d.block kc (fun h => h)
  have hsd := step2 hsc hs_d
  have hDd := hDc.step hs_d (fun _ _ h => h)
  have hnd : ¬ i.In rd := fun h => by have := hDc.lt _ h; omega
  clear hs_d kc hsc hTc hDc hF2
  cases a2
  case false =>
   go_wp2_with (go_at_call 20; with_reducible refine (hEr0 _ i hDd).mono ?_)
   rintro e we ⟨rfl, hDe, hs_e⟩
   have ke := hs_e.block kd (fun h => Nat.lt_irrefl _ (hin _ h))
   have hoe := ownsRow_step hs_e hod (fun q hq h => by simp [Value.ownBlock] at hq; subst hq; exact hnd h)
   have hse := hsd.trans hs_e (fun _ h => h) (fun k hk => Or.inr (Nat.le_of_lt (hin k hk)))
   have hTe := hT.step hse (fun h => h)
   clear hs_e kd hod hsd hDd
   go_wp2_with (go_at_call 19; with_reducible refine (hFB _ i hTe hDe).mono ?_)
   rintro e wf ⟨v, rfl, hof, hs_f⟩
   obtain ⟨rf, cf, rfl, hrf, hlf, _⟩ := ownsRow_form hof (by omega)
   have kf := hs_f.block ke (fun h => h)
   have hog := ownsRow_step hs_f hoe (fun q hq h => h)
   have hsf := step2 hse hs_f
   clear hs_f ke hoe hse hTe hDe
   obtain ⟨x0, x1, x2, x3, x4, x5, x6, x7, x8⟩ := blk9 kf
   have u0 := ownsRow_cell hog (j := 0) rfl
   have u1 := ownsRow_cell hog (j := 1) rfl
   have u2 := ownsRow_cell hog (j := 2) rfl
   have u3 := ownsRow_cell hog (j := 3) rfl
   have u4 := ownsRow_cell hog (j := 4) rfl
   have u5 := ownsRow_cell hog (j := 5) rfl
   have u6 := ownsRow_cell hog (j := 6) rfl
   have u7 := ownsRow_cell hog (j := 7) rfl
   have u8 := ownsRow_cell hog (j := 8) rfl
   have u9 := ownsRow_cell hog (j := 9) rfl
   have u10 := ownsRow_cell hog (j := 10) rfl
   have u11 := ownsRow_cell hog (j := 11) rfl
   have u12 := ownsRow_cell hog (j := 12) rfl
   have u13 := ownsRow_cell hog (j := 13) rfl
   have u14 := ownsRow_cell hog (j := 14) rfl
   have u15 := ownsRow_cell hog (j := 15) rfl
   have u16 := ownsRow_cell hog (j := 16) rfl
   have u17 := ownsRow_cell hog (j := 17) rfl
   have u18 := ownsRow_cell hog (j := 18) rfl
   have u19 := ownsRow_cell hog (j := 19) rfl
   have v0 := ownsRow_cell hof (j := 0) rfl
   have v1 := ownsRow_cell hof (j := 1) rfl
   have v2 := ownsRow_cell hof (j := 2) rfl
   have v3 := ownsRow_cell hof (j := 3) rfl
   have v4 := ownsRow_cell hof (j := 4) rfl
   have v5 := ownsRow_cell hof (j := 5) rfl
   have v6 := ownsRow_cell hof (j := 6) rfl
   have v7 := ownsRow_cell hof (j := 7) rfl
   have v8 := ownsRow_cell hof (j := 8) rfl
   have v9 := ownsRow_cell hof (j := 9) rfl
   clear hog hof kf hin hFA hFB hEr0 hEr1 hnd hrd hrf
   go_wp2_with fail
   try simp only [List.append_eq, List.cons_append, List.nil_append]
   go_quiet (fail)
   go_wp2
   go_ret
   exact ⟨rfl, pw_below_drewN (hsf.below (Nat.le_refl _) (fun _ h => h.elim)) _⟩
  case true =>
   go_wp2_with (go_at_call 20; with_reducible refine (hEr1 _ i hDd).mono ?_)
   rintro e we ⟨rfl, hDe, hs_e⟩
   have ke := hs_e.block kd (fun h => Nat.lt_irrefl _ (hin _ h))
   have hoe := ownsRow_step hs_e hod (fun q hq h => by simp [Value.ownBlock] at hq; subst hq; exact hnd h)
   have hse := hsd.trans hs_e (fun _ h => h) (fun k hk => Or.inr (Nat.le_of_lt (hin k hk)))
   have hTe := hT.step hse (fun h => h)
   clear hs_e kd hod hsd hDd
   go_wp2_with (go_at_call 19; with_reducible refine (hFA _ i hTe hDe).mono ?_)
   rintro e wf ⟨v, rfl, hof, hs_f⟩
   obtain ⟨rf, cf, rfl, hrf, hlf, _⟩ := ownsRow_form hof (by omega)
   have kf := hs_f.block ke (fun h => h)
   have hog := ownsRow_step hs_f hoe (fun q hq h => h)
   have hsf := step2 hse hs_f
   clear hs_f ke hoe hse hTe hDe
   obtain ⟨x0, x1, x2, x3, x4, x5, x6, x7, x8⟩ := blk9 kf
   have u0 := ownsRow_cell hog (j := 0) rfl
   have u1 := ownsRow_cell hog (j := 1) rfl
   have u2 := ownsRow_cell hog (j := 2) rfl
   have u3 := ownsRow_cell hog (j := 3) rfl
   have u4 := ownsRow_cell hog (j := 4) rfl
   have u5 := ownsRow_cell hog (j := 5) rfl
   have u6 := ownsRow_cell hog (j := 6) rfl
   have u7 := ownsRow_cell hog (j := 7) rfl
   have u8 := ownsRow_cell hog (j := 8) rfl
   have u9 := ownsRow_cell hog (j := 9) rfl
   have u10 := ownsRow_cell hog (j := 10) rfl
   have u11 := ownsRow_cell hog (j := 11) rfl
   have u12 := ownsRow_cell hog (j := 12) rfl
   have u13 := ownsRow_cell hog (j := 13) rfl
   have u14 := ownsRow_cell hog (j := 14) rfl
   have u15 := ownsRow_cell hog (j := 15) rfl
   have u16 := ownsRow_cell hog (j := 16) rfl
   have u17 := ownsRow_cell hog (j := 17) rfl
   have u18 := ownsRow_cell hog (j := 18) rfl
   have u19 := ownsRow_cell hog (j := 19) rfl
   have v0 := ownsRow_cell hof (j := 0) rfl
   have v1 := ownsRow_cell hof (j := 1) rfl
   have v2 := ownsRow_cell hof (j := 2) rfl
   have v3 := ownsRow_cell hof (j := 3) rfl
   have v4 := ownsRow_cell hof (j := 4) rfl
   have v5 := ownsRow_cell hof (j := 5) rfl
   have v6 := ownsRow_cell hof (j := 6) rfl
   have v7 := ownsRow_cell hof (j := 7) rfl
   have v8 := ownsRow_cell hof (j := 8) rfl
   have v9 := ownsRow_cell hof (j := 9) rfl
   clear hog hof kf hin hFA hFB hEr0 hEr1 hnd hrd hrf
   go_wp2_with fail
   try simp only [List.append_eq, List.cons_append, List.nil_append]
   go_quiet (fail)
   go_wp2
   go_ret
   exact ⟨rfl, pw_below_drewN (hsf.below (Nat.le_refl _) (fun _ h => h.elim)) _⟩
end
end

end Go.Proofs.YtmmfplogkikbjaaDoor.HSK
