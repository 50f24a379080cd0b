/- WRITTEN BY wip/hyb.py, a program of this workplace (out of the kit's printer and this workplace's own contracts). -/
import Derived.Test.YtpbkcdodpjpoeaaDoorGCPx0
import Derived.Test.YtpbkcdodpjpoeaaDoorGCPx1
import Derived.Test.YtpbkcdodpjpoeaaDoorGCPx2
namespace Go.Proofs.YtpbkcdodpjpoeaaDoor.HCP
open Go.RowKit Go.Proofs.YtpbkcdodpjpoeaaDoorW.PrintWords Go.Proofs.YtpbkcdodpjpoeaaDoorW.PrintLast Go.Proofs.YtpbkcdodpjpoeaaDoorW.PrintMore
attribute [local go_sem] max2_int min2_int max_two min_two max_three min_three max_four min_four   -- for this text's walks alone
set_option linter.unusedVariables false
set_option linter.unusedSimpArgs false

section
open Go Go.Shelf Go.Maps Go.Proofs.YtpbkcdodpjpoeaaDoor.Seq Go.Proofs.YtpbkcdodpjpoeaaDoor.MapL Go.Proofs.YtpbkcdodpjpoeaaDoorW.PrintLast
attribute [local go_sem] Oper.semAt_some max2_int min2_int max_two min_two
def GeoOk (sh K M C : Int) : Prop := 0 ≤ sh ∧ sh ≤ 7 ∧ 1 ≤ K ∧ 0 ≤ M ∧ K ≤ 255 ∧ M ≤ 255 - K ∧ 4 ≤ C ∧ C ≤ 4096 ∧ C * 2 ^ sh.toNat ≤ 32768
instance (sh K M C : Int) : Decidable (GeoOk sh K M C) := by unfold GeoOk; infer_instance
theorem sh_cases {sh : Int} (h0 : 0 ≤ sh) (h1 : sh ≤ 7) : sh = 0 ∨ sh = 1 ∨ sh = 2 ∨ sh = 3 ∨ sh = 4 ∨ sh = 5 ∨ sh = 6 ∨ sh = 7 := by omega
theorem wrap64_id {x : Int} (h0 : -9223372036854775808 ≤ x) (h1 : x ≤ 9223372036854775807) : wrap64 x = x := by unfold wrap64; omega
theorem wrapI {x : Int} (h0 : -9223372036854775808 ≤ x) (h1 : x ≤ 9223372036854775807) : IntKind.wrap .i64 x = x := by
 simp [IntKind.wrap, IntKind.signed, IntKind.bits]
 split <;> omega
theorem min_bits {sh : Int} (h1 : sh ≤ 7) : min sh.toNat IntKind.i64.bits = sh.toNat := Nat.min_eq_left (by simp [IntKind.bits]; omega)
theorem shl_is (x sh : Int) (h0 : 0 ≤ sh) (h1 : sh ≤ 7) (x0 : 0 ≤ x) (x1 : x ≤ 4096) : shl .i64 x sh = x * 2 ^ sh.toNat := by
 unfold shl
 rw [min_bits h1]
 rcases sh_cases h0 h1 with rfl | rfl | rfl | rfl | rfl | rfl | rfl | rfl <;> refine wrapI ?_ ?_ <;> simp <;> omega
theorem shl9 (sh : Int) (h0 : 0 ≤ sh) (h1 : sh ≤ 7) : shl .i64 1 (wrap64 (9 + sh)) = 512 * 2 ^ sh.toNat := by
 rcases sh_cases h0 h1 with rfl | rfl | rfl | rfl | rfl | rfl | rfl | rfl <;> decide +kernel
theorem shr_is (C sh : Int) (h0 : 0 ≤ sh) (h1 : sh ≤ 7) : (C > shr .i64 32768 sh) ↔ ¬ (C * 2 ^ sh.toNat ≤ 32768) := by
 unfold shr
 rw [min_bits h1]
 rcases sh_cases h0 h1 with rfl | rfl | rfl | rfl | rfl | rfl | rfl | rfl <;> simp <;> omega
theorem geom_Check_f (sh K M C : Int) : geom_Check.f 1 sh K M C = some (if GeoOk sh K M C then 0 else 2) := by
 unfold geom_Check.f
 by_cases a1 : sh < 0
 ·rw [if_pos a1, if_neg (fun h => by have := h.1; omega)]; rfl
 by_cases a2 : sh > 7
 ·rw [if_neg a1, if_pos a2, if_neg (fun h => by have := h.2.1; omega)]; rfl
 rw [if_neg a1, if_neg a2]
 have hB : ∀ b : Bool, geom_Check.j0 1 b sh K M C = some (if b = true ∨ C < 4 ∨ C > 4096 ∨ ¬ (C * 2 ^ sh.toNat ≤ 32768) then 2 else 0) := by
  intro b
  show (if b = true then some 2 else if C < 4 then some 2 else if C > 4096 then some 2 else if 0 ≤ sh then (if C > shr .i64 32768 sh then some 2 else some 0) else none) = _
  by_cases b0 : b = true
  ·rw [if_pos b0, if_pos (Or.inl b0)]
  by_cases b1 : C < 4
  ·rw [if_neg b0, if_pos b1, if_pos (Or.inr (Or.inl b1))]
  by_cases b2 : C > 4096
  ·rw [if_neg b0, if_neg b1, if_pos b2, if_pos (Or.inr (Or.inr (Or.inl b2)))]
  rw [if_neg b0, if_neg b1, if_neg b2, if_pos (by omega)]
  by_cases b3 : C * 2 ^ sh.toNat ≤ 32768
  ·rw [if_neg (fun h => (shr_is C sh (by omega) (by omega)).1 h b3), if_neg (fun h => by rcases h with h | h | h | h; exact b0 h; omega; omega; exact h b3)]
  ·rw [if_pos ((shr_is C sh (by omega) (by omega)).2 b3), if_pos (Or.inr (Or.inr (Or.inr b3)))]
 have hR : rs_Check.f K M = some (if 1 ≤ K ∧ 0 ≤ M ∧ K ≤ 255 ∧ M ≤ 255 - K then 0 else 1) := by
  unfold rs_Check.f
  by_cases c1 : K < 1
  ·rw [if_pos c1, if_neg (by omega)]
  by_cases c2 : M < 0
  ·rw [if_neg c1, if_pos c2, if_neg (by omega)]
  by_cases c3 : K > 255
  ·rw [if_neg c1, if_neg c2, if_pos c3, if_neg (by omega)]
  rw [if_neg c1, if_neg c2, if_neg c3, wrap64_id (by omega) (by omega)]
  by_cases c4 : M > 255 - K
  ·rw [if_pos c4, if_neg (by omega)]
  ·rw [if_neg c4, if_pos (by omega)]
 rw [hR]
 show geom_Check.j0 1 _ sh K M C = _
 rw [hB]
 by_cases hr : 1 ≤ K ∧ 0 ≤ M ∧ K ≤ 255 ∧ M ≤ 255 - K
 ·rw [if_pos hr]
  by_cases hg : GeoOk sh K M C
  ·rw [if_pos hg, if_neg]
   obtain ⟨_, _, _, _, _, _, g1, g2, g3⟩ := hg
   rintro (h | h | h | h)
   ·exact absurd h (by decide)
   ·omega
   ·omega
   ·exact h g3
  ·rw [if_neg hg, if_pos]
   by_cases q1 : C < 4
   ·exact Or.inr (Or.inl q1)
   by_cases q2 : C > 4096
   ·exact Or.inr (Or.inr (Or.inl q2))
   exact Or.inr (Or.inr (Or.inr (fun h => hg ⟨by omega, by omega, hr.1, hr.2.1, hr.2.2.1, hr.2.2.2, by omega, by omega, h⟩)))
 ·rw [if_neg hr, if_neg (fun h : GeoOk sh K M C => hr ⟨h.2.2.1, h.2.2.2.1, h.2.2.2.2.1, h.2.2.2.2.2.1⟩), if_pos (Or.inl (by decide))]
theorem geom_right_f (sh K M C : Int) : geom_right.f 1 sh K M C = some (decide (GeoOk sh K M C)) := by
 unfold geom_right.f
 rw [geom_Check_f]
 by_cases h : GeoOk sh K M C
 ·rw [if_pos h, decide_eq_true h]; rfl
 ·rw [if_neg h, decide_eq_false h]; rfl
def nS (sh : Int) : Nat := 2 ^ sh.toNat
theorem nS_int (sh : Int) : ((nS sh : Nat) : Int) = 2 ^ sh.toNat := by simp [nS]
theorem nS_pos (sh : Int) : 1 ≤ nS sh := Nat.one_le_two_pow
theorem nS_le {sh : Int} (h1 : sh ≤ 7) : nS sh ≤ 128 := by
 have : (2 : Nat) ^ sh.toNat ≤ 2 ^ 7 := Nat.pow_le_pow_right (by omega) (by omega)
 exact this
def sizeP (sh K M C : Int) : Int := if GeoOk sh K M C then 512 * (nS sh : Int) else 0
def sectorsP (sh K M C : Int) : Int := if GeoOk sh K M C then C * (nS sh : Int) else 0
def firstP (sh K M C at_ : Int) : Int × Int := if GeoOk sh K M C then (if 0 ≤ at_ ∧ at_ < C then (at_ * (nS sh : Int), (0 : Int)) else ((0 : Int), (1 : Int))) else ((0 : Int), (2 : Int))
abbrev geoV (sh K M C : Int) : Value := .agg #[.int .i64 sh, .int .i64 K, .int .i64 M, .int .i64 C]
theorem geom_Size_any (sh K M C : Int) (w : World) : Calls Tryd.prog 22 #[geoV sh K M C] w fun e w' => e = .returned (.int .i64 (sizeP sh K M C)) ∧ Below w.heap.size w w' := by
 refine geom_Size.calls 1 sh K M C _ w ?_
 unfold geom_Size.f sizeP
 rw [geom_right_f]
 by_cases h : GeoOk sh K M C
 ·rw [if_pos h, decide_eq_true h]
  simp only [Option.bind_some, ↓reduceIte]
  rw [shl9 sh h.1 h.2.1, nS_int, if_pos]
  rw [wrap64_id (by have := h.1; omega) (by have := h.2.1; omega)]
  have := h.1; omega
 ·rw [if_neg h, decide_eq_false h]; rfl
theorem geom_First_any (sh K M C at_ : Int) (w : World) : Calls Tryd.prog 23 #[geoV sh K M C, .int .i64 at_] w fun e w' => e = .returned (.tuple #[.int .i64 (firstP sh K M C at_).1, .int .i64 (firstP sh K M C at_).2]) ∧ Below w.heap.size w w' := by
 refine geom_First.calls 1 sh K M C at_ _ _ w ?_
 unfold geom_First.f firstP
 rw [geom_right_f]
 by_cases h : GeoOk sh K M C
 ·rw [if_pos h, decide_eq_true h]
  simp only [Option.bind_some, ↓reduceIte]
  have g := h
  obtain ⟨g1, g2, _, _, _, _, g3, g4, _⟩ := g
  by_cases a : at_ < 0
  ·rw [if_pos a, if_neg (by omega)]
  by_cases b : at_ ≥ C
  ·rw [if_neg a, if_pos b, if_neg (by omega)]
  rw [if_neg a, if_neg b, if_pos g1, shl_is at_ sh g1 g2 (by omega) (by omega), if_pos (by omega), nS_int]
 ·rw [if_neg h, decide_eq_false h]; rfl
def tabL : List Int := [0, 274646895, 549293790, 820201905, 1098587580, 1361435347, 1640403810, 1905808397, 2197175160, 2460548119, 2722870694, 2987750089, 3280807620, 3553878443, 3811616794, 4084100981]
def tabG (j : Nat) : Int := tabL.getD j 0
def TabAt (w : World) : Prop := ∀ j : Nat, j < 16 → w.cell? ⟨0, j, none⟩ = some (.int .u32 (tabG j))
theorem TabAt.step {Z : Nat → Prop} {w w' : World} (h : TabAt w) (hs : Step Z w w') (hz : ¬ Z 0) : TabAt w' := fun j hj => hs.cell (h j hj) hz
theorem TabAt.below {w w' : World} (h : TabAt w) (hb : Below w.heap.size w w') : TabAt w' := h.step (Step.of_below (S := fun _ => False) hb) (fun h => h)
def endC (x : Int) : Int := Go.bits .xor .u32 4294967295 x
theorem crc_End_any (x : Int) (w : World) : Calls Tryd.prog 27 #[.int .u32 x] w fun e w' => e = .returned (.int .u32 (endC x)) ∧ w' = w := by
 go_enter Tryd.func27, Tryd.ntmps27
 go_wp2
 go_ret
 exact ⟨rfl, rfl⟩
theorem and15 (x : Int) (h0 : 0 ≤ x) (h1 : x < 4294967296) : 0 ≤ Go.bits .and .u32 x 15 ∧ Go.bits .and .u32 x 15 < 16 := by
 have h := bits_mask .u32 32 (by decide) (fun n a b => by rw [IntKind.wrap_u32]; omega) 4 (by decide) x h0 (by omega)
 rw [show (2 : Int) ^ 4 - 1 = 15 by decide] at h
 rw [h]
 omega
def nib (x : Int) : Int := Go.bits .xor .u32 (x / 16) (tabG (Go.bits .and .u32 x 15).toNat)
def byteC (x : Int) (b : UInt8) : Int := nib (nib (Go.bits .xor .u32 x ((b.toNat : Int) % 4294967296)))
theorem xor_u32 (a b : Int) : 0 ≤ Go.bits .xor .u32 a b ∧ Go.bits .xor .u32 a b < 4294967296 := by
 simp only [Go.bits]
 rw [IntKind.wrap_u32]
 omega
def addC : List UInt8 → Int → Int
 | [], x => x
 | b :: l, x => addC l (byteC x b)
theorem addC_snoc (b : UInt8) : ∀ (l : List UInt8) (x : Int), addC (l ++ [b]) x = byteC (addC l x) b
 | [], _ => rfl
 | c :: l, x => addC_snoc b l (byteC x c)
theorem nib_in (x : Int) : 0 ≤ nib x ∧ nib x < 4294967296 := xor_u32 _ _
theorem addC_in : ∀ (l : List UInt8) (x : Int), 0 ≤ x → x < 4294967296 → 0 ≤ addC l x ∧ addC l x < 4294967296
 | [], _, h0, h1 => ⟨h0, h1⟩
 | b :: l, x, _, _ => addC_in l _ (nib_in _).1 (nib_in _).2
set_option maxRecDepth 100000 in
set_option maxHeartbeats 4000000 in
theorem crc_Add_any (x : Int) (s : ByteArray) (w : World) (hT : TabAt w) (h0 : 0 ≤ x) (h1 : x < 4294967296) (hs : s.size ≤ 1000000) : Calls Tryd.prog 28 #[.int .u32 x, .string s] w fun e w' => e = .returned (.int .u32 (addC s.data.toList x)) ∧ w' = w := by
 go_enter Tryd.func28, Tryd.ntmps28
 go_wp2
 go_loopw [0, 8] (fun t0 t8 wr => wr = w ∧ ∃ k : Nat, k ≤ s.size ∧ t8 = .int .i64 k ∧ t0 = .int .u32 (addC (s.data.toList.take k) x)) (fun _ t8 _ => s.size - (intOf t8).toNat)
 case atStart => exact ⟨rfl, 0, Nat.zero_le _, rfl, rfl⟩
 case round =>
  obtain ⟨rfl, k, hk, rfl, rfl⟩ := hrel
  have hy := addC_in (s.data.toList.take k) x h0 h1
  by_cases hkl : k < s.size
  ·have hkl2 : k < s.data.toList.length := by simpa using hkl
   have htk : addC (s.data.toList.take (k + 1)) x = byteC (addC (s.data.toList.take k) x) (s.data.toList[k]'hkl2) := by
    rw [List.take_succ_eq_append_getElem hkl2, addC_snoc]
   generalize addC (s.data.toList.take k) x = y at hy htk
   have hx := xor_u32 y (((s[k]'hkl).toNat : Int) % 4294967296)
   have hn := nib_in (Go.bits .xor .u32 y (((s[k]'hkl).toNat : Int) % 4294967296))
   have hI := and15 _ hx.1 hx.2
   have hJ := and15 _ hn.1 hn.2
   have hA := hT (Go.bits .and .u32 (Go.bits .xor .u32 y (((s[k]'hkl).toNat : Int) % 4294967296)) 15).toNat (by omega)
   have hB := hT (Go.bits .and .u32 (nib (Go.bits .xor .u32 y (((s[k]'hkl).toNat : Int) % 4294967296))) 15).toNat (by omega)
   unfold nib at hB hJ
   go_wp2
   go_roundw
   case rel => exact ⟨trivial, k + 1, by omega, by simp, by rw [htk]; rfl⟩
   case measure => simp [intOf]; omega
  ·have ek : k = s.size := by omega
   subst ek
   go_wp2
   go_ret
   refine ⟨?_, rfl⟩
   rw [List.take_of_length_le (by simp)]
   rfl
def sumC (s : ByteArray) : Int := endC (addC s.data.toList 4294967295)
theorem sumC_in (s : ByteArray) : 0 ≤ sumC s ∧ sumC s < 4294967296 := xor_u32 _ _
theorem crc_Sum_any (s : ByteArray) (w : World) (hT : TabAt w) (hs : s.size ≤ 1000000) : Calls Tryd.prog 12 #[.string s] w fun e w' => e = .returned (.int .u32 (sumC s)) ∧ Below w.heap.size w w' := by
 go_enter Tryd.func12, Tryd.ntmps12
 go_wp2_with (first
  | (go_at_call 29; refine (crc_Start.calls _ _ rfl).mono ?_; rintro e w1 ⟨rfl, hd1⟩)
  | (go_at_call 28; refine (crc_Add_any _ s _ (hT.below hd1.below) (by decide) (by decide) hs).mono ?_; rintro e w2 ⟨rfl, rfl⟩)
  | (go_at_call 27; refine (crc_End_any _ _).mono ?_; rintro e w2 ⟨rfl, rfl⟩))
 go_ret
 exact ⟨rfl, hd1.below⟩
def fillG (n : Nat) (s : ByteArray) : ByteArray := strOfNums (bytesOf s ++ List.replicate (n - s.size) 0)
theorem fillG_size (n : Nat) (s : ByteArray) (h : s.size ≤ n) : (fillG n s).size = n := by
 rw [fillG, strOfNums_size, List.length_append, bytesOf_length, List.length_replicate]; omega
def fillP (sh K M C : Int) (s : ByteArray) : ByteArray × Int := if GeoOk sh K M C then (if s.size ≤ 512 * nS sh then (fillG (512 * nS sh) s, (0 : Int)) else (⟨#[]⟩, (7 : Int))) else (⟨#[]⟩, (2 : Int))
theorem info5P : (Tryd.prog.info? 5).map (fun i => (i.zero, i.size, i.bytes)) = some (some (.int .u8 0), 1, 1) := by kernel_rfl
def fillC (N : Nat) (s : ByteArray) : Array Value := ((bytesOf s ++ List.replicate (N - s.size) 0).map (Value.int .u8)).toArray
theorem fill_run (W : World) (N : Nat) (s : ByteArray) (hN : N ≤ 65536) (hs : s.size ≤ N) :
  (Instr.makeSlice 59 (.int .i64 N) (.int .i64 N)).run Tryd.prog W = .ok (.slice (some ⟨W.heap.size, 0, none⟩) N N) (W.alloc (.cells (Array.replicate N (Value.int .u8 0)) 5)) ∧
  (Builtin.copy_ #[59, 9] 3 #[.slice (some ⟨W.heap.size, 0, none⟩) N N, .string s]).run Tryd.prog (W.alloc (.cells (Array.replicate N (Value.int .u8 0)) 5)) = .ok (goInt s.size) (W.alloc (.cells (fillC N s) 5)) ∧
  (convert 59 9 (.slice (some ⟨W.heap.size, 0, none⟩) N N)).run Tryd.prog (W.alloc (.cells (fillC N s) 5)) = .ok (.string (fillG N s)) (W.alloc (.cells (fillC N s) 5)) := by
 unfold fillC
 obtain ⟨i, hi, hz⟩ := Option.map_eq_some_iff.1 info5P
 simp only [Prod.mk.injEq] at hz
 obtain ⟨hz0, hz1, hz2⟩ := hz
 have hr := run_make (P := Tryd.prog) W 59 5 i _ Tryd.underlying59 hi hz0 .i64 .i64 N N (by omega) (Int.le_refl _) (by rw [hz2]; omega) (by omega)
 simp only [Int.toNat_natCast, hz1, Nat.mul_one] at hr
 have hm : madeCells (Value.int .u8 0).cells N = (List.replicate N (Value.int .u8 0)).toArray := by
  apply Array.ext'
  simp [madeCells, Value.cells, Nat.mod_one]
  rw [List.map_const', List.length_range]
 rw [hm] at hr
 have hn := World.alloc_heap_new W (.cells (List.replicate N (Value.int .u8 0)).toArray 5)
 have hc := Lib.run_copy_row_string (P := Tryd.prog) (W.alloc (.cells (List.replicate N (Value.int .u8 0)).toArray 5)) 59 9 3 5 W.heap.size 0 N N s _ 5 Tryd.underlying59 (by kernel_rfl) hn hs (by simp; omega)
 rw [World.setRow_alloc_new] at hc
 have hl : (((List.replicate N (Value.int .u8 0)).toArray.toList.take 0 ++ Lib.byteCells s.data.toList ++ (List.replicate N (Value.int .u8 0)).toArray.toList.drop (0 + s.size))).toArray = ((bytesOf s ++ List.replicate (N - s.size) 0).map (Value.int .u8)).toArray := by
  refine congrArg List.toArray ?_
  rw [List.take_zero, List.nil_append, Nat.zero_add, List.map_append, List.map_replicate, List.drop_replicate, bytesOf, List.map_map]
  rfl
 rw [hl] at hc
 rw [List.toArray_replicate] at hr hc
 refine ⟨hr, hc, ?_⟩
 have hn2 := World.alloc_heap_new W (.cells ((bytesOf s ++ List.replicate (N - s.size) 0).map (Value.int .u8)).toArray 5)
 exact run_convert_bytes_arg (P := Tryd.prog) _ 59 5 Tryd.underlying59 (by kernel_rfl) W.heap.size 0 N N (bytesOf s ++ List.replicate (N - s.size) 0) (by rw [List.length_append, bytesOf_length, List.length_replicate]; omega) (fun j hj => by
  have hl2 : j < (bytesOf s ++ List.replicate (N - s.size) 0).length := by rw [List.length_append, bytesOf_length, List.length_replicate]; omega
  simp only [World.cell?, hn2, Nat.zero_add]
  rw [List.getElem?_toArray, List.getElem?_map, List.getElem?_eq_getElem hl2, List.getD_eq_getElem?_getD, List.getElem?_eq_getElem hl2]
  rfl) 9 Tryd.underlying9
set_option maxRecDepth 100000 in
set_option maxHeartbeats 4000000 in
theorem cluster_Fill_any (sh K M C : Int) (s : ByteArray) (w : World) (hL : s.size ≤ 9223372036854775807) :
  Calls Tryd.prog 8 #[geoV sh K M C, .string s] w fun e w' => e = .returned (.tuple #[.string (fillP sh K M C s).1, .int .i64 (fillP sh K M C s).2]) ∧ Below w.heap.size w w' := by
 have hu23 := Tryd.underlying23
 unfold geoV
 by_cases hg : GeoOk sh K M C
 ·obtain ⟨N, hN⟩ : ∃ N, N = 512 * nS sh := ⟨_, rfl⟩
  have hN1 : 1 ≤ N := by have := nS_pos sh; omega
  have hN2 : N ≤ 65536 := by have := nS_le hg.2.1; omega
  have hS : sizeP sh K M C = (N : Int) := by rw [sizeP, if_pos hg]; omega
  by_cases hl : s.size ≤ N
  ·rw [fillP, if_pos hg, if_pos (by omega), ← hN]
   clear hN
   go_enter Tryd.func8, Tryd.ntmps8
   go_wp2_with (go_at_call 22; refine (geom_Size_any sh K M C _).mono ?_; rintro e w1 ⟨rfl, hb1⟩; rw [hS]; have hF := fill_run w1 N s hN2 hl; obtain ⟨hF1, hF2, hF3⟩ := hF)
   go_ret2
   exact ⟨rfl, ((((Below.refl _ _).alloc (Nat.le_refl _) _).trans (hb1.mono (by simp))).alloc (by have := hb1.size; simp at this; omega) _)⟩
  ·rw [fillP, if_pos hg, if_neg (by omega)]
   clear hN
   go_enter Tryd.func8, Tryd.ntmps8
   go_wp2_with (go_at_call 22; refine (geom_Size_any sh K M C _).mono ?_; rintro e w1 ⟨rfl, hb1⟩; rw [hS])
   go_ret2
   exact ⟨rfl, ((Below.refl _ _).alloc (Nat.le_refl _) _).trans (hb1.mono (by simp))⟩
 ·rw [fillP, if_neg hg]
  have hS : sizeP sh K M C = 0 := if_neg hg
  go_enter Tryd.func8, Tryd.ntmps8
  go_wp2_with (go_at_call 22; refine (geom_Size_any sh K M C _).mono ?_; rintro e w1 ⟨rfl, hb1⟩; rw [hS])
  go_ret2
  exact ⟨rfl, ((Below.refl _ _).alloc (Nat.le_refl _) _).trans (hb1.mono (by simp))⟩
theorem cluster_parts_any (sh K M C : Int) (w : World) : Calls Tryd.prog 24 #[geoV sh K M C] w fun e w' => e = .returned (.func (.func 49) #[] #[.pointer (some ⟨w.heap.size, 0, none⟩)]) ∧ w' = w.alloc (.cells #[.int .i64 sh, .int .i64 K, .int .i64 M, .int .i64 C] 23) := by
 unfold geoV
 have hu23 := Tryd.underlying23
 go_enter Tryd.func24, Tryd.ntmps24
 go_wp2
 go_ret
 exact ⟨rfl, rfl⟩
def partL (n : Nat) : List Nat := List.range n
def partE (i : Nat) : Array Value := #[.int .i64 (i : Int), .int .i64 ((i : Int) * 512)]
def GeoAt (w : World) (b : Nat) (sh K M C : Int) : Prop := w.heap[b]? = some (.cells #[.int .i64 sh, .int .i64 K, .int .i64 M, .int .i64 C] 23 (0, 0))
theorem GeoAt.step {Z : Nat → Prop} {w w' : World} {b : Nat} {sh K M C : Int} (h : GeoAt w b sh K M C) (hs : Step Z w w') (hz : ¬ Z b) : GeoAt w' b sh K M C := hs.block h hz
set_option maxRecDepth 100000 in
set_option maxHeartbeats 2000000 in
theorem parts_seq (w : World) (Bx : Nat) (sh K M C : Int) (hg : GeoOk sh K M C) (hB : GeoAt w Bx sh K M C) :
  SeqO (fun r => r = Bx) (fun _ => False) Tryd.prog 49 #[.pointer (some ⟨Bx, 0, none⟩)] partE (partL (nS sh)) w := by
 intro l J Jx O W hW hO hJ hY h0
 replace hB := hW.block hB (by simp)
 have hBl := blk_lt hB
 have hnl := nS_le hg.2.1
 have hS : sizeP sh K M C = 512 * (nS sh : Int) := if_pos hg
 generalize nS sh = n at hnl hY hS ⊢
 refine callsIn_of_wp Tryd.func49 rfl trivial ?_ rfl
 simp only [Tryd.ntmps49, List.size_toArray, List.length_cons, List.length_nil, Nat.reduceAdd, Nat.reduceSub, Array.replicate_succ, Array.replicate_zero, List.push_toArray, List.append_toArray, List.nil_append, List.cons_append]
 have hu23 := Tryd.underlying23
 have z0 : W.cell? ⟨Bx, 0, none⟩ = some (.int .i64 sh) := by rw [Lib.cell_of_heap hB]; rfl
 have z1 : W.cell? ⟨Bx, 1, none⟩ = some (.int .i64 K) := by rw [Lib.cell_of_heap hB]; rfl
 have z2 : W.cell? ⟨Bx, 2, none⟩ = some (.int .i64 M) := by rw [Lib.cell_of_heap hB]; rfl
 have z3 : W.cell? ⟨Bx, 3, none⟩ = some (.int .i64 C) := by rw [Lib.cell_of_heap hB]; rfl
 gi_wp2
 refine ⟨trivial, ?_⟩
 gi_at_call 22
 refine (callsIn_wide.2 (geom_Size_any sh K M C _)).mono ?_
 rintro e w1 ⟨rfl, hb1⟩
 rw [hS]
 gi_wp2
 have hs0 : Step (fun _ => False) W w1 := Step.of_below hb1
 have hB1 : GeoAt w1 Bx sh K M C := hs0.block hB (fun h => h)
 have hJ1 := hJ.step O [] W w1 _ h0 hs0 (fun _ h => h.elim)
 have hz1 := hb1.size
 gi_loopw [7] (fun t wr => ∃ k : Nat, k ≤ n ∧ t = .int .i64 k ∧ GeoAt wr Bx sh K M C ∧ ∃ O', J O' ((partL n).take k) wr ∧ (∀ q, O' q → q ≠ Bx)) (fun t _ => n - (intOf t).toNat)
 case atStart => exact ⟨0, Nat.zero_le _, rfl, hB1, O, hJ1, fun q hq => hO q hq⟩
 case round =>
  obtain ⟨k, hk, rfl, hBr, O1, hJr, hO1⟩ := hrel
  by_cases hkl : k < n
  ·have hpre : (partL n).take k ++ [k] <+: partL n := by
    have h1 : (partL n)[k]'(by simpa [partL] using hkl) = k := by simp [partL]
    have h2 := List.take_succ_eq_append_getElem (l := partL n) (i := k) (by simpa [partL] using hkl)
    rw [h1] at h2
    rw [← h2]; exact List.take_prefix _ _
   have htk : (partL n).take (k + 1) = (partL n).take k ++ [k] := by
    have h1 : (partL n)[k]'(by simpa [partL] using hkl) = k := by simp [partL]
    have h2 := List.take_succ_eq_append_getElem (l := partL n) (i := k) (by simpa [partL] using hkl)
    rwa [h1] at h2
   obtain ⟨fn, tmps, assign, body, hy, hR⟩ := hY O1 _ _ wr hJr hpre
   dsimp only [partE] at hy
   gi_wp2
   refine hR.mono ?_
   rintro e W' ⟨O3, hO3, hs3, ⟨rfl, hJ3⟩ | ⟨rfl, hJ3⟩⟩
   ·gi_wp2
    go_roundw
    case rel => exact ⟨k + 1, by omega, by simp, hBr.step hs3 (fun h => hO1 _ h rfl), O3, by rw [htk]; exact hJ3, fun q hq => (hO3 q hq).elim (hO1 q) (fun h => by have := blk_lt hBr; omega)⟩
    case measure => simp [intOf]; omega
   ·gi_wp2
    refine bodyPost_ret (results_none rfl _ _ _) rfl ?_
    exact ⟨⟨_, rfl⟩, O3, .inr ⟨_, hpre, hJ3⟩⟩
  ·have ek : k = n := by omega
   gi_wp2
   go_end0
   exact ⟨⟨_, rfl⟩, O1, .inl (by rw [List.take_of_length_le (by simp [partL]; omega)] at hJr; exact hJr)⟩
theorem write_ok (w : World) (i : DevIds) (xs : List ByteArray) (F : FL) (B : BL) (nw at_ : Int) (s : ByteArray) (h : DevAt w i xs F B false (-1) nw) (h0 : 0 ≤ at_) (h1 : at_ < (xs.length : Int)) (hs : s.size = 512) (n0 : 0 ≤ nw) (n1 : nw ≤ 2000000) :
  Calls Tryd.prog 26 #[.pointer (some ⟨i.d, 0, none⟩), .int .i64 at_, .string s] w fun e w' => e = .returned (.int .i64 0) ∧ DevAt w' i xs (putL at_ s F) B false (-1) (nw + 1) ∧ Step i.In w w' := by
 have hW : writeP xs.length F false (-1) nw at_ s = (putL at_ s F, false, -1, nw + 1, 0) := by
  have hr : reachP xs.length false at_ = 0 := by unfold reachP; rw [if_neg (by decide), if_pos ⟨h0, h1⟩]
  have hb : burnP false (-1) = (false, -1, 0) := rfl
  unfold writeP
  rw [hr, hb, if_neg (by decide), if_neg (by omega), if_neg (by decide), wrap64_id (by omega) (by omega)]
 have := dev_Write_any w i xs F B false (-1) nw at_ s h
 rw [hW] at this
 exact this
def writesP (first : Int) (s : ByteArray) : Nat → FL → FL
 | 0, F => F
 | k + 1, F => putL (first + (k : Int)) (s.extract (512 * k) (512 * k + 512)) (writesP first s k F)
theorem step2 {w w1 w2 : World} (h1 : Step (fun _ => False) w w1) (h2 : Step (fun _ => False) w1 w2) : Step (fun _ => False) w w2 := h1.trans h2 (fun _ h => h) (fun _ h => h.elim)
theorem four (w : World) (c0 c1 c2 c3 : Array Value) (t0 t1 t2 t3 : TypeId) : ∃ W, W = (((w.alloc (.cells c0 t0)).alloc (.cells c1 t1)).alloc (.cells c2 t2)).alloc (.cells c3 t3) ∧ Step (fun _ => False) w W ∧ W.heap.size = w.heap.size + 4 ∧
  W.heap[w.heap.size]? = some (.cells c0 t0 (0, 0)) ∧ W.heap[w.heap.size + 1]? = some (.cells c1 t1 (0, 0)) ∧ W.heap[w.heap.size + 1 + 1]? = some (.cells c2 t2 (0, 0)) ∧ W.heap[w.heap.size + 1 + 1 + 1]? = some (.cells c3 t3 (0, 0)) := by
 have n0 := World.alloc_heap_new w (.cells c0 t0)
 have n1 := World.alloc_heap_new (w.alloc (.cells c0 t0)) (.cells c1 t1)
 have n2 := World.alloc_heap_new ((w.alloc (.cells c0 t0)).alloc (.cells c1 t1)) (.cells c2 t2)
 have n3 := World.alloc_heap_new (((w.alloc (.cells c0 t0)).alloc (.cells c1 t1)).alloc (.cells c2 t2)) (.cells c3 t3)
 simp only [World.size_alloc] at n0 n1 n2 n3
 have s3 := Step.alloc (fun _ => False) (((w.alloc (.cells c0 t0)).alloc (.cells c1 t1)).alloc (.cells c2 t2)) (.cells c3 t3)
 have s2 := Step.alloc (fun _ => False) ((w.alloc (.cells c0 t0)).alloc (.cells c1 t1)) (.cells c2 t2)
 have s1 := Step.alloc (fun _ => False) (w.alloc (.cells c0 t0)) (.cells c1 t1)
 have s0 := Step.alloc (fun _ => False) w (.cells c0 t0)
 exact ⟨_, rfl, step2 s0 (step2 s1 (step2 s2 s3)), by simp, (step2 s1 (step2 s2 s3)).block n0 (fun h => h), (step2 s2 s3).block n1 (fun h => h), s3.block n2 (fun h => h), n3⟩
theorem run_slice_lh (w : World) (s : ByteArray) (l h : Int) (h0 : 0 ≤ l) (h1 : l ≤ h) (h2 : h ≤ s.size) : (Instr.slice 9 (.string s) (some (.int .i64 l)) (some (.int .i64 h)) none).run Tryd.prog w = .ok (.string (s.extract l.toNat h.toNat)) w := by
 have ht := Tryd.underlying9
 have eh : (h.toNat : Int) = h := Int.toNat_of_nonneg (by omega)
 simp [Instr.slice, run_underlying ht, Instr.sliceBounds, run_sliceBound, sliced, *, eh, (by omega : 0 ≤ l), (by omega : 0 ≤ h)]
theorem results_c1 {P : Program} {fn : Func} {p : Tmp} {ty : TypeId} (h : fn.results = #[.cell p ty]) (tmps : Array Value) (w : World) (ad : Addr) {v : Value} (hp : tmps.getD p undef = .pointer (some ad)) (hv : (loadVar ty ad).run P w = .ok v w) : (results fn tmps).run P w = .ok v w := by
 have hp' : tmps[p]?.getD undef = .pointer (some ad) := by simpa using hp
 simp [results, h, hp', asAddr, hv]
theorem results_c2 {P : Program} {fn : Func} {p q : Tmp} {ty tq : TypeId} (h : fn.results = #[.cell p ty, .cell q tq]) (tmps : Array Value) (w : World) (ad bd : Addr) {v u : Value} (hp : tmps.getD p undef = .pointer (some ad)) (hv : (loadVar ty ad).run P w = .ok v w) (hq : tmps.getD q undef = .pointer (some bd)) (hu : (loadVar tq bd).run P w = .ok u w) : (results fn tmps).run P w = .ok (.tuple #[v, u]) w := by
 have hp' : tmps[p]?.getD undef = .pointer (some ad) := by simpa using hp
 have hq' : tmps[q]?.getD undef = .pointer (some bd) := by simpa using hq
 simp [results, h, hp', hq', asAddr, hv, hu]
theorem loadVar28 (w : World) (ad : Addr) (n : Int) (h : w.cell? ad = some (.int .i64 n)) : (loadVar 28 ad).run Tryd.prog w = .ok (.int .i64 n) w := by
 have u := Tryd.underlying28
 go_simp
theorem loadVar9 (w : World) (ad : Addr) (s : ByteArray) (h : w.cell? ad = some (.string s)) : (loadVar 9 ad).run Tryd.prog w = .ok (.string s) w := by
 have u := Tryd.underlying9
 go_simp
def onlyN (R : Act → World → Prop) : Exit → Act → World → Prop
 | .normal, a, w => R a w
 | _, _, _ => False
theorem region_only {c : Code} {n : Nat} {Q : Exit → Act → World → Prop} {a : Act} {w : World} (h : c.wp Tryd.prog (onlyN (Q .normal)) a w) : c.wpIn Fence.wide n Tryd.prog Q a w := by
 refine wpIn_wide.2 (Code.wp_mono ?_ h)
 intro e a w h
 cases e <;> first | exact h | exact h.elim
theorem part_pre {n x : Nat} {pre : List Nat} (h : (pre ++ [x]) <+: partL n) : x = pre.length ∧ x < n := by
 obtain ⟨t, ht⟩ := h
 have h1 : (partL n)[pre.length]? = some x := by rw [← ht]; simp
 obtain ⟨hlt, he⟩ := List.getElem?_eq_some_iff.1 h1
 simp [partL] at hlt he
 omega
set_option maxRecDepth 100000 in
set_option maxHeartbeats 4000000 in
theorem cluster_Write_any (w : World) (i : DevIds) (xs : List ByteArray) (F : FL) (B : BL) (nw : Int) (sh gk gm C at_ : Int) (s : ByteArray) (h : DevAt w i xs F B false (-1) nw) (hg : GeoOk sh gk gm C) (hn : (xs.length : Int) = C * (nS sh : Int)) (ha : 0 ≤ at_) (hb : at_ < C) (hs : s.size = 512 * nS sh) (hnw0 : 0 ≤ nw) (hnw : nw ≤ 1000000) :
  Calls Tryd.prog 10 #[.pointer (some ⟨i.d, 0, none⟩), geoV sh gk gm C, .int .i64 at_, .string s] w fun e w' => e = .returned (.int .i64 0) ∧ DevAt w' i xs (writesP (at_ * (nS sh : Int)) s (nS sh) F) B false (-1) (nw + (nS sh : Int)) ∧ Step i.In w w' := by
 unfold geoV
 have hu23 := Tryd.underlying23
 have hF : firstP sh gk gm C at_ = (at_ * (nS sh : Int), 0) := by rw [firstP, if_pos hg, if_pos ⟨ha, hb⟩]
 have hS : sizeP sh gk gm C = 512 * (nS sh : Int) := if_pos hg
 refine (callsIn_wide (n := 4)).1 ?_
 refine callsIn_of_wp_marks Tryd.func10 rfl trivial ?_ rfl
 simp only [Tryd.ntmps10, List.size_toArray, List.length_cons, List.length_nil, Nat.reduceAdd, Nat.reduceSub, Array.replicate_succ, Array.replicate_zero, List.push_toArray, List.append_toArray, List.nil_append, List.cons_append]
 obtain ⟨W0, hW0, hs0, hz0, k0, k1, k2, k3⟩ := four w #[.pointer (some ⟨i.d, 0, none⟩)] #[.int .i64 sh, .int .i64 gk, .int .i64 gm, .int .i64 C] #[.string s] #[.int .i64 0] 27 23 9 28
 gi_wp2
 refine ⟨trivial, ?_⟩
 gi_at_call 23
 refine (callsIn_wide.2 (geom_First_any sh gk gm C at_ _)).mono ?_
 rintro e w1 ⟨rfl, hb1⟩
 rw [hF]
 dsimp only
 rw [← hW0] at hb1
 have hs1 := step2 hs0 (Step.of_below (S := fun _ => False) hb1)
 have q0 := (Step.of_below (S := fun _ => False) hb1).block k0 (fun h => h)
 have q1 := (Step.of_below (S := fun _ => False) hb1).block k1 (fun h => h)
 have q2 := (Step.of_below (S := fun _ => False) hb1).block k2 (fun h => h)
 have q3 := (Step.of_below (S := fun _ => False) hb1).block k3 (fun h => h)
 have hz1 := hb1.size
 rw [hz0] at hz1
 clear hW0 hb1 k0 k1 k2 k3 hs0 hz0
 obtain ⟨b, hbe⟩ : ∃ b, b = w.heap.size := ⟨_, rfl⟩
 have hD1 := h.step hs1 (fun _ _ h => h)
 have hlt := h.lt
 have hbw : w.heap.size ≤ b := by omega
 rw [← hbe] at q0 q1 q2 q3 hz1 hlt ⊢
 clear hbe
 have hn1 := nS_pos sh
 have hn2 := nS_le hg.2.1
 have hln := h.ok.2.1
 have hf1 : 0 ≤ at_ * (nS sh : Int) := Int.mul_nonneg ha (Int.natCast_nonneg _)
 have hf2 : at_ * (nS sh : Int) + (nS sh : Int) ≤ (xs.length : Int) := by
  rw [hn]
  have := Int.mul_le_mul_of_nonneg_right (show at_ + 1 ≤ C by omega) (Int.natCast_nonneg (nS sh))
  rw [Int.add_mul, Int.one_mul] at this
  exact this
 generalize hf0 : at_ * (nS sh : Int) = f0 at *
 gi_wp2
 have hs2 := Step.alloc (fun _ => False) w1 (.cells #[.int .i64 f0] 3)
 have r0 := hs2.block q0 (fun h => h)
 have r1 := hs2.block q1 (fun h => h)
 have r2 := hs2.block q2 (fun h => h)
 have r3 := hs2.block q3 (fun h => h)
 have r4 := World.alloc_heap_new w1 (.cells #[.int .i64 f0] 3)
 have hD2 := hD1.step hs2 (fun _ _ h => h)
 have hs2' := step2 hs1 hs2
 have hz2 : (w1.alloc (.cells #[.int .i64 f0] 3)).heap.size = w1.heap.size + 1 := by simp
 obtain ⟨p, hpe⟩ : ∃ p, p = w1.heap.size := ⟨_, rfl⟩
 rw [← hpe] at r4 hz1 hz2 ⊢
 generalize w1.alloc (.cells #[.int .i64 f0] 3) = W at *
 clear q0 q1 q2 q3 hs1 hs2 hD1 hpe
 have y2 : W.drew.cell? ⟨b + 1 + 1, 0, none⟩ = some (.string s) := by show W.cell? _ = _; rw [Lib.cell_of_heap r2]; rfl
 have y10 : W.drew.cell? ⟨b + 1, 0, none⟩ = some (.int .i64 sh) := by show W.cell? _ = _; rw [Lib.cell_of_heap r1]; rfl
 have y11 : W.drew.cell? ⟨b + 1, 1, none⟩ = some (.int .i64 gk) := by show W.cell? _ = _; rw [Lib.cell_of_heap r1]; rfl
 have y12 : W.drew.cell? ⟨b + 1, 2, none⟩ = some (.int .i64 gm) := by show W.cell? _ = _; rw [Lib.cell_of_heap r1]; rfl
 have y13 : W.drew.cell? ⟨b + 1, 3, none⟩ = some (.int .i64 C) := by show W.cell? _ = _; rw [Lib.cell_of_heap r1]; rfl
 have hSize : ∀ w, Calls Tryd.prog 22 #[.agg #[.int .i64 sh, .int .i64 gk, .int .i64 gm, .int .i64 C]] w fun e w' => e = .returned (.int .i64 (512 * (nS sh : Int))) ∧ Below w.heap.size w w' := by
  intro w
  have := geom_Size_any sh gk gm C w
  rwa [hS] at this
 have hne : ((s.size : Int) != 512 * (nS sh : Int)) = false := by rw [hs]; simp
 refine region_only ?_
 refine start_ (n := 6) (S := fun w' => w'.cell? ⟨b + 1 + 1, 0, none⟩ = some (.string s) ∧ w'.cell? ⟨b + 1, 0, none⟩ = some (.int .i64 sh) ∧ w'.cell? ⟨b + 1, 1, none⟩ = some (.int .i64 gk) ∧ w'.cell? ⟨b + 1, 2, none⟩ = some (.int .i64 gm) ∧ w'.cell? ⟨b + 1, 3, none⟩ = some (.int .i64 C)) (ds := []) #[false, false, false, false, false, false] (by kernel_rfl) rfl rfl ⟨y2, y10, y11, y12, y13⟩ (fun hHeld => ?_)
 refine take_ (i := 0) (N := some 25) (v := ?_) (a' := ?_) #[true, false, false, false, false, false] rfl rfl (by kernel_rfl) (fun _ _ _ h => h) (Or.inl ⟨by rfl, ?_⟩) hHeld ?_ ?_
 rotate_left
 ·rintro w' ⟨s0, s1, s2, s3, s4⟩
  go_simp
  with_reducible rfl
 rotate_left
 ·simp only [Act.put, List.setIfInBounds_toArray, List.set_cons_zero, List.set_cons_succ, i64_w, i32_w]
  rfl
 refine pure_ (i := 1) (N := some 26) (v := ?_) (a' := ?_) #[true, true, false, false, false, false] rfl rfl (by kernel_rfl) (fun _ _ _ h => h) (Or.inl ⟨by rfl, ?_⟩) ?_ ?_
 rotate_left
 ·intro w'
  go_simp
  with_reducible rfl
 rotate_left
 ·simp only [Act.put, List.setIfInBounds_toArray, List.set_cons_zero, List.set_cons_succ, i64_w, i32_w]
  rfl
 refine take_ (i := 2) (N := some 27) (v := ?_) (a' := ?_) #[true, true, true, false, false, false] rfl rfl (by kernel_rfl) (fun _ _ _ h => h) (Or.inl ⟨by rfl, ?_⟩) hHeld ?_ ?_
 rotate_left
 ·rintro w' ⟨s0, s1, s2, s3, s4⟩
  go_simp
  with_reducible rfl
 rotate_left
 ·simp only [Act.put, List.setIfInBounds_toArray, List.set_cons_zero, List.set_cons_succ, i64_w, i32_w]
  rfl
 refine one_ (i := 3) (N := some 28) #[true, true, true, true, false, false] rfl rfl (by kernel_rfl) (by decide) (fun K hK => ?_)
 refine goes_ Tryd.func22 (by kernel_rfl) rfl #[.agg #[.int .i64 sh, .int .i64 gk, .int .i64 gm, .int .i64 C]] (by rfl) rfl rfl (by simp only [List.map_toArray, List.map_cons, List.map_nil]; rfl) ?_
 with_reducible refine (hSize _).mono ?_
 rintro e w3 ⟨rfl, hb3⟩
 refine ⟨_, rfl, ?_⟩
 refine hK.out _ _ ⟨pw_cell_below hb3 hHeld.1, pw_cell_below hb3 hHeld.2.1, pw_cell_below hb3 hHeld.2.2.1, pw_cell_below hb3 hHeld.2.2.2.1, pw_cell_below hb3 hHeld.2.2.2.2⟩ (fun hHeld => ?_)
 clear hK K
 refine norm_ (a' := ?_) ?_ ?_
 rotate_left
 ·show Act.put _ (some 28) _ = _
  simp only [Act.put, List.setIfInBounds_toArray, List.set_cons_zero, List.set_cons_succ, i64_w, i32_w]
  rfl
 refine pure_ (i := 4) (N := some 29) (v := ?_) (a' := ?_) #[true, true, true, true, true, false] rfl rfl (by kernel_rfl) (fun _ _ _ h => h) (Or.inl ⟨by rfl, ?_⟩) ?_ ?_
 rotate_left
 ·intro w'
  go_simp
  with_reducible rfl
 rotate_left
 ·simp only [Act.put, List.setIfInBounds_toArray, List.set_cons_zero, List.set_cons_succ, i64_w, i32_w]
  rfl
 refine pure_ (i := 5) (N := some 24) (v := ?_) (a' := ?_) #[true, true, true, true, true, true] rfl rfl (by kernel_rfl) (fun _ _ _ h => h) (Or.inl ⟨by rfl, ?_⟩) ?_ ?_
 rotate_left
 ·intro w'
  go_simp
  with_reducible rfl
 rotate_left
 ·simp only [Act.put, List.setIfInBounds_toArray, List.set_cons_zero, List.set_cons_succ, i64_w, i32_w]
  rfl
 refine done_ (by kernel_rfl) ?_

 dsimp only [onlyN]
 gi_wp2
 have hsW : Step (fun _ => False) W w3 := step2 ⟨pw_below_drewN (Below.refl _ _) 1, fun _ _ _ => rfl⟩ (Step.of_below hb3)
 refine ⟨trivial, ?_⟩
 gi_at_call 24
 refine (callsIn_wide.2 (cluster_parts_any sh gk gm C _)).mono ?_
 rintro e w4 ⟨rfl, rfl⟩
 have hs3 := step2 hsW (Step.alloc (fun _ => False) w3 (.cells #[.int .i64 sh, .int .i64 gk, .int .i64 gm, .int .i64 C] 23))
 have hgeo : GeoAt (w3.alloc (.cells #[.int .i64 sh, .int .i64 gk, .int .i64 gm, .int .i64 C] 23)) w3.heap.size sh gk gm C := World.alloc_heap_new w3 _
 have u0 := hs3.block r0 (fun h => h)
 have u2 := hs3.block r2 (fun h => h)
 have u3 := hs3.block r3 (fun h => h)
 have u4 := hs3.block r4 (fun h => h)
 have hD3 := hD2.step hs3 (fun _ _ h => h)
 have hs4 := step2 hs2' hs3
 have hz3 := hsW.size
 have hz4 : (w3.alloc (.cells #[.int .i64 sh, .int .i64 gk, .int .i64 gm, .int .i64 C] 23)).heap.size = w3.heap.size + 1 := by simp
 gi_wp2
 obtain ⟨G, hG⟩ : ∃ G, G = w3.heap.size := ⟨_, rfl⟩
 rw [← hG] at hgeo hz4 hz3 ⊢
 generalize w3.alloc (.cells #[.int .i64 sh, .int .i64 gk, .int .i64 gm, .int .i64 C] 23) = V at *
 clear hG
 refine wpIn_rangeFunc_O (gf := 49) (lb := #[.pointer (some ⟨G, 0, none⟩)]) rfl (enters_of Tryd.func49 (by kernel_rfl) rfl) (parts_seq V G sh gk gm C hg hgeo) (fun r hr => by omega) (fun _ => rfl)
  (fun O pre Wc => (∀ k, O k ↔ i.In k) ∧ DevAt Wc i xs (writesP f0 s pre.length F) B false (-1) (nw + (pre.length : Int)) ∧ Wc.heap[b]? = some (.cells #[.pointer (some ⟨i.d, 0, none⟩)] 27 (0, 0)) ∧ Wc.heap[b + 1 + 1]? = some (.cells #[.string s] 9 (0, 0)) ∧ Wc.heap[b + 1 + 1 + 1]? = some (.cells #[.int .i64 0] 28 (0, 0)) ∧ Wc.heap[p]? = some (.cells #[.int .i64 f0] 3 (0, 0)) ∧ Step i.In w Wc)
  (fun _ _ _ _ => False) ⟨?lt, ?step⟩ (fun _ => ⟨fun _ _ _ h => h.elim, fun _ _ _ _ _ h => h.elim⟩) i.In (fun k hk hz => by have := hlt k hk; omega) ⟨fun _ => Iff.rfl, by simpa [writesP] using hD3, u0, u2, u3, u4, hs4.mono (fun _ h => h.elim)⟩ ?round ?done ?stop
 case lt =>
  rintro O pre Wc ⟨h1, h2, _⟩ k hk
  exact h2.lt k ((h1 k).1 hk)
 case step =>
  rintro O pre Wc W' S ⟨h1, h2, h3, h4, h5, h6, h7⟩ hS hs
  have hno : ∀ k, k < V.heap.size → ¬ S k := fun k hk h => (hs k h).2.elim (fun h => h) (fun h => by omega)
  exact ⟨h1, h2.step hS (fun k hk h => (hs k h).1 ((h1 k).2 hk)), hS.block h3 (hno _ (by omega)), hS.block h4 (hno _ (by omega)), hS.block h5 (hno _ (by omega)), hS.block h6 (hno _ (by omega)), h7.trans hS (fun _ h => h) (fun k hk => Or.inr ((hs k hk).2.elim (fun h => h.elim) (fun h => by omega)))⟩
 case round =>
  rintro l O pre x Wc hl hWs - hpre
  obtain ⟨hx1, hx2⟩ := part_pre hpre
  replace hx1 := hx1.symm
  dsimp only [partE]
  gi_wp2
  refine ⟨Step.refl _ _, ?_⟩
  rintro Wb hsb ⟨h1, h2, h3, h4, h5, h6, h7⟩
  gi_wp2
  have y0 : Wb.drew.cell? ⟨b, 0, none⟩ = some (.pointer (some ⟨i.d, 0, none⟩)) := by show Wb.cell? _ = _; rw [Lib.cell_of_heap h3]; rfl
  have yp : Wb.drew.cell? ⟨p, 0, none⟩ = some (.int .i64 f0) := by show Wb.cell? _ = _; rw [Lib.cell_of_heap h6]; rfl
  have y2 : Wb.drew.cell? ⟨b + 1 + 1, 0, none⟩ = some (.string s) := by show Wb.cell? _ = _; rw [Lib.cell_of_heap h4]; rfl
  have nb : ¬ i.In b := fun h => by have := hlt b h; omega
  have np : ¬ i.In p := fun h => by have := hlt p h; omega
  have ns : ¬ i.In (b + 1 + 1) := fun h => by have := hlt _ h; omega
  have nr : ¬ i.In (b + 1 + 1 + 1) := fun h => by have := hlt _ h; omega
  rw [hx1] at h2
  have hDd : DevAt Wb.drew i xs (writesP f0 s x F) B false (-1) (nw + (x : Int)) := h2.step (Z := fun _ => False) ⟨pw_below_drewN (Below.refl _ _) 1, fun _ _ _ => rfl⟩ (fun _ _ h => h)
  have hxI : (x : Int) < (nS sh : Int) := by omega
  have hez : (s.extract (512 * x) (512 * x + 512)).size = 512 := by rw [ByteArray.size_extract]; omega
  have hWr : Calls Tryd.prog 26 #[.pointer (some ⟨i.d, 0, none⟩), .int .i64 (wrap64 (f0 + (x : Int))), .string (s.extract (512 * x) (512 * x + 512))] Wb.drew fun e w' => e = .returned (.int .i64 0) ∧ DevAt w' i xs (putL (f0 + (x : Int)) (s.extract (512 * x) (512 * x + 512)) (writesP f0 s x F)) B false (-1) (nw + (x : Int) + 1) ∧ Step i.In Wb.drew w' := by
   rw [wrap64_id (by omega) (by omega)]
   exact write_ok Wb.drew i xs _ B _ (f0 + (x : Int)) (s.extract (512 * x) (512 * x + 512)) hDd (by omega) (by omega) hez (by omega) (by omega)
  have hsl : ∀ w' : World, (Instr.slice 9 (.string s) (some (.int .i64 ((x : Int) * 512))) (some (.int .i64 (wrap64 ((x : Int) * 512 + 512)))) none).run Tryd.prog w' = .ok (.string (s.extract (512 * x) (512 * x + 512))) w' := by
   intro w'
   have e1 : (((x : Int) * 512).toNat) = 512 * x := by omega
   have e2 : (((x : Int) * 512 + 512).toNat) = 512 * x + 512 := by omega
   rw [wrap64_id (by omega) (by omega)]
   have := run_slice_lh w' s ((x : Int) * 512) ((x : Int) * 512 + 512) (by omega) (by omega) (by omega)
   rw [e1, e2] at this
   exact this
  refine startIn_ (n := 11) (S := fun w' => w'.cell? ⟨b, 0, none⟩ = some (.pointer (some ⟨i.d, 0, none⟩)) ∧ w'.cell? ⟨p, 0, none⟩ = some (.int .i64 f0) ∧ w'.cell? ⟨b + 1 + 1, 0, none⟩ = some (.string s)) (ds := []) (by rintro ⟨_, _, h⟩; exact h) (by kernel_rfl) #[false, false, false, false, false, false, false, false, false, false, false] (by kernel_rfl) rfl rfl ⟨y0, yp, y2⟩ (fun hHeld => ?_)
  refine pure_ (i := 2) (N := some 36) (v := ?_) (a' := ?_) #[false, false, true, false, false, false, false, false, false, false, false] rfl rfl (by kernel_rfl) (fun _ _ _ h => h) (Or.inl ⟨by rfl, ?_⟩) ?_ ?_
  rotate_left
  ·intro w'
   go_simp
   with_reducible rfl
  rotate_left
  ·simp only [Act.put, List.setIfInBounds_toArray, List.set_cons_zero, List.set_cons_succ, i64_w, i32_w]
   rfl
  refine pure_ (i := 5) (N := some 39) (v := ?_) (a' := ?_) #[false, false, true, false, false, true, false, false, false, false, false] rfl rfl (by kernel_rfl) (fun _ _ _ h => h) (Or.inl ⟨by rfl, ?_⟩) ?_ ?_
  rotate_left
  ·intro w'
   go_simp
   with_reducible rfl
  rotate_left
  ·simp only [Act.put, List.setIfInBounds_toArray, List.set_cons_zero, List.set_cons_succ, i64_w, i32_w]
   rfl
  refine pure_ (i := 6) (N := some 40) (v := ?_) (a' := ?_) #[false, false, true, false, false, true, true, false, false, false, false] rfl rfl (by kernel_rfl) (fun _ _ _ h => h) (Or.inl ⟨by rfl, ?_⟩) ?_ ?_
  rotate_left
  ·intro w'
   go_simp
   with_reducible rfl
  rotate_left
  ·simp only [Act.put, List.setIfInBounds_toArray, List.set_cons_zero, List.set_cons_succ, i64_w, i32_w]
   rfl
  refine pure_ (i := 7) (N := some 41) (v := ?_) (a' := ?_) #[false, false, true, false, false, true, true, true, false, false, false] rfl rfl (by kernel_rfl) (fun _ _ _ h => h) (Or.inl ⟨by rfl, ?_⟩) ?_ ?_
  rotate_left
  ·intro w'
   go_simp
   with_reducible rfl
  rotate_left
  ·simp only [Act.put, List.setIfInBounds_toArray, List.set_cons_zero, List.set_cons_succ, i64_w, i32_w]
   rfl
  refine take_ (i := 0) (N := some 34) (v := ?_) (a' := ?_) #[true, false, true, false, false, true, true, true, false, false, false] rfl rfl (by kernel_rfl) (fun _ _ _ h => h) (Or.inl ⟨by rfl, ?_⟩) hHeld ?_ ?_
  rotate_left
  ·rintro w' ⟨s0, s1, s2⟩
   go_simp
   with_reducible rfl
  rotate_left
  ·simp only [Act.put, List.setIfInBounds_toArray, List.set_cons_zero, List.set_cons_succ, i64_w, i32_w]
   rfl
  refine take_ (i := 1) (N := some 35) (v := ?_) (a' := ?_) #[true, true, true, false, false, true, true, true, false, false, false] rfl rfl (by kernel_rfl) (fun _ _ _ h => h) (Or.inl ⟨by rfl, ?_⟩) hHeld ?_ ?_
  rotate_left
  ·rintro w' ⟨s0, s1, s2⟩
   go_simp
   with_reducible rfl
  rotate_left
  ·simp only [Act.put, List.setIfInBounds_toArray, List.set_cons_zero, List.set_cons_succ, i64_w, i32_w]
   rfl
  refine pure_ (i := 3) (N := some 37) (v := ?_) (a' := ?_) #[true, true, true, true, false, true, true, true, false, false, false] rfl rfl (by kernel_rfl) (fun _ _ _ h => h) (Or.inl ⟨by rfl, ?_⟩) ?_ ?_
  rotate_left
  ·intro w'
   go_simp
   with_reducible rfl
  rotate_left
  ·simp only [Act.put, List.setIfInBounds_toArray, List.set_cons_zero, List.set_cons_succ, i64_w, i32_w]
   rfl
  refine take_ (i := 4) (N := some 38) (v := ?_) (a' := ?_) #[true, true, true, true, true, true, true, true, false, false, false] rfl rfl (by kernel_rfl) (fun _ _ _ h => h) (Or.inl ⟨by rfl, ?_⟩) hHeld ?_ ?_
  rotate_left
  ·rintro w' ⟨s0, s1, s2⟩
   go_simp
   with_reducible rfl
  rotate_left
  ·simp only [Act.put, List.setIfInBounds_toArray, List.set_cons_zero, List.set_cons_succ, i64_w, i32_w]
   rfl
  refine pure_ (i := 8) (N := some 42) (v := ?_) (a' := ?_) #[true, true, true, true, true, true, true, true, true, false, false] rfl rfl (by kernel_rfl) (fun _ _ _ h => h) (Or.inl ⟨by rfl, ?_⟩) ?_ ?_
  rotate_left
  ·intro w'
   go_simp
   with_reducible rfl
  rotate_left
  ·simp only [Act.put, List.setIfInBounds_toArray, List.set_cons_zero, List.set_cons_succ, i64_w, i32_w]
   rfl
  refine one_ (i := 9) (N := some 43) #[true, true, true, true, true, true, true, true, true, true, false] rfl rfl (by kernel_rfl) (by decide) (fun K hK => ?_)
  refine goes_ Tryd.func26 (by kernel_rfl) rfl #[.pointer (some ⟨i.d, 0, none⟩), .int .i64 (wrap64 (f0 + (x : Int))), .string (s.extract (512 * x) (512 * x + 512))] (by rfl) rfl rfl (by simp only [List.map_toArray, List.map_cons, List.map_nil]; rfl) ?_
  with_reducible refine (hWr).mono ?_
  rintro e w4 ⟨rfl, hD4, hs4⟩
  refine ⟨_, rfl, ?_⟩
  refine hK.out _ _ ⟨hs4.cell hHeld.1 nb, hs4.cell hHeld.2.1 np, hs4.cell hHeld.2.2 ns⟩ (fun hHeld => ?_)
  clear hK K
  refine norm_ (a' := ?_) ?_ ?_
  rotate_left
  ·show Act.put _ (some 43) _ = _
   simp only [Act.put, List.setIfInBounds_toArray, List.set_cons_zero, List.set_cons_succ, i64_w, i32_w]
   rfl
  refine pure_ (i := 10) (N := some 13) (v := ?_) (a' := ?_) #[true, true, true, true, true, true, true, true, true, true, true] rfl rfl (by kernel_rfl) (fun _ _ _ h => h) (Or.inl ⟨by rfl, ?_⟩) ?_ ?_
  rotate_left
  ·intro w'
   go_simp
   with_reducible rfl
  rotate_left
  ·simp only [Act.put, List.setIfInBounds_toArray, List.set_cons_zero, List.set_cons_succ, i64_w, i32_w]
   rfl
  refine done_ (by kernel_rfl) ?_

  have hst : Step i.In Wb w4 := Step.trans (T := i.In) (S := fun _ => False) ⟨pw_below_drewN (Below.refl _ _) 1, fun _ _ _ => rfl⟩ hs4 (fun _ h => h.elim) (fun _ h => Or.inl h)
  gi_wp2
  refine ⟨i.In, fun k hk => Or.inl ((h1 k).2 hk), hst.mono (fun k hk => (h1 k).2 hk), fun _ => Iff.rfl, ?_, hst.block h3 nb, hst.block h4 ns, hst.block h5 nr, hst.block h6 np, h7.trans hst (fun _ h => h) (fun _ h => Or.inl h)⟩
  rw [List.length_append, hx1]
  show DevAt w4 i xs (writesP f0 s (x + 1) F) B false (-1) (nw + ((x + 1 : Nat) : Int))
  rw [show nw + ((x + 1 : Nat) : Int) = nw + (x : Int) + 1 by omega]
  exact hD4
 case done =>
  rintro D O Wc hD hOD ⟨h1, h2, h3, h4, h5, h6, h7⟩ hK
  have c5 : Wc.cell? ⟨b + 1 + 1 + 1, 0, none⟩ = some (.int .i64 0) := by rw [Lib.cell_of_heap h5]; rfl
  have f5 := Lib.frozen_of_heap h5 0
  gi_wp2
  have hk5 := blk_set h5 0 (.int .i64 0)
  have nr : ¬ i.In (b + 1 + 1 + 1) := fun h => by have := hlt _ h; omega
  have hsc : Step (fun q => q = b + 1 + 1 + 1) Wc (Wc.setCell ⟨b + 1 + 1 + 1, 0, none⟩ (.int .i64 0)) := Step.setCell Wc (p := ⟨b + 1 + 1 + 1, 0, none⟩) (S := fun q => q = b + 1 + 1 + 1) rfl _
  have hK2 := hsc.block hK (by omega)
  have hD5 := h2.step hsc (fun k hk e => nr (e ▸ hk))
  have h75 := h7.trans hsc (fun _ h => h) (fun k hk => Or.inr (by omega))
  generalize Wc.setCell ⟨b + 1 + 1 + 1, 0, none⟩ (.int .i64 0) = Wd at *
  refine ⟨by simp, .inl ⟨_, _, rfl, run_takeDeferred hK2, ?_⟩⟩
  have hsp : Step (fun q => q = D) Wd (Wd.putObj D (.deferred none)) := Step.put Wd D _
  have hkD := hsp.block hk5 (by omega)
  refine ⟨_, results_c1 rfl _ _ ⟨b + 1 + 1 + 1, 0, none⟩ rfl (loadVar28 _ _ 0 (by rw [Lib.cell_of_heap hkD]; rfl)), rfl, ?_, ?_⟩
  ·have hD6 := hD5.step hsp (fun k hk e => by have := hlt k hk; omega)
   have hpl : (partL (nS sh)).length = nS sh := by simp [partL]
   rw [hpl] at hD6
   rw [hf0]
   exact hD6
  ·exact h75.trans hsp (fun _ h => h) (fun k hk => Or.inr (by omega))
 case stop => rintro D O c pre Wc _ _ _ h; exact h.elim
theorem wpListIn_append_str_at {F : Fence} {n : Nat} {w : World} {ops : Array Oper} {rest : List Oper} {o : Oper} {a : Act} {Q : Exit → Act → World → Prop} (hgd : o.guard = none) (sl x : Operand) (ho : o.op = .call { callee := .builtin .append, args := #[sl, x], argTypes := #[59, 9] }) (hty : o.type = 59) (v : Value) (s : ByteArray) (hs : a.eval sl = v) (hx : a.eval x = .string s)
  (v' : Value) (w' : World) (hrun : (Builtin.append_ #[59, 9] 59 #[v, .string s]).run Tryd.prog w = .ok v' w') (h : wpListIn F n Tryd.prog ops Q rest (a.put o.dst v') w') : wpListIn F n Tryd.prog ops Q (o :: rest) a w := by
 refine wpListIn_plain hgd fun K hK' => ?_
 unfold Oper.wpIn
 refine ⟨?_, ?_⟩
 ·simp [Oper.about, ho, resolve, Target.leads, Sem.run_pure]
 ·rw [Oper.semAt_plain F _ _ (by rw [ho]; intro c hc'; cases hc')]
  simp [execOp, ho, hty, resolve, invoke, builtin, hs, hx, hrun, Result.andThen]
  exact hK' _ _ h
def rdV (xs : List ByteArray) (F : FL) (at_ : Int) : ByteArray := (getL at_ F).getD (xs.getD at_.toNat ⟨#[]⟩)
theorem rdV_size {xs : List ByteArray} {F : FL} {fuse : Int} (h : DevOk xs F [] fuse) {at_ : Int} (h0 : 0 ≤ at_) (h1 : at_ < (xs.length : Int)) : (rdV xs F at_).size = 512 := by
 unfold rdV
 cases hg : getL at_ F with
 | some s => exact (h.2.2.2.1 _ (getL_mem hg)).2.2
 | none =>
  show (xs.getD at_.toNat ⟨#[]⟩).size = 512
  rw [List.getD_eq_getElem?_getD, List.getElem?_eq_getElem (show at_.toNat < xs.length by omega)]
  exact h.2.2.1 _ (List.getElem_mem _)
theorem read_ok (w : World) (i : DevIds) (xs : List ByteArray) (F : FL) (nw at_ : Int) (h : DevAt w i xs F [] false (-1) nw) (h0 : 0 ≤ at_) (h1 : at_ < (xs.length : Int)) :
  Calls Tryd.prog 25 #[.pointer (some ⟨i.d, 0, none⟩), .int .i64 at_] w fun e w' => e = .returned (.tuple #[.string (rdV xs F at_), .int .i64 0]) ∧ Step (fun _ => False) w w' := by
 have hR : readP xs F [] false at_ = (rdV xs F at_, 0) := by
  have hr : reachP xs.length false at_ = 0 := by unfold reachP; rw [if_neg (by decide), if_pos ⟨h0, h1⟩]
  unfold readP rdV
  rw [hr, if_neg (by decide)]
  cases getL at_ F <;> rfl
 have := dev_Read_any w i xs F [] false (-1) nw at_ h
 rw [hR] at this
 exact this
def rawL (xs : List ByteArray) (F : FL) (f0 : Int) : Nat → List UInt8
 | 0 => []
 | k + 1 => rawL xs F f0 k ++ (rdV xs F (f0 + (k : Int))).data.toList
def rawS (xs : List ByteArray) (F : FL) (f0 : Int) (n : Nat) : ByteArray := ⟨(rawL xs F f0 n).toArray⟩
theorem rawL_len {xs : List ByteArray} {F : FL} {fuse : Int} (h : DevOk xs F [] fuse) {f0 : Int} (h0 : 0 ≤ f0) : ∀ k : Nat, f0 + (k : Int) ≤ (xs.length : Int) → (rawL xs F f0 k).length = 512 * k
 | 0, _ => rfl
 | k + 1, h1 => by
  rw [rawL, List.length_append, rawL_len h h0 k (by omega), data_length, rdV_size h (by omega) (by omega)]
  omega
theorem conv_row {W : World} {B : Nat} {v : Value} {l : List UInt8} (h : W.ownsRowF B 5 1 v l.length (Lib.byteCells l)) (hl : 0 < l.length) : ∃ g cap, v = .slice (some ⟨g, 0, none⟩) l.length cap ∧ (convert 59 9 (.slice (some ⟨g, 0, none⟩) l.length cap)).run Tryd.prog W = .ok (.string ⟨l.toArray⟩) W := by
 rcases h.2 with ⟨_, h0⟩ | ⟨g, cap, cur, fz, rfl, hb, hg, _, hn, _, hcs, ht⟩
 ·omega
 ·refine ⟨g, cap, rfl, ?_⟩
  have := run_convert_bytes_arg (P := Tryd.prog) W 59 5 Tryd.underlying59 (by kernel_rfl) g 0 l.length cap (l.map fun b => (b.toNat : Int)) (by simp) (fun j hj => by
   have h1 : (cur.toList.take (l.length * 1))[j]? = some (.int .u8 (l[j].toNat : Int)) := by
    rw [ht]
    simp [Lib.byteCells, hj]
   rw [Nat.mul_one, List.getElem?_take_of_lt hj, Array.getElem?_toList] at h1
   simp only [World.cell?, hg, Nat.zero_add]
   rw [h1]
   simp [List.getD, hj]) 9 Tryd.underlying9
  have e : strOfNums (l.map fun b => (b.toNat : Int)) = ⟨l.toArray⟩ := by
   unfold strOfNums
   rw [List.map_map]
   have : ((fun n : Int => UInt8.ofNat n.toNat) ∘ fun b : UInt8 => (b.toNat : Int)) = id := by funext b; simp
   rw [this, List.map_id]
  rw [e] at this
  exact this
theorem two (w : World) (c0 c1 : Array Value) (t0 t1 : TypeId) : ∃ W, W = (w.alloc (.cells c0 t0)).alloc (.cells c1 t1) ∧ Step (fun _ => False) w W ∧ W.heap.size = w.heap.size + 2 ∧
  W.heap[w.heap.size]? = some (.cells c0 t0 (0, 0)) ∧ W.heap[w.heap.size + 1]? = some (.cells c1 t1 (0, 0)) := by
 have n0 := World.alloc_heap_new w (.cells c0 t0)
 have n1 := World.alloc_heap_new (w.alloc (.cells c0 t0)) (.cells c1 t1)
 simp only [World.size_alloc] at n0 n1
 have s1 := Step.alloc (fun _ => False) (w.alloc (.cells c0 t0)) (.cells c1 t1)
 have s0 := Step.alloc (fun _ => False) w (.cells c0 t0)
 exact ⟨_, rfl, step2 s0 s1, by simp, s1.block n0 (fun h => h), n1⟩
structure RawI (w Wc : World) (i : DevIds) (xs : List ByteArray) (F : FL) (nw : Int) (b p q : Nat) (f0 : Int) (v : Value) (k : Nat) : Prop where
 dev : DevAt Wc i xs F [] false (-1) nw
 h0 : Wc.heap[b]? = some (.cells #[.pointer (some ⟨i.d, 0, none⟩)] 27 (0, 0))
 h2 : Wc.heap[b + 1 + 1]? = some (.cells #[.string ⟨#[]⟩] 9 (0, 0))
 h3 : Wc.heap[b + 1 + 1 + 1]? = some (.cells #[.int .i64 0] 28 (0, 0))
 hp : Wc.heap[p]? = some (.cells #[.int .i64 f0] 3 (0, 0))
 hq : Wc.heap[q]? = some (.cells #[v] 59 (0, 0))
 row : Wc.ownsRowF (q + 1) 5 1 v (rawL xs F f0 k).length (Lib.byteCells (rawL xs F f0 k))
 st : Step (fun _ => False) w Wc
theorem RawI.step {w Wc W' : World} {i : DevIds} {xs : List ByteArray} {F : FL} {nw : Int} {b p q : Nat} {f0 : Int} {v : Value} {k : Nat} {S : Nat → Prop} (h : RawI w Wc i xs F nw b p q f0 v k) (hS : Step S Wc W') (hn : ∀ j, j < q → ¬ S j) (hq : ¬ S q) (hv : ∀ g, v.ownBlock = some g → ¬ S g) (hi : ∀ j, i.In j → j < q) (hb : b + 1 + 1 + 1 < p) (hp : p < q) (hw : w.heap.size ≤ q) : RawI w W' i xs F nw b p q f0 v k :=
 ⟨h.dev.step hS (fun j hj => hn j (hi j hj)), hS.block h.h0 (hn _ (by omega)), hS.block h.h2 (hn _ (by omega)), hS.block h.h3 (hn _ (by omega)), hS.block h.hp (hn _ hp), hS.block h.hq hq, ownsRowF_step hS h.row hv, h.st.trans hS (fun _ h => h) (fun j hj => Or.inr (by
  rcases Nat.lt_or_ge j q with h1 | h1
  ·exact absurd hj (hn j h1)
  ·omega))⟩
set_option maxRecDepth 100000 in
set_option maxHeartbeats 4000000 in
theorem cluster_Raw_any (w : World) (i : DevIds) (xs : List ByteArray) (F : FL) (nw : Int) (sh gk gm C at_ : Int) (h : DevAt w i xs F [] false (-1) nw) (hg : GeoOk sh gk gm C) (hn : (xs.length : Int) = C * (nS sh : Int)) (ha : 0 ≤ at_) (hb : at_ < C) :
  Calls Tryd.prog 9 #[.pointer (some ⟨i.d, 0, none⟩), geoV sh gk gm C, .int .i64 at_] w fun e w' => e = .returned (.tuple #[.string (rawS xs F (at_ * (nS sh : Int)) (nS sh)), .int .i64 0]) ∧ Step (fun _ => False) w w' := by
 unfold geoV
 have hu23 := Tryd.underlying23
 have hF : firstP sh gk gm C at_ = (at_ * (nS sh : Int), 0) := by rw [firstP, if_pos hg, if_pos ⟨ha, hb⟩]
 refine (callsIn_wide (n := 4)).1 ?_
 refine callsIn_of_wp_marks Tryd.func9 rfl trivial ?_ rfl
 simp only [Tryd.ntmps9, List.size_toArray, List.length_cons, List.length_nil, Nat.reduceAdd, Nat.reduceSub, Array.replicate_succ, Array.replicate_zero, List.push_toArray, List.append_toArray, List.nil_append, List.cons_append]
 obtain ⟨W0, hW0, hs0, hz0, k0, k1, k2, k3⟩ := four w #[.pointer (some ⟨i.d, 0, none⟩)] #[.int .i64 sh, .int .i64 gk, .int .i64 gm, .int .i64 C] #[.string ⟨#[]⟩] #[.int .i64 0] 27 23 9 28
 gi_wp2
 refine ⟨trivial, ?_⟩
 gi_at_call 23
 refine (callsIn_wide.2 (geom_First_any sh gk gm C at_ _)).mono ?_
 rintro e w1 ⟨rfl, hb1⟩
 rw [hF]
 dsimp only
 rw [show (((w.alloc (.cells #[.pointer (some ⟨i.d, 0, none⟩)] 27)).alloc (.cells #[.int .i64 sh, .int .i64 gk, .int .i64 gm, .int .i64 C] 23)).alloc (.cells #[.string ⟨#[]⟩] 9)).alloc (.cells #[.int .i64 0] 28) = W0 from hW0.symm] at hb1
 have hs1 := step2 hs0 (Step.of_below (S := fun _ => False) hb1)
 have q0 := (Step.of_below (S := fun _ => False) hb1).block k0 (fun h => h)
 have q1 := (Step.of_below (S := fun _ => False) hb1).block k1 (fun h => h)
 have q2 := (Step.of_below (S := fun _ => False) hb1).block k2 (fun h => h)
 have q3 := (Step.of_below (S := fun _ => False) hb1).block k3 (fun h => h)
 have hz1 := hb1.size
 rw [hz0] at hz1
 clear hW0 hb1 k0 k1 k2 k3 hs0 hz0
 obtain ⟨b, hbe⟩ : ∃ b, b = w.heap.size := ⟨_, rfl⟩
 have hD1 := h.step hs1 (fun _ _ h => h)
 have hlt := h.lt
 have hbw : w.heap.size ≤ b := by omega
 rw [← hbe] at q0 q1 q2 q3 hz1 hlt ⊢
 clear hbe
 have hn1 := nS_pos sh
 have hn2 := nS_le hg.2.1
 have hln := h.ok.2.1
 have hf1 : 0 ≤ at_ * (nS sh : Int) := Int.mul_nonneg ha (Int.natCast_nonneg _)
 have hf2 : at_ * (nS sh : Int) + (nS sh : Int) ≤ (xs.length : Int) := by
  rw [hn]
  have := Int.mul_le_mul_of_nonneg_right (show at_ + 1 ≤ C by omega) (Int.natCast_nonneg (nS sh))
  rw [Int.add_mul, Int.one_mul] at this
  exact this
 generalize hf0 : at_ * (nS sh : Int) = f0 at *
 obtain ⟨W, hW, hs2, hz2, r4, r5⟩ := two w1 #[.int .i64 f0] #[.slice none 0 0] 3 59
 have r0 := hs2.block q0 (fun h => h)
 have r1 := hs2.block q1 (fun h => h)
 have r2 := hs2.block q2 (fun h => h)
 have r3 := hs2.block q3 (fun h => h)
 have hD2 := hD1.step hs2 (fun _ _ h => h)
 have z0 : ((w1.alloc (.cells #[.int .i64 f0] 3)).alloc (.cells #[.slice none 0 0] 59)).cell? ⟨b + 1, 0, none⟩ = some (.int .i64 sh) := by rw [← hW, Lib.cell_of_heap r1]; rfl
 have z1 : ((w1.alloc (.cells #[.int .i64 f0] 3)).alloc (.cells #[.slice none 0 0] 59)).cell? ⟨b + 1, 1, none⟩ = some (.int .i64 gk) := by rw [← hW, Lib.cell_of_heap r1]; rfl
 have z2 : ((w1.alloc (.cells #[.int .i64 f0] 3)).alloc (.cells #[.slice none 0 0] 59)).cell? ⟨b + 1, 2, none⟩ = some (.int .i64 gm) := by rw [← hW, Lib.cell_of_heap r1]; rfl
 have z3 : ((w1.alloc (.cells #[.int .i64 f0] 3)).alloc (.cells #[.slice none 0 0] 59)).cell? ⟨b + 1, 3, none⟩ = some (.int .i64 C) := by rw [← hW, Lib.cell_of_heap r1]; rfl
 gi_wp2
 refine ⟨trivial, ?_⟩
 gi_at_call 24
 refine (callsIn_wide.2 (cluster_parts_any sh gk gm C _)).mono ?_
 rintro e w4 ⟨rfl, rfl⟩
 rw [← hW]
 clear z0 z1 z2 z3 hW
 have hs3 := Step.alloc (fun _ => False) W (.cells #[.int .i64 sh, .int .i64 gk, .int .i64 gm, .int .i64 C] 23)
 have hgeo : GeoAt (W.alloc (.cells #[.int .i64 sh, .int .i64 gk, .int .i64 gm, .int .i64 C] 23)) W.heap.size sh gk gm C := World.alloc_heap_new W _
 have u0 := hs3.block r0 (fun h => h)
 have u2 := hs3.block r2 (fun h => h)
 have u3 := hs3.block r3 (fun h => h)
 have u4 := hs3.block r4 (fun h => h)
 have u5 := hs3.block r5 (fun h => h)
 have hD3 := hD2.step hs3 (fun _ _ h => h)
 have hs4 := step2 (step2 hs1 hs2) hs3
 have hz4 : (W.alloc (.cells #[.int .i64 sh, .int .i64 gk, .int .i64 gm, .int .i64 C] 23)).heap.size = W.heap.size + 1 := by simp
 have hz2a : w1.heap.size + 2 ≤ W.heap.size := by omega
 clear hz2 hs1 hs2 hs3 q0 q1 q2 q3 r0 r1 r2 r3 r4 r5 hD1 hD2
 gi_wp2
 obtain ⟨p, hp⟩ : ∃ p, p = w1.heap.size := ⟨_, rfl⟩
 obtain ⟨q, hq⟩ : ∃ q, q = p + 1 := ⟨_, rfl⟩
 obtain ⟨G, hG⟩ : ∃ G, G = W.heap.size := ⟨_, rfl⟩
 rw [← hp] at u4 u5 hz1 hz2a ⊢
 rw [← hq] at u5 ⊢
 rw [← hG] at hgeo hz4 hz2a ⊢
 generalize W.alloc (.cells #[.int .i64 sh, .int .i64 gk, .int .i64 gm, .int .i64 C] 23) = V at *
 have hpq : p < q := by omega
 have hGq : q < G := by omega
 clear hG hp hq hz2a
 have hiq : ∀ j, i.In j → j < q := fun j hj => by have := hlt j hj; omega
 have hok := h.ok
 refine wpIn_rangeFunc_O (gf := 49) (lb := #[.pointer (some ⟨G, 0, none⟩)]) rfl (enters_of Tryd.func49 (by kernel_rfl) rfl) (parts_seq V G sh gk gm C hg hgeo) (fun r hr => by omega) (fun _ => rfl)
  (fun O pre Wc => ∃ v, (∀ k, O k ↔ k = q ∨ v.ownBlock = some k) ∧ RawI w Wc i xs F nw b p q f0 v pre.length ∧ ∀ g, v.ownBlock = some g → g ≠ G)
  (fun _ _ _ _ => False) ⟨?lt, ?step⟩ (fun _ => ⟨fun _ _ _ h => h.elim, fun _ _ _ _ _ h => h.elim⟩) (fun k => k = q) (fun k hk hz => by omega) ⟨.slice none 0 0, by simp [Value.ownBlock], ⟨hD3, u0, u2, u3, u4, u5, World.ownsRowF_nil _ _ _ _, hs4⟩, fun g hg => by cases hg⟩ ?round ?done ?stop
 case lt =>
  rintro O pre Wc ⟨v, h1, h2, _⟩ k hk
  rcases (h1 k).1 hk with rfl | hk
  ·exact blk_lt h2.hq
  ·exact (h2.row.lt k hk).2
 case step =>
  rintro O pre Wc W' S ⟨v, h1, h2, h3⟩ hS hs
  exact ⟨v, h1, h2.step hS (fun j hj h => (hs j h).2.elim (fun h => h) (fun h => by omega)) (fun h => (hs _ h).1 ((h1 _).2 (Or.inl rfl))) (fun g hg h => (hs _ h).1 ((h1 _).2 (Or.inr hg))) hiq (by omega) hpq (by omega), h3⟩
 case round =>
  rintro l O pre x Wc hl hWs - hpre
  obtain ⟨hx1, hx2⟩ := part_pre hpre
  replace hx1 := hx1.symm
  dsimp only [partE]
  gi_wp2
  refine ⟨Step.refl _ _, ?_⟩
  rintro Wb hsb ⟨v, h1, h2, h3⟩
  rw [hx1] at h2
  have y0 : Wb.cell? ⟨b, 0, none⟩ = some (.pointer (some ⟨i.d, 0, none⟩)) := by rw [Lib.cell_of_heap h2.h0]; rfl
  have yp : Wb.cell? ⟨p, 0, none⟩ = some (.int .i64 f0) := by rw [Lib.cell_of_heap h2.hp]; rfl
  have hRd := read_ok Wb i xs F nw (f0 + (x : Int)) h2.dev (by omega) (by omega)
  have hsz := rdV_size (F := F) (fuse := -1) h2.dev.ok (at_ := f0 + (x : Int)) (by omega) (by omega)
  have hrl := rawL_len (F := F) (fuse := -1) h2.dev.ok hf1 x (by omega)
  gi_wp2
  refine ⟨trivial, ?_⟩
  gi_at_call 25
  refine (callsIn_wide.2 hRd).mono ?_
  rintro e W2 ⟨rfl, hs2⟩
  have h4 := h2.step hs2 (fun _ _ h => h) (fun h => h) (fun _ _ h => h) hiq (by omega) hpq (by omega)
  have hq2 := blk_lt h4.hq
  have hnq : ∀ g, v.ownBlock = some g → g ≠ q := fun g hg => by have := (h4.row.lt g hg).1; omega
  obtain ⟨v', W3, hrun, hown3, hgr, hat⟩ := append_str_at h4.row (rdV xs F (f0 + (x : Int))) (by rw [hrl, hsz]; omega) (by omega)
  have hg3 : Step (fun k => v.ownBlock = some k) W2 W3 := Step.grown hgr (fun k hk => hk)
  have k3 := hg3.block h4.hq (fun e => hnq q e rfl)
  have c2 : W2.cell? ⟨q, 0, none⟩ = some v := by rw [Lib.cell_of_heap h4.hq]; rfl
  have c3 : W3.cell? ⟨q, 0, none⟩ = some v := by rw [Lib.cell_of_heap k3]; rfl
  have f3 := Lib.frozen_of_heap k3 0
  obtain ⟨av, nv, cv, rfl⟩ : ∃ ao n' cap, v = .slice ao n' cap := by
   rcases h4.row.2 with ⟨hv, _⟩ | ⟨g, cap, cur, fz, hv, _⟩
   ·exact ⟨_, _, _, hv⟩
   ·exact ⟨_, _, _, hv⟩
  obtain ⟨ao, n', cap, rfl⟩ : ∃ ao n' cap, v' = .slice ao n' cap := by
   rcases hown3.2 with ⟨hv, _⟩ | ⟨g, cap, cur, fz, hv, _⟩
   ·exact ⟨_, _, _, hv⟩
   ·exact ⟨_, _, _, hv⟩
  gi_wp2_with (gi_at_builtin; refine wpListIn_append_str_at rfl _ _ rfl rfl _ (rdV xs F (f0 + (x : Int))) rfl rfl _ _ hrun ?_)
  have hset := Step.setCell W3 (p := ⟨q, 0, none⟩) (S := fun k => k = q) rfl (.slice ao n' cap)
  have hT : Step (fun k => k = q ∨ (Value.slice av nv cv).ownBlock = some k) W2 (W3.setCell ⟨q, 0, none⟩ (.slice ao n' cap)) := hg3.trans hset (fun _ h => Or.inr h) (fun _ h => Or.inl (Or.inl h))
  have hvq : ∀ g, (Value.slice ao n' cap).ownBlock = some g → g ≠ q := fun g hg => by
   rcases hat g hg with h | h
   ·exact hnq g h
   ·omega
  have hlow : ∀ j, j < q → ¬ (j = q ∨ (Value.slice av nv cv).ownBlock = some j) := fun j hj h => h.elim (fun h => by omega) (fun h => by have := (h4.row.lt j h).1; omega)
  have hz2' := hs2.size
  have hzb := hsb.size
  have hk3 := blk_set k3 0 (.slice ao n' cap)
  have hown4 := ownsRowF_step hset hown3 (fun g hg e => hvq g hg e)
  refine ⟨fun k => k = q ∨ (Value.slice ao n' cap).ownBlock = some k, fun k hk => ?_, ?_, .slice ao n' cap, fun _ => Iff.rfl, ?_, fun g hg => ?_⟩
  ·rcases hk with hk | hk
   ·exact Or.inl ((h1 k).2 (Or.inl hk))
   ·rcases hat k hk with h | h
    ·exact Or.inl ((h1 k).2 (Or.inr h))
    ·exact Or.inr (by omega)
  ·exact (hs2.trans hT (fun _ h => h.elim) (fun k h => Or.inl h)).mono (fun k hk => (h1 k).2 hk)
  ·rw [List.length_append, hx1]
   show RawI w _ i xs F nw b p q f0 _ (x + 1)
   refine ⟨h4.dev.step hT (fun j hj => hlow j (hiq j hj)), hT.block h4.h0 (hlow _ (by omega)), hT.block h4.h2 (hlow _ (by omega)), hT.block h4.h3 (hlow _ (by omega)), hT.block h4.hp (hlow _ hpq), hk3, ?_, h4.st.trans hT (fun _ h => h) (fun j hj => Or.inr ?_)⟩
   ·rw [rawL, Lib.byteCells_append, List.length_append, data_length, ← Lib.strCells_eq]
    exact hown4
   ·rcases hj with hj | hj
    ·omega
    ·have := (h4.row.lt j hj).1; omega
  ·rcases hat g hg with h | h
   ·exact h3 g h
   ·omega
 case done =>
  rintro D O Wc hD hOD ⟨v, h1, h2, h3⟩ hK
  have hpl : (partL (nS sh)).length = nS sh := by simp [partL]
  rw [hpl] at h2
  have hrl := rawL_len (F := F) (fuse := -1) h2.dev.ok hf1 (nS sh) (by omega)
  obtain ⟨g, cap, rfl, hconv⟩ := conv_row h2.row (by omega)
  have cq : Wc.cell? ⟨q, 0, none⟩ = some (.slice (some ⟨g, 0, none⟩) (rawL xs F f0 (nS sh)).length cap) := by rw [Lib.cell_of_heap h2.hq]; rfl
  have c2 : Wc.cell? ⟨b + 1 + 1, 0, none⟩ = some (.string ⟨#[]⟩) := by rw [Lib.cell_of_heap h2.h2]; rfl
  have f2 := Lib.frozen_of_heap h2.h2 0
  have hT1 : Step (fun k => k = b + 1 + 1) Wc (Wc.setCell ⟨b + 1 + 1, 0, none⟩ (.string (rawS xs F f0 (nS sh)))) := Step.setCell Wc (p := ⟨b + 1 + 1, 0, none⟩) (S := fun k => k = b + 1 + 1) rfl _
  have m3 := hT1.block h2.h3 (by omega)
  have m2 := blk_set h2.h2 0 (.string (rawS xs F f0 (nS sh)))
  have c3 : (Wc.setCell ⟨b + 1 + 1, 0, none⟩ (.string (rawS xs F f0 (nS sh)))).cell? ⟨b + 1 + 1 + 1, 0, none⟩ = some (.int .i64 0) := by rw [Lib.cell_of_heap m3]; rfl
  have f3 := Lib.frozen_of_heap m3 0
  have hKa := hT1.block hK (by omega)
  have hs := h2.st
  clear hrl
  unfold rawS at *
  gi_wp2
  generalize Wc.setCell ⟨b + 1 + 1, 0, none⟩ (.string ⟨(rawL xs F f0 (nS sh)).toArray⟩) = Wd at *
  have hT2 : Step (fun k => k = b + 1 + 1 + 1) Wd (Wd.setCell ⟨b + 1 + 1 + 1, 0, none⟩ (.int .i64 0)) := Step.setCell Wd (p := ⟨b + 1 + 1 + 1, 0, none⟩) (S := fun k => k = b + 1 + 1 + 1) rfl _
  have n3 := blk_set m3 0 (.int .i64 0)
  have n2 := hT2.block m2 (by omega)
  have hKb := hT2.block hKa (by omega)
  have hsz := hT1.size
  generalize Wd.setCell ⟨b + 1 + 1 + 1, 0, none⟩ (.int .i64 0) = We at *
  have hsp : Step (fun j => j = D) We (We.putObj D (.deferred none)) := Step.put We D _
  have o3 := hsp.block n3 (by omega)
  have o2 := hsp.block n2 (by omega)
  refine ⟨by simp, .inl ⟨_, _, rfl, run_takeDeferred hKb, ?_⟩⟩
  refine ⟨_, results_c2 rfl _ _ ⟨b + 1 + 1, 0, none⟩ ⟨b + 1 + 1 + 1, 0, none⟩ rfl (loadVar9 _ _ ⟨(rawL xs F f0 (nS sh)).toArray⟩ (by rw [Lib.cell_of_heap o2]; rfl)) rfl (loadVar28 _ _ 0 (by rw [Lib.cell_of_heap o3]; rfl)), by rw [hf0]; rfl, ?_⟩
  exact ((hs.trans hT1 (fun _ h => h) (fun k hk => Or.inr (by omega))).trans hT2 (fun _ h => h) (fun k hk => Or.inr (by omega))).trans hsp (fun _ h => h) (fun k hk => Or.inr (by omega))
 case stop => rintro D O c pre Wc _ _ _ h; exact h.elim
set_option maxRecDepth 100000 in
set_option maxHeartbeats 4000000 in
theorem cluster_Write_far (w : World) (i : DevIds) (sh gk gm C at_ : Int) (s : ByteArray) (hg : GeoOk sh gk gm C) (ha : ¬ (0 ≤ at_ ∧ at_ < C)) :
  Calls Tryd.prog 10 #[.pointer (some ⟨i.d, 0, none⟩), geoV sh gk gm C, .int .i64 at_, .string s] w fun e w' => e = .returned (.int .i64 1) ∧ Step (fun _ => False) w w' := by
 unfold geoV
 have hu23 := Tryd.underlying23
 have hF : firstP sh gk gm C at_ = (0, 1) := by rw [firstP, if_pos hg, if_neg ha]
 refine (callsIn_wide (n := 4)).1 ?_
 refine callsIn_of_wp_marks Tryd.func10 rfl trivial ?_ rfl
 simp only [Tryd.ntmps10, List.size_toArray, List.length_cons, List.length_nil, Nat.reduceAdd, Nat.reduceSub, Array.replicate_succ, Array.replicate_zero, List.push_toArray, List.append_toArray, List.nil_append, List.cons_append]
 obtain ⟨W0, hW0, hs0, hz0, k0, k1, k2, k3⟩ := four w #[.pointer (some ⟨i.d, 0, none⟩)] #[.int .i64 sh, .int .i64 gk, .int .i64 gm, .int .i64 C] #[.string s] #[.int .i64 0] 27 23 9 28
 gi_wp2
 refine ⟨trivial, ?_⟩
 gi_at_call 23
 refine (callsIn_wide.2 (geom_First_any sh gk gm C at_ _)).mono ?_
 rintro e w1 ⟨rfl, hb1⟩
 rw [hF]
 dsimp only
 rw [← hW0] at hb1
 have hs1 := step2 hs0 (Step.of_below (S := fun _ => False) hb1)
 have q3 := (Step.of_below (S := fun _ => False) hb1).block k3 (fun h => h)
 clear hW0 hb1 k0 k1 k2 k3 hs0 hz0
 have hs2 := step2 hs1 (Step.alloc (fun _ => False) w1 (.cells #[.int .i64 0] 3))
 have r3 := (Step.alloc (fun _ => False) w1 (.cells #[.int .i64 0] 3)).block q3 (fun h => h)
 have c3 : (w1.alloc (.cells #[.int .i64 0] 3)).cell? ⟨w.heap.size + 1 + 1 + 1, 0, none⟩ = some (.int .i64 0) := by rw [Lib.cell_of_heap r3]; rfl
 have f3 := Lib.frozen_of_heap r3 0
 gi_wp2
 have hk3 := blk_set r3 0 (.int .i64 1)
 have hsc : Step (fun q => q = w.heap.size + 1 + 1 + 1) (w1.alloc (.cells #[.int .i64 0] 3)) ((w1.alloc (.cells #[.int .i64 0] 3)).setCell ⟨w.heap.size + 1 + 1 + 1, 0, none⟩ (.int .i64 1)) := Step.setCell _ (p := ⟨w.heap.size + 1 + 1 + 1, 0, none⟩) (S := fun q => q = w.heap.size + 1 + 1 + 1) rfl _
 refine ⟨_, results_c1 rfl _ _ ⟨w.heap.size + 1 + 1 + 1, 0, none⟩ rfl (loadVar28 _ _ 1 (by rw [Lib.cell_of_heap hk3]; rfl)), rfl, hs2.trans hsc (fun _ h => h) (fun k hk => Or.inr (by omega))⟩
set_option maxRecDepth 100000 in
set_option maxHeartbeats 4000000 in
theorem cluster_Raw_far (w : World) (i : DevIds) (sh gk gm C at_ : Int) (hg : GeoOk sh gk gm C) (ha : ¬ (0 ≤ at_ ∧ at_ < C)) :
  Calls Tryd.prog 9 #[.pointer (some ⟨i.d, 0, none⟩), geoV sh gk gm C, .int .i64 at_] w fun e w' => e = .returned (.tuple #[.string ⟨#[]⟩, .int .i64 1]) ∧ Step (fun _ => False) w w' := by
 unfold geoV
 have hu23 := Tryd.underlying23
 have hF : firstP sh gk gm C at_ = (0, 1) := by rw [firstP, if_pos hg, if_neg ha]
 refine (callsIn_wide (n := 4)).1 ?_
 refine callsIn_of_wp_marks Tryd.func9 rfl trivial ?_ rfl
 simp only [Tryd.ntmps9, List.size_toArray, List.length_cons, List.length_nil, Nat.reduceAdd, Nat.reduceSub, Array.replicate_succ, Array.replicate_zero, List.push_toArray, List.append_toArray, List.nil_append, List.cons_append]
 obtain ⟨W0, hW0, hs0, hz0, k0, k1, k2, k3⟩ := four w #[.pointer (some ⟨i.d, 0, none⟩)] #[.int .i64 sh, .int .i64 gk, .int .i64 gm, .int .i64 C] #[.string ⟨#[]⟩] #[.int .i64 0] 27 23 9 28
 gi_wp2
 refine ⟨trivial, ?_⟩
 gi_at_call 23
 refine (callsIn_wide.2 (geom_First_any sh gk gm C at_ _)).mono ?_
 rintro e w1 ⟨rfl, hb1⟩
 rw [hF]
 dsimp only
 rw [show (((w.alloc (.cells #[.pointer (some ⟨i.d, 0, none⟩)] 27)).alloc (.cells #[.int .i64 sh, .int .i64 gk, .int .i64 gm, .int .i64 C] 23)).alloc (.cells #[.string ⟨#[]⟩] 9)).alloc (.cells #[.int .i64 0] 28) = W0 from hW0.symm] at hb1
 have hs1 := step2 hs0 (Step.of_below (S := fun _ => False) hb1)
 have q2 := (Step.of_below (S := fun _ => False) hb1).block k2 (fun h => h)
 have q3 := (Step.of_below (S := fun _ => False) hb1).block k3 (fun h => h)
 clear hW0 hb1 k0 k1 k2 k3 hs0 hz0
 have hs2 := step2 hs1 (Step.alloc (fun _ => False) w1 (.cells #[.int .i64 0] 3))
 have r2 := (Step.alloc (fun _ => False) w1 (.cells #[.int .i64 0] 3)).block q2 (fun h => h)
 have r3 := (Step.alloc (fun _ => False) w1 (.cells #[.int .i64 0] 3)).block q3 (fun h => h)
 have c2 : (w1.alloc (.cells #[.int .i64 0] 3)).cell? ⟨w.heap.size + 1 + 1, 0, none⟩ = some (.string ⟨#[]⟩) := by rw [Lib.cell_of_heap r2]; rfl
 have f2 := Lib.frozen_of_heap r2 0
 have hT1 : Step (fun q => q = w.heap.size + 1 + 1) (w1.alloc (.cells #[.int .i64 0] 3)) ((w1.alloc (.cells #[.int .i64 0] 3)).setCell ⟨w.heap.size + 1 + 1, 0, none⟩ (.string ⟨#[]⟩)) := Step.setCell _ (p := ⟨w.heap.size + 1 + 1, 0, none⟩) (S := fun q => q = w.heap.size + 1 + 1) rfl _
 have m2 := blk_set r2 0 (.string ⟨#[]⟩)
 have m3 := hT1.block r3 (by omega)
 have c3 : ((w1.alloc (.cells #[.int .i64 0] 3)).setCell ⟨w.heap.size + 1 + 1, 0, none⟩ (.string ⟨#[]⟩)).cell? ⟨w.heap.size + 1 + 1 + 1, 0, none⟩ = some (.int .i64 0) := by rw [Lib.cell_of_heap m3]; rfl
 have f3 := Lib.frozen_of_heap m3 0
 gi_wp2
 have hT2 : Step (fun q => q = w.heap.size + 1 + 1 + 1) ((w1.alloc (.cells #[.int .i64 0] 3)).setCell ⟨w.heap.size + 1 + 1, 0, none⟩ (.string ⟨#[]⟩)) (((w1.alloc (.cells #[.int .i64 0] 3)).setCell ⟨w.heap.size + 1 + 1, 0, none⟩ (.string ⟨#[]⟩)).setCell ⟨w.heap.size + 1 + 1 + 1, 0, none⟩ (.int .i64 1)) := Step.setCell _ (p := ⟨w.heap.size + 1 + 1 + 1, 0, none⟩) (S := fun q => q = w.heap.size + 1 + 1 + 1) rfl _
 have n3 := blk_set m3 0 (.int .i64 1)
 have n2 := hT2.block m2 (by omega)
 refine ⟨_, results_c2 rfl _ _ ⟨w.heap.size + 1 + 1, 0, none⟩ ⟨w.heap.size + 1 + 1 + 1, 0, none⟩ rfl (loadVar9 _ _ ⟨#[]⟩ (by rw [Lib.cell_of_heap n2]; rfl)) rfl (loadVar28 _ _ 1 (by rw [Lib.cell_of_heap n3]; rfl)), rfl, (hs2.trans hT1 (fun _ h => h) (fun k hk => Or.inr (by omega))).trans hT2 (fun _ h => h) (fun k hk => Or.inr (by omega))⟩
set_option maxRecDepth 100000 in
set_option maxHeartbeats 4000000 in
theorem cluster_Write_form (w : World) (i : DevIds) (xs : List ByteArray) (F : FL) (B : BL) (nw : Int) (sh gk gm C at_ : Int) (s : ByteArray) (h : DevAt w i xs F B false (-1) nw) (hg : GeoOk sh gk gm C) (hn : (xs.length : Int) = C * (nS sh : Int)) (ha : 0 ≤ at_) (hb : at_ < C) (hs : s.size ≠ 512 * nS sh) :
  Calls Tryd.prog 10 #[.pointer (some ⟨i.d, 0, none⟩), geoV sh gk gm C, .int .i64 at_, .string s] w fun e w' => e = .returned (.int .i64 2) ∧ Step (fun _ => False) w w' := by
 unfold geoV
 have hu23 := Tryd.underlying23
 have hF : firstP sh gk gm C at_ = (at_ * (nS sh : Int), 0) := by rw [firstP, if_pos hg, if_pos ⟨ha, hb⟩]
 have hS : sizeP sh gk gm C = 512 * (nS sh : Int) := if_pos hg
 refine (callsIn_wide (n := 4)).1 ?_
 refine callsIn_of_wp_marks Tryd.func10 rfl trivial ?_ rfl
 simp only [Tryd.ntmps10, List.size_toArray, List.length_cons, List.length_nil, Nat.reduceAdd, Nat.reduceSub, Array.replicate_succ, Array.replicate_zero, List.push_toArray, List.append_toArray, List.nil_append, List.cons_append]
 obtain ⟨W0, hW0, hs0, hz0, k0, k1, k2, k3⟩ := four w #[.pointer (some ⟨i.d, 0, none⟩)] #[.int .i64 sh, .int .i64 gk, .int .i64 gm, .int .i64 C] #[.string s] #[.int .i64 0] 27 23 9 28
 gi_wp2
 refine ⟨trivial, ?_⟩
 gi_at_call 23
 refine (callsIn_wide.2 (geom_First_any sh gk gm C at_ _)).mono ?_
 rintro e w1 ⟨rfl, hb1⟩
 rw [hF]
 dsimp only
 rw [← hW0] at hb1
 have hs1 := step2 hs0 (Step.of_below (S := fun _ => False) hb1)
 have q0 := (Step.of_below (S := fun _ => False) hb1).block k0 (fun h => h)
 have q1 := (Step.of_below (S := fun _ => False) hb1).block k1 (fun h => h)
 have q2 := (Step.of_below (S := fun _ => False) hb1).block k2 (fun h => h)
 have q3 := (Step.of_below (S := fun _ => False) hb1).block k3 (fun h => h)
 have hz1 := hb1.size
 rw [hz0] at hz1
 clear hW0 hb1 k0 k1 k2 k3 hs0 hz0
 obtain ⟨b, hbe⟩ : ∃ b, b = w.heap.size := ⟨_, rfl⟩
 have hD1 := h.step hs1 (fun _ _ h => h)
 have hlt := h.lt
 have hbw : w.heap.size ≤ b := by omega
 rw [← hbe] at q0 q1 q2 q3 hz1 hlt ⊢
 clear hbe
 have hn1 := nS_pos sh
 have hn2 := nS_le hg.2.1
 have hln := h.ok.2.1
 have hf1 : 0 ≤ at_ * (nS sh : Int) := Int.mul_nonneg ha (Int.natCast_nonneg _)
 have hf2 : at_ * (nS sh : Int) + (nS sh : Int) ≤ (xs.length : Int) := by
  rw [hn]
  have := Int.mul_le_mul_of_nonneg_right (show at_ + 1 ≤ C by omega) (Int.natCast_nonneg (nS sh))
  rw [Int.add_mul, Int.one_mul] at this
  exact this
 generalize hf0 : at_ * (nS sh : Int) = f0 at *
 gi_wp2
 have hs2 := Step.alloc (fun _ => False) w1 (.cells #[.int .i64 f0] 3)
 have r0 := hs2.block q0 (fun h => h)
 have r1 := hs2.block q1 (fun h => h)
 have r2 := hs2.block q2 (fun h => h)
 have r3 := hs2.block q3 (fun h => h)
 have r4 := World.alloc_heap_new w1 (.cells #[.int .i64 f0] 3)
 have hD2 := hD1.step hs2 (fun _ _ h => h)
 have hs2' := step2 hs1 hs2
 have hz2 : (w1.alloc (.cells #[.int .i64 f0] 3)).heap.size = w1.heap.size + 1 := by simp
 obtain ⟨p, hpe⟩ : ∃ p, p = w1.heap.size := ⟨_, rfl⟩
 rw [← hpe] at r4 hz1 hz2 ⊢
 generalize w1.alloc (.cells #[.int .i64 f0] 3) = W at *
 clear q0 q1 q2 q3 hs1 hs2 hD1 hpe
 have y2 : W.drew.cell? ⟨b + 1 + 1, 0, none⟩ = some (.string s) := by show W.cell? _ = _; rw [Lib.cell_of_heap r2]; rfl
 have y10 : W.drew.cell? ⟨b + 1, 0, none⟩ = some (.int .i64 sh) := by show W.cell? _ = _; rw [Lib.cell_of_heap r1]; rfl
 have y11 : W.drew.cell? ⟨b + 1, 1, none⟩ = some (.int .i64 gk) := by show W.cell? _ = _; rw [Lib.cell_of_heap r1]; rfl
 have y12 : W.drew.cell? ⟨b + 1, 2, none⟩ = some (.int .i64 gm) := by show W.cell? _ = _; rw [Lib.cell_of_heap r1]; rfl
 have y13 : W.drew.cell? ⟨b + 1, 3, none⟩ = some (.int .i64 C) := by show W.cell? _ = _; rw [Lib.cell_of_heap r1]; rfl
 have hSize : ∀ w, Calls Tryd.prog 22 #[.agg #[.int .i64 sh, .int .i64 gk, .int .i64 gm, .int .i64 C]] w fun e w' => e = .returned (.int .i64 (512 * (nS sh : Int))) ∧ Below w.heap.size w w' := by
  intro w
  have := geom_Size_any sh gk gm C w
  rwa [hS] at this
 have hne : ((s.size : Int) != 512 * (nS sh : Int)) = true := by simp; omega
 refine region_only ?_
 refine start_ (n := 6) (S := fun w' => w'.cell? ⟨b + 1 + 1, 0, none⟩ = some (.string s) ∧ w'.cell? ⟨b + 1, 0, none⟩ = some (.int .i64 sh) ∧ w'.cell? ⟨b + 1, 1, none⟩ = some (.int .i64 gk) ∧ w'.cell? ⟨b + 1, 2, none⟩ = some (.int .i64 gm) ∧ w'.cell? ⟨b + 1, 3, none⟩ = some (.int .i64 C)) (ds := []) #[false, false, false, false, false, false] (by kernel_rfl) rfl rfl ⟨y2, y10, y11, y12, y13⟩ (fun hHeld => ?_)
 refine take_ (i := 0) (N := some 25) (v := ?_) (a' := ?_) #[true, false, false, false, false, false] rfl rfl (by kernel_rfl) (fun _ _ _ h => h) (Or.inl ⟨by rfl, ?_⟩) hHeld ?_ ?_
 rotate_left
 ·rintro w' ⟨s0, s1, s2, s3, s4⟩
  go_simp
  with_reducible rfl
 rotate_left
 ·simp only [Act.put, List.setIfInBounds_toArray, List.set_cons_zero, List.set_cons_succ, i64_w, i32_w]
  rfl
 refine pure_ (i := 1) (N := some 26) (v := ?_) (a' := ?_) #[true, true, false, false, false, false] rfl rfl (by kernel_rfl) (fun _ _ _ h => h) (Or.inl ⟨by rfl, ?_⟩) ?_ ?_
 rotate_left
 ·intro w'
  go_simp
  with_reducible rfl
 rotate_left
 ·simp only [Act.put, List.setIfInBounds_toArray, List.set_cons_zero, List.set_cons_succ, i64_w, i32_w]
  rfl
 refine take_ (i := 2) (N := some 27) (v := ?_) (a' := ?_) #[true, true, true, false, false, false] rfl rfl (by kernel_rfl) (fun _ _ _ h => h) (Or.inl ⟨by rfl, ?_⟩) hHeld ?_ ?_
 rotate_left
 ·rintro w' ⟨s0, s1, s2, s3, s4⟩
  go_simp
  with_reducible rfl
 rotate_left
 ·simp only [Act.put, List.setIfInBounds_toArray, List.set_cons_zero, List.set_cons_succ, i64_w, i32_w]
  rfl
 refine one_ (i := 3) (N := some 28) #[true, true, true, true, false, false] rfl rfl (by kernel_rfl) (by decide) (fun K hK => ?_)
 refine goes_ Tryd.func22 (by kernel_rfl) rfl #[.agg #[.int .i64 sh, .int .i64 gk, .int .i64 gm, .int .i64 C]] (by rfl) rfl rfl (by simp only [List.map_toArray, List.map_cons, List.map_nil]; rfl) ?_
 with_reducible refine (hSize _).mono ?_
 rintro e w3 ⟨rfl, hb3⟩
 refine ⟨_, rfl, ?_⟩
 refine hK.out _ _ ⟨pw_cell_below hb3 hHeld.1, pw_cell_below hb3 hHeld.2.1, pw_cell_below hb3 hHeld.2.2.1, pw_cell_below hb3 hHeld.2.2.2.1, pw_cell_below hb3 hHeld.2.2.2.2⟩ (fun hHeld => ?_)
 clear hK K
 refine norm_ (a' := ?_) ?_ ?_
 rotate_left
 ·show Act.put _ (some 28) _ = _
  simp only [Act.put, List.setIfInBounds_toArray, List.set_cons_zero, List.set_cons_succ, i64_w, i32_w]
  rfl
 refine pure_ (i := 4) (N := some 29) (v := ?_) (a' := ?_) #[true, true, true, true, true, false] rfl rfl (by kernel_rfl) (fun _ _ _ h => h) (Or.inl ⟨by rfl, ?_⟩) ?_ ?_
 rotate_left
 ·intro w'
  go_simp
  with_reducible rfl
 rotate_left
 ·simp only [Act.put, List.setIfInBounds_toArray, List.set_cons_zero, List.set_cons_succ, i64_w, i32_w]
  rfl
 refine pure_ (i := 5) (N := some 24) (v := ?_) (a' := ?_) #[true, true, true, true, true, true] rfl rfl (by kernel_rfl) (fun _ _ _ h => h) (Or.inl ⟨by rfl, ?_⟩) ?_ ?_
 rotate_left
 ·intro w'
  go_simp
  with_reducible rfl
 rotate_left
 ·simp only [Act.put, List.setIfInBounds_toArray, List.set_cons_zero, List.set_cons_succ, i64_w, i32_w]
  rfl
 refine done_ (by kernel_rfl) ?_

 have hsW : Step (fun _ => False) W w3 := step2 ⟨pw_below_drewN (Below.refl _ _) 1, fun _ _ _ => rfl⟩ (Step.of_below hb3)
 have u3 := hsW.block r3 (fun h => h)
 have c3 : w3.cell? ⟨b + 1 + 1 + 1, 0, none⟩ = some (.int .i64 0) := by rw [Lib.cell_of_heap u3]; rfl
 have f3 := Lib.frozen_of_heap u3 0
 dsimp only [onlyN]
 gi_wp2
 have hk3 := blk_set u3 0 (.int .i64 2)
 have hsc : Step (fun q => q = b + 1 + 1 + 1) w3 (w3.setCell ⟨b + 1 + 1 + 1, 0, none⟩ (.int .i64 2)) := Step.setCell _ (p := ⟨b + 1 + 1 + 1, 0, none⟩) (S := fun q => q = b + 1 + 1 + 1) rfl _
 refine ⟨_, results_c1 rfl _ _ ⟨b + 1 + 1 + 1, 0, none⟩ rfl (loadVar28 _ _ 2 (by rw [Lib.cell_of_heap hk3]; rfl)), rfl, (step2 hs2' hsW).trans hsc (fun _ h => h) (fun k hk => Or.inr (by omega))⟩
set_option maxRecDepth 100000 in
set_option maxHeartbeats 4000000 in
theorem cluster_Read_any (w : World) (i : DevIds) (xs : List ByteArray) (F : FL) (nw : Int) (sh gk gm C at_ sum : Int) (hT : TabAt w) (h : DevAt w i xs F [] false (-1) nw) (hg : GeoOk sh gk gm C) (hn : (xs.length : Int) = C * (nS sh : Int)) (ha : 0 ≤ at_) (hb : at_ < C) (R : ByteArray) (hR : rawS xs F (at_ * (nS sh : Int)) (nS sh) = R) (hR2 : R.size ≤ 1000000) :
  Calls Tryd.prog 11 #[.pointer (some ⟨i.d, 0, none⟩), geoV sh gk gm C, .int .i64 at_, .int .u32 sum] w fun e w' => e = .returned (.tuple #[.string (if sumC R = sum then R else ⟨#[]⟩), .int .i64 (if sumC R = sum then 0 else 9)]) ∧ Step (fun _ => False) w w' := by
 have hW : ∀ W, Step (fun _ => False) w W → Calls Tryd.prog 9 #[.pointer (some ⟨i.d, 0, none⟩), geoV sh gk gm C, .int .i64 at_] W fun e w' => e = .returned (.tuple #[.string R, .int .i64 0]) ∧ Step (fun _ => False) W w' := fun W hW => by
  have := cluster_Raw_any W i xs F nw sh gk gm C at_ (h.step hW (fun _ _ h => h)) hg hn ha hb
  rwa [hR] at this
 unfold geoV at hW ⊢
 have hu23 := Tryd.underlying23
 have hs0 := Step.alloc (fun _ => False) w (.cells #[.int .i64 sh, .int .i64 gk, .int .i64 gm, .int .i64 C] 23)
 by_cases hc : sumC R = sum
 ·have hcc : (sumC R != sum) = false := by simpa using hc
  rw [if_pos hc, if_pos hc]
  go_enter Tryd.func11, Tryd.ntmps11
  go_wp2_with (first
   | (go_at_call 9; refine (hW _ hs0).mono ?_; rintro e w1 ⟨rfl, hs1⟩; have hs2 := step2 hs0 hs1)
   | (go_at_call 12; refine (crc_Sum_any R _ (hT.step hs2 (fun h => h)) hR2).mono ?_; rintro e w2 ⟨rfl, hb2⟩))
  go_ret2
  exact ⟨rfl, step2 hs2 (Step.of_below hb2)⟩
 ·have hcc : (sumC R != sum) = true := by simpa using hc
  rw [if_neg hc, if_neg hc]
  go_enter Tryd.func11, Tryd.ntmps11
  go_wp2_with (first
   | (go_at_call 9; refine (hW _ hs0).mono ?_; rintro e w1 ⟨rfl, hs1⟩; have hs2 := step2 hs0 hs1)
   | (go_at_call 12; refine (crc_Sum_any R _ (hT.step hs2 (fun h => h)) hR2).mono ?_; rintro e w2 ⟨rfl, hb2⟩))
  go_ret2
  exact ⟨rfl, step2 hs2 (Step.of_below hb2)⟩
end

end Go.Proofs.YtpbkcdodpjpoeaaDoor.HCP
