/- WRITTEN BY wip/hyb.py, a program of this workplace (out of the kit's printer and this workplace's own contracts). -/
import Derived.Test.YtpbkcdodpjpoeaaDoorGCPx0
import Derived.Test.YtpbkcdodpjpoeaaDoorGCPx2
import Derived.Test.YtpbkcdodpjpoeaaDoorGCPx4
import Derived.Test.YtpbkcdodpjpoeaaDoorGCPx5
import Derived.Test.YtpbkcdodpjpoeaaDoorGCPx6
import Derived.Test.YtpbkcdodpjpoeaaDoorGCPx7
import Derived.Test.YtpbkcdodpjpoeaaDoorGCPx8
import Derived.Test.YtpbkcdodpjpoeaaDoorGCPx9
import Derived.Test.YtpbkcdodpjpoeaaDoorGCPx10
namespace Go.Proofs.YtpbkcdodpjpoeaaDoor.HCP
open Go.RowKit Go.Proofs.YtpbkcdodpjpoeaaDoorW.PrintWords Go.Proofs.YtpbkcdodpjpoeaaDoorW.PrintLast Go.Proofs.YtpbkcdodpjpoeaaDoorW.PrintMore
attribute [local go_sem] max2_int min2_int max_two min_two max_three min_three max_four min_four   -- for this text's walks alone
set_option linter.unusedVariables false
set_option linter.unusedSimpArgs false

section
open Go Go.Shelf Go.Maps Go.Proofs.YtpbkcdodpjpoeaaDoor.Seq Go.Proofs.YtpbkcdodpjpoeaaDoor.MapL Go.Proofs.YtpbkcdodpjpoeaaDoorW.PrintLast
attribute [local go_sem] Oper.semAt_some max2_int min2_int max_two min_two
def stP : Nat := 2197175160
def stB (x : Nat) : Nat := (x >>> 1) ^^^ (if x % 2 = 1 then stP else 0)
theorem xm2 (a b : Nat) : (a ^^^ b) % 2 = (a + b) % 2 := by
 have h := Nat.testBit_xor (x := a) (y := b) (i := 0)
 simp only [Nat.testBit_zero] at h
 rcases Nat.mod_two_eq_zero_or_one a with ha | ha <;> rcases Nat.mod_two_eq_zero_or_one b with hb | hb <;> rcases Nat.mod_two_eq_zero_or_one (a ^^^ b) with hc | hc <;> simp [ha, hb, hc] at h <;> omega
theorem st_xor (a b : Nat) : stB (a ^^^ b) = stB a ^^^ stB b := by
 unfold stB
 rw [Nat.shiftRight_xor_distrib, xm2]
 rcases Nat.mod_two_eq_zero_or_one a with ha | ha <;> rcases Nat.mod_two_eq_zero_or_one b with hb | hb
 ·rw [if_neg (by omega), if_neg (by omega), if_neg (by omega)]; simp
 ·rw [if_pos (by omega), if_neg (by omega), if_pos hb]; simp [Nat.xor_assoc]
 ·rw [if_pos (by omega), if_pos ha, if_neg (by omega)]; simp only [Nat.xor_zero]; rw [Nat.xor_assoc, Nat.xor_comm (b >>> 1) stP, ← Nat.xor_assoc]
 ·rw [if_neg (by omega), if_pos ha, if_pos hb]
  simp only [Nat.xor_zero]
  rw [Nat.xor_assoc, ← Nat.xor_assoc stP, Nat.xor_comm stP (b >>> 1), Nat.xor_assoc, Nat.xor_self, Nat.xor_zero]
theorem split16 (x : Nat) : x = (16 * (x / 16)) ^^^ (x % 16) := by
 have h : (16 * (x / 16)) ^^^ (x % 16) = 16 * (x / 16) + x % 16 := by
  have := Nat.two_pow_add_eq_or_of_lt (i := 4) (b := x % 16) (by omega) (x / 16)
  rw [show (2 : Nat) ^ 4 = 16 from rfl] at this
  rw [this]
  apply Nat.eq_of_testBit_eq
  intro j
  simp only [Nat.testBit_xor, Nat.testBit_or]
  by_cases hj : j < 4
  ·have h1 : (16 * (x / 16)).testBit j = false := by
    rw [show 16 * (x / 16) = 2 ^ 4 * (x / 16) from rfl, Nat.testBit_two_pow_mul]
    simp; omega
   rw [h1]; simp
  ·have h2 : (x % 16).testBit j = false := Nat.testBit_lt_two_pow (Nat.lt_of_lt_of_le (show x % 16 < 2 ^ 4 by omega) (Nat.pow_le_pow_right (by omega) (by omega)))
   rw [h2]; simp
 omega
theorem st_even (h : Nat) : stB (2 * h) = h := by
 unfold stB
 rw [if_neg (by omega), Nat.xor_zero, Nat.shiftRight_eq_div_pow]
 omega
def tabN (l : Nat) : Nat := (tabL.getD l 0).toNat
theorem st4_low : ∀ l, l < 16 → stB (stB (stB (stB l))) = tabN l := by decide +kernel
theorem st4 (x : Nat) : stB (stB (stB (stB x))) = (x / 16) ^^^ tabN (x % 16) := by
 conv => lhs; rw [split16 x]
 have e := st4_low (x % 16) (by omega)
 rw [st_xor, st_xor, st_xor, st_xor, e]
 rw [show 16 * (x / 16) = 2 * (2 * (2 * (2 * (x / 16)))) by omega, st_even, st_even, st_even, st_even]
def serK (c : Nat) : Nat → Nat → Nat
 | 0, x => x
 | k + 1, x => if serK c k x % 2 = (c >>> k) % 2 then serK c k x >>> 1 else (serK c k x >>> 1) ^^^ stP
def stK : Nat → Nat → Nat
 | 0, x => x
 | k + 1, x => stB (stK k x)
theorem ser_st (c x : Nat) : ∀ k, stK k (x ^^^ c) = serK c k x ^^^ (c >>> k)
 | 0 => by simp [stK, serK]
 | k + 1 => by
  rw [stK, ser_st c x k, stB, serK, Nat.shiftRight_xor_distrib, xm2, Nat.shiftRight_add]
  rcases Nat.mod_two_eq_zero_or_one (serK c k x) with ha | ha <;> rcases Nat.mod_two_eq_zero_or_one (c >>> k) with hb | hb
  ·rw [if_neg (by omega), if_pos (by omega)]; simp
  ·rw [if_pos (by omega), if_neg (by omega)]; rw [Nat.xor_assoc, Nat.xor_comm _ stP, ← Nat.xor_assoc]
  ·rw [if_pos (by omega), if_neg (by omega)]; rw [Nat.xor_assoc, Nat.xor_comm _ stP, ← Nat.xor_assoc]
  ·rw [if_neg (by omega), if_pos (by omega)]; simp
theorem byte_ser (c x : Nat) (hc : c < 256) : serK c 8 x = stK 8 (x ^^^ c) := by
 rw [ser_st, Nat.shiftRight_eq_div_pow, Nat.div_eq_of_lt (by simpa using hc), Nat.xor_zero]
theorem xorN (a b : Nat) (ha : a < 4294967296) (hb : b < 4294967296) : Go.bits .xor .u32 (a : Int) (b : Int) = ((a ^^^ b : Nat) : Int) := by
 have hx : a ^^^ b < 2 ^ 32 := Nat.xor_lt_two_pow (by simpa using ha) (by simpa using hb)
 simp only [Go.bits, BitVec.ofInt_natCast, BitVec.toNat_xor, BitVec.toNat_ofNat]
 rw [IntKind.wrap_u32]
 have e1 : a % 2 ^ IntKind.u32.bits = a := Nat.mod_eq_of_lt ha
 have e2 : b % 2 ^ IntKind.u32.bits = b := Nat.mod_eq_of_lt hb
 rw [e1, e2]
 omega
theorem tabN_lt (l : Nat) (h : l < 16) : tabN l < 4294967296 := by
 have : ∀ l, l < 16 → tabN l < 4294967296 := by decide +kernel
 exact this l h
theorem tabN_eq (l : Nat) (h : l < 16) : tabG l = (tabN l : Int) := by
 have : ∀ l, l < 16 → tabG l = (tabN l : Int) := by decide +kernel
 exact this l h
theorem and15N (x : Nat) (h : x < 4294967296) : Go.bits .and .u32 (x : Int) 15 = ((x % 16 : Nat) : Int) := by
 have := bits_mask .u32 32 (by decide) (fun n a b => by rw [IntKind.wrap_u32]; omega) 4 (by decide) (x : Int) (by omega) (by omega)
 rw [show (2 : Int) ^ 4 - 1 = 15 by decide, show (2 : Int) ^ 4 = 16 by decide] at this
 rw [this]
 omega
theorem stK4_lt (x : Nat) (h : x < 4294967296) : stB (stB (stB (stB x))) < 4294967296 := by
 rw [st4]
 have h1 := tabN_lt (x % 16) (by omega)
 exact Nat.xor_lt_two_pow (n := 32) (by omega) (by simpa using h1)
theorem nibN (x : Nat) (h : x < 4294967296) : nib (x : Int) = ((stB (stB (stB (stB x))) : Nat) : Int) := by
 unfold nib
 rw [and15N x h, Int.toNat_natCast, tabN_eq _ (by omega), st4, ← xorN (x / 16) _ (by omega) (tabN_lt _ (by omega))]
 congr 1
theorem byteN (x : Nat) (b : UInt8) (h : x < 4294967296) : byteC (x : Int) b = ((serK b.toNat 8 x : Nat) : Int) ∧ serK b.toNat 8 x < 4294967296 := by
 have hb := b.toNat_lt
 have hx : x ^^^ b.toNat < 4294967296 := Nat.xor_lt_two_pow (n := 32) (by simpa using h) (by omega)
 have h1 := stK4_lt _ hx
 have h2 := stK4_lt _ h1
 have e : serK b.toNat 8 x = stB (stB (stB (stB (stB (stB (stB (stB (x ^^^ b.toNat)))))))) := byte_ser b.toNat x (by omega)
 rw [e]
 refine ⟨?_, h2⟩
 unfold byteC
 rw [show ((b.toNat : Int) % 4294967296) = ((b.toNat : Nat) : Int) by omega, xorN x b.toNat h (by omega), nibN _ hx, nibN _ h1]
theorem and1N (x : Nat) (h : x < 4294967296) : Go.bits .and .u32 (x : Int) 1 = ((x % 2 : Nat) : Int) := by
 have := bits_mask .u32 32 (by decide) (fun n a b => by rw [IntKind.wrap_u32]; omega) 1 (by decide) (x : Int) (by omega) (by omega)
 rw [show (2 : Int) ^ 1 - 1 = 1 by decide, show (2 : Int) ^ 1 = 2 by decide] at this
 rw [this]
 omega
theorem shrN (c j : Nat) (hj : j ≤ 8) : shr .u32 (c : Int) (j : Int) = ((c >>> j : Nat) : Int) := by
 unfold shr
 rw [Int.toNat_natCast, Nat.min_eq_left (by simp [IntKind.bits]; omega), Nat.shiftRight_eq_div_pow]
 simp
theorem serK_lt (c x : Nat) (h : x < 4294967296) : ∀ k, serK c k x < 4294967296
 | 0 => h
 | k + 1 => by
  have := serK_lt c x h k
  rw [serK]
  split
  ·rw [Nat.shiftRight_eq_div_pow]; omega
  ·exact Nat.xor_lt_two_pow (n := 32) (by rw [Nat.shiftRight_eq_div_pow]; omega) (by decide)
theorem add_l1 (s : ByteArray) (i c x k : Nat) (hx : x < 4294967296) (hc : c < 256) (hi : i < s.size) (hs : s.size ≤ 1000000) (hb : bt s (i : Int) = (c : Int)) : ∀ d j : Nat, j + d = 8 → caulkref01_Add.l1 (k + d + 1) ((serK c j x : Nat) : Int) s (i : Int) (j : Int) = caulkref01_Add.l0 k ((serK c 8 x : Nat) : Int) s ((i : Int) + 1) := by
 intro d
 induction d with
 | zero =>
  intro j hj
  obtain rfl : j = 8 := by omega
  rw [caulkref01_Add.l1, if_neg (by omega), wrap64_id (by omega) (by omega)]
 | succ d ih =>
  intro j hj
  have hr := serK_lt c x hx j
  have hcj : c >>> j < 4294967296 := by rw [Nat.shiftRight_eq_div_pow]; exact Nat.lt_of_le_of_lt (Nat.div_le_self _ _) (by omega)
  have ht : (Int.tdiv ((serK c j x : Nat) : Int) (2 : Int)) % (4294967296 : Int) = ((serK c j x >>> 1 : Nat) : Int) := by
   rw [Nat.shiftRight_eq_div_pow, Int.tdiv_eq_ediv_of_nonneg (by omega)]
   omega
  rw [show k + (d + 1) + 1 = (k + d + 1) + 1 by omega, caulkref01_Add.l1, if_pos (by omega), if_pos (by omega), if_pos (by omega), if_pos (by omega), hb, show ((c : Nat) : Int) % 4294967296 = (c : Int) by omega, shrN c j (by omega), and1N _ hr, and1N _ hcj, wrap64_id (by omega) (by omega), ht]
  have hn : serK c (j + 1) x = if serK c j x % 2 = (c >>> j) % 2 then serK c j x >>> 1 else (serK c j x >>> 1) ^^^ stP := rfl
  by_cases he : serK c j x % 2 = (c >>> j) % 2
  ·rw [if_pos (by rw [he])]
   rw [if_pos he] at hn
   rw [← hn]
   exact ih (j + 1) (by omega)
  ·rw [if_neg (fun h => he (by omega))]
   rw [if_neg he] at hn
   have hx2 : Go.bits .xor .u32 ((serK c j x >>> 1 : Nat) : Int) 2197175160 = ((serK c j x >>> 1 ^^^ stP : Nat) : Int) := xorN (serK c j x >>> 1) stP (by rw [Nat.shiftRight_eq_div_pow]; omega) (by decide)
   rw [hx2, ← hn]
   exact ih (j + 1) (by omega)
theorem addC_nat (l : List UInt8) : ∀ x : Nat, x < 4294967296 → ∃ y : Nat, y < 4294967296 ∧ addC l (x : Int) = (y : Int) := by
 induction l with
 | nil => exact fun x h => ⟨x, h, rfl⟩
 | cons b l ih =>
  intro x h
  obtain ⟨e, h2⟩ := byteN x b h
  rw [addC, e]
  exact ih _ h2
theorem add_l0 (s : ByteArray) (x0 : Nat) (h0 : x0 < 4294967296) (hs : s.size ≤ 1000000) : ∀ m i : Nat, i + m = s.size → ∃ k, caulkref01_Add.l0 k (addC (s.data.toList.take i) (x0 : Int)) s (i : Int) = some (addC s.data.toList (x0 : Int)) := by
 intro m
 induction m with
 | zero =>
  intro i hi
  refine ⟨1, ?_⟩
  rw [caulkref01_Add.l0, if_neg (by omega), List.take_of_length_le (by rw [data_length]; omega)]
 | succ m ih =>
  intro i hi
  obtain ⟨k, hk⟩ := ih (i + 1) (by omega)
  obtain ⟨y, hy, ey⟩ := addC_nat (s.data.toList.take i) x0 h0
  have hil : i < s.data.toList.length := by rw [data_length]; omega
  have hb : bt s (i : Int) = ((s.data.toList[i].toNat : Nat) : Int) := by
   have := bt_at s (i : Int) (by simpa using (show i < s.size by omega))
   rw [← this]
   simp only [Int.toNat_natCast]
   rfl
  have hl := add_l1 s i (s.data.toList[i]).toNat y k hy (by have := (s.data.toList[i]).toNat_lt; omega) (by omega) hs hb 8 0 rfl
  refine ⟨k + 8 + 1 + 1, ?_⟩
  rw [caulkref01_Add.l0, if_pos (by omega), ey]
  have e2 : addC (s.data.toList.take (i + 1)) (x0 : Int) = ((serK (s.data.toList[i]).toNat 8 y : Nat) : Int) := by
   rw [List.take_succ_eq_append_getElem hil, addC_snoc, ey]
   exact (byteN y _ hy).1
  rw [e2] at hk
  refine Eq.trans ?_ hk
  exact hl
theorem ref_Sum_is (s : ByteArray) (hs : s.size ≤ 1000000) : ∃ k, caulkref01_Sum.f k s = some (sumC s) := by
 obtain ⟨k, hk⟩ := add_l0 s 4294967295 (by decide) hs s.size 0 (by omega)
 refine ⟨k, ?_⟩
 have hk' : caulkref01_Add.f k 4294967295 s = some (addC s.data.toList 4294967295) := hk
 unfold caulkref01_Sum.f
 rw [hk']
 obtain ⟨y, hy, ey⟩ := addC_nat s.data.toList 4294967295 (by decide)
 have ey' : addC s.data.toList 4294967295 = (y : Int) := ey
 show some (Go.bits .xor .u32 (addC s.data.toList 4294967295) 4294967295) = some (sumC s)
 unfold sumC endC
 rw [ey']
 have a := xorN y 4294967295 hy (by decide)
 have b := xorN 4294967295 y (by decide) hy
 rw [Nat.xor_comm] at b
 exact congrArg some (a.trans b.symm)
theorem each_is (sh K M C : Int) (h0 : 0 ≤ sh) (h1 : sh ≤ 7) : caulkref06_each.f 10 sh K M C = some ((nS sh : Nat) : Int) := by
 rcases sh_cases h0 h1 with rfl | rfl | rfl | rfl | rfl | rfl | rfl | rfl <;> kernel_rfl
theorem ref_Check_is (sh K M C : Int) : caulkref06_Check.f 10 sh K M C = some (if GeoOk sh K M C then 0 else 2) := by
 unfold caulkref06_Check.f
 by_cases a1 : sh < 0
 ·rw [if_pos a1, if_neg (fun h => by have := h.1; omega)]
 by_cases a2 : sh > 7
 ·rw [if_neg a1, if_pos a2, if_neg (fun h => by have := h.2.1; omega)]
 rw [if_neg a1, if_neg a2]
 have hR : caulkref04_Check.f K M = some (if 1 ≤ K ∧ 0 ≤ M ∧ K ≤ 255 ∧ M ≤ 255 - K then 0 else 1) := by
  unfold caulkref04_Check.f
  by_cases c1 : K < 1
  ·rw [if_pos c1, if_neg (by omega)]
  by_cases c2 : M < 0
  ·rw [if_neg c1, if_pos c2, if_neg (by omega)]
  by_cases c3 : K > 255
  ·rw [if_neg c1, if_neg c2, if_pos c3, if_neg (by omega)]
  by_cases c5 : M > 255
  ·rw [if_neg c1, if_neg c2, if_neg c3, if_pos c5, if_neg (by omega)]
  rw [if_neg c1, if_neg c2, if_neg c3, if_neg c5, wrap64_id (by omega) (by omega)]
  by_cases c4 : K + M > 255
  ·rw [if_pos c4, if_neg (by omega)]
  ·rw [if_neg c4, if_pos (by omega)]
 rw [hR, each_is sh K M C (by omega) (by omega)]
 by_cases hr : 1 ≤ K ∧ 0 ≤ M ∧ K ≤ 255 ∧ M ≤ 255 - K
 ·rw [if_pos hr]
  simp only [Option.bind_some, ↓reduceIte]
  by_cases b1 : C < 4
  ·rw [if_pos b1, if_neg (fun h => by have := h.2.2.2.2.2.2.1; omega)]
  by_cases b2 : C > 4096
  ·rw [if_neg b1, if_pos b2, if_neg (fun h => by have := h.2.2.2.2.2.2.2.1; omega)]
  rw [if_neg b1, if_neg b2]
  have hn := nS_le (sh := sh) (by omega)
  have hm1 : 0 ≤ C * (nS sh : Int) := Int.mul_nonneg (by omega) (Int.natCast_nonneg _)
  have hm2 : C * (nS sh : Int) ≤ 524288 := by
   have h1 := Int.mul_le_mul_of_nonneg_right (show C ≤ 4096 by omega) (Int.natCast_nonneg (nS sh))
   have h2 := Int.mul_le_mul_of_nonneg_left (show (nS sh : Int) ≤ 128 by omega) (show (0 : Int) ≤ 4096 by omega)
   omega
  rw [wrap64_id (by omega) (by omega)]
  by_cases b3 : C * (nS sh : Int) > 32768
  ·rw [if_pos b3, if_neg (fun h => by have := h.2.2.2.2.2.2.2.2; rw [← nS_int] at this; omega)]
  ·rw [if_neg b3, if_pos ⟨by omega, by omega, hr.1, hr.2.1, hr.2.2.1, hr.2.2.2, by omega, by omega, by rw [← nS_int]; omega⟩]
 ·rw [if_neg hr, if_neg (fun h : GeoOk sh K M C => hr ⟨h.2.2.1, h.2.2.2.1, h.2.2.2.2.1, h.2.2.2.2.2.1⟩)]
  simp
theorem ref_Size_is (sh K M C : Int) : caulkref06_Size.f 10 sh K M C = some (sizeP sh K M C) := by
 unfold caulkref06_Size.f sizeP
 rw [ref_Check_is]
 by_cases h : GeoOk sh K M C
 ·have hn := nS_le (sh := sh) h.2.1
  rw [if_pos h, if_pos h, each_is sh K M C h.1 h.2.1]
  simp only [Option.bind_some, ↓reduceIte]
  rw [wrap64_id (by omega) (by omega)]
 ·rw [if_neg h, if_neg h]
  simp
theorem ref_First_is (sh K M C at_ : Int) : caulkref06_First.f 10 sh K M C at_ = some (firstP sh K M C at_) := by
 unfold caulkref06_First.f firstP
 rw [ref_Check_is]
 by_cases h : GeoOk sh K M C
 ·have hn := nS_le (sh := sh) h.2.1
  rw [if_pos h, if_pos h, each_is sh K M C h.1 h.2.1]
  simp only [Option.bind_some, ↓reduceIte]
  by_cases a : at_ < 0
  ·rw [if_pos a, if_neg (by omega)]
  by_cases b : at_ ≥ C
  ·rw [if_neg a, if_pos b, if_neg (by omega)]
  have hg := h.2.2.2.2.2.2.2.1
  have hm1 : 0 ≤ at_ * (nS sh : Int) := Int.mul_nonneg (by omega) (Int.natCast_nonneg _)
  have hm2 : at_ * (nS sh : Int) ≤ 524288 := by
   have h1 := Int.mul_le_mul_of_nonneg_right (show at_ ≤ 4096 by omega) (Int.natCast_nonneg (nS sh))
   have h2 := Int.mul_le_mul_of_nonneg_left (show (nS sh : Int) ≤ 128 by omega) (show (0 : Int) ≤ 4096 by omega)
   omega
  rw [if_neg a, if_neg b, if_pos (by omega), wrap64_id (by omega) (by omega)]
 ·rw [if_neg h, if_neg h]
  simp
theorem fillG_app (n : Nat) (s : ByteArray) : fillG n s = s ++ strOfNums (List.replicate (n - s.size) 0) := by
 unfold fillG
 have h : (strOfNums (bytesOf s ++ List.replicate (n - s.size) 0)).data.toList = (s ++ strOfNums (List.replicate (n - s.size) 0)).data.toList := by
  rw [strOfNums_data, ByteArray.data_append, Array.toList_append, strOfNums_data, List.map_append, bytesOf, List.map_map]
  have e : ((fun n : Int => UInt8.ofNat n.toNat) ∘ fun b : UInt8 => (b.toNat : Int)) = id := by funext b; simp
  rw [e, List.map_id]
 have h2 : (strOfNums (bytesOf s ++ List.replicate (n - s.size) 0)).data = (s ++ strOfNums (List.replicate (n - s.size) 0)).data := Array.ext' h
 cases h3 : strOfNums (bytesOf s ++ List.replicate (n - s.size) 0)
 cases h4 : s ++ strOfNums (List.replicate (n - s.size) 0)
 rw [h3, h4] at h2
 simpa using h2
theorem ref_Fill_is (sh K M C : Int) (s : ByteArray) (hs : s.size ≤ 1000000) : caulkref08_Fill.f 10 sh K M C s = some (fillP sh K M C s) := by
 unfold caulkref08_Fill.f fillP
 rw [ref_Check_is, ref_Size_is]
 by_cases h : GeoOk sh K M C
 ·have hn := nS_le (sh := sh) h.2.1
  rw [if_pos h, if_pos h, sizeP, if_pos h]
  simp only [Option.bind_some, ↓reduceIte]
  by_cases hl : s.size ≤ 512 * nS sh
  ·have e : (wrap64 (512 * (nS sh : Int) - (s.size : Int)) : Int).toNat = 512 * nS sh - s.size := by rw [wrap64_id (by omega) (by omega)]; omega
   rw [if_neg (by omega), if_pos hl, e, if_pos (by rw [wrap64_id (by omega) (by omega)]; omega), if_pos (by omega), if_pos (by rw [strOfNums_size, List.length_replicate]; omega), fillG_app]
  ·rw [if_pos (by omega), if_neg hl]
 ·rw [if_neg h, if_neg h]
  simp
theorem ref_Size_any (sh K M C : Int) (w : World) : Calls Tryd.prog 53 #[geoV sh K M C] w fun e w' => e = .returned (.int .i64 (sizeP sh K M C)) ∧ Below w.heap.size w w' :=
 caulkref06_Size.calls 10 sh K M C _ w (ref_Size_is sh K M C)
theorem ref_First_any (sh K M C at_ : Int) (w : World) : Calls Tryd.prog 54 #[geoV sh K M C, .int .i64 at_] w fun e w' => e = .returned (.tuple #[.int .i64 (firstP sh K M C at_).1, .int .i64 (firstP sh K M C at_).2]) ∧ Below w.heap.size w w' :=
 caulkref06_First.calls 10 sh K M C at_ _ _ w (ref_First_is sh K M C at_)
theorem ref_Fill_any (sh K M C : Int) (s : ByteArray) (hs : s.size ≤ 1000000) (w : World) : Calls Tryd.prog 30 #[geoV sh K M C, .string s] w fun e w' => e = .returned (.tuple #[.string (fillP sh K M C s).1, .int .i64 (fillP sh K M C s).2]) ∧ Below w.heap.size w w' :=
 caulkref08_Fill.calls 10 sh K M C s _ _ w (ref_Fill_is sh K M C s hs)
theorem ref_Sum_any (s : ByteArray) (hs : s.size ≤ 1000000) (w : World) : Calls Tryd.prog 56 #[.string s] w fun e w' => e = .returned (.int .u32 (sumC s)) ∧ Below w.heap.size w w' := by
 obtain ⟨k, hk⟩ := ref_Sum_is s hs
 refine (caulkref01_Sum.calls k s _ w hk).mono ?_
 rintro e w' ⟨rfl, h⟩
 exact ⟨rfl, by first | exact h | exact h.below⟩
set_option maxRecDepth 100000 in
set_option maxHeartbeats 8000000 in
theorem ref_Raw_all (w : World) (v : Value) (xs : List ByteArray) (F : FL) (B : BL) (off : Bool) (left nw : Int) (fuse : Int) (sh gk gm C at_ : Int) (h : RefAt w v xs F B) (hok : DevOk xs F B fuse) :
  Calls Tryd.prog 33 #[.agg #[v, .bool off, .int .i64 left, .int .i64 nw], geoV sh gk gm C, .int .i64 at_] w fun e w' => e = .returned (.tuple #[.string (rawA xs F B off sh gk gm C at_).1, .int .i64 (rawA xs F B off sh gk gm C at_).2]) ∧ Below w.heap.size w w' := by
 have hu23 := Tryd.underlying23
 have hu41 := Tryd.underlying41
 unfold rawA
 have hFst := fun W => ref_First_any sh gk gm C at_ W
 by_cases h0 : (firstP sh gk gm C at_).2 ≠ 0
 ·have hz : ((firstP sh gk gm C at_).2 != 0) = true := by simpa using h0
  rw [if_pos h0]
  go_enter Tryd.func33, Tryd.ntmps33
  go_wp2_with (first
   | (go_at_call 54; with_reducible refine (hFst _).mono ?_; rintro e w1 ⟨rfl, hb1⟩))
  go_ret2
  exact ⟨rfl, (below2 w _ _).trans (hb1.mono (by simp; try omega))⟩
 ·rw [if_neg h0]
  obtain ⟨hg, ha, hb⟩ := firstP_ok (by simpa using h0)
  have hF : firstP sh gk gm C at_ = (at_ * (nS sh : Int), 0) := by rw [firstP, if_pos hg, if_pos ⟨ha, hb⟩]
  rw [hF] at hFst
  have hSz : ∀ W, Calls Tryd.prog 53 #[.agg #[.int .i64 sh, .int .i64 gk, .int .i64 gm, .int .i64 C]] W fun e w' => e = .returned (.int .i64 (512 * (nS sh : Int))) ∧ Below W.heap.size W w' := fun W => by
   have := ref_Size_any sh gk gm C W
   rw [sizeP, if_pos hg] at this
   exact this
  have hn1 := nS_pos sh
  have hn2 := nS_le hg.2.1
  have hf1 : 0 ≤ at_ * (nS sh : Int) := Int.mul_nonneg ha (Int.natCast_nonneg _)
  have hf3 : at_ * (nS sh : Int) ≤ 524288 := by
   have h1 := Int.mul_le_mul_of_nonneg_right (show at_ ≤ 4096 by have := hg.2.2.2.2.2.2.2.1; omega) (Int.natCast_nonneg (nS sh))
   have h2 := Int.mul_le_mul_of_nonneg_left (show (nS sh : Int) ≤ 128 by omega) (show (0 : Int) ≤ 4096 by omega)
   omega
  clear hF h0 hg ha hb
  generalize at_ * (nS sh : Int) = f0 at *
  generalize nS sh = n at *
  have m0 := new1of2 w (.cells #[v, .bool off, .int .i64 left, .int .i64 nw] 41) (.cells #[.int .i64 sh, .int .i64 gk, .int .i64 gm, .int .i64 C] 23)
  have m1 := new2 w (.cells #[v, .bool off, .int .i64 left, .int .i64 nw] 41) (.cells #[.int .i64 sh, .int .i64 gk, .int .i64 gm, .int .i64 C] 23)
  have hB0 := below2 w (.cells #[v, .bool off, .int .i64 left, .int .i64 nw] 41) (.cells #[.int .i64 sh, .int .i64 gk, .int .i64 gm, .int .i64 C] 23)
  go_enter Tryd.func33, Tryd.ntmps33
  go_wp2_with (first
   | (go_at_call 54; with_reducible refine (hFst _).mono ?_; rintro e w1 ⟨rfl, hb1⟩))
  have p0 := Stepb hb1 m0
  have p1 := Stepb hb1 m1
  have hB1 := hB0.trans (hb1.mono (by simp; try omega))
  go_loopw [10, 11] (fun t10 t11 wr => ∃ k : Nat, k ≤ n ∧ t11 = .int .i64 k ∧ t10 = .string ⟨(rawG xs F B off f0 k).1.toArray⟩ ∧ (rawG xs F B off f0 k).2 = 0 ∧ wr.heap[w.heap.size]? = some (.cells #[v, .bool off, .int .i64 left, .int .i64 nw] 41 (0, 0)) ∧ wr.heap[w.heap.size + 1]? = some (.cells #[.int .i64 sh, .int .i64 gk, .int .i64 gm, .int .i64 C] 23 (0, 0)) ∧ Below w.heap.size w wr) (fun _ t11 _ => n - (intOf t11).toNat)
  case atStart => exact ⟨0, Nat.zero_le _, rfl, rfl, rfl, p0, p1, hB1⟩
  case round =>
   obtain ⟨k, hk, rfl, rfl, he, s0, s1, hB⟩ := hrel
   obtain ⟨⟨a0, a1, a2, a3⟩, _⟩ := blk4 s0
   obtain ⟨⟨b0, b1, b2, b3⟩, _⟩ := blk4 s1
   by_cases hkl : k < n
   ·have hRd := fun W (hb : Below w.heap.size w W) => ref_Read W v xs F B off left nw (f0 + (k : Int)) (h.below hb)
    have hk1 : rawG xs F B off f0 (k + 1) = if (readP xs F B off (f0 + (k : Int))).2 = 0 then ((rawG xs F B off f0 k).1 ++ (readP xs F B off (f0 + (k : Int))).1.data.toList, 0) else ([], (readP xs F B off (f0 + (k : Int))).2) := by rw [rawG, if_pos he]
    have hrz := rawG_len (off := off) hok k he
    have hsz := fun h => readP_size (off := off) (at_ := f0 + (k : Int)) hok h
    generalize hrl : (rawG xs F B off f0 k).1 = rl at hk1 hrz
    generalize readP xs F B off (f0 + (k : Int)) = rp at hRd hk1 hsz
    obtain ⟨rs, re⟩ := rp
    dsimp only at hRd hk1 hsz
    have hz1 : (⟨rl.toArray⟩ : ByteArray).size = 512 * k := by show rl.toArray.size = _; rw [List.size_toArray, hrz]
    have hcat : (⟨rl.toArray⟩ : ByteArray) ++ rs = ⟨(rl ++ rs.data.toList).toArray⟩ := by
     cases rs
     apply ByteArray.ext
     rw [ByteArray.data_append]
     simp
    by_cases hre : re = 0
    ·subst hre
     rw [if_pos rfl] at hk1
     have hz2 := hsz rfl
     go_wp2_with (first
      | (go_at_call 53; with_reducible refine (hSz _).mono ?_; rintro e w2 ⟨rfl, hb2⟩; have q0 := Stepb hb2 s0; have q1 := Stepb hb2 s1; have hB2 := hB.trans (hb2.mono hB.size); obtain ⟨⟨c0, c1, c2, c3⟩, _⟩ := blk4 q0)
      | (go_at_call 57; refine (hRd _ hB2).mono ?_; rintro e w3 ⟨rfl, hb3⟩; have u0 := Stepb hb3 q0; have u1 := Stepb hb3 q1; have hB3 := hB2.trans (hb3.mono hB2.size)))
     exact ⟨⟨k + 1, by omega, by simp, by rw [hk1], by rw [hk1], u0, u1, hB3⟩, by simp [intOf]; omega⟩
    ·have hzz : (re != 0) = true := by simpa using hre
     rw [if_neg hre] at hk1
     have hst := rawG_stop (k := k + 1) (xs := xs) (F := F) (B := B) (off := off) (f0 := f0) (by rw [hk1]; exact hre) n (by omega)
     rw [hk1] at hst
     go_wp2_with (first
      | (go_at_call 53; with_reducible refine (hSz _).mono ?_; rintro e w2 ⟨rfl, hb2⟩; have q0 := Stepb hb2 s0; have q1 := Stepb hb2 s1; have hB2 := hB.trans (hb2.mono hB.size); obtain ⟨⟨c0, c1, c2, c3⟩, _⟩ := blk4 q0)
      | (go_at_call 57; refine (hRd _ hB2).mono ?_; rintro e w3 ⟨rfl, hb3⟩; have hB3 := hB2.trans (hb3.mono hB2.size)))
     go_ret2
     exact ⟨by rw [hst]; rfl, hB3⟩
   ·have ek : k = n := by omega
    subst ek
    go_wp2_with (first
     | (go_at_call 53; with_reducible refine (hSz _).mono ?_; rintro e w2 ⟨rfl, hb2⟩; have hB2 := hB.trans (hb2.mono hB.size)))
    go_ret2
    exact ⟨by rw [he]; rfl, hB2⟩
set_option maxRecDepth 100000 in
set_option maxHeartbeats 8000000 in
theorem ref_Read_all (w : World) (v : Value) (xs : List ByteArray) (F : FL) (B : BL) (off : Bool) (left nw : Int) (fuse : Int) (sh gk gm C at_ sum : Int) (h : RefAt w v xs F B) (hok : DevOk xs F B fuse) :
  Calls Tryd.prog 32 #[.agg #[v, .bool off, .int .i64 left, .int .i64 nw], geoV sh gk gm C, .int .i64 at_, .int .u32 sum] w fun e w' => e = .returned (.tuple #[.string (readA xs F B off sh gk gm C at_ sum).1, .int .i64 (readA xs F B off sh gk gm C at_ sum).2]) ∧ Below w.heap.size w w' := by
 have hu23 := Tryd.underlying23
 have hu41 := Tryd.underlying41
 have hW := fun W (hb : Below w.heap.size w W) => ref_Raw_all W v xs F B off left nw fuse sh gk gm C at_ (h.below hb) hok
 have hz := rawA_size (off := off) hok (sh := sh) (gk := gk) (gm := gm) (C := C) (at_ := at_)
 unfold readA
 generalize rawA xs F B off sh gk gm C at_ = r at *
 obtain ⟨R, y⟩ := r
 dsimp only at hW hz ⊢
 have hB0 := below2 w (.cells #[v, .bool off, .int .i64 left, .int .i64 nw] 41) (.cells #[.int .i64 sh, .int .i64 gk, .int .i64 gm, .int .i64 C] 23)
 by_cases hy : y ≠ 0
 ·have hyy : (y != 0) = true := by simpa using hy
  rw [if_pos hy]
  go_enter Tryd.func32, Tryd.ntmps32
  go_wp2_with (first
   | (go_at_call 33; with_reducible refine (hW _ hB0).mono ?_; rintro e w1 ⟨rfl, hb1⟩; have hB1 := hB0.trans (hb1.mono hB0.size)))
  go_ret2
  exact ⟨rfl, hB1⟩
 replace hy : y = 0 := by simpa using hy
 subst hy
 replace hz := hz rfl
 have hS := fun W => ref_Sum_any R (by omega) W
 rw [if_neg (by decide)]
 by_cases hc : sumC R = sum
 ·have hcc : (sumC R != sum) = false := by simpa using hc
  rw [if_pos hc]
  go_enter Tryd.func32, Tryd.ntmps32
  go_wp2_with (first
   | (go_at_call 33; with_reducible refine (hW _ hB0).mono ?_; rintro e w1 ⟨rfl, hb1⟩; have hB1 := hB0.trans (hb1.mono hB0.size))
   | (go_at_call 56; with_reducible refine (hS _).mono ?_; rintro e w2 ⟨rfl, hb2⟩; have hB2 := hB1.trans (hb2.mono hB1.size)))
  go_ret2
  exact ⟨rfl, hB2⟩
 ·have hcc : (sumC R != sum) = true := by simpa using hc
  rw [if_neg hc]
  go_enter Tryd.func32, Tryd.ntmps32
  go_wp2_with (first
   | (go_at_call 33; with_reducible refine (hW _ hB0).mono ?_; rintro e w1 ⟨rfl, hb1⟩; have hB1 := hB0.trans (hb1.mono hB0.size))
   | (go_at_call 56; with_reducible refine (hS _).mono ?_; rintro e w2 ⟨rfl, hb2⟩; have hB2 := hB1.trans (hb2.mono hB1.size)))
  go_ret2
  exact ⟨rfl, hB2⟩
theorem below41 (w : World) : Below w.heap.size w (w.alloc (.cells #[.slice none 0 0, .bool false, .int .i64 0, .int .i64 0] 41)) := (Below.refl _ w).alloc (Nat.le_refl _) _
theorem does_start (w : World) (o1 o2 o3 : Obj) : Below w.heap.size w (((w.alloc o1).alloc o2).alloc o3) ∧ (((w.alloc o1).alloc o2).alloc o3).heap[w.heap.size]? = some o1 ∧ (((w.alloc o1).alloc o2).alloc o3).heap[w.heap.size + 1]? = some o2 ∧ (((w.alloc o1).alloc o2).alloc o3).heap[w.heap.size + 1 + 1]? = some o3 ∧ w.heap.size + 3 ≤ (((w.alloc o1).alloc o2).alloc o3).heap.size := by
 have h3 := World.alloc_heap_new ((w.alloc o1).alloc o2) o3
 rw [World.size_alloc, World.size_alloc] at h3
 exact ⟨(below2 w o1 o2).alloc (below2 w o1 o2).size _, (Step.alloc (fun _ => False) _ _).block (new1of2 w o1 o2) (fun h => h), (Step.alloc (fun _ => False) _ _).block (new2 w o1 o2) (fun h => h), h3, by simp⟩
theorem burn_fuse {off : Bool} {fuse : Int} (h : -1 ≤ fuse) (h2 : fuse ≤ 9223372036854775807) : -1 ≤ (burnP off fuse).2.1 ∧ (burnP off fuse).2.1 ≤ 9223372036854775807 := by
 unfold burnP
 split
 ·exact ⟨by show (-1 : Int) ≤ 0; omega, by show (0 : Int) ≤ 9223372036854775807; omega⟩
 ·split
  ·exact ⟨by show (-1 : Int) ≤ fuse - 1; omega, by show fuse - 1 ≤ (9223372036854775807 : Int); omega⟩
  ·exact ⟨h, h2⟩
theorem writeP_ok {xs : List ByteArray} {F : FL} {B : BL} {off : Bool} {fuse nw at_ : Int} {s : ByteArray} (h : DevOk xs F B fuse) (hn : NodupK F) :
  DevOk xs (writeP xs.length F off fuse nw at_ s).1 B (writeP xs.length F off fuse nw at_ s).2.2.1 ∧ NodupK (writeP xs.length F off fuse nw at_ s).1 := by
 obtain ⟨o1, o2, o3, o4, o5, o6, o7, o8, o9⟩ := h
 have hb := burn_fuse (off := off) o8 o9
 unfold writeP
 by_cases h0 : reachP xs.length off at_ ≠ 0
 ·rw [if_pos h0]; exact ⟨⟨o1, o2, o3, o4, o5, o6, o7, o8, o9⟩, hn⟩
 rw [if_neg h0]
 obtain ⟨_, p1, p2⟩ := reach_ok (by simpa using h0)
 by_cases h1 : s.size ≠ 512
 ·rw [if_pos h1]; exact ⟨⟨o1, o2, o3, o4, o5, o6, o7, o8, o9⟩, hn⟩
 rw [if_neg h1]
 by_cases h2 : (burnP off fuse).2.2 ≠ 0
 ·rw [if_pos h2]; exact ⟨⟨o1, o2, o3, o4, o5, o6, o7, hb⟩, hn⟩
 rw [if_neg h2]
 have hF : ∀ q ∈ putL at_ s F, 0 ≤ q.1 ∧ q.1 < (xs.length : Int) ∧ q.2.size = 512 := fun q hq => by
  rcases mem_putL hq with rfl | hq
  ·exact ⟨p1, p2, by show s.size = 512; omega⟩
  ·exact o4 q hq
 exact ⟨⟨o1, o2, o3, hF, o5, keys_below (putL_nodup hn) (fun q hq => ⟨(hF q hq).1, (hF q hq).2.1⟩), o7, hb⟩, putL_nodup hn⟩
theorem ref_WriteR {xs : List ByteArray} {B : BL} {r : WrS} {f0 : Int} {s : ByteArray} {k : Nat} (hok : DevOk xs r.F B r.fuse) (w : World) (v : Value) (h : RefAt w v xs r.F B) :
  Calls Tryd.prog 55 #[.agg #[v, .bool r.off, .int .i64 r.fuse, .int .i64 r.nw], .int .i64 (f0 + (k : Int)), .string (s.extract (512 * k) (512 * k + 512))] w fun e w' => ∃ A3 c3, e = .returned (.tuple #[.agg #[.slice A3 xs.length c3, .bool (wr1 xs.length f0 s k r).off, .int .i64 (wr1 xs.length f0 s k r).fuse, .int .i64 (wr1 xs.length f0 s k r).nw], .int .i64 (wr1 xs.length f0 s k r).e]) ∧ RefAt w' (.slice A3 xs.length c3) xs (wr1 xs.length f0 s k r).F B ∧ Below w.heap.size w w' := by
 refine (ref_Write w v xs r.F B r.off r.fuse r.nw (f0 + (k : Int)) (s.extract (512 * k) (512 * k + 512)) h hok).mono ?_
 rintro e w' ⟨v', rfl, hR, hb⟩
 obtain ⟨A, c, rfl, _⟩ := hR.reads
 exact ⟨A, c, rfl, hR, hb⟩
set_option maxRecDepth 100000 in
set_option maxHeartbeats 8000000 in
theorem ref_Write_all (w : World) (v : Value) (xs : List ByteArray) (F : FL) (B : BL) (off : Bool) (left nw : Int) (sh gk gm C at_ : Int) (s : ByteArray) (h : RefAt w v xs F B) (hok : DevOk xs F B left) (hnF : NodupK F) (R : WrS) (hR : R = writeA xs.length ⟨F, off, left, nw, 0⟩ sh gk gm C at_ s) :
  Calls Tryd.prog 31 #[.agg #[v, .bool off, .int .i64 left, .int .i64 nw], geoV sh gk gm C, .int .i64 at_, .string s] w fun e w' => ∃ A3 c3, e = .returned (.tuple #[.agg #[.slice A3 xs.length c3, .bool R.off, .int .i64 R.fuse, .int .i64 R.nw], .int .i64 R.e]) ∧ RefAt w' (.slice A3 xs.length c3) xs R.F B ∧ Below w.heap.size w w' := by
 have hu23 := Tryd.underlying23
 have hu41 := Tryd.underlying41
 obtain ⟨A, c, rfl, _⟩ := h.reads
 unfold writeA at hR
 have hFst := fun W => ref_First_any sh gk gm C at_ W
 obtain ⟨hB0, m0, m1, m2, hsz0⟩ := does_start w (.cells #[.slice A xs.length c, .bool off, .int .i64 left, .int .i64 nw] 41) (.cells #[.int .i64 sh, .int .i64 gk, .int .i64 gm, .int .i64 C] 23) (.cells #[.slice none 0 0, .bool false, .int .i64 0, .int .i64 0] 41)
 by_cases h0 : (firstP sh gk gm C at_).2 ≠ 0
 ·have hz : ((firstP sh gk gm C at_).2 != 0) = true := by simpa using h0
  rw [if_pos h0] at hR
  subst hR
  dsimp only
  go_enter Tryd.func31, Tryd.ntmps31
  go_wp2_with (first
   | (go_at_call 54; with_reducible refine (hFst _).mono ?_; rintro e w1 ⟨rfl, hb1⟩; have p0 := Stepb hb1 m0; have p2 := Stepb hb1 m2; obtain ⟨⟨a0, a1, a2, a3⟩, _⟩ := blk4 p0; obtain ⟨⟨b0, b1, b2, b3⟩, q0, q1, q2, q3⟩ := blk4 p2; have hB1 := hB0.trans (hb1.mono hB0.size)))
  refine bodyPost_ret (results_ct rfl _ _ (w.heap.size + 1 + 1) 41 _ (0, 0) _ rfl (put4 p2 _ _ _ _) Tryd.underlying41 rfl (by kernel_rfl)) rfl ?_
  exact ⟨_, _, rfl, ref_put4 (h.below hB1) p2 _ _ _ _, below_put4 hB1 (by omega) _ _ _ _⟩
 ·rw [if_neg h0] at hR
  obtain ⟨hg, ha, hb⟩ := firstP_ok (by simpa using h0)
  have hF : firstP sh gk gm C at_ = (at_ * (nS sh : Int), 0) := by rw [firstP, if_pos hg, if_pos ⟨ha, hb⟩]
  rw [hF] at hFst
  have hSz : ∀ W, Calls Tryd.prog 53 #[.agg #[.int .i64 sh, .int .i64 gk, .int .i64 gm, .int .i64 C]] W fun e w' => e = .returned (.int .i64 (512 * (nS sh : Int))) ∧ Below W.heap.size W w' := fun W => by
   have := ref_Size_any sh gk gm C W
   rw [sizeP, if_pos hg] at this
   exact this
  have hn1 := nS_pos sh
  have hn2 := nS_le hg.2.1
  have hf1 : 0 ≤ at_ * (nS sh : Int) := Int.mul_nonneg ha (Int.natCast_nonneg _)
  have hf3 : at_ * (nS sh : Int) ≤ 524288 := by
   have h1 := Int.mul_le_mul_of_nonneg_right (show at_ ≤ 4096 by have := hg.2.2.2.2.2.2.2.1; omega) (Int.natCast_nonneg (nS sh))
   have h2 := Int.mul_le_mul_of_nonneg_left (show (nS sh : Int) ≤ 128 by omega) (show (0 : Int) ≤ 4096 by omega)
   omega
  clear hF h0 hg ha hb
  generalize at_ * (nS sh : Int) = f0 at *
  generalize nS sh = n at *
  by_cases hs : s.size ≠ 512 * n
  ·have hne : ((s.size : Int) != 512 * (n : Int)) = true := by simp; omega
   rw [if_pos hs] at hR
   subst hR
   dsimp only
   go_enter Tryd.func31, Tryd.ntmps31
   go_wp2_with (first
    | (go_at_call 54; with_reducible refine (hFst _).mono ?_; rintro e w1 ⟨rfl, hb1⟩; have p0 := Stepb hb1 m0; have p1 := Stepb hb1 m1; have p2 := Stepb hb1 m2; obtain ⟨⟨d0, d1, d2, d3⟩, _⟩ := blk4 p1; have hB1 := hB0.trans (hb1.mono hB0.size))
    | (go_at_call 53; with_reducible refine (hSz _).mono ?_; rintro e w2 ⟨rfl, hb2⟩; have u0 := Stepb hb2 p0; have u2 := Stepb hb2 p2; obtain ⟨⟨a0, a1, a2, a3⟩, _⟩ := blk4 u0; obtain ⟨⟨b0, b1, b2, b3⟩, q0, q1, q2, q3⟩ := blk4 u2; have hB2 := hB1.trans (hb2.mono hB1.size)))
   refine bodyPost_ret (results_ct rfl _ _ (w.heap.size + 1 + 1) 41 _ (0, 0) _ rfl (put4 u2 _ _ _ _) Tryd.underlying41 rfl (by kernel_rfl)) rfl ?_
   exact ⟨_, _, rfl, ref_put4 (h.below hB2) u2 _ _ _ _, below_put4 hB2 (by omega) _ _ _ _⟩
  rw [if_neg hs] at hR
  have hs : s.size = 512 * n := by omega
  have hne : ((s.size : Int) != 512 * (n : Int)) = false := by rw [hs]; simp
  dsimp only at hR
  go_enter Tryd.func31, Tryd.ntmps31
  go_wp2_with (first
   | (go_at_call 54; with_reducible refine (hFst _).mono ?_; rintro e w1 ⟨rfl, hb1⟩; have p0 := Stepb hb1 m0; have p1 := Stepb hb1 m1; have p2 := Stepb hb1 m2; obtain ⟨⟨d0, d1, d2, d3⟩, _⟩ := blk4 p1; have hB1 := hB0.trans (hb1.mono hB0.size))
   | (go_at_call 53; with_reducible refine (hSz _).mono ?_; rintro e w2 ⟨rfl, hb2⟩; have u0 := Stepb hb2 p0; have u1 := Stepb hb2 p1; have u2 := Stepb hb2 p2; have hB2 := hB1.trans (hb2.mono hB1.size); have hz2 := Nat.le_trans hsz0 (Nat.le_trans hb1.size hb2.size)))
  clear d0 d1 d2 d3 p0 p1 p2 m0 m1 m2
  go_loopw [12] (fun t12 wr => ∃ (k : Nat) (A : Option Addr) (c : Nat) (r : WrS), k ≤ n ∧ t12 = .int .i64 k ∧ r = wrK xs.length f0 s ⟨F, off, left, nw, 0⟩ k ∧ r.e = 0 ∧ wr.heap[w.heap.size]? = some (.cells #[.slice A xs.length c, .bool r.off, .int .i64 r.fuse, .int .i64 r.nw] 41 (0, 0)) ∧ wr.heap[w.heap.size + 1]? = some (.cells #[.int .i64 sh, .int .i64 gk, .int .i64 gm, .int .i64 C] 23 (0, 0)) ∧ wr.heap[w.heap.size + 1 + 1]? = some (.cells #[.slice none 0 0, .bool false, .int .i64 0, .int .i64 0] 41 (0, 0)) ∧ RefAt wr (.slice A xs.length c) xs r.F B ∧ DevOk xs r.F B r.fuse ∧ NodupK r.F ∧ Below w.heap.size w wr ∧ w.heap.size + 3 ≤ wr.heap.size) (fun t12 _ => n - (intOf t12).toNat)
  case atStart => exact ⟨0, A, c, _, Nat.zero_le _, rfl, rfl, rfl, u0, u1, u2, h.below hB2, hok, hnF, hB2, hz2⟩
  case round =>
   clear u0 u1 u2 hB2 hz2 h hok hnF
   obtain ⟨k, A, c, r, hk, rfl, hrk, hre, s0, s1, s2, hR3, hok, hnF, hB3, hsz⟩ := hrel
   obtain ⟨⟨a0, a1, a2, a3⟩, g0, g1, g2, g3⟩ := blk4 s0
   by_cases hkl : k < n
   ·have hkI : (k : Int) < (n : Int) := by omega
    have hk1 : wrK xs.length f0 s ⟨F, off, left, nw, 0⟩ (k + 1) = wr1 xs.length f0 s k r := by rw [wrK, ← hrk, if_pos hre]
    have hok1 := writeP_ok (off := r.off) (nw := r.nw) (at_ := f0 + (k : Int)) (s := s.extract (512 * k) (512 * k + 512)) hok hnF
    replace hok1 : DevOk xs (wr1 xs.length f0 s k r).F B (wr1 xs.length f0 s k r).fuse ∧ NodupK (wr1 xs.length f0 s k r).F := hok1
    have hWr : ∀ W, RefAt W (.slice A xs.length c) xs r.F B → Calls Tryd.prog 55 #[.agg #[.slice A xs.length c, .bool r.off, .int .i64 r.fuse, .int .i64 r.nw], .int .i64 (wrap64 (f0 + (k : Int))), .string (s.extract (512 * k) (512 * k + 512))] W fun e w' => ∃ A3 c3, e = .returned (.tuple #[.agg #[.slice A3 xs.length c3, .bool (wr1 xs.length f0 s k r).off, .int .i64 (wr1 xs.length f0 s k r).fuse, .int .i64 (wr1 xs.length f0 s k r).nw], .int .i64 (wr1 xs.length f0 s k r).e]) ∧ RefAt w' (.slice A3 xs.length c3) xs (wr1 xs.length f0 s k r).F B ∧ Below W.heap.size W w' := by
     rw [wrap64_id (by omega) (by omega)]
     exact fun W hW => ref_WriteR hok W _ hW
    generalize wr1 xs.length f0 s k r = r1 at hk1 hWr hok1
    clear hrk
    have hsl : ∀ w' : World, (Instr.slice 9 (.string s) (some (.int .i64 (wrap64 (512 * (k : Int))))) (some (.int .i64 (wrap64 (512 * wrap64 ((k : Int) + 1))))) none).run Tryd.prog w' = .ok (.string (s.extract (512 * k) (512 * k + 512))) w' := by
     intro w'
     have e1 : ((512 * (k : Int)).toNat) = 512 * k := by omega
     have e2 : ((512 * ((k : Int) + 1)).toNat) = 512 * k + 512 := by omega
     rw [wrap64_id (x := (k : Int) + 1) (by omega) (by omega), wrap64_id (by omega) (by omega), wrap64_id (by omega) (by omega)]
     have := run_slice_lh w' s (512 * (k : Int)) (512 * ((k : Int) + 1)) (by omega) (by omega) (by omega)
     rw [e1, e2] at this
     exact this
    go_upto_region 9 with (fail)
    try simp only [List.append_eq, List.cons_append, List.nil_append]
    have hb3 := below_drew1 (Below.refl wr.heap.size wr)
    replace hR3 := hR3.below hb3
    replace s0 := Stepb hb3 s0
    replace s1 := Stepb hb3 s1
    replace s2 := Stepb hb3 s2
    replace hB3 := hB3.trans (hb3.mono hB3.size)
    replace hsz := Nat.le_trans hsz hb3.size
    clear hb3
    refine start_ (n := 18) (S := fun w' => w'.cell? ⟨w.heap.size, 0, none⟩ = some (.slice A xs.length c) ∧ w'.cell? ⟨w.heap.size, 1, none⟩ = some (.bool r.off) ∧ w'.cell? ⟨w.heap.size, 2, none⟩ = some (.int .i64 r.fuse) ∧ w'.cell? ⟨w.heap.size, 3, none⟩ = some (.int .i64 r.nw)) (ds := [16]) #[false, false, false, false, false, false, false, false, false, false, false, false, false, false, false, false, false, false] (by kernel_rfl) rfl rfl ⟨a0, a1, a2, a3⟩ (fun hHeld => ?_)
    generalize wr.drew = w3 at hHeld hR3 s0 s1 s2 hB3 hsz ⊢
    refine pure_ (i := 1) (N := some 40) (v := ?_) (a' := ?_) #[false, true, false, false, false, false, false, false, false, false, false, false, false, false, false, false, false, false] rfl rfl (by kernel_rfl) (fun _ _ _ h => h) (Or.inl ⟨by rfl, ?_⟩) ?_ ?_
    rotate_left
    ·intro w'
     go_simp
     with_reducible rfl
    rotate_left
    ·simp only [Act.put, List.setIfInBounds_toArray, List.set_cons_zero, List.set_cons_succ, i64_w, i32_w]
     rfl
    refine pure_ (i := 2) (N := some 41) (v := ?_) (a' := ?_) #[false, true, true, false, false, false, false, false, false, false, false, false, false, false, false, false, false, false] rfl rfl (by kernel_rfl) (fun _ _ _ h => h) (Or.inl ⟨by rfl, ?_⟩) ?_ ?_
    rotate_left
    ·intro w'
     go_simp
     with_reducible rfl
    rotate_left
    ·simp only [Act.put, List.setIfInBounds_toArray, List.set_cons_zero, List.set_cons_succ, i64_w, i32_w]
     rfl
    refine pure_ (i := 3) (N := some 42) (v := ?_) (a' := ?_) #[false, true, true, true, false, false, false, false, false, false, false, false, false, false, false, false, false, false] rfl rfl (by kernel_rfl) (fun _ _ _ h => h) (Or.inl ⟨by rfl, ?_⟩) ?_ ?_
    rotate_left
    ·intro w'
     go_simp
     with_reducible rfl
    rotate_left
    ·simp only [Act.put, List.setIfInBounds_toArray, List.set_cons_zero, List.set_cons_succ, i64_w, i32_w]
     rfl
    refine pure_ (i := 4) (N := some 43) (v := ?_) (a' := ?_) #[false, true, true, true, true, false, false, false, false, false, false, false, false, false, false, false, false, false] rfl rfl (by kernel_rfl) (fun _ _ _ h => h) (Or.inl ⟨by rfl, ?_⟩) ?_ ?_
    rotate_left
    ·intro w'
     go_simp
     with_reducible rfl
    rotate_left
    ·simp only [Act.put, List.setIfInBounds_toArray, List.set_cons_zero, List.set_cons_succ, i64_w, i32_w]
     rfl
    refine pure_ (i := 5) (N := some 44) (v := ?_) (a' := ?_) #[false, true, true, true, true, true, false, false, false, false, false, false, false, false, false, false, false, false] rfl rfl (by kernel_rfl) (fun _ _ _ h => h) (Or.inl ⟨by rfl, ?_⟩) ?_ ?_
    rotate_left
    ·intro w'
     go_simp
     with_reducible rfl
    rotate_left
    ·simp only [Act.put, List.setIfInBounds_toArray, List.set_cons_zero, List.set_cons_succ, i64_w, i32_w]
     rfl
    refine pure_ (i := 6) (N := some 45) (v := ?_) (a' := ?_) #[false, true, true, true, true, true, true, false, false, false, false, false, false, false, false, false, false, false] rfl rfl (by kernel_rfl) (fun _ _ _ h => h) (Or.inl ⟨by rfl, ?_⟩) ?_ ?_
    rotate_left
    ·intro w'
     go_simp
     with_reducible rfl
    rotate_left
    ·simp only [Act.put, List.setIfInBounds_toArray, List.set_cons_zero, List.set_cons_succ, i64_w, i32_w]
     rfl
    refine pure_ (i := 7) (N := some 46) (v := ?_) (a' := ?_) #[false, true, true, true, true, true, true, true, false, false, false, false, false, false, false, false, false, false] rfl rfl (by kernel_rfl) (fun _ _ _ h => h) (Or.inl ⟨by rfl, ?_⟩) ?_ ?_
    rotate_left
    ·intro w'
     go_simp
     with_reducible rfl
    rotate_left
    ·simp only [Act.put, List.setIfInBounds_toArray, List.set_cons_zero, List.set_cons_succ, i64_w, i32_w]
     rfl
    refine pure_ (i := 8) (N := some 47) (v := ?_) (a' := ?_) #[false, true, true, true, true, true, true, true, true, false, false, false, false, false, false, false, false, false] rfl rfl (by kernel_rfl) (fun _ _ _ h => h) (Or.inl ⟨by rfl, ?_⟩) ?_ ?_
    rotate_left
    ·intro w'
     go_simp
     with_reducible rfl
    rotate_left
    ·simp only [Act.put, List.setIfInBounds_toArray, List.set_cons_zero, List.set_cons_succ, i64_w, i32_w]
     rfl
    refine pure_ (i := 9) (N := some 48) (v := ?_) (a' := ?_) #[false, true, true, true, true, true, true, true, true, true, false, false, false, false, false, false, false, false] rfl rfl (by kernel_rfl) (fun _ _ _ h => h) (Or.inl ⟨by rfl, ?_⟩) ?_ ?_
    rotate_left
    ·intro w'
     go_simp
     with_reducible rfl
    rotate_left
    ·simp only [Act.put, List.setIfInBounds_toArray, List.set_cons_zero, List.set_cons_succ, i64_w, i32_w]
     rfl
    refine pure_ (i := 10) (N := some 49) (v := ?_) (a' := ?_) #[false, true, true, true, true, true, true, true, true, true, true, false, false, false, false, false, false, false] rfl rfl (by kernel_rfl) (fun _ _ _ h => h) (Or.inl ⟨by rfl, ?_⟩) ?_ ?_
    rotate_left
    ·intro w'
     go_simp
     with_reducible rfl
    rotate_left
    ·simp only [Act.put, List.setIfInBounds_toArray, List.set_cons_zero, List.set_cons_succ, i64_w, i32_w]
     rfl
    refine take_ (i := 0) (N := some 39) (v := ?_) (a' := ?_) #[true, true, true, true, true, true, true, true, true, true, true, false, false, false, false, false, false, false] rfl rfl (by kernel_rfl) (fun _ _ _ h => h) (Or.inl ⟨by rfl, ?_⟩) hHeld ?_ ?_
    rotate_left
    ·rintro w' ⟨s0, s1, s2, s3⟩
     go_simp
     with_reducible rfl
    rotate_left
    ·simp only [Act.put, List.setIfInBounds_toArray, List.set_cons_zero, List.set_cons_succ, i64_w, i32_w]
     rfl
    refine join_ (σ := Option Addr × Nat × Nat) 2 #[true, true, true, true, true, true, true, true, true, true, true, true, true, true, true, true, false, false] (fun s => [(50, .tuple #[.agg #[.slice s.1 xs.length s.2.1, .bool r1.off, .int .i64 r1.fuse, .int .i64 r1.nw], .int .i64 r1.e]), (38, .tuple #[.agg #[.slice s.1 xs.length s.2.1, .bool r1.off, .int .i64 r1.fuse, .int .i64 r1.nw], .int .i64 r1.e]), (51, .agg #[.slice s.1 xs.length s.2.1, .bool r1.off, .int .i64 r1.fuse, .int .i64 r1.nw]), (52, .int .i64 r1.e), (13, .pointer (some ⟨s.2.2, 0, none⟩))]) (fun s w' => (w'.cell? ⟨w.heap.size, 0, none⟩ = some (.slice A xs.length c) ∧ w'.cell? ⟨w.heap.size, 1, none⟩ = some (.bool r.off) ∧ w'.cell? ⟨w.heap.size, 2, none⟩ = some (.int .i64 r.fuse) ∧ w'.cell? ⟨w.heap.size, 3, none⟩ = some (.int .i64 r.nw)) ∧ RefAt w' (.slice s.1 xs.length s.2.1) xs r1.F B ∧ w'.heap[w.heap.size]? = some (.cells #[.slice A xs.length c, .bool r.off, .int .i64 r.fuse, .int .i64 r.nw] 41 (0, 0)) ∧ w'.heap[w.heap.size + 1]? = some (.cells #[.int .i64 sh, .int .i64 gk, .int .i64 gm, .int .i64 C] 23 (0, 0)) ∧ w'.heap[w.heap.size + 1 + 1]? = some (.cells #[.slice none 0 0, .bool false, .int .i64 0, .int .i64 0] 41 (0, 0)) ∧ Below w.heap.size w w' ∧ w.heap.size + 3 ≤ w'.heap.size ∧ w'.heap[s.2.2]? = some (.cells #[.slice none 0 0, .bool false, .int .i64 0, .int .i64 0] 41 (0, 0)) ∧ w.heap.size + 3 ≤ s.2.2) ?_ ?_
    rotate_left
    ·intro hCont
     refine two_ (i := 11) (j := 15) (Ni := some 50) (Nj := some 13) #[true, true, true, true, true, true, true, true, true, true, true, true, false, false, false, false, false, false] #[true, true, true, true, true, true, true, true, true, true, true, false, false, false, false, true, false, false] rfl rfl rfl rfl (by kernel_rfl) (by decide) (by decide) (fun K hK => ?_) (fun K hK => ?_)
     ·skip
      refine goes_ Tryd.func55 (by kernel_rfl) rfl #[.agg #[.slice A xs.length c, .bool r.off, .int .i64 r.fuse, .int .i64 r.nw], .int .i64 (wrap64 (f0 + (k : Int))), .string (s.extract (512 * k) (512 * k + 512))] (by rfl) rfl rfl (by simp only [List.map_toArray, List.map_cons, List.map_nil]; rfl) ?_
      with_reducible refine (hWr _ hR3).mono ?_
      rintro e w3 ⟨A3, c3, rfl, hR4, hb3⟩
      refine ⟨_, rfl, ?_⟩
      replace hR3 := hR4
      replace s0 := Stepb hb3 s0
      replace s1 := Stepb hb3 s1
      replace s2 := Stepb hb3 s2
      replace hB3 := hB3.trans (hb3.mono hB3.size)
      replace hsz := Nat.le_trans hsz hb3.size
      refine hK.out _ _ ⟨pw_cell_below hb3 hHeld.1, pw_cell_below hb3 hHeld.2.1, pw_cell_below hb3 hHeld.2.2.1, pw_cell_below hb3 hHeld.2.2.2⟩ (fun hHeld => ?_)
      clear hK K
      refine norm_ (a' := ?_) ?_ ?_
      rotate_left
      ·show Act.put _ (some 50) _ = _
       simp only [Act.put, List.setIfInBounds_toArray, List.set_cons_zero, List.set_cons_succ, i64_w, i32_w]
       rfl
      refine pure_ (i := 12) (N := some 38) (v := ?_) (a' := ?_) #[true, true, true, true, true, true, true, true, true, true, true, true, true, false, false, false, false, false] rfl rfl (by kernel_rfl) (fun _ _ _ h => h) (Or.inl ⟨by rfl, ?_⟩) ?_ ?_
      rotate_left
      ·intro w'
       go_simp
       with_reducible rfl
      rotate_left
      ·simp only [Act.put, List.setIfInBounds_toArray, List.set_cons_zero, List.set_cons_succ, i64_w, i32_w]
       rfl
      refine pure_ (i := 13) (N := some 51) (v := ?_) (a' := ?_) #[true, true, true, true, true, true, true, true, true, true, true, true, true, true, false, false, false, false] rfl rfl (by kernel_rfl) (fun _ _ _ h => h) (Or.inl ⟨by rfl, ?_⟩) ?_ ?_
      rotate_left
      ·intro w'
       go_simp
       with_reducible rfl
      rotate_left
      ·simp only [Act.put, List.setIfInBounds_toArray, List.set_cons_zero, List.set_cons_succ, i64_w, i32_w]
       rfl
      refine pure_ (i := 14) (N := some 52) (v := ?_) (a' := ?_) #[true, true, true, true, true, true, true, true, true, true, true, true, true, true, true, false, false, false] rfl rfl (by kernel_rfl) (fun _ _ _ h => h) (Or.inl ⟨by rfl, ?_⟩) ?_ ?_
      rotate_left
      ·intro w'
       go_simp
       with_reducible rfl
      rotate_left
      ·simp only [Act.put, List.setIfInBounds_toArray, List.set_cons_zero, List.set_cons_succ, i64_w, i32_w]
       rfl
      refine one_ (i := 15) (N := some 13) #[true, true, true, true, true, true, true, true, true, true, true, true, true, true, true, true, false, false] rfl rfl (by kernel_rfl) (by decide) (fun K hK => ?_)
      refine value_ (w1 := ?_) (v := ?_) (by rfl) rfl ?_ ?_
      rotate_left 2
      ·go_simp
       constructor
       ·rfl
       ·rfl
      have hb3 := below41 w3
      have hz8 := World.alloc_heap_new w3 (.cells #[.slice none 0 0, .bool false, .int .i64 0, .int .i64 0] 41)
      have hT8 := hsz
      generalize w3.heap.size = g8 at hz8 hT8 ⊢
      generalize w3.alloc (.cells #[.slice none 0 0, .bool false, .int .i64 0, .int .i64 0] 41) = w4 at hb3 hz8 ⊢
      replace hR3 := hR3.below hb3
      replace s0 := Stepb hb3 s0
      replace s1 := Stepb hb3 s1
      replace s2 := Stepb hb3 s2
      replace hB3 := hB3.trans (hb3.mono hB3.size)
      replace hsz := Nat.le_trans hsz hb3.size
      refine hK.out _ _ ⟨pw_cell_below hb3 hHeld.1, pw_cell_below hb3 hHeld.2.1, pw_cell_below hb3 hHeld.2.2.1, pw_cell_below hb3 hHeld.2.2.2⟩ (fun hHeld => ?_)
      clear hK K
      refine norm_ (a' := ?_) ?_ ?_
      rotate_left
      ·show Act.put _ (some 13) _ = _
       simp only [Act.put, List.setIfInBounds_toArray, List.set_cons_zero, List.set_cons_succ, i64_w, i32_w]
       rfl
      exact norm_ (by first | (simp only [putAll, Act.put, List.setIfInBounds_toArray, List.set_cons_zero, List.set_cons_succ]; done) | (simp only [putAll, Act.put, List.setIfInBounds_toArray, List.set_cons_zero, List.set_cons_succ]; rfl)) (hCont (A3, c3, g8) _ ⟨hHeld, hR3, s0, s1, s2, hB3, hsz, hz8, hT8⟩)
     ·skip
      refine value_ (w1 := ?_) (v := ?_) (by rfl) rfl ?_ ?_
      rotate_left 2
      ·go_simp
       constructor
       ·rfl
       ·rfl
      have hb3 := below41 w3
      have hz8 := World.alloc_heap_new w3 (.cells #[.slice none 0 0, .bool false, .int .i64 0, .int .i64 0] 41)
      have hT8 := hsz
      generalize w3.heap.size = g8 at hz8 hT8 ⊢
      generalize w3.alloc (.cells #[.slice none 0 0, .bool false, .int .i64 0, .int .i64 0] 41) = w4 at hb3 hz8 ⊢
      replace hR3 := hR3.below hb3
      replace s0 := Stepb hb3 s0
      replace s1 := Stepb hb3 s1
      replace s2 := Stepb hb3 s2
      replace hB3 := hB3.trans (hb3.mono hB3.size)
      replace hsz := Nat.le_trans hsz hb3.size
      refine hK.out _ _ ⟨pw_cell_below hb3 hHeld.1, pw_cell_below hb3 hHeld.2.1, pw_cell_below hb3 hHeld.2.2.1, pw_cell_below hb3 hHeld.2.2.2⟩ (fun hHeld => ?_)
      clear hK K
      refine norm_ (a' := ?_) ?_ ?_
      rotate_left
      ·show Act.put _ (some 13) _ = _
       simp only [Act.put, List.setIfInBounds_toArray, List.set_cons_zero, List.set_cons_succ, i64_w, i32_w]
       rfl
      refine one_ (i := 11) (N := some 50) #[true, true, true, true, true, true, true, true, true, true, true, true, false, false, false, true, false, false] rfl rfl (by kernel_rfl) (by decide) (fun K hK => ?_)
      refine goes_ Tryd.func55 (by kernel_rfl) rfl #[.agg #[.slice A xs.length c, .bool r.off, .int .i64 r.fuse, .int .i64 r.nw], .int .i64 (wrap64 (f0 + (k : Int))), .string (s.extract (512 * k) (512 * k + 512))] (by rfl) rfl rfl (by simp only [List.map_toArray, List.map_cons, List.map_nil]; rfl) ?_
      with_reducible refine (hWr _ hR3).mono ?_
      rintro e w3 ⟨A3, c3, rfl, hR4, hb3⟩
      refine ⟨_, rfl, ?_⟩
      replace hR3 := hR4
      replace s0 := Stepb hb3 s0
      replace s1 := Stepb hb3 s1
      replace s2 := Stepb hb3 s2
      replace hB3 := hB3.trans (hb3.mono hB3.size)
      replace hsz := Nat.le_trans hsz hb3.size
      replace hz8 := Stepb hb3 hz8
      refine hK.out _ _ ⟨pw_cell_below hb3 hHeld.1, pw_cell_below hb3 hHeld.2.1, pw_cell_below hb3 hHeld.2.2.1, pw_cell_below hb3 hHeld.2.2.2⟩ (fun hHeld => ?_)
      clear hK K
      refine norm_ (a' := ?_) ?_ ?_
      rotate_left
      ·show Act.put _ (some 50) _ = _
       simp only [Act.put, List.setIfInBounds_toArray, List.set_cons_zero, List.set_cons_succ, i64_w, i32_w]
       rfl
      refine pure_ (i := 12) (N := some 38) (v := ?_) (a' := ?_) #[true, true, true, true, true, true, true, true, true, true, true, true, true, false, false, true, false, false] rfl rfl (by kernel_rfl) (fun _ _ _ h => h) (Or.inl ⟨by rfl, ?_⟩) ?_ ?_
      rotate_left
      ·intro w'
       go_simp
       with_reducible rfl
      rotate_left
      ·simp only [Act.put, List.setIfInBounds_toArray, List.set_cons_zero, List.set_cons_succ, i64_w, i32_w]
       rfl
      refine pure_ (i := 13) (N := some 51) (v := ?_) (a' := ?_) #[true, true, true, true, true, true, true, true, true, true, true, true, true, true, false, true, false, false] rfl rfl (by kernel_rfl) (fun _ _ _ h => h) (Or.inl ⟨by rfl, ?_⟩) ?_ ?_
      rotate_left
      ·intro w'
       go_simp
       with_reducible rfl
      rotate_left
      ·simp only [Act.put, List.setIfInBounds_toArray, List.set_cons_zero, List.set_cons_succ, i64_w, i32_w]
       rfl
      refine pure_ (i := 14) (N := some 52) (v := ?_) (a' := ?_) #[true, true, true, true, true, true, true, true, true, true, true, true, true, true, true, true, false, false] rfl rfl (by kernel_rfl) (fun _ _ _ h => h) (Or.inl ⟨by rfl, ?_⟩) ?_ ?_
      rotate_left
      ·intro w'
       go_simp
       with_reducible rfl
      rotate_left
      ·simp only [Act.put, List.setIfInBounds_toArray, List.set_cons_zero, List.set_cons_succ, i64_w, i32_w]
       rfl
      exact norm_ (by first | (simp only [putAll, Act.put, List.setIfInBounds_toArray, List.set_cons_zero, List.set_cons_succ]; done) | (simp only [putAll, Act.put, List.setIfInBounds_toArray, List.set_cons_zero, List.set_cons_succ]; rfl)) (hCont (A3, c3, g8) _ ⟨hHeld, hR3, s0, s1, s2, hB3, hsz, hz8, hT8⟩)
    rintro ⟨A3, c3, g8⟩ w3 ⟨hHeld, hR3, s0, s1, s2, hB3, hsz, hz8, hT8⟩
    dsimp only at hR3 hz8 hT8
    refine norm_ (a' := ?_) ?_ ?_
    rotate_left
    ·simp only [putAll, Act.put, List.setIfInBounds_toArray, List.set_cons_zero, List.set_cons_succ]
     rfl
    refine last_ (i := 16) (N := none) #[true, true, true, true, true, true, true, true, true, true, true, true, true, true, true, true, true, false] rfl rfl (by kernel_rfl) (by decide) (fun K hK => ?_)
    obtain ⟨⟨z0, z1, z2, z3⟩, q0, q1, q2, q3⟩ := blk4 hz8
    refine skip_ (w1 := ?_) (by rfl) rfl ?_ ?_
    rotate_left
    ·go_simp
     rfl
    refine hK.out _ _ ?_
    clear hK K
    refine pure_ (i := 17) (N := some 14) (v := ?_) (a' := ?_) #[true, true, true, true, true, true, true, true, true, true, true, true, true, true, true, true, true, true] rfl rfl (by kernel_rfl) (fun _ _ _ h => h) (Or.inl ⟨by rfl, ?_⟩) ?_ ?_
    rotate_left
    ·intro w'
     go_simp
     with_reducible rfl
    rotate_left
    ·simp only [Act.put, List.setIfInBounds_toArray, List.set_cons_zero, List.set_cons_succ, i64_w, i32_w]
     rfl
    refine done_ (by kernel_rfl) ?_

    clear hHeld a0 a1 a2 a3 g0 g1 g2 g3
    have hst8 := step_put4 w3 g8 (.slice A3 xs.length c3) (.bool r1.off) (.int .i64 r1.fuse) (.int .i64 r1.nw)
    have hz9 := put4 hz8 (.slice A3 xs.length c3) (.bool r1.off) (.int .i64 r1.fuse) (.int .i64 r1.nw)
    replace hR3 := ref_put4 hR3 hz8 (.slice A3 xs.length c3) (.bool r1.off) (.int .i64 r1.fuse) (.int .i64 r1.nw)
    replace s0 := hst8.block s0 (fun e => by omega)
    replace s1 := hst8.block s1 (fun e => by omega)
    replace s2 := hst8.block s2 (fun e => by omega)
    replace hB3 := below_put4 hB3 (g := g8) (by omega) (.slice A3 xs.length c3) (.bool r1.off) (.int .i64 r1.fuse) (.int .i64 r1.nw)
    replace hsz := Nat.le_trans hsz hst8.size
    clear hz8 hst8
    generalize ((((w3.setCell ⟨g8, 0, none⟩ (.slice A3 xs.length c3)).setCell ⟨g8, 1, none⟩ (.bool r1.off)).setCell ⟨g8, 2, none⟩ (.int .i64 r1.fuse)).setCell ⟨g8, 3, none⟩ (.int .i64 r1.nw)) = W8 at hz9 hR3 s0 s1 s2 hB3 hsz ⊢
    obtain ⟨⟨y0, y1, y2, y3⟩, _⟩ := blk4 hz9
    obtain ⟨⟨a0, a1, a2, a3⟩, g0, g1, g2, g3⟩ := blk4 s0
    have hstb := step_put4 W8 w.heap.size (.slice A3 xs.length c3) (.bool r1.off) (.int .i64 r1.fuse) (.int .i64 r1.nw)
    have u0 := put4 s0 (.slice A3 xs.length c3) (.bool r1.off) (.int .i64 r1.fuse) (.int .i64 r1.nw)
    have u1 := hstb.block s1 (fun e => by omega)
    have u2 := hstb.block s2 (fun e => by omega)
    have hRb := ref_put4 hR3 s0 (.slice A3 xs.length c3) (.bool r1.off) (.int .i64 r1.fuse) (.int .i64 r1.nw)
    have hBb := below_put4 hB3 (g := w.heap.size) (Nat.le_refl _) (.slice A3 xs.length c3) (.bool r1.off) (.int .i64 r1.fuse) (.int .i64 r1.nw)
    have hzb := Nat.le_trans hsz hstb.size
    obtain ⟨⟨b0, b1, b2, b3⟩, q0, q1, q2, q3⟩ := blk4 u2
    obtain ⟨⟨d0, d1, d2, d3⟩, _⟩ := blk4 u0
    clear hz9 hstb s0 s1 s2 hB3 hsz hR3
    by_cases hz : r1.e = 0
    ·have hzz : (r1.e != 0) = false := by simpa using hz
     go_wp2
     exact ⟨⟨k + 1, A3, c3, r1, by omega, by simp, hk1.symm, hz, u0, u1, u2, hRb, hok1.1, hok1.2, hBb, hzb⟩, by simp [intOf]; omega⟩
    ·have hzz : (r1.e != 0) = true := by simpa using hz
     have hst := wrK_stop (k := k + 1) (n := xs.length) (f0 := f0) (s := s) (r := ⟨F, off, left, nw, 0⟩) (by rw [hk1]; exact hz) n (by omega)
     have hRr : R = r1 := hR.trans (hst.trans hk1)
     clear hst hk1 hR
     go_wp2
     refine bodyPost_ret (results_ct rfl _ _ (w.heap.size + 1 + 1) 41 _ (0, 0) _ rfl (put4 u2 _ _ _ _) Tryd.underlying41 rfl (by kernel_rfl)) rfl ?_
     rw [hRr]
     exact ⟨_, _, rfl, ref_put4 hRb u2 _ _ _ _, below_put4 hBb (by omega) _ _ _ _⟩
   ·have ek : k = n := by omega
    subst ek
    obtain ⟨⟨b0, b1, b2, b3⟩, q0, q1, q2, q3⟩ := blk4 s2
    have hRr : R = r := hR.trans hrk.symm
    clear hrk hR
    go_wp2
    refine bodyPost_ret (results_ct rfl _ _ (w.heap.size + 1 + 1) 41 _ (0, 0) _ rfl (put4 s2 _ _ _ _) Tryd.underlying41 rfl (by kernel_rfl)) rfl ?_
    rw [hRr, hre]
    exact ⟨_, _, rfl, ref_put4 hR3 s2 _ _ _ _, below_put4 hB3 (by omega) _ _ _ _⟩
end

end Go.Proofs.YtpbkcdodpjpoeaaDoor.HCP
