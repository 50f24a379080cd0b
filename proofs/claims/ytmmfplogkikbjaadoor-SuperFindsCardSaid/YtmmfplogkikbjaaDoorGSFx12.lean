/- a text of this claim -/
import Derived.Test.YtmmfplogkikbjaaDoorGSFx0
import Derived.Test.YtmmfplogkikbjaaDoorGSFx3
import Derived.Test.YtmmfplogkikbjaaDoorGSFx4
import Derived.Test.YtmmfplogkikbjaaDoorGSFx5
import Derived.Test.YtmmfplogkikbjaaDoorGSFx6
import Derived.Test.YtmmfplogkikbjaaDoorGSFx7
import Derived.Test.YtmmfplogkikbjaaDoorGSFx9
import Derived.Test.YtmmfplogkikbjaaDoorGSFx11
namespace Go.Proofs.YtmmfplogkikbjaaDoor.HSF
open Go.RowKit Go.Proofs.YtmmfplogkikbjaaDoorW.PrintWords Go.Proofs.YtmmfplogkikbjaaDoorW.PrintLast Go.Proofs.YtmmfplogkikbjaaDoorW.PrintMore
attribute [local go_sem] max2_int min2_int max_two min_two max_three min_three max_four min_four
set_option linter.unusedVariables false
set_option linter.unusedSimpArgs false
section
open Go Go.Shelf Go.Maps Go.Proofs.YtmmfplogkikbjaaDoor.Seq Go.Proofs.YtmmfplogkikbjaaDoor.MapL Go.Proofs.YtmmfplogkikbjaaDoorW.PrintLast
attribute [local go_sem] Oper.semAt_some max2_int min2_int max_two min_two
def stP : Nat := 2197175160
def stB (x : Nat) : Nat := (x >>> 1) ^^^ (if x % 2 = 1 then stP else 0)
theorem xm2 (a b : Nat) : (a ^^^ b) % 2 = (a + b) % 2 := by
 have h := Nat.testBit_xor (x := a) (y := b) (i := 0)
 simp only [Nat.testBit_zero] at h
 rcases Nat.mod_two_eq_zero_or_one a with ha | ha <;> rcases Nat.mod_two_eq_zero_or_one b with hb | hb <;> rcases Nat.mod_two_eq_zero_or_one (a ^^^ b) with hc | hc <;> simp [ha, hb, hc] at h <;> omega
theorem st_xor (a b : Nat) : stB (a ^^^ b) = stB a ^^^ stB b := by
 unfold stB
 rw [Nat.shiftRight_xor_distrib, xm2]
 rcases Nat.mod_two_eq_zero_or_one a with ha | ha <;> rcases Nat.mod_two_eq_zero_or_one b with hb | hb
 ·rw [if_neg (by omega), if_neg (by omega), if_neg (by omega)]; simp
 ·rw [if_pos (by omega), if_neg (by omega), if_pos hb]; simp [Nat.xor_assoc]
 ·rw [if_pos (by omega), if_pos ha, if_neg (by omega)]; simp only [Nat.xor_zero]; rw [Nat.xor_assoc, Nat.xor_comm (b >>> 1) stP, ← Nat.xor_assoc]
 ·rw [if_neg (by omega), if_pos ha, if_pos hb]
  simp only [Nat.xor_zero]
  rw [Nat.xor_assoc, ← Nat.xor_assoc stP, Nat.xor_comm stP (b >>> 1), Nat.xor_assoc, Nat.xor_self, Nat.xor_zero]
theorem split16 (x : Nat) : x = (16 * (x / 16)) ^^^ (x % 16) := by
 have h : (16 * (x / 16)) ^^^ (x % 16) = 16 * (x / 16) + x % 16 := by
  have := Nat.two_pow_add_eq_or_of_lt (i := 4) (b := x % 16) (by omega) (x / 16)
  rw [show (2 : Nat) ^ 4 = 16 from rfl] at this
  rw [this]
  apply Nat.eq_of_testBit_eq
  intro j
  simp only [Nat.testBit_xor, Nat.testBit_or]
  by_cases hj : j < 4
  ·have h1 : (16 * (x / 16)).testBit j = false := by
    rw [show 16 * (x / 16) = 2 ^ 4 * (x / 16) from rfl, Nat.testBit_two_pow_mul]
    simp; omega
   rw [h1]; simp
  ·have h2 : (x % 16).testBit j = false := Nat.testBit_lt_two_pow (Nat.lt_of_lt_of_le (show x % 16 < 2 ^ 4 by omega) (Nat.pow_le_pow_right (by omega) (by omega)))
   rw [h2]; simp
 omega
theorem st_even (h : Nat) : stB (2 * h) = h := by
 unfold stB
 rw [if_neg (by omega), Nat.xor_zero, Nat.shiftRight_eq_div_pow]
 omega
def tabN (l : Nat) : Nat := (tabL.getD l 0).toNat
theorem st4_low : ∀ l, l < 16 → stB (stB (stB (stB l))) = tabN l := by decide +kernel
theorem st4 (x : Nat) : stB (stB (stB (stB x))) = (x / 16) ^^^ tabN (x % 16) := by
 conv => lhs; rw [split16 x]
 have e := st4_low (x % 16) (by omega)
 rw [st_xor, st_xor, st_xor, st_xor, e]
 rw [show 16 * (x / 16) = 2 * (2 * (2 * (2 * (x / 16)))) by omega, st_even, st_even, st_even, st_even]
def serK (c : Nat) : Nat → Nat → Nat
 | 0, x => x
 | k + 1, x => if serK c k x % 2 = (c >>> k) % 2 then serK c k x >>> 1 else (serK c k x >>> 1) ^^^ stP
def stK : Nat → Nat → Nat
 | 0, x => x
 | k + 1, x => stB (stK k x)
theorem ser_st (c x : Nat) : ∀ k, stK k (x ^^^ c) = serK c k x ^^^ (c >>> k)
 | 0 => by simp [stK, serK]
 | k + 1 => by
  rw [stK, ser_st c x k, stB, serK, Nat.shiftRight_xor_distrib, xm2, Nat.shiftRight_add]
  rcases Nat.mod_two_eq_zero_or_one (serK c k x) with ha | ha <;> rcases Nat.mod_two_eq_zero_or_one (c >>> k) with hb | hb
  ·rw [if_neg (by omega), if_pos (by omega)]; simp
  ·rw [if_pos (by omega), if_neg (by omega)]; rw [Nat.xor_assoc, Nat.xor_comm _ stP, ← Nat.xor_assoc]
  ·rw [if_pos (by omega), if_neg (by omega)]; rw [Nat.xor_assoc, Nat.xor_comm _ stP, ← Nat.xor_assoc]
  ·rw [if_neg (by omega), if_pos (by omega)]; simp
theorem byte_ser (c x : Nat) (hc : c < 256) : serK c 8 x = stK 8 (x ^^^ c) := by
 rw [ser_st, Nat.shiftRight_eq_div_pow, Nat.div_eq_of_lt (by simpa using hc), Nat.xor_zero]
theorem xorN (a b : Nat) (ha : a < 4294967296) (hb : b < 4294967296) : Go.bits .xor .u32 (a : Int) (b : Int) = ((a ^^^ b : Nat) : Int) := by
 have hx : a ^^^ b < 2 ^ 32 := Nat.xor_lt_two_pow (by simpa using ha) (by simpa using hb)
 simp only [Go.bits, BitVec.ofInt_natCast, BitVec.toNat_xor, BitVec.toNat_ofNat]
 rw [IntKind.wrap_u32]
 have e1 : a % 2 ^ IntKind.u32.bits = a := Nat.mod_eq_of_lt ha
 have e2 : b % 2 ^ IntKind.u32.bits = b := Nat.mod_eq_of_lt hb
 rw [e1, e2]
 omega
theorem tabN_lt (l : Nat) (h : l < 16) : tabN l < 4294967296 := by
 have : ∀ l, l < 16 → tabN l < 4294967296 := by decide +kernel
 exact this l h
theorem tabN_eq (l : Nat) (h : l < 16) : tabG l = (tabN l : Int) := by
 have : ∀ l, l < 16 → tabG l = (tabN l : Int) := by decide +kernel
 exact this l h
theorem and15N (x : Nat) (h : x < 4294967296) : Go.bits .and .u32 (x : Int) 15 = ((x % 16 : Nat) : Int) := by
 have := bits_mask .u32 32 (by decide) (fun n a b => by rw [IntKind.wrap_u32]; omega) 4 (by decide) (x : Int) (by omega) (by omega)
 rw [show (2 : Int) ^ 4 - 1 = 15 by decide, show (2 : Int) ^ 4 = 16 by decide] at this
 rw [this]
 omega
theorem stK4_lt (x : Nat) (h : x < 4294967296) : stB (stB (stB (stB x))) < 4294967296 := by
 rw [st4]
 have h1 := tabN_lt (x % 16) (by omega)
 exact Nat.xor_lt_two_pow (n := 32) (by omega) (by simpa using h1)
theorem nibN (x : Nat) (h : x < 4294967296) : nib (x : Int) = ((stB (stB (stB (stB x))) : Nat) : Int) := by
 unfold nib
 rw [and15N x h, Int.toNat_natCast, tabN_eq _ (by omega), st4, ← xorN (x / 16) _ (by omega) (tabN_lt _ (by omega))]
 congr 1
theorem byteN (x : Nat) (b : UInt8) (h : x < 4294967296) : byteC (x : Int) b = ((serK b.toNat 8 x : Nat) : Int) ∧ serK b.toNat 8 x < 4294967296 := by
 have hb := b.toNat_lt
 have hx : x ^^^ b.toNat < 4294967296 := Nat.xor_lt_two_pow (n := 32) (by simpa using h) (by omega)
 have h1 := stK4_lt _ hx
 have h2 := stK4_lt _ h1
 have e : serK b.toNat 8 x = stB (stB (stB (stB (stB (stB (stB (stB (x ^^^ b.toNat)))))))) := byte_ser b.toNat x (by omega)
 rw [e]
 refine ⟨?_, h2⟩
 unfold byteC
 rw [show ((b.toNat : Int) % 4294967296) = ((b.toNat : Nat) : Int) by omega, xorN x b.toNat h (by omega), nibN _ hx, nibN _ h1]
theorem and1N (x : Nat) (h : x < 4294967296) : Go.bits .and .u32 (x : Int) 1 = ((x % 2 : Nat) : Int) := by
 have := bits_mask .u32 32 (by decide) (fun n a b => by rw [IntKind.wrap_u32]; omega) 1 (by decide) (x : Int) (by omega) (by omega)
 rw [show (2 : Int) ^ 1 - 1 = 1 by decide, show (2 : Int) ^ 1 = 2 by decide] at this
 rw [this]
 omega
theorem shrN (c j : Nat) (hj : j ≤ 8) : shr .u32 (c : Int) (j : Int) = ((c >>> j : Nat) : Int) := by
 unfold shr
 rw [Int.toNat_natCast, Nat.min_eq_left (by simp [IntKind.bits]; omega), Nat.shiftRight_eq_div_pow]
 simp
theorem serK_lt (c x : Nat) (h : x < 4294967296) : ∀ k, serK c k x < 4294967296
 | 0 => h
 | k + 1 => by
  have := serK_lt c x h k
  rw [serK]
  split
  ·rw [Nat.shiftRight_eq_div_pow]; omega
  ·exact Nat.xor_lt_two_pow (n := 32) (by rw [Nat.shiftRight_eq_div_pow]; omega) (by decide)
theorem add_l1 (s : ByteArray) (i c x k : Nat) (hx : x < 4294967296) (hc : c < 256) (hi : i < s.size) (hs : s.size ≤ 1000000) (hb : bt s (i : Int) = (c : Int)) : ∀ d j : Nat, j + d = 8 → caulkref01_Add.l1 (k + d + 1) ((serK c j x : Nat) : Int) s (i : Int) (j : Int) = caulkref01_Add.l0 k ((serK c 8 x : Nat) : Int) s ((i : Int) + 1) := by
 intro d
 induction d with
 | zero =>
  intro j hj
  obtain rfl : j = 8 := by omega
  rw [caulkref01_Add.l1, if_neg (by omega), wrap64_id (by omega) (by omega)]
 | succ d ih =>
  intro j hj
  have hr := serK_lt c x hx j
  have hcj : c >>> j < 4294967296 := by rw [Nat.shiftRight_eq_div_pow]; exact Nat.lt_of_le_of_lt (Nat.div_le_self _ _) (by omega)
  have ht : (Int.tdiv ((serK c j x : Nat) : Int) (2 : Int)) % (4294967296 : Int) = ((serK c j x >>> 1 : Nat) : Int) := by
   rw [Nat.shiftRight_eq_div_pow, Int.tdiv_eq_ediv_of_nonneg (by omega)]
   omega
  rw [show k + (d + 1) + 1 = (k + d + 1) + 1 by omega, caulkref01_Add.l1, if_pos (by omega), if_pos (by omega), if_pos (by omega), if_pos (by omega), hb, show ((c : Nat) : Int) % 4294967296 = (c : Int) by omega, shrN c j (by omega), and1N _ hr, and1N _ hcj, wrap64_id (by omega) (by omega), ht]
  have hn : serK c (j + 1) x = if serK c j x % 2 = (c >>> j) % 2 then serK c j x >>> 1 else (serK c j x >>> 1) ^^^ stP := rfl
  by_cases he : serK c j x % 2 = (c >>> j) % 2
  ·rw [if_pos (by rw [he])]
   rw [if_pos he] at hn
   rw [← hn]
   exact ih (j + 1) (by omega)
  ·rw [if_neg (fun h => he (by omega))]
   rw [if_neg he] at hn
   have hx2 : Go.bits .xor .u32 ((serK c j x >>> 1 : Nat) : Int) 2197175160 = ((serK c j x >>> 1 ^^^ stP : Nat) : Int) := xorN (serK c j x >>> 1) stP (by rw [Nat.shiftRight_eq_div_pow]; omega) (by decide)
   rw [hx2, ← hn]
   exact ih (j + 1) (by omega)
theorem addC_nat (l : List UInt8) : ∀ x : Nat, x < 4294967296 → ∃ y : Nat, y < 4294967296 ∧ addC l (x : Int) = (y : Int) := by
 induction l with
 | nil => exact fun x h => ⟨x, h, rfl⟩
 | cons b l ih =>
  intro x h
  obtain ⟨e, h2⟩ := byteN x b h
  rw [addC, e]
  exact ih _ h2
theorem add_l0 (s : ByteArray) (x0 : Nat) (h0 : x0 < 4294967296) (hs : s.size ≤ 1000000) : ∀ m i : Nat, i + m = s.size → ∃ k0, ∀ k, k0 ≤ k → caulkref01_Add.l0 k (addC (s.data.toList.take i) (x0 : Int)) s (i : Int) = some (addC s.data.toList (x0 : Int)) := by
 intro m
 induction m with
 | zero =>
  intro i hi
  refine ⟨1, fun k hk => ?_⟩
  obtain ⟨k, rfl⟩ : ∃ j, k = j + 1 := ⟨k - 1, by omega⟩
  rw [caulkref01_Add.l0, if_neg (by omega), List.take_of_length_le (by rw [data_length]; omega)]
 | succ m ih =>
  intro i hi
  obtain ⟨k0, hk⟩ := ih (i + 1) (by omega)
  refine ⟨k0 + 8 + 1 + 1, fun k1 hk1 => ?_⟩
  obtain ⟨k, rfl⟩ : ∃ j, k1 = j + 8 + 1 + 1 := ⟨k1 - 10, by omega⟩
  replace hk := hk k (by omega)
  obtain ⟨y, hy, ey⟩ := addC_nat (s.data.toList.take i) x0 h0
  have hil : i < s.data.toList.length := by rw [data_length]; omega
  have hb : bt s (i : Int) = ((s.data.toList[i].toNat : Nat) : Int) := by
   have := bt_at s (i : Int) (by simpa using (show i < s.size by omega))
   rw [← this]
   simp only [Int.toNat_natCast]
   rfl
  have hl := add_l1 s i (s.data.toList[i]).toNat y k hy (by have := (s.data.toList[i]).toNat_lt; omega) (by omega) hs hb 8 0 rfl
  rw [caulkref01_Add.l0, if_pos (by omega), ey]
  have e2 : addC (s.data.toList.take (i + 1)) (x0 : Int) = ((serK (s.data.toList[i]).toNat 8 y : Nat) : Int) := by
   rw [List.take_succ_eq_append_getElem hil, addC_snoc, ey]
   exact (byteN y _ hy).1
  rw [e2] at hk
  refine Eq.trans ?_ hk
  exact hl
theorem ref_Sum_is (s : ByteArray) (hs : s.size ≤ 1000000) : ∃ k0, ∀ k, k0 ≤ k → caulkref01_Sum.f k s = some (sumC s) := by
 obtain ⟨k0, hk0⟩ := add_l0 s 4294967295 (by decide) hs s.size 0 (by omega)
 refine ⟨k0, fun k hk1 => ?_⟩
 have hk := hk0 k hk1
 have hk' : caulkref01_Add.f k 4294967295 s = some (addC s.data.toList 4294967295) := hk
 unfold caulkref01_Sum.f
 rw [hk']
 obtain ⟨y, hy, ey⟩ := addC_nat s.data.toList 4294967295 (by decide)
 have ey' : addC s.data.toList 4294967295 = (y : Int) := ey
 show some (Go.bits .xor .u32 (addC s.data.toList 4294967295) 4294967295) = some (sumC s)
 unfold sumC endC
 rw [ey']
 have a := xorN y 4294967295 hy (by decide)
 have b := xorN 4294967295 y (by decide) hy
 rw [Nat.xor_comm] at b
 exact congrArg some (a.trans b.symm)
theorem each_is (k : Nat) (sh K M C : Int) (h0 : 0 ≤ sh) (h1 : sh ≤ 7) : caulkref06_each.f (k + 10) sh K M C = some ((nS sh : Nat) : Int) := by
 rcases sh_cases h0 h1 with rfl | rfl | rfl | rfl | rfl | rfl | rfl | rfl <;> kernel_rfl
theorem ref_Check_is (k : Nat) (sh K M C : Int) : caulkref06_Check.f (k + 10) sh K M C = some (if GeoOk sh K M C then 0 else 2) := by
 unfold caulkref06_Check.f
 by_cases a1 : sh < 0
 ·rw [if_pos a1, if_neg (fun h => by have := h.1; omega)]
 by_cases a2 : sh > 7
 ·rw [if_neg a1, if_pos a2, if_neg (fun h => by have := h.2.1; omega)]
 rw [if_neg a1, if_neg a2]
 have hR : caulkref04_Check.f K M = some (if 1 ≤ K ∧ 0 ≤ M ∧ K ≤ 255 ∧ M ≤ 255 - K then 0 else 1) := by
  unfold caulkref04_Check.f
  by_cases c1 : K < 1
  ·rw [if_pos c1, if_neg (by omega)]
  by_cases c2 : M < 0
  ·rw [if_neg c1, if_pos c2, if_neg (by omega)]
  by_cases c3 : K > 255
  ·rw [if_neg c1, if_neg c2, if_pos c3, if_neg (by omega)]
  by_cases c5 : M > 255
  ·rw [if_neg c1, if_neg c2, if_neg c3, if_pos c5, if_neg (by omega)]
  rw [if_neg c1, if_neg c2, if_neg c3, if_neg c5, wrap64_id (by omega) (by omega)]
  by_cases c4 : K + M > 255
  ·rw [if_pos c4, if_neg (by omega)]
  ·rw [if_neg c4, if_pos (by omega)]
 rw [hR, each_is k sh K M C (by omega) (by omega)]
 by_cases hr : 1 ≤ K ∧ 0 ≤ M ∧ K ≤ 255 ∧ M ≤ 255 - K
 ·rw [if_pos hr]
  simp only [Option.bind_some, ↓reduceIte]
  by_cases b1 : C < 4
  ·rw [if_pos b1, if_neg (fun h => by have := h.2.2.2.2.2.2.1; omega)]
  by_cases b2 : C > 4096
  ·rw [if_neg b1, if_pos b2, if_neg (fun h => by have := h.2.2.2.2.2.2.2.1; omega)]
  rw [if_neg b1, if_neg b2]
  have hn := nS_le (sh := sh) (by omega)
  have hm1 : 0 ≤ C * (nS sh : Int) := Int.mul_nonneg (by omega) (Int.natCast_nonneg _)
  have hm2 : C * (nS sh : Int) ≤ 524288 := by
   have h1 := Int.mul_le_mul_of_nonneg_right (show C ≤ 4096 by omega) (Int.natCast_nonneg (nS sh))
   have h2 := Int.mul_le_mul_of_nonneg_left (show (nS sh : Int) ≤ 128 by omega) (show (0 : Int) ≤ 4096 by omega)
   omega
  rw [wrap64_id (by omega) (by omega)]
  by_cases b3 : C * (nS sh : Int) > 32768
  ·rw [if_pos b3, if_neg (fun h => by have := h.2.2.2.2.2.2.2.2; rw [← nS_int] at this; omega)]
  ·rw [if_neg b3, if_pos ⟨by omega, by omega, hr.1, hr.2.1, hr.2.2.1, hr.2.2.2, by omega, by omega, by rw [← nS_int]; omega⟩]
 ·rw [if_neg hr, if_neg (fun h : GeoOk sh K M C => hr ⟨h.2.2.1, h.2.2.2.1, h.2.2.2.2.1, h.2.2.2.2.2.1⟩)]
  simp
def SupOk (g sh k m c l a b : Int) : Prop := 1 ≤ g ∧ g ≤ 281474976710656 ∧ GeoOk sh k m c ∧ 0 ≤ l ∧ l ≤ 1048576 ∧ 2 ≤ a ∧ 2 ≤ b ∧ a < c ∧ b < c
instance (g sh k m c l a b : Int) : Decidable (SupOk g sh k m c l a b) := by unfold SupOk; infer_instance
def checkS (g sh k m c l a b : Int) : Int := if SupOk g sh k m c l a b then 0 else 2
theorem super_Check_is (g sh k m c l a b s : Int) : super_Check.f 1 g sh k m c l a b s = some (checkS g sh k m c l a b) := by
 have hj : ∀ x : Bool, super_Check.j0 1 x g sh k m c l a b s = some (if x = true ∨ ¬ (2 ≤ a ∧ 2 ≤ b ∧ a < c ∧ b < c) then 2 else 0) := by
  intro x
  show (if x = true then some 2 else if mn a b < 2 then some 2 else if mx a b ≥ c then some 2 else some 0) = _
  unfold mn mx
  by_cases hx : x = true
  ·rw [if_pos hx, if_pos (Or.inl hx)]
  ·rw [if_neg hx]
   by_cases h : 2 ≤ a ∧ 2 ≤ b ∧ a < c ∧ b < c
   ·rw [if_neg (by split <;> omega), if_neg (by split <;> omega), if_neg (by rintro (h1 | h1); exact hx h1; exact h1 h)]
   ·rw [if_pos (c := _ ∨ _) (Or.inr h)]
    by_cases h1 : (if b < a then b else a) < 2
    ·rw [if_pos h1]
    ·rw [if_neg h1, if_pos (by split at h1 <;> split <;> omega)]
 unfold super_Check.f checkS
 by_cases h1 : g < 1
 ·rw [if_pos h1, hj, if_pos (Or.inl rfl), if_neg (fun h : SupOk _ _ _ _ _ _ _ _ => by have := h.1; omega)]
 by_cases h2 : g > 281474976710656
 ·rw [if_neg h1, if_pos h2, hj, if_pos (Or.inl rfl), if_neg (fun h : SupOk _ _ _ _ _ _ _ _ => by have := h.2.1; omega)]
 rw [if_neg h1, if_neg h2, geom_Check_f]
 by_cases h3 : GeoOk sh k m c
 ·rw [if_pos h3]
  simp only [Option.bind_some, ↓reduceIte, hj]
  by_cases h4 : l < 0
  ·rw [if_pos h4, if_pos (Or.inl trivial), if_neg (fun h : SupOk _ _ _ _ _ _ _ _ => by have := h.2.2.2.1; omega)]
  rw [if_neg h4]
  by_cases h5 : l > 1048576
  ·rw [if_pos (Or.inl (decide_eq_true h5)), if_neg (fun h : SupOk _ _ _ _ _ _ _ _ => by have := h.2.2.2.2.1; omega)]
  ·by_cases h6 : 2 ≤ a ∧ 2 ≤ b ∧ a < c ∧ b < c
   ·rw [if_neg (by rintro (h | h); exact h5 (of_decide_eq_true h); exact h h6), if_pos (c := SupOk _ _ _ _ _ _ _ _) ⟨by omega, by omega, h3, by omega, by omega, h6⟩]
   ·rw [if_pos (Or.inr h6), if_neg (fun h : SupOk _ _ _ _ _ _ _ _ => h6 h.2.2.2.2.2)]
 ·rw [if_neg h3, if_neg (fun h : SupOk _ _ _ _ _ _ _ _ => h3 h.2.2.1)]
  simp only [Option.bind_some, Int.reduceEq, ↓reduceIte, hj, true_or]
theorem ref10_Check_is (q : Nat) (g sh k m c l a b s : Int) : caulkref10_Check.f (q + 10) g sh k m c l a b s = some (checkS g sh k m c l a b) := by
 have hj : ∀ x : Bool, caulkref10_Check.j0 (q + 10) x g sh k m c l a b s = some (if x = true ∨ ¬ (2 ≤ a ∧ 2 ≤ b ∧ a < c ∧ b < c) then 2 else 0) := by
  intro x
  rw [caulkref10_Check.j0]
  by_cases hx : x = true
  ·rw [if_pos hx, if_pos (Or.inl hx)]
  ·rw [if_neg hx]
   have w1 : wrap64 (0 + 1) = 1 := wrapJ (by omega) (by omega)
   have w2 : wrap64 (1 + 1) = 2 := wrapJ (by omega) (by omega)
   have h2 : caulkref10_Check.l0 (q + 7) [a, b] (([a, b] : List Int).length : Int) 2 g sh k m c l a b s = some 0 := by
    rw [caulkref10_Check.l0, if_neg (by simp)]
   have h1 : caulkref10_Check.l0 (q + 8) [a, b] (([a, b] : List Int).length : Int) 1 g sh k m c l a b s = (if b < 2 then some 2 else if b ≥ c then some 2 else some 0) := by
    rw [caulkref10_Check.l0, if_pos (by simp), if_pos (by decide), if_pos (by simp), w2, h2]
    rfl
   have h0 : caulkref10_Check.l0 (q + 9) [a, b] (([a, b] : List Int).length : Int) 0 g sh k m c l a b s = (if a < 2 then some 2 else if a ≥ c then some 2 else if b < 2 then some 2 else if b ≥ c then some 2 else some 0) := by
    rw [caulkref10_Check.l0, if_pos (by simp), if_pos (by decide), if_pos (by simp), w1, h1]
    rfl
   simp only [Option.bind_some]
   rw [h0]
   by_cases a1 : a < 2
   ·rw [if_pos a1, if_pos (Or.inr (by omega))]
   by_cases a2 : a ≥ c
   ·rw [if_neg a1, if_pos a2, if_pos (Or.inr (by omega))]
   by_cases a3 : b < 2
   ·rw [if_neg a1, if_neg a2, if_pos a3, if_pos (Or.inr (by omega))]
   by_cases a4 : b ≥ c
   ·rw [if_neg a1, if_neg a2, if_neg a3, if_pos a4, if_pos (Or.inr (by omega))]
   rw [if_neg a1, if_neg a2, if_neg a3, if_neg a4, if_neg (by rintro (h | h); exact hx h; exact h ⟨by omega, by omega, by omega, by omega⟩)]
 unfold caulkref10_Check.f checkS
 by_cases h1 : g < 1
 ·rw [if_pos h1, hj, if_pos (Or.inl rfl), if_neg (fun h : SupOk _ _ _ _ _ _ _ _ => by have := h.1; omega)]
 by_cases h2 : g > 281474976710656
 ·rw [if_neg h1, if_pos h2, hj, if_pos (Or.inl rfl), if_neg (fun h : SupOk _ _ _ _ _ _ _ _ => by have := h.2.1; omega)]
 rw [if_neg h1, if_neg h2, ref_Check_is]
 by_cases h3 : GeoOk sh k m c
 ·rw [if_pos h3]
  simp only [Option.bind_some, ↓reduceIte, hj]
  by_cases h4 : l < 0
  ·rw [if_pos h4, if_pos (Or.inl trivial), if_neg (fun h : SupOk _ _ _ _ _ _ _ _ => by have := h.2.2.2.1; omega)]
  rw [if_neg h4]
  by_cases h5 : l > 1048576
  ·rw [if_pos (Or.inl (decide_eq_true h5)), if_neg (fun h : SupOk _ _ _ _ _ _ _ _ => by have := h.2.2.2.2.1; omega)]
  ·by_cases h6 : 2 ≤ a ∧ 2 ≤ b ∧ a < c ∧ b < c
   ·rw [if_neg (by rintro (h | h); exact h5 (of_decide_eq_true h); exact h h6), if_pos (c := SupOk _ _ _ _ _ _ _ _) ⟨by omega, by omega, h3, by omega, by omega, h6⟩]
   ·rw [if_pos (Or.inr h6), if_neg (fun h : SupOk _ _ _ _ _ _ _ _ => h6 h.2.2.2.2.2)]
 ·rw [if_neg h3, if_neg (fun h : SupOk _ _ _ _ _ _ _ _ => h3 h.2.2.1)]
  simp only [Option.bind_some, Int.reduceEq, ↓reduceIte, hj, true_or]
def magicS : ByteArray := ⟨#[99, 97, 117, 108, 107, 32, 48, 49]⟩
def headL (g sh k m c l a b s : Int) : List Int := leI 8 g ++ (leI 1 sh ++ (leI 1 k ++ (leI 1 m ++ (leI 1 0 ++ (leI 4 c ++ (leI 4 l ++ []))))))
def rootL (a b s : Int) : List Int := leI 4 a ++ (leI 4 b ++ (leI 4 s ++ []))
def bodyS (g sh k m c l a b s : Int) : ByteArray := magicS ++ strOfNums (headL g sh k m c l a b s) ++ strOfNums (rootL a b s)
def crcL (t : ByteArray) : List Int := [sumC t % 256, sumC t / 256 % 256, sumC t / 65536 % 256, sumC t / 16777216 % 256]
def zeros468 : List Int := List.replicate 468 0
def sectS (g sh k m c l a b s : Int) : ByteArray := bodyS g sh k m c l a b s ++ strOfNums (crcL (bodyS g sh k m c l a b s)) ++ strOfNums zeros468
def bytesS (g sh k m c l a b s : Int) : ByteArray × Int := if SupOk g sh k m c l a b then (sectS g sh k m c l a b s, 0) else (⟨#[]⟩, 2)
theorem headL_len (g sh k m c l a b s : Int) : (headL g sh k m c l a b s).length = 20 := by
 simp [headL, leI_len]
theorem rootL_len (a b s : Int) : (rootL a b s).length = 12 := by
 simp [rootL, leI_len]
theorem bodyS_size (g sh k m c l a b s : Int) : (bodyS g sh k m c l a b s).size = 40 := by
 unfold bodyS
 rw [ByteArray.size_append, ByteArray.size_append, strOfNums_size, strOfNums_size, headL_len, rootL_len]
 rfl
theorem sup_join (g sh k m c l a b s : Int) (h : SupOk g sh k m c l a b) : catW [8, 1, 1, 1, 1, 4, 4] [IntKind.u64.wrap g, IntKind.u64.wrap sh, IntKind.u64.wrap k, IntKind.u64.wrap m, 0, IntKind.u64.wrap c, IntKind.u64.wrap l] 7 0 = headL g sh k m c l a b s ∧ ∀ j, j < 7 → okW ([8, 1, 1, 1, 1, 4, 4].getD j 0) ([IntKind.u64.wrap g, IntKind.u64.wrap sh, IntKind.u64.wrap k, IntKind.u64.wrap m, 0, IntKind.u64.wrap c, IntKind.u64.wrap l].getD j 0) := by
 obtain ⟨h1, h2, ⟨q1, q2, q3, q4, q5, q6, q7, q8, _⟩, h4, h5, h6, h7, h8, h9⟩ := h
 rw [u64_id (x := g) (by omega) (by omega), u64_id (x := sh) (by omega) (by omega), u64_id (x := k) (by omega) (by omega), u64_id (x := m) (by omega) (by omega), u64_id (x := c) (by omega) (by omega), u64_id (x := l) (by omega) (by omega)]
 refine ⟨rfl, fun j hj => ?_⟩
 rcases (show j = 0 ∨ j = 1 ∨ j = 2 ∨ j = 3 ∨ j = 4 ∨ j = 5 ∨ j = 6 by omega) with rfl | rfl | rfl | rfl | rfl | rfl | rfl
 ·exact ⟨Or.inr (Or.inr (Or.inr rfl)), by show 0 ≤ g; omega, by show g < 256 ^ 8; omega⟩
 ·exact ⟨Or.inl rfl, by show 0 ≤ sh; omega, by show sh < 256 ^ 1; omega⟩
 ·exact ⟨Or.inl rfl, by show 0 ≤ k; omega, by show k < 256 ^ 1; omega⟩
 ·exact ⟨Or.inl rfl, by show 0 ≤ m; omega, by show m < 256 ^ 1; omega⟩
 ·exact ⟨Or.inl rfl, by show (0 : Int) ≤ 0; omega, by show (0 : Int) < 256 ^ 1; omega⟩
 ·exact ⟨Or.inr (Or.inr (Or.inl rfl)), by show 0 ≤ c; omega, by show c < 256 ^ 4; omega⟩
 ·exact ⟨Or.inr (Or.inr (Or.inl rfl)), by show 0 ≤ l; omega, by show l < 256 ^ 4; omega⟩
theorem sup_root (a b s : Int) (h0 : 0 ≤ a ∧ a < 4294967296) (h1 : 0 ≤ b ∧ b < 4294967296) (h2 : 0 ≤ s ∧ s < 4294967296) : catW [4, 4, 4] [IntKind.u64.wrap a, IntKind.u64.wrap b, IntKind.u64.wrap s] 3 0 = rootL a b s ∧ ∀ j, j < 3 → okW ([4, 4, 4].getD j 0) ([IntKind.u64.wrap a, IntKind.u64.wrap b, IntKind.u64.wrap s].getD j 0) := by
 rw [u64_id (x := a) (by omega) (by omega), u64_id (x := b) (by omega) (by omega), u64_id (x := s) (by omega) (by omega)]
 refine ⟨rfl, fun j hj => ?_⟩
 rcases (show j = 0 ∨ j = 1 ∨ j = 2 by omega) with rfl | rfl | rfl
 ·exact ⟨Or.inr (Or.inr (Or.inl rfl)), by show 0 ≤ a; omega, by show a < 256 ^ 4; omega⟩
 ·exact ⟨Or.inr (Or.inr (Or.inl rfl)), by show 0 ≤ b; omega, by show b < 256 ^ 4; omega⟩
 ·exact ⟨Or.inr (Or.inr (Or.inl rfl)), by show 0 ≤ s; omega, by show s < 256 ^ 4; omega⟩
theorem ref_Ptr_ok (a b s : Int) (h0 : 0 ≤ a ∧ a < 4294967296) (h1 : 0 ≤ b ∧ b < 4294967296) (h2 : 0 ≤ s ∧ s < 4294967296) (k : Nat) (hk : 20 ≤ k) : caulkref07_Ptr.f k a b s = some (strOfNums (rootL a b s), 0) := by
 obtain ⟨e, ho⟩ := sup_root a b s h0 h1 h2
 rw [caulkref07_Ptr.f, if_neg (by omega), if_neg (by omega), ref_Join_ok [4, 4, 4] [IntKind.u64.wrap a, IntKind.u64.wrap b, IntKind.u64.wrap s] rfl (by decide) ho k (by simp; omega)]
 show some (strOfNums (catW _ _ 3 0), (0 : Int)) = _
 rw [e]
theorem field_Ptr_ok (a b s : Int) (h0 : 0 ≤ a ∧ a < 4294967296) (h1 : 0 ≤ b ∧ b < 4294967296) (h2 : 0 ≤ s ∧ s < 4294967296) (k : Nat) (hk : 20 ≤ k) : field_Ptr.f k a b s = some (strOfNums (rootL a b s), 0) := by
 obtain ⟨e, ho⟩ := sup_root a b s h0 h1 h2
 rw [field_Ptr.f, if_neg (by omega), if_neg (by omega), field_Join_ok [4, 4, 4] [IntKind.u64.wrap a, IntKind.u64.wrap b, IntKind.u64.wrap s] rfl (by decide) ho k (by simp; omega)]
 show some (strOfNums (catW _ _ 3 0), (0 : Int)) = _
 rw [e]
theorem ref01_Bytes_is (t : ByteArray) (hs : t.size ≤ 1000000) : ∃ k0, ∀ k, k0 ≤ k → caulkref01_Bytes.f k t = some (strOfNums (crcL t)) := by
 obtain ⟨k0, hk⟩ := ref_Sum_is t hs
 refine ⟨k0, fun k h => ?_⟩
 rw [caulkref01_Bytes.f, hk k h]
 rfl
theorem ref10_Bytes_is (g sh k m c l a b s : Int) (hs : 0 ≤ s ∧ s < 4294967296) : ∃ k0, ∀ q, k0 ≤ q → caulkref10_Bytes.f q g sh k m c l a b s = some (bytesS g sh k m c l a b s) := by
 obtain ⟨k0, hk⟩ := ref01_Bytes_is (bodyS g sh k m c l a b s) (by rw [bodyS_size]; omega)
 refine ⟨k0 + 40, fun q hq => ?_⟩
 obtain ⟨q, rfl⟩ : ∃ j, q = j + 10 := ⟨q - 10, by omega⟩
 rw [caulkref10_Bytes.f, ref10_Check_is]
 unfold checkS bytesS
 by_cases h : SupOk g sh k m c l a b
 ·have hh := h
  obtain ⟨h1, h2, ⟨q1, q2, q3, q4, q5, q6, q7, q8, _⟩, h4, h5, h6, h7, h8, h9⟩ := hh
  obtain ⟨e, ho⟩ := sup_join g sh k m c l a b s h
  rw [if_pos h, if_pos h]
  simp only [Option.bind_some, ↓reduceIte]
  rw [ref_Join_ok [8, 1, 1, 1, 1, 4, 4] [IntKind.u64.wrap g, IntKind.u64.wrap sh, IntKind.u64.wrap k, IntKind.u64.wrap m, 0, IntKind.u64.wrap c, IntKind.u64.wrap l] rfl (by decide) ho _ (by simp; omega)]
  simp only [Option.bind_some, List.length_cons, List.length_nil, Nat.reduceAdd]
  rw [e, ref_Ptr_ok a b s ⟨by omega, by omega⟩ ⟨by omega, by omega⟩ hs _ (by omega)]
  simp only [Option.bind_some]
  have hb := hk (q + 10) (by omega)
  have z1 : (strOfNums (headL g sh k m c l a b s)).size = 20 := by rw [strOfNums_size, headL_len]
  have z2 : (strOfNums (rootL a b s)).size = 12 := by rw [strOfNums_size, rootL_len]
  have z3 : ((⟨#[99, 97, 117, 108, 107, 32, 48, 49]⟩ : ByteArray) ++ strOfNums (headL g sh k m c l a b s)).size = 28 := by rw [ByteArray.size_append, z1]; rfl
  have hbd : (⟨#[99, 97, 117, 108, 107, 32, 48, 49]⟩ : ByteArray) ++ strOfNums (headL g sh k m c l a b s) ++ strOfNums (rootL a b s) = bodyS g sh k m c l a b s := rfl
  have z4 := bodyS_size g sh k m c l a b s
  have z5 : (strOfNums (crcL (bodyS g sh k m c l a b s))).size = 4 := by rw [strOfNums_size]; rfl
  have z6 : (bodyS g sh k m c l a b s ++ strOfNums (crcL (bodyS g sh k m c l a b s))).size = 44 := by rw [ByteArray.size_append, z4, z5]
  have w1 : wrap64 (512 - ((44 : Nat) : Int)) = 468 := wrapJ (by omega) (by omega)
  rw [if_pos (by omega), if_pos (by omega), hbd, hb]
  simp only [Option.bind_some]
  rw [if_pos (by omega), z6, w1, if_pos (by decide), if_pos (by decide), if_pos (by rw [strOfNums_size, List.length_replicate]; decide)]
  rfl
 ·rw [if_neg h, if_neg h]
  simp only [Option.bind_some, Int.reduceEq, ↓reduceIte]
theorem C_cells {k : IntKind} {W : World} {g : Nat} {t : TypeId} (xs : List Int) (h : W.heap[g]? = some (.cells (xs.map (Value.int k)).toArray t (0, 0))) (hl : xs.length ≤ 1000) : Kd.C (Kd.int k) W (some ⟨g, 0, none⟩) xs.length xs := by
 refine ⟨rfl, by omega, fun _ => ⟨_, rfl, fun j p hp => ⟨[.int k p], rfl, rfl, fun i u hi => ?_⟩⟩⟩
 have hi0 : i = 0 := by
  rcases Nat.eq_zero_or_pos i with e | e
  ·exact e
  ·rw [List.getElem?_eq_none (by simp; omega)] at hi; cases hi
 subst hi0
 simp only [List.getElem?_cons_zero, Option.some.injEq] at hi
 subst hi
 have e : (⟨g, 0, none⟩ : Addr).add (j * (Kd.int k).sz + 0) = ⟨g, j, none⟩ := by
  have e1 : (Kd.int k).sz = 1 := rfl
  rw [e1]
  simp [Addr.add]
  exact fun h => h.symm
 rw [e]
 simp only [World.cell?, h]
 rw [List.getElem?_toArray, List.getElem?_map, hp]
 rfl
theorem blk9 {w : World} {g : Nat} {t : TypeId} {a b c d e f i j k : Value} (h : w.heap[g]? = some (.cells #[a, b, c, d, e, f, i, j, k] t (0, 0))) : w.cell? ⟨g, 0, none⟩ = some a ∧ w.cell? ⟨g, 1, none⟩ = some b ∧ w.cell? ⟨g, 2, none⟩ = some c ∧ w.cell? ⟨g, 3, none⟩ = some d ∧ w.cell? ⟨g, 4, none⟩ = some e ∧ w.cell? ⟨g, 5, none⟩ = some f ∧ w.cell? ⟨g, 6, none⟩ = some i ∧ w.cell? ⟨g, 7, none⟩ = some j ∧ w.cell? ⟨g, 8, none⟩ = some k := by
 refine ⟨?_, ?_, ?_, ?_, ?_, ?_, ?_, ?_, ?_⟩ <;> (rw [blk_cell h]; rfl)
theorem conv4 {W : World} {g : Nat} {t : TypeId} {a b c d : Int} (h : W.heap[g]? = some (.cells #[.int .u8 a, .int .u8 b, .int .u8 c, .int .u8 d] t (0, 0))) : (convert 95 9 (.slice (some ⟨g, 0, none⟩) 4 4)).run Tryd.prog W = .ok (.string (strOfNums [a, b, c, d])) W :=
 run_convert_bytes_arg (P := Tryd.prog) W 95 5 Tryd.underlying95 (by kernel_rfl) g 0 4 4 [a, b, c, d] rfl (fun j hj => by
  simp only [World.cell?, h, Nat.zero_add]
  rcases (show j = 0 ∨ j = 1 ∨ j = 2 ∨ j = 3 by omega) with rfl | rfl | rfl | rfl <;> rfl) 9 Tryd.underlying9
set_option maxRecDepth 100000 in
set_option maxHeartbeats 4000000 in
theorem crc_Bytes_any (s : ByteArray) (w : World) (hT : TabAt w) (hs : s.size ≤ 1000000) : Calls Tryd.prog 45 #[.string s] w fun e w' => e = .returned (.string (strOfNums (crcL s))) ∧ Below w.heap.size w w' := by
 have hS := crc_Sum_any s w hT hs
 have hin := sumC_in s
 unfold crcL
 generalize sumC s = x at hS hin
 have e4 : x / 16777216 % 256 = x / 16777216 := by omega
 rw [e4]
 clear e4
 go_enter Tryd.func45, Tryd.ntmps45
 go_wp2_with (go_at_call 101; with_reducible refine hS.mono ?_; rintro e w1 ⟨rfl, hb1⟩; have hc := conv4 (World.alloc_heap_new w1 (.cells #[.int .u8 (x % 256), .int .u8 (x / 256 % 256), .int .u8 (x / 65536 % 256), .int .u8 (x / 16777216)] 168)))
 go_ret
 exact ⟨rfl, hb1.alloc hb1.size _⟩
def rowOf (l : List Int) : Array Value := (l.map (Value.int .u8)).toArray
def zeros512 : List Int := List.replicate 512 0
theorem zeros512_len : zeros512.length = 512 := List.length_replicate
theorem zc94 : Tryd.zeroCells94 = rowOf zeros512 := by kernel_rfl
theorem byteCells_is (s : ByteArray) : Lib.byteCells s.data.toList = (bytesOf s).map (Value.int .u8) := by
 rw [bytesOf, List.map_map]
 rfl
theorem copy_into {W : World} {g : Nat} {t : TypeId} {L : List Int} {s : ByteArray} {o n c : Nat} (h : W.heap[g]? = some (.cells (rowOf L) t (0, 0))) (hL : L.length = 512) (hn : s.size ≤ n) (ho : o + s.size ≤ 512) :
  (Builtin.copy_ #[95, 9] 3 #[.slice (some ⟨g, o, none⟩) n c, .string s]).run Tryd.prog W = .ok (.int .i64 (s.size : Int)) (W.setRow g (rowOf (L.take o ++ bytesOf s ++ L.drop (o + s.size)))) := by
 have hc := Lib.run_copy_row_string (P := Tryd.prog) W 95 9 3 5 g o n c s _ t Tryd.underlying95 (by kernel_rfl) h hn (by simp [rowOf, hL]; omega)
 have hl : ((rowOf L).toList.take o ++ Lib.byteCells s.data.toList ++ (rowOf L).toList.drop (o + s.size)).toArray = rowOf (L.take o ++ bytesOf s ++ L.drop (o + s.size)) := by
  unfold rowOf
  rw [byteCells_is, List.map_append, List.map_append, List.map_take, List.map_drop]
 rw [hl] at hc
 exact hc
theorem conv_row {W : World} {g : Nat} {t : TypeId} {L : List Int} (h : W.heap[g]? = some (.cells (rowOf L) t (0, 0))) (hL : L.length = 512) : (convert 95 9 (.slice (some ⟨g, 0, none⟩) 512 512)).run Tryd.prog W = .ok (.string (strOfNums L)) W :=
 run_convert_bytes_arg (P := Tryd.prog) W 95 5 Tryd.underlying95 (by kernel_rfl) g 0 512 512 L hL (fun j hj => by
  simp only [World.cell?, h, Nat.zero_add, rowOf]
  rw [List.getElem?_toArray, List.getElem?_map, List.getElem?_eq_getElem (by omega), List.getD_eq_getElem?_getD, List.getElem?_eq_getElem (by omega)]
  rfl) 9 Tryd.underlying9
theorem str_bytesOf (s : ByteArray) : strOfNums (bytesOf s) = s := by
 apply ByteArray.ext
 unfold strOfNums bytesOf
 rw [List.map_map]
 have : (s.data.toList.map ((fun n : Int => UInt8.ofNat n.toNat) ∘ fun b : UInt8 => (b.toNat : Int))) = s.data.toList := by
  conv => rhs; rw [← List.map_id s.data.toList]
  exact List.map_congr_left (fun b _ => by simp)
 rw [this]
def row1 (T : ByteArray) : Array Value := rowOf (bytesOf T ++ zeros512.drop 40)
def row2 (T : ByteArray) : Array Value := rowOf (bytesOf T ++ crcL T ++ zeros468)
theorem copy1 {W : World} {g : Nat} {T : ByteArray} (h : W.heap[g]? = some (.cells (rowOf zeros512) 94 (0, 0))) (hT : T.size = 40) : (Builtin.copy_ #[95, 9] 3 #[.slice (some ⟨g, 0, none⟩) 512 512, .string T]).run Tryd.prog W = .ok (.int .i64 40) (W.setRow g (row1 T)) := by
 have := copy_into (n := 512) (c := 512) (s := T) (o := 0) h zeros512_len (by omega) (by omega)
 rw [hT, List.take_zero, List.nil_append, Nat.zero_add] at this
 exact this
theorem copy2 {W : World} {g : Nat} {T : ByteArray} (h : W.heap[g]? = some (.cells (row1 T) 94 (0, 0))) (hT : T.size = 40) : (Builtin.copy_ #[95, 9] 3 #[.slice (some ⟨g, 40, none⟩) 472 472, .string (strOfNums (crcL T))]).run Tryd.prog W = .ok (.int .i64 4) (W.setRow g (row2 T)) := by
 have hb : (bytesOf T).length = 40 := by rw [bytesOf_len, hT]
 have h4 : (strOfNums (crcL T)).size = 4 := by rw [strOfNums_size]; rfl
 have := copy_into (n := 472) (c := 472) (s := strOfNums (crcL T)) (o := 40) h (by rw [List.length_append, hb, List.length_drop, zeros512_len]) (by omega) (by omega)
 rw [h4] at this
 have e : (bytesOf T ++ zeros512.drop 40).take 40 ++ bytesOf (strOfNums (crcL T)) ++ (bytesOf T ++ zeros512.drop 40).drop (40 + 4) = bytesOf T ++ crcL T ++ zeros468 := by
  rw [List.take_append_of_le_length (by omega), List.take_of_length_le (by omega), bytesOf_str, List.drop_append, List.drop_of_length_le (by omega), List.nil_append, hb]
  ·rw [List.drop_drop, zeros512, zeros468, List.drop_replicate]
  ·intro x hx
   have := sumC_in T
   simp only [crcL, List.mem_cons, List.mem_nil_iff, or_false] at hx
   rcases hx with rfl | rfl | rfl | rfl <;> omega
 rw [e] at this
 exact this
theorem super_Check_any (w : World) (g sh k m c l a b s : Int) : Calls Tryd.prog 13 #[.agg #[.int .i64 g, .int .i64 sh, .int .i64 k, .int .i64 m, .int .i64 c, .int .i64 l, .int .i64 a, .int .i64 b, .int .u32 s]] w fun e w' => e = .returned (.int .i64 (checkS g sh k m c l a b)) ∧ Below w.heap.size w w' :=
 super_Check.calls 1 g sh k m c l a b s _ w (super_Check_is g sh k m c l a b s)
theorem field_Ptr_any (w : World) (a b s : Int) (h0 : 0 ≤ a ∧ a < 4294967296) (h1 : 0 ≤ b ∧ b < 4294967296) (h2 : 0 ≤ s ∧ s < 4294967296) : Calls Tryd.prog 44 #[.agg #[.int .i64 a, .int .i64 b, .int .u32 s]] w fun e w' => e = .returned (.tuple #[.string (strOfNums (rootL a b s)), .int .i64 0]) ∧ Below w.heap.size w w' :=
 field_Ptr.calls 40 a b s _ _ w (field_Ptr_ok a b s h0 h1 h2 40 (by omega))
theorem field_Join7 (W : World) (A B : Option Addr) (c1 c2 : Nat) (ws vs : List Int) (hw : Kd.C (Kd.int .i64) W A ws.length ws) (hv : Kd.C (Kd.int .u64) W B vs.length vs) (h1 : ws.length ≤ c1) (h2 : vs.length ≤ c2) (hl : vs.length = ws.length) (hl2 : ws.length ≤ 100) (hok : ∀ j, j < ws.length → okW (ws.getD j 0) (vs.getD j 0)) : Calls Tryd.prog 43 #[.slice A ws.length c1, .slice B vs.length c2] W fun e w' => e = .returned (.tuple #[.string (strOfNums (catW ws vs ws.length 0)), .int .i64 0]) ∧ Below W.heap.size W w' :=
 field_Join.calls 200 A c1 ws B c2 vs _ _ W hw h1 hv h2 (field_Join_ok ws vs hl hl2 hok 200 (by omega))
set_option maxRecDepth 100000 in
set_option maxHeartbeats 8000000 in
theorem super_Bytes_any (w : World) (hT : TabAt w) (h0 : 0 < w.heap.size) (g sh k m c l a b s : Int) (hs : 0 ≤ s ∧ s < 4294967296) : Calls Tryd.prog 9 #[.agg #[.int .i64 g, .int .i64 sh, .int .i64 k, .int .i64 m, .int .i64 c, .int .i64 l, .int .i64 a, .int .i64 b, .int .u32 s]] w fun e w' => e = .returned (.tuple #[.string (bytesS g sh k m c l a b s).1, .int .i64 (bytesS g sh k m c l a b s).2]) ∧ Below w.heap.size w w' := by
 have hu23 := Tryd.underlying23
 have hu26 := Tryd.underlying26
 have hu28 := Tryd.underlying28
 have hCk := fun W => super_Check_any W g sh k m c l a b s
 unfold checkS at hCk
 by_cases h : SupOk g sh k m c l a b
 ·rw [if_pos h] at hCk
  rw [bytesS, if_pos h]
  dsimp only
  obtain ⟨e7, ho7⟩ := sup_join g sh k m c l a b s h
  have hPt : ∀ W, Calls Tryd.prog 44 #[.agg #[.int .i64 a, .int .i64 b, .int .u32 s]] W fun e w' => e = .returned (.tuple #[.string (strOfNums (rootL a b s)), .int .i64 0]) ∧ Below W.heap.size W w' := fun W => by
   obtain ⟨h1, h2, ⟨q1, q2, q3, q4, q5, q6, q7, q8, _⟩, h4, h5, h6, h7, h8, h9⟩ := h
   exact field_Ptr_any W a b s ⟨by omega, by omega⟩ ⟨by omega, by omega⟩ hs
  have hb0 : Below w.heap.size w (w.alloc (.cells #[.int .i64 g, .int .i64 sh, .int .i64 k, .int .i64 m, .int .i64 c, .int .i64 l, .int .i64 a, .int .i64 b, .int .u32 s] 28)) := (Below.refl _ _).alloc (Nat.le_refl _) _
  have hx := World.alloc_heap_new w (.cells #[.int .i64 g, .int .i64 sh, .int .i64 k, .int .i64 m, .int .i64 c, .int .i64 l, .int .i64 a, .int .i64 b, .int .u32 s] 28)
  go_enter Tryd.func9, Tryd.ntmps9
  go_wp2_with (go_at_call 13; with_reducible refine (hCk _).mono ?_)
  rintro e w1 ⟨rfl, hb1⟩
  have hx1 := Stepb hb1 hx
  have hB1 := hb0.trans (hb1.mono hb0.size)
  obtain ⟨c0, c1, c2, c3, c4, c5, c6, c7, c8⟩ := blk9 hx1
  clear hx hb0 hb1
  go_upto_region 5 with (fail)
  have hb2 : Below w1.heap.size w1 (w1.alloc (.cells #[.int .i64 sh, .int .i64 k, .int .i64 m, .int .i64 c] 23)) := (Below.refl _ _).alloc (Nat.le_refl _) _
  have hy := World.alloc_heap_new w1 (.cells #[.int .i64 sh, .int .i64 k, .int .i64 m, .int .i64 c] 23)
  replace hx1 := Stepb hb2 hx1
  replace hB1 := hB1.trans (hb2.mono hB1.size)
  clear hb2 c0 c1 c2 c3 c4 c5 c6 c7 c8
  generalize w1.heap.size = g5 at hy ⊢
  generalize w1.alloc (.cells #[.int .i64 sh, .int .i64 k, .int .i64 m, .int .i64 c] 23) = W2 at hy hx1 hB1 ⊢
  have hb3 : Below W2.heap.size W2 (W2.alloc (.cells #[.int .i64 8, .int .i64 1, .int .i64 1, .int .i64 1, .int .i64 1, .int .i64 4, .int .i64 4] 3)) := (Below.refl _ _).alloc (Nat.le_refl _) _
  have hb4 : Below (W2.alloc (.cells #[.int .i64 8, .int .i64 1, .int .i64 1, .int .i64 1, .int .i64 1, .int .i64 4, .int .i64 4] 3)).heap.size (W2.alloc (.cells #[.int .i64 8, .int .i64 1, .int .i64 1, .int .i64 1, .int .i64 1, .int .i64 4, .int .i64 4] 3)) ((W2.alloc (.cells #[.int .i64 8, .int .i64 1, .int .i64 1, .int .i64 1, .int .i64 1, .int .i64 4, .int .i64 4] 3)).alloc (.cells #[.int .u64 (IntKind.u64.wrap g), .int .u64 (IntKind.u64.wrap sh), .int .u64 (IntKind.u64.wrap k), .int .u64 (IntKind.u64.wrap m), .int .u64 0, .int .u64 (IntKind.u64.wrap c), .int .u64 (IntKind.u64.wrap l)] 90)) := (Below.refl _ _).alloc (Nat.le_refl _) _
  obtain ⟨c0, c1, c2, c3, c4, c5, c6, c7, c8⟩ := blk9 (Stepb hb3 hx1)
  obtain ⟨⟨d0, d1, d2, d3⟩, _⟩ := blk4 (Stepb hb3 hy)
  have kw : Kd.C (Kd.int .i64) ((W2.alloc (.cells #[.int .i64 8, .int .i64 1, .int .i64 1, .int .i64 1, .int .i64 1, .int .i64 4, .int .i64 4] 3)).alloc (.cells #[.int .u64 (IntKind.u64.wrap g), .int .u64 (IntKind.u64.wrap sh), .int .u64 (IntKind.u64.wrap k), .int .u64 (IntKind.u64.wrap m), .int .u64 0, .int .u64 (IntKind.u64.wrap c), .int .u64 (IntKind.u64.wrap l)] 90)) (some ⟨W2.heap.size, 0, none⟩) 7 [8, 1, 1, 1, 1, 4, 4] := C_cells [8, 1, 1, 1, 1, 4, 4] (new1of2 W2 (.cells #[.int .i64 8, .int .i64 1, .int .i64 1, .int .i64 1, .int .i64 1, .int .i64 4, .int .i64 4] 3) (.cells #[.int .u64 (IntKind.u64.wrap g), .int .u64 (IntKind.u64.wrap sh), .int .u64 (IntKind.u64.wrap k), .int .u64 (IntKind.u64.wrap m), .int .u64 0, .int .u64 (IntKind.u64.wrap c), .int .u64 (IntKind.u64.wrap l)] 90)) (by decide)
  have kv : Kd.C (Kd.int .u64) ((W2.alloc (.cells #[.int .i64 8, .int .i64 1, .int .i64 1, .int .i64 1, .int .i64 1, .int .i64 4, .int .i64 4] 3)).alloc (.cells #[.int .u64 (IntKind.u64.wrap g), .int .u64 (IntKind.u64.wrap sh), .int .u64 (IntKind.u64.wrap k), .int .u64 (IntKind.u64.wrap m), .int .u64 0, .int .u64 (IntKind.u64.wrap c), .int .u64 (IntKind.u64.wrap l)] 90)) (some ⟨W2.heap.size + 1, 0, none⟩) 7 [IntKind.u64.wrap g, IntKind.u64.wrap sh, IntKind.u64.wrap k, IntKind.u64.wrap m, 0, IntKind.u64.wrap c, IntKind.u64.wrap l] := C_cells [IntKind.u64.wrap g, IntKind.u64.wrap sh, IntKind.u64.wrap k, IntKind.u64.wrap m, 0, IntKind.u64.wrap c, IntKind.u64.wrap l] (new2 W2 (.cells #[.int .i64 8, .int .i64 1, .int .i64 1, .int .i64 1, .int .i64 1, .int .i64 4, .int .i64 4] 3) (.cells #[.int .u64 (IntKind.u64.wrap g), .int .u64 (IntKind.u64.wrap sh), .int .u64 (IntKind.u64.wrap k), .int .u64 (IntKind.u64.wrap m), .int .u64 0, .int .u64 (IntKind.u64.wrap c), .int .u64 (IntKind.u64.wrap l)] 90)) (by simp)
  have hJ := field_Join7 ((W2.alloc (.cells #[.int .i64 8, .int .i64 1, .int .i64 1, .int .i64 1, .int .i64 1, .int .i64 4, .int .i64 4] 3)).alloc (.cells #[.int .u64 (IntKind.u64.wrap g), .int .u64 (IntKind.u64.wrap sh), .int .u64 (IntKind.u64.wrap k), .int .u64 (IntKind.u64.wrap m), .int .u64 0, .int .u64 (IntKind.u64.wrap c), .int .u64 (IntKind.u64.wrap l)] 90)) (some ⟨W2.heap.size, 0, none⟩) (some ⟨W2.heap.size + 1, 0, none⟩) 7 7 [8, 1, 1, 1, 1, 4, 4] [IntKind.u64.wrap g, IntKind.u64.wrap sh, IntKind.u64.wrap k, IntKind.u64.wrap m, 0, IntKind.u64.wrap c, IntKind.u64.wrap l] kw kv (Nat.le_refl _) (Nat.le_refl _) rfl (by decide) ho7
  simp only [List.length_cons, List.length_nil, Nat.reduceAdd] at hJ
  rw [e7] at hJ
  clear kw kv e7 ho7
  go_wp2_with (go_at_call 43; refine hJ.mono ?_)
  rintro e w4 ⟨rfl, hb5⟩
  replace hx1 := Stepb hb5 (Stepb hb4 (Stepb hb3 hx1))
  replace hB1 := ((hB1.trans (hb3.mono hB1.size)).trans (hb4.mono (hB1.trans (hb3.mono hB1.size)).size)).trans (hb5.mono ((hB1.trans (hb3.mono hB1.size)).trans (hb4.mono (hB1.trans (hb3.mono hB1.size)).size)).size)
  clear c0 c1 c2 c3 c4 c5 c6 c7 c8 d0 d1 d2 d3 hb3 hb4 hb5 hJ hy
  obtain ⟨c0, c1, c2, c3, c4, c5, c6, c7, c8⟩ := blk9 hx1
  generalize hHL : headL g sh k m c l a b s = HL at *
  generalize hRL : rootL a b s = RL at *
  have hszH : (strOfNums HL).size = 20 := by rw [strOfNums_size, ← hHL, headL_len]
  have hszR : (strOfNums RL).size = 12 := by rw [strOfNums_size, ← hRL, rootL_len]
  go_wp2_with (go_at_call 44; with_reducible refine (hPt _).mono ?_)
  rintro e w5 ⟨rfl, hb6⟩
  replace hB1 := hB1.trans (hb6.mono hB1.size)
  clear c0 c1 c2 c3 c4 c5 c6 c7 c8 hx1 hb6 hPt hCk
  go_wp2_with fail
  have hsT : sectS g sh k m c l a b s = (⟨#[99, 97, 117, 108, 107, 32, 48, 49]⟩ : ByteArray) ++ strOfNums HL ++ strOfNums RL ++ strOfNums (crcL ((⟨#[99, 97, 117, 108, 107, 32, 48, 49]⟩ : ByteArray) ++ strOfNums HL ++ strOfNums RL)) ++ strOfNums zeros468 := by
   rw [← hHL, ← hRL]; rfl
  have hszT : ((⟨#[99, 97, 117, 108, 107, 32, 48, 49]⟩ : ByteArray) ++ strOfNums HL ++ strOfNums RL).size = 40 := by rw [ByteArray.size_append, ByteArray.size_append, hszH, hszR]; rfl
  generalize (⟨#[99, 97, 117, 108, 107, 32, 48, 49]⟩ : ByteArray) ++ strOfNums HL ++ strOfNums RL = T at hszT hsT ⊢
  have hszB : (bytesOf T).length = 40 := by rw [bytesOf_len, hszT]
  have hz := World.alloc_heap_new w5 (.cells Tryd.zeroCells94 94)
  have hB3 := hB1.alloc hB1.size (.cells Tryd.zeroCells94 94)
  have hg9 := hB1.size
  rw [zc94] at hz hB3 ⊢
  clear hHL hRL hszH hszR hB1
  generalize w5.heap.size = g9 at hz hg9 ⊢
  generalize w5.alloc (.cells (rowOf zeros512) 94) = W6 at hz hB3 ⊢
  replace hB3 := hB3.trans ((below_drew1 (Below.refl W6.heap.size W6)).mono hB3.size)
  replace hz := Stepb (below_drew1 (Below.refl W6.heap.size W6)) hz
  try simp only [List.append_eq, List.cons_append, List.nil_append]
  refine start_ (n := 7) (S := fun w' => True) (ds := []) #[G,G,G,G,G,G,G] (by kernel_rfl) rfl rfl (trivial) (fun hHeld => ?_)
  generalize W6.drew = w3 at hHeld hz hB3 ⊢
  refine pure_ (i := 0) (N := some 58) (v := ?_) (a' := ?_) #[Y,G,G,G,G,G,G] rfl rfl (by kernel_rfl) (fun _ _ _ h => h) (Or.inl ⟨by rfl, ?_⟩) ?_ ?_;rotate_left
  ·intro w';go_simp;with_reducible rfl
  rotate_left;·simp only [Act.put, sA_];rfl
  refine pure_ (i := 1) (N := some 59) (v := ?_) (a' := ?_) #[Y,Y,G,G,G,G,G] rfl rfl (by kernel_rfl) (fun _ _ _ h => h) (Or.inl ⟨by rfl, ?_⟩) ?_ ?_;rotate_left
  ·intro w';go_simp;with_reducible rfl
  rotate_left;·simp only [Act.put, sA_];rfl
  refine pure_ (i := 4) (N := some 62) (v := ?_) (a' := ?_) #[Y,Y,G,G,Y,G,G] rfl rfl (by kernel_rfl) (fun _ _ _ h => h) (Or.inl ⟨by rfl, ?_⟩) ?_ ?_;rotate_left
  ·intro w';go_simp;with_reducible rfl
  rotate_left;·simp only [Act.put, sA_];rfl
  refine one_ (i := 2) (N := some 60) #[Y,Y,Y,G,Y,G,G] rfl rfl (by kernel_rfl) (by decide) (fun K hK => ?_)
  have hcp := copy1 hz hszT
  refine value_ (w1 := ?_) (v := ?_) (by rfl) rfl ?_ ?_
  rotate_left 2
  ·go_simp
   constructor
   ·rfl
   ·rfl
  have hz4 := setRow_heap w3 g9 _ (row1 T) 94 (0, 0) hz
  replace hB3 := below_setRow hB3 hg9 (row1 T)
  generalize w3.setRow g9 (row1 T) = w4 at hz4 hB3 ⊢
  refine hK.out _ _ (trivial) (fun hHeld => ?_)
  clear hK K
  refine norm_ (a' := ?_) ?_ ?_;rotate_left
  ·show Act.put _ (some 60) _ = _
   simp only [Act.put, sA_]
   rfl
  refine pure_ (i := 3) (N := some 61) (v := ?_) (a' := ?_) #[Y,Y,Y,Y,Y,G,G] rfl rfl (by kernel_rfl) (fun _ _ _ h => h) (Or.inl ⟨by rfl, ?_⟩) ?_ ?_;rotate_left
  ·intro w';go_simp;with_reducible rfl
  rotate_left;·simp only [Act.put, sA_];rfl
  refine one_ (i := 5) (N := some 63) #[Y,Y,Y,Y,Y,Y,G] rfl rfl (by kernel_rfl) (by decide) (fun K hK => ?_)
  refine goes_ Tryd.func45 (by kernel_rfl) rfl #[.string T] (by rfl) rfl rfl (by simp only [List.map_toArray, List.map_cons, List.map_nil]; rfl) ?_
  with_reducible refine (crc_Bytes_any T _ (hT.below hB3) (by omega)).mono ?_
  rintro e w5 ⟨rfl, hb5⟩
  refine ⟨_, rfl, ?_⟩
  replace hz4 := Stepb hb5 hz4
  replace hB3 := hB3.trans (hb5.mono hB3.size)
  refine hK.out _ _ (trivial) (fun hHeld => ?_)
  clear hK K
  refine norm_ (a' := ?_) ?_ ?_;rotate_left
  ·show Act.put _ (some 63) _ = _
   simp only [Act.put, sA_]
   rfl
  refine one_ (i := 6) (N := some 64) #[Y,Y,Y,Y,Y,Y,Y] rfl rfl (by kernel_rfl) (by decide) (fun K hK => ?_)
  have hcp2 := copy2 hz4 hszT
  refine value_ (w1 := ?_) (v := ?_) (by rfl) rfl ?_ ?_
  rotate_left 2
  ·go_simp
   constructor
   ·rfl
   ·rfl
  have hz6 := setRow_heap w5 g9 _ (row2 T) 94 (0, 0) hz4
  replace hB3 := below_setRow hB3 hg9 (row2 T)
  generalize w5.setRow g9 (row2 T) = w6 at hz6 hB3 ⊢
  refine hK.out _ _ (trivial) (fun hHeld => ?_)
  clear hK K
  refine norm_ (a' := ?_) ?_ ?_;rotate_left
  ·show Act.put _ (some 64) _ = _
   simp only [Act.put, sA_]
   rfl
  refine done_ (by kernel_rfl) ?_

  have hcv := conv_row hz6 (by rw [List.length_append, List.length_append, hszB]; rfl)
  go_wp2
  go_ret2
  refine ⟨?_, hB3⟩
  have hfin : T ++ strOfNums (crcL T) ++ strOfNums zeros468 = strOfNums (bytesOf T ++ (crcL T ++ zeros468)) := by
   rw [← str_append, ← str_append, str_bytesOf, ByteArray.append_assoc]
  rw [hsT, hfin]
  rfl
 ·rw [if_neg h] at hCk
  rw [bytesS, if_neg h]
  dsimp only
  go_enter Tryd.func9, Tryd.ntmps9
  go_wp2_with (first
   | (go_at_call 13; with_reducible refine (hCk _).mono ?_; rintro e w1 ⟨rfl, hb1⟩))
  go_ret2
  exact ⟨rfl, ((Below.refl _ w).alloc (Nat.le_refl _) _).trans (hb1.mono (by simp))⟩
end
end Go.Proofs.YtmmfplogkikbjaaDoor.HSF
