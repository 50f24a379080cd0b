/- a text of this claim -/
import Derived.Test.YtmmfplogkikbjaaDoorGPBx0
import Derived.Test.YtmmfplogkikbjaaDoorGPBx3
import Derived.Test.YtmmfplogkikbjaaDoorGPBx4
import Derived.Test.YtmmfplogkikbjaaDoorGPBx5
import Derived.Test.YtmmfplogkikbjaaDoorGPBx6
import Derived.Test.YtmmfplogkikbjaaDoorGPBx7
import Derived.Test.YtmmfplogkikbjaaDoorGPBx8
import Derived.Test.YtmmfplogkikbjaaDoorGPBx12
namespace Go.Proofs.YtmmfplogkikbjaaDoor.HPB
open Go.RowKit Go.Proofs.YtmmfplogkikbjaaDoorW.PrintWords Go.Proofs.YtmmfplogkikbjaaDoorW.PrintLast Go.Proofs.YtmmfplogkikbjaaDoorW.PrintMore
attribute [local go_sem] max2_int min2_int max_two min_two max_three min_three max_four min_four
set_option linter.unusedVariables false
set_option linter.unusedSimpArgs false
section
open Go Go.Shelf Go.Maps Go.Proofs.YtmmfplogkikbjaaDoor.Seq Go.Proofs.YtmmfplogkikbjaaDoor.MapL Go.Proofs.YtmmfplogkikbjaaDoorW.PrintLast
attribute [local go_sem] Oper.semAt_some max2_int min2_int max_two min_two
def stP : Nat := 2197175160
def stB (x : Nat) : Nat := (x >>> 1) ^^^ (if x % 2 = 1 then stP else 0)
theorem xm2 (a b : Nat) : (a ^^^ b) % 2 = (a + b) % 2 := by
 have h := Nat.testBit_xor (x := a) (y := b) (i := 0)
 simp only [Nat.testBit_zero] at h
 rcases Nat.mod_two_eq_zero_or_one a with ha | ha <;> rcases Nat.mod_two_eq_zero_or_one b with hb | hb <;> rcases Nat.mod_two_eq_zero_or_one (a ^^^ b) with hc | hc <;> simp [ha, hb, hc] at h <;> omega
theorem st_xor (a b : Nat) : stB (a ^^^ b) = stB a ^^^ stB b := by
 unfold stB
 rw [Nat.shiftRight_xor_distrib, xm2]
 rcases Nat.mod_two_eq_zero_or_one a with ha | ha <;> rcases Nat.mod_two_eq_zero_or_one b with hb | hb
 ·rw [if_neg (by omega), if_neg (by omega), if_neg (by omega)]; simp
 ·rw [if_pos (by omega), if_neg (by omega), if_pos hb]; simp [Nat.xor_assoc]
 ·rw [if_pos (by omega), if_pos ha, if_neg (by omega)]; simp only [Nat.xor_zero]; rw [Nat.xor_assoc, Nat.xor_comm (b >>> 1) stP, ← Nat.xor_assoc]
 ·rw [if_neg (by omega), if_pos ha, if_pos hb]
  simp only [Nat.xor_zero]
  rw [Nat.xor_assoc, ← Nat.xor_assoc stP, Nat.xor_comm stP (b >>> 1), Nat.xor_assoc, Nat.xor_self, Nat.xor_zero]
theorem split16 (x : Nat) : x = (16 * (x / 16)) ^^^ (x % 16) := by
 have h : (16 * (x / 16)) ^^^ (x % 16) = 16 * (x / 16) + x % 16 := by
  have := Nat.two_pow_add_eq_or_of_lt (i := 4) (b := x % 16) (by omega) (x / 16)
  rw [show (2 : Nat) ^ 4 = 16 from rfl] at this
  rw [this]
  apply Nat.eq_of_testBit_eq
  intro j
  simp only [Nat.testBit_xor, Nat.testBit_or]
  by_cases hj : j < 4
  ·have h1 : (16 * (x / 16)).testBit j = false := by
    rw [show 16 * (x / 16) = 2 ^ 4 * (x / 16) from rfl, Nat.testBit_two_pow_mul]
    simp; omega
   rw [h1]; simp
  ·have h2 : (x % 16).testBit j = false := Nat.testBit_lt_two_pow (Nat.lt_of_lt_of_le (show x % 16 < 2 ^ 4 by omega) (Nat.pow_le_pow_right (by omega) (by omega)))
   rw [h2]; simp
 omega
theorem st_even (h : Nat) : stB (2 * h) = h := by
 unfold stB
 rw [if_neg (by omega), Nat.xor_zero, Nat.shiftRight_eq_div_pow]
 omega
def tabN (l : Nat) : Nat := (tabL.getD l 0).toNat
theorem st4_low : ∀ l, l < 16 → stB (stB (stB (stB l))) = tabN l := by decide +kernel
theorem st4 (x : Nat) : stB (stB (stB (stB x))) = (x / 16) ^^^ tabN (x % 16) := by
 conv => lhs; rw [split16 x]
 have e := st4_low (x % 16) (by omega)
 rw [st_xor, st_xor, st_xor, st_xor, e]
 rw [show 16 * (x / 16) = 2 * (2 * (2 * (2 * (x / 16)))) by omega, st_even, st_even, st_even, st_even]
def serK (c : Nat) : Nat → Nat → Nat
 | 0, x => x
 | k + 1, x => if serK c k x % 2 = (c >>> k) % 2 then serK c k x >>> 1 else (serK c k x >>> 1) ^^^ stP
def stK : Nat → Nat → Nat
 | 0, x => x
 | k + 1, x => stB (stK k x)
theorem ser_st (c x : Nat) : ∀ k, stK k (x ^^^ c) = serK c k x ^^^ (c >>> k)
 | 0 => by simp [stK, serK]
 | k + 1 => by
  rw [stK, ser_st c x k, stB, serK, Nat.shiftRight_xor_distrib, xm2, Nat.shiftRight_add]
  rcases Nat.mod_two_eq_zero_or_one (serK c k x) with ha | ha <;> rcases Nat.mod_two_eq_zero_or_one (c >>> k) with hb | hb
  ·rw [if_neg (by omega), if_pos (by omega)]; simp
  ·rw [if_pos (by omega), if_neg (by omega)]; rw [Nat.xor_assoc, Nat.xor_comm _ stP, ← Nat.xor_assoc]
  ·rw [if_pos (by omega), if_neg (by omega)]; rw [Nat.xor_assoc, Nat.xor_comm _ stP, ← Nat.xor_assoc]
  ·rw [if_neg (by omega), if_pos (by omega)]; simp
theorem byte_ser (c x : Nat) (hc : c < 256) : serK c 8 x = stK 8 (x ^^^ c) := by
 rw [ser_st, Nat.shiftRight_eq_div_pow, Nat.div_eq_of_lt (by simpa using hc), Nat.xor_zero]
theorem xorN (a b : Nat) (ha : a < 4294967296) (hb : b < 4294967296) : Go.bits .xor .u32 (a : Int) (b : Int) = ((a ^^^ b : Nat) : Int) := by
 have hx : a ^^^ b < 2 ^ 32 := Nat.xor_lt_two_pow (by simpa using ha) (by simpa using hb)
 simp only [Go.bits, BitVec.ofInt_natCast, BitVec.toNat_xor, BitVec.toNat_ofNat]
 rw [IntKind.wrap_u32]
 have e1 : a % 2 ^ IntKind.u32.bits = a := Nat.mod_eq_of_lt ha
 have e2 : b % 2 ^ IntKind.u32.bits = b := Nat.mod_eq_of_lt hb
 rw [e1, e2]
 omega
theorem tabN_lt (l : Nat) (h : l < 16) : tabN l < 4294967296 := by
 have : ∀ l, l < 16 → tabN l < 4294967296 := by decide +kernel
 exact this l h
theorem tabN_eq (l : Nat) (h : l < 16) : tabG l = (tabN l : Int) := by
 have : ∀ l, l < 16 → tabG l = (tabN l : Int) := by decide +kernel
 exact this l h
theorem and15N (x : Nat) (h : x < 4294967296) : Go.bits .and .u32 (x : Int) 15 = ((x % 16 : Nat) : Int) := by
 have := bits_mask .u32 32 (by decide) (fun n a b => by rw [IntKind.wrap_u32]; omega) 4 (by decide) (x : Int) (by omega) (by omega)
 rw [show (2 : Int) ^ 4 - 1 = 15 by decide, show (2 : Int) ^ 4 = 16 by decide] at this
 rw [this]
 omega
theorem stK4_lt (x : Nat) (h : x < 4294967296) : stB (stB (stB (stB x))) < 4294967296 := by
 rw [st4]
 have h1 := tabN_lt (x % 16) (by omega)
 exact Nat.xor_lt_two_pow (n := 32) (by omega) (by simpa using h1)
theorem nibN (x : Nat) (h : x < 4294967296) : nib (x : Int) = ((stB (stB (stB (stB x))) : Nat) : Int) := by
 unfold nib
 rw [and15N x h, Int.toNat_natCast, tabN_eq _ (by omega), st4, ← xorN (x / 16) _ (by omega) (tabN_lt _ (by omega))]
 congr 1
theorem byteN (x : Nat) (b : UInt8) (h : x < 4294967296) : byteC (x : Int) b = ((serK b.toNat 8 x : Nat) : Int) ∧ serK b.toNat 8 x < 4294967296 := by
 have hb := b.toNat_lt
 have hx : x ^^^ b.toNat < 4294967296 := Nat.xor_lt_two_pow (n := 32) (by simpa using h) (by omega)
 have h1 := stK4_lt _ hx
 have h2 := stK4_lt _ h1
 have e : serK b.toNat 8 x = stB (stB (stB (stB (stB (stB (stB (stB (x ^^^ b.toNat)))))))) := byte_ser b.toNat x (by omega)
 rw [e]
 refine ⟨?_, h2⟩
 unfold byteC
 rw [show ((b.toNat : Int) % 4294967296) = ((b.toNat : Nat) : Int) by omega, xorN x b.toNat h (by omega), nibN _ hx, nibN _ h1]
theorem and1N (x : Nat) (h : x < 4294967296) : Go.bits .and .u32 (x : Int) 1 = ((x % 2 : Nat) : Int) := by
 have := bits_mask .u32 32 (by decide) (fun n a b => by rw [IntKind.wrap_u32]; omega) 1 (by decide) (x : Int) (by omega) (by omega)
 rw [show (2 : Int) ^ 1 - 1 = 1 by decide, show (2 : Int) ^ 1 = 2 by decide] at this
 rw [this]
 omega
theorem shrN (c j : Nat) (hj : j ≤ 8) : shr .u32 (c : Int) (j : Int) = ((c >>> j : Nat) : Int) := by
 unfold shr
 rw [Int.toNat_natCast, Nat.min_eq_left (by simp [IntKind.bits]; omega), Nat.shiftRight_eq_div_pow]
 simp
theorem serK_lt (c x : Nat) (h : x < 4294967296) : ∀ k, serK c k x < 4294967296
 | 0 => h
 | k + 1 => by
  have := serK_lt c x h k
  rw [serK]
  split
  ·rw [Nat.shiftRight_eq_div_pow]; omega
  ·exact Nat.xor_lt_two_pow (n := 32) (by rw [Nat.shiftRight_eq_div_pow]; omega) (by decide)
theorem add_l1 (s : ByteArray) (i c x k : Nat) (hx : x < 4294967296) (hc : c < 256) (hi : i < s.size) (hs : s.size ≤ 1000000) (hb : bt s (i : Int) = (c : Int)) : ∀ d j : Nat, j + d = 8 → caulkref01_Add.l1 (k + d + 1) ((serK c j x : Nat) : Int) s (i : Int) (j : Int) = caulkref01_Add.l0 k ((serK c 8 x : Nat) : Int) s ((i : Int) + 1) := by
 intro d
 induction d with
 | zero =>
  intro j hj
  obtain rfl : j = 8 := by omega
  rw [caulkref01_Add.l1, if_neg (by omega), wrap64_id (by omega) (by omega)]
 | succ d ih =>
  intro j hj
  have hr := serK_lt c x hx j
  have hcj : c >>> j < 4294967296 := by rw [Nat.shiftRight_eq_div_pow]; exact Nat.lt_of_le_of_lt (Nat.div_le_self _ _) (by omega)
  have ht : (Int.tdiv ((serK c j x : Nat) : Int) (2 : Int)) % (4294967296 : Int) = ((serK c j x >>> 1 : Nat) : Int) := by
   rw [Nat.shiftRight_eq_div_pow, Int.tdiv_eq_ediv_of_nonneg (by omega)]
   omega
  rw [show k + (d + 1) + 1 = (k + d + 1) + 1 by omega, caulkref01_Add.l1, if_pos (by omega), if_pos (by omega), if_pos (by omega), if_pos (by omega), hb, show ((c : Nat) : Int) % 4294967296 = (c : Int) by omega, shrN c j (by omega), and1N _ hr, and1N _ hcj, wrap64_id (by omega) (by omega), ht]
  have hn : serK c (j + 1) x = if serK c j x % 2 = (c >>> j) % 2 then serK c j x >>> 1 else (serK c j x >>> 1) ^^^ stP := rfl
  by_cases he : serK c j x % 2 = (c >>> j) % 2
  ·rw [if_pos (by rw [he])]
   rw [if_pos he] at hn
   rw [← hn]
   exact ih (j + 1) (by omega)
  ·rw [if_neg (fun h => he (by omega))]
   rw [if_neg he] at hn
   have hx2 : Go.bits .xor .u32 ((serK c j x >>> 1 : Nat) : Int) 2197175160 = ((serK c j x >>> 1 ^^^ stP : Nat) : Int) := xorN (serK c j x >>> 1) stP (by rw [Nat.shiftRight_eq_div_pow]; omega) (by decide)
   rw [hx2, ← hn]
   exact ih (j + 1) (by omega)
theorem addC_nat (l : List UInt8) : ∀ x : Nat, x < 4294967296 → ∃ y : Nat, y < 4294967296 ∧ addC l (x : Int) = (y : Int) := by
 induction l with
 | nil => exact fun x h => ⟨x, h, rfl⟩
 | cons b l ih =>
  intro x h
  obtain ⟨e, h2⟩ := byteN x b h
  rw [addC, e]
  exact ih _ h2
theorem add_l0 (s : ByteArray) (x0 : Nat) (h0 : x0 < 4294967296) (hs : s.size ≤ 1000000) : ∀ m i : Nat, i + m = s.size → ∃ k0, ∀ k, k0 ≤ k → caulkref01_Add.l0 k (addC (s.data.toList.take i) (x0 : Int)) s (i : Int) = some (addC s.data.toList (x0 : Int)) := by
 intro m
 induction m with
 | zero =>
  intro i hi
  refine ⟨1, fun k hk => ?_⟩
  obtain ⟨k, rfl⟩ : ∃ j, k = j + 1 := ⟨k - 1, by omega⟩
  rw [caulkref01_Add.l0, if_neg (by omega), List.take_of_length_le (by rw [data_length]; omega)]
 | succ m ih =>
  intro i hi
  obtain ⟨k0, hk⟩ := ih (i + 1) (by omega)
  refine ⟨k0 + 8 + 1 + 1, fun k1 hk1 => ?_⟩
  obtain ⟨k, rfl⟩ : ∃ j, k1 = j + 8 + 1 + 1 := ⟨k1 - 10, by omega⟩
  replace hk := hk k (by omega)
  obtain ⟨y, hy, ey⟩ := addC_nat (s.data.toList.take i) x0 h0
  have hil : i < s.data.toList.length := by rw [data_length]; omega
  have hb : bt s (i : Int) = ((s.data.toList[i].toNat : Nat) : Int) := by
   have := bt_at s (i : Int) (by simpa using (show i < s.size by omega))
   rw [← this]
   simp only [Int.toNat_natCast]
   rfl
  have hl := add_l1 s i (s.data.toList[i]).toNat y k hy (by have := (s.data.toList[i]).toNat_lt; omega) (by omega) hs hb 8 0 rfl
  rw [caulkref01_Add.l0, if_pos (by omega), ey]
  have e2 : addC (s.data.toList.take (i + 1)) (x0 : Int) = ((serK (s.data.toList[i]).toNat 8 y : Nat) : Int) := by
   rw [List.take_succ_eq_append_getElem hil, addC_snoc, ey]
   exact (byteN y _ hy).1
  rw [e2] at hk
  refine Eq.trans ?_ hk
  exact hl
theorem ref_Sum_is (s : ByteArray) (hs : s.size ≤ 1000000) : ∃ k0, ∀ k, k0 ≤ k → caulkref01_Sum.f k s = some (sumC s) := by
 obtain ⟨k0, hk0⟩ := add_l0 s 4294967295 (by decide) hs s.size 0 (by omega)
 refine ⟨k0, fun k hk1 => ?_⟩
 have hk := hk0 k hk1
 have hk' : caulkref01_Add.f k 4294967295 s = some (addC s.data.toList 4294967295) := hk
 unfold caulkref01_Sum.f
 rw [hk']
 obtain ⟨y, hy, ey⟩ := addC_nat s.data.toList 4294967295 (by decide)
 have ey' : addC s.data.toList 4294967295 = (y : Int) := ey
 show some (Go.bits .xor .u32 (addC s.data.toList 4294967295) 4294967295) = some (sumC s)
 unfold sumC endC
 rw [ey']
 have a := xorN y 4294967295 hy (by decide)
 have b := xorN 4294967295 y (by decide) hy
 rw [Nat.xor_comm] at b
 exact congrArg some (a.trans b.symm)
theorem each_is (k : Nat) (sh K M C : Int) (h0 : 0 ≤ sh) (h1 : sh ≤ 7) : caulkref06_each.f (k + 10) sh K M C = some ((nS sh : Nat) : Int) := by
 rcases sh_cases h0 h1 with rfl | rfl | rfl | rfl | rfl | rfl | rfl | rfl <;> kernel_rfl
theorem ref_Check_is (k : Nat) (sh K M C : Int) : caulkref06_Check.f (k + 10) sh K M C = some (if GeoOk sh K M C then 0 else 2) := by
 unfold caulkref06_Check.f
 by_cases a1 : sh < 0
 ·rw [if_pos a1, if_neg (fun h => by have := h.1; omega)]
 by_cases a2 : sh > 7
 ·rw [if_neg a1, if_pos a2, if_neg (fun h => by have := h.2.1; omega)]
 rw [if_neg a1, if_neg a2]
 have hR : caulkref04_Check.f K M = some (if 1 ≤ K ∧ 0 ≤ M ∧ K ≤ 255 ∧ M ≤ 255 - K then 0 else 1) := by
  unfold caulkref04_Check.f
  by_cases c1 : K < 1
  ·rw [if_pos c1, if_neg (by omega)]
  by_cases c2 : M < 0
  ·rw [if_neg c1, if_pos c2, if_neg (by omega)]
  by_cases c3 : K > 255
  ·rw [if_neg c1, if_neg c2, if_pos c3, if_neg (by omega)]
  by_cases c5 : M > 255
  ·rw [if_neg c1, if_neg c2, if_neg c3, if_pos c5, if_neg (by omega)]
  rw [if_neg c1, if_neg c2, if_neg c3, if_neg c5, wrap64_id (by omega) (by omega)]
  by_cases c4 : K + M > 255
  ·rw [if_pos c4, if_neg (by omega)]
  ·rw [if_neg c4, if_pos (by omega)]
 rw [hR, each_is k sh K M C (by omega) (by omega)]
 by_cases hr : 1 ≤ K ∧ 0 ≤ M ∧ K ≤ 255 ∧ M ≤ 255 - K
 ·rw [if_pos hr]
  simp only [Option.bind_some, ↓reduceIte]
  by_cases b1 : C < 4
  ·rw [if_pos b1, if_neg (fun h => by have := h.2.2.2.2.2.2.1; omega)]
  by_cases b2 : C > 4096
  ·rw [if_neg b1, if_pos b2, if_neg (fun h => by have := h.2.2.2.2.2.2.2.1; omega)]
  rw [if_neg b1, if_neg b2]
  have hn := nS_le (sh := sh) (by omega)
  have hm1 : 0 ≤ C * (nS sh : Int) := Int.mul_nonneg (by omega) (Int.natCast_nonneg _)
  have hm2 : C * (nS sh : Int) ≤ 524288 := by
   have h1 := Int.mul_le_mul_of_nonneg_right (show C ≤ 4096 by omega) (Int.natCast_nonneg (nS sh))
   have h2 := Int.mul_le_mul_of_nonneg_left (show (nS sh : Int) ≤ 128 by omega) (show (0 : Int) ≤ 4096 by omega)
   omega
  rw [wrap64_id (by omega) (by omega)]
  by_cases b3 : C * (nS sh : Int) > 32768
  ·rw [if_pos b3, if_neg (fun h => by have := h.2.2.2.2.2.2.2.2; rw [← nS_int] at this; omega)]
  ·rw [if_neg b3, if_pos ⟨by omega, by omega, hr.1, hr.2.1, hr.2.2.1, hr.2.2.2, by omega, by omega, by rw [← nS_int]; omega⟩]
 ·rw [if_neg hr, if_neg (fun h : GeoOk sh K M C => hr ⟨h.2.2.1, h.2.2.2.1, h.2.2.2.2.1, h.2.2.2.2.2.1⟩)]
  simp
def SupOk (g sh k m c l a b : Int) : Prop := 1 ≤ g ∧ g ≤ 281474976710656 ∧ GeoOk sh k m c ∧ 0 ≤ l ∧ l ≤ 1048576 ∧ 2 ≤ a ∧ 2 ≤ b ∧ a < c ∧ b < c
instance (g sh k m c l a b : Int) : Decidable (SupOk g sh k m c l a b) := by unfold SupOk; infer_instance
def rootL (a b s : Int) : List Int := leI 4 a ++ (leI 4 b ++ (leI 4 s ++ []))
theorem rootL_len (a b s : Int) : (rootL a b s).length = 12 := by
 simp [rootL, leI_len]
theorem sup_root (a b s : Int) (h0 : 0 ≤ a ∧ a < 4294967296) (h1 : 0 ≤ b ∧ b < 4294967296) (h2 : 0 ≤ s ∧ s < 4294967296) : catW [4, 4, 4] [IntKind.u64.wrap a, IntKind.u64.wrap b, IntKind.u64.wrap s] 3 0 = rootL a b s ∧ ∀ j, j < 3 → okW ([4, 4, 4].getD j 0) ([IntKind.u64.wrap a, IntKind.u64.wrap b, IntKind.u64.wrap s].getD j 0) := by
 rw [u64_id (x := a) (by omega) (by omega), u64_id (x := b) (by omega) (by omega), u64_id (x := s) (by omega) (by omega)]
 refine ⟨rfl, fun j hj => ?_⟩
 rcases (show j = 0 ∨ j = 1 ∨ j = 2 by omega) with rfl | rfl | rfl
 ·exact ⟨Or.inr (Or.inr (Or.inl rfl)), by show 0 ≤ a; omega, by show a < 256 ^ 4; omega⟩
 ·exact ⟨Or.inr (Or.inr (Or.inl rfl)), by show 0 ≤ b; omega, by show b < 256 ^ 4; omega⟩
 ·exact ⟨Or.inr (Or.inr (Or.inl rfl)), by show 0 ≤ s; omega, by show s < 256 ^ 4; omega⟩
theorem ref_Ptr_ok (a b s : Int) (h0 : 0 ≤ a ∧ a < 4294967296) (h1 : 0 ≤ b ∧ b < 4294967296) (h2 : 0 ≤ s ∧ s < 4294967296) (k : Nat) (hk : 20 ≤ k) : caulkref07_Ptr.f k a b s = some (strOfNums (rootL a b s), 0) := by
 obtain ⟨e, ho⟩ := sup_root a b s h0 h1 h2
 rw [caulkref07_Ptr.f, if_neg (by omega), if_neg (by omega), ref_Join_ok [4, 4, 4] [IntKind.u64.wrap a, IntKind.u64.wrap b, IntKind.u64.wrap s] rfl (by decide) ho k (by simp; omega)]
 show some (strOfNums (catW _ _ 3 0), (0 : Int)) = _
 rw [e]
theorem field_Ptr_ok (a b s : Int) (h0 : 0 ≤ a ∧ a < 4294967296) (h1 : 0 ≤ b ∧ b < 4294967296) (h2 : 0 ≤ s ∧ s < 4294967296) (k : Nat) (hk : 20 ≤ k) : field_Ptr.f k a b s = some (strOfNums (rootL a b s), 0) := by
 obtain ⟨e, ho⟩ := sup_root a b s h0 h1 h2
 rw [field_Ptr.f, if_neg (by omega), if_neg (by omega), field_Join_ok [4, 4, 4] [IntKind.u64.wrap a, IntKind.u64.wrap b, IntKind.u64.wrap s] rfl (by decide) ho k (by simp; omega)]
 show some (strOfNums (catW _ _ 3 0), (0 : Int)) = _
 rw [e]
def rowOf (l : List Int) : Array Value := (l.map (Value.int .u8)).toArray
def zeros512 : List Int := List.replicate 512 0
def row1 (T : ByteArray) : Array Value := rowOf (bytesOf T ++ zeros512.drop 40)
theorem field_Ptr_any (w : World) (a b s : Int) (h0 : 0 ≤ a ∧ a < 4294967296) (h1 : 0 ≤ b ∧ b < 4294967296) (h2 : 0 ≤ s ∧ s < 4294967296) : Calls Tryd.prog 44 #[.agg #[.int .i64 a, .int .i64 b, .int .u32 s]] w fun e w' => e = .returned (.tuple #[.string (strOfNums (rootL a b s)), .int .i64 0]) ∧ Below w.heap.size w w' :=
 field_Ptr.calls 40 a b s _ _ w (field_Ptr_ok a b s h0 h1 h2 40 (by omega))
end
def geom_First.f (k : Nat) (a0_0 : Int) (a0_1 : Int) (a0_2 : Int) (a0_3 : Int) (a1 : Int) : Option (Int × Int) := (geom_right.f k a0_0 a0_1 a0_2 a0_3).bind fun t216 => (if t216 = true then (if a1 < 0 then (some (0, 1)) else (if a1 ≥ a0_3 then (some (0, 1)) else (if 0 ≤ a0_0 then (some (shl .i64 a1 a0_0, 0)) else (none)))) else (some (0, 2)))
set_option maxHeartbeats 8000000 in
set_option maxRecDepth 100000 in
theorem geom_First.calls (k : Nat) (a0_0 : Int) (a0_1 : Int) (a0_2 : Int) (a0_3 : Int) (a1 : Int) (r1 : Int) (r2 : Int) (w : World) (h : geom_First.f k a0_0 a0_1 a0_2 a0_3 a1 = some (r1, r2)) :
  Calls Tryd.prog 119 #[.agg #[.int .i64 a0_0, .int .i64 a0_1, .int .i64 a0_2, .int .i64 a0_3], .int .i64 a1] w fun e w' => e = .returned (.tuple #[.int .i64 r1, .int .i64 r2]) ∧ Below w.heap.size w w' := by
 have hu23 := Tryd.underlying23
 have HB := Aside0.mk (Below.refl w.heap.size w)
 have H : ((geom_right.f k a0_0 a0_1 a0_2 a0_3).bind fun t216 => (if t216 = true then (if a1 < 0 then (some (0, 1)) else (if a1 ≥ a0_3 then (some (0, 1)) else (if 0 ≤ a0_0 then (some (shl .i64 a1 a0_0, 0)) else (none)))) else (some (0, 2)))) = some (r1, r2) := h
 clear h
 replace H := Option.bind_eq_some_iff.mp H
 obtain ⟨t216, A30, H⟩ := H
 replace H : (if t216 = true then (if a1 < 0 then (some (0, 1)) else (if a1 ≥ a0_3 then (some (0, 1)) else (if 0 ≤ a0_0 then (some (shl .i64 a1 a0_0, 0)) else (none)))) else (some (0, 2))) = some (r1, r2) := H
 have A3 := Aside0.mk A30
 clear A30
 by_cases c4 : t216 = true
 ·subst c4
  have H1 : (if a1 < 0 then (some (0, 1)) else (if a1 ≥ a0_3 then (some (0, 1)) else (if 0 ≤ a0_0 then (some (shl .i64 a1 a0_0, 0)) else (none)))) = some (r1, r2) := by rw [if_pos rfl] at H; exact H
  clear H
  have H := H1
  clear H1
  by_cases c5 : a1 < 0
  ·rw [if_pos c5] at H
   have c5b0 : decide (a1 < 0) = true := decide_eq_true c5
   clear c5
   simp only [Option.some.injEq, Prod.mk.injEq] at H
   obtain ⟨rfl, rfl⟩ := H
   go_enter Tryd.func119, Tryd.ntmps119
   go_wp2_with (first | ((with_reducible refine HOpen.gate_append ?_); simp only [List.cons_append, List.nil_append]) | ((with_reducible refine gate_dst (N := 2) rfl ?_); refine box_event ?hg (N := 2) ?hd (cs := #[.int .i64 a0_0, .int .i64 a0_1, .int .i64 a0_2, .int .i64 a0_3]) (t := 23) ?hr ?_; (case hd => rfl); (case hg => rfl); (case hr => first | (go_simp; done) | (go_simp; rfl)); intro gb215 hg w6 hbox hb; have n0_ := Aside0.mk (below_step (by repeat (first | (with_reducible first | exact HB.out | apply below_alloc | apply pw_below_drewN | apply below_drew1) | exact HB.out)) hb); have n1_ := Aside0.mk (hbox); have n2_ := Aside0.mk ((by rw [hg]; exact (below_size (by repeat (first | (with_reducible first | exact HB.out | apply below_alloc | apply pw_below_drewN | apply below_drew1) | exact HB.out))) : w.heap.size ≤ gb215)); have n3_ := Aside0.mk ((by rw [hg]; exact (below_size (by repeat (first | (with_reducible first | exact HB.out | apply below_alloc | apply pw_below_drewN | apply below_drew1) | exact HB.out))) : w.heap.size ≤ gb215)); clear HB; have HB := n0_; have BK215 := n1_; have GW215 := n2_; have GE215 := n3_; clear n0_ n1_ n2_ n3_; clear hb hbox hg; have hcz7_0 : w6.cell? ⟨gb215, 0, none⟩ = some (.int .i64 a0_0) := (blk_cell BK215.out 0).trans rfl; have hcz7_1 : w6.cell? ⟨gb215, 1, none⟩ = some (.int .i64 a0_1) := (blk_cell BK215.out 1).trans rfl; have hcz7_2 : w6.cell? ⟨gb215, 2, none⟩ = some (.int .i64 a0_2) := (blk_cell BK215.out 2).trans rfl; have hcz7_3 : w6.cell? ⟨gb215, 3, none⟩ = some (.int .i64 a0_3) := (blk_cell BK215.out 3).trans rfl; have hfz7_0 := blk_frozen BK215.out 0; have hfz7_1 := blk_frozen BK215.out 1; have hfz7_2 := blk_frozen BK215.out 2; have hfz7_3 := blk_frozen BK215.out 3) | ((with_reducible refine gate_callee (f := 80) rfl ?_); refine goesL_ (some 8) rfl rfl Tryd.func80 (by kernel_rfl) rfl #[.agg #[.int .i64 a0_0, .int .i64 a0_1, .int .i64 a0_2, .int .i64 a0_3]] rfl (by (try simp only [List.map_toArray, List.map_cons, List.map_nil]); first | done | rfl | (simp only [List.length_drop, List.length_take]; rfl)) ?_; (with_reducible refine (geom_right.calls k a0_0 a0_1 a0_2 a0_3 true _ A3.out).mono ?_); rintro e w8 ⟨rfl, hb⟩; refine ⟨_, rfl, ?_⟩; have n0_ := Aside0.mk (blk_below (g := gb215) (o := .cells #[.int .i64 a0_0, .int .i64 a0_1, .int .i64 a0_2, .int .i64 a0_3] 23 (0, 0)) (by (with_reducible repeat (first | refine blk_drewN ?_ _ | refine blk_drew ?_ | refine blk_alloc ?_ _)); exact BK215.out) hb); have n1_ := Aside0.mk (below_step (by repeat (first | (with_reducible first | exact HB.out | apply below_alloc | apply pw_below_drewN | apply below_drew1 | refine below_set ?_ GE215.out) | exact HB.out)) hb); clear BK215; clear HB; have BK215 := n0_; have HB := n1_; clear n0_ n1_; (try clear hb); (try clear hb2); (try clear hk); (try clear hi)))
   go_ret2
   exact ⟨by first | rfl | (simp [errW_none, errW_some] <;> rfl) | (simp [*, errW_none, errW_some] <;> rfl), by repeat (first | (with_reducible first | exact HB.out | apply below_alloc | apply pw_below_drewN | apply below_drew1 | refine below_set ?_ GE215.out) | exact HB.out)⟩
  ·rw [if_neg c5] at H
   have c5b0 : decide (a1 < 0) = false := decide_eq_false c5
   clear c5
   by_cases c9 : a1 ≥ a0_3
   ·rw [if_pos c9] at H
    have c9b0 : decide (a0_3 ≤ a1) = true := decide_eq_true c9
    clear c9
    simp only [Option.some.injEq, Prod.mk.injEq] at H
    obtain ⟨rfl, rfl⟩ := H
    go_enter Tryd.func119, Tryd.ntmps119
    go_wp2_with (first | ((with_reducible refine HOpen.gate_append ?_); simp only [List.cons_append, List.nil_append]) | ((with_reducible refine gate_dst (N := 2) rfl ?_); refine box_event ?hg (N := 2) ?hd (cs := #[.int .i64 a0_0, .int .i64 a0_1, .int .i64 a0_2, .int .i64 a0_3]) (t := 23) ?hr ?_; (case hd => rfl); (case hg => rfl); (case hr => first | (go_simp; done) | (go_simp; rfl)); intro gb215 hg w10 hbox hb; have n0_ := Aside0.mk (below_step (by repeat (first | (with_reducible first | exact HB.out | apply below_alloc | apply pw_below_drewN | apply below_drew1) | exact HB.out)) hb); have n1_ := Aside0.mk (hbox); have n2_ := Aside0.mk ((by rw [hg]; exact (below_size (by repeat (first | (with_reducible first | exact HB.out | apply below_alloc | apply pw_below_drewN | apply below_drew1) | exact HB.out))) : w.heap.size ≤ gb215)); have n3_ := Aside0.mk ((by rw [hg]; exact (below_size (by repeat (first | (with_reducible first | exact HB.out | apply below_alloc | apply pw_below_drewN | apply below_drew1) | exact HB.out))) : w.heap.size ≤ gb215)); clear HB; have HB := n0_; have BK215 := n1_; have GW215 := n2_; have GE215 := n3_; clear n0_ n1_ n2_ n3_; clear hb hbox hg; have hcz11_0 : w10.cell? ⟨gb215, 0, none⟩ = some (.int .i64 a0_0) := (blk_cell BK215.out 0).trans rfl; have hcz11_1 : w10.cell? ⟨gb215, 1, none⟩ = some (.int .i64 a0_1) := (blk_cell BK215.out 1).trans rfl; have hcz11_2 : w10.cell? ⟨gb215, 2, none⟩ = some (.int .i64 a0_2) := (blk_cell BK215.out 2).trans rfl; have hcz11_3 : w10.cell? ⟨gb215, 3, none⟩ = some (.int .i64 a0_3) := (blk_cell BK215.out 3).trans rfl; have hfz11_0 := blk_frozen BK215.out 0; have hfz11_1 := blk_frozen BK215.out 1; have hfz11_2 := blk_frozen BK215.out 2; have hfz11_3 := blk_frozen BK215.out 3) | ((with_reducible refine gate_callee (f := 80) rfl ?_); refine goesL_ (some 8) rfl rfl Tryd.func80 (by kernel_rfl) rfl #[.agg #[.int .i64 a0_0, .int .i64 a0_1, .int .i64 a0_2, .int .i64 a0_3]] rfl (by (try simp only [List.map_toArray, List.map_cons, List.map_nil]); first | done | rfl | (simp only [List.length_drop, List.length_take]; rfl)) ?_; (with_reducible refine (geom_right.calls k a0_0 a0_1 a0_2 a0_3 true _ A3.out).mono ?_); rintro e w12 ⟨rfl, hb⟩; refine ⟨_, rfl, ?_⟩; have n0_ := Aside0.mk (blk_below (g := gb215) (o := .cells #[.int .i64 a0_0, .int .i64 a0_1, .int .i64 a0_2, .int .i64 a0_3] 23 (0, 0)) (by (with_reducible repeat (first | refine blk_drewN ?_ _ | refine blk_drew ?_ | refine blk_alloc ?_ _)); exact BK215.out) hb); have n1_ := Aside0.mk (below_step (by repeat (first | (with_reducible first | exact HB.out | apply below_alloc | apply pw_below_drewN | apply below_drew1 | refine below_set ?_ GE215.out) | exact HB.out)) hb); clear BK215; clear HB; have BK215 := n0_; have HB := n1_; clear n0_ n1_; (try clear hb); (try clear hb2); (try clear hk); (try clear hi); have hcz13_0 : w12.cell? ⟨gb215, 0, none⟩ = some (.int .i64 a0_0) := (blk_cell BK215.out 0).trans rfl; have hcz13_1 : w12.cell? ⟨gb215, 1, none⟩ = some (.int .i64 a0_1) := (blk_cell BK215.out 1).trans rfl; have hcz13_2 : w12.cell? ⟨gb215, 2, none⟩ = some (.int .i64 a0_2) := (blk_cell BK215.out 2).trans rfl; have hcz13_3 : w12.cell? ⟨gb215, 3, none⟩ = some (.int .i64 a0_3) := (blk_cell BK215.out 3).trans rfl; have hfz13_0 := blk_frozen BK215.out 0; have hfz13_1 := blk_frozen BK215.out 1; have hfz13_2 := blk_frozen BK215.out 2; have hfz13_3 := blk_frozen BK215.out 3))
    go_ret2
    exact ⟨by first | rfl | (simp [errW_none, errW_some] <;> rfl) | (simp [*, errW_none, errW_some] <;> rfl), by repeat (first | (with_reducible first | exact HB.out | apply below_alloc | apply pw_below_drewN | apply below_drew1 | refine below_set ?_ GE215.out) | exact HB.out)⟩
   ·rw [if_neg c9] at H
    have c9b0 : decide (a0_3 ≤ a1) = false := decide_eq_false c9
    clear c9
    by_cases c14 : 0 ≤ a0_0
    ·rw [if_pos c14] at H
     have c14b0 := eq_true c14
     have c14b1 : decide (0 ≤ a0_0) = true := decide_eq_true c14
     clear c14
     obtain ⟨ji15, hji15⟩ : ∃ j_ : Int, (shl .i64 a1 a0_0) = j_ := ⟨_, rfl⟩
     replace H : (some (ji15, 0)) = some (r1, r2) := by first | (rw [hji15] at H; exact H) | (simp only [hji15] at H ⊢; exact H)
     (try rw [hji15] at A3)
     have hji15_ : (IntKind.i64.wrap (a1 * 2 ^ min a0_0.toNat 64)) = ji15 := hji15
     have hji15z : a0_0 ≤ 64 → (IntKind.i64.wrap (a1 * 2 ^ a0_0.toNat)) = ji15 := shl_small hji15
     have hji15y : (wrap64 (a1 * 2 ^ min a0_0.toNat 64)) = ji15 := (i64_w _).symm.trans hji15_
     have hji15x : a0_0 ≤ 64 → (wrap64 (a1 * 2 ^ a0_0.toNat)) = ji15 := fun h_ => (i64_w _).symm.trans (hji15z h_)
     simp only [Option.some.injEq, Prod.mk.injEq] at H
     obtain ⟨rfl, rfl⟩ := H
     go_enter Tryd.func119, Tryd.ntmps119
     go_wp2_with (first | ((with_reducible refine HOpen.gate_append ?_); simp only [List.cons_append, List.nil_append]) | ((with_reducible refine gate_dst (N := 2) rfl ?_); refine box_event ?hg (N := 2) ?hd (cs := #[.int .i64 a0_0, .int .i64 a0_1, .int .i64 a0_2, .int .i64 a0_3]) (t := 23) ?hr ?_; (case hd => rfl); (case hg => rfl); (case hr => first | (go_simp; done) | (go_simp; rfl)); intro gb215 hg w16 hbox hb; have n0_ := Aside0.mk (below_step (by repeat (first | (with_reducible first | exact HB.out | apply below_alloc | apply pw_below_drewN | apply below_drew1) | exact HB.out)) hb); have n1_ := Aside0.mk (hbox); have n2_ := Aside0.mk ((by rw [hg]; exact (below_size (by repeat (first | (with_reducible first | exact HB.out | apply below_alloc | apply pw_below_drewN | apply below_drew1) | exact HB.out))) : w.heap.size ≤ gb215)); have n3_ := Aside0.mk ((by rw [hg]; exact (below_size (by repeat (first | (with_reducible first | exact HB.out | apply below_alloc | apply pw_below_drewN | apply below_drew1) | exact HB.out))) : w.heap.size ≤ gb215)); clear HB; have HB := n0_; have BK215 := n1_; have GW215 := n2_; have GE215 := n3_; clear n0_ n1_ n2_ n3_; clear hb hbox hg; have hcz17_0 : w16.cell? ⟨gb215, 0, none⟩ = some (.int .i64 a0_0) := (blk_cell BK215.out 0).trans rfl; have hcz17_1 : w16.cell? ⟨gb215, 1, none⟩ = some (.int .i64 a0_1) := (blk_cell BK215.out 1).trans rfl; have hcz17_2 : w16.cell? ⟨gb215, 2, none⟩ = some (.int .i64 a0_2) := (blk_cell BK215.out 2).trans rfl; have hcz17_3 : w16.cell? ⟨gb215, 3, none⟩ = some (.int .i64 a0_3) := (blk_cell BK215.out 3).trans rfl; have hfz17_0 := blk_frozen BK215.out 0; have hfz17_1 := blk_frozen BK215.out 1; have hfz17_2 := blk_frozen BK215.out 2; have hfz17_3 := blk_frozen BK215.out 3) | ((with_reducible refine gate_callee (f := 80) rfl ?_); refine goesL_ (some 8) rfl rfl Tryd.func80 (by kernel_rfl) rfl #[.agg #[.int .i64 a0_0, .int .i64 a0_1, .int .i64 a0_2, .int .i64 a0_3]] rfl (by (try simp only [List.map_toArray, List.map_cons, List.map_nil]); first | done | rfl | (simp only [List.length_drop, List.length_take]; rfl)) ?_; (with_reducible refine (geom_right.calls k a0_0 a0_1 a0_2 a0_3 true _ A3.out).mono ?_); rintro e w18 ⟨rfl, hb⟩; refine ⟨_, rfl, ?_⟩; have n0_ := Aside0.mk (blk_below (g := gb215) (o := .cells #[.int .i64 a0_0, .int .i64 a0_1, .int .i64 a0_2, .int .i64 a0_3] 23 (0, 0)) (by (with_reducible repeat (first | refine blk_drewN ?_ _ | refine blk_drew ?_ | refine blk_alloc ?_ _)); exact BK215.out) hb); have n1_ := Aside0.mk (below_step (by repeat (first | (with_reducible first | exact HB.out | apply below_alloc | apply pw_below_drewN | apply below_drew1 | refine below_set ?_ GE215.out) | exact HB.out)) hb); clear BK215; clear HB; have BK215 := n0_; have HB := n1_; clear n0_ n1_; (try clear hb); (try clear hb2); (try clear hk); (try clear hi); have hcz19_0 : w18.cell? ⟨gb215, 0, none⟩ = some (.int .i64 a0_0) := (blk_cell BK215.out 0).trans rfl; have hcz19_1 : w18.cell? ⟨gb215, 1, none⟩ = some (.int .i64 a0_1) := (blk_cell BK215.out 1).trans rfl; have hcz19_2 : w18.cell? ⟨gb215, 2, none⟩ = some (.int .i64 a0_2) := (blk_cell BK215.out 2).trans rfl; have hcz19_3 : w18.cell? ⟨gb215, 3, none⟩ = some (.int .i64 a0_3) := (blk_cell BK215.out 3).trans rfl; have hfz19_0 := blk_frozen BK215.out 0; have hfz19_1 := blk_frozen BK215.out 1; have hfz19_2 := blk_frozen BK215.out 2; have hfz19_3 := blk_frozen BK215.out 3))
     go_ret2
     exact ⟨by first | rfl | (simp [errW_none, errW_some] <;> rfl) | (simp only [← hji15]; first | rfl | (simp [errW_none, errW_some] <;> rfl)) | (simp [*, errW_none, errW_some] <;> rfl), by repeat (first | (with_reducible first | exact HB.out | apply below_alloc | apply pw_below_drewN | apply below_drew1 | refine below_set ?_ GE215.out) | exact HB.out)⟩
    ·rw [if_neg c14] at H
     exact absurd H (by simp)
 ·replace c4 := Bool.eq_false_iff.mpr c4
  subst c4
  have H1 : (some (0, 2)) = some (r1, r2) := by rw [if_neg (show ¬ (false = true) by decide)] at H; exact H
  clear H
  have H := H1
  clear H1
  simp only [Option.some.injEq, Prod.mk.injEq] at H
  obtain ⟨rfl, rfl⟩ := H
  go_enter Tryd.func119, Tryd.ntmps119
  go_wp2_with (first | ((with_reducible refine HOpen.gate_append ?_); simp only [List.cons_append, List.nil_append]) | ((with_reducible refine gate_dst (N := 2) rfl ?_); refine box_event ?hg (N := 2) ?hd (cs := #[.int .i64 a0_0, .int .i64 a0_1, .int .i64 a0_2, .int .i64 a0_3]) (t := 23) ?hr ?_; (case hd => rfl); (case hg => rfl); (case hr => first | (go_simp; done) | (go_simp; rfl)); intro gb215 hg w20 hbox hb; have n0_ := Aside0.mk (below_step (by repeat (first | (with_reducible first | exact HB.out | apply below_alloc | apply pw_below_drewN | apply below_drew1) | exact HB.out)) hb); have n1_ := Aside0.mk (hbox); have n2_ := Aside0.mk ((by rw [hg]; exact (below_size (by repeat (first | (with_reducible first | exact HB.out | apply below_alloc | apply pw_below_drewN | apply below_drew1) | exact HB.out))) : w.heap.size ≤ gb215)); have n3_ := Aside0.mk ((by rw [hg]; exact (below_size (by repeat (first | (with_reducible first | exact HB.out | apply below_alloc | apply pw_below_drewN | apply below_drew1) | exact HB.out))) : w.heap.size ≤ gb215)); clear HB; have HB := n0_; have BK215 := n1_; have GW215 := n2_; have GE215 := n3_; clear n0_ n1_ n2_ n3_; clear hb hbox hg; have hcz21_0 : w20.cell? ⟨gb215, 0, none⟩ = some (.int .i64 a0_0) := (blk_cell BK215.out 0).trans rfl; have hcz21_1 : w20.cell? ⟨gb215, 1, none⟩ = some (.int .i64 a0_1) := (blk_cell BK215.out 1).trans rfl; have hcz21_2 : w20.cell? ⟨gb215, 2, none⟩ = some (.int .i64 a0_2) := (blk_cell BK215.out 2).trans rfl; have hcz21_3 : w20.cell? ⟨gb215, 3, none⟩ = some (.int .i64 a0_3) := (blk_cell BK215.out 3).trans rfl; have hfz21_0 := blk_frozen BK215.out 0; have hfz21_1 := blk_frozen BK215.out 1; have hfz21_2 := blk_frozen BK215.out 2; have hfz21_3 := blk_frozen BK215.out 3) | ((with_reducible refine gate_callee (f := 80) rfl ?_); refine goesL_ (some 8) rfl rfl Tryd.func80 (by kernel_rfl) rfl #[.agg #[.int .i64 a0_0, .int .i64 a0_1, .int .i64 a0_2, .int .i64 a0_3]] rfl (by (try simp only [List.map_toArray, List.map_cons, List.map_nil]); first | done | rfl | (simp only [List.length_drop, List.length_take]; rfl)) ?_; (with_reducible refine (geom_right.calls k a0_0 a0_1 a0_2 a0_3 false _ A3.out).mono ?_); rintro e w22 ⟨rfl, hb⟩; refine ⟨_, rfl, ?_⟩; have n0_ := Aside0.mk (blk_below (g := gb215) (o := .cells #[.int .i64 a0_0, .int .i64 a0_1, .int .i64 a0_2, .int .i64 a0_3] 23 (0, 0)) (by (with_reducible repeat (first | refine blk_drewN ?_ _ | refine blk_drew ?_ | refine blk_alloc ?_ _)); exact BK215.out) hb); have n1_ := Aside0.mk (below_step (by repeat (first | (with_reducible first | exact HB.out | apply below_alloc | apply pw_below_drewN | apply below_drew1 | refine below_set ?_ GE215.out) | exact HB.out)) hb); clear BK215; clear HB; have BK215 := n0_; have HB := n1_; clear n0_ n1_; (try clear hb); (try clear hb2); (try clear hk); (try clear hi)))
  go_ret2
  exact ⟨by first | rfl | (simp [errW_none, errW_some] <;> rfl) | (simp [*, errW_none, errW_some] <;> rfl), by repeat (first | (with_reducible first | exact HB.out | apply below_alloc | apply pw_below_drewN | apply below_drew1 | refine below_set ?_ GE215.out) | exact HB.out)⟩
end Go.Proofs.YtmmfplogkikbjaaDoor.HPB
