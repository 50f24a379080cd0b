/- What the functions on bits, places and ranges come to, of the program and of the document alike, as plain functions. Conditions: none. -/
import Derived.Test.YtgahpdoiddhdaaaHBitmapx8
import Derived.Test.YtgahpdoiddhdaaaPKit
import Derived.Lib.Strings
import Derived.Laws.BitsLemmas
namespace Go.Proofs.Ytgahpdoiddhdaaa.BitmapLem
open Go.RowKit Go.Proofs.Ytgahpdoiddhdaaa.HBitmap Go.Proofs.Ytgahpdoiddhdaaa.PKit Go.Proofs.YtgahpdoiddhdaaaW.PrintWords Go.Proofs.YtgahpdoiddhdaaaW.PrintLast Go.Proofs.YtgahpdoiddhdaaaW.PrintMore
set_option linter.unusedSimpArgs false
set_option linter.unusedVariables false

/-! ### bits of a byte -/
def b1 (b : Bool) : Int := if b then 1 else 0
def pk8 (f : Nat → Bool) : Int := b1 (f 0) + 2 * b1 (f 1) + 4 * b1 (f 2) + 8 * b1 (f 3) + 16 * b1 (f 4) + 32 * b1 (f 5) + 64 * b1 (f 6) + 128 * b1 (f 7)
def tb (c k : Int) : Bool := Go.bits .and .u8 (shr .u8 c k) 1 == 1
theorem lt8 {k : Nat} (h : k < 8) : k = 0 ∨ k = 1 ∨ k = 2 ∨ k = 3 ∨ k = 4 ∨ k = 5 ∨ k = 6 ∨ k = 7 := by omega
def l8 (b0 b1 b2 b3 b4 b5 b6 b7 : Bool) (i : Nat) : Bool := [b0, b1, b2, b3, b4, b5, b6, b7].getD i false
theorem tb_all : ∀ (b0 b1 b2 b3 b4 b5 b6 b7 : Bool) (k : Fin 8), tb (pk8 (l8 b0 b1 b2 b3 b4 b5 b6 b7)) (k.val : Int) = l8 b0 b1 b2 b3 b4 b5 b6 b7 k.val := by decide +kernel
theorem pk_all : ∀ c : Fin 256, pk8 (fun i => tb (c.val : Int) (i : Int)) = (c.val : Int) := by decide +kernel
theorem or_all : ∀ (b0 b1 b2 b3 b4 b5 b6 b7 : Bool) (k : Fin 8), l8 b0 b1 b2 b3 b4 b5 b6 b7 k.val = false → Go.bits .or .u8 (pk8 (l8 b0 b1 b2 b3 b4 b5 b6 b7)) (shl .u8 1 (k.val : Int)) = pk8 (fun i => if i = k.val then true else l8 b0 b1 b2 b3 b4 b5 b6 b7 i) := by decide +kernel
theorem pk8_congr {f g : Nat → Bool} (h : ∀ i, i < 8 → f i = g i) : pk8 f = pk8 g := by
  unfold pk8
  rw [h 0 (by omega), h 1 (by omega), h 2 (by omega), h 3 (by omega), h 4 (by omega), h 5 (by omega), h 6 (by omega), h 7 (by omega)]
theorem l8_of (f : Nat → Bool) {k : Nat} (h : k < 8) : l8 (f 0) (f 1) (f 2) (f 3) (f 4) (f 5) (f 6) (f 7) k = f k := by
  rcases lt8 h with rfl | rfl | rfl | rfl | rfl | rfl | rfl | rfl <;> rfl
theorem tb_pk8 (f : Nat → Bool) {k : Nat} (h : k < 8) : tb (pk8 f) (k : Int) = f k := by
  have h1 := tb_all (f 0) (f 1) (f 2) (f 3) (f 4) (f 5) (f 6) (f 7) ⟨k, h⟩
  rw [pk8_congr (g := f) (fun i hi => l8_of f hi), l8_of f h] at h1
  exact h1
theorem pk8_tb {c : Int} (h0 : 0 ≤ c) (h1 : c < 256) : pk8 (fun i => tb c (i : Int)) = c := by
  have := pk_all ⟨c.toNat, by omega⟩
  simp only [Int.toNat_of_nonneg h0] at this
  exact this
theorem or_pk8 (f : Nat → Bool) {k : Nat} (h : k < 8) (hf : f k = false) : Go.bits .or .u8 (pk8 f) (shl .u8 1 (k : Int)) = pk8 (fun i => if i = k then true else f i) := by
  have h1 := or_all (f 0) (f 1) (f 2) (f 3) (f 4) (f 5) (f 6) (f 7) ⟨k, h⟩ (by rw [l8_of f h]; exact hf)
  rw [pk8_congr (g := f) (fun i hi => l8_of f hi)] at h1
  rw [h1]
  refine pk8_congr (fun i hi => ?_)
  show (if i = k then true else _) = _
  rw [l8_of f hi]
theorem b1_range (b : Bool) : 0 ≤ b1 b ∧ b1 b ≤ 1 := by cases b <;> simp [b1]
theorem pk8_range (f : Nat → Bool) : 0 ≤ pk8 f ∧ pk8 f < 256 := by
  unfold pk8
  have := b1_range (f 0); have := b1_range (f 1); have := b1_range (f 2); have := b1_range (f 3); have := b1_range (f 4); have := b1_range (f 5); have := b1_range (f 6); have := b1_range (f 7)
  omega
theorem pk8_false : pk8 (fun _ => false) = 0 := by decide

/-! ### how the code spells places -/
theorem and7 {n : Nat} (h : n < 4611686018427387904) : Go.bits .and .i64 (n : Int) 7 = ((n % 8 : Nat) : Int) := by
  have := Go.bits_mask .i64 62 (by decide) (fun m h0 h1 => by rw [Go.IntKind.wrap_i64]; omega) 3 (by decide) (n : Int) (by omega) (by omega)
  have e : ((2 : Int) ^ 3 - 1) = 7 := by decide
  have e2 : ((2 : Int) ^ 3) = 8 := by decide
  rw [e, e2] at this
  rw [this]
  omega
theorem div8 (n : Nat) : ((n : Int) / 8) = ((n / 8 : Nat) : Int) := by omega
theorem tdiv8 {n : Nat} (h : n < 4611686018427387904) : wrap64 (Int.tdiv (n : Int) 8) = ((n / 8 : Nat) : Int) := by
  have : Int.tdiv (n : Int) 8 = ((n / 8 : Nat) : Int) := by rw [Int.tdiv_eq_ediv_of_nonneg (by omega)]; omega
  rw [this, wrap_in (by omega) (by omega)]
theorem tmod8 (n : Nat) : Int.tmod (n : Int) 8 = ((n % 8 : Nat) : Int) := by rw [Int.tmod_eq_emod_of_nonneg (by omega)]; omega
theorem up8 {n : Nat} (h : n < 4611686018427387000) : wrap64 (Int.tdiv (wrap64 ((n : Int) + 7)) 8) = (((n + 7) / 8 : Nat) : Int) := by
  have : wrap64 ((n : Int) + 7) = ((n + 7 : Nat) : Int) := by rw [wrap_in (by omega) (by omega)]; omega
  rw [this, tdiv8 (by omega)]
theorem bytes_n {n : Nat} (h : n < 4611686018427387000) : bitmap_bytes.f (n : Int) = some (((n + 7) / 8 : Nat) : Int) := by
  unfold bitmap_bytes.f
  have : wrap64 (wrap64 ((n : Int) + 8) - 1) = ((n + 7 : Nat) : Int) := by rw [wrap_in (n := (n : Int) + 8) (by omega) (by omega), wrap_in (by omega) (by omega)]; omega
  rw [this, tdiv8 (by omega)]

/-! ### Pack -/
def packN (m : Nat) (a : List Bool) (n : Nat) : List Int := (List.range m).map fun j => pk8 fun i => decide (8 * j + i < n) && a.getD (8 * j + i) false
def packL (a : List Bool) : List Int := (List.range ((a.length + 7) / 8)).map fun j => pk8 fun i => a.getD (8 * j + i) false
theorem packN_len (m : Nat) (a : List Bool) (n : Nat) : (packN m a n).length = m := by simp [packN]
theorem packN_get {m : Nat} (a : List Bool) (n : Nat) {j : Nat} (h : j < m) : (packN m a n).getD j 0 = pk8 fun i => decide (8 * j + i < n) && a.getD (8 * j + i) false := by
  rw [getD_lt _ (by rw [packN_len]; exact h)]
  simp [packN]
theorem packN_zero (m : Nat) (a : List Bool) : packN m a 0 = List.replicate m 0 := by
  apply List.ext_getElem (by simp [packN])
  intro j h1 h2
  simp [packN, pk8_false]
theorem packN_all (a : List Bool) : packN ((a.length + 7) / 8) a a.length = packL a := by
  unfold packN packL
  apply List.map_congr_left
  intro j _
  refine pk8_congr (fun i _ => ?_)
  by_cases h : 8 * j + i < a.length
  · simp [h]
  · have : a.getD (8 * j + i) false = false := by simp [List.getD, List.getElem?_eq_none (Nat.not_lt.1 h)]
    rw [this]; simp
theorem packN_no (m : Nat) (a : List Bool) (n : Nat) (h : a.getD n false = false) : packN m a (n + 1) = packN m a n := by
  unfold packN
  apply List.map_congr_left
  intro j _
  refine pk8_congr (fun i _ => ?_)
  by_cases e : 8 * j + i = n
  · rw [e, h]; simp
  · have : decide (8 * j + i < n + 1) = decide (8 * j + i < n) := by simp; omega
    rw [this]
theorem packN_yes (m : Nat) (a : List Bool) (n : Nat) (hm : n / 8 < m) (h : a.getD n false = true) :
    (packN m a n).set (n / 8) (Go.bits .or .u8 ((packN m a n).getD (n / 8) 0) (shl .u8 1 ((n % 8 : Nat) : Int))) = packN m a (n + 1) := by
  have hn : 8 * (n / 8) + n % 8 = n := by omega
  rw [packN_get a n hm, or_pk8 _ (by omega) (by rw [hn]; simp)]
  apply List.ext_getElem (by simp [packN])
  intro j h1 h2
  have hj : j < m := by simpa [packN] using h2
  rw [List.getElem_set]
  by_cases e : n / 8 = j
  · subst e
    rw [if_pos rfl]
    simp only [packN, List.getElem_map, List.getElem_range]
    refine pk8_congr (fun i hi => ?_)
    by_cases e2 : i = n % 8
    · subst e2
      rw [if_pos rfl, hn, h]
      simp
    · rw [if_neg e2]
      have : decide (8 * (n / 8) + i < n + 1) = decide (8 * (n / 8) + i < n) := by simp; omega
      rw [this]
  · rw [if_neg e]
    simp only [packN, List.getElem_map, List.getElem_range]
    refine pk8_congr (fun i hi => ?_)
    have : decide (8 * j + i < n + 1) = decide (8 * j + i < n) := by simp; omega
    rw [this]

theorem pack_l0 (a : List Bool) (hm : a.length < 4611686018427387904) : ∀ (d n : Nat), n + d = a.length →
    Ev (fun k => bitmap_Pack.l0 k (packN ((a.length + 7) / 8) a n) a (a.length : Int) (n : Int)) (strOfNums (packL a), 0)
  | 0, n, hn => by
    refine Ev.step (fun k => rfl) ?_
    simp only [bitmap_Pack.l0]
    have e : n = a.length := by omega
    subst e
    rw [packN_all]
    exact Ev.neg (by omega) (Ev.now _)
  | d + 1, n, hn => by
    have ih := pack_l0 a hm d (n + 1) (by omega)
    refine Ev.step (fun k => rfl) ?_
    simp only [bitmap_Pack.l0]
    refine Ev.pos (by omega) (Ev.pos (by omega) (Ev.pos (by omega) ?_))
    rw [rdOf_nat, and7 (by omega), div8, rd_nat, wrap_succ (by omega)]
    by_cases h : a.getD n false = true
    · refine Ev.pos h (Ev.pos (by omega) (Ev.pos (by rw [packN_len]; omega) (Ev.pos (by omega) ?_)))
      rw [Int.toNat_natCast, packN_yes _ a n (by omega) h]
      exact ih
    · have h' : a.getD n false = false := by simpa using h
      refine Ev.neg h ?_
      rw [packN_no _ a n h'] at ih
      exact ih

theorem rpack_l0 (a : List Bool) (hm : a.length < 4611686018427387904) : ∀ (d n : Nat), n + d = a.length →
    Ev (fun k => caulkref39_Pack.l0 k (packN ((a.length + 7) / 8) a n) a (a.length : Int) (n : Int)) (strOfNums (packL a), 0)
  | 0, n, hn => by
    refine Ev.step (fun k => rfl) ?_
    simp only [caulkref39_Pack.l0]
    have e : n = a.length := by omega
    subst e
    rw [packN_all]
    exact Ev.neg (by omega) (Ev.now _)
  | d + 1, n, hn => by
    have ih := rpack_l0 a hm d (n + 1) (by omega)
    refine Ev.step (fun k => rfl) ?_
    simp only [caulkref39_Pack.l0]
    refine Ev.pos (by omega) (Ev.pos (by omega) (Ev.pos (by omega) ?_))
    rw [rdOf_nat, tmod8, tdiv8 (by omega), rd_nat, wrap_succ (by omega)]
    by_cases h : a.getD n false = true
    · refine Ev.pos h (Ev.pos (by omega) (Ev.pos (by rw [packN_len]; omega) (Ev.pos (by omega) ?_)))
      rw [Int.toNat_natCast, packN_yes _ a n (by omega) h]
      exact ih
    · have h' : a.getD n false = false := by simpa using h
      refine Ev.neg h ?_
      rw [packN_no _ a n h'] at ih
      exact ih

def packV (a : List Bool) : ByteArray × Int := if (a.length : Int) > 4096 then (⟨#[]⟩, 7) else (strOfNums (packL a), 0)
theorem pack_ev (a : List Bool) : Ev (fun k => bitmap_Pack.f k a) (packV a) := by
  simp only [bitmap_Pack.f, packV]
  by_cases h : (a.length : Int) > 4096
  · rw [if_pos h]; exact Ev.pos h (Ev.now _)
  · rw [if_neg h]
    refine Ev.neg h ?_
    rw [bytes_n (by omega)]
    refine Ev.let_ (Ev.pos (by omega) (Ev.pos (by omega) ?_))
    rw [Int.toNat_natCast, ← packN_zero _ a]
    exact pack_l0 a (by omega) a.length 0 (by omega)
theorem rpack_ev (a : List Bool) : Ev (fun k => caulkref39_Pack.f k a) (packV a) := by
  simp only [caulkref39_Pack.f, packV]
  by_cases h : (a.length : Int) > 4096
  · rw [if_pos h]; exact Ev.pos h (Ev.now _)
  · rw [if_neg h]
    refine Ev.neg h ?_
    rw [up8 (by omega)]
    refine Ev.pos (by omega) (Ev.pos (by omega) ?_)
    rw [Int.toNat_natCast, ← packN_zero _ a]
    exact rpack_l0 a (by omega) a.length 0 (by omega)

/-! ### Unpack -/
def bitS (s : ByteArray) (i : Nat) : Bool := tb (bt s ((i / 8 : Nat) : Int)) ((i % 8 : Nat) : Int)
def useN (s : ByteArray) (N n : Nat) : List Bool := (List.range n).map (bitS s) ++ List.replicate (N - n) false
theorem useN_len (s : ByteArray) {N n : Nat} (h : n ≤ N) : (useN s N n).length = N := by simp [useN]; omega
theorem useN_set (s : ByteArray) {N n : Nat} (h : n < N) : (useN s N n).set n (bitS s n) = useN s N (n + 1) := by
  unfold useN
  rw [List.set_append_right _ _ (by simp), List.length_map, List.length_range, Nat.sub_self, List.range_succ, List.map_append, List.append_assoc]
  congr 1
  have : N - n = (N - (n + 1)) + 1 := by omega
  rw [this, List.replicate_succ]
  simp
/-- Is one of the bits from i on, below m, set? -/
def rest (s : ByteArray) (i m : Nat) : Bool := (List.range (m - i)).any fun t => bitS s (i + t)
theorem rest_end (s : ByteArray) {i m : Nat} (h : m ≤ i) : rest s i m = false := by simp [rest, Nat.sub_eq_zero_of_le h]
theorem rest_step (s : ByteArray) {i m : Nat} (h : i < m) : rest s i m = (bitS s i || rest s (i + 1) m) := by
  unfold rest
  have : m - i = (m - (i + 1)) + 1 := by omega
  rw [this, List.range_succ_eq_map, List.any_cons, List.any_map]
  congr 1
  congr 1
  funext t
  simp only [Function.comp, Nat.succ_eq_add_one]
  congr 1
  omega
theorem rest_iff (s : ByteArray) (i m : Nat) : rest s i m = false ↔ ∀ j, i ≤ j → j < m → bitS s j = false := by
  unfold rest
  rw [List.any_eq_false]
  constructor
  · intro h j h1 h2
    have := h (j - i) (List.mem_range.2 (by omega))
    rw [Nat.add_sub_cancel' h1] at this
    simpa using this
  · intro h t ht
    simpa using h (i + t) (by omega) (by have := List.mem_range.1 ht; omega)

theorem unpack_hi (s : ByteArray) (N : Nat) (x : List Bool) (hs : s.size ≤ 4611686018427387) : ∀ (d n : Nat), N ≤ n → n + d = 8 * s.size →
    Ev (fun k => bitmap_Unpack.l0 k (N : Int) s x ((8 * s.size : Nat) : Int) (n : Int)) (if rest s n (8 * s.size) then ([], 6) else (x, 0))
  | 0, n, hN, hn => by
    refine Ev.step (fun k => rfl) ?_
    simp only [bitmap_Unpack.l0]
    rw [rest_end s (by omega)]
    exact Ev.neg (by omega) (Ev.now _)
  | d + 1, n, hN, hn => by
    have ih := unpack_hi s N x hs d (n + 1) (by omega) (by omega)
    refine Ev.step (fun k => rfl) ?_
    simp only [bitmap_Unpack.l0]
    rw [and7 (by omega), div8, wrap_succ (by omega), rest_step s (by omega)]
    refine Ev.pos (by omega) (Ev.pos (by omega) (Ev.pos (by omega) (Ev.pos (by omega) (Ev.neg (by omega) ?_))))
    by_cases h : bitS s n = true
    · rw [h, Bool.true_or]
      refine Ev.pos ?_ (Ev.now _)
      unfold bitS tb at h
      simpa using h
    · have h' : bitS s n = false := by simpa using h
      rw [h', Bool.false_or]
      refine Ev.neg ?_ ih
      unfold bitS tb at h
      simpa using h

theorem unpack_lo (s : ByteArray) (N : Nat) (hs : s.size ≤ 4611686018427387) (hN : N ≤ 8 * s.size) : ∀ (d n : Nat), n + d = N →
    Ev (fun k => bitmap_Unpack.l0 k (N : Int) s (useN s N n) ((8 * s.size : Nat) : Int) (n : Int)) (if rest s N (8 * s.size) then ([], 6) else (useN s N N, 0))
  | 0, n, hn => by
    have e : n = N := by omega
    subst e
    exact unpack_hi s n _ hs (8 * s.size - n) n (Nat.le_refl _) (by omega)
  | d + 1, n, hn => by
    have ih := unpack_lo s N hs hN d (n + 1) (by omega)
    refine Ev.step (fun k => rfl) ?_
    simp only [bitmap_Unpack.l0]
    rw [and7 (by omega), div8, wrap_succ (by omega)]
    refine Ev.pos (by omega) (Ev.pos (by omega) (Ev.pos (by omega) (Ev.pos (by omega) (Ev.pos (by omega) (Ev.pos (by omega) (Ev.pos (by rw [useN_len s (by omega)]; omega) ?_))))))
    rw [Int.toNat_natCast]
    have : (Go.bits .and .u8 (shr .u8 (bt s ((n / 8 : Nat) : Int)) ((n % 8 : Nat) : Int)) 1 == 1) = bitS s n := rfl
    rw [this, useN_set s (by omega)]
    exact ih

theorem runpack_l0 (s : ByteArray) (N : Nat) (hs : s.size ≤ 4611686018427387) (hN : N ≤ 8 * s.size) (hN2 : N ≤ 4096) : ∀ (d n : Nat), n + d = N →
    Ev (fun k => caulkref39_Unpack.l0 k s (useN s N n) (N : Int) (n : Int)) (if (strOfNums (packL (useN s N N))).toList = s.toList then (useN s N N, 0) else ([], 6))
  | 0, n, hn => by
    have e : n = N := by omega
    subst e
    refine Ev.step (fun k => rfl) ?_
    simp only [caulkref39_Unpack.l0]
    refine Ev.neg (by omega) (Ev.bind (rpack_ev _) ?_)
    have : packV (useN s n n) = (strOfNums (packL (useN s n n)), 0) := by
      unfold packV
      rw [if_neg (by rw [useN_len s (Nat.le_refl _)]; omega)]
    rw [this]
    by_cases h : (strOfNums (packL (useN s n n))).toList = s.toList
    · rw [if_pos h, if_pos h]; exact Ev.now _
    · rw [if_neg h, if_neg h]; exact Ev.now _
  | d + 1, n, hn => by
    have ih := runpack_l0 s N hs hN hN2 d (n + 1) (by omega)
    refine Ev.step (fun k => rfl) ?_
    simp only [caulkref39_Unpack.l0]
    rw [tmod8, tdiv8 (by omega), wrap_succ (by omega)]
    refine Ev.pos (by omega) (Ev.pos (by omega) (Ev.pos (by omega) (Ev.pos (by omega) (Ev.pos (by omega) (Ev.pos (by rw [useN_len s (by omega)]; omega) ?_)))))
    rw [Int.toNat_natCast]
    have : (Go.bits .and .u8 (shr .u8 (bt s ((n / 8 : Nat) : Int)) ((n % 8 : Nat) : Int)) 1 == 1) = bitS s n := rfl
    rw [this, useN_set s (by omega)]
    exact ih

theorem bytes_inj {a b : ByteArray} (h : a.toList = b.toList) : a = b := by
  rw [Go.Lib.toList_data, Go.Lib.toList_data] at h
  cases a; cases b
  simp only [ByteArray.mk.injEq]
  exact Array.toList_inj.1 h
theorem bt_nat (s : ByteArray) (j : Nat) (h : j < s.size) : bt s (j : Int) = ((s.data.toList[j]'(by rw [Array.length_toList]; exact h)).toNat : Int) := by
  unfold bt
  rw [dif_pos (by simpa using h)]
  rfl
theorem strOfNums_bt (xs : List Int) (j : Nat) (h : j < xs.length) (h0 : 0 ≤ xs[j]) (h1 : xs[j] < 256) : bt (strOfNums xs) (j : Int) = xs[j] := by
  rw [bt_nat _ _ (by rw [strOfNums_size]; exact h)]
  simp only [strOfNums_data, List.getElem_map]
  rw [UInt8.toNat_ofNat']
  omega
/-- Bytes are those numbers, if each is. -/
theorem bytes_ext {a b : ByteArray} (hs : a.size = b.size) (h : ∀ j, j < a.size → bt a (j : Int) = bt b (j : Int)) : a = b := by
  cases a; cases b
  simp only [ByteArray.mk.injEq]
  apply Array.toList_inj.1
  apply List.ext_getElem (by simpa [ByteArray.size] using hs)
  intro j h1 h2
  have := h j (by simpa [ByteArray.size] using h1)
  rw [bt_nat _ _ (by simpa [ByteArray.size] using h1), bt_nat _ _ (by simpa [ByteArray.size] using h2)] at this
  exact UInt8.toNat_inj.1 (Int.ofNat_inj.1 this)
theorem packL_len (a : List Bool) : (packL a).length = (a.length + 7) / 8 := by simp [packL]
theorem packL_bt (a : List Bool) (j : Nat) (h : j < (a.length + 7) / 8) : bt (strOfNums (packL a)) (j : Int) = pk8 fun i => a.getD (8 * j + i) false := by
  have e : (packL a)[j]'(by rw [packL_len]; exact h) = pk8 fun i => a.getD (8 * j + i) false := by simp [packL]
  have := pk8_range fun i => a.getD (8 * j + i) false
  rw [strOfNums_bt _ j (by rw [packL_len]; exact h) (by rw [e]; omega) (by rw [e]; omega), e]
theorem useN_get (s : ByteArray) (N i : Nat) : (useN s N N).getD i false = (decide (i < N) && bitS s i) := by
  unfold useN
  rw [Nat.sub_self, List.replicate_zero, List.append_nil]
  by_cases h : i < N
  · rw [getD_lt _ (by simpa using h)]; simp [h]
  · simp [List.getD, h]
theorem bt_pk8 (s : ByteArray) (j : Nat) (h : j < s.size) : bt s (j : Int) = pk8 fun i => tb (bt s (j : Int)) (i : Int) := (pk8_tb (bt_range s _).1 (by have := (bt_range s (j : Int)).2; omega)).symm
theorem bitS_at (s : ByteArray) (j i : Nat) (h : i < 8) : bitS s (8 * j + i) = tb (bt s (j : Int)) (i : Int) := by
  unfold bitS
  rw [show (8 * j + i) / 8 = j by omega, show (8 * j + i) % 8 = i by omega]
/-- What is packed out of what was unpacked is the text just if nothing stands behind it. -/
theorem back_iff (s : ByteArray) (N : Nat) (hs : s.size = (N + 7) / 8) : ((strOfNums (packL (useN s N N))).toList = s.toList) ↔ rest s N (8 * s.size) = false := by
  have hl : (useN s N N).length = N := useN_len s (Nat.le_refl _)
  rw [rest_iff]
  constructor
  · intro h j h1 h2
    have e := bytes_inj h
    have hj : j / 8 < (N + 7) / 8 := by omega
    have h3 := packL_bt (useN s N N) (j / 8) (by rw [hl]; exact hj)
    rw [e] at h3
    have h4 : bitS s (8 * (j / 8) + j % 8) = false := by
      rw [bitS_at s _ _ (by omega), h3, tb_pk8 _ (by omega), useN_get]
      have : ¬ (8 * (j / 8) + j % 8 < N) := by omega
      simp [this]
    rwa [show 8 * (j / 8) + j % 8 = j by omega] at h4
  · intro h
    congr 1
    refine bytes_ext (by rw [strOfNums_size, packL_len, hl, hs]) (fun j hj => ?_)
    rw [strOfNums_size, packL_len, hl] at hj
    rw [packL_bt _ j (by rw [hl]; exact hj), bt_pk8 s j (by omega)]
    refine pk8_congr (fun i hi => ?_)
    rw [useN_get, ← bitS_at s j i hi]
    by_cases h1 : 8 * j + i < N
    · simp [h1]
    · rw [h _ (by omega) (by omega)]; simp

def unpV (n : Int) (s : ByteArray) : List Bool × Int :=
  if n < 0 ∨ n > 4096 then ([], 1) else if s.size ≠ (n.toNat + 7) / 8 then ([], 6) else if rest s n.toNat (8 * s.size) then ([], 6) else (useN s n.toNat n.toNat, 0)
theorem unpack_ev (n : Int) (s : ByteArray) : Ev (fun k => bitmap_Unpack.f k n s) (unpV n s) := by
  simp only [bitmap_Unpack.f, unpV]
  by_cases h0 : n < 0
  · rw [if_pos (Or.inl h0)]
    refine Ev.pos h0 (Ev.step (fun k => rfl) ?_)
    simp only [bitmap_Unpack.j0]
    exact Ev.pos (by simp) (Ev.now _)
  refine Ev.neg h0 (Ev.step (fun k => rfl) ?_)
  simp only [bitmap_Unpack.j0]
  by_cases h1 : n > 4096
  · rw [if_pos (Or.inr h1)]
    exact Ev.pos (by simpa using h1) (Ev.now _)
  rw [if_neg (by omega)]
  refine Ev.neg (by simpa using h1) ?_
  obtain ⟨N, rfl⟩ := Int.eq_ofNat_of_zero_le (Int.not_lt.1 h0)
  rw [bytes_n (by omega), Int.toNat_natCast]
  refine Ev.let_ ?_
  by_cases h2 : s.size = (N + 7) / 8
  · rw [if_neg (by simpa using h2)]
    refine Ev.pos (by omega) (Ev.pos (by omega) (Ev.pos (by omega) ?_))
    have e8 : wrap64 (8 * (s.size : Int)) = ((8 * s.size : Nat) : Int) := by rw [wrap_in (by omega) (by omega)]; omega
    rw [e8]
    have := unpack_lo s N (by omega) (by omega) N 0 (by omega)
    have e0 : useN s N 0 = List.replicate N false := by simp [useN]
    rw [e0] at this
    exact this
  · rw [if_pos h2]
    exact Ev.neg (by omega) (Ev.now _)
theorem runpack_ev (n : Int) (s : ByteArray) : Ev (fun k => caulkref39_Unpack.f k n s) (unpV n s) := by
  simp only [caulkref39_Unpack.f, unpV]
  by_cases h0 : n < 0
  · rw [if_pos (Or.inl h0)]
    refine Ev.pos h0 (Ev.step (fun k => rfl) ?_)
    simp only [caulkref39_Unpack.j0]
    exact Ev.pos (by simp) (Ev.now _)
  refine Ev.neg h0 (Ev.step (fun k => rfl) ?_)
  simp only [caulkref39_Unpack.j0]
  by_cases h1 : n > 4096
  · rw [if_pos (Or.inr h1)]
    exact Ev.pos (by simpa using h1) (Ev.now _)
  rw [if_neg (by omega)]
  refine Ev.neg (by simpa using h1) ?_
  obtain ⟨N, rfl⟩ := Int.eq_ofNat_of_zero_le (Int.not_lt.1 h0)
  rw [up8 (by omega), Int.toNat_natCast]
  by_cases h2 : s.size = (N + 7) / 8
  · rw [if_neg (by simpa using h2)]
    refine Ev.pos (by omega) (Ev.pos (by omega) (Ev.pos (by omega) (Ev.let_ ?_)))
    rw [List.length_replicate]
    have := runpack_l0 s N (by omega) (by omega) (by omega) N 0 (by omega)
    have e0 : useN s N 0 = List.replicate N false := by simp [useN]
    rw [e0] at this
    refine Ev.value this ?_
    by_cases h3 : rest s N (8 * s.size) = false
    · rw [if_pos ((back_iff s N h2).2 h3), h3]; rfl
    · rw [if_neg (fun e => h3 ((back_iff s N h2).1 e)), if_pos (by simpa using h3)]
  · rw [if_pos h2]
    exact Ev.neg (by omega) (Ev.now _)

end Go.Proofs.Ytgahpdoiddhdaaa.BitmapLem
