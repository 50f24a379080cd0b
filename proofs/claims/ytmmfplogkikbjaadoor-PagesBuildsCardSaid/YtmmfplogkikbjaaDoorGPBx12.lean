/- a text of this claim -/
import Derived.Test.YtmmfplogkikbjaaDoorGPBx0
import Derived.Test.YtmmfplogkikbjaaDoorGPBx3
import Derived.Test.YtmmfplogkikbjaaDoorGPBx4
import Derived.Test.YtmmfplogkikbjaaDoorGPBx6
import Derived.Test.YtmmfplogkikbjaaDoorGPBx7
import Derived.Test.YtmmfplogkikbjaaDoorGPBx10
import Derived.Test.YtmmfplogkikbjaaDoorGPBx11
namespace Go.Proofs.YtmmfplogkikbjaaDoor.HPB
open Go.RowKit Go.Proofs.YtmmfplogkikbjaaDoorW.PrintWords Go.Proofs.YtmmfplogkikbjaaDoorW.PrintLast Go.Proofs.YtmmfplogkikbjaaDoorW.PrintMore
attribute [local go_sem] max2_int min2_int max_two min_two max_three min_three max_four min_four
set_option linter.unusedVariables false
set_option linter.unusedSimpArgs false
section
open Go Go.Shelf Go.Maps Go.Proofs.YtmmfplogkikbjaaDoor.Seq Go.Proofs.YtmmfplogkikbjaaDoor.MapL Go.Proofs.YtmmfplogkikbjaaDoorW.PrintLast
attribute [local go_sem] Oper.semAt_some max2_int min2_int max_two min_two
theorem new2 (w : World) (o1 o2 : Obj) : ((w.alloc o1).alloc o2).heap[w.heap.size + 1]? = some o2 := by
 have := World.alloc_heap_new (w.alloc o1) o2
 rwa [World.size_alloc] at this
theorem new1of2 (w : World) (o1 o2 : Obj) : ((w.alloc o1).alloc o2).heap[w.heap.size]? = some o1 :=
 (Below.heap_alloc _ _ _ (by simp)).trans (World.alloc_heap_new w o1)
theorem below2 (w : World) (o1 o2 : Obj) : Below w.heap.size w ((w.alloc o1).alloc o2) := ((Below.refl _ w).alloc (Nat.le_refl _) _).alloc (by simp) _
section
variable {w : World} {g : Nat} {t : TypeId} {a b c d : Value}
theorem blk4 (h : w.heap[g]? = some (.cells #[a, b, c, d] t (0, 0))) : (w.cell? ⟨g, 0, none⟩ = some a ∧ w.cell? ⟨g, 1, none⟩ = some b ∧ w.cell? ⟨g, 2, none⟩ = some c ∧ w.cell? ⟨g, 3, none⟩ = some d) ∧ w.frozen? ⟨g, 0, none⟩ = false ∧ w.frozen? ⟨g, 1, none⟩ = false ∧ w.frozen? ⟨g, 2, none⟩ = false ∧ w.frozen? ⟨g, 3, none⟩ = false := by
 refine ⟨⟨?_, ?_, ?_, ?_⟩, blk_frozen h 0, blk_frozen h 1, blk_frozen h 2, blk_frozen h 3⟩ <;> (rw [blk_cell h]; rfl)
end
theorem Stepb {w w' : World} (hb : Below w.heap.size w w') {i : Nat} {o : Obj} (h : w.heap[i]? = some o) : w'.heap[i]? = some o := (Step.of_below (S := fun _ => False) hb).block h (fun h => h)
def GeoOk (sh K M C : Int) : Prop := 0 ≤ sh ∧ sh ≤ 7 ∧ 1 ≤ K ∧ 0 ≤ M ∧ K ≤ 255 ∧ M ≤ 255 - K ∧ 4 ≤ C ∧ C ≤ 4096 ∧ C * 2 ^ sh.toNat ≤ 32768
instance (sh K M C : Int) : Decidable (GeoOk sh K M C) := by unfold GeoOk; infer_instance
theorem sh_cases {sh : Int} (h0 : 0 ≤ sh) (h1 : sh ≤ 7) : sh = 0 ∨ sh = 1 ∨ sh = 2 ∨ sh = 3 ∨ sh = 4 ∨ sh = 5 ∨ sh = 6 ∨ sh = 7 := by omega
theorem wrap64_id {x : Int} (h0 : -9223372036854775808 ≤ x) (h1 : x ≤ 9223372036854775807) : wrap64 x = x := by unfold wrap64; omega
theorem wrapI {x : Int} (h0 : -9223372036854775808 ≤ x) (h1 : x ≤ 9223372036854775807) : IntKind.wrap .i64 x = x := by
 simp [IntKind.wrap, IntKind.signed, IntKind.bits]
 split <;> omega
theorem min_bits {sh : Int} (h1 : sh ≤ 7) : min sh.toNat IntKind.i64.bits = sh.toNat := Nat.min_eq_left (by simp [IntKind.bits]; omega)
theorem shl_is (x sh : Int) (h0 : 0 ≤ sh) (h1 : sh ≤ 7) (x0 : 0 ≤ x) (x1 : x ≤ 4096) : shl .i64 x sh = x * 2 ^ sh.toNat := by
 unfold shl
 rw [min_bits h1]
 rcases sh_cases h0 h1 with rfl | rfl | rfl | rfl | rfl | rfl | rfl | rfl <;> refine wrapI ?_ ?_ <;> simp <;> omega
theorem shl9 (sh : Int) (h0 : 0 ≤ sh) (h1 : sh ≤ 7) : shl .i64 1 (wrap64 (9 + sh)) = 512 * 2 ^ sh.toNat := by
 rcases sh_cases h0 h1 with rfl | rfl | rfl | rfl | rfl | rfl | rfl | rfl <;> decide +kernel
theorem shr_is (C sh : Int) (h0 : 0 ≤ sh) (h1 : sh ≤ 7) : (C > shr .i64 32768 sh) ↔ ¬ (C * 2 ^ sh.toNat ≤ 32768) := by
 unfold shr
 rw [min_bits h1]
 rcases sh_cases h0 h1 with rfl | rfl | rfl | rfl | rfl | rfl | rfl | rfl <;> simp <;> omega
theorem geom_Check_f (sh K M C : Int) : geom_Check.f 1 sh K M C = some (if GeoOk sh K M C then 0 else 2) := by
 unfold geom_Check.f
 by_cases a1 : sh < 0
 ·rw [if_pos a1, if_neg (fun h => by have := h.1; omega)]; rfl
 by_cases a2 : sh > 7
 ·rw [if_neg a1, if_pos a2, if_neg (fun h => by have := h.2.1; omega)]; rfl
 rw [if_neg a1, if_neg a2]
 have hB : ∀ b : Bool, geom_Check.j0 1 b sh K M C = some (if b = true ∨ C < 4 ∨ C > 4096 ∨ ¬ (C * 2 ^ sh.toNat ≤ 32768) then 2 else 0) := by
  intro b
  show (if b = true then some 2 else if C < 4 then some 2 else if C > 4096 then some 2 else if 0 ≤ sh then (if C > shr .i64 32768 sh then some 2 else some 0) else none) = _
  by_cases b0 : b = true
  ·rw [if_pos b0, if_pos (Or.inl b0)]
  by_cases b1 : C < 4
  ·rw [if_neg b0, if_pos b1, if_pos (Or.inr (Or.inl b1))]
  by_cases b2 : C > 4096
  ·rw [if_neg b0, if_neg b1, if_pos b2, if_pos (Or.inr (Or.inr (Or.inl b2)))]
  rw [if_neg b0, if_neg b1, if_neg b2, if_pos (by omega)]
  by_cases b3 : C * 2 ^ sh.toNat ≤ 32768
  ·rw [if_neg (fun h => (shr_is C sh (by omega) (by omega)).1 h b3), if_neg (fun h => by rcases h with h | h | h | h; exact b0 h; omega; omega; exact h b3)]
  ·rw [if_pos ((shr_is C sh (by omega) (by omega)).2 b3), if_pos (Or.inr (Or.inr (Or.inr b3)))]
 have hR : rs_Check.f K M = some (if 1 ≤ K ∧ 0 ≤ M ∧ K ≤ 255 ∧ M ≤ 255 - K then 0 else 1) := by
  unfold rs_Check.f
  by_cases c1 : K < 1
  ·rw [if_pos c1, if_neg (by omega)]
  by_cases c2 : M < 0
  ·rw [if_neg c1, if_pos c2, if_neg (by omega)]
  by_cases c3 : K > 255
  ·rw [if_neg c1, if_neg c2, if_pos c3, if_neg (by omega)]
  rw [if_neg c1, if_neg c2, if_neg c3, wrap64_id (by omega) (by omega)]
  by_cases c4 : M > 255 - K
  ·rw [if_pos c4, if_neg (by omega)]
  ·rw [if_neg c4, if_pos (by omega)]
 rw [hR]
 show geom_Check.j0 1 _ sh K M C = _
 rw [hB]
 by_cases hr : 1 ≤ K ∧ 0 ≤ M ∧ K ≤ 255 ∧ M ≤ 255 - K
 ·rw [if_pos hr]
  by_cases hg : GeoOk sh K M C
  ·rw [if_pos hg, if_neg]
   obtain ⟨_, _, _, _, _, _, g1, g2, g3⟩ := hg
   rintro (h | h | h | h)
   ·exact absurd h (by decide)
   ·omega
   ·omega
   ·exact h g3
  ·rw [if_neg hg, if_pos]
   by_cases q1 : C < 4
   ·exact Or.inr (Or.inl q1)
   by_cases q2 : C > 4096
   ·exact Or.inr (Or.inr (Or.inl q2))
   exact Or.inr (Or.inr (Or.inr (fun h => hg ⟨by omega, by omega, hr.1, hr.2.1, hr.2.2.1, hr.2.2.2, by omega, by omega, h⟩)))
 ·rw [if_neg hr, if_neg (fun h : GeoOk sh K M C => hr ⟨h.2.2.1, h.2.2.2.1, h.2.2.2.2.1, h.2.2.2.2.2.1⟩), if_pos (Or.inl (by decide))]
theorem geom_right_f (sh K M C : Int) : geom_right.f 1 sh K M C = some (decide (GeoOk sh K M C)) := by
 unfold geom_right.f
 rw [geom_Check_f]
 by_cases h : GeoOk sh K M C
 ·rw [if_pos h, decide_eq_true h]; rfl
 ·rw [if_neg h, decide_eq_false h]; rfl
def nS (sh : Int) : Nat := 2 ^ sh.toNat
theorem nS_int (sh : Int) : ((nS sh : Nat) : Int) = 2 ^ sh.toNat := by simp [nS]
theorem nS_pos (sh : Int) : 1 ≤ nS sh := Nat.one_le_two_pow
theorem nS_le {sh : Int} (h1 : sh ≤ 7) : nS sh ≤ 128 := by
 have : (2 : Nat) ^ sh.toNat ≤ 2 ^ 7 := Nat.pow_le_pow_right (by omega) (by omega)
 exact this
def sizeP (sh K M C : Int) : Int := if GeoOk sh K M C then 512 * (nS sh : Int) else 0
def firstP (sh K M C at_ : Int) : Int × Int := if GeoOk sh K M C then (if 0 ≤ at_ ∧ at_ < C then (at_ * (nS sh : Int), (0 : Int)) else ((0 : Int), (1 : Int))) else ((0 : Int), (2 : Int))
abbrev geoV (sh K M C : Int) : Value := .agg #[.int .i64 sh, .int .i64 K, .int .i64 M, .int .i64 C]
def tabL : List Int := [0, 274646895, 549293790, 820201905, 1098587580, 1361435347, 1640403810, 1905808397, 2197175160, 2460548119, 2722870694, 2987750089, 3280807620, 3553878443, 3811616794, 4084100981]
def tabG (j : Nat) : Int := tabL.getD j 0
def TabAt (w : World) : Prop := ∀ j : Nat, j < 16 → w.cell? ⟨0, j, none⟩ = some (.int .u32 (tabG j))
theorem TabAt.step {Z : Nat → Prop} {w w' : World} (h : TabAt w) (hs : Step Z w w') (hz : ¬ Z 0) : TabAt w' := fun j hj => hs.cell (h j hj) hz
theorem TabAt.below {w w' : World} (h : TabAt w) (hb : Below w.heap.size w w') : TabAt w' := h.step (Step.of_below (S := fun _ => False) hb) (fun h => h)
def endC (x : Int) : Int := Go.bits .xor .u32 4294967295 x
theorem crc_End_any (x : Int) (w : World) : Calls Tryd.prog 133 #[.int .u32 x] w fun e w' => e = .returned (.int .u32 (endC x)) ∧ w' = w := by
 go_enter Tryd.func133, Tryd.ntmps133
 go_wp2
 go_ret
 exact ⟨rfl, rfl⟩
theorem and15 (x : Int) (h0 : 0 ≤ x) (h1 : x < 4294967296) : 0 ≤ Go.bits .and .u32 x 15 ∧ Go.bits .and .u32 x 15 < 16 := by
 have h := bits_mask .u32 32 (by decide) (fun n a b => by rw [IntKind.wrap_u32]; omega) 4 (by decide) x h0 (by omega)
 rw [show (2 : Int) ^ 4 - 1 = 15 by decide] at h
 rw [h]
 omega
def nib (x : Int) : Int := Go.bits .xor .u32 (x / 16) (tabG (Go.bits .and .u32 x 15).toNat)
def byteC (x : Int) (b : UInt8) : Int := nib (nib (Go.bits .xor .u32 x ((b.toNat : Int) % 4294967296)))
theorem xor_u32 (a b : Int) : 0 ≤ Go.bits .xor .u32 a b ∧ Go.bits .xor .u32 a b < 4294967296 := by
 simp only [Go.bits]
 rw [IntKind.wrap_u32]
 omega
def addC : List UInt8 → Int → Int
 | [], x => x
 | b :: l, x => addC l (byteC x b)
theorem addC_snoc (b : UInt8) : ∀ (l : List UInt8) (x : Int), addC (l ++ [b]) x = byteC (addC l x) b
 | [], _ => rfl
 | c :: l, x => addC_snoc b l (byteC x c)
theorem nib_in (x : Int) : 0 ≤ nib x ∧ nib x < 4294967296 := xor_u32 _ _
theorem addC_in : ∀ (l : List UInt8) (x : Int), 0 ≤ x → x < 4294967296 → 0 ≤ addC l x ∧ addC l x < 4294967296
 | [], _, h0, h1 => ⟨h0, h1⟩
 | b :: l, x, _, _ => addC_in l _ (nib_in _).1 (nib_in _).2
set_option maxRecDepth 100000 in
set_option maxHeartbeats 4000000 in
theorem crc_Add_any (x : Int) (s : ByteArray) (w : World) (hT : TabAt w) (h0 : 0 ≤ x) (h1 : x < 4294967296) (hs : s.size ≤ 1000000) : Calls Tryd.prog 134 #[.int .u32 x, .string s] w fun e w' => e = .returned (.int .u32 (addC s.data.toList x)) ∧ w' = w := by
 go_enter Tryd.func134, Tryd.ntmps134
 go_wp2
 go_loopw [0, 8] (fun t0 t8 wr => wr = w ∧ ∃ k : Nat, k ≤ s.size ∧ t8 = .int .i64 k ∧ t0 = .int .u32 (addC (s.data.toList.take k) x)) (fun _ t8 _ => s.size - (intOf t8).toNat)
 case atStart => exact ⟨rfl, 0, Nat.zero_le _, rfl, rfl⟩
 case round =>
  obtain ⟨rfl, k, hk, rfl, rfl⟩ := hrel
  have hy := addC_in (s.data.toList.take k) x h0 h1
  by_cases hkl : k < s.size
  ·have hkl2 : k < s.data.toList.length := by simpa using hkl
   have htk : addC (s.data.toList.take (k + 1)) x = byteC (addC (s.data.toList.take k) x) (s.data.toList[k]'hkl2) := by
    rw [List.take_succ_eq_append_getElem hkl2, addC_snoc]
   generalize addC (s.data.toList.take k) x = y at hy htk
   have hx := xor_u32 y (((s[k]'hkl).toNat : Int) % 4294967296)
   have hn := nib_in (Go.bits .xor .u32 y (((s[k]'hkl).toNat : Int) % 4294967296))
   have hI := and15 _ hx.1 hx.2
   have hJ := and15 _ hn.1 hn.2
   have hA := hT (Go.bits .and .u32 (Go.bits .xor .u32 y (((s[k]'hkl).toNat : Int) % 4294967296)) 15).toNat (by omega)
   have hB := hT (Go.bits .and .u32 (nib (Go.bits .xor .u32 y (((s[k]'hkl).toNat : Int) % 4294967296))) 15).toNat (by omega)
   unfold nib at hB hJ
   go_wp2
   go_roundw
   case rel => exact ⟨trivial, k + 1, by omega, by simp, by rw [htk]; rfl⟩
   case measure => simp [intOf]; omega
  ·have ek : k = s.size := by omega
   subst ek
   go_wp2
   go_ret
   refine ⟨?_, rfl⟩
   rw [List.take_of_length_le (by simp)]
   rfl
def sumC (s : ByteArray) : Int := endC (addC s.data.toList 4294967295)
theorem sumC_in (s : ByteArray) : 0 ≤ sumC s ∧ sumC s < 4294967296 := xor_u32 _ _
theorem crc_Sum_any (s : ByteArray) (w : World) (hT : TabAt w) (hs : s.size ≤ 1000000) : Calls Tryd.prog 101 #[.string s] w fun e w' => e = .returned (.int .u32 (sumC s)) ∧ Below w.heap.size w w' := by
 go_enter Tryd.func101, Tryd.ntmps101
 go_wp2_with (first
  | (go_at_call 135; refine (crc_Start.calls _ _ rfl).mono ?_; rintro e w1 ⟨rfl, hd1⟩)
  | (go_at_call 134; refine (crc_Add_any _ s _ (hT.below hd1.below) (by decide) (by decide) hs).mono ?_; rintro e w2 ⟨rfl, rfl⟩)
  | (go_at_call 133; refine (crc_End_any _ _).mono ?_; rintro e w2 ⟨rfl, rfl⟩))
 go_ret
 exact ⟨rfl, hd1.below⟩
def leI : Nat → Int → List Int
 | 0, _ => []
 | w + 1, n => (n % 256) :: leI w (n / 256)
theorem leI_len : ∀ (w : Nat) (n : Int), (leI w n).length = w
 | 0, _ => rfl
 | w + 1, n => by rw [leI, List.length_cons, leI_len w]
theorem leI_in : ∀ (w : Nat) (n : Int), ∀ x ∈ leI w n, 0 ≤ x ∧ x < 256
 | 0, _, x, h => by cases h
 | w + 1, n, x, h => by
  rw [leI] at h
  rcases List.mem_cons.1 h with rfl | h
  ·omega
  ·exact leI_in w _ x h
def deI : List Int → Int
 | [] => 0
 | b :: l => b + 256 * deI l
theorem deI_leI : ∀ (w : Nat) (n : Int), 0 ≤ n → n < 256 ^ w → deI (leI w n) = n
 | 0, n, h0, h1 => by simp at h1; show (0 : Int) = n; omega
 | w + 1, n, h0, h1 => by
  have hw : n / 256 < 256 ^ w := by
   rw [Int.pow_succ] at h1
   exact Int.ediv_lt_of_lt_mul (by omega) h1
  rw [leI, deI, deI_leI w (n / 256) (by omega) hw]
  omega
theorem pow256 (i : Nat) : (256 : Int) ^ i = 2 ^ (8 * i) := by
 rw [Int.pow_mul]; rfl
theorem div_pow (n : Int) (i : Nat) : n / 256 ^ i / 256 = n / 256 ^ (i + 1) := by
 rw [Int.ediv_ediv_of_nonneg (Int.pow_nonneg (by omega)), Int.pow_succ]
theorem leI_at : ∀ (w : Nat) (n : Int) (i : Nat), leI (w + 1) (n / 256 ^ i) = (n / 256 ^ i % 256) :: leI w (n / 256 ^ (i + 1)) := fun w n i => by
 rw [leI, div_pow]
theorem wrapJ {x : Int} (h0 : 0 ≤ x) (h1 : x < 9223372036854775808) : wrap64 x = x := by unfold wrap64; omega
theorem u64_id {x : Int} (h0 : 0 ≤ x) (h1 : x < 18446744073709551616) : IntKind.u64.wrap x = x := by
 have e : IntKind.u64.wrap x = x % 18446744073709551616 := rfl
 rw [e]
 omega
theorem field_put_l0 (n : Int) (hn : 0 ≤ n) (w : Nat) (hw : w ≤ 8) : ∀ (d i k : Nat) (x : List Int), i + d = w → d < k → x.length + d < 140737488355328 → field_put.l0 k x n (w : Int) (i : Int) = some (x ++ leI d (n / 256 ^ i))
 | 0, i, k, x, h, hk, hx => by
  obtain ⟨k, rfl⟩ : ∃ j, k = j + 1 := ⟨k - 1, by omega⟩
  rw [field_put.l0, if_neg (by omega), leI, List.append_nil]
 | d + 1, i, k, x, h, hk, hx => by
  obtain ⟨k, rfl⟩ : ∃ j, k = j + 1 := ⟨k - 1, by omega⟩
  have e1 : wrap64 (8 * (i : Int)) = 8 * (i : Int) := wrapJ (by omega) (by omega)
  have e2 : wrap64 ((i : Int) + 1) = ((i + 1 : Nat) : Int) := by rw [wrapJ (by omega) (by omega)]; rfl
  have e3 : shr .u64 n (8 * (i : Int)) % 256 = n / 256 ^ i % 256 := by
   unfold shr
   rw [show min (8 * (i : Int)).toNat IntKind.u64.bits = 8 * i from by rw [Nat.min_eq_left (by simp [IntKind.bits]; omega)]; omega, pow256]
  rw [field_put.l0, if_pos (by omega), e1, if_pos (by omega), if_pos (by omega), e2, e3, field_put_l0 n hn w hw d (i + 1) k _ (by omega) (by omega) (by rw [List.length_append]; simp; omega), leI_at, List.append_assoc, List.singleton_append]
def okW (w v : Int) : Prop := (w = 1 ∨ w = 2 ∨ w = 4 ∨ w = 8) ∧ 0 ≤ v ∧ v < 256 ^ w.toNat
theorem field_Put_ok {w v : Int} (h : okW w v) (k : Nat) (hk : 10 ≤ k) : field_Put.f k w v = some (strOfNums (leI w.toNat v), 0) := by
 obtain ⟨hw, h0, h1⟩ := h
 have hp : ∀ n : Nat, n ≤ 8 → w = (n : Int) → field_put.f k [] w v = some (leI n v) := fun n hn e => by
  subst e
  have := field_put_l0 v h0 n hn n 0 k [] (by omega) (by omega) (by simp; omega)
  rw [field_put.f]
  simpa using this
 have w1 : wrap64 (8 * 1) = 8 := wrapJ (by omega) (by omega)
 have w2 : wrap64 (8 * 2) = 16 := wrapJ (by omega) (by omega)
 have w4 : wrap64 (8 * 4) = 32 := wrapJ (by omega) (by omega)
 have q1 : (2 : Int) ^ 8 = 256 := by decide
 have q2 : (2 : Int) ^ 16 = 65536 := by decide
 have q4 : (2 : Int) ^ 32 = 4294967296 := by decide
 unfold field_Put.f field_width.f
 rcases hw with rfl | rfl | rfl | rfl
 ·have hs : shr .u64 v 8 = 0 := by
   rw [shr, show min (8 : Int).toNat IntKind.u64.bits = 8 from by decide, q1]
   simp at h1; omega
  rw [hp 1 (by omega) rfl, w1, hs]; simp
 ·have hs : shr .u64 v 16 = 0 := by
   rw [shr, show min (16 : Int).toNat IntKind.u64.bits = 16 from by decide, q2]
   simp at h1; omega
  rw [hp 2 (by omega) rfl, w2, hs]; simp
 ·have hs : shr .u64 v 32 = 0 := by
   rw [shr, show min (32 : Int).toNat IntKind.u64.bits = 32 from by decide, q4]
   simp at h1; omega
  rw [hp 4 (by omega) rfl, w4, hs]; simp
 ·rw [hp 8 (by omega) rfl]; simp
theorem ref_put_l0 (w : Nat) (hw : w ≤ 8) : ∀ (d i k : Nat) (n : Int) (x : List Int), i + d = w → d < k → x.length + d < 140737488355328 → 0 ≤ n → n < 256 ^ d → caulkref07_Put.l0 k (w : Int) n x (i : Int) = some (strOfNums (x ++ leI d n), 0)
 | 0, i, k, n, x, h, hk, hx, h0, h1 => by
  obtain ⟨k, rfl⟩ : ∃ j, k = j + 1 := ⟨k - 1, by omega⟩
  simp at h1
  rw [caulkref07_Put.l0, if_neg (by omega), if_neg (by omega), leI, List.append_nil]
 | d + 1, i, k, n, x, h, hk, hx, h0, h1 => by
  obtain ⟨k, rfl⟩ : ∃ j, k = j + 1 := ⟨k - 1, by omega⟩
  have e2 : wrap64 ((i : Int) + 1) = ((i + 1 : Nat) : Int) := by rw [wrapJ (by omega) (by omega)]; rfl
  have hb : n < 18446744073709551616 := Int.lt_of_lt_of_le h1 (by
   exact (show ∀ d : Nat, d < 8 → (256 : Int) ^ (d + 1) ≤ 18446744073709551616 from by decide) d (by omega))
  have hn : n / 256 < 256 ^ d := by
   rw [Int.pow_succ] at h1
   exact Int.ediv_lt_of_lt_mul (by omega) h1
  have e3 : IntKind.u64.wrap (Int.tdiv n 256) = n / 256 := by
   rw [Int.tdiv_eq_ediv_of_nonneg h0, u64_id (by omega) (by omega)]
  have e4 : Int.tmod n 256 % 256 = n % 256 := by
   rw [Int.tmod_eq_emod_of_nonneg h0]; omega
  rw [caulkref07_Put.l0, if_pos (by omega), if_pos (by omega), e2, e3, e4, ref_put_l0 w hw d (i + 1) k _ _ (by omega) (by omega) (by rw [List.length_append]; simp; omega) (by omega) hn, leI, List.append_assoc, List.singleton_append]
theorem ref_Put_ok {w v : Int} (h : okW w v) (k : Nat) (hk : 10 ≤ k) : caulkref07_Put.f k w v = some (strOfNums (leI w.toNat v), 0) := by
 obtain ⟨hw, h0, h1⟩ := h
 have hp : ∀ n : Nat, n ≤ 8 → w = (n : Int) → caulkref07_Put.l0 k w v [] 0 = some (strOfNums (leI n v), 0) := fun n hn e => by
  subst e
  have := ref_put_l0 n hn n 0 k v [] (by omega) (by omega) (by simp; omega) h0 (by simpa using h1)
  simpa using this
 unfold caulkref07_Put.f caulkref07_width.f
 rcases hw with rfl | rfl | rfl | rfl
 ·rw [hp 1 (by omega) rfl]; rfl
 ·rw [hp 2 (by omega) rfl]; rfl
 ·rw [hp 4 (by omega) rfl]; rfl
 ·rw [hp 8 (by omega) rfl]; rfl
theorem bytesOf_str (l : List Int) (h : ∀ x ∈ l, 0 ≤ x ∧ x < 256) : bytesOf (strOfNums l) = l := by
 unfold bytesOf strOfNums
 simp only [List.map_map]
 conv => rhs; rw [← List.map_id l]
 refine List.map_congr_left (fun x hx => ?_)
 obtain ⟨h0, h1⟩ := h x hx
 simp only [Function.comp, UInt8.toNat_ofNat', id]
 omega
theorem str_append (a b : List Int) : strOfNums a ++ strOfNums b = strOfNums (a ++ b) := by
 apply ByteArray.ext
 rw [ByteArray.data_append]
 simp [strOfNums]
def catW (ws vs : List Int) : Nat → Nat → List Int
 | 0, _ => []
 | d + 1, i => leI (ws.getD i 0).toNat (vs.getD i 0) ++ catW ws vs d (i + 1)
theorem rd_nat (l : List Int) (i : Nat) : rd l (i : Int) = l.getD i 0 := rfl
theorem leI_le8 {w v : Int} (h : okW w v) : (leI w.toNat v).length ≤ 8 := by
 rw [leI_len]
 rcases h.1 with e | e | e | e <;> rw [e] <;> decide
theorem field_join_l0 (ws vs : List Int) (hl : vs.length = ws.length) (hl2 : ws.length ≤ 100) (hok : ∀ j, j < ws.length → okW (ws.getD j 0) (vs.getD j 0)) : ∀ (d i k : Nat) (x : List Int), i + d = ws.length → d + 10 < k → x.length + 8 * d < 100000 → field_Join.l0 k vs x ws (ws.length : Int) (i : Int) = some (strOfNums (x ++ catW ws vs d i), 0)
 | 0, i, k, x, h, hk, hx => by
  obtain ⟨k, rfl⟩ : ∃ j, k = j + 1 := ⟨k - 1, by omega⟩
  rw [field_Join.l0, if_neg (by omega), catW, List.append_nil]
 | d + 1, i, k, x, h, hk, hx => by
  obtain ⟨k, rfl⟩ : ∃ j, k = j + 1 := ⟨k - 1, by omega⟩
  have e2 : wrap64 ((i : Int) + 1) = ((i + 1 : Nat) : Int) := by rw [wrapJ (by omega) (by omega)]; rfl
  have ho := hok i (by omega)
  have h8 := leI_le8 ho
  rw [field_Join.l0, if_pos (by omega), if_pos (by omega), if_pos (by omega), if_pos (by omega), rd_nat, rd_nat, field_Put_ok ho k (by omega)]
  simp only [Option.bind_some, ↓reduceIte]
  rw [if_pos (by rw [strOfNums_size]; omega), e2, bytesOf_str _ (leI_in _ _), field_join_l0 ws vs hl hl2 hok d (i + 1) k _ (by omega) (by omega) (by rw [List.length_append]; omega), catW, List.append_assoc]
theorem field_Join_ok (ws vs : List Int) (hl : vs.length = ws.length) (hl2 : ws.length ≤ 100) (hok : ∀ j, j < ws.length → okW (ws.getD j 0) (vs.getD j 0)) (k : Nat) (hk : ws.length + 10 < k) : field_Join.f k ws vs = some (strOfNums (catW ws vs ws.length 0), 0) := by
 rw [field_Join.f, if_pos (by rw [hl])]
 have := field_join_l0 ws vs hl hl2 hok ws.length 0 k [] (by omega) (by omega) (by simp; omega)
 simpa using this
theorem ref_join_l0 (ws vs : List Int) (hl : vs.length = ws.length) (hl2 : ws.length ≤ 100) (hok : ∀ j, j < ws.length → okW (ws.getD j 0) (vs.getD j 0)) : ∀ (d i k : Nat) (x : List Int), i + d = ws.length → d + 10 < k → x.length + 8 * d < 100000 → caulkref07_Join.l0 k vs (strOfNums x) ws (ws.length : Int) (i : Int) = some (strOfNums (x ++ catW ws vs d i), 0)
 | 0, i, k, x, h, hk, hx => by
  obtain ⟨k, rfl⟩ : ∃ j, k = j + 1 := ⟨k - 1, by omega⟩
  rw [caulkref07_Join.l0, if_neg (by omega), catW, List.append_nil]
 | d + 1, i, k, x, h, hk, hx => by
  obtain ⟨k, rfl⟩ : ∃ j, k = j + 1 := ⟨k - 1, by omega⟩
  have e2 : wrap64 ((i : Int) + 1) = ((i + 1 : Nat) : Int) := by rw [wrapJ (by omega) (by omega)]; rfl
  have ho := hok i (by omega)
  have h8 := leI_le8 ho
  rw [caulkref07_Join.l0, if_pos (by omega), if_pos (by omega), if_pos (by omega), if_pos (by omega), rd_nat, rd_nat, ref_Put_ok ho k (by omega)]
  simp only [Option.bind_some, ↓reduceIte]
  rw [if_pos (by rw [strOfNums_size, strOfNums_size]; omega), e2, str_append, ref_join_l0 ws vs hl hl2 hok d (i + 1) k _ (by omega) (by omega) (by rw [List.length_append]; omega), catW, List.append_assoc]
theorem ref_Join_ok (ws vs : List Int) (hl : vs.length = ws.length) (hl2 : ws.length ≤ 100) (hok : ∀ j, j < ws.length → okW (ws.getD j 0) (vs.getD j 0)) (k : Nat) (hk : ws.length + 10 < k) : caulkref07_Join.f k ws vs = some (strOfNums (catW ws vs ws.length 0), 0) := by
 rw [caulkref07_Join.f, if_pos (by rw [hl])]
 have := ref_join_l0 ws vs hl hl2 hok ws.length 0 k [] (by omega) (by omega) (by simp; omega)
 rw [List.nil_append] at this
 exact this
theorem deI_snoc (b : Int) : ∀ l : List Int, deI (l ++ [b]) = deI l + 256 ^ l.length * b
 | [] => by simp [deI]
 | x :: l => by
  rw [List.cons_append, deI, deI, deI_snoc b l, List.length_cons, Int.pow_succ, Int.mul_add, ← Int.add_assoc, Int.mul_comm ((256 : Int) ^ l.length) 256, Int.mul_assoc]
theorem deI_in : ∀ l : List Int, (∀ x ∈ l, 0 ≤ x ∧ x < 256) → 0 ≤ deI l ∧ deI l < 256 ^ l.length
 | [], _ => by simp [deI]
 | x :: l, h => by
  have h1 := h x List.mem_cons_self
  have h2 := deI_in l (fun y hy => h y (List.mem_cons_of_mem _ hy))
  rw [deI, List.length_cons, Int.pow_succ]
  omega
theorem bytesOf_in (s : ByteArray) : ∀ x ∈ bytesOf s, 0 ≤ x ∧ x < 256 := fun x hx => by
 obtain ⟨b, _, rfl⟩ := List.mem_map.1 hx
 have := b.toNat_lt
 omega
theorem bytesOf_len (s : ByteArray) : (bytesOf s).length = s.size := by simp [bytesOf]
theorem bt_get (s : ByteArray) (i : Nat) (h : i < s.size) : bt s (i : Int) = (bytesOf s)[i]'(by rw [bytesOf_len]; exact h) := by
 unfold bt bytesOf
 rw [dif_pos (by simpa using h)]
 simp [ByteArray.getElem_eq_getElem_data]
theorem take_snoc (s : ByteArray) (i : Nat) (h : i < s.size) : (bytesOf s).take (i + 1) = (bytesOf s).take i ++ [bt s (i : Int)] := by
 rw [bt_get s i h, List.take_succ_eq_append_getElem (by rw [bytesOf_len]; exact h)]
theorem or_add (i : Nat) (hi : i < 8) (x b : Int) (h0 : 0 ≤ x) (h1 : x < 256 ^ i) (b0 : 0 ≤ b) (b1 : b < 256) : Go.bits .or .u64 x (shl .u64 b (8 * (i : Int))) = x + 256 ^ i * b := by
 obtain ⟨m, rfl⟩ : ∃ m : Nat, (m : Int) = x := ⟨x.toNat, by omega⟩
 obtain ⟨c, rfl⟩ : ∃ c : Nat, (c : Int) = b := ⟨b.toNat, by omega⟩
 have hp : (256 : Int) ^ i = ((2 ^ (8 * i) : Nat) : Int) := by rw [pow256]; simp
 have hm : m < 2 ^ (8 * i) := by rw [hp] at h1; exact_mod_cast h1
 have hq : 2 ^ (8 * i) * 256 ≤ 18446744073709551616 := (show ∀ i : Nat, i < 8 → 2 ^ (8 * i) * 256 ≤ 18446744073709551616 from by decide) i hi
 have hmc : 2 ^ (8 * i) * c + m < 18446744073709551616 := by
  have : 2 ^ (8 * i) * c ≤ 2 ^ (8 * i) * 255 := Nat.mul_le_mul_left _ (by omega)
  omega
 have hs : shl .u64 (c : Int) (8 * (i : Int)) = ((2 ^ (8 * i) * c : Nat) : Int) := by
  unfold shl
  rw [show min (8 * (i : Int)).toNat IntKind.u64.bits = 8 * i from by rw [Nat.min_eq_left (by simp [IntKind.bits]; omega)]; omega, ← pow256, hp, u64_id (Int.mul_nonneg (by omega) (by omega)) (by rw [← Int.natCast_mul, Nat.mul_comm]; omega), ← Int.natCast_mul, Nat.mul_comm]
 rw [hs]
 have e1 : ((m : Int) % ((2 ^ 64 : Nat) : Int)).toNat = m := by omega
 have e2 : (((2 ^ (8 * i) * c : Nat) : Int) % ((2 ^ 64 : Nat) : Int)).toNat = 2 ^ (8 * i) * c := by omega
 have key : ((BitVec.ofInt 64 (m : Int)) ||| (BitVec.ofInt 64 ((2 ^ (8 * i) * c : Nat) : Int))).toNat = 2 ^ (8 * i) * c + m := by
  rw [BitVec.toNat_or, BitVec.toNat_ofInt, BitVec.toNat_ofInt, e1, e2, Nat.or_comm, ← Nat.two_pow_add_eq_or_of_lt hm]
 show IntKind.u64.wrap ((((BitVec.ofInt 64 (m : Int)) ||| (BitVec.ofInt 64 ((2 ^ (8 * i) * c : Nat) : Int))).toNat : Nat) : Int) = _
 rw [key, u64_id (by omega) (by omega), hp, Int.natCast_add, Int.natCast_mul]
 omega
theorem field_get_l0 (s : ByteArray) (w : Nat) (hw : w ≤ 8) (hs : w ≤ s.size) : ∀ (d i k : Nat), i + d = w → d < k → field_Get.l0 k s (deI ((bytesOf s).take i)) (w : Int) (i : Int) = some (deI ((bytesOf s).take w), 0)
 | 0, i, k, h, hk => by
  obtain ⟨k, rfl⟩ : ∃ j, k = j + 1 := ⟨k - 1, by omega⟩
  rw [field_Get.l0, if_neg (by omega), show i = w by omega]
 | d + 1, i, k, h, hk => by
  obtain ⟨k, rfl⟩ : ∃ j, k = j + 1 := ⟨k - 1, by omega⟩
  have e1 : wrap64 (8 * (i : Int)) = 8 * (i : Int) := wrapJ (by omega) (by omega)
  have e2 : wrap64 ((i : Int) + 1) = ((i + 1 : Nat) : Int) := by rw [wrapJ (by omega) (by omega)]; rfl
  have hb := bytesOf_in s (bt s (i : Int)) (by rw [bt_get s i (by omega)]; exact List.getElem_mem _)
  have ht := deI_in ((bytesOf s).take i) (fun x hx => bytesOf_in s x (List.mem_of_mem_take hx))
  have hl : ((bytesOf s).take i).length = i := by rw [List.length_take, bytesOf_len]; omega
  rw [hl] at ht
  have e3 : Go.bits .or .u64 (deI ((bytesOf s).take i)) (shl .u64 (IntKind.u64.wrap (bt s (i : Int))) (8 * (i : Int))) = deI ((bytesOf s).take (i + 1)) := by
   rw [u64_id hb.1 (by omega), or_add i (by omega) _ _ ht.1 ht.2 hb.1 hb.2, take_snoc s i (by omega), deI_snoc, hl]
  rw [field_Get.l0, if_pos (by omega), if_pos (by omega), if_pos (by omega), e1, if_pos (by omega), e3, e2, field_get_l0 s w hw hs d (i + 1) k (by omega) (by omega)]
theorem field_Get_ok {w : Nat} (hw : w = 1 ∨ w = 2 ∨ w = 4 ∨ w = 8) (s : ByteArray) (hs : w ≤ s.size) (k : Nat) (hk : 10 ≤ k) : field_Get.f k (w : Int) s = some (deI ((bytesOf s).take w), 0) := by
 have := field_get_l0 s w (by omega) hs w 0 k (by omega) (by omega)
 unfold field_Get.f field_width.f
 rcases hw with rfl | rfl | rfl | rfl
 all_goals
  simp only [show ((1 : Nat) : Int) = 1 from rfl, show ((2 : Nat) : Int) = 2 from rfl, show ((4 : Nat) : Int) = 4 from rfl, show ((8 : Nat) : Int) = 8 from rfl, Int.reduceEq, ↓reduceIte, Option.bind_some] at this ⊢
  rw [if_neg (by omega)]
  exact this
theorem bytesOf_drop (t : ByteArray) (m : Nat) : bytesOf (t.extract m t.size) = (bytesOf t).drop m := by
 unfold bytesOf
 rw [ByteArray.data_extract, Array.toList_extract, List.extract_eq_take_drop, List.map_take, List.map_drop, List.take_of_length_le]
 rw [List.length_drop, List.length_map]
 simp
def sumW : List Int → Nat
 | [] => 0
 | w :: l => w.toNat + sumW l
def allV : List Int → List Int → List Int
 | [], _ => []
 | w :: l, L => deI (L.take w.toNat) :: allV l (L.drop w.toNat)
def restV : List Int → ByteArray → ByteArray
 | [], t => t
 | w :: l, t => restV l (t.extract w.toNat t.size)
def ptrV (L : List Int) (j : Nat) : Int := deI ((L.drop (4 * j)).take 4)
theorem ptrV_in (t : ByteArray) (j : Nat) : 0 ≤ ptrV (bytesOf t) j ∧ ptrV (bytesOf t) j < 4294967296 := by
 have h := deI_in (((bytesOf t).drop (4 * j)).take 4) (fun x hx => bytesOf_in t x (List.mem_of_mem_drop (List.mem_of_mem_take hx)))
 have h2 : (256 : Int) ^ (((bytesOf t).drop (4 * j)).take 4).length ≤ 4294967296 := (show ∀ d : Nat, d < 5 → (256 : Int) ^ d ≤ 4294967296 from by decide) _ (by rw [List.length_take]; omega)
 exact ⟨h.1, by have := h.2; unfold ptrV; omega⟩
theorem allV_ptr (L : List Int) : allV [4, 4, 4] L = [ptrV L 0, ptrV L 1, ptrV L 2] := by
 simp only [allV, ptrV, List.drop_drop]
 rfl
theorem field_all_l0 (ws : List Int) (hl : ws.length ≤ 100) (hw : ∀ w ∈ ws, w = 1 ∨ w = 2 ∨ w = 4 ∨ w = 8) : ∀ (d i k : Nat) (t : ByteArray) (out : List Int), i + d = ws.length → d + 10 < k → sumW (ws.drop i) ≤ t.size → out.length + d < 100000 → field_All.l0 k t out ws (ws.length : Int) (i : Int) = some (out ++ allV (ws.drop i) (bytesOf t), restV (ws.drop i) t, 0)
 | 0, i, k, t, out, h, hk, hs, ho => by
  obtain ⟨k, rfl⟩ : ∃ j, k = j + 1 := ⟨k - 1, by omega⟩
  rw [field_All.l0, if_neg (by omega), List.drop_of_length_le (by omega), allV, restV, List.append_nil]
 | d + 1, i, k, t, out, h, hk, hs, ho => by
  obtain ⟨k, rfl⟩ : ∃ j, k = j + 1 := ⟨k - 1, by omega⟩
  have hi : i < ws.length := by omega
  have e2 : wrap64 ((i : Int) + 1) = ((i + 1 : Nat) : Int) := by rw [wrapJ (by omega) (by omega)]; rfl
  have hr : rd ws (i : Int) = ws[i] := by rw [rd_nat, List.getD_eq_getElem?_getD, List.getElem?_eq_getElem hi]; rfl
  have hwi := hw ws[i] (List.getElem_mem hi)
  obtain ⟨m, hm⟩ : ∃ m : Nat, (m : Int) = ws[i] := ⟨ws[i].toNat, by omega⟩
  have hdr : ws.drop i = ws[i] :: ws.drop (i + 1) := List.drop_eq_getElem_cons hi
  rw [hdr, sumW, ← hm] at hs
  simp only [Int.toNat_natCast] at hs
  have hg := field_Get_ok (w := m) (by omega) t (by omega) k (by omega)
  rw [field_All.l0, if_pos (by omega), if_pos (by omega), if_pos (by omega), hr, ← hm, hg]
  simp only [Option.bind_some, ↓reduceIte]
  have hsz : (t.extract m t.size).size = t.size - m := by rw [ByteArray.size_extract]; omega
  rw [if_pos (by omega), if_pos (by omega), if_pos (by omega), e2, Int.toNat_natCast, field_all_l0 ws hl hw d (i + 1) k _ _ (by omega) (by omega) (by rw [hsz]; omega) (by rw [List.length_append]; simp; omega), hdr, allV, restV, ← hm, Int.toNat_natCast, bytesOf_drop, List.append_assoc, List.singleton_append]
theorem field_All_ok (ws : List Int) (hl : ws.length ≤ 100) (hw : ∀ w ∈ ws, w = 1 ∨ w = 2 ∨ w = 4 ∨ w = 8) (t : ByteArray) (hs : sumW ws ≤ t.size) (k : Nat) (hk : ws.length + 10 < k) : field_All.f k t ws = some (allV ws (bytesOf t), restV ws t, 0) := by
 have := field_all_l0 ws hl hw ws.length 0 k t [] (by omega) (by omega) (by simpa using hs) (by simp; omega)
 rw [List.nil_append, List.drop_zero] at this
 exact this
theorem field_GetPtr_ok (t : ByteArray) (hs : 12 ≤ t.size) (k : Nat) (hk : 20 ≤ k) : field_GetPtr.f k t = some (ptrV (bytesOf t) 0, ptrV (bytesOf t) 1, ptrV (bytesOf t) 2, 0) := by
 rw [field_GetPtr.f, field_All_ok [4, 4, 4] (by decide) (by simp) t hs k (by simp; omega), allV_ptr]
 simp only [Option.bind_some, ↓reduceIte, List.length_cons, List.length_nil]
 rw [if_pos (by decide), if_pos (by decide), if_pos (by decide)]
 have b : ∀ j, 0 ≤ ptrV (bytesOf t) j ∧ ptrV (bytesOf t) j < 4294967296 := fun j => ptrV_in t j
 have e0 : wrap64 (ptrV (bytesOf t) 0) = ptrV (bytesOf t) 0 := wrapJ (b 0).1 (by have := (b 0).2; omega)
 have e1 : wrap64 (ptrV (bytesOf t) 1) = ptrV (bytesOf t) 1 := wrapJ (b 1).1 (by have := (b 1).2; omega)
 have e2 : ptrV (bytesOf t) 2 % 4294967296 = ptrV (bytesOf t) 2 := by have := b 2; omega
 show some (wrap64 (ptrV (bytesOf t) 0), wrap64 (ptrV (bytesOf t) 1), ptrV (bytesOf t) 2 % 4294967296, (0 : Int)) = _
 rw [e0, e1, e2]
end
end Go.Proofs.YtmmfplogkikbjaaDoor.HPB
