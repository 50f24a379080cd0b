/- a text of this claim -/
import Derived.Test.YtmmfplogkikbjaaDoorGPBx0
import Derived.Test.YtmmfplogkikbjaaDoorGPBx3
import Derived.Test.YtmmfplogkikbjaaDoorGPBx4
import Derived.Test.YtmmfplogkikbjaaDoorGPBx9
import Derived.Test.YtmmfplogkikbjaaDoorGPBx12
import Derived.Test.YtmmfplogkikbjaaDoorGPBx13
import Derived.Test.YtmmfplogkikbjaaDoorGPBx14
import Derived.Test.YtmmfplogkikbjaaDoorGPBx15
import Derived.Test.YtmmfplogkikbjaaDoorGPBx17
namespace Go.Proofs.YtmmfplogkikbjaaDoor.HPB
open Go.RowKit Go.Proofs.YtmmfplogkikbjaaDoorW.PrintWords Go.Proofs.YtmmfplogkikbjaaDoorW.PrintLast Go.Proofs.YtmmfplogkikbjaaDoorW.PrintMore
attribute [local go_sem] max2_int min2_int max_two min_two max_three min_three max_four min_four
set_option linter.unusedVariables false
set_option linter.unusedSimpArgs false
section
open Go Go.Shelf Go.Maps Go.Proofs.YtmmfplogkikbjaaDoor.Seq Go.Proofs.YtmmfplogkikbjaaDoor.MapL Go.Proofs.YtmmfplogkikbjaaDoorW.PrintLast
attribute [local go_sem] Oper.semAt_some max2_int min2_int max_two min_two
theorem strOf_list (l : List UInt8) : strOfNums (l.map fun b => (b.toNat : Int)) = ⟨l.toArray⟩ := by
 unfold strOfNums
 rw [List.map_map]
 congr 2
 conv => rhs; rw [← List.map_id l]
 apply List.map_congr_left
 intro b _
 simp
theorem bytesOf_list (s : ByteArray) : bytesOf s = s.data.toList.map (fun b => (b.toNat : Int)) := by
 rfl
theorem bytesOf_mk (l : List UInt8) : bytesOf ⟨l.toArray⟩ = l.map (fun b => (b.toNat : Int)) := by
 rw [bytesOf_list]
theorem fillG_list (n : Nat) (s : ByteArray) : (fillG n s).data.toList = s.data.toList ++ List.replicate (n - s.size) 0 := by
 have e : (bytesOf s ++ List.replicate (n - s.size) (0 : Int)) = (s.data.toList ++ List.replicate (n - s.size) (0 : UInt8)).map (fun b => (b.toNat : Int)) := by
  rw [List.map_append, ← bytesOf_list, List.map_replicate]
  rfl
 unfold fillG
 rw [e, strOf_list]
def PtrOk (p : S26) : Prop := (0 ≤ p.f0 ∧ p.f0 < 4294967296) ∧ (0 ≤ p.f1 ∧ p.f1 < 4294967296) ∧ 0 ≤ p.f2 ∧ p.f2 < 4294967296
theorem upL_nil : upL [] = [] := rfl
theorem upL_cons (p : S130) (ps : List S130) : upL (p :: ps) = (ptrS p).data.toList ++ upL ps := rfl
theorem ptrS_size (p : S130) : (ptrS p).size = 12 := by
 have h2 := strOfNums_size (rootL p.f0.f0 p.f0.f1 p.f0.f2)
 rw [rootL_len] at h2
 exact h2
theorem ptrS_bytes (p : S130) : (ptrS p).data.toList.map (fun b => (b.toNat : Int)) = rootL p.f0.f0 p.f0.f1 p.f0.f2 := by
 rw [← bytesOf_list]
 exact bytesOf_str _ (rootL_in _ _ _)
theorem getP_cons (p : S130) (L : List UInt8) (h : PtrOk p.f0) : getP ⟨((ptrS p).data.toList ++ L).toArray⟩ 0 = p.f0 := by
 unfold getP
 have e : bytesOf ((⟨((ptrS p).data.toList ++ L).toArray⟩ : ByteArray).extract (12 * 0) (⟨((ptrS p).data.toList ++ L).toArray⟩ : ByteArray).size) = rootL p.f0.f0 p.f0.f1 p.f0.f2 ++ L.map (fun b => (b.toNat : Int)) := by
  rw [bytesOf_drop, bytesOf_mk, List.map_append, ptrS_bytes]
  rfl
 obtain ⟨h1, h2, h3⟩ := dec_root p.f0.f0 p.f0.f1 p.f0.f2 h.1 h.2.1 h.2.2 (L.map (fun b => (b.toNat : Int)))
 rw [e, h1, h2, h3]
theorem getP_drop (p : S130) (L : List UInt8) (i : Nat) : getP ⟨((ptrS p).data.toList ++ L).toArray⟩ (i + 1) = getP ⟨L.toArray⟩ i := by
 unfold getP
 have e : bytesOf ((⟨((ptrS p).data.toList ++ L).toArray⟩ : ByteArray).extract (12 * (i + 1)) (⟨((ptrS p).data.toList ++ L).toArray⟩ : ByteArray).size) = bytesOf ((⟨L.toArray⟩ : ByteArray).extract (12 * i) (⟨L.toArray⟩ : ByteArray).size) := by
  have h12 : (rootL p.f0.f0 p.f0.f1 p.f0.f2).length = 12 := rootL_len _ _ _
  rw [bytesOf_drop, bytesOf_drop, bytesOf_mk, bytesOf_mk, List.map_append, ptrS_bytes, List.drop_append, h12, List.drop_eq_nil_of_le (by omega), List.nil_append]
  congr 1
 rw [e]
theorem getPs_cons (p : S130) (L : List UInt8) (k : Nat) (h : PtrOk p.f0) : getPs ⟨((ptrS p).data.toList ++ L).toArray⟩ (k + 1) = p.f0 :: getPs ⟨L.toArray⟩ k := by
 unfold getPs
 rw [List.range_succ_eq_map, List.map_cons, getP_cons p L h, List.map_map]
 congr 1
 apply List.map_congr_left
 intro i _
 exact getP_drop p L i
theorem getPs_up (X : List UInt8) : ∀ (ps : List S130), (∀ p ∈ ps, PtrOk p.f0) → getPs ⟨(upL ps ++ X).toArray⟩ ps.length = ps.map (·.f0)
 | [], _ => rfl
 | p :: ps, h => by
  rw [upL_cons, List.append_assoc, List.length_cons, getPs_cons _ _ _ (h p (by simp)), getPs_up X ps (fun q hq => h q (by simp [hq])), List.map_cons]
def ovr (n z : Nat) : Nat := (n + z - 1) / z
theorem ovr_ge {n z : Nat} (hz : 1 ≤ z) : n ≤ z * ovr n z := by
 unfold ovr
 have h := Nat.div_add_mod (n + z - 1) z
 have h2 := Nat.mod_lt (n + z - 1) (show z > 0 by omega)
 omega
theorem ovr_le {n z : Nat} (hz : 1 ≤ z) : z * ovr n z ≤ n + z - 1 := Nat.mul_div_le _ _
theorem ovr_lt {m f : Nat} (hf : 2 ≤ f) (hm : 2 ≤ m) : ovr m f < m := by
 unfold ovr
 rw [Nat.div_lt_iff_lt_mul (by omega)]
 obtain ⟨a, rfl⟩ : ∃ a, m = a + 2 := ⟨m - 2, by omega⟩
 obtain ⟨b, rfl⟩ : ∃ b, f = b + 2 := ⟨f - 2, by omega⟩
 rw [Nat.add_mul, Nat.mul_add a b 2]
 have := Nat.zero_le (a * b)
 omega
theorem ovr_pos {m f : Nat} (hf : 1 ≤ f) (hm : 1 ≤ m) : 1 ≤ ovr m f := by
 unfold ovr
 exact (Nat.one_le_div_iff (by omega)).2 (by omega)
theorem ovr_one {n z : Nat} (h : n ≤ z) : ovr n z ≤ 1 := by
 unfold ovr
 rcases Nat.eq_zero_or_pos z with e | e
 ·subst e; simp
 ·exact Nat.le_of_lt_succ ((Nat.div_lt_iff_lt_mul e).2 (by omega))
theorem ovr_more {n z : Nat} (hz : 1 ≤ z) (h : z < n) : ovr n z = ovr (n - z) z + 1 := by
 unfold ovr
 rw [show n + z - 1 = (n - z + z - 1) + z by omega, Nat.add_div_right _ (by omega)]
def levN (f : Nat) : Nat → Nat → List Nat
 | 0, m => [m]
 | q + 1, m => if m ≤ 1 then [m] else m :: levN f q (ovr m f)
theorem cutS_len {Z z : Nat} (hz : 1 ≤ z) : ∀ (k : Nat) (s : ByteArray), s.size ≤ k → (cutS Z z s).length = max (ovr s.size z) 1 := by
 intro k
 induction k with
 | zero =>
  intro s h
  rw [cutS_last (by omega), List.length_singleton]
  have := ovr_one (n := s.size) (z := z) (by omega)
  omega
 | succ k ih =>
  intro s h
  by_cases hs : s.size ≤ z
  ·rw [cutS_last hs, List.length_singleton]
   have := ovr_one hs
   omega
  ·have h2 : (s.extract z s.size).size = s.size - z := by rw [ByteArray.size_extract]; omega
   rw [cutS_more hz (by omega), List.length_cons, ih (s.extract z s.size) (by omega), h2, ovr_more (n := s.size) hz (by omega)]
   have := ovr_pos hz (show 1 ≤ s.size - z by omega)
   omega
theorem cutS_sizes {Z z : Nat} (hz : 1 ≤ z) (hzZ : z ≤ Z) : ∀ (k : Nat) (s : ByteArray), s.size ≤ k → ∀ x ∈ cutS Z z s, x.size = Z := by
 intro k
 induction k with
 | zero =>
  intro s h x hx
  rw [cutS_last (by omega)] at hx
  cases hx with
  | head => exact fillG_size _ _ (by omega)
  | tail _ h => cases h
 | succ k ih =>
  intro s h x hx
  by_cases hs : s.size ≤ z
  ·rw [cutS_last hs] at hx
   cases hx with
   | head => exact fillG_size _ _ (by omega)
   | tail _ h => cases h
  ·have h2 : (s.extract z s.size).size = s.size - z := by rw [ByteArray.size_extract]; omega
   rw [cutS_more hz (by omega)] at hx
   rcases List.mem_cons.1 hx with rfl | hx
   ·exact fillG_size _ _ (by rw [ByteArray.size_extract]; omega)
   ·exact ih _ (by omega) x hx
theorem up_cut {Z f : Nat} (hf : 1 ≤ f) (level : List ByteArray) (ats : List Int) (h : 2 * level.length ≤ ats.length) (hl : 1 ≤ level.length) : (cutS Z (12 * f) ⟨(upL (layP level ats)).toArray⟩).length = ovr level.length f := by
 have hs : (⟨(upL (layP level ats)).toArray⟩ : ByteArray).size = 12 * level.length := by
  show (upL (layP level ats)).toArray.size = _
  rw [List.size_toArray, upL_len, layP_len _ _ h]
 have he : ovr (12 * level.length) (12 * f) = ovr level.length f := by
  have h1 := ovr_ge (n := level.length) hf
  have h2 := ovr_le (n := level.length) hf
  have p := ovr_pos hf hl
  generalize ovr level.length f = x at h1 h2 p ⊢
  unfold ovr
  have e : 12 * f * x = 12 * (f * x) := Nat.mul_assoc ..
  have e2 : 12 * f * x.succ = 12 * (f * x) + 12 * f := by rw [Nat.mul_succ, e]
  refine Nat.le_antisymm (Nat.le_of_lt_succ ((Nat.div_lt_iff_lt_mul (by omega)).2 ?_)) ((Nat.le_div_iff_mul_le (by omega)).2 ?_)
  ·rw [Nat.mul_comm x.succ, e2]; omega
  ·rw [Nat.mul_comm x, e]; omega
 rw [cutS_len (by omega) _ _ (Nat.le_refl _), hs, he]
 have p := ovr_pos hf hl
 omega
theorem bldP_len {Z f : Nat} (hf : 2 ≤ f) : ∀ (q : Nat) (level : List ByteArray) (ats : List Int) (pre : List S130), 1 ≤ level.length → 2 * (levN f q level.length).sum ≤ ats.length → (bldP Z f q level ats pre).length = pre.length + (levN f q level.length).sum := by
 intro q
 induction q with
 | zero =>
  intro level ats pre hl h
  rw [levN] at h ⊢
  simp only [List.sum_cons, List.sum_nil, Nat.add_zero] at h ⊢
  rw [bldP, List.length_append, layP_len _ _ h]
 | succ q ih =>
  intro level ats pre hl h
  rw [levN] at h ⊢
  rw [bldP]
  by_cases h1 : level.length = 1
  ·rw [if_pos (show level.length ≤ 1 by omega)] at h ⊢
   simp only [List.sum_cons, List.sum_nil, Nat.add_zero] at h ⊢
   rw [if_pos h1, List.length_append, layP_len _ _ h]
  ·rw [if_neg (show ¬ level.length ≤ 1 by omega)] at h ⊢
   rw [List.sum_cons] at h ⊢
   rw [if_neg h1]
   have h2 : 2 * level.length ≤ ats.length := by omega
   have e := up_cut (Z := Z) (show 1 ≤ f by omega) level ats h2 hl
   rw [ih _ _ _ (by rw [e]; exact ovr_pos (by omega) hl) (by rw [e, List.length_drop]; omega), e, List.length_append, layP_len _ _ h2]
   omega
theorem okB_of {Z f : Nat} (hf : 2 ≤ f) (hfZ : 12 * f ≤ Z) (hZ : Z ≤ 1000000) : ∀ (q : Nat) (level : List ByteArray) (ats : List Int), 1 ≤ level.length → level.length ≤ q → 2 * (levN f q level.length).sum ≤ ats.length → (∀ x ∈ level, x.size = Z) → okB Z f q level ats := by
 intro q
 induction q with
 | zero => intro level ats h1 h2; omega
 | succ q ih =>
  intro level ats hl hq h hs
  rw [levN] at h
  have h2 : 2 * level.length ≤ ats.length := by
   split at h <;> simp only [List.sum_cons, List.sum_nil] at h <;> omega
  refine ⟨h2, fun x hx => by rw [hs x hx]; exact hZ, fun h1 => ?_⟩
  rw [if_neg (by omega), List.sum_cons] at h
  have e := up_cut (Z := Z) (show 1 ≤ f by omega) level ats h2 hl
  have hlt := ovr_lt hf (show 2 ≤ level.length by omega)
  refine ⟨by rw [e]; exact hlt, ih _ _ (by rw [e]; exact ovr_pos (by omega) hl) (by rw [e]; omega) (by rw [e, List.length_drop]; omega) (fun x hx => cutS_sizes (by omega) hfZ _ _ (Nat.le_refl _) x hx)⟩
theorem cut_cat {Z z : Nat} (hz : 1 ≤ z) (hzZ : z ≤ Z) : ∀ (k : Nat) (s : ByteArray), s.size ≤ k → ∃ X : List UInt8, (cutS Z z s).flatMap (fun x => (x.extract 0 z).data.toList) = s.data.toList ++ X := by
 have hx (t : ByteArray) (m : Nat) : (t.extract 0 m).data.toList = t.data.toList.take m := by
  rw [ByteArray.data_extract, Array.toList_extract, List.extract_eq_take_drop]
  simp
 have hd (t : ByteArray) (m : Nat) : (t.extract m t.size).data.toList = t.data.toList.drop m := by
  rw [ByteArray.data_extract, Array.toList_extract, List.extract_eq_take_drop, List.take_of_length_le]
  rw [List.length_drop]
  exact Nat.le_refl _
 have hl (t : ByteArray) (m : Nat) (h : t.size ≤ m) : t.data.toList.take m = t.data.toList := List.take_of_length_le (by show t.data.size ≤ m; exact h)
 have last (s : ByteArray) (h : s.size ≤ z) : ∃ X : List UInt8, (cutS Z z s).flatMap (fun x => (x.extract 0 z).data.toList) = s.data.toList ++ X := by
  rw [cutS_last h, List.flatMap_singleton, hx, fillG_list, List.take_append, hl s z h]
  exact ⟨_, rfl⟩
 intro k
 induction k with
 | zero => intro s h; exact last s (by omega)
 | succ k ih =>
  intro s h
  by_cases hs : s.size ≤ z
  ·exact last s hs
  ·have h2 : (s.extract z s.size).size = s.size - z := by rw [ByteArray.size_extract]; omega
   obtain ⟨X, hX⟩ := ih (s.extract z s.size) (by omega)
   refine ⟨X, ?_⟩
   rw [cutS_more hz (by omega), List.flatMap_cons, hX, hx, fillG_list, hx, hd, List.take_append, ← List.append_assoc]
   have e1 : (s.data.toList.take z).length = z := by rw [List.length_take]; show min z s.data.size = z; have : s.data.size = s.size := rfl; omega
   rw [e1, Nat.sub_self, List.take_zero, List.append_nil, List.take_take, Nat.min_self, List.take_append_drop]
theorem geo16 : GeoOk 0 1 0 16 := by unfold GeoOk; decide
theorem first16 {a : Int} (h0 : 0 ≤ a) (h1 : a < 16) : firstP 0 1 0 16 a = (a, 0) := by
 unfold firstP
 rw [if_pos geo16, if_pos ⟨h0, h1⟩]
 show (a * 1, (0 : Int)) = (a, 0)
 rw [Int.mul_one]
theorem raw16 {xs : List ByteArray} {F : FL} {B : BL} {a : Int} {s : ByteArray} {e : Int} (h0 : 0 ≤ a) (h1 : a < 16) (h : readP xs F B false a = (s, e)) : rawA xs F B false 0 1 0 16 a = if e = 0 then (s, 0) else (⟨#[]⟩, e) := by
 unfold rawA
 rw [first16 h0 h1, if_neg (fun h => h rfl)]
 show ((⟨(rawG xs F B false (a * 1) 1).1.toArray⟩ : ByteArray), (rawG xs F B false (a * 1) 1).2) = _
 rw [Int.mul_one, rawG, rawG, if_pos rfl]
 rw [show a + ((0 : Nat) : Int) = a by omega, h]
 by_cases he : e = 0
 ·rw [if_pos he, if_pos he]
  simp
 ·rw [if_neg he, if_neg he]
theorem rd_one {xs : List ByteArray} {F : FL} {B : BL} {a : Int} {s : ByteArray} (h0 : 0 ≤ a) (h1 : a < 16) (h : readP xs F B false a = (s, 0)) : readA xs F B false 0 1 0 16 a (sumC s) = (s, 0) := by
 unfold readA
 rw [raw16 h0 h1 h, if_pos rfl, if_neg (fun h => h rfl), if_pos rfl]
theorem rd_bad {xs : List ByteArray} {F : FL} {B : BL} {a sm : Int} (h0 : 0 ≤ a) (h1 : a < 16) (h : readP xs F B false a = (⟨#[]⟩, 9)) : readA xs F B false 0 1 0 16 a sm = (⟨#[]⟩, 9) := by
 unfold readA
 rw [raw16 h0 h1 h, if_neg (show ¬ (9 : Int) = 0 by decide), if_pos (show (9 : Int) ≠ 0 by decide)]
theorem wr_one {a : Int} {s : ByteArray} (F : FL) (nw e : Int) (h0 : 0 ≤ a) (h1 : a < 16) (hs : s.size = 512) : writeA 16 ⟨F, false, -1, nw, e⟩ 0 1 0 16 a s = ⟨putL a s F, false, -1, wrap64 (nw + 1), 0⟩ := by
 have hx : s.extract 0 512 = s := by
  rw [← hs]
  exact ByteArray.extract_zero_size
 unfold writeA
 rw [first16 h0 h1, if_neg (fun h => h rfl), if_neg (show ¬ s.size ≠ 512 * nS 0 by rw [hs]; decide)]
 show wrK 16 (a * 1) s ⟨F, false, -1, nw, 0⟩ 1 = _
 rw [Int.mul_one, wrK, wrK, if_pos rfl, wr1]
 show (let q := writeP 16 F false (-1) nw (a + ((0 : Nat) : Int)) (s.extract 0 512); (⟨q.1, q.2.1, q.2.2.1, q.2.2.2.1, q.2.2.2.2⟩ : WrS)) = _
 rw [hx, show a + ((0 : Nat) : Int) = a by omega]
 unfold writeP
 have hr : reachP 16 false a = 0 := by
  unfold reachP
  rw [if_neg (by decide), if_pos ⟨h0, h1⟩]
 have hb : burnP false (-1) = (false, -1, 0) := rfl
 rw [hr, hb, if_neg (fun h => h rfl), if_neg (by omega), if_neg (fun h => h rfl)]
def pgF (S0 S1 S2 : ByteArray) : FL := [(2, S0), (3, S0), (4, S1), (5, S1), (6, S2), (7, S2)]
def pgX (S0 S1 S2 : ByteArray) : List ByteArray := landXs xs0 (pgF S0 S1 S2)
def pgL (S0 S1 S2 : ByteArray) : List S26 := [⟨2, 3, sumC S0⟩, ⟨4, 5, sumC S1⟩, ⟨6, 7, sumC S2⟩]
theorem lv_write (S0 S1 S2 : ByteArray) (h0 : S0.size = 512) (h1 : S1.size = 512) (h2 : S2.size = 512) : pgK 16 0 1 0 16 [⟨⟨2, 3, sumC S0⟩, S0⟩, ⟨⟨4, 5, sumC S1⟩, S1⟩, ⟨⟨6, 7, sumC S2⟩, S2⟩] ⟨[], false, -1, 0, 0⟩ = ⟨pgF S0 S1 S2, false, -1, 6, 0⟩ := by
 have e (F : FL) (nw : Int) (a b : Int) (s : ByteArray) (sm : Int) (h : s.size = 512) (ha : 0 ≤ a) (ha1 : a < 16) (hb : 0 ≤ b) (hb1 : b < 16) (hn0 : 0 ≤ nw) (hn1 : nw < 1000) : pgW 16 0 1 0 16 ⟨⟨a, b, sm⟩, s⟩ ⟨F, false, -1, nw, 0⟩ = ⟨putL b s (putL a s F), false, -1, nw + 1 + 1, 0⟩ := by
  unfold pgW
  dsimp only
  have e1 : wrap64 (nw + 1) = nw + 1 := wrap64_id (by omega) (by omega)
  have e2 : wrap64 (nw + 1 + 1) = nw + 1 + 1 := wrap64_id (by omega) (by omega)
  rw [wr_one F nw 0 ha ha1 h, if_neg (fun h => h rfl), wr_one _ _ 0 hb hb1 h, e1, e2]
 rw [pgK, e _ _ _ _ _ _ h0 (by decide) (by decide) (by decide) (by decide) (by decide) (by decide), if_pos rfl, pgK, e _ _ _ _ _ _ h1 (by decide) (by decide) (by decide) (by decide) (by decide) (by decide), if_pos rfl, pgK, e _ _ _ _ _ _ h2 (by decide) (by decide) (by decide) (by decide) (by decide) (by decide), if_pos rfl, pgK]
 rfl
theorem lv_flush (S0 S1 S2 : ByteArray) : flushP xs0 (pgF S0 S1 S2) [(6, true)] false (-1) = (pgX S0 S1 S2, [], [], false, -1, 0) := rfl
theorem lv_readP (S0 S1 S2 : ByteArray) (a : Int) (F : FL) (B : BL) (s : ByteArray) (ha : reachP 16 false a = 0) (hF : getL a F = none) (hB : getL a B = none) (hs : (pgX S0 S1 S2).getD a.toNat ⟨#[]⟩ = s) : readP (pgX S0 S1 S2) F B false a = (s, 0) := by
 unfold readP
 rw [show (pgX S0 S1 S2).length = 16 from rfl, ha, if_neg (fun h => h rfl), hF, hB, hs]
theorem rd_lost {xs : List ByteArray} {F : FL} {B : BL} {a : Int} (ha : reachP xs.length false a = 0) (hF : getL a F = none) (hB : getL a B = some true) : readP xs F B false a = (⟨#[]⟩, 9) := by
 unfold readP
 rw [ha, if_neg (fun h => h rfl), hF, hB]
theorem page_first {xs : List ByteArray} {F : FL} {B : BL} {a b : Int} {s : ByteArray} (h : readA xs F B false 0 1 0 16 a (sumC s) = (s, 0)) : pageA xs F B false 0 1 0 16 a b (sumC s) = (s, 0) := by
 unfold pageA
 rw [h, if_pos (Or.inl rfl)]
theorem page_second {xs : List ByteArray} {F : FL} {B : BL} {a b : Int} {s : ByteArray} (h0 : readA xs F B false 0 1 0 16 a (sumC s) = (⟨#[]⟩, 9)) (h : readA xs F B false 0 1 0 16 b (sumC s) = (s, 0)) : pageA xs F B false 0 1 0 16 a b (sumC s) = (s, 0) := by
 unfold pageA
 rw [h0, h, if_neg (by decide), if_pos (Or.inl rfl)]
theorem page_lost {xs : List ByteArray} {F : FL} {B : BL} {a b sm : Int} (h0 : readA xs F B false 0 1 0 16 a sm = (⟨#[]⟩, 9)) (h : readA xs F B false 0 1 0 16 b sm = (⟨#[]⟩, 9)) : pageA xs F B false 0 1 0 16 a b sm = (⟨#[]⟩, 10) := by
 unfold pageA
 rw [h0, h, if_neg (by decide), if_neg (by decide)]
theorem bel_one {xs : List ByteArray} {F : FL} {B : BL} {each : Nat} {p : S26} {s : ByteArray} (h : pageA xs F B false 0 1 0 16 p.f0 p.f1 p.f2 = (s, 0)) : belA xs F B false 0 1 0 16 each [p] = ((s.extract 0 each).data.toList, 0) := by
 rw [belA, h, if_neg (fun h => h rfl), belA, if_neg (fun h => h rfl), List.append_nil]
theorem bel_two {xs : List ByteArray} {F : FL} {B : BL} {each : Nat} {p q : S26} {s t : ByteArray} (h : pageA xs F B false 0 1 0 16 p.f0 p.f1 p.f2 = (s, 0)) (h2 : pageA xs F B false 0 1 0 16 q.f0 q.f1 q.f2 = (t, 0)) : belA xs F B false 0 1 0 16 each [p, q] = ((s.extract 0 each).data.toList ++ (t.extract 0 each).data.toList, 0) := by
 rw [belA, h, if_neg (fun h => h rfl), bel_one h2, if_neg (fun h => h rfl)]
theorem bel_bad {xs : List ByteArray} {F : FL} {B : BL} {each : Nat} {p : S26} {l : List S26} {s : ByteArray} {e : Int} (h : pageA xs F B false 0 1 0 16 p.f0 p.f1 p.f2 = (s, e)) (he : e ≠ 0) : belA xs F B false 0 1 0 16 each (p :: l) = ([], e) := by
 rw [belA, h, if_pos he]
theorem ba_list (s : ByteArray) : (⟨s.data.toList.toArray⟩ : ByteArray) = s := by simp
theorem lv_load (S0 S1 S2 : ByteArray) (h0 : S0.size = 512) (h1 : S1.size = 512) (hg0 : getP (S2.extract 0 504) 0 = ⟨2, 3, sumC S0⟩) (hg1 : getP (S2.extract 0 504) 1 = ⟨4, 5, sumC S1⟩) :
  loadA (pgX S0 S1 S2) [] [(6, true)] false 0 1 0 16 42 512 514 [(0, 2)] ⟨6, 7, sumC S2⟩ = ((S0 ++ S1).extract 0 514, pgL S0 S1 S2, 0) := by
 have p2 : pageA (pgX S0 S1 S2) [] [(6, true)] false 0 1 0 16 6 7 (sumC S2) = (S2, 0) := page_second (rd_bad (by decide) (by decide) (rd_lost rfl rfl rfl)) (rd_one (by decide) (by decide) (lv_readP S0 S1 S2 7 [] [(6, true)] S2 rfl rfl rfl rfl))
 have p0 : pageA (pgX S0 S1 S2) [] [(6, true)] false 0 1 0 16 2 3 (sumC S0) = (S0, 0) := page_first (rd_one (by decide) (by decide) (lv_readP S0 S1 S2 2 [] [(6, true)] S0 rfl rfl rfl rfl))
 have p1 : pageA (pgX S0 S1 S2) [] [(6, true)] false 0 1 0 16 4 5 (sumC S1) = (S1, 0) := page_first (rd_one (by decide) (by decide) (lv_readP S0 S1 S2 4 [] [(6, true)] S1 rfl rfl rfl rfl))
 have hl : getPs (S2.extract 0 504) 2 = [⟨2, 3, sumC S0⟩, ⟨4, 5, sumC S1⟩] := by rw [← hg0, ← hg1]; rfl
 have x0 : S0.extract 0 512 = S0 := by rw [← h0]; exact ByteArray.extract_zero_size
 have x1 : S1.extract 0 512 = S1 := by rw [← h1]; exact ByteArray.extract_zero_size
 have hT : ldT (pgX S0 S1 S2) [] [(6, true)] false 0 1 0 16 (12 * 42) [(0, 2)] [⟨6, 7, sumC S2⟩] [[⟨6, 7, sumC S2⟩]] = ([⟨2, 3, sumC S0⟩, ⟨4, 5, sumC S1⟩], [[⟨6, 7, sumC S2⟩], [⟨2, 3, sumC S0⟩, ⟨4, 5, sumC S1⟩]], 0) := by
  rw [ldT, show 12 * 42 = 504 from rfl, bel_one (p := ⟨6, 7, sumC S2⟩) p2, if_neg (fun h => h rfl), ba_list, show ((0, (2 : Int)) : Nat × Int).2.toNat = 2 from rfl, hl, ldT]
  rfl
 unfold loadA
 rw [hT]
 dsimp only
 rw [if_neg (fun h => h rfl), bel_two p0 p1, if_neg (fun h => h rfl), x0, x1]
 have ha : (⟨(S0.data.toList ++ S1.data.toList).toArray⟩ : ByteArray) = S0 ++ S1 := by
  apply ByteArray.ext
  simp
 rw [ha]
 rfl
theorem hp_fine {xs : List ByteArray} {F : FL} {B : BL} {nw a b : Int} {s : ByteArray} (h0 : readA xs F B false 0 1 0 16 a (sumC s) = (s, 0)) (h1 : readA xs F B false 0 1 0 16 b (sumC s) = (s, 0)) : hpA xs F B false (-1) nw 0 1 0 16 a b (sumC s) = ⟨F, false, -1, nw, [], 0⟩ := by
 unfold hpA
 rw [h0, h1, if_neg (by simp), if_pos rfl, if_pos rfl]
theorem lv_heal (S0 S1 S2 : ByteArray) (h2 : S2.size = 512) : hlA (pgX S0 S1 S2) [(6, true)] 0 1 0 16 (pgL S0 S1 S2) ⟨[], false, -1, 6, [], 0⟩ = ⟨[(6, S2)], false, -1, 7, [⟨6, true⟩], 0⟩ := by
 have r6 : readA (pgX S0 S1 S2) [] [(6, true)] false 0 1 0 16 6 (sumC S2) = (⟨#[]⟩, 9) := rd_bad (by decide) (by decide) (rd_lost rfl rfl rfl)
 have r7 := rd_one (by decide) (by decide) (lv_readP S0 S1 S2 7 [] [(6, true)] S2 rfl rfl rfl rfl)
 have p0 := hp_fine (nw := 6) (rd_one (by decide) (by decide) (lv_readP S0 S1 S2 2 [] [(6, true)] S0 rfl rfl rfl rfl)) (rd_one (by decide) (by decide) (lv_readP S0 S1 S2 3 [] [(6, true)] S0 rfl rfl rfl rfl))
 have p1 := hp_fine (nw := 6) (rd_one (by decide) (by decide) (lv_readP S0 S1 S2 4 [] [(6, true)] S1 rfl rfl rfl rfl)) (rd_one (by decide) (by decide) (lv_readP S0 S1 S2 5 [] [(6, true)] S1 rfl rfl rfl rfl))
 have p2 : hpA (pgX S0 S1 S2) [] [(6, true)] false (-1) 6 0 1 0 16 6 7 (sumC S2) = ⟨[(6, S2)], false, -1, 7, [⟨6, true⟩], 0⟩ := by
  unfold hpA
  rw [r6, r7, if_neg (by simp), if_neg (by simp), if_pos rfl, show (pgX S0 S1 S2).length = 16 from rfl, wr_one [] 6 0 (by decide) (by decide) h2, show wrap64 (6 + 1) = 7 from wrap64_id (by decide) (by decide)]
  rfl
 unfold pgL
 rw [hlA]
 dsimp only
 rw [p0, if_neg (fun h => h rfl), hlA]
 dsimp only
 rw [p1, if_neg (fun h => h rfl), hlA]
 dsimp only
 rw [p2, if_neg (fun h => h rfl), hlA]
 rfl
theorem lv_flush2 (S0 S1 S2 : ByteArray) : flushP (pgX S0 S1 S2) [(6, S2)] [(6, true)] false (-1) = (pgX S0 S1 S2, [], [], false, -1, 0) := rfl
theorem lv_load2 (S0 S1 S2 : ByteArray) (hg0 : getP (S2.extract 0 504) 0 = ⟨2, 3, sumC S0⟩) (hg1 : getP (S2.extract 0 504) 1 = ⟨4, 5, sumC S1⟩) :
  loadA (pgX S0 S1 S2) [] [(2, true), (3, true)] false 0 1 0 16 42 512 514 [(0, 2)] ⟨6, 7, sumC S2⟩ = (⟨#[]⟩, [], 10) := by
 have p2 : pageA (pgX S0 S1 S2) [] [(2, true), (3, true)] false 0 1 0 16 6 7 (sumC S2) = (S2, 0) := page_first (rd_one (by decide) (by decide) (lv_readP S0 S1 S2 6 [] [(2, true), (3, true)] S2 rfl rfl rfl rfl))
 have p0 : pageA (pgX S0 S1 S2) [] [(2, true), (3, true)] false 0 1 0 16 2 3 (sumC S0) = (⟨#[]⟩, 10) := page_lost (rd_bad (by decide) (by decide) (rd_lost rfl rfl rfl)) (rd_bad (by decide) (by decide) (rd_lost rfl rfl rfl))
 have hl : getPs (S2.extract 0 504) 2 = [⟨2, 3, sumC S0⟩, ⟨4, 5, sumC S1⟩] := by rw [← hg0, ← hg1]; rfl
 have hT : ldT (pgX S0 S1 S2) [] [(2, true), (3, true)] false 0 1 0 16 (12 * 42) [(0, 2)] [⟨6, 7, sumC S2⟩] [[⟨6, 7, sumC S2⟩]] = ([⟨2, 3, sumC S0⟩, ⟨4, 5, sumC S1⟩], [[⟨6, 7, sumC S2⟩], [⟨2, 3, sumC S0⟩, ⟨4, 5, sumC S1⟩]], 0) := by
  rw [ldT, show 12 * 42 = 504 from rfl, bel_one (p := ⟨6, 7, sumC S2⟩) p2, if_neg (fun h => h rfl), ba_list, show ((0, (2 : Int)) : Nat × Int).2.toNat = 2 from rfl, hl, ldT]
  rfl
 unfold loadA
 rw [hT]
 dsimp only
 rw [if_neg (fun h => h rfl), bel_bad p0 (by decide), if_pos (show (10 : Int) ≠ 0 by decide)]
theorem fuel_up {α : Type} {P : Nat → Option α} (hm : ∀ k, LeO (P k) (P (k + 1))) {k0 : Nat} {r : α} (h : P k0 = some r) : ∀ k, k0 ≤ k → P k = some r := by
 intro k hk
 induction k with
 | zero =>
  have : k0 = 0 := by omega
  rw [← this]; exact h
 | succ k ih =>
  by_cases e : k0 = k + 1
  ·rw [← e]; exact h
  ·exact hm k r (ih (by omega))
def fanN (sh : Int) : Nat := 512 * nS sh / 12
theorem fanN_le (sh : Int) : 12 * fanN sh ≤ 512 * nS sh := by unfold fanN; omega
theorem fanN_ge (sh : Int) : 42 ≤ fanN sh := by unfold fanN; have := nS_pos sh; omega
theorem chk_k (sh K M C : Int) : ∀ k, 1 ≤ k → geom_Check.f k sh K M C = some (if GeoOk sh K M C then 0 else 2) := fuel_up (geom_Check.mono sh K M C) (geom_Check_f sh K M C)
theorem size_1 {sh K M C : Int} (h : GeoOk sh K M C) : geom_Size.f 1 sh K M C = some ((512 * nS sh : Nat) : Int) := by
 unfold geom_Size.f
 rw [geom_right_f, decide_eq_true h]
 simp only [Option.bind_some, ↓reduceIte]
 rw [show ((512 * nS sh : Nat) : Int) = 512 * (nS sh : Int) by omega, shl9 sh h.1 h.2.1, nS_int, if_pos]
 rw [wrap64_id (by have := h.1; omega) (by have := h.2.1; omega)]
 have := h.1; omega
theorem size_k {sh K M C : Int} (h : GeoOk sh K M C) : ∀ k, 1 ≤ k → geom_Size.f k sh K M C = some ((512 * nS sh : Nat) : Int) := fuel_up (geom_Size.mono sh K M C) (size_1 h)
theorem tdiv_nat (a b : Nat) : Int.tdiv (a : Int) (b : Int) = ((a / b : Nat) : Int) := by
 rw [Int.tdiv_eq_ediv_of_nonneg (by omega)]
 rfl
theorem fan_k {sh K M C : Int} (h : GeoOk sh K M C) (k : Nat) (hk : 1 ≤ k) : geom_Fan.f k sh K M C = some ((fanN sh : Nat) : Int) := by
 unfold geom_Fan.f
 rw [size_k h k hk, Option.bind_some, show (12 : Int) = ((12 : Nat) : Int) from rfl, tdiv_nat]
 have := nS_le h.2.1
 have h2 : 512 * nS sh / 12 ≤ 512 * nS sh := Nat.div_le_self _ _
 rw [wrap64_id (by omega) (by omega)]
 rfl
theorem over_is {n z : Nat} (hn : n ≤ 1000000000) (hz : 1 ≤ z) (hz2 : z ≤ 1000000) : pages_over.f (n : Int) (z : Int) = some ((ovr n z : Nat) : Int) := by
 unfold pages_over.f
 rw [if_neg (by omega)]
 have h2 : (n + z - 1) / z ≤ n + z - 1 := Nat.div_le_self _ _
 have e1 : wrap64 ((n : Int) + (z : Int)) = ((n + z : Nat) : Int) := (wrap64_id (by omega) (by omega)).trans (by omega)
 have e2 : wrap64 (((n + z : Nat) : Int) - 1) = ((n + z - 1 : Nat) : Int) := (wrap64_id (by omega) (by omega)).trans (by omega)
 rw [e1, e2, tdiv_nat]
 clear e1 e2
 unfold ovr
 generalize (n + z - 1) / z = x at h2 ⊢
 rw [wrap64_id (by omega) (by omega)]
theorem levM_N {f : Nat} (hf : 2 ≤ f) (hf2 : f ≤ 1000000) : ∀ (q m : Nat), m ≤ q + 1 → m ≤ 1000000 → levM (f : Int) (q + 1) (m : Int) = some ((levN f q m).map (fun x : Nat => (x : Int)))
 | 0, m, h, _ => by rw [levM, if_neg (by omega)]; rfl
 | q + 1, m, h, h2 => by
  rw [levM, levN]
  by_cases hm : m ≤ 1
  ·rw [if_neg (by omega), if_pos hm]; rfl
  ·have hlt := ovr_lt hf (show 2 ≤ m by omega)
   rw [if_pos (by omega), if_neg hm, over_is (by omega) (by omega) hf2, Option.bind_some, levM_N hf hf2 q (ovr m f) (by omega) (by omega)]
   rfl
theorem levN_sum {f : Nat} (hf : 2 ≤ f) : ∀ (q m : Nat), (levN f q m).sum ≤ m * (q + 1)
 | 0, m => by rw [levN]; simp
 | q + 1, m => by
  rw [levN]
  by_cases hm : m ≤ 1
  ·rw [if_pos hm]
   have := Nat.mul_le_mul_left m (show 1 ≤ q + 1 + 1 by omega)
   simp only [List.sum_cons, List.sum_nil]; omega
  ·rw [if_neg hm, List.sum_cons, Nat.mul_succ]
   have hlt := ovr_lt hf (show 2 ≤ m by omega)
   have h1 := levN_sum hf q (ovr m f)
   have h2 : ovr m f * (q + 1) ≤ m * (q + 1) := Nat.mul_le_mul_right _ (by omega)
   omega
theorem levN_len_m {f : Nat} (hf : 2 ≤ f) : ∀ (q m : Nat), (levN f q m).length ≤ max m 1
 | 0, m => by rw [levN]; simp; omega
 | q + 1, m => by
  rw [levN]
  by_cases hm : m ≤ 1
  ·rw [if_pos hm]; simp; omega
  ·rw [if_neg hm, List.length_cons]
   have hlt := ovr_lt hf (show 2 ≤ m by omega)
   have := levN_len_m hf q (ovr m f)
   omega
def lens (f Z n : Nat) : List Nat := levN f 3000 (max (ovr n Z) 1)
theorem mx_nat (a : Nat) : mx (a : Int) 1 = ((max a 1 : Nat) : Int) := by
 unfold mx
 by_cases h : (a : Int) < 1
 ·rw [if_pos h]; omega
 ·rw [if_neg h]; omega
theorem ovr_le_n {n z : Nat} (hz : 512 ≤ z) (hn : n ≤ 1048576) : ovr n z ≤ 2048 := by
 unfold ovr
 refine Nat.le_of_lt_succ ((Nat.div_lt_iff_lt_mul (by omega)).2 ?_)
 have := Nat.mul_le_mul_left 2049 hz
 omega
theorem lens_sum (f Z n : Nat) (hf : 2 ≤ f) (hZ : 512 ≤ Z) (hn : n ≤ 1048576) : (lens f Z n).sum ≤ 6148048 := by
 have h1 := ovr_le_n hZ hn
 have h2 := levN_sum hf 3000 (max (ovr n Z) 1)
 have h3 : max (ovr n Z) 1 * (3000 + 1) ≤ 2048 * (3000 + 1) := Nat.mul_le_mul_right _ (by omega)
 unfold lens
 omega
theorem levM_lens (sh : Int) (h7 : sh ≤ 7) (n : Nat) (hn : n ≤ 1048576) : levM (fanN sh : Int) 3001 (mx ((ovr n (512 * nS sh) : Nat) : Int) 1) = some ((lens (fanN sh) (512 * nS sh) n).map (fun x : Nat => (x : Int))) := by
 have h1 := ovr_le_n (n := n) (z := 512 * nS sh) (by have := nS_pos sh; omega) hn
 have hf := fanN_ge sh
 have hf2 := fanN_le sh
 have hs := nS_le h7
 rw [mx_nat]
 exact levM_N (by omega) (by omega) 3000 _ (by omega) (by omega)
theorem foldl_sum : ∀ (l : List Nat) (a : Nat), a + l.sum ≤ 1000000000 → (l.map (fun x : Nat => (x : Int))).foldl levSum (a : Int) = ((a + l.sum : Nat) : Int)
 | [], a, _ => by simp
 | x :: l, a, h => by
  rw [List.sum_cons] at h
  rw [List.map_cons, List.foldl_cons, List.sum_cons]
  have e : levSum (a : Int) (x : Int) = ((a + x : Nat) : Int) := by
   unfold levSum
   rw [wrap64_id (by omega) (by omega)]; omega
  rw [e, foldl_sum l (a + x) (by omega), Nat.add_assoc]
def countP (sh gk gm gc : Int) (n : Int) : Int × Int := if GeoOk sh gk gm gc then (if n < 0 ∨ n > 1048576 then (0, 1) else ((((lens (fanN sh) (512 * nS sh) n.toNat).sum : Nat) : Int), 0)) else (0, 2)
theorem count_f (sh gk gm gc : Int) (n : Int) : pages_Count.f 3001 sh gk gm gc n = some (countP sh gk gm gc n) := by
 unfold pages_Count.f countP
 rw [chk_k _ _ _ _ 3001 (by decide), Option.bind_some]
 by_cases hg : GeoOk sh gk gm gc
 ·rw [if_pos hg, if_pos rfl, if_pos hg]
  by_cases h0 : n < 0
  ·rw [if_pos h0, if_pos (Or.inl h0)]
  ·rw [if_neg h0]
   by_cases h1 : n > 1048576
   ·rw [if_pos h1, if_pos (Or.inr h1)]
   ·rw [if_neg h1, if_neg (fun h => h.elim h0 h1)]
    obtain ⟨m, rfl⟩ : ∃ m : Nat, n = (m : Int) := ⟨n.toNat, by omega⟩
    have hs := nS_le hg.2.1
    have hp := nS_pos sh
    have hsum := lens_sum (fanN sh) (512 * nS sh) m (by have := fanN_ge sh; omega) (by omega) (by omega)
    rw [size_k hg _ (by decide), Option.bind_some, fan_k hg _ (by decide), Option.bind_some, over_is (by omega) (by omega) (by omega), Option.bind_some, levM_lens sh hg.2.1 m (by omega), Option.bind_some, Int.toNat_natCast]
    have := foldl_sum (lens (fanN sh) (512 * nS sh) m) 0 (by omega)
    rw [show ((0 : Nat) : Int) = 0 from rfl] at this
    rw [this, Nat.zero_add]
 ·rw [if_neg hg, if_neg (by decide), if_neg hg]
theorem count_any (sh gk gm gc : Int) (n : Int) (W : World) : Calls Tryd.prog 22 #[.agg #[.int .i64 sh, .int .i64 gk, .int .i64 gm, .int .i64 gc], .int .i64 n] W fun e w' => e = .returned (.tuple #[.int .i64 (countP sh gk gm gc n).1, .int .i64 (countP sh gk gm gc n).2]) ∧ Below W.heap.size W w' :=
 pages_Count.calls 3001 sh gk gm gc n _ _ W (count_f sh gk gm gc n)
theorem levels_any {sh gk gm gc : Int} (hg : GeoOk sh gk gm gc) (n : Nat) (hn : n ≤ 1048576) (W : World) : Calls Tryd.prog 68 #[.agg #[.int .i64 sh, .int .i64 gk, .int .i64 gm, .int .i64 gc], .int .i64 (n : Int)] W fun e w' => ∃ lb Zr, e = .returned (.func (.func 112) #[] lb) ∧ SeqO Zr (fun _ => False) Tryd.prog 112 lb (fun x : Int => #[.int .i64 x]) ((lens (fanN sh) (512 * nS sh) n).map (fun x : Nat => (x : Int))) w' ∧ (∀ r, Zr r → r < w'.heap.size) ∧ Below W.heap.size W w' := by
 refine ((callsIn_wide (n := 3)).1 (levels_in sh gk gm gc (n : Int) W)).mono ?_
 rintro e w' ⟨rfl, rfl⟩
 have hs := nS_le hg.2.1
 have hp := nS_pos sh
 have hb : Below W.heap.size W ((W.alloc (.cells #[.int .i64 sh, .int .i64 gk, .int .i64 gm, .int .i64 gc] 23)).alloc (.cells #[.int .i64 (n : Int)] 3)) := below2 W _ _
 have p0 := new1of2 W (.cells #[.int .i64 sh, .int .i64 gk, .int .i64 gm, .int .i64 gc] 23) (.cells #[.int .i64 (n : Int)] 3)
 have p1 := new2 W (.cells #[.int .i64 sh, .int .i64 gk, .int .i64 gm, .int .i64 gc] 23) (.cells #[.int .i64 (n : Int)] 3)
 refine ⟨_, fun r => r = W.heap.size ∨ r = W.heap.size + 1, rfl, levels_seq 3001 _ W.heap.size (W.heap.size + 1) sh gk gm gc (n : Int) _ _ _ _ 3001 p0 p1 (size_k hg _ (by decide)) (fan_k hg _ (by decide)) (over_is (by omega) (by omega) (by omega)) (levM_lens sh hg.2.1 n hn), fun r hr => ?_, hb⟩
 simp
 omega
theorem fan_any {sh gk gm gc : Int} (hg : GeoOk sh gk gm gc) (W : World) : Calls Tryd.prog 75 #[.agg #[.int .i64 sh, .int .i64 gk, .int .i64 gm, .int .i64 gc]] W fun e w' => e = .returned (.int .i64 (fanN sh : Int)) ∧ Below W.heap.size W w' :=
 geom_Fan.calls 1 sh gk gm gc _ W (fan_k hg 1 (by decide))
set_option maxRecDepth 100000 in
set_option maxHeartbeats 4000000 in
theorem build_why (w : World) (sh gk gm gc : Int) (blob : ByteArray) (A : Option Addr) (m c : Nat) (n why : Int) (hy : why ≠ 0)
  (hCnt : ∀ W, Calls Tryd.prog 22 #[.agg #[.int .i64 sh, .int .i64 gk, .int .i64 gm, .int .i64 gc], .int .i64 blob.size] W fun e w' => e = .returned (.tuple #[.int .i64 n, .int .i64 why]) ∧ Below W.heap.size W w') :
  Calls Tryd.prog 24 #[.agg #[.int .i64 sh, .int .i64 gk, .int .i64 gm, .int .i64 gc], .string blob, .slice A m c] w fun e w' => e = .returned (.tuple #[.slice none 0 0, .agg #[.int .i64 0, .int .i64 0, .int .u32 0], .int .i64 why]) ∧ Below w.heap.size w w' := by
 have hu23 := Tryd.underlying23
 have hu26 := Tryd.underlying26
 have hb0 := below2 w (.cells #[.int .i64 sh, .int .i64 gk, .int .i64 gm, .int .i64 gc] 23) (.cells #[.int .i64 0, .int .i64 0, .int .u32 0] 26)
 have p0 := new1of2 w (.cells #[.int .i64 sh, .int .i64 gk, .int .i64 gm, .int .i64 gc] 23) (.cells #[.int .i64 0, .int .i64 0, .int .u32 0] 26)
 have p1 := new2 w (.cells #[.int .i64 sh, .int .i64 gk, .int .i64 gm, .int .i64 gc] 23) (.cells #[.int .i64 0, .int .i64 0, .int .u32 0] 26)
 have d1 : (why != 0) = true := by simpa using hy
 go_enter Tryd.func24, Tryd.ntmps24
 go_upto_region 1 with (fail)
 generalize (w.alloc (.cells #[.int .i64 sh, .int .i64 gk, .int .i64 gm, .int .i64 gc] 23)).alloc (.cells #[.int .i64 0, .int .i64 0, .int .u32 0] 26) = W0 at hb0 p0 p1 ⊢
 obtain ⟨⟨a0, a1, a2, a3⟩, _⟩ := blk4 p0
 go_wp2_with (go_at_call 22; with_reducible refine (hCnt _).mono ?_)
 rintro e w1 ⟨rfl, hb1⟩
 replace p1 := Stepb hb1 p1
 have hB1 := hb0.trans (hb1.mono hb0.size)
 clear a0 a1 a2 a3 hb0 hb1 hCnt hy
 obtain ⟨z0, z1, z2⟩ := blk3 p1
 obtain ⟨q0, q1, q2⟩ := frz3 p1
 go_wp2
 have hs8 : Step (fun k => k = w.heap.size + 1) w1 (((w1.setCell ⟨w.heap.size + 1, 0, none⟩ (.int .i64 0)).setCell ⟨w.heap.size + 1, 1, none⟩ (.int .i64 0)).setCell ⟨w.heap.size + 1, 2, none⟩ (.int .u32 0)) :=
  ((Step.setCell w1 (p := ⟨w.heap.size + 1, 0, none⟩) (S := fun k => k = w.heap.size + 1) rfl _).trans (Step.setCell _ (p := ⟨w.heap.size + 1, 1, none⟩) (S := fun k => k = w.heap.size + 1) rfl _) (fun _ h => h) (fun _ h => Or.inl h)).trans (Step.setCell _ (p := ⟨w.heap.size + 1, 2, none⟩) (S := fun k => k = w.heap.size + 1) rfl _) (fun _ h => h) (fun _ h => Or.inl h)
 have hz9 : (((w1.setCell ⟨w.heap.size + 1, 0, none⟩ (.int .i64 0)).setCell ⟨w.heap.size + 1, 1, none⟩ (.int .i64 0)).setCell ⟨w.heap.size + 1, 2, none⟩ (.int .u32 0)).heap[w.heap.size + 1]? = some (.cells #[.int .i64 0, .int .i64 0, .int .u32 0] 26 (0, 0)) := by
  simpa using blk_set (blk_set (blk_set p1 0 (.int .i64 0)) 1 (.int .i64 0)) 2 (.int .u32 0)
 refine bodyPost_ret (results_list (rs := [.tmp 6, .cell 7 26, .tmp 8]) rfl (by simp) (.tmp (.cell (w.heap.size + 1) 26 #[.int .i64 0, .int .i64 0, .int .u32 0] (0, 0) _ rfl hz9 Tryd.underlying26 rfl (by kernel_rfl) (.tmp .nil)))) rfl ?_
 refine ⟨?_, hB1.trans (hs8.below hB1.size (fun q hq => by omega))⟩
 first | rfl | (simp; done) | (simp; rfl)
set_option maxRecDepth 100000 in
set_option maxHeartbeats 4000000 in
theorem build_len (w : World) (sh gk gm gc : Int) (blob : ByteArray) (A : Option Addr) (m c : Nat) (n : Int) (hy : (m : Int) ≠ wrap64 (2 * n))
  (hCnt : ∀ W, Calls Tryd.prog 22 #[.agg #[.int .i64 sh, .int .i64 gk, .int .i64 gm, .int .i64 gc], .int .i64 blob.size] W fun e w' => e = .returned (.tuple #[.int .i64 n, .int .i64 0]) ∧ Below W.heap.size W w') :
  Calls Tryd.prog 24 #[.agg #[.int .i64 sh, .int .i64 gk, .int .i64 gm, .int .i64 gc], .string blob, .slice A m c] w fun e w' => e = .returned (.tuple #[.slice none 0 0, .agg #[.int .i64 0, .int .i64 0, .int .u32 0], .int .i64 2]) ∧ Below w.heap.size w w' := by
 have hu23 := Tryd.underlying23
 have hu26 := Tryd.underlying26
 have hb0 := below2 w (.cells #[.int .i64 sh, .int .i64 gk, .int .i64 gm, .int .i64 gc] 23) (.cells #[.int .i64 0, .int .i64 0, .int .u32 0] 26)
 have p0 := new1of2 w (.cells #[.int .i64 sh, .int .i64 gk, .int .i64 gm, .int .i64 gc] 23) (.cells #[.int .i64 0, .int .i64 0, .int .u32 0] 26)
 have p1 := new2 w (.cells #[.int .i64 sh, .int .i64 gk, .int .i64 gm, .int .i64 gc] 23) (.cells #[.int .i64 0, .int .i64 0, .int .u32 0] 26)
 have d1 : ((m : Int) != wrap64 (2 * n)) = true := by simpa using hy
 go_enter Tryd.func24, Tryd.ntmps24
 go_upto_region 1 with (fail)
 generalize (w.alloc (.cells #[.int .i64 sh, .int .i64 gk, .int .i64 gm, .int .i64 gc] 23)).alloc (.cells #[.int .i64 0, .int .i64 0, .int .u32 0] 26) = W0 at hb0 p0 p1 ⊢
 obtain ⟨⟨a0, a1, a2, a3⟩, _⟩ := blk4 p0
 go_wp2_with (go_at_call 22; with_reducible refine (hCnt _).mono ?_)
 rintro e w1 ⟨rfl, hb1⟩
 replace p1 := Stepb hb1 p1
 have hB1 := hb0.trans (hb1.mono hb0.size)
 clear a0 a1 a2 a3 hb0 hb1 hCnt hy
 obtain ⟨z0, z1, z2⟩ := blk3 p1
 obtain ⟨q0, q1, q2⟩ := frz3 p1
 go_wp2
 have hs8 : Step (fun k => k = w.heap.size + 1) w1 (((w1.setCell ⟨w.heap.size + 1, 0, none⟩ (.int .i64 0)).setCell ⟨w.heap.size + 1, 1, none⟩ (.int .i64 0)).setCell ⟨w.heap.size + 1, 2, none⟩ (.int .u32 0)) :=
  ((Step.setCell w1 (p := ⟨w.heap.size + 1, 0, none⟩) (S := fun k => k = w.heap.size + 1) rfl _).trans (Step.setCell _ (p := ⟨w.heap.size + 1, 1, none⟩) (S := fun k => k = w.heap.size + 1) rfl _) (fun _ h => h) (fun _ h => Or.inl h)).trans (Step.setCell _ (p := ⟨w.heap.size + 1, 2, none⟩) (S := fun k => k = w.heap.size + 1) rfl _) (fun _ h => h) (fun _ h => Or.inl h)
 have hz9 : (((w1.setCell ⟨w.heap.size + 1, 0, none⟩ (.int .i64 0)).setCell ⟨w.heap.size + 1, 1, none⟩ (.int .i64 0)).setCell ⟨w.heap.size + 1, 2, none⟩ (.int .u32 0)).heap[w.heap.size + 1]? = some (.cells #[.int .i64 0, .int .i64 0, .int .u32 0] 26 (0, 0)) := by
  simpa using blk_set (blk_set (blk_set p1 0 (.int .i64 0)) 1 (.int .i64 0)) 2 (.int .u32 0)
 refine bodyPost_ret (results_list (rs := [.tmp 6, .cell 7 26, .tmp 8]) rfl (by simp) (.tmp (.cell (w.heap.size + 1) 26 #[.int .i64 0, .int .i64 0, .int .u32 0] (0, 0) _ rfl hz9 Tryd.underlying26 rfl (by kernel_rfl) (.tmp .nil)))) rfl ?_
 refine ⟨?_, hB1.trans (hs8.below hB1.size (fun q hq => by omega))⟩
 first | rfl | (simp; done) | (simp; rfl)
set_option maxRecDepth 100000 in
set_option maxHeartbeats 4000000 in
theorem build_bad (w : World) (sh gk gm gc : Int) (blob : ByteArray) (A : Option Addr) (m c : Nat) (n : Int) (hy : (m : Int) = wrap64 (2 * n)) (hCo : ∀ W, Below w.heap.size w W → Calls Tryd.prog 70 #[.slice A m c, .func (.func 71) #[] #[]] W fun e w' => e = .returned (.bool true) ∧ Below W.heap.size W w')
  (hCnt : ∀ W, Calls Tryd.prog 22 #[.agg #[.int .i64 sh, .int .i64 gk, .int .i64 gm, .int .i64 gc], .int .i64 blob.size] W fun e w' => e = .returned (.tuple #[.int .i64 n, .int .i64 0]) ∧ Below W.heap.size W w') :
  Calls Tryd.prog 24 #[.agg #[.int .i64 sh, .int .i64 gk, .int .i64 gm, .int .i64 gc], .string blob, .slice A m c] w fun e w' => e = .returned (.tuple #[.slice none 0 0, .agg #[.int .i64 0, .int .i64 0, .int .u32 0], .int .i64 2]) ∧ Below w.heap.size w w' := by
 have hu23 := Tryd.underlying23
 have hu26 := Tryd.underlying26
 have hb0 := below2 w (.cells #[.int .i64 sh, .int .i64 gk, .int .i64 gm, .int .i64 gc] 23) (.cells #[.int .i64 0, .int .i64 0, .int .u32 0] 26)
 have p0 := new1of2 w (.cells #[.int .i64 sh, .int .i64 gk, .int .i64 gm, .int .i64 gc] 23) (.cells #[.int .i64 0, .int .i64 0, .int .u32 0] 26)
 have p1 := new2 w (.cells #[.int .i64 sh, .int .i64 gk, .int .i64 gm, .int .i64 gc] 23) (.cells #[.int .i64 0, .int .i64 0, .int .u32 0] 26)
 have d1 : ((m : Int) != wrap64 (2 * n)) = false := by simpa using hy
 go_enter Tryd.func24, Tryd.ntmps24
 go_upto_region 1 with (fail)
 generalize (w.alloc (.cells #[.int .i64 sh, .int .i64 gk, .int .i64 gm, .int .i64 gc] 23)).alloc (.cells #[.int .i64 0, .int .i64 0, .int .u32 0] 26) = W0 at hb0 p0 p1 ⊢
 obtain ⟨⟨a0, a1, a2, a3⟩, _⟩ := blk4 p0
 go_wp2_with (go_at_call 22; with_reducible refine (hCnt _).mono ?_)
 rintro e w1 ⟨rfl, hb1⟩
 replace p1 := Stepb hb1 p1
 have hB1 := hb0.trans (hb1.mono hb0.size)
 clear a0 a1 a2 a3 hb0 hb1 hCnt hy
 have hCo1 := hCo w1 hB1
 go_wp2_with (go_at_call 70; with_reducible refine hCo1.mono ?_)
 rintro e w2 ⟨rfl, hb2⟩
 replace p1 := Stepb hb2 p1
 have hB2 := hB1.trans (hb2.mono hB1.size)
 clear hCo hCo1 hB1 hb2
 obtain ⟨z0, z1, z2⟩ := blk3 p1
 obtain ⟨q0, q1, q2⟩ := frz3 p1
 go_wp2
 have hs8 : Step (fun k => k = w.heap.size + 1) w2 (((w2.setCell ⟨w.heap.size + 1, 0, none⟩ (.int .i64 0)).setCell ⟨w.heap.size + 1, 1, none⟩ (.int .i64 0)).setCell ⟨w.heap.size + 1, 2, none⟩ (.int .u32 0)) :=
  ((Step.setCell w2 (p := ⟨w.heap.size + 1, 0, none⟩) (S := fun k => k = w.heap.size + 1) rfl _).trans (Step.setCell _ (p := ⟨w.heap.size + 1, 1, none⟩) (S := fun k => k = w.heap.size + 1) rfl _) (fun _ h => h) (fun _ h => Or.inl h)).trans (Step.setCell _ (p := ⟨w.heap.size + 1, 2, none⟩) (S := fun k => k = w.heap.size + 1) rfl _) (fun _ h => h) (fun _ h => Or.inl h)
 have hz9 : (((w2.setCell ⟨w.heap.size + 1, 0, none⟩ (.int .i64 0)).setCell ⟨w.heap.size + 1, 1, none⟩ (.int .i64 0)).setCell ⟨w.heap.size + 1, 2, none⟩ (.int .u32 0)).heap[w.heap.size + 1]? = some (.cells #[.int .i64 0, .int .i64 0, .int .u32 0] 26 (0, 0)) := by
  simpa using blk_set (blk_set (blk_set p1 0 (.int .i64 0)) 1 (.int .i64 0)) 2 (.int .u32 0)
 refine bodyPost_ret (results_list (rs := [.tmp 6, .cell 7 26, .tmp 8]) rfl (by simp) (.tmp (.cell (w.heap.size + 1) 26 #[.int .i64 0, .int .i64 0, .int .u32 0] (0, 0) _ rfl hz9 Tryd.underlying26 rfl (by kernel_rfl) (.tmp .nil)))) rfl ?_
 refine ⟨?_, hB2.trans (hs8.below hB2.size (fun q hq => by omega))⟩
 first | rfl | (simp; done) | (simp; rfl)
def AtsOk (l : List Int) : Prop := ∀ z ∈ l, 0 ≤ z ∧ z < 4294967296
instance (l : List Int) : Decidable (AtsOk l) := by unfold AtsOk; infer_instance
theorem rd_at (l : List Int) (i : Nat) (h : i < l.length) : rd l (i : Int) = l[i] := by
 rw [rd, Int.toNat_natCast, List.getD_eq_getElem?_getD, List.getElem?_eq_getElem h, Option.getD_some]
theorem idx_run (l : List Int) (hl : l.length ≤ 1000000) : ∀ (d i : Nat), i + d = l.length → (∀ z ∈ l.take i, 0 ≤ z ∧ z < 4294967296) → ∃ x, slices_IndexFunc_int_int__pages_Build_1.l0 (d + 1) l (l.length : Int) (i : Int) = some x ∧ (x = -1 ∧ AtsOk l ∨ 0 ≤ x ∧ ¬ AtsOk l)
 | 0, i, h, ht => by
  rw [slices_IndexFunc_int_int__pages_Build_1.l0, if_neg (by omega)]
  refine ⟨_, rfl, Or.inl ⟨rfl, ?_⟩⟩
  rwa [List.take_of_length_le (by omega)] at ht
 | d + 1, i, h, ht => by
  have hi : i < l.length := by omega
  have f1 : (i : Int) < (l.length : Int) := by omega
  have f2 : (0 : Int) ≤ (i : Int) := by omega
  rw [slices_IndexFunc_int_int__pages_Build_1.l0, if_pos f1, if_pos f2, if_pos f1, rd_at l i hi]
  unfold pages_Build_1.f
  by_cases h0 : l[i] < 0
  ·rw [if_pos h0, Option.bind_some, if_pos rfl]
   refine ⟨_, rfl, Or.inr ⟨f2, fun hk => ?_⟩⟩
   have := hk _ (List.getElem_mem hi)
   omega
  ·rw [if_neg h0, Option.bind_some]
   by_cases h1 : l[i] > 4294967295
   ·rw [if_pos (by simpa using h1)]
    refine ⟨_, rfl, Or.inr ⟨f2, fun hk => ?_⟩⟩
    have := hk _ (List.getElem_mem hi)
    omega
   ·rw [if_neg (by simpa using h1)]
    have hn : ∀ z ∈ l.take (i + 1), 0 ≤ z ∧ z < 4294967296 := fun z hz => by
     rw [List.take_succ_eq_append_getElem hi] at hz
     rcases List.mem_append.1 hz with hz | hz
     ·exact ht z hz
     ·rw [List.mem_singleton.1 hz]; omega
    have := idx_run l hl d (i + 1) (by omega) hn
    have e : wrap64 ((i : Int) + 1) = ((i + 1 : Nat) : Int) := (wrap64_id (by omega) (by omega)).trans (by omega)
    rw [e]
    exact this
theorem contains_f (l : List Int) (hl : l.length ≤ 1000000) : slices_ContainsFunc_int_int__pages_Build_1.f (l.length + 1) l = some (decide (¬ AtsOk l)) := by
 obtain ⟨x, h1, h2⟩ := idx_run l hl l.length 0 (by omega) (by simp)
 unfold slices_ContainsFunc_int_int__pages_Build_1.f slices_IndexFunc_int_int__pages_Build_1.f
 rw [show (0 : Int) = ((0 : Nat) : Int) from rfl, h1, Option.bind_some]
 rcases h2 with ⟨rfl, h2⟩ | ⟨h3, h2⟩
 ·congr 1
  rw [decide_eq_false (by decide), decide_eq_false (fun h => h h2)]
 ·congr 1
  rw [decide_eq_true (by simpa using h3), decide_eq_true h2]
def bldR (sh gk gm gc : Int) (blob : ByteArray) (ats : List Int) : List S130 × Int × Int × Int × Int :=
 if (countP sh gk gm gc (blob.size : Int)).2 ≠ 0 then ([], 0, 0, 0, (countP sh gk gm gc (blob.size : Int)).2) else
 if (ats.length : Int) ≠ 2 * (countP sh gk gm gc (blob.size : Int)).1 ∨ ¬ AtsOk ats then ([], 0, 0, 0, 2) else
 (bldP (512 * nS sh) (fanN sh) 3000 (cutS (512 * nS sh) (512 * nS sh) blob) ats [], (rd_T130 (bldP (512 * nS sh) (fanN sh) 3000 (cutS (512 * nS sh) (512 * nS sh) blob) ats []) (((bldP (512 * nS sh) (fanN sh) 3000 (cutS (512 * nS sh) (512 * nS sh) blob) ats []).length : Int) - 1)).f0.f0, (rd_T130 (bldP (512 * nS sh) (fanN sh) 3000 (cutS (512 * nS sh) (512 * nS sh) blob) ats []) (((bldP (512 * nS sh) (fanN sh) 3000 (cutS (512 * nS sh) (512 * nS sh) blob) ats []).length : Int) - 1)).f0.f1, (rd_T130 (bldP (512 * nS sh) (fanN sh) 3000 (cutS (512 * nS sh) (512 * nS sh) blob) ats []) (((bldP (512 * nS sh) (fanN sh) 3000 (cutS (512 * nS sh) (512 * nS sh) blob) ats []).length : Int) - 1)).f0.f2, 0)
theorem countP_ok {sh gk gm gc n : Int} (h : (countP sh gk gm gc n).2 = 0) : GeoOk sh gk gm gc ∧ 0 ≤ n ∧ n ≤ 1048576 ∧ (countP sh gk gm gc n).1 = (((lens (fanN sh) (512 * nS sh) n.toNat).sum : Nat) : Int) := by
 unfold countP at h ⊢
 by_cases hg : GeoOk sh gk gm gc
 ·rw [if_pos hg] at h ⊢
  by_cases h1 : n < 0 ∨ n > 1048576
  ·rw [if_pos h1] at h; exact absurd h (by decide)
  ·rw [if_neg h1]
   exact ⟨hg, by omega, by omega, rfl⟩
 ·rw [if_neg hg] at h; exact absurd h (by decide)
theorem small_sum {f Z n : Nat} (hf : 2 ≤ f) (hZ : 512 ≤ Z) (hn : n ≤ 65536) : (lens f Z n).sum ≤ 384128 ∧ 1 ≤ (lens f Z n).sum := by
 have h1 : ovr n Z ≤ 128 := by
  unfold ovr
  refine Nat.le_of_lt_succ ((Nat.div_lt_iff_lt_mul (by omega)).2 ?_)
  have := Nat.mul_le_mul_left 129 hZ
  omega
 have h2 := levN_sum hf 3000 (max (ovr n Z) 1)
 have h3 : max (ovr n Z) 1 * (3000 + 1) ≤ 128 * (3000 + 1) := Nat.mul_le_mul_right _ (by omega)
 unfold lens
 refine ⟨by omega, ?_⟩
 have : max (ovr n Z) 1 ≤ (levN f 3000 (max (ovr n Z) 1)).sum := by
  rw [show (3000 : Nat) = 2999 + 1 from rfl, levN]
  split <;> simp
 omega
theorem lens_cut {Z f : Nat} (hZ : 1 ≤ Z) (blob : ByteArray) : levN f 3000 (cutS Z Z blob).length = lens f Z blob.size := by
 rw [cutS_len hZ _ _ (Nat.le_refl _)]
 rfl
theorem cut_small {Z : Nat} (hZ : 512 ≤ Z) {blob : ByteArray} (hb : blob.size ≤ 65536) : (cutS Z Z blob).length ≤ 128 ∧ 1 ≤ (cutS Z Z blob).length := by
 rw [cutS_len (by omega) _ _ (Nat.le_refl _)]
 have h1 : ovr blob.size Z ≤ 128 := by
  unfold ovr
  refine Nat.le_of_lt_succ ((Nat.div_lt_iff_lt_mul (by omega)).2 ?_)
  have := Nat.mul_le_mul_left 129 hZ
  omega
 omega
theorem drawn_below {w w' : World} (h : Drawn0 w w') : Below w.heap.size w w' := by
 obtain ⟨n, rfl⟩ := h
 exact pw_below_drewN (Below.refl _ _) n
set_option maxRecDepth 100000 in
theorem build_any (w : World) (hT : TabAt w) (sh gk gm gc : Int) (blob : ByteArray) (hb : blob.size ≤ 65536) (A : Option Addr) (c : Nat) (ats : List Int) (hC : Kd.C (Kd.int .i64) w A ats.length ats) (hcl : ats.length ≤ c) (R : List S130 × Int × Int × Int × Int) (hR : R = bldR sh gk gm gc blob ats) :
  Calls Tryd.prog 24 #[.agg #[.int .i64 sh, .int .i64 gk, .int .i64 gm, .int .i64 gc], .string blob, .slice A ats.length c] w fun e w' => ∃ v, e = .returned (.tuple #[v, .agg #[.int .i64 R.2.1, .int .i64 R.2.2.1, .int .u32 R.2.2.2.1], .int .i64 R.2.2.2.2]) ∧ Kd.R k130 130 w' w.heap.size (fun _ => True) v R.1 ∧ Below w.heap.size w w' := by
 have hCnt := fun W => count_any sh gk gm gc (blob.size : Int) W
 unfold bldR at hR
 by_cases h0 : (countP sh gk gm gc (blob.size : Int)).2 ≠ 0
 ·rw [if_pos h0] at hR
  refine (build_why w sh gk gm gc blob A ats.length c _ _ h0 hCnt).mono ?_
  rintro e w' ⟨rfl, hB⟩
  exact ⟨_, by rw [hR], by rw [hR]; exact Kd.R_nil _ _ _ _ _, hB⟩
 rw [if_neg h0] at hR
 have h00 : (countP sh gk gm gc (blob.size : Int)).2 = 0 := by simpa using h0
 obtain ⟨hg, _, _, hcn⟩ := countP_ok h00
 rw [h00] at hCnt
 rw [hcn, Int.toNat_natCast] at hCnt hR
 have hf := fanN_ge sh
 have hfl := fanN_le sh
 have hp := nS_pos sh
 have hs7 := nS_le hg.2.1
 obtain ⟨hs1, hs2⟩ := small_sum (f := fanN sh) (Z := 512 * nS sh) (n := blob.size) (by omega) (by omega) hb
 generalize hN : (lens (fanN sh) (512 * nS sh) blob.size).sum = N at hCnt hR hs1 hs2
 have hw : wrap64 (2 * (N : Int)) = 2 * (N : Int) := wrap64_id (by omega) (by omega)
 by_cases h1 : (ats.length : Int) ≠ 2 * (N : Int)
 ·rw [if_pos (Or.inl h1)] at hR
  refine (build_len w sh gk gm gc blob A ats.length c _ (by rw [hw]; exact h1) hCnt).mono ?_
  rintro e w' ⟨rfl, hB⟩
  exact ⟨_, by rw [hR], by rw [hR]; exact Kd.R_nil _ _ _ _ _, hB⟩
 have h10 : (ats.length : Int) = 2 * (N : Int) := by simpa using h1
 have hal : ats.length ≤ 1000000 := by clear hw; omega
 have hcf := contains_f ats hal
 by_cases h2 : AtsOk ats
 ·rw [if_neg (fun h => h.elim h1 (fun h => h h2))] at hR
  rw [decide_eq_false (fun h => h h2)] at hcf
  have hlen := lens_cut (f := fanN sh) (show 1 ≤ 512 * nS sh by omega) blob
  obtain ⟨hc1, hc2⟩ := cut_small (show 512 ≤ 512 * nS sh by omega) hb
  have hln : 2 * (levN (fanN sh) 3000 (cutS (512 * nS sh) (512 * nS sh) blob).length).sum ≤ ats.length := by
   rw [hlen, hN]; clear hw; omega
  have hok := okB_of (Z := 512 * nS sh) (f := fanN sh) (by omega) hfl (by omega) 3000 (cutS (512 * nS sh) (512 * nS sh) blob) ats hc2 (by omega) hln (cutS_sizes (by omega) (Nat.le_refl _) _ blob (Nat.le_refl _))
  have hbl := bldP_len (Z := 512 * nS sh) (f := fanN sh) (by omega) 3000 (cutS (512 * nS sh) (512 * nS sh) blob) ats [] hc2 hln
  rw [hlen, hN, List.length_nil, Nat.zero_add] at hbl
  obtain ⟨m, hm⟩ : ∃ m, N = m + 1 := ⟨N - 1, by omega⟩
  have hCo : ∀ W, Kd.C (Kd.int .i64) W A ats.length ats → Calls Tryd.prog 70 #[.slice A ats.length c, .func (.func 71) #[] #[]] W fun e w' => e = .returned (.bool false) ∧ Below W.heap.size W w' := fun W hW => by
   refine (slices_ContainsFunc_int_int__pages_Build_1.calls _ A c ats _ W hW hcl hcf).mono ?_
   rintro e w' ⟨rfl, hd⟩
   exact ⟨rfl, drawn_below hd⟩
  refine (build_ok w hT sh gk gm gc hg blob (by omega) A c ats hC hcl h2 hal N m hm (by clear hw; omega) hCnt hCo (fanN sh) (by omega) hfl (fun W => fan_any hg W) 3000 hok _ rfl hbl).mono ?_
  rintro e w' ⟨v, rfl, hRv, hB⟩
  have hi : (((bldP (512 * nS sh) (fanN sh) 3000 (cutS (512 * nS sh) (512 * nS sh) blob) ats []).length : Int) - 1) = (m : Int) := by rw [hbl]; clear hw; omega
  rw [hi] at hR
  exact ⟨v, by rw [hR], by rw [hR]; exact hRv, hB⟩
 ·rw [if_pos (Or.inr h2)] at hR
  rw [decide_eq_true h2] at hcf
  refine (build_bad w sh gk gm gc blob A ats.length c _ (by rw [hw]; exact h10) (fun W hW => ?_) hCnt).mono ?_
  ·refine (slices_ContainsFunc_int_int__pages_Build_1.calls _ A c ats _ W (Kd.C_below hC hW) hcl hcf).mono ?_
   rintro e w' ⟨rfl, hd⟩
   exact ⟨rfl, drawn_below hd⟩
  rintro e w' ⟨rfl, hB⟩
  exact ⟨_, by rw [hR], by rw [hR]; exact Kd.R_nil _ _ _ _ _, hB⟩
def lvB : ByteArray := fillG 513 ⟨#[]⟩ ++ ⟨#[120]⟩
def lv0 : ByteArray := fillG 512 (lvB.extract 0 512)
def lv1 : ByteArray := fillG 512 (lvB.extract 512 lvB.size)
def lvP : List S130 := [⟨⟨2, 3, sumC lv0⟩, lv0⟩, ⟨⟨4, 5, sumC lv1⟩, lv1⟩]
def lv2 : ByteArray := fillG 512 ⟨(upL lvP).toArray⟩
def lvR : List S130 := [⟨⟨2, 3, sumC lv0⟩, lv0⟩, ⟨⟨4, 5, sumC lv1⟩, lv1⟩, ⟨⟨6, 7, sumC lv2⟩, lv2⟩]
theorem lvB_size : lvB.size = 514 := by
 unfold lvB
 rw [ByteArray.size_append, fillG_size _ _ (by decide)]
 rfl
theorem lv0_size : lv0.size = 512 := fillG_size _ _ (by rw [ByteArray.size_extract, lvB_size]; decide)
theorem lv1_size : lv1.size = 512 := fillG_size _ _ (by rw [ByteArray.size_extract, lvB_size]; decide)
theorem lvU_size : (⟨(upL lvP).toArray⟩ : ByteArray).size = 24 := by
 show (upL lvP).toArray.size = 24
 rw [List.size_toArray, upL_len]
 rfl
theorem lv2_size : lv2.size = 512 := fillG_size _ _ (by rw [lvU_size]; decide)
theorem lv_cut : cutS 512 512 lvB = [lv0, lv1] := by
 rw [cutS_more (by decide) (by rw [lvB_size]; decide), cutS_last (by rw [ByteArray.size_extract, lvB_size]; decide)]
 rfl
theorem lv_cut2 : cutS 512 504 ⟨(upL lvP).toArray⟩ = [lv2] := by
 rw [cutS_last (by rw [lvU_size]; decide)]
 rfl
theorem lv_n0 : nS 0 = 1 := rfl
theorem lv_f0 : fanN 0 = 42 := rfl
theorem lv_levN : levN 42 3000 2 = [2, 1] := by
 rw [show (3000 : Nat) = 2998 + 1 + 1 from rfl, levN, if_neg (by decide), levN, if_pos (by decide)]
 rfl
theorem lv_lens : lens (fanN 0) (512 * nS 0) 514 = [2, 1] := by
 unfold lens
 rw [lv_f0, lv_n0]
 exact lv_levN
theorem lv_cnt : countP 0 1 0 16 (lvB.size : Int) = (3, 0) := by
 rw [lvB_size]
 unfold countP
 rw [if_pos geo16, if_neg (by decide)]
 have : lens (fanN 0) (512 * nS 0) ((514 : Nat) : Int).toNat = [2, 1] := lv_lens
 rw [this]
 rfl
theorem lv_bldP : bldP (512 * nS 0) (fanN 0) 3000 (cutS (512 * nS 0) (512 * nS 0) lvB) [2, 3, 4, 5, 6, 7] [] = lvR := by
 rw [lv_n0, lv_f0, Nat.mul_one, lv_cut, show (3000 : Nat) = 2998 + 1 + 1 from rfl, bldP, if_neg (by decide)]
 have e1 : layP [lv0, lv1] [2, 3, 4, 5, 6, 7] = lvP := rfl
 rw [e1, show 12 * 42 = 504 from rfl, lv_cut2, bldP, if_pos (show [lv2].length = 1 from rfl)]
 rfl
theorem lv_bld : bldR 0 1 0 16 lvB [2, 3, 4, 5, 6, 7] = (lvR, 6, 7, sumC lv2, 0) := by
 unfold bldR
 rw [lv_cnt, if_neg (by decide), lv_bldP, if_neg]
 ·rfl
 ·rintro (h | h)
  ·exact h rfl
  ·exact h (by decide)
theorem lv_bld0 : bldR 0 1 0 16 ⟨#[]⟩ [] = ([], 0, 0, 0, 2) := by
 have hc : countP 0 1 0 16 (((⟨#[]⟩ : ByteArray).size : Nat) : Int) = (1, 0) := by
  unfold countP
  rw [if_pos geo16, if_neg (by decide)]
  have : lens (fanN 0) (512 * nS 0) (((⟨#[]⟩ : ByteArray).size : Nat) : Int).toNat = [1] := by
   unfold lens
   rw [show (3000 : Nat) = 2999 + 1 from rfl, levN]
   rfl
  rw [this]
  rfl
 unfold bldR
 rw [hc, if_neg (by decide), if_pos (Or.inl (by decide))]
theorem ext_list (t : ByteArray) (m : Nat) : (t.extract 0 m).data.toList = t.data.toList.take m := by
 rw [ByteArray.data_extract, Array.toList_extract, List.extract_eq_take_drop]
 simp
theorem lv_ptrs : getPs (lv2.extract 0 504) 2 = [⟨2, 3, sumC lv0⟩, ⟨4, 5, sumC lv1⟩] := by
 have e : lv2.extract 0 504 = ⟨(upL lvP ++ List.replicate 480 0).toArray⟩ := by
  apply ByteArray.ext
  apply Array.toList_inj.1
  have hu : (upL lvP).length = 24 := by rw [upL_len]; rfl
  show (lv2.extract 0 504).data.toList = upL lvP ++ List.replicate 480 0
  rw [ext_list]
  unfold lv2
  rw [fillG_list, lvU_size]
  show (upL lvP ++ List.replicate (512 - 24) 0).take 504 = _
  rw [List.take_append, hu, List.take_of_length_le (by omega), List.take_replicate]
  rfl
 rw [e]
 have h0 := sumC_in lv0
 have h1 := sumC_in lv1
 exact getPs_up (List.replicate 480 0) lvP (fun p hp => by
  rcases List.mem_cons.1 hp with rfl | hp
  ·exact ⟨⟨by decide, by decide⟩, ⟨by decide, by decide⟩, h0⟩
  ·rw [List.mem_singleton.1 hp]
   exact ⟨⟨by decide, by decide⟩, ⟨by decide, by decide⟩, h1⟩)
theorem lv_g0 : getP (lv2.extract 0 504) 0 = ⟨2, 3, sumC lv0⟩ := by
 have := congrArg (fun l => l[0]?) lv_ptrs
 simpa [getPs] using this
theorem lv_g1 : getP (lv2.extract 0 504) 1 = ⟨4, 5, sumC lv1⟩ := by
 have := congrArg (fun l => l[1]?) lv_ptrs
 simpa [getPs] using this
theorem lv_back : (lv0 ++ lv1).extract 0 514 = lvB := by
 obtain ⟨X, hX⟩ := cut_cat (Z := 512) (z := 512) (by decide) (Nat.le_refl _) _ lvB (Nat.le_refl _)
 rw [lv_cut] at hX
 have x0 : lv0.extract 0 512 = lv0 := by
  have := @ByteArray.extract_zero_size lv0
  rwa [lv0_size] at this
 have x1 : lv1.extract 0 512 = lv1 := by
  have := @ByteArray.extract_zero_size lv1
  rwa [lv1_size] at this
 simp only [List.flatMap_cons, List.flatMap_nil, x0, x1, List.append_nil] at hX
 apply ByteArray.ext
 apply Array.toList_inj.1
 rw [ext_list]
 have e : (lv0 ++ lv1).data.toList = lv0.data.toList ++ lv1.data.toList := by simp
 have hl : lvB.data.toList.length = 514 := by rw [Array.length_toList]; exact lvB_size
 rw [e, hX, List.take_append, hl, Nat.sub_self, List.take_zero, List.append_nil, List.take_of_length_le (by omega)]
theorem zero_run (W : World) : (Instr.makeSlice 95 (.int .i64 513) (.int .i64 513)).run Tryd.prog W = .ok (.slice (some ⟨W.heap.size, 0, none⟩) 513 513) (W.alloc (.cells (Array.replicate 513 (Value.int .u8 0)) 5)) ∧
  (convert 95 9 (.slice (some ⟨W.heap.size, 0, none⟩) 513 513)).run Tryd.prog (W.alloc (.cells (Array.replicate 513 (Value.int .u8 0)) 5)) = .ok (.string (fillG 513 ⟨#[]⟩)) (W.alloc (.cells (Array.replicate 513 (Value.int .u8 0)) 5)) := by
 obtain ⟨h1, _, h3⟩ := fill_run W 513 ⟨#[]⟩ (by decide) (by decide)
 have e : fillC 513 ⟨#[]⟩ = Array.replicate 513 (Value.int .u8 0) := by
  unfold fillC
  have e0 : bytesOf ⟨#[]⟩ = [] := rfl
  have e1 : (⟨#[]⟩ : ByteArray).size = 0 := rfl
  rw [e0, e1, List.nil_append, List.map_replicate, List.toArray_replicate]
 rw [e] at h3
 exact ⟨h1, h3⟩
theorem C_cop6 {W : World} {n : Nat} (h0 : W.cell? ⟨n, 0, none⟩ = some (.int .i64 6)) (h1 : W.cell? ⟨n, 1, none⟩ = some (.bool true)) : Kd.C k88 W (some ⟨n, 0, none⟩) 1 [⟨6, true⟩] := by
 refine ⟨rfl, by decide, fun _ => ⟨_, rfl, fun j p hp => ?_⟩⟩
 have hj0 : j = 0 := by
  rcases Nat.eq_zero_or_pos j with e | e
  ·exact e
  ·rw [List.getElem?_eq_none (by simp; omega)] at hp; cases hp
 subst hj0
 simp only [List.getElem?_cons_zero, Option.some.injEq] at hp
 subst hp
 refine ⟨[.int .i64 6, .bool true], rfl, k88_mk W ⟨6, true⟩, fun i u hi => ?_⟩
 rcases i with _ | _ | i
 ·cases hi; exact h0
 ·cases hi; exact h1
 ·simp at hi
def plives_any.T19 : Bool × List (List Nat × List Nat) := (true, [([], []), ([0], [0]), ([1], [1]), ([2], [2]), ([3, 2], [2, 3]), ([2, 4], [2, 4]), ([5, 2], [5]), ([6], [6]), ([7, 6], [6, 7]), ([6, 8], [6, 8]), ([9, 6], [9]), ([10], [10]), ([11, 10], [10, 11]), ([12, 10], [10, 12]), ([10, 13], [10, 13]), ([14, 10], [14]), ([15], [15]), ([16, 15], [15, 16]), ([17, 15], [15, 17]), ([15, 18], [15, 18]), ([19, 15], [19]), ([20], [20]), ([21, 20], [20, 21]), ([20, 22], [20, 22]), ([23, 20], [23]), ([24], [24]), ([24], [24]), ([25, 26, 24], [24, 25, 26]), ([24, 27], [24, 27]), ([28, 24], [28]), ([29], [29]), ([30, 29], [29, 30]), ([31, 29], [29, 31]), ([29, 32], [29, 32]), ([33, 29], [33]), ([34], [34]), ([35, 34], [34, 35]), ([36, 34], [34, 36]), ([34], [34]), ([37, 38, 34], [34, 37, 38]), ([34, 39], [34, 39]), ([40, 34], [40]), ([41], [41]), ([42, 41], [41, 42]), ([41, 43], [41, 43]), ([44, 41], [44]), ([45], [45]), ([45], [45]), ([47, 45], [45, 47]), ([46, 48, 45, 45], [45, 46, 48]), ([45, 49], [45, 49]), ([50, 49], [50]), ([51], [51]), ([52, 51], [51, 52]), ([51, 53], [51, 53]), ([54, 51], [54]), ([55], [55]), ([56, 55], [55, 56]), ([55, 57], [55, 57]), ([58, 55], [58]), ([59], [59]), ([60, 59], [59, 60]), ([59, 61], [59, 61]), ([62, 59], [62]), ([63], [63]), ([64, 63, 63], [63, 64]), ([65, 63], [63, 65]), ([63, 66], [63, 66]), ([67, 65, 0, 1, 2, 3, 4, 5, 6, 7, 8, 9, 10, 11, 12, 13, 14, 15, 16, 17, 18, 19, 20, 21, 22, 23, 24, 25, 26, 27, 28, 29, 30, 31, 32, 33, 34, 35, 36, 37, 38, 39, 40, 41, 42, 43, 44, 45, 46, 47, 48, 49, 50, 51, 52, 53, 54, 55, 56, 57, 58, 59, 60, 61, 62, 63, 64, 65, 66, 67], [67])])
def plives_any.B19 : List Nat := [0, 1, 3, 7, 15, 31, 63, 127, 255, 511, 1023, 2047, 4095, 8191, 16383, 32767, 65535, 131071, 262143, 524287, 1048575, 2097151, 4194303, 8388607, 16777215, 33554431, 33554431, 134217727, 268435455, 536870911, 1073741823, 2147483647, 4294967295, 8589934591, 17179869183, 34359738367, 68719476735, 137438953471, 34359738367, 549755813887, 1099511627775, 2199023255551, 4398046511103, 8796093022207, 17592186044415, 35184372088831, 70368744177663, 70368744177663, 211106232532991, 562949953421311, 1125899906842623, 2251799813685247, 4503599627370495, 9007199254740991, 18014398509481983, 36028797018963967, 72057594037927935, 144115188075855871, 288230376151711743, 576460752303423487, 1152921504606846975, 2305843009213693951, 4611686018427387903, 9223372036854775807, 18446744073709551615, 36893488147419103231, 73786976294838206463, 147573952589676412927, 295147905179352825855]
theorem plives_any.tab19 : rtab .any (opsOf Tryd.f21 19) = plives_any.T19 := by kernel_rfl
theorem plives_any.bits19 : waitsOk plives_any.T19.2 plives_any.B19 = true := by kernel_rfl
set_option maxRecDepth 100000 in
set_option maxHeartbeats 16000000 in
theorem pages_lives_any (w : World) (hT : TabAt w) : Calls Tryd.prog 21 #[] w fun e w' => e = .returned (.bool true) ∧ Step (fun _ => False) w w' := by
 have hu23 := Tryd.underlying23
 have hu26 := Tryd.underlying26
 have hu50 := Tryd.underlying50
 have hu53 := Tryd.underlying53
 have hu60 := Tryd.underlying60
 have hu63 := Tryd.underlying63
 have hu88 := Tryd.underlying88
 have hu95 := Tryd.underlying95
 have hNew : ∀ W, Calls Tryd.prog 16 #[.int .i64 16] W fun e w' => ∃ i, e = .returned (.tuple #[.pointer (some ⟨i.d, 0, none⟩), .int .i64 0]) ∧ DevAt w' i xs0 [] [] false (-1) 0 ∧ (∀ k, i.In k → W.heap.size ≤ k) ∧ Below W.heap.size W w' := fun W => dev_New_any W 16 (by omega) (by omega)
 have hCnt : ∀ W, Calls Tryd.prog 22 #[.agg #[.int .i64 0, .int .i64 1, .int .i64 0, .int .i64 16], .int .i64 (lvB.size : Int)] W fun e w' => e = .returned (.tuple #[.int .i64 3, .int .i64 0]) ∧ Below W.heap.size W w' := fun W => by
  have := count_any 0 1 0 16 (lvB.size : Int) W
  rw [lv_cnt] at this
  exact this
 have hBld : ∀ W A, TabAt W → Kd.C (Kd.int .i64) W A 6 [2, 3, 4, 5, 6, 7] → Calls Tryd.prog 24 #[.agg #[.int .i64 0, .int .i64 1, .int .i64 0, .int .i64 16], .string lvB, .slice A 6 6] W fun e w' => ∃ A' c', e = .returned (.tuple #[.slice A' 3 c', .agg #[.int .i64 6, .int .i64 7, .int .u32 (sumC lv2)], .int .i64 0]) ∧ 3 ≤ c' ∧ Kd.R k130 130 w' W.heap.size (fun _ => True) (.slice A' 3 c') lvR ∧ Below W.heap.size W w' := fun W A h hC => by
  refine (build_any W h 0 1 0 16 lvB (by rw [lvB_size]; decide) A 6 [2, 3, 4, 5, 6, 7] hC (by decide) _ lv_bld.symm).mono ?_
  rintro e w' ⟨v, rfl, hR, hB⟩
  obtain ⟨A', c', rfl, hc, _⟩ := Kd.R_reads hR
  exact ⟨A', c', rfl, hc, hR, hB⟩
 have hBld0 : ∀ W, TabAt W → Calls Tryd.prog 24 #[.agg #[.int .i64 0, .int .i64 1, .int .i64 0, .int .i64 16], .string ⟨#[]⟩, .slice none 0 0] W fun e w' => ∃ v, e = .returned (.tuple #[v, .agg #[.int .i64 0, .int .i64 0, .int .u32 0], .int .i64 2]) ∧ Below W.heap.size W w' := fun W h => by
  refine (build_any W h 0 1 0 16 ⟨#[]⟩ (by decide) none 0 [] ⟨rfl, by decide, fun h => absurd h (by decide)⟩ (by decide) _ lv_bld0.symm).mono ?_
  rintro e w' ⟨v, rfl, hR, hB⟩
  exact ⟨v, rfl, hB⟩
 have hWr : ∀ W i A c, DevAt W i xs0 [] [] false (-1) 0 → 3 ≤ c → (∀ w', Step i.In W w' → Kd.C k130 w' A 3 lvR) → Calls Tryd.prog 28 #[.pointer (some ⟨i.d, 0, none⟩), .agg #[.int .i64 0, .int .i64 1, .int .i64 0, .int .i64 16], .slice A 3 c] W fun e w' => e = .returned (.int .i64 0) ∧ DevAt w' i xs0 (pgF lv0 lv1 lv2) [] false (-1) 6 ∧ Step i.In W w' := fun W i A c hD hc hC => pages_Write_any W i xs0 [] [] false (-1) 0 hD 0 1 0 16 A c lvR (by decide) hc hC _ (lv_write lv0 lv1 lv2 lv0_size lv1_size lv2_size).symm
 have hEr : ∀ W i xs F B nw (a : Int), DevAt W i xs F B false (-1) nw → xs.length = 16 → 0 ≤ a ∧ a < 16 → Calls Tryd.prog 20 #[.pointer (some ⟨i.d, 0, none⟩), .int .i64 a] W fun e w' => e = .returned (.int .i64 0) ∧ DevAt w' i xs F (putL a true B) false (-1) nw ∧ Step i.In W w' := fun W i xs F B nw a hD hl ha => by
  have := dev_Erase_any W i xs F B false (-1) nw a hD
  have e : eraseP xs.length B a = (putL a true B, 0) := by unfold eraseP; rw [if_pos (by rw [hl]; exact ha)]
  rw [e] at this
  exact this
 have hFl : ∀ W i xs F B nw xs' F' B', flushP xs F B false (-1) = (xs', F', B', false, -1, 0) → DevAt W i xs F B false (-1) nw → Calls Tryd.prog 18 #[.pointer (some ⟨i.d, 0, none⟩)] W fun e w' => e = .returned (.int .i64 0) ∧ DevAt w' i xs' F' B' false (-1) nw ∧ Step i.In W w' := fun W i xs F B nw xs' F' B' hf hD => by
  refine (dev_Flush_any W i xs F B false (-1) nw hD).mono ?_
  rintro e w' ⟨xs2, F2, B2, o2, f2, y2, h2, rfl, hD2, hs⟩
  rw [hf] at h2
  cases h2
  exact ⟨rfl, hD2, hs⟩
 have hLd1 : ∀ W i, TabAt W → DevAt W i (pgX lv0 lv1 lv2) [] [(6, true)] false (-1) 6 → Calls Tryd.prog 30 #[.pointer (some ⟨i.d, 0, none⟩), .agg #[.int .i64 0, .int .i64 1, .int .i64 0, .int .i64 16], .agg #[.int .i64 6, .int .i64 7, .int .u32 (sumC lv2)], .int .i64 (lvB.size : Int)] W fun e w' => ∃ A c, e = .returned (.tuple #[.string lvB, .slice A 3 c, .int .i64 0]) ∧ 3 ≤ c ∧ Kd.R k26 26 w' W.heap.size (fun _ => True) (.slice A 3 c) (pgL lv0 lv1 lv2) ∧ Below W.heap.size W w' := fun W i h hD => by
  have hl := lv_load lv0 lv1 lv2 lv0_size lv1_size lv_g0 lv_g1
  rw [lv_back] at hl
  have hlv := fun W => levels_any geo16 lvB.size (by rw [lvB_size]; decide) W
  have el : (lens (fanN 0) (512 * nS 0) lvB.size).map (fun x : Nat => (x : Int)) = [2, 1] := by rw [lvB_size, lv_lens]; rfl
  rw [el] at hlv
  refine (load_ok W h h.pos i _ [] [(6, true)] false (-1) 6 hD 0 1 0 16 geo16 ⟨6, 7, sumC lv2⟩ lvB.size (by rw [lvB_size]; decide) 3 hCnt [2, 1] (by decide) (by decide) hlv 42 (by decide) (fun W => fan_any geo16 W) ?_ (lvB, pgL lv0 lv1 lv2, 0) ?_).mono ?_
  ·rw [lvB_size]; exact ⟨by decide, by decide, by decide, by decide, by decide, by decide⟩
  ·rw [lvB_size]; exact hl.symm
  rintro e w' ⟨v, rfl, hR, hB⟩
  obtain ⟨A', c', rfl, hc, _⟩ := Kd.R_reads hR
  exact ⟨A', c', rfl, hc, hR, hB⟩
 have hLd2 : ∀ W i, TabAt W → DevAt W i (pgX lv0 lv1 lv2) [] [(2, true), (3, true)] false (-1) 7 → Calls Tryd.prog 30 #[.pointer (some ⟨i.d, 0, none⟩), .agg #[.int .i64 0, .int .i64 1, .int .i64 0, .int .i64 16], .agg #[.int .i64 6, .int .i64 7, .int .u32 (sumC lv2)], .int .i64 (lvB.size : Int)] W fun e w' => ∃ v, e = .returned (.tuple #[.string ⟨#[]⟩, v, .int .i64 10]) ∧ Below W.heap.size W w' := fun W i h hD => by
  have hl := lv_load2 lv0 lv1 lv2 lv_g0 lv_g1
  have hlv := fun W => levels_any geo16 lvB.size (by rw [lvB_size]; decide) W
  have el : (lens (fanN 0) (512 * nS 0) lvB.size).map (fun x : Nat => (x : Int)) = [2, 1] := by rw [lvB_size, lv_lens]; rfl
  rw [el] at hlv
  refine (load_ok W h h.pos i _ [] [(2, true), (3, true)] false (-1) 7 hD 0 1 0 16 geo16 ⟨6, 7, sumC lv2⟩ lvB.size (by rw [lvB_size]; decide) 3 hCnt [2, 1] (by decide) (by decide) hlv 42 (by decide) (fun W => fan_any geo16 W) ?_ (⟨#[]⟩, [], 10) ?_).mono ?_
  ·rw [lvB_size]; exact ⟨by decide, by decide, by decide, by decide, by decide, by decide⟩
  ·rw [lvB_size]; exact hl.symm
  rintro e w' ⟨v, rfl, hR, hB⟩
  exact ⟨v, rfl, hB⟩
 have hHl : ∀ W i A c, TabAt W → ¬ i.In 0 → DevAt W i (pgX lv0 lv1 lv2) [] [(6, true)] false (-1) 6 → 3 ≤ c → (∀ w', Step i.In W w' → Kd.C k26 w' A 3 (pgL lv0 lv1 lv2)) → Calls Tryd.prog 31 #[.pointer (some ⟨i.d, 0, none⟩), .agg #[.int .i64 0, .int .i64 1, .int .i64 0, .int .i64 16], .slice A 3 c] W fun e w' => ∃ A' c', e = .returned (.tuple #[.slice A' 1 c', .int .i64 0]) ∧ 1 ≤ c' ∧ DevAt w' i (pgX lv0 lv1 lv2) [(6, lv2)] [(6, true)] false (-1) 7 ∧ Kd.R k88 88 w' W.heap.size (fun _ => True) (.slice A' 1 c') [⟨6, true⟩] ∧ Step i.In W w' := fun W i A c h hi0 hD hc hC => by
  refine (pages_Heal_any W h i hi0 _ [] [(6, true)] false (-1) 6 hD 0 1 0 16 A c (pgL lv0 lv1 lv2) (by decide) hc hC _ (lv_heal lv0 lv1 lv2 lv2_size).symm).mono ?_
  rintro e w' ⟨v, rfl, hD2, hR, hs⟩
  obtain ⟨A', c', rfl, hc, _⟩ := Kd.R_reads hR
  exact ⟨A', c', rfl, hc, hD2, hR, hs⟩
 have hSame : ∀ W q c n, Kd.C k88 W (some q) 1 [⟨6, true⟩] → 1 ≤ c → W.cell? ⟨n, 0, none⟩ = some (.int .i64 6) → W.cell? ⟨n, 1, none⟩ = some (.bool true) → Calls Tryd.prog 39 #[.slice (some q) 1 c, .slice (some ⟨n, 0, none⟩) 1 1] W fun e w' => e = .returned (.bool true) ∧ Drawn0 W w' := fun W q c n hC hc n0 n1 => caulkref09_Same.calls 5 (some q) c [⟨6, true⟩] (some ⟨n, 0, none⟩) 1 [⟨6, true⟩] true W hC hc (C_cop6 n0 n1) (Nat.le_refl _) (by kernel_rfl)
 have hZB : fillG 513 ⟨#[]⟩ ++ ⟨#[120]⟩ = lvB := rfl
 have hlR : lvR.length = 3 := rfl
 have hlL : (pgL lv0 lv1 lv2)[2]? = some ⟨6, 7, sumC lv2⟩ := rfl
 have hMk := zero_run
 have hZz : (fillG 513 ⟨#[]⟩).size = 513 := fillG_size _ _ (by decide)
 generalize fillG 513 ⟨#[]⟩ = ZS at hZB hMk hZz
 clear hlR
 have hs1 := Step.alloc (fun _ => False) w (.cells #[.int .i64 0, .int .i64 1, .int .i64 0, .int .i64 16] 23)
 have k1 := World.alloc_heap_new w (.cells #[.int .i64 0, .int .i64 1, .int .i64 0, .int .i64 16] 23)
 go_enter Tryd.func21, Tryd.ntmps21
 try simp only [List.append_eq, List.cons_append, List.nil_append]
 go_wp2_with (go_at_call 16; with_reducible refine (hNew _).mono ?_)
 rintro e w2 ⟨i, rfl, hD2, hlo, hb2⟩
 have k2 := Stepb hb2 k1
 have hs2 := step2 hs1 (Step.of_below (S := fun _ => False) hb2)
 have hin : ∀ k, i.In k → w.heap.size < k := fun k hk => by have := hlo k hk; simp at this; omega
 have hT2 := hT.step hs2 (fun h => h)
 clear hlo hb2 hs1 k1 hNew
 obtain ⟨hM1, hM2⟩ := hMk w2
 have hs3 := Step.alloc (fun _ => False) w2 (.cells (Array.replicate 513 (Value.int .u8 0)) 5)
 have k3 := hs3.block k2 (fun h => h)
 have hD3 := hD2.step hs3 (fun _ _ h => h)
 have hT3 := hT2.step hs3 (fun h => h)
 replace hs3 := step2 hs2 hs3
 obtain ⟨⟨a0, a1, a2, a3⟩, _⟩ := blk4 k3
 clear k2 hs2 hD2 hT2
 go_wp2_with (go_at_call 22; with_reducible refine (hCnt _).mono ?_)
 rintro e w4 ⟨rfl, hb4⟩
 have k4 := Stepb hb4 k3
 have hD4 := hD3.kept hb4
 have hs4 := step2 hs3 (Step.of_below (S := fun _ => False) hb4)
 clear a0 a1 a2 a3 k3 hs3 hD3 hT3 hb4 hM1 hM2 hMk hCnt hZz hZB
 obtain ⟨⟨a0, a1, a2, a3⟩, _⟩ := blk4 k4
 have hs5 := Step.alloc (fun _ => False) w4 (.cells #[.int .i64 2, .int .i64 3, .int .i64 4, .int .i64 5, .int .i64 6, .int .i64 7] 3)
 have k5 := hs5.block k4 (fun h => h)
 have hD5 := hD4.step hs5 (fun _ _ h => h)
 have g5 := World.alloc_heap_new w4 (.cells #[.int .i64 2, .int .i64 3, .int .i64 4, .int .i64 5, .int .i64 6, .int .i64 7] 3)
 replace hs5 := step2 hs4 hs5
 have hT5 := hT.step hs5 (fun h => h)
 have hC5 := int_C (own_new1 (size := 1) (n := 6) (cs := [2, 3, 4, 5, 6, 7].map (Value.int .i64)) g5 (Nat.le_refl _) rfl (by decide)) (List.prefix_refl [2, 3, 4, 5, 6, 7]) (by decide)
 clear k4 hs4 hD4 g5
 go_wp2_with (go_at_call 24; with_reducible refine (hBld _ _ hT5 hC5).mono ?_)
 rintro e w6 ⟨lA, lc, rfl, hlc, hR6, hb6⟩
 have k6 := Stepb hb6 k5
 have hD6 := hD5.kept hb6
 have hs6 := step2 hs5 (Step.of_below (S := fun _ => False) hb6)
 have hl6 := Kd.R_base hR6
 have hi5 := hD5.lt
 have hw5 := Nat.lt_of_lt_of_le (blk_lt k5) hb6.size
 clear a0 a1 a2 a3 k5 hs5 hD5 hT5 hC5 hBld
 have hs7 := Step.alloc (fun _ => False) w6 (.cells #[.int .i64 6, .int .i64 7, .int .u32 (sumC lv2)] 26)
 have k7 := hs7.block k6 (fun h => h)
 have hD7 := hD6.step hs7 (fun _ _ h => h)
 have r7 := World.alloc_heap_new w6 (.cells #[.int .i64 6, .int .i64 7, .int .u32 (sumC lv2)] 26)
 have hR7 := R130_step hR6 hs7 (fun _ _ h => h)
 replace hs7 := step2 hs6 hs7
 have hir : ∀ k, i.In k → k ≠ w6.heap.size := fun k hk => by have := hD6.lt k hk; omega
 have hC7 : ∀ w', Step i.In (w6.alloc (.cells #[.int .i64 6, .int .i64 7, .int .u32 (sumC lv2)] 26)) w' → Kd.C k130 w' lA 3 lvR := fun w' h => (Kd.R_reads' (R130_step hR7 h (fun k hk e => by have := hl6 k hk; have := hi5 k e; omega))).2.2
 clear hb6 k6 hs6 hD6 hR6 hR7
 obtain ⟨⟨a0, a1, a2, a3⟩, _⟩ := blk4 k7
 have hW7 := hWr _ i lA lc hD7 hlc hC7
 go_wp2_with (go_at_call 28; with_reducible refine hW7.mono ?_)
 rintro e w8 ⟨rfl, hD8, hs78⟩
 have k8 := hs78.block k7 (fun h => Nat.lt_irrefl _ (hin _ h))
 have r8 := hs78.block r7 (fun h => hir _ h rfl)
 have hs8 := hs7.trans hs78 (fun _ h => h) (fun k hk => Or.inr (Nat.le_of_lt (hin k hk)))
 clear a0 a1 a2 a3 hW7 hC7 hWr k7 r7 hD7 hs7 hs78 hl6 hi5
 generalize w6.heap.size = rb at *
 have hE := hEr w8 i _ _ _ _ 6 hD8 rfl (by decide)
 go_wp2_with (go_at_call 20; with_reducible refine hE.mono ?_)
 rintro e w9 ⟨rfl, hD9, hs89⟩
 have k9 := hs89.block k8 (fun h => Nat.lt_irrefl _ (hin _ h))
 have r9 := hs89.block r8 (fun h => hir _ h rfl)
 have hs9 := hs8.trans hs89 (fun _ h => h) (fun k hk => Or.inr (Nat.le_of_lt (hin k hk)))
 clear hE k8 r8 hD8 hs8 hs89
 have hF := hFl w9 i _ _ _ _ _ _ _ (lv_flush lv0 lv1 lv2) hD9
 go_wp2_with (go_at_call 18; with_reducible refine hF.mono ?_)
 rintro e wa ⟨rfl, hDa, hs9a⟩
 have ka := hs9a.block k9 (fun h => Nat.lt_irrefl _ (hin _ h))
 have ra := hs9a.block r9 (fun h => hir _ h rfl)
 have hsa := hs9.trans hs9a (fun _ h => h) (fun k hk => Or.inr (Nat.le_of_lt (hin k hk)))
 clear hF k9 r9 hD9 hs9 hs9a
 have hE := hEr wa i _ _ _ _ 6 hDa rfl (by decide)
 go_wp2_with (go_at_call 20; with_reducible refine hE.mono ?_)
 rintro e wb ⟨rfl, hDb, hsab⟩
 have kb := hsab.block ka (fun h => Nat.lt_irrefl _ (hin _ h))
 have rb_ := hsab.block ra (fun h => hir _ h rfl)
 have hsb := hsa.trans hsab (fun _ h => h) (fun k hk => Or.inr (Nat.le_of_lt (hin k hk)))
 have hTb := hT.step hsb (fun h => h)
 replace hDb : DevAt wb i (pgX lv0 lv1 lv2) [] [(6, true)] false (-1) 6 := hDb
 clear hE ka ra hDa hsa hsab
 obtain ⟨⟨a0, a1, a2, a3⟩, _⟩ := blk4 kb
 obtain ⟨z0, z1, z2⟩ := blk3 rb_
 go_wp2_with (go_at_call 30; with_reducible refine (hLd1 wb i hTb hDb).mono ?_)
 rintro e wc ⟨pA, pc, rfl, hpc, hRp, hbc⟩
 have kc := Stepb hbc kb
 have rc := Stepb hbc rb_
 have hDc := hDb.kept hbc
 have hsc := step2 hsb (Step.of_below (S := fun _ => False) hbc)
 have hTc := hT.step hsc (fun h => h)
 have hpb := Kd.R_base hRp
 have hib := hDb.lt
 have hCc : ∀ w', Step i.In wc w' → Kd.C k26 w' pA 3 (pgL lv0 lv1 lv2) := fun w' h => (Kd.R_reads' (R26_step hRp h (fun k hk e => by have := hpb k hk; have := hib k e; omega))).2.2
 clear a0 a1 a2 a3 z0 z1 z2 kb rb_ hDb hsb hTb hbc hLd1
 obtain ⟨⟨a0, a1, a2, a3⟩, _⟩ := blk4 kc
 have hi0 : ¬ i.In 0 := fun h => by have := hin 0 h; omega
 have hH := hHl wc i pA pc hTc hi0 hDc hpc hCc
 go_wp2_with (go_at_call 31; with_reducible refine hH.mono ?_)
 rintro e wd ⟨qA, qc, rfl, hqc, hDd, hRq, hscd⟩
 have kd := hscd.block kc (fun h => Nat.lt_irrefl _ (hin _ h))
 have rd := hscd.block rc (fun h => hir _ h rfl)
 have hsd := hsc.trans hscd (fun _ h => h) (fun k hk => Or.inr (Nat.le_of_lt (hin k hk)))
 have hPd := R26_step hRp hscd (fun k hk e => by have := hpb k hk; have := hib k e; omega)
 have hqb := Kd.R_base hRq
 have hic := hDc.lt
 have hwc := blk_lt kc
 have hpk : ∀ k, (Value.slice pA 3 pc).ownBlock = some k → ¬ i.In k := fun k hk e => by have := hpb k hk; have := hib k e; omega
 have hqk : ∀ k, (Value.slice qA 1 qc).ownBlock = some k → ¬ i.In k := fun k hk e => by have := hqb k hk; have := hic k e; omega
 clear a0 a1 a2 a3 kc rc hDc hsc hTc hCc hH hscd hRp hHl hib hpb hqb hic
 have hF := hFl wd i _ _ _ _ _ _ _ (lv_flush2 lv0 lv1 lv2) hDd
 go_wp2_with (go_at_call 18; with_reducible refine hF.mono ?_)
 rintro e we ⟨rfl, hDe, hsde⟩
 have ke := hsde.block kd (fun h => Nat.lt_irrefl _ (hin _ h))
 have re := hsde.block rd (fun h => hir _ h rfl)
 have hse := hsd.trans hsde (fun _ h => h) (fun k hk => Or.inr (Nat.le_of_lt (hin k hk)))
 have hPe := R26_step hPd hsde hpk
 have hQe := R88_step hRq hsde hqk
 clear hF kd rd hDd hsd hsde hPd hRq hFl
 have hE := hEr we i _ _ _ _ 2 hDe rfl (by decide)
 go_wp2_with (go_at_call 20; with_reducible refine hE.mono ?_)
 rintro e wf ⟨rfl, hDf, hsef⟩
 have kf := hsef.block ke (fun h => Nat.lt_irrefl _ (hin _ h))
 have rf := hsef.block re (fun h => hir _ h rfl)
 have hsf := hse.trans hsef (fun _ h => h) (fun k hk => Or.inr (Nat.le_of_lt (hin k hk)))
 have hPf := R26_step hPe hsef hpk
 have hQf := R88_step hQe hsef hqk
 clear hE ke re hDe hse hsef hPe hQe
 have hE := hEr wf i _ _ _ _ 3 hDf rfl (by decide)
 go_wp2_with (go_at_call 20; with_reducible refine hE.mono ?_)
 rintro e wg ⟨rfl, hDg, hsfg⟩
 have kg := hsfg.block kf (fun h => Nat.lt_irrefl _ (hin _ h))
 have rg := hsfg.block rf (fun h => hir _ h rfl)
 have hsg := hsf.trans hsfg (fun _ h => h) (fun k hk => Or.inr (Nat.le_of_lt (hin k hk)))
 have hPg := R26_step hPf hsfg hpk
 have hQg := R88_step hQf hsfg hqk
 have hTg := hT.step hsg (fun h => h)
 replace hDg : DevAt wg i (pgX lv0 lv1 lv2) [] [(2, true), (3, true)] false (-1) 7 := hDg
 clear hE kf rf hDf hsf hsfg hPf hQf hEr
 obtain ⟨⟨a0, a1, a2, a3⟩, _⟩ := blk4 kg
 obtain ⟨z0, z1, z2⟩ := blk3 rg
 go_wp2_with (go_at_call 30; with_reducible refine (hLd2 wg i hTg hDg).mono ?_)
 rintro e wh ⟨vh, rfl, hbh⟩
 have kh := Stepb hbh kg
 have rh := Stepb hbh rg
 have hDh := hDg.kept hbh
 have hsh := step2 hsg (Step.of_below (S := fun _ => False) hbh)
 have hPh := R26_step hPg (Step.of_below (S := fun _ => False) hbh) (fun _ _ h => h)
 have hQh := R88_step hQg (Step.of_below (S := fun _ => False) hbh) (fun _ _ h => h)
 have hTh := hT.step hsh (fun h => h)
 clear a0 a1 a2 a3 z0 z1 z2 kg rg hDg hsg hTg hbh hPg hQg hLd2
 obtain ⟨⟨a0, a1, a2, a3⟩, _⟩ := blk4 kh
 go_wp2_with (go_at_call 24; with_reducible refine (hBld0 wh hTh).mono ?_)
 rintro e wi ⟨vi, rfl, hbi⟩
 have ki := Stepb hbi kh
 have ri := Stepb hbi rh
 have hsi := step2 hsh (Step.of_below (S := fun _ => False) hbi)
 have hDi := hDh.kept hbi
 have hPi := R26_step hPh (Step.of_below (S := fun _ => False) hbi) (fun _ _ h => h)
 have hQi := R88_step hQh (Step.of_below (S := fun _ => False) hbi) (fun _ _ h => h)
 clear a0 a1 a2 a3 kh rh hsh hDh hPh hQh hTh hbi hBld0
 have hsj := Step.alloc (fun _ => False) wi (.cells #[.int .i64 0, .int .i64 0, .int .u32 0] 26)
 have rj := hsj.block ri (fun h => h)
 have hDj := hDi.step hsj (fun _ _ h => h)
 have hPj := R26_step hPi hsj (fun _ _ h => h)
 have hQj := R88_step hQi hsj (fun _ _ h => h)
 replace hsj := step2 hsi hsj
 obtain ⟨z0, z1, z2⟩ := blk3 rj
 obtain ⟨pA', pc', ep, hpc', hCp⟩ := Kd.R_reads hPj
 cases ep
 obtain ⟨ad, rfl, x0, x1, x2⟩ := at_T26 hCp 2 (by decide) (by decide)
 clear ri hDi hsi hPi hQi
 obtain ⟨qa, rfl⟩ : ∃ qa, qA = some qa := by
  obtain ⟨A', c', e, hc, hC⟩ := Kd.R_reads hQj
  cases e
  obtain ⟨q, e, _⟩ := hC.2.2 (by decide)
  exact ⟨q, e⟩
 go_wp2_with (go_at_call 39)
 generalize wi.alloc (.cells #[.int .i64 0, .int .i64 0, .int .u32 0] 26) = wj at *
 have hCq : ∀ W, Step (fun _ => False) wj W → Kd.C k88 W (some qa) 1 [⟨6, true⟩] := fun W h => (Kd.R_reads' (R88_step hQj h (fun _ _ h => h))).2.2
 have hSj : Step (fun _ => False) wj wj.drew := Step.drew _ _
 replace x0 : wj.cell? ⟨ad.block, ad.off + 6, none⟩ = some (.int .i64 6) := x0
 replace x1 : wj.cell? ⟨ad.block, ad.off + 6 + 1, none⟩ = some (.int .i64 7) := x1
 replace x2 : wj.cell? ⟨ad.block, ad.off + 6 + 2, none⟩ = some (.int .u32 (sumC lv2)) := x2
 generalize sumC lv2 = s2 at *
 as_aux_lemma =>
  try simp only [List.append_eq, List.cons_append, List.nil_append]
  refine start_ (n := 69) (S := fun w' => w'.cell? ⟨rb, 0, none⟩ = some (.int .i64 6) ∧ w'.cell? ⟨rb, 1, none⟩ = some (.int .i64 7) ∧ w'.cell? ⟨rb, 2, none⟩ = some (.int .u32 s2) ∧ w'.cell? ⟨ad.block, ad.off + 6, none⟩ = some (.int .i64 6) ∧ w'.cell? ⟨ad.block, ad.off + 6 + 1, none⟩ = some (.int .i64 7) ∧ w'.cell? ⟨ad.block, ad.off + 6 + 2, none⟩ = some (.int .u32 s2) ∧ Step (fun _ => False) wj w') (ds := []) #[G,G,G,G,G,G,G,G,G,G,G,G,G,G,G,G,G,G,G,G,G,G,G,G,G,G,G,G,G,G,G,G,G,G,G,G,G,G,G,G,G,G,G,G,G,G,G,G,G,G,G,G,G,G,G,G,G,G,G,G,G,G,G,G,G,G,G,G,G] (by kernel_rfl) rfl rfl ⟨z0, z1, z2, x0, x1, x2, hSj⟩ (fun hHeld => ?_)
  generalize wj.drew = w3 at hHeld ⊢
  refine with_tabW plives_any.tab19 plives_any.bits19 (fun HT_ HW_ => ?_)
  refine pu_ 0 105 ?_ #[Y,G,G,G,G,G,G,G,G,G,G,G,G,G,G,G,G,G,G,G,G,G,G,G,G,G,G,G,G,G,G,G,G,G,G,G,G,G,G,G,G,G,G,G,G,G,G,G,G,G,G,G,G,G,G,G,G,G,G,G,G,G,G,G,G,G,G,G,G] rfl rfl (any_of HT_.out (by kernel_rfl)) (fun _ _ _ h => h) (Or.inl ⟨by rfl, ?_⟩) ?_ ?_ ?_;rotate_left
  ·intro w';go_simp;with_reducible rfl
  rotate_left;·simp only [Act.put, sA_];rfl
  refine pu_ 1 106 ?_ #[Y,Y,G,G,G,G,G,G,G,G,G,G,G,G,G,G,G,G,G,G,G,G,G,G,G,G,G,G,G,G,G,G,G,G,G,G,G,G,G,G,G,G,G,G,G,G,G,G,G,G,G,G,G,G,G,G,G,G,G,G,G,G,G,G,G,G,G,G,G] rfl rfl (any_of HT_.out (by kernel_rfl)) (fun _ _ _ h => h) (Or.inl ⟨by rfl, ?_⟩) ?_ ?_ ?_;rotate_left
  ·intro w';go_simp;with_reducible rfl
  rotate_left;·simp only [Act.put, sA_];rfl
  refine pu_ 2 107 ?_ #[Y,Y,Y,G,G,G,G,G,G,G,G,G,G,G,G,G,G,G,G,G,G,G,G,G,G,G,G,G,G,G,G,G,G,G,G,G,G,G,G,G,G,G,G,G,G,G,G,G,G,G,G,G,G,G,G,G,G,G,G,G,G,G,G,G,G,G,G,G,G] rfl rfl (any_of HT_.out (by kernel_rfl)) (fun _ _ _ h => h) (Or.inl ⟨by rfl, ?_⟩) ?_ ?_ ?_;rotate_left
  ·intro w';go_simp;with_reducible rfl
  rotate_left;·simp only [Act.put, sA_];rfl
  refine pu_ 3 108 ?_ #[Y,Y,Y,Y,G,G,G,G,G,G,G,G,G,G,G,G,G,G,G,G,G,G,G,G,G,G,G,G,G,G,G,G,G,G,G,G,G,G,G,G,G,G,G,G,G,G,G,G,G,G,G,G,G,G,G,G,G,G,G,G,G,G,G,G,G,G,G,G,G] rfl rfl (any_of HT_.out (by kernel_rfl)) (fun _ _ _ h => h) (Or.inl ⟨by rfl, ?_⟩) ?_ ?_ ?_;rotate_left
  ·intro w';go_simp;with_reducible rfl
  rotate_left;·simp only [Act.put, sA_];rfl
  refine pu_ 4 109 ?_ #[Y,Y,Y,Y,Y,G,G,G,G,G,G,G,G,G,G,G,G,G,G,G,G,G,G,G,G,G,G,G,G,G,G,G,G,G,G,G,G,G,G,G,G,G,G,G,G,G,G,G,G,G,G,G,G,G,G,G,G,G,G,G,G,G,G,G,G,G,G,G,G] rfl rfl (any_of HT_.out (by kernel_rfl)) (fun _ _ _ h => h) (Or.inl ⟨by rfl, ?_⟩) ?_ ?_ ?_;rotate_left
  ·intro w';go_simp;with_reducible rfl
  rotate_left;·simp only [Act.put, sA_];rfl
  refine pu_ 5 110 ?_ #[Y,Y,Y,Y,Y,Y,G,G,G,G,G,G,G,G,G,G,G,G,G,G,G,G,G,G,G,G,G,G,G,G,G,G,G,G,G,G,G,G,G,G,G,G,G,G,G,G,G,G,G,G,G,G,G,G,G,G,G,G,G,G,G,G,G,G,G,G,G,G,G] rfl rfl (any_of HT_.out (by kernel_rfl)) (fun _ _ _ h => h) (Or.inl ⟨by rfl, ?_⟩) ?_ ?_ ?_;rotate_left
  ·intro w';go_simp;with_reducible rfl
  rotate_left;·simp only [Act.put, sA_];rfl
  refine pu_ 6 111 ?_ #[Y,Y,Y,Y,Y,Y,Y,G,G,G,G,G,G,G,G,G,G,G,G,G,G,G,G,G,G,G,G,G,G,G,G,G,G,G,G,G,G,G,G,G,G,G,G,G,G,G,G,G,G,G,G,G,G,G,G,G,G,G,G,G,G,G,G,G,G,G,G,G,G] rfl rfl (any_of HT_.out (by kernel_rfl)) (fun _ _ _ h => h) (Or.inl ⟨by rfl, ?_⟩) ?_ ?_ ?_;rotate_left
  ·intro w';go_simp;with_reducible rfl
  rotate_left;·simp only [Act.put, sA_];rfl
  refine pu_ 7 112 ?_ #[Y,Y,Y,Y,Y,Y,Y,Y,G,G,G,G,G,G,G,G,G,G,G,G,G,G,G,G,G,G,G,G,G,G,G,G,G,G,G,G,G,G,G,G,G,G,G,G,G,G,G,G,G,G,G,G,G,G,G,G,G,G,G,G,G,G,G,G,G,G,G,G,G] rfl rfl (any_of HT_.out (by kernel_rfl)) (fun _ _ _ h => h) (Or.inl ⟨by rfl, ?_⟩) ?_ ?_ ?_;rotate_left
  ·intro w';go_simp;with_reducible rfl
  rotate_left;·simp only [Act.put, sA_];rfl
  refine pu_ 8 113 ?_ #[Y,Y,Y,Y,Y,Y,Y,Y,Y,G,G,G,G,G,G,G,G,G,G,G,G,G,G,G,G,G,G,G,G,G,G,G,G,G,G,G,G,G,G,G,G,G,G,G,G,G,G,G,G,G,G,G,G,G,G,G,G,G,G,G,G,G,G,G,G,G,G,G,G] rfl rfl (any_of HT_.out (by kernel_rfl)) (fun _ _ _ h => h) (Or.inl ⟨by rfl, ?_⟩) ?_ ?_ ?_;rotate_left
  ·intro w';go_simp;with_reducible rfl
  rotate_left;·simp only [Act.put, sA_];rfl
  refine pu_ 9 114 ?_ #[Y,Y,Y,Y,Y,Y,Y,Y,Y,Y,G,G,G,G,G,G,G,G,G,G,G,G,G,G,G,G,G,G,G,G,G,G,G,G,G,G,G,G,G,G,G,G,G,G,G,G,G,G,G,G,G,G,G,G,G,G,G,G,G,G,G,G,G,G,G,G,G,G,G] rfl rfl (any_of HT_.out (by kernel_rfl)) (fun _ _ _ h => h) (Or.inl ⟨by rfl, ?_⟩) ?_ ?_ ?_;rotate_left
  ·intro w';go_simp;with_reducible rfl
  rotate_left;·simp only [Act.put, sA_];rfl
  refine pu_ 10 115 ?_ #[Y,Y,Y,Y,Y,Y,Y,Y,Y,Y,Y,G,G,G,G,G,G,G,G,G,G,G,G,G,G,G,G,G,G,G,G,G,G,G,G,G,G,G,G,G,G,G,G,G,G,G,G,G,G,G,G,G,G,G,G,G,G,G,G,G,G,G,G,G,G,G,G,G,G] rfl rfl (any_of HT_.out (by kernel_rfl)) (fun _ _ _ h => h) (Or.inl ⟨by rfl, ?_⟩) ?_ ?_ ?_;rotate_left
  ·intro w';go_simp;with_reducible rfl
  rotate_left;·simp only [Act.put, sA_];rfl
  refine pu_ 11 116 ?_ #[Y,Y,Y,Y,Y,Y,Y,Y,Y,Y,Y,Y,G,G,G,G,G,G,G,G,G,G,G,G,G,G,G,G,G,G,G,G,G,G,G,G,G,G,G,G,G,G,G,G,G,G,G,G,G,G,G,G,G,G,G,G,G,G,G,G,G,G,G,G,G,G,G,G,G] rfl rfl (any_of HT_.out (by kernel_rfl)) (fun _ _ _ h => h) (Or.inl ⟨by rfl, ?_⟩) ?_ ?_ ?_;rotate_left
  ·intro w';go_simp;with_reducible rfl
  rotate_left;·simp only [Act.put, sA_];rfl
  refine tk_ 12 117 ?_ #[Y,Y,Y,Y,Y,Y,Y,Y,Y,Y,Y,Y,Y,G,G,G,G,G,G,G,G,G,G,G,G,G,G,G,G,G,G,G,G,G,G,G,G,G,G,G,G,G,G,G,G,G,G,G,G,G,G,G,G,G,G,G,G,G,G,G,G,G,G,G,G,G,G,G,G] rfl rfl (take_ofW HT_.out HW_.out (by kernel_rfl)) (fun _ _ _ h => h) (Or.inl ⟨by rfl, ?_⟩) hHeld ?_ ?_ ?_;rotate_left
  ·rintro w' ⟨s0, s1, s2, s3, s4, s5, s6⟩
   go_simp
   with_reducible rfl
  rotate_left;·simp only [Act.put, sA_];rfl
  refine pu_ 13 118 ?_ #[Y,Y,Y,Y,Y,Y,Y,Y,Y,Y,Y,Y,Y,Y,G,G,G,G,G,G,G,G,G,G,G,G,G,G,G,G,G,G,G,G,G,G,G,G,G,G,G,G,G,G,G,G,G,G,G,G,G,G,G,G,G,G,G,G,G,G,G,G,G,G,G,G,G,G,G] rfl rfl (any_of HT_.out (by kernel_rfl)) (fun _ _ _ h => h) (Or.inl ⟨by rfl, ?_⟩) ?_ ?_ ?_;rotate_left
  ·intro w';go_simp;with_reducible rfl
  rotate_left;·simp only [Act.put, sA_];rfl
  refine pu_ 14 119 ?_ #[Y,Y,Y,Y,Y,Y,Y,Y,Y,Y,Y,Y,Y,Y,Y,G,G,G,G,G,G,G,G,G,G,G,G,G,G,G,G,G,G,G,G,G,G,G,G,G,G,G,G,G,G,G,G,G,G,G,G,G,G,G,G,G,G,G,G,G,G,G,G,G,G,G,G,G,G] rfl rfl (any_of HT_.out (by kernel_rfl)) (fun _ _ _ h => h) (Or.inl ⟨by rfl, ?_⟩) ?_ ?_ ?_;rotate_left
  ·intro w';go_simp;with_reducible rfl
  rotate_left;·simp only [Act.put, sA_];rfl
  refine pu_ 15 120 ?_ #[Y,Y,Y,Y,Y,Y,Y,Y,Y,Y,Y,Y,Y,Y,Y,Y,G,G,G,G,G,G,G,G,G,G,G,G,G,G,G,G,G,G,G,G,G,G,G,G,G,G,G,G,G,G,G,G,G,G,G,G,G,G,G,G,G,G,G,G,G,G,G,G,G,G,G,G,G] rfl rfl (any_of HT_.out (by kernel_rfl)) (fun _ _ _ h => h) (Or.inl ⟨by rfl, ?_⟩) ?_ ?_ ?_;rotate_left
  ·intro w';go_simp;with_reducible rfl
  rotate_left;·simp only [Act.put, sA_];rfl
  refine pu_ 16 121 ?_ #[Y,Y,Y,Y,Y,Y,Y,Y,Y,Y,Y,Y,Y,Y,Y,Y,Y,G,G,G,G,G,G,G,G,G,G,G,G,G,G,G,G,G,G,G,G,G,G,G,G,G,G,G,G,G,G,G,G,G,G,G,G,G,G,G,G,G,G,G,G,G,G,G,G,G,G,G,G] rfl rfl (any_of HT_.out (by kernel_rfl)) (fun _ _ _ h => h) (Or.inl ⟨by rfl, ?_⟩) ?_ ?_ ?_;rotate_left
  ·intro w';go_simp;with_reducible rfl
  rotate_left;·simp only [Act.put, sA_];rfl
  refine tk_ 17 122 ?_ #[Y,Y,Y,Y,Y,Y,Y,Y,Y,Y,Y,Y,Y,Y,Y,Y,Y,Y,G,G,G,G,G,G,G,G,G,G,G,G,G,G,G,G,G,G,G,G,G,G,G,G,G,G,G,G,G,G,G,G,G,G,G,G,G,G,G,G,G,G,G,G,G,G,G,G,G,G,G] rfl rfl (take_ofW HT_.out HW_.out (by kernel_rfl)) (fun _ _ _ h => h) (Or.inl ⟨by rfl, ?_⟩) hHeld ?_ ?_ ?_;rotate_left
  ·rintro w' ⟨s0, s1, s2, s3, s4, s5, s6⟩
   go_simp
   with_reducible rfl
  rotate_left;·simp only [Act.put, sA_];rfl
  refine pu_ 18 123 ?_ #[Y,Y,Y,Y,Y,Y,Y,Y,Y,Y,Y,Y,Y,Y,Y,Y,Y,Y,Y,G,G,G,G,G,G,G,G,G,G,G,G,G,G,G,G,G,G,G,G,G,G,G,G,G,G,G,G,G,G,G,G,G,G,G,G,G,G,G,G,G,G,G,G,G,G,G,G,G,G] rfl rfl (any_of HT_.out (by kernel_rfl)) (fun _ _ _ h => h) (Or.inl ⟨by rfl, ?_⟩) ?_ ?_ ?_;rotate_left
  ·intro w';go_simp;with_reducible rfl
  rotate_left;·simp only [Act.put, sA_];rfl
  refine pu_ 19 124 ?_ #[Y,Y,Y,Y,Y,Y,Y,Y,Y,Y,Y,Y,Y,Y,Y,Y,Y,Y,Y,Y,G,G,G,G,G,G,G,G,G,G,G,G,G,G,G,G,G,G,G,G,G,G,G,G,G,G,G,G,G,G,G,G,G,G,G,G,G,G,G,G,G,G,G,G,G,G,G,G,G] rfl rfl (any_of HT_.out (by kernel_rfl)) (fun _ _ _ h => h) (Or.inl ⟨by rfl, ?_⟩) ?_ ?_ ?_;rotate_left
  ·intro w';go_simp;with_reducible rfl
  rotate_left;·simp only [Act.put, sA_];rfl
  refine pu_ 20 125 ?_ #[Y,Y,Y,Y,Y,Y,Y,Y,Y,Y,Y,Y,Y,Y,Y,Y,Y,Y,Y,Y,Y,G,G,G,G,G,G,G,G,G,G,G,G,G,G,G,G,G,G,G,G,G,G,G,G,G,G,G,G,G,G,G,G,G,G,G,G,G,G,G,G,G,G,G,G,G,G,G,G] rfl rfl (any_of HT_.out (by kernel_rfl)) (fun _ _ _ h => h) (Or.inl ⟨by rfl, ?_⟩) ?_ ?_ ?_;rotate_left
  ·intro w';go_simp;with_reducible rfl
  rotate_left;·simp only [Act.put, sA_];rfl
  refine pu_ 21 126 ?_ #[Y,Y,Y,Y,Y,Y,Y,Y,Y,Y,Y,Y,Y,Y,Y,Y,Y,Y,Y,Y,Y,Y,G,G,G,G,G,G,G,G,G,G,G,G,G,G,G,G,G,G,G,G,G,G,G,G,G,G,G,G,G,G,G,G,G,G,G,G,G,G,G,G,G,G,G,G,G,G,G] rfl rfl (any_of HT_.out (by kernel_rfl)) (fun _ _ _ h => h) (Or.inl ⟨by rfl, ?_⟩) ?_ ?_ ?_;rotate_left
  ·intro w';go_simp;with_reducible rfl
  rotate_left;·simp only [Act.put, sA_];rfl
  refine pu_ 22 127 ?_ #[Y,Y,Y,Y,Y,Y,Y,Y,Y,Y,Y,Y,Y,Y,Y,Y,Y,Y,Y,Y,Y,Y,Y,G,G,G,G,G,G,G,G,G,G,G,G,G,G,G,G,G,G,G,G,G,G,G,G,G,G,G,G,G,G,G,G,G,G,G,G,G,G,G,G,G,G,G,G,G,G] rfl rfl (any_of HT_.out (by kernel_rfl)) (fun _ _ _ h => h) (Or.inl ⟨by rfl, ?_⟩) ?_ ?_ ?_;rotate_left
  ·intro w';go_simp;with_reducible rfl
  rotate_left;·simp only [Act.put, sA_];rfl
  refine pu_ 23 128 ?_ #[Y,Y,Y,Y,Y,Y,Y,Y,Y,Y,Y,Y,Y,Y,Y,Y,Y,Y,Y,Y,Y,Y,Y,Y,G,G,G,G,G,G,G,G,G,G,G,G,G,G,G,G,G,G,G,G,G,G,G,G,G,G,G,G,G,G,G,G,G,G,G,G,G,G,G,G,G,G,G,G,G] rfl rfl (any_of HT_.out (by kernel_rfl)) (fun _ _ _ h => h) (Or.inl ⟨by rfl, ?_⟩) ?_ ?_ ?_;rotate_left
  ·intro w';go_simp;with_reducible rfl
  rotate_left;·simp only [Act.put, sA_];rfl
  refine pu_ 24 129 ?_ #[Y,Y,Y,Y,Y,Y,Y,Y,Y,Y,Y,Y,Y,Y,Y,Y,Y,Y,Y,Y,Y,Y,Y,Y,Y,G,G,G,G,G,G,G,G,G,G,G,G,G,G,G,G,G,G,G,G,G,G,G,G,G,G,G,G,G,G,G,G,G,G,G,G,G,G,G,G,G,G,G,G] rfl rfl (any_of HT_.out (by kernel_rfl)) (fun _ _ _ h => h) (Or.inl ⟨by rfl, ?_⟩) ?_ ?_ ?_;rotate_left
  ·intro w';go_simp;with_reducible rfl
  rotate_left;·simp only [Act.put, sA_];rfl
  refine pu_ 25 130 ?_ #[Y,Y,Y,Y,Y,Y,Y,Y,Y,Y,Y,Y,Y,Y,Y,Y,Y,Y,Y,Y,Y,Y,Y,Y,Y,Y,G,G,G,G,G,G,G,G,G,G,G,G,G,G,G,G,G,G,G,G,G,G,G,G,G,G,G,G,G,G,G,G,G,G,G,G,G,G,G,G,G,G,G] rfl rfl (any_of HT_.out (by kernel_rfl)) (fun _ _ _ h => h) (Or.inl ⟨by rfl, ?_⟩) ?_ ?_ ?_;rotate_left
  ·intro w';go_simp;with_reducible rfl
  rotate_left;·simp only [Act.put, sA_];rfl
  refine pu_ 26 131 ?_ #[Y,Y,Y,Y,Y,Y,Y,Y,Y,Y,Y,Y,Y,Y,Y,Y,Y,Y,Y,Y,Y,Y,Y,Y,Y,Y,Y,G,G,G,G,G,G,G,G,G,G,G,G,G,G,G,G,G,G,G,G,G,G,G,G,G,G,G,G,G,G,G,G,G,G,G,G,G,G,G,G,G,G] rfl rfl (any_of HT_.out (by kernel_rfl)) (fun _ _ _ h => h) (Or.inl ⟨by rfl, ?_⟩) ?_ ?_ ?_;rotate_left
  ·intro w';go_simp;with_reducible rfl
  rotate_left;·simp only [Act.put, sA_];rfl
  refine pu_ 27 132 ?_ #[Y,Y,Y,Y,Y,Y,Y,Y,Y,Y,Y,Y,Y,Y,Y,Y,Y,Y,Y,Y,Y,Y,Y,Y,Y,Y,Y,Y,G,G,G,G,G,G,G,G,G,G,G,G,G,G,G,G,G,G,G,G,G,G,G,G,G,G,G,G,G,G,G,G,G,G,G,G,G,G,G,G,G] rfl rfl (any_of HT_.out (by kernel_rfl)) (fun _ _ _ h => h) (Or.inl ⟨by rfl, ?_⟩) ?_ ?_ ?_;rotate_left
  ·intro w';go_simp;with_reducible rfl
  rotate_left;·simp only [Act.put, sA_];rfl
  refine pu_ 28 133 ?_ #[Y,Y,Y,Y,Y,Y,Y,Y,Y,Y,Y,Y,Y,Y,Y,Y,Y,Y,Y,Y,Y,Y,Y,Y,Y,Y,Y,Y,Y,G,G,G,G,G,G,G,G,G,G,G,G,G,G,G,G,G,G,G,G,G,G,G,G,G,G,G,G,G,G,G,G,G,G,G,G,G,G,G,G] rfl rfl (any_of HT_.out (by kernel_rfl)) (fun _ _ _ h => h) (Or.inl ⟨by rfl, ?_⟩) ?_ ?_ ?_;rotate_left
  ·intro w';go_simp;with_reducible rfl
  rotate_left;·simp only [Act.put, sA_];rfl
  refine pu_ 29 134 ?_ #[Y,Y,Y,Y,Y,Y,Y,Y,Y,Y,Y,Y,Y,Y,Y,Y,Y,Y,Y,Y,Y,Y,Y,Y,Y,Y,Y,Y,Y,Y,G,G,G,G,G,G,G,G,G,G,G,G,G,G,G,G,G,G,G,G,G,G,G,G,G,G,G,G,G,G,G,G,G,G,G,G,G,G,G] rfl rfl (any_of HT_.out (by kernel_rfl)) (fun _ _ _ h => h) (Or.inl ⟨by rfl, ?_⟩) ?_ ?_ ?_;rotate_left
  ·intro w';go_simp;with_reducible rfl
  rotate_left;·simp only [Act.put, sA_];rfl
  refine pu_ 30 135 ?_ #[Y,Y,Y,Y,Y,Y,Y,Y,Y,Y,Y,Y,Y,Y,Y,Y,Y,Y,Y,Y,Y,Y,Y,Y,Y,Y,Y,Y,Y,Y,Y,G,G,G,G,G,G,G,G,G,G,G,G,G,G,G,G,G,G,G,G,G,G,G,G,G,G,G,G,G,G,G,G,G,G,G,G,G,G] rfl rfl (any_of HT_.out (by kernel_rfl)) (fun _ _ _ h => h) (Or.inl ⟨by rfl, ?_⟩) ?_ ?_ ?_;rotate_left
  ·intro w';go_simp;with_reducible rfl
  rotate_left;·simp only [Act.put, sA_];rfl
  refine pu_ 31 136 ?_ #[Y,Y,Y,Y,Y,Y,Y,Y,Y,Y,Y,Y,Y,Y,Y,Y,Y,Y,Y,Y,Y,Y,Y,Y,Y,Y,Y,Y,Y,Y,Y,Y,G,G,G,G,G,G,G,G,G,G,G,G,G,G,G,G,G,G,G,G,G,G,G,G,G,G,G,G,G,G,G,G,G,G,G,G,G] rfl rfl (any_of HT_.out (by kernel_rfl)) (fun _ _ _ h => h) (Or.inl ⟨by rfl, ?_⟩) ?_ ?_ ?_;rotate_left
  ·intro w';go_simp;with_reducible rfl
  rotate_left;·simp only [Act.put, sA_];rfl
  refine pu_ 32 137 ?_ #[Y,Y,Y,Y,Y,Y,Y,Y,Y,Y,Y,Y,Y,Y,Y,Y,Y,Y,Y,Y,Y,Y,Y,Y,Y,Y,Y,Y,Y,Y,Y,Y,Y,G,G,G,G,G,G,G,G,G,G,G,G,G,G,G,G,G,G,G,G,G,G,G,G,G,G,G,G,G,G,G,G,G,G,G,G] rfl rfl (any_of HT_.out (by kernel_rfl)) (fun _ _ _ h => h) (Or.inl ⟨by rfl, ?_⟩) ?_ ?_ ?_;rotate_left
  ·intro w';go_simp;with_reducible rfl
  rotate_left;·simp only [Act.put, sA_];rfl
  refine pu_ 33 138 ?_ #[Y,Y,Y,Y,Y,Y,Y,Y,Y,Y,Y,Y,Y,Y,Y,Y,Y,Y,Y,Y,Y,Y,Y,Y,Y,Y,Y,Y,Y,Y,Y,Y,Y,Y,G,G,G,G,G,G,G,G,G,G,G,G,G,G,G,G,G,G,G,G,G,G,G,G,G,G,G,G,G,G,G,G,G,G,G] rfl rfl (any_of HT_.out (by kernel_rfl)) (fun _ _ _ h => h) (Or.inl ⟨by rfl, ?_⟩) ?_ ?_ ?_;rotate_left
  ·intro w';go_simp;with_reducible rfl
  rotate_left;·simp only [Act.put, sA_];rfl
  refine pu_ 34 139 ?_ #[Y,Y,Y,Y,Y,Y,Y,Y,Y,Y,Y,Y,Y,Y,Y,Y,Y,Y,Y,Y,Y,Y,Y,Y,Y,Y,Y,Y,Y,Y,Y,Y,Y,Y,Y,G,G,G,G,G,G,G,G,G,G,G,G,G,G,G,G,G,G,G,G,G,G,G,G,G,G,G,G,G,G,G,G,G,G] rfl rfl (any_of HT_.out (by kernel_rfl)) (fun _ _ _ h => h) (Or.inl ⟨by rfl, ?_⟩) ?_ ?_ ?_;rotate_left
  ·intro w';go_simp;with_reducible rfl
  rotate_left;·simp only [Act.put, sA_];rfl
  refine pu_ 35 140 ?_ #[Y,Y,Y,Y,Y,Y,Y,Y,Y,Y,Y,Y,Y,Y,Y,Y,Y,Y,Y,Y,Y,Y,Y,Y,Y,Y,Y,Y,Y,Y,Y,Y,Y,Y,Y,Y,G,G,G,G,G,G,G,G,G,G,G,G,G,G,G,G,G,G,G,G,G,G,G,G,G,G,G,G,G,G,G,G,G] rfl rfl (any_of HT_.out (by kernel_rfl)) (fun _ _ _ h => h) (Or.inl ⟨by rfl, ?_⟩) ?_ ?_ ?_;rotate_left
  ·intro w';go_simp;with_reducible rfl
  rotate_left;·simp only [Act.put, sA_];rfl
  refine pu_ 36 141 ?_ #[Y,Y,Y,Y,Y,Y,Y,Y,Y,Y,Y,Y,Y,Y,Y,Y,Y,Y,Y,Y,Y,Y,Y,Y,Y,Y,Y,Y,Y,Y,Y,Y,Y,Y,Y,Y,Y,G,G,G,G,G,G,G,G,G,G,G,G,G,G,G,G,G,G,G,G,G,G,G,G,G,G,G,G,G,G,G,G] rfl rfl (any_of HT_.out (by kernel_rfl)) (fun _ _ _ h => h) (Or.inl ⟨by rfl, ?_⟩) ?_ ?_ ?_;rotate_left
  ·intro w';go_simp;with_reducible rfl
  rotate_left;·simp only [Act.put, sA_];rfl
  refine tk_ 37 142 ?_ #[Y,Y,Y,Y,Y,Y,Y,Y,Y,Y,Y,Y,Y,Y,Y,Y,Y,Y,Y,Y,Y,Y,Y,Y,Y,Y,Y,Y,Y,Y,Y,Y,Y,Y,Y,Y,Y,Y,G,G,G,G,G,G,G,G,G,G,G,G,G,G,G,G,G,G,G,G,G,G,G,G,G,G,G,G,G,G,G] rfl rfl (take_ofW HT_.out HW_.out (by kernel_rfl)) (fun _ _ _ h => h) (Or.inl ⟨by rfl, ?_⟩) hHeld ?_ ?_ ?_;rotate_left
  ·rintro w' ⟨s0, s1, s2, s3, s4, s5, s6⟩
   go_simp
   with_reducible rfl
  rotate_left;·simp only [Act.put, sA_];rfl
  refine tk_ 38 143 ?_ #[Y,Y,Y,Y,Y,Y,Y,Y,Y,Y,Y,Y,Y,Y,Y,Y,Y,Y,Y,Y,Y,Y,Y,Y,Y,Y,Y,Y,Y,Y,Y,Y,Y,Y,Y,Y,Y,Y,Y,G,G,G,G,G,G,G,G,G,G,G,G,G,G,G,G,G,G,G,G,G,G,G,G,G,G,G,G,G,G] rfl rfl (take_ofW HT_.out HW_.out (by kernel_rfl)) (fun _ _ _ h => h) (Or.inl ⟨by rfl, ?_⟩) hHeld ?_ ?_ ?_;rotate_left
  ·rintro w' ⟨s0, s1, s2, s3, s4, s5, s6⟩
   go_simp
   with_reducible rfl
  rotate_left;·simp only [Act.put, sA_];rfl
  refine pu_ 39 144 ?_ #[Y,Y,Y,Y,Y,Y,Y,Y,Y,Y,Y,Y,Y,Y,Y,Y,Y,Y,Y,Y,Y,Y,Y,Y,Y,Y,Y,Y,Y,Y,Y,Y,Y,Y,Y,Y,Y,Y,Y,Y,G,G,G,G,G,G,G,G,G,G,G,G,G,G,G,G,G,G,G,G,G,G,G,G,G,G,G,G,G] rfl rfl (any_of HT_.out (by kernel_rfl)) (fun _ _ _ h => h) (Or.inl ⟨by rfl, ?_⟩) ?_ ?_ ?_;rotate_left
  ·intro w';go_simp;with_reducible rfl
  rotate_left;·simp only [Act.put, sA_];rfl
  refine pu_ 40 145 ?_ #[Y,Y,Y,Y,Y,Y,Y,Y,Y,Y,Y,Y,Y,Y,Y,Y,Y,Y,Y,Y,Y,Y,Y,Y,Y,Y,Y,Y,Y,Y,Y,Y,Y,Y,Y,Y,Y,Y,Y,Y,Y,G,G,G,G,G,G,G,G,G,G,G,G,G,G,G,G,G,G,G,G,G,G,G,G,G,G,G,G] rfl rfl (any_of HT_.out (by kernel_rfl)) (fun _ _ _ h => h) (Or.inl ⟨by rfl, ?_⟩) ?_ ?_ ?_;rotate_left
  ·intro w';go_simp;with_reducible rfl
  rotate_left;·simp only [Act.put, sA_];rfl
  refine pu_ 41 146 ?_ #[Y,Y,Y,Y,Y,Y,Y,Y,Y,Y,Y,Y,Y,Y,Y,Y,Y,Y,Y,Y,Y,Y,Y,Y,Y,Y,Y,Y,Y,Y,Y,Y,Y,Y,Y,Y,Y,Y,Y,Y,Y,Y,G,G,G,G,G,G,G,G,G,G,G,G,G,G,G,G,G,G,G,G,G,G,G,G,G,G,G] rfl rfl (any_of HT_.out (by kernel_rfl)) (fun _ _ _ h => h) (Or.inl ⟨by rfl, ?_⟩) ?_ ?_ ?_;rotate_left
  ·intro w';go_simp;with_reducible rfl
  rotate_left;·simp only [Act.put, sA_];rfl
  refine pu_ 42 147 ?_ #[Y,Y,Y,Y,Y,Y,Y,Y,Y,Y,Y,Y,Y,Y,Y,Y,Y,Y,Y,Y,Y,Y,Y,Y,Y,Y,Y,Y,Y,Y,Y,Y,Y,Y,Y,Y,Y,Y,Y,Y,Y,Y,Y,G,G,G,G,G,G,G,G,G,G,G,G,G,G,G,G,G,G,G,G,G,G,G,G,G,G] rfl rfl (any_of HT_.out (by kernel_rfl)) (fun _ _ _ h => h) (Or.inl ⟨by rfl, ?_⟩) ?_ ?_ ?_;rotate_left
  ·intro w';go_simp;with_reducible rfl
  rotate_left;·simp only [Act.put, sA_];rfl
  refine pu_ 43 148 ?_ #[Y,Y,Y,Y,Y,Y,Y,Y,Y,Y,Y,Y,Y,Y,Y,Y,Y,Y,Y,Y,Y,Y,Y,Y,Y,Y,Y,Y,Y,Y,Y,Y,Y,Y,Y,Y,Y,Y,Y,Y,Y,Y,Y,Y,G,G,G,G,G,G,G,G,G,G,G,G,G,G,G,G,G,G,G,G,G,G,G,G,G] rfl rfl (any_of HT_.out (by kernel_rfl)) (fun _ _ _ h => h) (Or.inl ⟨by rfl, ?_⟩) ?_ ?_ ?_;rotate_left
  ·intro w';go_simp;with_reducible rfl
  rotate_left;·simp only [Act.put, sA_];rfl
  refine pu_ 44 149 ?_ #[Y,Y,Y,Y,Y,Y,Y,Y,Y,Y,Y,Y,Y,Y,Y,Y,Y,Y,Y,Y,Y,Y,Y,Y,Y,Y,Y,Y,Y,Y,Y,Y,Y,Y,Y,Y,Y,Y,Y,Y,Y,Y,Y,Y,Y,G,G,G,G,G,G,G,G,G,G,G,G,G,G,G,G,G,G,G,G,G,G,G,G] rfl rfl (any_of HT_.out (by kernel_rfl)) (fun _ _ _ h => h) (Or.inl ⟨by rfl, ?_⟩) ?_ ?_ ?_;rotate_left
  ·intro w';go_simp;with_reducible rfl
  rotate_left;·simp only [Act.put, sA_];rfl
  refine pu_ 45 150 ?_ #[Y,Y,Y,Y,Y,Y,Y,Y,Y,Y,Y,Y,Y,Y,Y,Y,Y,Y,Y,Y,Y,Y,Y,Y,Y,Y,Y,Y,Y,Y,Y,Y,Y,Y,Y,Y,Y,Y,Y,Y,Y,Y,Y,Y,Y,Y,G,G,G,G,G,G,G,G,G,G,G,G,G,G,G,G,G,G,G,G,G,G,G] rfl rfl (any_of HT_.out (by kernel_rfl)) (fun _ _ _ h => h) (Or.inl ⟨by rfl, ?_⟩) ?_ ?_ ?_;rotate_left
  ·intro w';go_simp;with_reducible rfl
  rotate_left;·simp only [Act.put, sA_];rfl
  refine pu_ 46 151 ?_ #[Y,Y,Y,Y,Y,Y,Y,Y,Y,Y,Y,Y,Y,Y,Y,Y,Y,Y,Y,Y,Y,Y,Y,Y,Y,Y,Y,Y,Y,Y,Y,Y,Y,Y,Y,Y,Y,Y,Y,Y,Y,Y,Y,Y,Y,Y,Y,G,G,G,G,G,G,G,G,G,G,G,G,G,G,G,G,G,G,G,G,G,G] rfl rfl (any_of HT_.out (by kernel_rfl)) (fun _ _ _ h => h) (Or.inl ⟨by rfl, ?_⟩) ?_ ?_ ?_;rotate_left
  ·intro w';go_simp;with_reducible rfl
  rotate_left;·simp only [Act.put, sA_];rfl
  refine pu_ 47 152 ?_ #[Y,Y,Y,Y,Y,Y,Y,Y,Y,Y,Y,Y,Y,Y,Y,Y,Y,Y,Y,Y,Y,Y,Y,Y,Y,Y,Y,Y,Y,Y,Y,Y,Y,Y,Y,Y,Y,Y,Y,Y,Y,Y,Y,Y,Y,Y,Y,Y,G,G,G,G,G,G,G,G,G,G,G,G,G,G,G,G,G,G,G,G,G] rfl rfl (any_of HT_.out (by kernel_rfl)) (fun _ _ _ h => h) (Or.inl ⟨by rfl, ?_⟩) ?_ ?_ ?_;rotate_left
  ·intro w';go_simp;with_reducible rfl
  rotate_left;·simp only [Act.put, sA_];rfl
  refine one_ (i := 48) (N := some 153) #[Y,Y,Y,Y,Y,Y,Y,Y,Y,Y,Y,Y,Y,Y,Y,Y,Y,Y,Y,Y,Y,Y,Y,Y,Y,Y,Y,Y,Y,Y,Y,Y,Y,Y,Y,Y,Y,Y,Y,Y,Y,Y,Y,Y,Y,Y,Y,Y,Y,G,G,G,G,G,G,G,G,G,G,G,G,G,G,G,G,G,G,G,G] rfl rfl (one_of HT_.out (by kernel_rfl)) (by decide) (fun K hK => ?_)
  refine value_ (w1 := ?_) (v := ?_) (by rfl) rfl ?_ ?_
  rotate_left 2
  ·go_simp
   constructor
   ·rfl
   ·rfl
  have hs4 := Step.alloc (fun _ => False) w3 (.cells #[.int .i64 6, .bool true] 88)
  have hn4 := World.alloc_heap_new w3 (.cells #[.int .i64 6, .bool true] 88)
  generalize w3.heap.size = g4 at hn4 ⊢
  generalize w3.alloc (.cells #[.int .i64 6, .bool true] 88) = w4 at hn4 hs4 ⊢
  have hn0 : w4.cell? ⟨g4, 0, none⟩ = some (.int .i64 6) := by rw [Lib.cell_of_heap hn4]; rfl
  have hn1 : w4.cell? ⟨g4, 1, none⟩ = some (.bool true) := by rw [Lib.cell_of_heap hn4]; rfl
  refine hK.out _ _ ⟨hs4.cell hHeld.1 (fun h => h), hs4.cell hHeld.2.1 (fun h => h), hs4.cell hHeld.2.2.1 (fun h => h), hs4.cell hHeld.2.2.2.1 (fun h => h), hs4.cell hHeld.2.2.2.2.1 (fun h => h), hs4.cell hHeld.2.2.2.2.2.1 (fun h => h), step2 hHeld.2.2.2.2.2.2 hs4⟩ (fun hHeld => ?_)
  clear hK K
  refine norm_ (a' := ?_) ?_ ?_;rotate_left
  ·show Act.put _ (some 153) _ = _
   simp only [Act.put, sA_]
   rfl
  refine one_ (i := 49) (N := some 154) #[Y,Y,Y,Y,Y,Y,Y,Y,Y,Y,Y,Y,Y,Y,Y,Y,Y,Y,Y,Y,Y,Y,Y,Y,Y,Y,Y,Y,Y,Y,Y,Y,Y,Y,Y,Y,Y,Y,Y,Y,Y,Y,Y,Y,Y,Y,Y,Y,Y,Y,G,G,G,G,G,G,G,G,G,G,G,G,G,G,G,G,G,G,G] rfl rfl (one_of HT_.out (by kernel_rfl)) (by decide) (fun K hK => ?_)
  refine goes_ Tryd.func39 (by kernel_rfl) rfl #[.slice (some qa) 1 qc, .slice (some ⟨g4, 0, none⟩) 1 1] (by rfl) rfl rfl (by simp only [List.map_toArray, List.map_cons, List.map_nil]; rfl) ?_
  with_reducible refine (hSame _ qa qc g4 (hCq _ hHeld.2.2.2.2.2.2) hqc hn0 hn1).mono ?_
  rintro e w5 ⟨rfl, hd5⟩
  refine ⟨_, rfl, ?_⟩
  have hs5 := Step.of_below (S := fun _ => False) (drawn_below hd5)
  refine hK.out _ _ ⟨hs5.cell hHeld.1 (fun h => h), hs5.cell hHeld.2.1 (fun h => h), hs5.cell hHeld.2.2.1 (fun h => h), hs5.cell hHeld.2.2.2.1 (fun h => h), hs5.cell hHeld.2.2.2.2.1 (fun h => h), hs5.cell hHeld.2.2.2.2.2.1 (fun h => h), step2 hHeld.2.2.2.2.2.2 hs5⟩ (fun hHeld => ?_)
  clear hK K
  refine norm_ (a' := ?_) ?_ ?_;rotate_left
  ·show Act.put _ (some 154) _ = _
   simp only [Act.put, sA_]
   rfl
  refine pu_ 50 155 ?_ #[Y,Y,Y,Y,Y,Y,Y,Y,Y,Y,Y,Y,Y,Y,Y,Y,Y,Y,Y,Y,Y,Y,Y,Y,Y,Y,Y,Y,Y,Y,Y,Y,Y,Y,Y,Y,Y,Y,Y,Y,Y,Y,Y,Y,Y,Y,Y,Y,Y,Y,Y,G,G,G,G,G,G,G,G,G,G,G,G,G,G,G,G,G,G] rfl rfl (any_of HT_.out (by kernel_rfl)) (fun _ _ _ h => h) (Or.inl ⟨by rfl, ?_⟩) ?_ ?_ ?_;rotate_left
  ·intro w';go_simp;with_reducible rfl
  rotate_left;·simp only [Act.put, sA_];rfl
  refine pu_ 51 156 ?_ #[Y,Y,Y,Y,Y,Y,Y,Y,Y,Y,Y,Y,Y,Y,Y,Y,Y,Y,Y,Y,Y,Y,Y,Y,Y,Y,Y,Y,Y,Y,Y,Y,Y,Y,Y,Y,Y,Y,Y,Y,Y,Y,Y,Y,Y,Y,Y,Y,Y,Y,Y,Y,G,G,G,G,G,G,G,G,G,G,G,G,G,G,G,G,G] rfl rfl (any_of HT_.out (by kernel_rfl)) (fun _ _ _ h => h) (Or.inl ⟨by rfl, ?_⟩) ?_ ?_ ?_;rotate_left
  ·intro w';go_simp;with_reducible rfl
  rotate_left;·simp only [Act.put, sA_];rfl
  refine pu_ 52 157 ?_ #[Y,Y,Y,Y,Y,Y,Y,Y,Y,Y,Y,Y,Y,Y,Y,Y,Y,Y,Y,Y,Y,Y,Y,Y,Y,Y,Y,Y,Y,Y,Y,Y,Y,Y,Y,Y,Y,Y,Y,Y,Y,Y,Y,Y,Y,Y,Y,Y,Y,Y,Y,Y,Y,G,G,G,G,G,G,G,G,G,G,G,G,G,G,G,G] rfl rfl (any_of HT_.out (by kernel_rfl)) (fun _ _ _ h => h) (Or.inl ⟨by rfl, ?_⟩) ?_ ?_ ?_;rotate_left
  ·intro w';go_simp;with_reducible rfl
  rotate_left;·simp only [Act.put, sA_];rfl
  refine pu_ 53 158 ?_ #[Y,Y,Y,Y,Y,Y,Y,Y,Y,Y,Y,Y,Y,Y,Y,Y,Y,Y,Y,Y,Y,Y,Y,Y,Y,Y,Y,Y,Y,Y,Y,Y,Y,Y,Y,Y,Y,Y,Y,Y,Y,Y,Y,Y,Y,Y,Y,Y,Y,Y,Y,Y,Y,Y,G,G,G,G,G,G,G,G,G,G,G,G,G,G,G] rfl rfl (any_of HT_.out (by kernel_rfl)) (fun _ _ _ h => h) (Or.inl ⟨by rfl, ?_⟩) ?_ ?_ ?_;rotate_left
  ·intro w';go_simp;with_reducible rfl
  rotate_left;·simp only [Act.put, sA_];rfl
  refine pu_ 54 159 ?_ #[Y,Y,Y,Y,Y,Y,Y,Y,Y,Y,Y,Y,Y,Y,Y,Y,Y,Y,Y,Y,Y,Y,Y,Y,Y,Y,Y,Y,Y,Y,Y,Y,Y,Y,Y,Y,Y,Y,Y,Y,Y,Y,Y,Y,Y,Y,Y,Y,Y,Y,Y,Y,Y,Y,Y,G,G,G,G,G,G,G,G,G,G,G,G,G,G] rfl rfl (any_of HT_.out (by kernel_rfl)) (fun _ _ _ h => h) (Or.inl ⟨by rfl, ?_⟩) ?_ ?_ ?_;rotate_left
  ·intro w';go_simp;with_reducible rfl
  rotate_left;·simp only [Act.put, sA_];rfl
  refine pu_ 55 160 ?_ #[Y,Y,Y,Y,Y,Y,Y,Y,Y,Y,Y,Y,Y,Y,Y,Y,Y,Y,Y,Y,Y,Y,Y,Y,Y,Y,Y,Y,Y,Y,Y,Y,Y,Y,Y,Y,Y,Y,Y,Y,Y,Y,Y,Y,Y,Y,Y,Y,Y,Y,Y,Y,Y,Y,Y,Y,G,G,G,G,G,G,G,G,G,G,G,G,G] rfl rfl (any_of HT_.out (by kernel_rfl)) (fun _ _ _ h => h) (Or.inl ⟨by rfl, ?_⟩) ?_ ?_ ?_;rotate_left
  ·intro w';go_simp;with_reducible rfl
  rotate_left;·simp only [Act.put, sA_];rfl
  refine pu_ 56 161 ?_ #[Y,Y,Y,Y,Y,Y,Y,Y,Y,Y,Y,Y,Y,Y,Y,Y,Y,Y,Y,Y,Y,Y,Y,Y,Y,Y,Y,Y,Y,Y,Y,Y,Y,Y,Y,Y,Y,Y,Y,Y,Y,Y,Y,Y,Y,Y,Y,Y,Y,Y,Y,Y,Y,Y,Y,Y,Y,G,G,G,G,G,G,G,G,G,G,G,G] rfl rfl (any_of HT_.out (by kernel_rfl)) (fun _ _ _ h => h) (Or.inl ⟨by rfl, ?_⟩) ?_ ?_ ?_;rotate_left
  ·intro w';go_simp;with_reducible rfl
  rotate_left;·simp only [Act.put, sA_];rfl
  refine pu_ 57 162 ?_ #[Y,Y,Y,Y,Y,Y,Y,Y,Y,Y,Y,Y,Y,Y,Y,Y,Y,Y,Y,Y,Y,Y,Y,Y,Y,Y,Y,Y,Y,Y,Y,Y,Y,Y,Y,Y,Y,Y,Y,Y,Y,Y,Y,Y,Y,Y,Y,Y,Y,Y,Y,Y,Y,Y,Y,Y,Y,Y,G,G,G,G,G,G,G,G,G,G,G] rfl rfl (any_of HT_.out (by kernel_rfl)) (fun _ _ _ h => h) (Or.inl ⟨by rfl, ?_⟩) ?_ ?_ ?_;rotate_left
  ·intro w';go_simp;with_reducible rfl
  rotate_left;·simp only [Act.put, sA_];rfl
  refine pu_ 58 163 ?_ #[Y,Y,Y,Y,Y,Y,Y,Y,Y,Y,Y,Y,Y,Y,Y,Y,Y,Y,Y,Y,Y,Y,Y,Y,Y,Y,Y,Y,Y,Y,Y,Y,Y,Y,Y,Y,Y,Y,Y,Y,Y,Y,Y,Y,Y,Y,Y,Y,Y,Y,Y,Y,Y,Y,Y,Y,Y,Y,Y,G,G,G,G,G,G,G,G,G,G] rfl rfl (any_of HT_.out (by kernel_rfl)) (fun _ _ _ h => h) (Or.inl ⟨by rfl, ?_⟩) ?_ ?_ ?_;rotate_left
  ·intro w';go_simp;with_reducible rfl
  rotate_left;·simp only [Act.put, sA_];rfl
  refine pu_ 59 164 ?_ #[Y,Y,Y,Y,Y,Y,Y,Y,Y,Y,Y,Y,Y,Y,Y,Y,Y,Y,Y,Y,Y,Y,Y,Y,Y,Y,Y,Y,Y,Y,Y,Y,Y,Y,Y,Y,Y,Y,Y,Y,Y,Y,Y,Y,Y,Y,Y,Y,Y,Y,Y,Y,Y,Y,Y,Y,Y,Y,Y,Y,G,G,G,G,G,G,G,G,G] rfl rfl (any_of HT_.out (by kernel_rfl)) (fun _ _ _ h => h) (Or.inl ⟨by rfl, ?_⟩) ?_ ?_ ?_;rotate_left
  ·intro w';go_simp;with_reducible rfl
  rotate_left;·simp only [Act.put, sA_];rfl
  refine pu_ 60 165 ?_ #[Y,Y,Y,Y,Y,Y,Y,Y,Y,Y,Y,Y,Y,Y,Y,Y,Y,Y,Y,Y,Y,Y,Y,Y,Y,Y,Y,Y,Y,Y,Y,Y,Y,Y,Y,Y,Y,Y,Y,Y,Y,Y,Y,Y,Y,Y,Y,Y,Y,Y,Y,Y,Y,Y,Y,Y,Y,Y,Y,Y,Y,G,G,G,G,G,G,G,G] rfl rfl (any_of HT_.out (by kernel_rfl)) (fun _ _ _ h => h) (Or.inl ⟨by rfl, ?_⟩) ?_ ?_ ?_;rotate_left
  ·intro w';go_simp;with_reducible rfl
  rotate_left;·simp only [Act.put, sA_];rfl
  refine pu_ 61 166 ?_ #[Y,Y,Y,Y,Y,Y,Y,Y,Y,Y,Y,Y,Y,Y,Y,Y,Y,Y,Y,Y,Y,Y,Y,Y,Y,Y,Y,Y,Y,Y,Y,Y,Y,Y,Y,Y,Y,Y,Y,Y,Y,Y,Y,Y,Y,Y,Y,Y,Y,Y,Y,Y,Y,Y,Y,Y,Y,Y,Y,Y,Y,Y,G,G,G,G,G,G,G] rfl rfl (any_of HT_.out (by kernel_rfl)) (fun _ _ _ h => h) (Or.inl ⟨by rfl, ?_⟩) ?_ ?_ ?_;rotate_left
  ·intro w';go_simp;with_reducible rfl
  rotate_left;·simp only [Act.put, sA_];rfl
  refine pu_ 62 167 ?_ #[Y,Y,Y,Y,Y,Y,Y,Y,Y,Y,Y,Y,Y,Y,Y,Y,Y,Y,Y,Y,Y,Y,Y,Y,Y,Y,Y,Y,Y,Y,Y,Y,Y,Y,Y,Y,Y,Y,Y,Y,Y,Y,Y,Y,Y,Y,Y,Y,Y,Y,Y,Y,Y,Y,Y,Y,Y,Y,Y,Y,Y,Y,Y,G,G,G,G,G,G] rfl rfl (any_of HT_.out (by kernel_rfl)) (fun _ _ _ h => h) (Or.inl ⟨by rfl, ?_⟩) ?_ ?_ ?_;rotate_left
  ·intro w';go_simp;with_reducible rfl
  rotate_left;·simp only [Act.put, sA_];rfl
  refine pu_ 63 168 ?_ #[Y,Y,Y,Y,Y,Y,Y,Y,Y,Y,Y,Y,Y,Y,Y,Y,Y,Y,Y,Y,Y,Y,Y,Y,Y,Y,Y,Y,Y,Y,Y,Y,Y,Y,Y,Y,Y,Y,Y,Y,Y,Y,Y,Y,Y,Y,Y,Y,Y,Y,Y,Y,Y,Y,Y,Y,Y,Y,Y,Y,Y,Y,Y,Y,G,G,G,G,G] rfl rfl (any_of HT_.out (by kernel_rfl)) (fun _ _ _ h => h) (Or.inl ⟨by rfl, ?_⟩) ?_ ?_ ?_;rotate_left
  ·intro w';go_simp;with_reducible rfl
  rotate_left;·simp only [Act.put, sA_];rfl
  refine pu_ 64 169 ?_ #[Y,Y,Y,Y,Y,Y,Y,Y,Y,Y,Y,Y,Y,Y,Y,Y,Y,Y,Y,Y,Y,Y,Y,Y,Y,Y,Y,Y,Y,Y,Y,Y,Y,Y,Y,Y,Y,Y,Y,Y,Y,Y,Y,Y,Y,Y,Y,Y,Y,Y,Y,Y,Y,Y,Y,Y,Y,Y,Y,Y,Y,Y,Y,Y,Y,G,G,G,G] rfl rfl (any_of HT_.out (by kernel_rfl)) (fun _ _ _ h => h) (Or.inl ⟨by rfl, ?_⟩) ?_ ?_ ?_;rotate_left
  ·intro w';go_simp;with_reducible rfl
  rotate_left;·simp only [Act.put, sA_];rfl
  refine one_ (i := 65) (N := some 170) #[Y,Y,Y,Y,Y,Y,Y,Y,Y,Y,Y,Y,Y,Y,Y,Y,Y,Y,Y,Y,Y,Y,Y,Y,Y,Y,Y,Y,Y,Y,Y,Y,Y,Y,Y,Y,Y,Y,Y,Y,Y,Y,Y,Y,Y,Y,Y,Y,Y,Y,Y,Y,Y,Y,Y,Y,Y,Y,Y,Y,Y,Y,Y,Y,Y,Y,G,G,G] rfl rfl (one_of HT_.out (by kernel_rfl)) (by decide) (fun K hK => ?_)
  refine goes_ Tryd.func42 (by kernel_rfl) rfl #[.pointer (some ⟨i.d, 0, none⟩)] (by rfl) rfl rfl (by simp only [List.map_toArray, List.map_cons, List.map_nil]; rfl) ?_
  with_reducible refine (dev_Writes_any _ i _ _ _ _ _ _ (hDj.step hHeld.2.2.2.2.2.2 (fun _ _ h => h))).mono ?_
  rintro e w6 ⟨rfl, rfl⟩
  refine ⟨_, rfl, ?_⟩
  refine hK.out _ _ ⟨hHeld.1, hHeld.2.1, hHeld.2.2.1, hHeld.2.2.2.1, hHeld.2.2.2.2.1, hHeld.2.2.2.2.2.1, hHeld.2.2.2.2.2.2⟩ (fun hHeld => ?_)
  clear hK K
  refine norm_ (a' := ?_) ?_ ?_;rotate_left
  ·show Act.put _ (some 170) _ = _
   simp only [Act.put, sA_]
   rfl
  refine pu_ 66 171 ?_ #[Y,Y,Y,Y,Y,Y,Y,Y,Y,Y,Y,Y,Y,Y,Y,Y,Y,Y,Y,Y,Y,Y,Y,Y,Y,Y,Y,Y,Y,Y,Y,Y,Y,Y,Y,Y,Y,Y,Y,Y,Y,Y,Y,Y,Y,Y,Y,Y,Y,Y,Y,Y,Y,Y,Y,Y,Y,Y,Y,Y,Y,Y,Y,Y,Y,Y,Y,G,G] rfl rfl (any_of HT_.out (by kernel_rfl)) (fun _ _ _ h => h) (Or.inl ⟨by rfl, ?_⟩) ?_ ?_ ?_;rotate_left
  ·intro w';go_simp;with_reducible rfl
  rotate_left;·simp only [Act.put, sA_];rfl
  refine pu_ 67 172 ?_ #[Y,Y,Y,Y,Y,Y,Y,Y,Y,Y,Y,Y,Y,Y,Y,Y,Y,Y,Y,Y,Y,Y,Y,Y,Y,Y,Y,Y,Y,Y,Y,Y,Y,Y,Y,Y,Y,Y,Y,Y,Y,Y,Y,Y,Y,Y,Y,Y,Y,Y,Y,Y,Y,Y,Y,Y,Y,Y,Y,Y,Y,Y,Y,Y,Y,Y,Y,Y,G] rfl rfl (any_of HT_.out (by kernel_rfl)) (fun _ _ _ h => h) (Or.inl ⟨by rfl, ?_⟩) ?_ ?_ ?_;rotate_left
  ·intro w';go_simp;with_reducible rfl
  rotate_left;·simp only [Act.put, sA_];rfl
  refine pu_ 68 0 ?_ #[Y,Y,Y,Y,Y,Y,Y,Y,Y,Y,Y,Y,Y,Y,Y,Y,Y,Y,Y,Y,Y,Y,Y,Y,Y,Y,Y,Y,Y,Y,Y,Y,Y,Y,Y,Y,Y,Y,Y,Y,Y,Y,Y,Y,Y,Y,Y,Y,Y,Y,Y,Y,Y,Y,Y,Y,Y,Y,Y,Y,Y,Y,Y,Y,Y,Y,Y,Y,Y] rfl rfl (any_of HT_.out (by kernel_rfl)) (fun _ _ _ h => h) (Or.inl ⟨by rfl, ?_⟩) ?_ ?_ ?_;rotate_left
  ·intro w';go_simp;with_reducible rfl
  rotate_left;·simp only [Act.put, sA_];rfl
  refine done_ (done_of HT_.out (by kernel_rfl)) ?_
  have hsE := step2 hsj hHeld.2.2.2.2.2.2
  clear hHeld
  go_wp2
  go_ret
  exact ⟨rfl, hsE⟩
end
end Go.Proofs.YtmmfplogkikbjaaDoor.HPB
