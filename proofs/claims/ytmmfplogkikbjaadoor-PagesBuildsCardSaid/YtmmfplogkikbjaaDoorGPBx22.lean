/- a text of this claim -/
import Derived.Test.YtmmfplogkikbjaaDoorGPBx0
import Derived.Test.YtmmfplogkikbjaaDoorGPBx3
import Derived.Test.YtmmfplogkikbjaaDoorGPBx5
import Derived.Test.YtmmfplogkikbjaaDoorGPBx7
import Derived.Test.YtmmfplogkikbjaaDoorGPBx12
import Derived.Test.YtmmfplogkikbjaaDoorGPBx13
import Derived.Test.YtmmfplogkikbjaaDoorGPBx14
import Derived.Test.YtmmfplogkikbjaaDoorGPBx15
import Derived.Test.YtmmfplogkikbjaaDoorGPBx18
import Derived.Test.YtmmfplogkikbjaaDoorGPBx19
import Derived.Test.YtmmfplogkikbjaaDoorGPBx20
import Derived.Test.YtmmfplogkikbjaaDoorGPBx21
namespace Go.Proofs.YtmmfplogkikbjaaDoor.HPB
open Go.RowKit Go.Proofs.YtmmfplogkikbjaaDoorW.PrintWords Go.Proofs.YtmmfplogkikbjaaDoorW.PrintLast Go.Proofs.YtmmfplogkikbjaaDoorW.PrintMore
attribute [local go_sem] max2_int min2_int max_two min_two max_three min_three max_four min_four
set_option linter.unusedVariables false
set_option linter.unusedSimpArgs false
section
open Go Go.Shelf Go.Maps Go.Proofs.YtmmfplogkikbjaaDoor.Seq Go.Proofs.YtmmfplogkikbjaaDoor.MapL Go.Proofs.YtmmfplogkikbjaaDoorW.PrintLast
attribute [local go_sem] Oper.semAt_some max2_int min2_int max_two min_two
def Evt {α : Type} (F Gq : Nat → α) : Prop := ∃ d K, ∀ k, K ≤ k → F (k + d) = Gq k
theorem Evt.refl {α : Type} (F : Nat → α) : Evt F F := ⟨0, 0, fun _ _ => rfl⟩
theorem Evt.trans {α : Type} {F Gq H : Nat → α} (h1 : Evt F Gq) (h2 : Evt Gq H) : Evt F H := by
 obtain ⟨d1, K1, h1⟩ := h1
 obtain ⟨d2, K2, h2⟩ := h2
 refine ⟨d2 + d1, K1 + K2, fun k hk => ?_⟩
 rw [← Nat.add_assoc, h1 _ (by omega), h2 _ (by omega)]
theorem Evt.one {α : Type} {F Gq : Nat → α} (K : Nat) (h : ∀ k, K ≤ k → F (k + 1) = Gq k) : Evt F Gq := ⟨1, K, h⟩
theorem w64i {x : Int} (h0 : 0 ≤ x) (h1 : x < 9000000000000000000) : wrap64 x = x := wrap64_id (by omega) (by omega)
theorem ats_at {ats : List Int} {m : Nat} (h : 2 * m + 2 ≤ ats.length) : ats.drop (2 * m) = rd ats ((2 * m : Nat) : Int) :: rd ats ((2 * m + 1 : Nat) : Int) :: ats.drop (2 * (m + 1)) := by
 rw [List.drop_eq_getElem_cons (by omega), List.drop_eq_getElem_cons (show 2 * m + 1 < ats.length by omega)]
 have e1 (j : Nat) (h : j < ats.length) : rd ats (j : Int) = ats[j] := by
  rw [rd, Int.toNat_natCast, List.getD_eq_getElem?_getD, List.getElem?_eq_getElem h, Option.getD_some]
 rw [e1 _ (by omega), e1 _ (by omega)]
 rfl
theorem rd_mid {done r : List ByteArray} {x : ByteArray} : rdOf ByteArray.empty (done ++ x :: r) (done.length : Int) = x := by
 rw [rdOf, Int.toNat_natCast, List.getD_eq_getElem?_getD, List.getElem?_append_right (Nat.le_refl _), Nat.sub_self]
 rfl
section
variable {sh gk gm gc : Int} {Z f : Nat} (hf : 1 ≤ f) (hf2 : f ≤ 1000000) (hfZ : 12 * f ≤ Z) (hZ : Z ≤ 65536)
 (hFan : ∃ K, ∀ k, K ≤ k → caulkref06_Fan.f k sh gk gm gc = some (f : Int))
 (hFill : ∀ s : ByteArray, s.size ≤ Z → ∃ K, ∀ k, K ≤ k → caulkref08_Fill.f k sh gk gm gc s = some (fillG Z s, 0))
 (hSum : ∀ s : ByteArray, s.size ≤ 65536 → ∃ K, ∀ k, K ≤ k → caulkref01_Sum.f k s = some (sumC s))
 (hPtr : ∀ (a b : Int) (s : ByteArray), 0 ≤ a ∧ a < 4294967296 → 0 ≤ b ∧ b < 4294967296 → ∃ K, ∀ k, K ≤ k → caulkref07_Ptr.f k a b (sumC s) = some (ptrS ⟨⟨a, b, sumC s⟩, s⟩, 0))
 {ats : List Int} (har : ∀ z ∈ ats, 0 ≤ z ∧ z < 4294967296) (hal : ats.length ≤ 1000000)
include har hal
def bldTail (k : Nat) (ats : List Int) (out : List S130) (x14 ptrs : List ByteArray) (sh gk gm gc : Int) : Option ((List (S130)) × Int × Int × Int × Int) :=
 if (x14.length : Int) = 1 then (if 0 ≤ (wrap64 ((out.length : Int) - 1)) then (if (wrap64 ((out.length : Int) - 1)) < (out.length : Int) then (some (out, (rd_T130 out (wrap64 ((out.length : Int) - 1))).f0.f0, (rd_T130 out (wrap64 ((out.length : Int) - 1))).f0.f1, (rd_T130 out (wrap64 ((out.length : Int) - 1))).f0.f2, 0)) else (none)) else (none)) else (caulkref09_Build.l3 k ats out ptrs ([] : List ByteArray) 0 sh gk gm gc)
include hSum hPtr
theorem bld_l2 (x14 : List ByteArray) : ∀ (r done : List ByteArray) (out : List S130) (x15 : List ByteArray), (∀ x ∈ r, x.size ≤ 65536) → 2 * (out.length + r.length) ≤ ats.length → done.length + r.length ≤ 1000000 → x15.length + r.length ≤ 1000000 →
  Evt (fun k => caulkref09_Build.l2 k ats out x14 x15 (done ++ r) ((done ++ r).length : Int) (done.length : Int) sh gk gm gc) (fun k => bldTail k ats (out ++ layP r (ats.drop (2 * out.length))) x14 (x15 ++ (layP r (ats.drop (2 * out.length))).map ptrS) sh gk gm gc)
 | [], done, out, x15, _, _, _, _ => Evt.one 0 (fun k _ => by
  have e1 : layP [] (ats.drop (2 * out.length)) = [] := by
   unfold layP
   rfl
  rw [caulkref09_Build.l2, List.append_nil, if_neg (by omega), e1, List.append_nil, List.map_nil, List.append_nil]
  rfl)
 | x :: r, done, out, x15, hx, ha, hd, h15 => by
  rw [List.length_cons] at ha hd h15
  obtain ⟨K1, h1⟩ := hSum x (hx x (by simp))
  have hat := ats_at (ats := ats) (m := out.length) (by omega)
  have hin (j : Nat) (hj : j < ats.length) : 0 ≤ rd ats (j : Int) ∧ rd ats (j : Int) < 4294967296 := by
   rw [rd, Int.toNat_natCast, List.getD_eq_getElem?_getD, List.getElem?_eq_getElem hj, Option.getD_some]
   exact har _ (List.getElem_mem hj)
  obtain ⟨K2, h2⟩ := hPtr _ _ x (hin (2 * out.length) (by omega)) (hin (2 * out.length + 1) (by omega))
  have ih := bld_l2 x14 r (done ++ [x]) (out ++ [⟨⟨rd ats ((2 * out.length : Nat) : Int), rd ats ((2 * out.length + 1 : Nat) : Int), sumC x⟩, x⟩]) (x15 ++ [ptrS ⟨⟨rd ats ((2 * out.length : Nat) : Int), rd ats ((2 * out.length + 1 : Nat) : Int), sumC x⟩, x⟩]) (fun y hy => hx y (by simp [hy])) (by simp; omega) (by simp; omega) (by simp; omega)
  have e2 : layP (x :: r) (ats.drop (2 * out.length)) = ⟨⟨rd ats ((2 * out.length : Nat) : Int), rd ats ((2 * out.length + 1 : Nat) : Int), sumC x⟩, x⟩ :: layP r (ats.drop (2 * (out.length + 1))) := by rw [hat, layP]
  rw [e2]
  have e3 : (done ++ [x]) ++ r = done ++ x :: r := by simp
  rw [e3, show (out ++ [(⟨⟨rd ats ((2 * out.length : Nat) : Int), rd ats ((2 * out.length + 1 : Nat) : Int), sumC x⟩, x⟩ : S130)]).length = out.length + 1 by simp, show ((done ++ [x]).length : Int) = (done.length : Int) + 1 by simp] at ih
  rw [List.append_assoc, List.singleton_append, List.append_assoc, List.singleton_append] at ih
  rw [List.map_cons]
  refine Evt.trans (Evt.one (K1 + K2) (fun k hk => ?_)) ih
  have hl : ((done ++ x :: r).length : Int) = (done.length : Int) + ((r.length : Int) + 1) := by simp
  have f1 : (done.length : Int) < ((done ++ x :: r).length : Int) := by omega
  have f2 : (0 : Int) ≤ (done.length : Int) := by omega
  have f3 : (0 : Int) ≤ ((2 * out.length : Nat) : Int) := by omega
  have f4 : ((2 * out.length : Nat) : Int) < (ats.length : Int) := by omega
  have f5 : (0 : Int) ≤ ((2 * out.length + 1 : Nat) : Int) := by omega
  have f6 : ((2 * out.length + 1 : Nat) : Int) < (ats.length : Int) := by omega
  have f7 : out.length < 3518437208883 := by omega
  have f8 : x15.length < 8796093022208 := by omega
  have g1 := h1 k (by omega)
  have g2 := h2 k (by omega)
  have w1 : wrap64 (2 * (out.length : Int)) = ((2 * out.length : Nat) : Int) := (w64i (by omega) (by omega)).trans (by omega)
  have w2 : wrap64 (((2 * out.length : Nat) : Int) + 1) = ((2 * out.length + 1 : Nat) : Int) := (w64i (by omega) (by omega)).trans (by omega)
  have w3 : wrap64 ((done.length : Int) + 1) = (done.length : Int) + 1 := w64i (by omega) (by omega)
  rw [caulkref09_Build.l2, if_pos f1, if_pos f2, if_pos f1, w1, w2, if_pos f3, if_pos f4, if_pos f5, if_pos f6, rd_mid, g1, Option.bind_some, if_pos f7, g2, Option.bind_some, if_pos f8, w3]
end
def catB (l : List ByteArray) : ByteArray := ⟨(l.flatMap fun s => s.data.toList).toArray⟩
theorem catB_snoc (l : List ByteArray) (s : ByteArray) : catB (l ++ [s]) = catB l ++ s := by
 apply ByteArray.ext
 simp [catB]
theorem catB_size : ∀ (l : List ByteArray), (∀ x ∈ l, x.size = 12) → (catB l).size = 12 * l.length
 | [], _ => rfl
 | x :: l, h => by
  have e1 : (catB (x :: l)).size = x.data.toList.length + (catB l).size := by
   show ((x :: l).flatMap fun s => s.data.toList).toArray.size = _ + (l.flatMap fun s => s.data.toList).toArray.size
   simp
  have e2 : x.data.toList.length = x.size := by rw [Array.length_toList]; rfl
  rw [e1, catB_size l (fun y hy => h y (by simp [hy])), e2, h x (by simp), List.length_cons]
  omega
theorem catB_up : ∀ (ps : List S130), (catB (ps.map ptrS)) = ⟨(upL ps).toArray⟩ := by
 intro ps
 unfold catB
 congr 2
 induction ps with
 | nil => rw [upL_nil]; rfl
 | cons p ps ih => rw [List.map_cons, List.flatMap_cons, ih, upL_cons]
theorem up_take (ps : List S130) (m : Nat) : (⟨(upL ps).toArray⟩ : ByteArray).extract 0 (12 * m) = ⟨(upL (ps.take m)).toArray⟩ := by
 apply ByteArray.ext
 rw [ByteArray.data_extract]
 apply Array.toList_inj.1
 rw [Array.toList_extract, List.extract_eq_take_drop]
 show (upL ps).take (12 * m - 0) = upL (ps.take m)
 rw [Nat.sub_zero]
 induction ps generalizing m with
 | nil => simp [upL_nil]
 | cons p ps ih =>
  cases m with
  | zero => simp [upL_nil]
  | succ m =>
   have h12 : (ptrS p).data.toList.length = 12 := ptrS_size p
   rw [List.take_succ_cons, upL_cons, upL_cons, List.take_append, h12, List.take_of_length_le (by omega), show 12 * (m + 1) - 12 = 12 * m by omega, ih]
theorem up_drop (ps : List S130) (m : Nat) : (⟨(upL ps).toArray⟩ : ByteArray).extract (12 * m) (⟨(upL ps).toArray⟩ : ByteArray).size = ⟨(upL (ps.drop m)).toArray⟩ := by
 apply ByteArray.ext
 rw [ByteArray.data_extract]
 apply Array.toList_inj.1
 rw [Array.toList_extract, List.extract_eq_take_drop]
 show ((upL ps).drop (12 * m)).take ((upL ps).toArray.size - 12 * m) = upL (ps.drop m)
 rw [List.take_of_length_le (by rw [List.length_drop, List.size_toArray]; exact Nat.le_refl _)]
 induction ps generalizing m with
 | nil => simp [upL_nil]
 | cons p ps ih =>
  cases m with
  | zero => simp
  | succ m =>
   have h12 : (ptrS p).data.toList.length = 12 := ptrS_size p
   rw [List.drop_succ_cons, upL_cons, List.drop_append, h12, List.drop_eq_nil_of_le (by omega), show 12 * (m + 1) - 12 = 12 * m by omega, ih, List.nil_append]
section
variable {sh gk gm gc : Int} {Z f : Nat} (hf : 1 ≤ f) (hf2 : f ≤ 1000000) (hfZ : 12 * f ≤ Z) (hZ : Z ≤ 65536)
 (hFan : ∃ K, ∀ k, K ≤ k → caulkref06_Fan.f k sh gk gm gc = some (f : Int))
 (hFill : ∀ s : ByteArray, s.size ≤ Z → ∃ K, ∀ k, K ≤ k → caulkref08_Fill.f k sh gk gm gc s = some (fillG Z s, 0))
include hf hf2 hfZ hZ hFan hFill
theorem bld_l4 (ats : List Int) (out : List S130) (x15 x22 : List ByteArray) (x23 : Nat) (h22 : x22.length ≤ 1000000) (h23 : x23 ≤ 1000000) : ∀ (r done : List ByteArray), (∀ x ∈ done ++ r, x.size = 12) → (done ++ r).length ≤ f →
  Evt (fun k => caulkref09_Build.l4 k ats out x15 x22 (x23 : Int) (catB done) (done ++ r) ((done ++ r).length : Int) (done.length : Int) sh gk gm gc) (fun k => caulkref09_Build.l3 k ats out x15 (x22 ++ [fillG Z (catB (done ++ r))]) ((x23 + f : Nat) : Int) sh gk gm gc)
 | [], done, hx, hl => by
  rw [List.append_nil] at hx hl ⊢
  have hs := catB_size done hx
  obtain ⟨K1, h1⟩ := hFill (catB done) (by omega)
  obtain ⟨K2, h2⟩ := hFan
  refine Evt.one (K1 + K2) (fun k hk => ?_)
  have g1 := h1 k (by omega)
  have g2 := h2 k (by omega)
  have f1 : ¬ ((done.length : Int) < (done.length : Int)) := by omega
  have f2 : x22.length < 8796093022208 := by omega
  have w1 : wrap64 ((x23 : Int) + (f : Int)) = ((x23 + f : Nat) : Int) := (w64i (by omega) (by omega)).trans (by omega)
  rw [caulkref09_Build.l4, if_neg f1, g1, Option.bind_some, if_pos f2, g2, Option.bind_some, w1]
 | x :: r, done, hx, hl => by
  have e3 : (done ++ [x]) ++ r = done ++ x :: r := by simp
  have ih := bld_l4 ats out x15 x22 x23 h22 h23 r (done ++ [x]) (by rw [e3]; exact hx) (by rw [e3]; exact hl)
  rw [e3, catB_snoc, show ((done ++ [x]).length : Int) = (done.length : Int) + 1 by simp] at ih
  refine Evt.trans (Evt.one 0 (fun k _ => ?_)) ih
  have hl2 : (done ++ x :: r).length = done.length + (r.length + 1) := by simp
  have hs := catB_size done (fun y hy => hx y (by simp [hy]))
  have hx12 := hx x (by simp)
  have f1 : (done.length : Int) < ((done ++ x :: r).length : Int) := by omega
  have f2 : (0 : Int) ≤ (done.length : Int) := by omega
  have f3 : (catB done).size + x.size ≤ 9223372036854775807 := by omega
  have w3 : wrap64 ((done.length : Int) + 1) = (done.length : Int) + 1 := w64i (by omega) (by omega)
  rw [caulkref09_Build.l4, if_pos f1, if_pos f2, if_pos f1, rd_mid, if_pos f3, w3]
theorem bld_l3 (ats : List Int) (out : List S130) (ps : List S130) (hps : ps.length ≤ 500000) : ∀ (m i : Nat) (x22 : List ByteArray), ps.length - i ≤ m → i < ps.length → x22.length ≤ i →
  Evt (fun k => caulkref09_Build.l3 k ats out (ps.map ptrS) x22 (i : Int) sh gk gm gc) (fun k => caulkref09_Build.l1 k ats out (x22 ++ cutS Z (12 * f) ⟨(upL (ps.drop i)).toArray⟩) sh gk gm gc) := by
 intro m
 induction m with
 | zero => intro i x22 h1 h2; omega
 | succ m ih =>
  intro i x22 h1 h2 h3
  have hml : (ps.map ptrS).length = ps.length := by simp
  have hpd : ((ps.drop i).take f).map ptrS = ((ps.map ptrS).take (min (i + f) ps.length)).drop i := by
   rw [← List.map_take, ← List.map_drop, List.drop_take]
   congr 1
   by_cases hc : i + f ≤ ps.length
   ·rw [Nat.min_eq_left hc, show i + f - i = f by omega]
   ·rw [Nat.min_eq_right (by omega), List.take_of_length_le (by rw [List.length_drop]; omega), List.take_of_length_le (by rw [List.length_drop]; omega)]
  have h4 := bld_l4 hf hf2 hfZ hZ hFan hFill ats out (ps.map ptrS) x22 i (by omega) (by omega) (((ps.drop i).take f).map ptrS) [] (by simp only [List.nil_append, List.mem_map]; rintro x ⟨p, _, rfl⟩; exact ptrS_size p) (by simp; omega)
  rw [List.nil_append, catB_up] at h4
  have hstep : Evt (fun k => caulkref09_Build.l3 k ats out (ps.map ptrS) x22 (i : Int) sh gk gm gc) (fun k => caulkref09_Build.l4 k ats out (ps.map ptrS) x22 (i : Int) (catB []) (((ps.drop i).take f).map ptrS) ((((ps.drop i).take f).map ptrS).length : Int) (([] : List ByteArray).length : Int) sh gk gm gc) := by
   obtain ⟨K2, hF⟩ := hFan
   refine Evt.one K2 (fun k hk => ?_)
   have w2 : mn ((i : Int) + (f : Int)) ((ps.map ptrS).length : Int) = ((min (i + f) ps.length : Nat) : Int) := by
    unfold mn
    rw [hml]
    by_cases hc : i + f ≤ ps.length
    ·rw [if_neg (by omega), Nat.min_eq_left hc]; omega
    ·rw [if_pos (by omega), Nat.min_eq_right (by omega)]
   have f1 : (i : Int) < ((ps.map ptrS).length : Int) := by omega
   have f2 : (0 : Int) ≤ (i : Int) := by omega
   have f3 : (i : Int) ≤ ((min (i + f) ps.length : Nat) : Int) := by omega
   have f4 : ((min (i + f) ps.length : Nat) : Int) ≤ ((ps.map ptrS).length : Int) := by omega
   have w1 : wrap64 ((i : Int) + (f : Int)) = (i : Int) + (f : Int) := w64i (by omega) (by omega)
   rw [caulkref09_Build.l3, if_pos f1, hF k hk, Option.bind_some, if_pos f2, w1, w2, if_pos f3, if_pos f4, Int.toNat_natCast, Int.toNat_natCast, ← hpd]
   rfl
  refine Evt.trans hstep (Evt.trans h4 ?_)
  by_cases hc : i + f < ps.length
  ·have := ih (i + f) (x22 ++ [fillG Z ⟨(upL ((ps.drop i).take f)).toArray⟩]) (by omega) hc (by simp; omega)
   refine Evt.trans this ?_
   have hsz : (⟨(upL (ps.drop i)).toArray⟩ : ByteArray).size = 12 * (ps.length - i) := by
    show (upL (ps.drop i)).toArray.size = _
    rw [List.size_toArray, upL_len, List.length_drop]
   have e : cutS Z (12 * f) ⟨(upL (ps.drop i)).toArray⟩ = fillG Z ⟨(upL ((ps.drop i).take f)).toArray⟩ :: cutS Z (12 * f) ⟨(upL (ps.drop (i + f))).toArray⟩ := by
    rw [cutS_more (by omega) (by omega), up_take, up_drop, List.drop_drop]
   rw [e, List.append_assoc, List.singleton_append]
   exact Evt.refl _
  ·refine Evt.one 0 (fun k _ => ?_)
   have hsz : (⟨(upL (ps.drop i)).toArray⟩ : ByteArray).size = 12 * (ps.length - i) := by
    show (upL (ps.drop i)).toArray.size = _
    rw [List.size_toArray, upL_len, List.length_drop]
   rw [caulkref09_Build.l3, if_neg (by omega), cutS_last (by omega), List.take_of_length_le (by rw [List.length_drop]; omega)]
end
section
variable {sh gk gm gc : Int} {Z f : Nat} (hf : 2 ≤ f) (hf2 : f ≤ 1000000) (hfZ : 12 * f ≤ Z) (hZ : Z ≤ 65536)
 (hFan : ∃ K, ∀ k, K ≤ k → caulkref06_Fan.f k sh gk gm gc = some (f : Int))
 (hFill : ∀ s : ByteArray, s.size ≤ Z → ∃ K, ∀ k, K ≤ k → caulkref08_Fill.f k sh gk gm gc s = some (fillG Z s, 0))
 (hSum : ∀ s : ByteArray, s.size ≤ 65536 → ∃ K, ∀ k, K ≤ k → caulkref01_Sum.f k s = some (sumC s))
 (hPtr : ∀ (a b : Int) (s : ByteArray), 0 ≤ a ∧ a < 4294967296 → 0 ≤ b ∧ b < 4294967296 → ∃ K, ∀ k, K ≤ k → caulkref07_Ptr.f k a b (sumC s) = some (ptrS ⟨⟨a, b, sumC s⟩, s⟩, 0))
 {ats : List Int} (har : ∀ z ∈ ats, 0 ≤ z ∧ z < 4294967296) (hal : ats.length ≤ 1000000)
include hf hf2 hfZ hZ hFan hFill hSum hPtr har hal
theorem bld_l1 : ∀ (q : Nat) (level : List ByteArray) (pre : List S130), 1 ≤ level.length → level.length ≤ q + 1 → 2 * (pre.length + (levN f q level.length).sum) ≤ ats.length → (∀ x ∈ level, x.size = Z) →
  Evt (fun k => caulkref09_Build.l1 k ats pre level sh gk gm gc) (fun _ => some (bldP Z f q level (ats.drop (2 * pre.length)) pre, (rd_T130 (bldP Z f q level (ats.drop (2 * pre.length)) pre) (((bldP Z f q level (ats.drop (2 * pre.length)) pre).length : Int) - 1)).f0.f0, (rd_T130 (bldP Z f q level (ats.drop (2 * pre.length)) pre) (((bldP Z f q level (ats.drop (2 * pre.length)) pre).length : Int) - 1)).f0.f1, (rd_T130 (bldP Z f q level (ats.drop (2 * pre.length)) pre) (((bldP Z f q level (ats.drop (2 * pre.length)) pre).length : Int) - 1)).f0.f2, 0)) := by
 have fin (level : List ByteArray) (pre : List S130) (h1 : level.length = 1) (h2 : 2 * (pre.length + level.length) ≤ ats.length) (ptrs : List ByteArray) : Evt (fun k => bldTail k ats (pre ++ layP level (ats.drop (2 * pre.length))) level ptrs sh gk gm gc) (fun _ => some (pre ++ layP level (ats.drop (2 * pre.length)), (rd_T130 (pre ++ layP level (ats.drop (2 * pre.length))) (((pre ++ layP level (ats.drop (2 * pre.length))).length : Int) - 1)).f0.f0, (rd_T130 (pre ++ layP level (ats.drop (2 * pre.length))) (((pre ++ layP level (ats.drop (2 * pre.length))).length : Int) - 1)).f0.f1, (rd_T130 (pre ++ layP level (ats.drop (2 * pre.length))) (((pre ++ layP level (ats.drop (2 * pre.length))).length : Int) - 1)).f0.f2, 0)) := by
  refine ⟨0, 0, fun k _ => ?_⟩
  have hl : (pre ++ layP level (ats.drop (2 * pre.length))).length = pre.length + 1 := by
   rw [List.length_append, layP_len _ _ (by rw [List.length_drop]; omega), h1]
  show bldTail (k + 0) _ _ _ _ _ _ _ _ = _
  unfold bldTail
  have f1 : (level.length : Int) = 1 := by omega
  have f2 : (0 : Int) ≤ ((pre ++ layP level (ats.drop (2 * pre.length))).length : Int) - 1 := by omega
  have f3 : ((pre ++ layP level (ats.drop (2 * pre.length))).length : Int) - 1 < ((pre ++ layP level (ats.drop (2 * pre.length))).length : Int) := by omega
  have w : wrap64 (((pre ++ layP level (ats.drop (2 * pre.length))).length : Int) - 1) = ((pre ++ layP level (ats.drop (2 * pre.length))).length : Int) - 1 := w64i (by omega) (by omega)
  rw [if_pos f1, w, if_pos f2, if_pos f3]
 have start (level : List ByteArray) (pre : List S130) (h2 : 2 * (pre.length + level.length) ≤ ats.length) (hs : ∀ x ∈ level, x.size = Z) : Evt (fun k => caulkref09_Build.l1 k ats pre level sh gk gm gc) (fun k => bldTail k ats (pre ++ layP level (ats.drop (2 * pre.length))) level ((layP level (ats.drop (2 * pre.length))).map ptrS) sh gk gm gc) := by
  have h := bld_l2 (sh := sh) (gk := gk) (gm := gm) (gc := gc) hSum hPtr har hal level level [] pre [] (fun x hx => by rw [hs x hx]; exact hZ) h2 (by simp; omega) (by simp; omega)
  refine Evt.trans (Evt.one 0 (fun k _ => ?_)) h
  rw [caulkref09_Build.l1]
  rfl
 intro q
 induction q with
 | zero =>
  intro level pre hl hq h hs
  have h1 : level.length = 1 := by omega
  have h2 : 2 * (pre.length + level.length) ≤ ats.length := by rw [levN] at h; simpa using h
  rw [bldP]
  exact Evt.trans (start level pre h2 hs) (fin level pre h1 h2 _)
 | succ q ih =>
  intro level pre hl hq h hs
  by_cases h1 : level.length = 1
  ·have h2 : 2 * (pre.length + level.length) ≤ ats.length := by rw [levN, if_pos (by omega)] at h; simpa using h
   rw [bldP, if_pos h1]
   exact Evt.trans (start level pre h2 hs) (fin level pre h1 h2 _)
  ·rw [levN, if_neg (by omega), List.sum_cons] at h
   have h2 : 2 * (pre.length + level.length) ≤ ats.length := by omega
   have hld : 2 * level.length ≤ (ats.drop (2 * pre.length)).length := by rw [List.length_drop]; omega
   have hup := up_cut (Z := Z) (f := f) (by omega) level (ats.drop (2 * pre.length)) hld hl
   have hlt := ovr_lt hf (show 2 ≤ level.length by omega)
   have hlp := layP_len level _ hld
   rw [bldP, if_neg h1]
   have hdd : (ats.drop (2 * pre.length)).drop (2 * level.length) = ats.drop (2 * (pre ++ layP level (ats.drop (2 * pre.length))).length) := by
    rw [List.drop_drop, List.length_append, hlp, Nat.mul_add]
   rw [hdd]
   have ih2 := ih (cutS Z (12 * f) ⟨(upL (layP level (ats.drop (2 * pre.length)))).toArray⟩) (pre ++ layP level (ats.drop (2 * pre.length))) (by rw [hup]; exact ovr_pos (by omega) hl) (by rw [hup]; omega) (by rw [hup, List.length_append, hlp]; omega) (cutS_sizes (by omega) hfZ _ _ (Nat.le_refl _))
   refine Evt.trans (start level pre h2 hs) (Evt.trans ?_ ih2)
   have h3 := bld_l3 (by omega) hf2 hfZ hZ hFan hFill ats (pre ++ layP level (ats.drop (2 * pre.length))) (layP level (ats.drop (2 * pre.length))) (by omega) _ 0 [] (Nat.le_refl _) (by omega) (by simp)
   refine Evt.trans ⟨0, 0, fun k _ => ?_⟩ h3
   show bldTail k _ _ _ _ _ _ _ _ = _
   unfold bldTail
   rw [if_neg (by omega)]
   rfl
end
theorem ref_size {sh K M C : Int} (h : GeoOk sh K M C) (k : Nat) (hk : 10 ≤ k) : caulkref06_Size.f k sh K M C = some ((512 * nS sh : Nat) : Int) := by
 obtain ⟨j, rfl⟩ : ∃ j, k = j + 10 := ⟨k - 10, by omega⟩
 unfold caulkref06_Size.f
 have hs := nS_le h.2.1
 rw [ref_Check_is, if_pos h, Option.bind_some, if_pos rfl, each_is j sh K M C h.1 h.2.1, Option.bind_some, wrap64_id (by omega) (by omega)]
 congr 1
theorem ref_fan {sh K M C : Int} (h : GeoOk sh K M C) : ∀ k, 10 ≤ k → caulkref06_Fan.f k sh K M C = some (fanN sh : Int) := fun k hk => by
 unfold caulkref06_Fan.f
 rw [ref_size h k hk, Option.bind_some, show (12 : Int) = ((12 : Nat) : Int) from rfl, tdiv_nat]
 have := nS_le h.2.1
 have h2 : 512 * nS sh / 12 ≤ 512 * nS sh := Nat.div_le_self _ _
 rw [wrap64_id (by omega) (by omega)]
 rfl
theorem ref_over {n z : Nat} (hn : n ≤ 1000000000) (hz : 1 ≤ z) (hz2 : z ≤ 1000000) : caulkref09_over.f (n : Int) (z : Int) = some ((ovr n z : Nat) : Int) := over_is hn hz hz2
theorem fill_app (Z : Nat) (s : ByteArray) : s ++ strOfNums (List.replicate (Z - s.size) 0) = fillG Z s := by
 apply ByteArray.ext
 apply Array.toList_inj.1
 rw [fillG_list]
 have e : strOfNums (List.replicate (Z - s.size) (0 : Int)) = ⟨(List.replicate (Z - s.size) (0 : UInt8)).toArray⟩ := by
  rw [← strOf_list, List.map_replicate]
  rfl
 rw [e]
 simp
theorem ref_fill {sh K M C : Int} (h : GeoOk sh K M C) (s : ByteArray) (hs : s.size ≤ 512 * nS sh) : ∀ k, 10 ≤ k → caulkref08_Fill.f k sh K M C s = some (fillG (512 * nS sh) s, 0) := fun k hk => by
 have hz := ref_size h k hk
 have h7 := nS_le h.2.1
 obtain ⟨j, rfl⟩ : ∃ j, k = j + 10 := ⟨k - 10, by omega⟩
 unfold caulkref08_Fill.f
 have w : wrap64 (((512 * nS sh : Nat) : Int) - (s.size : Int)) = ((512 * nS sh - s.size : Nat) : Int) := (wrap64_id (by omega) (by omega)).trans (by omega)
 have hsz : (strOfNums (List.replicate (512 * nS sh - s.size) (0 : Int))).size = 512 * nS sh - s.size := by rw [strOfNums_size, List.length_replicate]
 have f1 : ¬ ((s.size : Int) > ((512 * nS sh : Nat) : Int)) := by omega
 have f2 : (0 : Int) ≤ ((512 * nS sh - s.size : Nat) : Int) := by omega
 have f3 : 512 * nS sh - s.size ≤ 281474976710656 := by omega
 have f4 : s.size + (strOfNums (List.replicate (512 * nS sh - s.size) (0 : Int))).size ≤ 9223372036854775807 := by rw [hsz]; omega
 rw [ref_Check_is, if_pos h, Option.bind_some, if_pos rfl, hz, Option.bind_some, if_neg f1, Option.bind_some, w, if_pos f2, Int.toNat_natCast, if_pos f3, Option.bind_some, if_pos f4, fill_app]
theorem ext_ext (s : ByteArray) (i m : Nat) : (s.extract i s.size).extract 0 m = s.extract i (min (i + m) s.size) := by
 apply ByteArray.ext
 apply Array.toList_inj.1
 rw [ByteArray.data_extract, ByteArray.data_extract, ByteArray.data_extract, Array.toList_extract, Array.toList_extract, Array.toList_extract, List.extract_eq_take_drop, List.extract_eq_take_drop, List.extract_eq_take_drop]
 have : s.data.toList.length = s.size := by rw [Array.length_toList]; rfl
 rw [List.drop_zero, Nat.sub_zero, List.take_take]
 by_cases h : i + m ≤ s.size
 ·rw [Nat.min_eq_left h]
  congr 1
  omega
 ·rw [Nat.min_eq_right (by omega)]
  rw [List.take_of_length_le (by rw [List.length_drop]; omega), List.take_of_length_le (by rw [List.length_drop]; omega)]
theorem ext_drop (s : ByteArray) (i m : Nat) (h : i + m ≤ s.size) : (s.extract i s.size).extract m (s.extract i s.size).size = s.extract (i + m) s.size := by
 apply ByteArray.ext
 apply Array.toList_inj.1
 have hz : (s.extract i s.size).size = s.size - i := by rw [ByteArray.size_extract]; omega
 rw [hz, ByteArray.data_extract, ByteArray.data_extract, ByteArray.data_extract, Array.toList_extract, Array.toList_extract, Array.toList_extract, List.extract_eq_take_drop, List.extract_eq_take_drop, List.extract_eq_take_drop]
 have : s.data.toList.length = s.size := by rw [Array.length_toList]; rfl
 rw [List.take_of_length_le (by simp <;> omega), List.take_of_length_le (by simp <;> omega), List.take_of_length_le (by simp <;> omega), List.drop_drop]
theorem ref_cut_l0 {sh K M C : Int} (h : GeoOk sh K M C) (blob : ByteArray) (hb : blob.size ≤ 1000000) : ∀ (m i : Nat) (out : List ByteArray), blob.size - i ≤ m → (i = 0 ∨ i < blob.size) → out.length ≤ i →
  Evt (fun k => caulkref09_cut.l0 k blob ((512 * nS sh : Nat) : Int) out (i : Int) sh K M C) (fun _ => some (out ++ cutS (512 * nS sh) (512 * nS sh) (blob.extract i blob.size))) := by
 have h7 := nS_le h.2.1
 have hp := nS_pos sh
 intro m
 induction m with
 | zero =>
  intro i out h1 h2 h3
  have hi : i = 0 := by omega
  have hb0 : blob.size = 0 := by omega
  subst hi
  have hbe : blob.extract 0 blob.size = blob := ByteArray.extract_zero_size
  have hfl := ref_fill h (blob.extract 0 (min (0 + 512 * nS sh) blob.size)) (by rw [ByteArray.size_extract]; omega)
  refine ⟨2, 10, fun k hk => ?_⟩
  have g1 := hfl (k + 1) (by omega)
  have w1 : wrap64 (((0 : Nat) : Int) + ((512 * nS sh : Nat) : Int)) = ((512 * nS sh : Nat) : Int) := (wrap64_id (by omega) (by omega)).trans (by omega)
  have w2 : mn ((512 * nS sh : Nat) : Int) (blob.size : Int) = ((min (0 + 512 * nS sh) blob.size : Nat) : Int) := by
   unfold mn
   by_cases hc : 512 * nS sh ≤ blob.size
   ·rw [if_neg (by clear w1; omega)]; clear w1; omega
   ·rw [if_pos (by clear w1; omega)]; clear w1; omega
  have f1 : (((0 : Nat) : Int)) = 0 := rfl
  have f2 : (0 : Int) ≤ ((0 : Nat) : Int) := by decide
  have f3 : ((0 : Nat) : Int) ≤ ((min (0 + 512 * nS sh) blob.size : Nat) : Int) := by clear w1 w2; omega
  have f4 : ((min (0 + 512 * nS sh) blob.size : Nat) : Int) ≤ (blob.size : Int) := by clear w1 w2; omega
  have f5 : out.length < 8796093022208 := by clear w1 w2; omega
  have f6 : ¬ (((512 * nS sh : Nat) : Int) = 0) := by clear w1 w2; omega
  have f7 : ¬ (((512 * nS sh : Nat) : Int) < (blob.size : Int)) := by clear w1 w2; omega
  have hx : blob.extract 0 (min (0 + 512 * nS sh) blob.size) = blob := by
   rw [show min (0 + 512 * nS sh) blob.size = blob.size by clear w1 w2; omega]
   exact hbe
  show caulkref09_cut.l0 (k + 1 + 1) _ _ _ _ _ _ _ _ = _
  rw [caulkref09_cut.l0, if_pos f1, if_pos f2, w1, w2, if_pos f3, if_pos f4, Int.toNat_natCast, Int.toNat_natCast, g1, Option.bind_some, if_pos f5, caulkref09_cut.l0, if_neg f6, if_neg f7, hbe, hx, cutS_last (by clear w1 w2; omega)]
 | succ m ih =>
  intro i out h1 h2 h3
  have hfl := ref_fill h (blob.extract i (min (i + 512 * nS sh) blob.size)) (by rw [ByteArray.size_extract]; omega)
  have hstep : Evt (fun k => caulkref09_cut.l0 k blob ((512 * nS sh : Nat) : Int) out (i : Int) sh K M C) (fun k => caulkref09_cut.l0 k blob ((512 * nS sh : Nat) : Int) (out ++ [fillG (512 * nS sh) (blob.extract i (min (i + 512 * nS sh) blob.size))]) ((i + 512 * nS sh : Nat) : Int) sh K M C) := by
   refine Evt.one 10 (fun k hk => ?_)
   have g1 := hfl k hk
   have hi : i ≤ blob.size := by omega
   have w2 : mn (((i + 512 * nS sh : Nat) : Int)) (blob.size : Int) = ((min (i + 512 * nS sh) blob.size : Nat) : Int) := by
    unfold mn
    by_cases hc : i + 512 * nS sh ≤ blob.size
    ·rw [if_neg (by omega)]; omega
    ·rw [if_pos (by omega)]; omega
   have f2 : (0 : Int) ≤ (i : Int) := by omega
   have f3 : (i : Int) ≤ ((min (i + 512 * nS sh) blob.size : Nat) : Int) := by omega
   have f4 : ((min (i + 512 * nS sh) blob.size : Nat) : Int) ≤ (blob.size : Int) := by omega
   have f5 : out.length < 8796093022208 := by omega
   have f8 : ¬ ((i : Int) = 0) → (i : Int) < (blob.size : Int) := fun e => by omega
   have w1 : wrap64 ((i : Int) + ((512 * nS sh : Nat) : Int)) = ((i + 512 * nS sh : Nat) : Int) := (wrap64_id (by omega) (by omega)).trans (by omega)
   rw [caulkref09_cut.l0]
   by_cases e0 : (i : Int) = 0
   ·rw [if_pos e0, if_pos f2, w1, w2, if_pos f3, if_pos f4, Int.toNat_natCast, Int.toNat_natCast, g1, Option.bind_some, if_pos f5]
   ·rw [if_neg e0, if_pos (f8 e0), if_pos f2, w1, w2, if_pos f3, if_pos f4, Int.toNat_natCast, Int.toNat_natCast, g1, Option.bind_some, if_pos f5]
  refine Evt.trans hstep ?_
  have hsz : (blob.extract i blob.size).size = blob.size - i := by rw [ByteArray.size_extract]; omega
  by_cases hc : i + 512 * nS sh < blob.size
  ·have := ih (i + 512 * nS sh) (out ++ [fillG (512 * nS sh) (blob.extract i (min (i + 512 * nS sh) blob.size))]) (by omega) (Or.inr hc) (by simp; omega)
   refine Evt.trans this ?_
   have e : cutS (512 * nS sh) (512 * nS sh) (blob.extract i blob.size) = fillG (512 * nS sh) (blob.extract i (min (i + 512 * nS sh) blob.size)) :: cutS (512 * nS sh) (512 * nS sh) (blob.extract (i + 512 * nS sh) blob.size) := by
    rw [cutS_more (by omega) (by omega), ext_ext, ext_drop _ _ _ (by omega)]
   rw [e, List.append_assoc, List.singleton_append]
   exact Evt.refl _
  ·refine Evt.one 0 (fun k _ => ?_)
   have f6 : ¬ (((i + 512 * nS sh : Nat) : Int) = 0) := by omega
   have f7 : ¬ (((i + 512 * nS sh : Nat) : Int) < (blob.size : Int)) := by omega
   rw [caulkref09_cut.l0, if_neg f6, if_neg f7, cutS_last (by omega), Nat.min_eq_right (by omega)]
theorem ref_cut {sh K M C : Int} (h : GeoOk sh K M C) (blob : ByteArray) (hb : blob.size ≤ 1000000) : Evt (fun k => caulkref09_cut.f k sh K M C blob) (fun _ => some (cutS (512 * nS sh) (512 * nS sh) blob)) := by
 have h0 := ref_cut_l0 h blob hb blob.size 0 [] (by omega) (Or.inl rfl) (by simp)
 rw [show blob.extract 0 blob.size = blob from ByteArray.extract_zero_size, List.nil_append] at h0
 obtain ⟨d, K0, h0⟩ := h0
 refine ⟨d, K0 + 10, fun k hk => ?_⟩
 show caulkref09_cut.f (k + d) sh K M C blob = _
 unfold caulkref09_cut.f
 rw [ref_size h (k + d) (by omega), Option.bind_some]
 exact h0 k (by omega)
theorem ref_levels_l0 {sh K M C : Int} (h : GeoOk sh K M C) : ∀ (q m : Nat) (out : List Int), m ≤ q + 1 → m ≤ 1000000 → out.length ≤ 1000000 - m →
  Evt (fun k => caulkref09_levels.l0 k (m : Int) (out ++ [(m : Int)]) sh K M C) (fun _ => some (out ++ (levN (fanN sh) q m).map (fun x : Nat => (x : Int))))
 | 0, m, out, h1, h2, h3 => Evt.one 0 (fun k _ => by rw [caulkref09_levels.l0, if_neg (by omega)]; rfl)
 | q + 1, m, out, h1, h2, h3 => by
  rw [levN]
  by_cases hm : m ≤ 1
  ·rw [if_pos hm]
   exact Evt.one 0 (fun k _ => by rw [caulkref09_levels.l0, if_neg (by omega)]; rfl)
  ·rw [if_neg hm]
   have hf := fanN_ge sh
   have hfl := fanN_le sh
   have h7 := nS_le h.2.1
   have hlt := ovr_lt (f := fanN sh) (by omega) (show 2 ≤ m by omega)
   have ih := ref_levels_l0 h q (ovr m (fanN sh)) (out ++ [(m : Int)]) (by omega) (by omega) (by simp; omega)
   simp only [List.append_assoc, List.singleton_append] at ih
   rw [List.map_cons]
   refine Evt.trans (Evt.one 10 (fun k hk => ?_)) ih
   rw [caulkref09_levels.l0, if_pos (by omega), ref_fan h k hk, Option.bind_some, ref_over (by omega) (by omega) (by omega), Option.bind_some, if_pos (by simp; omega)]
   rw [List.append_assoc, List.singleton_append]
theorem ref_sum : ∀ (r done : List Nat) (a : Nat), a + r.sum ≤ 1000000000 → (done ++ r).length ≤ 1000000 →
  Evt (fun k => caulkref09_Count.l0 k (a : Int) ((done ++ r).map (fun x : Nat => (x : Int))) (((done ++ r).map (fun x : Nat => (x : Int))).length : Int) (done.length : Int)) (fun _ => some (((a + r.sum : Nat) : Int), 0))
 | [], done, a, h, hl => Evt.one 0 (fun k _ => by rw [caulkref09_Count.l0, if_neg (by simp)]; simp)
 | x :: r, done, a, h, hl => by
  rw [List.sum_cons] at h
  have e3 : (done ++ [x]) ++ r = done ++ x :: r := by simp
  have ih := ref_sum r (done ++ [x]) (a + x) (by omega) (by rw [e3]; exact hl)
  rw [e3, show ((done ++ [x]).length : Int) = (done.length : Int) + 1 by simp, Nat.add_assoc] at ih
  rw [List.sum_cons]
  refine Evt.trans (Evt.one 0 (fun k _ => ?_)) ih
  have hl2 : (done ++ x :: r).length = done.length + (r.length + 1) := by simp
  have f1 : (done.length : Int) < (((done ++ x :: r).map (fun x : Nat => (x : Int))).length : Int) := by rw [List.length_map]; omega
  have f2 : (0 : Int) ≤ (done.length : Int) := by omega
  have hr : rd ((done ++ x :: r).map (fun x : Nat => (x : Int))) (done.length : Int) = (x : Int) := by
   rw [rd_at _ _ (by rw [List.length_map]; omega)]
   simp
  have w1 : wrap64 ((a : Int) + (x : Int)) = ((a + x : Nat) : Int) := (wrap64_id (by omega) (by omega)).trans (by omega)
  have w2 : wrap64 ((done.length : Int) + 1) = (done.length : Int) + 1 := wrap64_id (by omega) (by omega)
  rw [caulkref09_Count.l0, if_pos f1, if_pos f2, if_pos f1, hr, w1, w2]
theorem ref_count (sh K M C n : Int) : Evt (fun k => caulkref09_Count.f k sh K M C n) (fun _ => some (countP sh K M C n)) := by
 unfold countP
 by_cases hg : GeoOk sh K M C
 ·rw [if_pos hg]
  have hcheck : ∀ k, 10 ≤ k → caulkref06_Check.f k sh K M C = some 0 := fun k hk => by
   obtain ⟨j, rfl⟩ : ∃ j, k = j + 10 := ⟨k - 10, by omega⟩
   rw [ref_Check_is, if_pos hg]
  by_cases hn : n < 0 ∨ n > 1048576
  ·rw [if_pos hn]
   refine ⟨1, 10, fun k hk => ?_⟩
   show caulkref09_Count.f (k + 1) sh K M C n = _
   unfold caulkref09_Count.f
   rw [hcheck _ (by omega), Option.bind_some, if_pos rfl]
   by_cases h0 : n < 0
   ·rw [if_pos h0, caulkref09_Count.j0, if_pos rfl]
   ·rw [if_neg h0, caulkref09_Count.j0, if_pos (by simp; omega)]
  ·rw [if_neg hn]
   obtain ⟨m, rfl⟩ : ∃ m : Nat, n = (m : Int) := ⟨n.toNat, by omega⟩
   rw [Int.toNat_natCast]
   have h7 := nS_le hg.2.1
   have hp := nS_pos sh
   have hf := fanN_ge sh
   have ho := ovr_le_n (n := m) (z := 512 * nS sh) (by omega) (by omega)
   have hsum := lens_sum (fanN sh) (512 * nS sh) m (by omega) (by omega) (by omega)
   have hlm := levN_len_m (f := fanN sh) (by omega) 3000 (max (ovr m (512 * nS sh)) 1)
   obtain ⟨d1, K1, h1⟩ := ref_levels_l0 hg 3000 (max (ovr m (512 * nS sh)) 1) [] (by omega) (by omega) (by simp)
   obtain ⟨d2, K2, h2⟩ := ref_sum (lens (fanN sh) (512 * nS sh) m) [] 0 (by omega) (by rw [List.nil_append]; unfold lens; omega)
   refine ⟨d1 + d2 + 1, K1 + K2 + 10, fun k hk => ?_⟩
   show caulkref09_Count.f (k + (d1 + d2 + 1)) sh K M C (m : Int) = _
   unfold caulkref09_Count.f
   rw [hcheck _ (by omega), Option.bind_some, if_pos rfl, if_neg (by omega), ← Nat.add_assoc, caulkref09_Count.j0, if_neg (by simp; omega)]
   unfold caulkref09_levels.f
   have g1 := h1 (k + d2) (by omega)
   have g2 := h2 (k + d1) (by omega)
   dsimp only at g1 g2 ⊢
   rw [show k + d2 + d1 = k + (d1 + d2) by omega, List.nil_append, List.nil_append] at g1
   rw [show k + d1 + d2 = k + (d1 + d2) by omega, List.nil_append] at g2
   rw [ref_size hg _ (by omega), Option.bind_some, ref_over (by omega) (by omega) (by omega), Option.bind_some, mx_nat, g1, Option.bind_some]
   rw [Nat.zero_add] at g2
   exact g2
 ·rw [if_neg hg]
  refine ⟨0, 10, fun k hk => ?_⟩
  show caulkref09_Count.f (k + 0) sh K M C n = _
  obtain ⟨j, hj⟩ : ∃ j, k + 0 = j + 10 := ⟨k - 10, by omega⟩
  unfold caulkref09_Count.f
  rw [hj, ref_Check_is, if_neg hg, Option.bind_some, if_neg (by decide)]
theorem ref_range (sh K M C : Int) (blob : ByteArray) (l : List Int) (hl : l.length ≤ 1000000) : ∀ (d i : Nat), i + d = l.length → (∀ z ∈ l.take i, 0 ≤ z ∧ z < 4294967296) →
  (AtsOk l → Evt (fun k => caulkref09_Build.l0 k blob l l (l.length : Int) (i : Int) sh K M C) (fun k => (caulkref09_cut.f k sh K M C blob).bind fun t => caulkref09_Build.l1 k l [] t sh K M C)) ∧
  (¬ AtsOk l → Evt (fun k => caulkref09_Build.l0 k blob l l (l.length : Int) (i : Int) sh K M C) (fun _ => some ([], 0, 0, 0, 2)))
 | 0, i, h, ht => by
  rw [List.take_of_length_le (by omega)] at ht
  exact ⟨fun _ => Evt.one 0 (fun k _ => by rw [caulkref09_Build.l0, if_neg (by omega)]), fun hn => absurd ht hn⟩
 | d + 1, i, h, ht => by
  have hi : i < l.length := by omega
  have f1 : (i : Int) < (l.length : Int) := by omega
  have f2 : (0 : Int) ≤ (i : Int) := by omega
  by_cases h0 : l[i] < 0
  ·have hno : ¬ AtsOk l := fun hk => by have := hk _ (List.getElem_mem hi); omega
   refine ⟨fun hk => absurd hk hno, fun _ => Evt.one 0 (fun k _ => ?_)⟩
   rw [caulkref09_Build.l0, if_pos f1, if_pos f2, if_pos f1, rd_at l i hi, if_pos h0]
  ·by_cases h1 : l[i] > 4294967295
   ·have hno : ¬ AtsOk l := fun hk => by have := hk _ (List.getElem_mem hi); omega
    refine ⟨fun hk => absurd hk hno, fun _ => Evt.one 0 (fun k _ => ?_)⟩
    rw [caulkref09_Build.l0, if_pos f1, if_pos f2, if_pos f1, rd_at l i hi, if_neg h0, if_pos h1]
   ·have hn : ∀ z ∈ l.take (i + 1), 0 ≤ z ∧ z < 4294967296 := fun z hz => by
     rw [List.take_succ_eq_append_getElem hi] at hz
     rcases List.mem_append.1 hz with hz | hz
     ·exact ht z hz
     ·rw [List.mem_singleton.1 hz]; omega
    have ih := ref_range sh K M C blob l hl d (i + 1) (by omega) hn
    have e : wrap64 ((i : Int) + 1) = ((i + 1 : Nat) : Int) := (wrap64_id (by omega) (by omega)).trans (by omega)
    have st : Evt (fun k => caulkref09_Build.l0 k blob l l (l.length : Int) (i : Int) sh K M C) (fun k => caulkref09_Build.l0 k blob l l (l.length : Int) ((i + 1 : Nat) : Int) sh K M C) := Evt.one 0 (fun k _ => by
     rw [caulkref09_Build.l0, if_pos f1, if_pos f2, if_pos f1, rd_at l i hi, if_neg h0, if_neg h1, e])
    exact ⟨fun hk => Evt.trans st (ih.1 hk), fun hk => Evt.trans st (ih.2 hk)⟩
theorem ref_build (sh K M C : Int) (blob : ByteArray) (hb : blob.size ≤ 65536) (ats : List Int) : Evt (fun k => caulkref09_Build.f k sh K M C blob ats) (fun _ => some (bldR sh K M C blob ats)) := by
 obtain ⟨dc, Kc, hc⟩ := ref_count sh K M C (blob.size : Int)
 unfold bldR
 by_cases h0 : (countP sh K M C (blob.size : Int)).2 ≠ 0
 ·rw [if_pos h0]
  refine ⟨dc, Kc, fun k hk => ?_⟩
  show caulkref09_Build.f (k + dc) sh K M C blob ats = _
  have g1 := hc k hk
  dsimp only at g1 ⊢
  unfold caulkref09_Build.f
  rw [g1, Option.bind_some, if_neg h0]
 rw [if_neg h0]
 have h00 : (countP sh K M C (blob.size : Int)).2 = 0 := by simpa using h0
 obtain ⟨hg, _, _, hcn⟩ := countP_ok h00
 rw [hcn, Int.toNat_natCast]
 have hf := fanN_ge sh
 have hfl := fanN_le sh
 have hp := nS_pos sh
 have hs7 := nS_le hg.2.1
 obtain ⟨hs1, hs2⟩ := small_sum (f := fanN sh) (Z := 512 * nS sh) (n := blob.size) (by omega) (by omega) hb
 have hw : ∀ N : Nat, N ≤ 384128 → wrap64 (2 * (N : Int)) = 2 * (N : Int) := fun N h => wrap64_id (by omega) (by omega)
 by_cases h1 : (ats.length : Int) ≠ 2 * (((lens (fanN sh) (512 * nS sh) blob.size).sum : Nat) : Int)
 ·rw [if_pos (Or.inl h1)]
  refine ⟨dc, Kc, fun k hk => ?_⟩
  show caulkref09_Build.f (k + dc) sh K M C blob ats = _
  have g1 := hc k hk
  dsimp only at g1 ⊢
  unfold caulkref09_Build.f
  rw [g1, Option.bind_some, if_pos h00, hcn, Int.toNat_natCast, hw _ hs1, if_neg h1]
 have h10 : (ats.length : Int) = 2 * (((lens (fanN sh) (512 * nS sh) blob.size).sum : Nat) : Int) := by simpa using h1
 have hal : ats.length ≤ 1000000 := by omega
 have hrg := ref_range sh K M C blob ats hal ats.length 0 (by omega) (by simp)
 by_cases h2 : AtsOk ats
 ·rw [if_neg (fun h => h.elim h1 (fun h => h h2))]
  have hlen := lens_cut (f := fanN sh) (show 1 ≤ 512 * nS sh by omega) blob
  obtain ⟨hc1, hc2⟩ := cut_small (show 512 ≤ 512 * nS sh by omega) hb
  have hln : 2 * (([] : List S130).length + (levN (fanN sh) 3000 (cutS (512 * nS sh) (512 * nS sh) blob).length).sum) ≤ ats.length := by
   rw [hlen, List.length_nil, Nat.zero_add]; omega
  have hL1 := bld_l1 (sh := sh) (gk := K) (gm := M) (gc := C) (Z := 512 * nS sh) (f := fanN sh) (by omega) (by omega) hfl (by omega) ⟨10, ref_fan hg⟩ (fun s hs => ⟨10, ref_fill hg s hs⟩) (fun s hs => ref_Sum_is s (by omega)) (fun a b s ha hb => ⟨20, fun k hk => ref_Ptr_ok a b (sumC s) ha hb (sumC_in s) k hk⟩) h2 hal 3000 (cutS (512 * nS sh) (512 * nS sh) blob) [] hc2 (by omega) hln (cutS_sizes (by omega) (Nat.le_refl _) _ blob (Nat.le_refl _))
  rw [List.length_nil, Nat.mul_zero, List.drop_zero] at hL1
  obtain ⟨d1, K1, g1⟩ := hrg.1 h2
  obtain ⟨d2, K2, g2⟩ := ref_cut hg blob (by omega)
  obtain ⟨d3, K3, g3⟩ := hL1
  refine ⟨dc + d1 + d2 + d3, Kc + K1 + K2 + K3, fun k hk => ?_⟩
  show caulkref09_Build.f (k + (dc + d1 + d2 + d3)) sh K M C blob ats = _
  have e0 := hc (k + d1 + d2 + d3) (by omega)
  have e1 := g1 (k + dc + d2 + d3) (by omega)
  have e2 := g2 (k + dc + d3) (by omega)
  have e3 := g3 (k + dc + d2) (by omega)
  dsimp only at e0 e1 e2 e3 ⊢
  rw [show k + d1 + d2 + d3 + dc = k + (dc + d1 + d2 + d3) by omega] at e0
  rw [show k + dc + d2 + d3 + d1 = k + (dc + d1 + d2 + d3) by omega] at e1
  rw [show k + dc + d3 + d2 = k + dc + d2 + d3 by omega] at e2
  unfold caulkref09_Build.f
  rw [e0, Option.bind_some, if_pos h00, hcn, Int.toNat_natCast, hw _ hs1, if_pos h10, show (0 : Int) = ((0 : Nat) : Int) from rfl, e1, e2, Option.bind_some]
  exact e3
 ·rw [if_pos (Or.inr h2)]
  obtain ⟨d1, K1, g1⟩ := hrg.2 h2
  refine ⟨dc + d1, Kc + K1, fun k hk => ?_⟩
  show caulkref09_Build.f (k + (dc + d1)) sh K M C blob ats = _
  have e0 := hc (k + d1) (by omega)
  have e1 := g1 (k + dc) (by omega)
  dsimp only at e0 e1 ⊢
  rw [show k + d1 + dc = k + (dc + d1) by omega] at e0
  rw [show k + dc + d1 = k + (dc + d1) by omega] at e1
  unfold caulkref09_Build.f
  rw [e0, Option.bind_some, if_pos h00, hcn, Int.toNat_natCast, hw _ hs1, if_pos h10, show (0 : Int) = ((0 : Nat) : Int) from rfl, e1]
  rfl
theorem same_pages (l : List S130) (hl : l.length ≤ 1000000) : ∀ (d i : Nat), i + d = l.length → caulkref09_SamePages.l0 (d + 1) l l (l.length : Int) (i : Int) = some true
 | 0, i, h => by rw [caulkref09_SamePages.l0, if_neg (by omega)]
 | d + 1, i, h => by
  have f1 : (i : Int) < (l.length : Int) := by omega
  have f2 : (0 : Int) ≤ (i : Int) := by omega
  have ih := same_pages l hl d (i + 1) (by omega)
  have e : wrap64 ((i : Int) + 1) = ((i + 1 : Nat) : Int) := (wrap64_id (by omega) (by omega)).trans (by omega)
  rw [caulkref09_SamePages.l0, if_pos f1, if_pos f2, if_pos f1, if_pos f1, if_neg (by simp), e]
  exact ih
theorem same_pages_f (l : List S130) (hl : l.length ≤ 1000000) : caulkref09_SamePages.f (l.length + 1) l l = some true := by
 unfold caulkref09_SamePages.f
 rw [if_pos rfl]
 exact same_pages l hl l.length 0 (by omega)
theorem bldR_len {sh gk gm gc : Int} {blob : ByteArray} (hb : blob.size ≤ 65536) {ats : List Int} : (bldR sh gk gm gc blob ats).1.length ≤ 1000000 := by
 unfold bldR
 by_cases h0 : (countP sh gk gm gc (blob.size : Int)).2 ≠ 0
 ·rw [if_pos h0]; simp
 rw [if_neg h0]
 have h00 : (countP sh gk gm gc (blob.size : Int)).2 = 0 := by simpa using h0
 obtain ⟨hg, _, _, hcn⟩ := countP_ok h00
 rw [hcn, Int.toNat_natCast]
 have hf := fanN_ge sh
 have hp := nS_pos sh
 obtain ⟨hs1, hs2⟩ := small_sum (f := fanN sh) (Z := 512 * nS sh) (n := blob.size) (by omega) (by omega) hb
 by_cases h1 : (ats.length : Int) ≠ 2 * (((lens (fanN sh) (512 * nS sh) blob.size).sum : Nat) : Int) ∨ ¬ AtsOk ats
 ·rw [if_pos h1]; simp
 ·rw [if_neg h1]
  have hlen := lens_cut (f := fanN sh) (show 1 ≤ 512 * nS sh by omega) blob
  obtain ⟨hc1, hc2⟩ := cut_small (show 512 ≤ 512 * nS sh by omega) hb
  have hbl := bldP_len (Z := 512 * nS sh) (f := fanN sh) (by omega) 3000 (cutS (512 * nS sh) (512 * nS sh) blob) ats [] hc2 (by rw [hlen]; omega)
  dsimp only
  rw [hbl, hlen, List.length_nil]; omega
def caulklaw09_PagesBuilds.Pure : Prop := True
set_option maxRecDepth 100000 in
set_option maxHeartbeats 16000000 in
theorem caulklaw09_PagesBuilds.walk (P : caulklaw09_PagesBuilds.Pure) (i0 i1 i2 i3 : Int) (s : ByteArray) (A : Option Addr) (k : Nat) (l : List Int) (n : Int) (w : World) (hT : TabAt w) (C1 : Kd.C (Kd.int .i64) w A l.length l) (g1 : l.length ≤ k) :
  Calls Tryd.prog 5 #[.agg #[.int .i64 i0, .int .i64 i1, .int .i64 i2, .int .i64 i3], .string s, .slice A l.length k, .int .i64 n] w fun e w' => e = .returned (.bool true) ∧ Below w.heap.size w w' := by
 have hu23 := Tryd.underlying23
 have hu26 := Tryd.underlying26
 have hb0 : Below w.heap.size w (w.alloc (.cells #[.int .i64 i0, .int .i64 i1, .int .i64 i2, .int .i64 i3] 23)) := (Below.refl _ w).alloc (Nat.le_refl _) _
 have hg0 := World.alloc_heap_new w (.cells #[.int .i64 i0, .int .i64 i1, .int .i64 i2, .int .i64 i3] 23)
 by_cases h1 : 65536 < s.size
 ·have d1 : decide (65536 < (s.size : Int)) = true := decide_eq_true (by omega)
  have hL := pages_lives_any (w.alloc (.cells #[.int .i64 i0, .int .i64 i1, .int .i64 i2, .int .i64 i3] 23)) (hT.below hb0)
  go_enter Tryd.func5, Tryd.ntmps5
  go_wp2_with (go_at_call 21; with_reducible refine hL.mono ?_)
  rintro e w1 ⟨rfl, hs1⟩
  go_wp2
  go_ret
  exact ⟨rfl, hb0.trans ((hs1.below (Nat.le_refl _) (fun _ h => h.elim)).mono hb0.size)⟩
 have d1 : decide (65536 < (s.size : Int)) = false := decide_eq_false (by omega)
 have hC1 := fun W => count_any i0 i1 i2 i3 n W
 have hC2 : ∀ W, Calls Tryd.prog 23 #[.agg #[.int .i64 i0, .int .i64 i1, .int .i64 i2, .int .i64 i3], .int .i64 n] W fun e w' => e = .returned (.tuple #[.int .i64 (countP i0 i1 i2 i3 n).1, .int .i64 (countP i0 i1 i2 i3 n).2]) ∧ Below W.heap.size W w' := fun W => by
  obtain ⟨d, K, h⟩ := ref_count i0 i1 i2 i3 n
  exact caulkref09_Count.calls (K + d) i0 i1 i2 i3 n _ _ W (h K (Nat.le_refl _))
 have hB1 : ∀ W, TabAt W → Kd.C (Kd.int .i64) W A l.length l → Calls Tryd.prog 24 #[.agg #[.int .i64 i0, .int .i64 i1, .int .i64 i2, .int .i64 i3], .string s, .slice A l.length k] W fun e w' => ∃ A' c', e = .returned (.tuple #[.slice A' (bldR i0 i1 i2 i3 s l).1.length c', .agg #[.int .i64 (bldR i0 i1 i2 i3 s l).2.1, .int .i64 (bldR i0 i1 i2 i3 s l).2.2.1, .int .u32 (bldR i0 i1 i2 i3 s l).2.2.2.1], .int .i64 (bldR i0 i1 i2 i3 s l).2.2.2.2]) ∧ (bldR i0 i1 i2 i3 s l).1.length ≤ c' ∧ Kd.R k130 130 w' W.heap.size (fun _ => True) (.slice A' (bldR i0 i1 i2 i3 s l).1.length c') (bldR i0 i1 i2 i3 s l).1 ∧ Below W.heap.size W w' := fun W hTW hC => by
  refine (build_any W hTW i0 i1 i2 i3 s (by omega) A k l hC g1 _ rfl).mono ?_
  rintro e w' ⟨v, rfl, hR, hB⟩
  obtain ⟨A', c', rfl, hc, _⟩ := Kd.R_reads hR
  exact ⟨A', c', rfl, hc, hR, hB⟩
 have hB2 : ∀ W, Kd.C (Kd.int .i64) W A l.length l → Calls Tryd.prog 25 #[.agg #[.int .i64 i0, .int .i64 i1, .int .i64 i2, .int .i64 i3], .string s, .slice A l.length k] W fun e w' => ∃ A' c', e = .returned (.tuple #[.slice A' (bldR i0 i1 i2 i3 s l).1.length c', .agg #[.int .i64 (bldR i0 i1 i2 i3 s l).2.1, .int .i64 (bldR i0 i1 i2 i3 s l).2.2.1, .int .u32 (bldR i0 i1 i2 i3 s l).2.2.2.1], .int .i64 (bldR i0 i1 i2 i3 s l).2.2.2.2]) ∧ (bldR i0 i1 i2 i3 s l).1.length ≤ c' ∧ Kd.R k130 130 w' W.heap.size (fun _ => True) (.slice A' (bldR i0 i1 i2 i3 s l).1.length c') (bldR i0 i1 i2 i3 s l).1 ∧ Below W.heap.size W w' := fun W hC => by
  obtain ⟨d, K, h⟩ := ref_build i0 i1 i2 i3 s (by omega) l
  refine (caulkref09_Build.calls (K + d) i0 i1 i2 i3 s A k l _ _ _ _ _ W hC g1 (h K (Nat.le_refl _))).mono ?_
  rintro e w' ⟨v, rfl, hR, hB⟩
  obtain ⟨A', c', rfl, hc, _⟩ := Kd.R_reads hR
  exact ⟨A', c', rfl, hc, hR, hB⟩
 have hRl := bldR_len (sh := i0) (gk := i1) (gm := i2) (gc := i3) (blob := s) (by omega) (ats := l)
 generalize countP i0 i1 i2 i3 n = cc at hC1 hC2
 generalize bldR i0 i1 i2 i3 s l = bb at hB1 hB2 hRl
 obtain ⟨c1, c2⟩ := cc
 obtain ⟨R, r2, r3, r4, r5⟩ := bb
 dsimp only at hC1 hC2 hB1 hB2 hRl
 have hSm := same_pages_f R hRl
 clear hRl h1
 go_enter Tryd.func5, Tryd.ntmps5
 go_upto_region 3 with (fail)
 generalize hW0 : w.alloc (.cells #[.int .i64 i0, .int .i64 i1, .int .i64 i2, .int .i64 i3] 23) = W0 at hb0 hg0 ⊢
 clear hW0
 obtain ⟨⟨a0, a1, a2, a3⟩, _⟩ := blk4 hg0
 go_wp2_with (go_at_call 22; with_reducible refine (hC1 _).mono ?_)
 rintro e w1 ⟨rfl, hb1⟩
 have k1 := Stepb hb1 hg0
 have hB3 := hb0.trans (hb1.mono hb0.size)
 clear a0 a1 a2 a3 hg0 hb0 hb1 hC1
 obtain ⟨⟨a0, a1, a2, a3⟩, _⟩ := blk4 k1
 go_wp2_with (go_at_call 23; with_reducible refine (hC2 _).mono ?_)
 rintro e w2 ⟨rfl, hb2⟩
 have k2 := Stepb hb2 k1
 replace hB3 := hB3.trans (hb2.mono hB3.size)
 have hT2 := hT.below hB3
 have hA2 := Kd.C_below C1 hB3
 clear a0 a1 a2 a3 k1 hb2 hC2
 obtain ⟨⟨a0, a1, a2, a3⟩, _⟩ := blk4 k2
 go_wp2_with (go_at_call 24; with_reducible refine (hB1 _ hT2 hA2).mono ?_)
 rintro e w3 ⟨lA, lc, rfl, hlc, hR3, hb3⟩
 have k3 := Stepb hb3 k2
 replace hB3 := hB3.trans (hb3.mono hB3.size)
 clear a0 a1 a2 a3 k2 hT2 hA2 hb3 hB1
 have ha3 : Below w3.heap.size w3 (w3.alloc (.cells #[.int .i64 r2, .int .i64 r3, .int .u32 r4] 26)) := (Below.refl _ _).alloc (Nat.le_refl _) _
 have x3 := World.alloc_heap_new w3 (.cells #[.int .i64 r2, .int .i64 r3, .int .u32 r4] 26)
 have k4 := Stepb ha3 k3
 have hR4 := Kd.R_below hR3 ha3
 replace hB3 := hB3.trans (ha3.mono hB3.size)
 have hA4 := Kd.C_below C1 hB3
 clear ha3 k3 hR3
 go_upto_region 6 with (fail)
 generalize w3.heap.size = g3 at x3 ⊢
 generalize w3.alloc (.cells #[.int .i64 r2, .int .i64 r3, .int .u32 r4] 26) = w4 at *
 obtain ⟨⟨a0, a1, a2, a3⟩, _⟩ := blk4 k4
 go_wp2_with (go_at_call 25; with_reducible refine (hB2 _ hA4).mono ?_)
 rintro e w5 ⟨mA, mc, rfl, hmc, hR5, hb5⟩
 have x5 := Stepb hb5 x3
 have hL5 := Kd.R_below hR4 hb5
 replace hB3 := hB3.trans (hb5.mono hB3.size)
 clear a0 a1 a2 a3 k4 hR4 hA4 hb5 hB2 x3
 have ha5 : Below w5.heap.size w5 (w5.alloc (.cells #[.int .i64 r2, .int .i64 r3, .int .u32 r4] 26)) := (Below.refl _ _).alloc (Nat.le_refl _) _
 have y6 := World.alloc_heap_new w5 (.cells #[.int .i64 r2, .int .i64 r3, .int .u32 r4] 26)
 have x6 := Stepb ha5 x5
 have hL6 := Kd.R_below hL5 ha5
 have hR6 := Kd.R_below hR5 ha5
 replace hB3 := hB3.trans (ha5.mono hB3.size)
 have hT6 := hT.below hB3
 clear ha5 x5 hL5 hR5
 go_upto_region 7 with (fail)
 generalize w5.heap.size = g5 at y6 ⊢
 generalize w5.alloc (.cells #[.int .i64 r2, .int .i64 r3, .int .u32 r4] 26) = w6 at *
 obtain ⟨z0, z1, z2⟩ := blk3 x6
 obtain ⟨v0, v1, v2⟩ := blk3 y6
 have hSj : Step (fun _ => False) w6 w6.drew := Step.drew _ _
 have hSame : ∀ W, Step (fun _ => False) w6 W → Calls Tryd.prog 26 #[.slice lA R.length lc, .slice mA R.length mc] W fun e w' => e = .returned (.bool true) ∧ Drawn0 W w' := fun W h => caulkref09_SamePages.calls (R.length + 1) lA lc R mA mc R true W (Kd.R_reads' (R130_step hL6 h (fun _ _ h => h))).2.2 hlc (Kd.R_reads' (R130_step hR6 h (fun _ _ h => h))).2.2 hmc hSm
 have hLv : ∀ W, Step (fun _ => False) w6 W → Calls Tryd.prog 21 #[] W fun e w' => e = .returned (.bool true) ∧ Step (fun _ => False) W w' := fun W h => pages_lives_any W (hT6.step h (fun h => h))
 go_wp2_with (go_at_call 21; with_reducible refine (hLv _ (Step.refl _ _)).mono ?_)
 rintro e w7 rfl hs7
 replace x6 := hs7.block x6 (fun h => h)
 replace y6 := hs7.block y6 (fun h => h)
 clear z0 z1 z2 v0 v1 v2 hSj
 have hSm7 := hSame w7 hs7
 go_wp2_with (go_at_call 26; with_reducible refine hSm7.mono ?_)
 rintro e w8 ⟨rfl, hd8⟩
 have hs8 := step2 hs7 (Step.of_below (S := fun _ => False) (drawn_below hd8))
 replace x6 := (Step.of_below (S := fun _ => False) (drawn_below hd8)).block x6 (fun h => h)
 replace y6 := (Step.of_below (S := fun _ => False) (drawn_below hd8)).block y6 (fun h => h)
 obtain ⟨z0, z1, z2⟩ := blk3 x6
 obtain ⟨v0, v1, v2⟩ := blk3 y6
 clear hSame hSm7 hd8 hLv
 go_wp2
 go_ret
 exact ⟨rfl, hB3.trans ((hs8.below (n₀ := w.heap.size) hB3.size (fun _ h => h.elim)))⟩
end
end Go.Proofs.YtmmfplogkikbjaaDoor.HPB
