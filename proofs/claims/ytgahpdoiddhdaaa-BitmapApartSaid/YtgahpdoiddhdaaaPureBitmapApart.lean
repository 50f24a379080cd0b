/- The plain law BitmapApart: what two uses have in common, and what one has alone, is what the document says; these are apart, and together all that one of both has. Conditions: none. -/
import Derived.Test.YtgahpdoiddhdaaaHBitmapx10
import Derived.Test.YtgahpdoiddhdaaaPKit
namespace Go.Proofs.Ytgahpdoiddhdaaa.Pure
open Go.RowKit Go.Proofs.Ytgahpdoiddhdaaa.HBitmap Go.Proofs.Ytgahpdoiddhdaaa.PKit Go.Proofs.YtgahpdoiddhdaaaW.PrintWords Go.Proofs.YtgahpdoiddhdaaaW.PrintLast
set_option linter.unusedSimpArgs false
set_option linter.unusedVariables false

theorem drop_eq_iff {α : Type} {a b : List α} {n : Nat} (ha : n < a.length) (hb : n < b.length) : a.drop n = b.drop n ↔ a[n] = b[n] ∧ a.drop (n + 1) = b.drop (n + 1) := by
  rw [List.drop_eq_getElem_cons ha, List.drop_eq_getElem_cons hb, List.cons.injEq]

theorem same_l0 (a b : List Bool) (hl : a.length = b.length) (hm : a.length < 4611686018427387904) : ∀ (d n : Nat), n + d = a.length → Ev (fun k => caulkref12_Same.l0 k a b (a.length : Int) (n : Int)) (decide (a.drop n = b.drop n))
  | 0, n, hn => by
    refine Ev.step (fun k => rfl) ?_
    simp only [caulkref12_Same.l0]
    refine Ev.neg (by omega) (Ev.some_ ?_)
    rw [List.drop_of_length_le (by omega), List.drop_of_length_le (by omega)]
    simp
  | d + 1, n, hn => by
    refine Ev.step (fun k => rfl) ?_
    simp only [caulkref12_Same.l0]
    refine Ev.pos (by omega) (Ev.pos (by omega) (Ev.pos (by omega) (Ev.pos (by omega) ?_)))
    have ha : n < a.length := by omega
    have hb : n < b.length := by omega
    rw [rdOf_nat, rdOf_nat, getD_lt _ ha, getD_lt _ hb]
    by_cases h : a[n] = b[n]
    · refine Ev.neg (by simp [h]) ?_
      rw [wrap_succ (by omega)]
      refine Ev.value (same_l0 a b hl hm d (n + 1) (by omega)) ?_
      simp only [drop_eq_iff ha hb, h, true_and]
    · refine Ev.pos (by simpa using h) (Ev.some_ ?_)
      simp only [drop_eq_iff ha hb, h, false_and, decide_false]

theorem same_ev (a b : List Bool) (hm : a.length < 4611686018427387904) : Ev (fun k => caulkref12_Same.f k a b) (decide (a = b)) := by
  simp only [caulkref12_Same.f]
  by_cases hl : a.length = b.length
  · refine Ev.pos (by omega) ?_
    exact Ev.value (same_l0 a b hl hm a.length 0 (by omega)) (by simp)
  · refine Ev.neg (by omega) (Ev.some_ ?_)
    have : a ≠ b := fun e => hl (by rw [e])
    simp [this]

/-- Two lists of one length, cell by cell, from the n-th on laid over x. -/
theorem set_zip (F : Bool → Bool → Bool) (a b x : List Bool) (n : Nat) (ha : n < a.length) (hb : n < b.length) (hx : x = (List.zipWith F a b).take n ++ List.replicate (a.length - n) false) (hl : a.length = b.length) :
    x.set n (F a[n] b[n]) = (List.zipWith F a b).take (n + 1) ++ List.replicate (a.length - (n + 1)) false := by
  subst hx
  have hz : n < (List.zipWith F a b).length := by simp; omega
  have ht : ((List.zipWith F a b).take n).length = n := by simp; omega
  rw [List.set_append_right _ _ (by omega), ht, Nat.sub_self, List.take_succ_eq_append_getElem hz, List.append_assoc]
  congr 1
  have : a.length - n = (a.length - (n + 1)) + 1 := by omega
  rw [this, List.replicate_succ]
  simp

/-- What 'both' comes to. -/
def zipB (F : Bool → Bool → Bool) (a b : List Bool) : List Bool × Int := if a.length = b.length then (List.zipWith F a b, 0) else ([], 2)

theorem zip_end (F : Bool → Bool → Bool) (a b x : List Bool) (n : Nat) (hn : n = a.length) (hl : a.length = b.length) (hx : x = (List.zipWith F a b).take n ++ List.replicate (a.length - n) false) : x = List.zipWith F a b := by
  subst hx
  rw [hn, Nat.sub_self, List.replicate_zero, List.append_nil, List.take_of_length_le (by simp; omega)]

theorem zip_len (F : Bool → Bool → Bool) (a b x : List Bool) (n : Nat) (hn : n ≤ a.length) (hl : a.length = b.length) (hx : x = (List.zipWith F a b).take n ++ List.replicate (a.length - n) false) : x.length = a.length := by
  subst hx
  simp
  omega

theorem and_l0 (a b : List Bool) (hl : a.length = b.length) (hm : a.length < 4611686018427387904) : ∀ (d n : Nat) (x : List Bool), n + d = a.length → x = (List.zipWith (fun p q => p && q) a b).take n ++ List.replicate (a.length - n) false →
    Ev (fun k => bitmap_both__bitmap_And_1.l0 k b x a (a.length : Int) (n : Int)) (List.zipWith (fun p q => p && q) a b, 0)
  | 0, n, x, hn, hx => by
    refine Ev.step (fun k => rfl) ?_
    simp only [bitmap_both__bitmap_And_1.l0]
    refine Ev.neg (by omega) (Ev.some_ ?_)
    rw [zip_end _ a b x n (by omega) hl hx]
  | d + 1, n, x, hn, hx => by
    refine Ev.step (fun k => rfl) ?_
    simp only [bitmap_both__bitmap_And_1.l0]
    have ha : n < a.length := by omega
    have hb : n < b.length := by omega
    have hxl := zip_len _ a b x n (by omega) hl hx
    refine Ev.pos (by omega) (Ev.pos (by omega) (Ev.pos (by omega) (Ev.pos (by omega) (Ev.bind (a := (a[n] && b[n])) ?_ (Ev.pos (by omega) ?_)))))
    · rw [rdOf_nat, rdOf_nat, getD_lt _ ha, getD_lt _ hb]
      unfold bitmap_And_1.f
      cases a[n] <;> exact Ev.now _
    · rw [wrap_succ (by omega)]
      exact and_l0 a b hl hm d (n + 1) _ (by omega) (set_zip (fun p q => p && q) a b x n ha hb hx hl)

theorem and_ev (a b : List Bool) (hm : a.length ≤ 281474976710656) : Ev (fun k => bitmap_And.f k a b) (zipB (fun p q => p && q) a b) := by
  simp only [bitmap_And.f]
  refine Ev.bind (a := zipB (fun p q => p && q) a b) ?_ (Ev.now _)
  simp only [bitmap_both__bitmap_And_1.f, zipB]
  by_cases hl : a.length = b.length
  · rw [if_pos hl]
    refine Ev.pos (by omega) (Ev.pos (by omega) (Ev.pos (by omega) ?_))
    exact and_l0 a b hl (by omega) a.length 0 _ (by omega) (by simp)
  · rw [if_neg hl]
    exact Ev.neg (by omega) (Ev.now _)

theorem only_l0 (a b : List Bool) (hl : a.length = b.length) (hm : a.length < 4611686018427387904) : ∀ (d n : Nat) (x : List Bool), n + d = a.length → x = (List.zipWith (fun p q => p && !q) a b).take n ++ List.replicate (a.length - n) false →
    Ev (fun k => bitmap_both__bitmap_Only_1.l0 k b x a (a.length : Int) (n : Int)) (List.zipWith (fun p q => p && !q) a b, 0)
  | 0, n, x, hn, hx => by
    refine Ev.step (fun k => rfl) ?_
    simp only [bitmap_both__bitmap_Only_1.l0]
    refine Ev.neg (by omega) (Ev.some_ ?_)
    rw [zip_end _ a b x n (by omega) hl hx]
  | d + 1, n, x, hn, hx => by
    refine Ev.step (fun k => rfl) ?_
    simp only [bitmap_both__bitmap_Only_1.l0]
    have ha : n < a.length := by omega
    have hb : n < b.length := by omega
    have hxl := zip_len _ a b x n (by omega) hl hx
    refine Ev.pos (by omega) (Ev.pos (by omega) (Ev.pos (by omega) (Ev.pos (by omega) (Ev.bind (a := (a[n] && !b[n])) ?_ (Ev.pos (by omega) ?_)))))
    · rw [rdOf_nat, rdOf_nat, getD_lt _ ha, getD_lt _ hb]
      unfold bitmap_Only_1.f
      cases a[n] <;> exact Ev.now _
    · rw [wrap_succ (by omega)]
      exact only_l0 a b hl hm d (n + 1) _ (by omega) (set_zip (fun p q => p && !q) a b x n ha hb hx hl)

theorem only_ev (a b : List Bool) (hm : a.length ≤ 281474976710656) : Ev (fun k => bitmap_Only.f k a b) (zipB (fun p q => p && !q) a b) := by
  simp only [bitmap_Only.f]
  refine Ev.bind (a := zipB (fun p q => p && !q) a b) ?_ (Ev.now _)
  simp only [bitmap_both__bitmap_Only_1.f, zipB]
  by_cases hl : a.length = b.length
  · rw [if_pos hl]
    refine Ev.pos (by omega) (Ev.pos (by omega) (Ev.pos (by omega) ?_))
    exact only_l0 a b hl (by omega) a.length 0 _ (by omega) (by simp)
  · rw [if_neg hl]
    exact Ev.neg (by omega) (Ev.now _)

theorem rand_l0 (a b : List Bool) (hl : a.length = b.length) (hm : a.length < 4611686018427387904) : ∀ (d n : Nat) (x : List Bool), n + d = a.length → x = (List.zipWith (fun p q => p && q) a b).take n ++ List.replicate (a.length - n) false →
    Ev (fun k => caulkref39_And.l0 k a b x (a.length : Int) (n : Int)) (List.zipWith (fun p q => p && q) a b, 0)
  | 0, n, x, hn, hx => by
    refine Ev.step (fun k => rfl) ?_
    simp only [caulkref39_And.l0]
    refine Ev.neg (by omega) (Ev.some_ ?_)
    rw [zip_end _ a b x n (by omega) hl hx]
  | d + 1, n, x, hn, hx => by
    refine Ev.step (fun k => rfl) ?_
    simp only [caulkref39_And.l0]
    have ha : n < a.length := by omega
    have hb : n < b.length := by omega
    have hxl := zip_len _ a b x n (by omega) hl hx
    have ih := rand_l0 a b hl hm d (n + 1) _ (by omega) (set_zip (fun p q => p && q) a b x n ha hb hx hl)
    refine Ev.pos (by omega) (Ev.pos (by omega) (Ev.pos (by omega) ?_))
    rw [rdOf_nat, rdOf_nat, getD_lt _ ha, getD_lt _ hb, wrap_succ (by omega)]
    cases h : a[n] with
    | true =>
      rw [h, Bool.true_and] at ih
      exact Ev.pos rfl (Ev.pos (by omega) (Ev.pos (by omega) ih))
    | false =>
      rw [h, Bool.false_and] at ih
      exact Ev.neg (by decide) (Ev.pos (by omega) ih)

theorem rand_ev (a b : List Bool) (hm : a.length ≤ 281474976710656) : Ev (fun k => caulkref39_And.f k a b) (zipB (fun p q => p && q) a b) := by
  simp only [caulkref39_And.f, zipB]
  by_cases hl : a.length = b.length
  · rw [if_pos hl]
    refine Ev.pos (by omega) (Ev.pos (by omega) (Ev.pos (by omega) ?_))
    exact rand_l0 a b hl (by omega) a.length 0 _ (by omega) (by simp)
  · rw [if_neg hl]
    exact Ev.neg (by omega) (Ev.now _)

theorem ronly_l0 (a b : List Bool) (hl : a.length = b.length) (hm : a.length < 4611686018427387904) : ∀ (d n : Nat) (x : List Bool), n + d = a.length → x = (List.zipWith (fun p q => p && !q) a b).take n ++ List.replicate (a.length - n) false →
    Ev (fun k => caulkref39_Only.l0 k a b x (a.length : Int) (n : Int)) (List.zipWith (fun p q => p && !q) a b, 0)
  | 0, n, x, hn, hx => by
    refine Ev.step (fun k => rfl) ?_
    simp only [caulkref39_Only.l0]
    refine Ev.neg (by omega) (Ev.some_ ?_)
    rw [zip_end _ a b x n (by omega) hl hx]
  | d + 1, n, x, hn, hx => by
    refine Ev.step (fun k => rfl) ?_
    simp only [caulkref39_Only.l0]
    have ha : n < a.length := by omega
    have hb : n < b.length := by omega
    have hxl := zip_len _ a b x n (by omega) hl hx
    have ih := ronly_l0 a b hl hm d (n + 1) _ (by omega) (set_zip (fun p q => p && !q) a b x n ha hb hx hl)
    refine Ev.pos (by omega) (Ev.pos (by omega) (Ev.pos (by omega) ?_))
    rw [rdOf_nat, rdOf_nat, getD_lt _ ha, getD_lt _ hb, wrap_succ (by omega)]
    cases h : a[n] with
    | true =>
      rw [h, Bool.true_and] at ih
      exact Ev.pos rfl (Ev.pos (by omega) (Ev.pos (by omega) ih))
    | false =>
      rw [h, Bool.false_and] at ih
      exact Ev.neg (by decide) (Ev.pos (by omega) ih)

theorem ronly_ev (a b : List Bool) (hm : a.length ≤ 281474976710656) : Ev (fun k => caulkref39_Only.f k a b) (zipB (fun p q => p && !q) a b) := by
  simp only [caulkref39_Only.f, zipB]
  by_cases hl : a.length = b.length
  · rw [if_pos hl]
    refine Ev.pos (by omega) (Ev.pos (by omega) (Ev.pos (by omega) ?_))
    exact ronly_l0 a b hl (by omega) a.length 0 _ (by omega) (by simp)
  · rw [if_neg hl]
    exact Ev.neg (by omega) (Ev.now _)

/-- The last loop: at each place just one of the three, if one of both has it. -/
theorem apart_l0 (a b : List Bool) (hl : a.length = b.length) (hm : a.length < 4611686018427387904) : ∀ (d n : Nat), n + d = a.length →
    Ev (fun k => caulklaw39_BitmapApart.l0 k a b (List.zipWith (fun p q => p && q) a b) (List.zipWith (fun p q => p && !q) a b) (List.zipWith (fun p q => p && !q) b a) (a.length : Int) (n : Int)) true
  | 0, n, hn => by
    refine Ev.step (fun k => rfl) ?_
    simp only [caulklaw39_BitmapApart.l0]
    exact Ev.neg (by omega) (Ev.now _)
  | d + 1, n, hn => by
    have ha : n < a.length := by omega
    have hb : n < b.length := by omega
    have ih := apart_l0 a b hl hm d (n + 1) (by omega)
    have h1 : (List.zipWith (fun p q => p && q) a b).length = a.length := by simp; omega
    have h2 : (List.zipWith (fun p q => p && !q) a b).length = a.length := by simp; omega
    have h3 : (List.zipWith (fun p q => p && !q) b a).length = a.length := by simp; omega
    have g1 : (List.zipWith (fun p q => p && q) a b).getD n false = (a[n] && b[n]) := by rw [getD_lt _ (by omega), List.getElem_zipWith]
    have g2 : (List.zipWith (fun p q => p && !q) a b).getD n false = (a[n] && !b[n]) := by rw [getD_lt _ (by omega), List.getElem_zipWith]
    have g3 : (List.zipWith (fun p q => p && !q) b a).getD n false = (b[n] && !a[n]) := by rw [getD_lt _ (by omega), List.getElem_zipWith]
    refine Ev.step (fun k => rfl) ?_
    simp only [caulklaw39_BitmapApart.l0]
    refine Ev.pos (by omega) (Ev.pos (by omega) (Ev.pos (by omega) (Ev.pos (by omega) (Ev.pos (by omega) (Ev.let_ ?_)))))
    rw [rdOf_nat, rdOf_nat, rdOf_nat, g1, g2, g3]
    generalize hx : List.zipWith (fun p q => p && q) a b = x at ih ⊢
    generalize hy : List.zipWith (fun p q => p && !q) a b = y at ih ⊢
    generalize hz : List.zipWith (fun p q => p && !q) b a = z at ih ⊢
    have hra : rdOf false a (n : Int) = a[n] := by rw [rdOf_nat, getD_lt _ ha]
    have hrb : rdOf false b (n : Int) = b[n] := by rw [rdOf_nat, getD_lt _ hb]
    have w0 : wrap64 ((n : Int) + 1) = ((n + 1 : Nat) : Int) := wrap_succ (by omega)
    have k0 : wrap64 (0 + 1) = 1 := wrap_in (by omega) (by omega)
    have k1 : wrap64 (1 + 1) = 2 := wrap_in (by omega) (by omega)
    have k2 : wrap64 (2 + 1) = 3 := wrap_in (by omega) (by omega)
    have r0 : ∀ p q r : Bool, rdOf false [p, q, r] 0 = p := fun _ _ _ => rfl
    have r1 : ∀ p q r : Bool, rdOf false [p, q, r] 1 = q := fun _ _ _ => rfl
    have r2 : ∀ p q r : Bool, rdOf false [p, q, r] 2 = r := fun _ _ _ => rfl
    have han : (n : Int) < (a.length : Int) := by omega
    have hbn : (n : Int) < (b.length : Int) := by omega
    have h0n : (0 : Int) ≤ (n : Int) := by omega
    refine Ev.step (fun k => rfl) ?_
    simp only [caulklaw39_BitmapApart.l1, List.length_cons, List.length_nil, r0]
    cases hA : a[n] <;> cases hB : b[n] <;> simp only [hA, hB] at hra hrb ⊢
    all_goals
      simp only [Bool.and_true, Bool.and_false, Bool.true_and, Bool.false_and, Bool.not_true, Bool.not_false, if_true, Bool.false_eq_true, if_false, k0]
      refine Ev.pos (by decide) (Ev.pos (by decide) (Ev.pos (by decide) ?_))
      refine Ev.step (fun k => rfl) ?_
      simp only [caulklaw39_BitmapApart.l1, List.length_cons, List.length_nil, r1, if_true, Bool.false_eq_true, if_false, k0, k1]
      refine Ev.pos (by decide) (Ev.pos (by decide) (Ev.pos (by decide) ?_))
      refine Ev.step (fun k => rfl) ?_
      simp only [caulklaw39_BitmapApart.l1, List.length_cons, List.length_nil, r2, if_true, Bool.false_eq_true, if_false, k0, k1, k2]
      refine Ev.pos (by decide) (Ev.pos (by decide) (Ev.pos (by decide) ?_))
      refine Ev.step (fun k => rfl) ?_
      simp only [caulklaw39_BitmapApart.l1, List.length_cons, List.length_nil, hra, hrb, w0, if_true, Bool.false_eq_true, if_false]
      refine Ev.neg (by decide) (Ev.neg (by decide) (Ev.pos h0n (Ev.pos han ?_)))
    · exact Ev.pos hbn (Ev.neg (by decide) ih)
    · exact Ev.pos hbn (Ev.neg (by decide) ih)
    · exact Ev.neg (by decide) ih
    · exact Ev.neg (by decide) ih

theorem BitmapApart : caulklaw39_BitmapApart.Pure := by
  intro a b ha hb
  refine Ev.rounds ?_
  simp only [caulklaw39_BitmapApart.f, caulklaw39_lives.f]
  refine Ev.let_ (Ev.pos (by simp) ?_)
  by_cases h1 : (a.length : Int) > 5000
  · refine Ev.pos h1 (Ev.step (fun k => rfl) ?_)
    simp only [caulklaw39_BitmapApart.j0]
    exact Ev.pos (by simp) (Ev.now _)
  refine Ev.neg h1 (Ev.step (fun k => rfl) ?_)
  simp only [caulklaw39_BitmapApart.j0]
  by_cases h2 : (b.length : Int) > 5000
  · exact Ev.pos (by simpa using h2) (Ev.now _)
  refine Ev.neg (by simpa using h2) ?_
  refine Ev.bind (and_ev a b (by omega)) (Ev.bind (only_ev a b (by omega)) (Ev.bind (only_ev b a (by omega)) (Ev.bind (rand_ev a b (by omega)) (Ev.bind (ronly_ev a b (by omega)) ?_))))
  refine Ev.pos (by simp) (Ev.pos (by simp) (Ev.bind (same_ev _ _ ?_) ?_))
  · unfold zipB
    split <;> simp <;> omega
  refine Ev.pos (by simp) (Ev.bind (same_ev _ _ ?_) ?_)
  · unfold zipB
    split <;> simp <;> omega
  refine Ev.step (fun k => rfl) ?_
  simp only [caulklaw39_BitmapApart.j1]
  refine Ev.neg (by simp) ?_
  unfold zipB
  by_cases hl : a.length = b.length
  · refine Ev.pos (by omega) ?_
    simp only [if_pos hl, if_pos hl.symm]
    refine Ev.pos (by simp) (Ev.pos (by simp; omega) (Ev.pos (by simp; omega) ?_))
    refine Ev.step (fun k => rfl) ?_
    simp only [caulklaw39_BitmapApart.j2]
    refine Ev.neg (by simp; omega) ?_
    exact apart_l0 a b hl (by omega) a.length 0 (by omega)
  · refine Ev.neg (by omega) ?_
    rw [if_neg (fun e => hl e.symm)]
    exact Ev.now _

end Go.Proofs.Ytgahpdoiddhdaaa.Pure
