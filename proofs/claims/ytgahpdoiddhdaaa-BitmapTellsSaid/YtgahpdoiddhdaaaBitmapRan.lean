/- What the functions on places, ranges of them, and uses of ranges come to, of the program and of the document alike, as plain functions. Conditions: none. -/
import Derived.Test.YtgahpdoiddhdaaaBitmapLem
import Derived.Lib.SlicesCompact
namespace Go.Proofs.Ytgahpdoiddhdaaa.BitmapLem
open Go.RowKit Go.Proofs.Ytgahpdoiddhdaaa.HBitmap Go.Proofs.Ytgahpdoiddhdaaa.PKit Go.Proofs.YtgahpdoiddhdaaaW.PrintWords Go.Proofs.YtgahpdoiddhdaaaW.PrintLast Go.Proofs.YtgahpdoiddhdaaaW.PrintMore
set_option linter.unusedSimpArgs false
set_option linter.unusedVariables false

/-! ### two uses compared -/
theorem drop_eq_iff {α : Type} {a b : List α} {n : Nat} (ha : n < a.length) (hb : n < b.length) : a.drop n = b.drop n ↔ a[n] = b[n] ∧ a.drop (n + 1) = b.drop (n + 1) := by
  rw [List.drop_eq_getElem_cons ha, List.drop_eq_getElem_cons hb, List.cons.injEq]

theorem same_l0 (a b : List Bool) (hl : a.length = b.length) (hm : a.length < 4611686018427387904) : ∀ (d n : Nat), n + d = a.length → Ev (fun k => caulkref12_Same.l0 k a b (a.length : Int) (n : Int)) (decide (a.drop n = b.drop n))
  | 0, n, hn => by
    refine Ev.step (fun k => rfl) ?_
    simp only [caulkref12_Same.l0]
    refine Ev.neg (by omega) (Ev.some_ ?_)
    rw [List.drop_of_length_le (by omega), List.drop_of_length_le (by omega)]
    simp
  | d + 1, n, hn => by
    refine Ev.step (fun k => rfl) ?_
    simp only [caulkref12_Same.l0]
    refine Ev.pos (by omega) (Ev.pos (by omega) (Ev.pos (by omega) (Ev.pos (by omega) ?_)))
    have ha : n < a.length := by omega
    have hb : n < b.length := by omega
    rw [rdOf_nat, rdOf_nat, getD_lt _ ha, getD_lt _ hb]
    by_cases h : a[n] = b[n]
    · refine Ev.neg (by simp [h]) ?_
      rw [wrap_succ (by omega)]
      refine Ev.value (same_l0 a b hl hm d (n + 1) (by omega)) ?_
      simp only [drop_eq_iff ha hb, h, true_and]
    · refine Ev.pos (by simpa using h) (Ev.some_ ?_)
      simp only [drop_eq_iff ha hb, h, false_and, decide_false]

theorem same_ev (a b : List Bool) (hm : a.length < 4611686018427387904) : Ev (fun k => caulkref12_Same.f k a b) (decide (a = b)) := by
  simp only [caulkref12_Same.f]
  by_cases hl : a.length = b.length
  · refine Ev.pos (by omega) ?_
    exact Ev.value (same_l0 a b hl hm a.length 0 (by omega)) (by simp)
  · refine Ev.neg (by omega) (Ev.some_ ?_)
    have : a ≠ b := fun e => hl (by rw [e])
    simp [this]


/-! ### the places of what is used -/
def usedN (a : List Bool) (n : Nat) : List Int := List.map (fun i : Nat => (i : Int)) ((List.range n).filter fun i => a.getD i false)
theorem usedN_succ (a : List Bool) (n : Nat) : usedN a (n + 1) = usedN a n ++ (if a.getD n false then [(n : Int)] else []) := by
  unfold usedN
  rw [List.range_succ, List.filter_append, List.map_append]
  congr 1
  rw [List.filter_cons, List.filter_nil]
  by_cases h : a.getD n false = true
  · rw [if_pos h, if_pos h]; rfl
  · rw [if_neg h, if_neg h]; rfl
theorem usedN_len (a : List Bool) (n : Nat) : (usedN a n).length ≤ n := by
  unfold usedN
  rw [List.length_map]
  exact Nat.le_trans (List.length_filter_le _ _) (by simp)
theorem usedN_mem (a : List Bool) (n : Nat) (x : Int) : x ∈ usedN a n ↔ ∃ i : Nat, x = i ∧ i < n ∧ a.getD i false = true := by
  unfold usedN
  simp only [List.mem_map, List.mem_filter, List.mem_range]
  constructor
  · rintro ⟨i, ⟨h1, h2⟩, rfl⟩; exact ⟨i, rfl, h1, h2⟩
  · rintro ⟨i, rfl, h1, h2⟩; exact ⟨i, ⟨h1, h2⟩, rfl⟩
theorem usedN_rises (a : List Bool) : ∀ n, (usedN a n).Pairwise (· < ·)
  | 0 => List.Pairwise.nil
  | n + 1 => by
    rw [usedN_succ]
    refine List.pairwise_append.2 ⟨usedN_rises a n, ?_, fun x hx y hy => ?_⟩
    · split
      · exact List.pairwise_singleton _ _
      · exact List.Pairwise.nil
    · obtain ⟨i, rfl, hi, _⟩ := (usedN_mem a n x).1 hx
      split at hy
      · rw [List.mem_singleton.1 hy]; omega
      · cases hy

theorem places_l0 (a : List Bool) (hm : a.length < 17592186044416) : ∀ (d n : Nat), n + d = a.length →
    Ev (fun k => bitmap_places_bool__bitmap_Ranges_1.l0 k (usedN a n) a (a.length : Int) (n : Int)) (usedN a a.length)
  | 0, n, hn => by
    refine Ev.step (fun k => rfl) ?_
    simp only [bitmap_places_bool__bitmap_Ranges_1.l0]
    exact Ev.neg (by omega) (Ev.some_ (by rw [show n = a.length by omega]))
  | d + 1, n, hn => by
    have ih := places_l0 a hm d (n + 1) (by omega)
    rw [usedN_succ] at ih
    refine Ev.step (fun k => rfl) ?_
    simp only [bitmap_places_bool__bitmap_Ranges_1.l0, bitmap_Ranges_1.f]
    refine Ev.pos (by omega) (Ev.pos (by omega) (Ev.pos (by omega) (Ev.let_ ?_)))
    rw [rdOf_nat, wrap_succ (by omega)]
    by_cases h : a.getD n false = true
    · rw [if_pos h] at ih
      exact Ev.pos h (Ev.pos (by have := usedN_len a n; omega) ih)
    · rw [if_neg h, List.append_nil] at ih
      exact Ev.neg h ih
theorem rused_l0 (a : List Bool) (hm : a.length < 17592186044416) : ∀ (d n : Nat), n + d = a.length →
    Ev (fun k => caulkref12_Used.l0 k (usedN a n) a (a.length : Int) (n : Int)) (usedN a a.length)
  | 0, n, hn => by
    refine Ev.step (fun k => rfl) ?_
    simp only [caulkref12_Used.l0]
    exact Ev.neg (by omega) (Ev.some_ (by rw [show n = a.length by omega]))
  | d + 1, n, hn => by
    have ih := rused_l0 a hm d (n + 1) (by omega)
    rw [usedN_succ] at ih
    refine Ev.step (fun k => rfl) ?_
    simp only [caulkref12_Used.l0]
    refine Ev.pos (by omega) (Ev.pos (by omega) (Ev.pos (by omega) ?_))
    rw [rdOf_nat, wrap_succ (by omega)]
    by_cases h : a.getD n false = true
    · rw [if_pos h] at ih
      exact Ev.pos h (Ev.pos (by have := usedN_len a n; omega) ih)
    · rw [if_neg h, List.append_nil] at ih
      exact Ev.neg h ih

/-! ### ranges of numbers that rise -/
def stepR (out : List S39) (b : Int) : List S39 :=
  if 0 < out.length ∧ (out.getD (out.length - 1) z39).f1 = b then out.set (out.length - 1) ⟨(out.getD (out.length - 1) z39).f0, wrap64 (b + 1)⟩ else out ++ [⟨b, wrap64 (b + 1)⟩]
theorem stepR_len (out : List S39) (b : Int) : out.length ≤ (stepR out b).length ∧ (stepR out b).length ≤ out.length + 1 ∧ 0 < (stepR out b).length := by
  unfold stepR
  split
  · rename_i h; simp; omega
  · simp
theorem rdT_nat (xs : List S39) (n : Nat) : rd_T39 xs (n : Int) = xs.getD n z39 := by simp [rd_T39]

theorem merge_l0 (l : List Int) (hm : l.length < 8796093022208) : ∀ (d n : Nat) (x : List S39), n + d = l.length → x.length ≤ n →
    Ev (fun k => span_Merge.l0 k x l (l.length : Int) (n : Int)) ((l.drop n).foldl stepR x)
  | 0, n, x, hn, hx => by
    refine Ev.step (fun k => rfl) ?_
    simp only [span_Merge.l0]
    exact Ev.neg (by omega) (Ev.some_ (by rw [List.drop_of_length_le (by omega)]; rfl))
  | d + 1, n, x, hn, hx => by
    have hl : n < l.length := by omega
    have hs := stepR_len x l[n]
    have ih := merge_l0 l hm d (n + 1) (stepR x l[n]) (by omega) (by omega)
    rw [List.drop_eq_getElem_cons hl, List.foldl_cons]
    refine Ev.step (fun k => rfl) ?_
    simp only [span_Merge.l0]
    refine Ev.pos (by omega) (Ev.pos (by omega) (Ev.pos (by omega) ?_))
    rw [rd_nat, getD_lt _ hl, wrap_succ (by omega)]
    by_cases h0 : 0 < x.length
    · have e : wrap64 ((x.length : Int) - 1) = ((x.length - 1 : Nat) : Int) := by rw [wrap_in (by omega) (by omega)]; omega
      rw [e, rdT_nat]
      refine Ev.pos (by omega) (Ev.pos (by omega) (Ev.pos (by omega) ?_))
      by_cases h1 : (x.getD (x.length - 1) z39).f1 = l[n]
      · have e2 : stepR x l[n] = x.set (x.length - 1) ⟨(x.getD (x.length - 1) z39).f0, wrap64 (l[n] + 1)⟩ := by unfold stepR; rw [if_pos ⟨h0, h1⟩]
        rw [e2] at ih
        refine Ev.pos h1 ?_
        rw [h1, e2, Int.toNat_natCast]
        exact ih
      · have e2 : stepR x l[n] = x ++ [⟨l[n], wrap64 (l[n] + 1)⟩] := by unfold stepR; rw [if_neg (fun h => h1 h.2)]
        rw [e2] at ih
        refine Ev.neg h1 (Ev.pos (by omega) ?_)
        rw [e2]
        exact ih
    · have e2 : stepR x l[n] = x ++ [⟨l[n], wrap64 (l[n] + 1)⟩] := by unfold stepR; rw [if_neg (fun h => h0 h.1)]
      rw [e2] at ih
      refine Ev.neg (by omega) (Ev.pos (by omega) ?_)
      rw [e2]
      exact ih

theorem sortI_rises (l : List Int) (h : l.Pairwise (· < ·)) : sortI l = l :=
  List.Perm.eq_of_pairwise (fun a b _ _ h1 h2 => Int.le_antisymm h1 h2) (sortI_sorted l) (h.imp (fun h => Int.le_of_lt h)) (sortI_perm l)
theorem compact_rises (l : List Int) (h : l.Pairwise (· < ·)) : Lib.compact l = l := by
  unfold Lib.compact
  rw [Lib.compactUpTo_all]
  · have := Lib.range_map_get l.toArray
    simpa using this
  · intro j hj
    unfold Lib.keeps
    by_cases h0 : j = 0
    · simp [h0]
    · have := List.pairwise_iff_getElem.1 h (j - 1) j (by omega) hj (by omega)
      have h1 : l.toArray[j]! = l[j] := by simp [hj]
      have h2 : l.toArray[j - 1]! = l[j - 1] := by
        rw [getElem!_pos l.toArray (j - 1) (by simp; omega)]; simp
      simp only [h1, h2, decide_eq_true_eq]
      right
      omega
theorem merge_ev (l : List Int) (hm : l.length < 8796093022208) (h : l.Pairwise (· < ·)) : Ev (fun k => span_Merge.f k l) (l.foldl stepR []) := by
  simp only [span_Merge.f, slices_Clone_int_int.f, slices_Sort_int_int.f, slices_Compact_int_int.f]
  rw [if_pos (by omega)]
  refine Ev.let_ ?_
  rw [if_pos (by omega), sortI_rises l h]
  refine Ev.let_ ?_
  rw [compact_rises l h]
  exact Ev.let_ (merge_l0 l hm l.length 0 [] (by omega) (by simp))

/-! ### the document's -/
theorem ins_l1 (l x : List Int) (b : Int) (n : Nat) (r : List S39) (hx : x.length < 8796093022208) (hlt : ∀ y ∈ x, y < b) (hn : n < 9223372036854775807)
    (hr : Ev (fun k => caulkref19_Merge.l0 k (x ++ [b]) l (l.length : Int) (wrap64 ((n : Int) + 1))) r) : ∀ (d m : Nat), m + d = x.length →
    Ev (fun k => caulkref19_Merge.l1 k x b (m : Int) l (l.length : Int) (n : Int)) r
  | 0, m, hm => by
    have e : m = x.length := by omega
    subst e
    refine Ev.step (fun k => rfl) ?_
    simp only [caulkref19_Merge.l1]
    refine Ev.neg (by omega) (Ev.let_ (Ev.pos (by omega) (Ev.pos (by omega) (Ev.let_ ?_))))
    rw [Int.toNat_natCast, List.take_length, List.nil_append]
    refine Ev.pos (by simp; omega) (Ev.let_ (Ev.pos (by omega) (Ev.let_ (Ev.let_ ?_))))
    rw [List.drop_length, List.append_nil]
    exact Ev.pos (by simp; omega) hr
  | d + 1, m, hm => by
    have ih := ins_l1 l x b n r hx hlt hn hr d (m + 1) (by omega)
    have hl : m < x.length := by omega
    refine Ev.step (fun k => rfl) ?_
    simp only [caulkref19_Merge.l1]
    refine Ev.pos (by omega) (Ev.pos (by omega) ?_)
    rw [rd_nat, getD_lt _ hl, wrap_succ (n := m) (by omega)]
    exact Ev.pos (hlt _ (List.getElem_mem hl)) ih

theorem rmerge_l2 (l : List Int) (hm : l.length < 8796093022208) : ∀ (d n : Nat) (x : List S39), n + d = l.length → x.length ≤ n → (0 < n → 0 < x.length) →
    Ev (fun k => caulkref19_Merge.l2 k x l (l.length : Int) (n : Int)) ((l.drop n).foldl stepR x)
  | 0, n, x, hn, hx, h0 => by
    refine Ev.step (fun k => rfl) ?_
    simp only [caulkref19_Merge.l2]
    exact Ev.neg (by omega) (Ev.some_ (by rw [List.drop_of_length_le (by omega)]; rfl))
  | d + 1, n, x, hn, hx, hp => by
    have hl : n < l.length := by omega
    have hs := stepR_len x l[n]
    have ih := rmerge_l2 l hm d (n + 1) (stepR x l[n]) (by omega) (by omega) (fun _ => hs.2.2)
    rw [List.drop_eq_getElem_cons hl, List.foldl_cons]
    refine Ev.step (fun k => rfl) ?_
    simp only [caulkref19_Merge.l2]
    refine Ev.pos (by omega) (Ev.pos (by omega) (Ev.pos (by omega) ?_))
    rw [rd_nat, getD_lt _ hl, wrap_succ (by omega)]
    by_cases hn0 : 0 < n
    · have h0 := hp hn0
      have e : wrap64 ((x.length : Int) - 1) = ((x.length - 1 : Nat) : Int) := by rw [wrap_in (by omega) (by omega)]; omega
      rw [e, rdT_nat]
      refine Ev.pos (by omega) (Ev.pos (by omega) (Ev.pos (by omega) ?_))
      by_cases h1 : (x.getD (x.length - 1) z39).f1 = l[n]
      · have e2 : stepR x l[n] = x.set (x.length - 1) ⟨(x.getD (x.length - 1) z39).f0, wrap64 (l[n] + 1)⟩ := by unfold stepR; rw [if_pos ⟨h0, h1⟩]
        rw [e2] at ih
        refine Ev.pos h1 ?_
        rw [e2, Int.toNat_natCast]
        exact ih
      · have e2 : stepR x l[n] = x ++ [⟨l[n], wrap64 (l[n] + 1)⟩] := by unfold stepR; rw [if_neg (fun h => h1 h.2)]
        rw [e2] at ih
        refine Ev.neg h1 (Ev.pos (by omega) ?_)
        rw [e2]
        exact ih
    · have hx0 : x = [] := List.eq_nil_of_length_eq_zero (by omega)
      subst hx0
      have e2 : stepR [] l[n] = [] ++ [⟨l[n], wrap64 (l[n] + 1)⟩] := by unfold stepR; rw [if_neg (fun h => absurd h.1 (by simp))]
      rw [e2] at ih
      refine Ev.neg (by omega) (Ev.pos (by simp) ?_)
      rw [e2]
      exact ih

theorem rmerge_l0 (l : List Int) (hm : l.length < 8796093022208) (h : l.Pairwise (· < ·)) : ∀ (d n : Nat), n + d = l.length →
    Ev (fun k => caulkref19_Merge.l0 k (l.take n) l (l.length : Int) (n : Int)) (l.foldl stepR [])
  | 0, n, hn => by
    refine Ev.step (fun k => rfl) ?_
    simp only [caulkref19_Merge.l0]
    refine Ev.neg (by omega) ?_
    rw [List.take_of_length_le (by omega)]
    exact rmerge_l2 l hm l.length 0 [] (by omega) (by simp) (by simp)
  | d + 1, n, hn => by
    have ih := rmerge_l0 l hm h d (n + 1) (by omega)
    have hl : n < l.length := by omega
    refine Ev.step (fun k => rfl) ?_
    simp only [caulkref19_Merge.l0]
    refine Ev.pos (by omega) (Ev.pos (by omega) (Ev.pos (by omega) ?_))
    rw [rd_nat, getD_lt _ hl]
    rw [List.take_succ_eq_append_getElem hl] at ih
    refine ins_l1 l (l.take n) l[n] n _ (by simp; omega) (fun y hy => ?_) (by omega) (by rw [wrap_succ (by omega)]; exact ih) (l.take n).length 0 (by omega)
    obtain ⟨i, hi, rfl⟩ := List.mem_iff_getElem.1 hy
    have hi' : i < n := by simp at hi; omega
    rw [List.getElem_take]
    exact List.pairwise_iff_getElem.1 h i n (by omega) hl hi'
theorem rmerge_ev (l : List Int) (hm : l.length < 8796093022208) (h : l.Pairwise (· < ·)) : Ev (fun k => caulkref19_Merge.f k l) (l.foldl stepR []) := by
  simp only [caulkref19_Merge.f]
  exact rmerge_l0 l hm h l.length 0 (by omega)

def rangesV (a : List Bool) : List S39 := (usedN a a.length).foldl stepR []
theorem ranges_ev (a : List Bool) (hm : a.length < 8796093022208) : Ev (fun k => bitmap_Ranges.f k a) (rangesV a) := by
  simp only [bitmap_Ranges.f, bitmap_places_bool__bitmap_Ranges_1.f]
  refine Ev.bind (places_l0 a (by omega) a.length 0 (by omega)) (Ev.bind (merge_ev _ (by have := usedN_len a a.length; omega) (usedN_rises a _)) (Ev.now _))
theorem rranges_ev (a : List Bool) (hm : a.length < 8796093022208) : Ev (fun k => caulkref39_Ranges.f k a) (rangesV a) := by
  simp only [caulkref39_Ranges.f, caulkref12_Used.f]
  refine Ev.bind (rused_l0 a (by omega) a.length 0 (by omega)) (Ev.bind (rmerge_ev _ (by have := usedN_len a a.length; omega) (usedN_rises a _)) (Ev.now _))

theorem sameR_l0 (a : List S39) (hm : a.length < 4611686018427387904) : ∀ (d n : Nat), n + d = a.length → Ev (fun k => caulkref19_SameRanges.l0 k a a (a.length : Int) (n : Int)) true
  | 0, n, hn => by
    refine Ev.step (fun k => rfl) ?_
    simp only [caulkref19_SameRanges.l0]
    exact Ev.neg (by omega) (Ev.now _)
  | d + 1, n, hn => by
    have ih := sameR_l0 a hm d (n + 1) (by omega)
    refine Ev.step (fun k => rfl) ?_
    simp only [caulkref19_SameRanges.l0]
    refine Ev.pos (by omega) (Ev.pos (by omega) (Ev.pos (by omega) (Ev.pos (by omega) (Ev.neg (by simp) ?_))))
    rw [wrap_succ (by omega)]
    exact ih
theorem sameR_ev (a : List S39) (hm : a.length < 4611686018427387904) : Ev (fun k => caulkref19_SameRanges.f k a a) true := by
  simp only [caulkref19_SameRanges.f]
  exact Ev.pos (by simp) (sameR_l0 a hm a.length 0 (by omega))
theorem foldR_len (l : List Int) : ∀ x : List S39, (l.foldl stepR x).length ≤ x.length + l.length := by
  induction l with
  | nil => intro x; simp
  | cons b l ih =>
    intro x
    have := ih (stepR x b)
    have := stepR_len x b
    simp only [List.foldl_cons, List.length_cons]
    omega
theorem rangesV_len (a : List Bool) : (rangesV a).length ≤ a.length := by
  have := foldR_len (usedN a a.length) []
  have := usedN_len a a.length
  simp only [List.length_nil] at *
  unfold rangesV
  omega

/-! ### the use of ranges -/
/-- Places p .. q - 1 are marked. -/
def markN (x : List Bool) (p q : Nat) : List Bool := (List.range x.length).map fun i => x.getD i false || decide (p ≤ i ∧ i < q)
theorem markN_len (x : List Bool) (p q : Nat) : (markN x p q).length = x.length := by simp [markN]
theorem markN_get (x : List Bool) (p q i : Nat) (h : i < x.length) : (markN x p q).getD i false = (x.getD i false || decide (p ≤ i ∧ i < q)) := by
  rw [getD_lt _ (by rw [markN_len]; exact h)]
  simp [markN]
theorem markN_none (x : List Bool) (p : Nat) : markN x p p = x := by
  apply List.ext_getElem (by simp [markN])
  intro i h1 h2
  have : ¬ (p ≤ i ∧ i < p) := by omega
  simp [markN, this, h2]
theorem markN_step (x : List Bool) (p q : Nat) (h : p ≤ q) (hq : q < x.length) : (markN x p q).set q true = markN x p (q + 1) := by
  apply List.ext_getElem (by simp [markN])
  intro i h1 h2
  have hi : i < x.length := by simpa [markN] using h2
  rw [List.getElem_set]
  by_cases e : q = i
  · subst e
    simp [markN, h]
  · rw [if_neg e]
    have : (p ≤ i ∧ i < q + 1) ↔ (p ≤ i ∧ i < q) := by omega
    simp only [markN, List.getElem_map, List.getElem_range]
    rw [decide_eq_decide.2 this]
/-- All ranges marked, or none, if one isn't right. -/
def ofR (N : Nat) (x : List Bool) : List S39 → List Bool × Int
  | [] => (x, 0)
  | r :: l => if r.f0 < 0 ∨ r.f0 > r.f1 ∨ r.f1 > (N : Int) then ([], 1) else ofR N (markN x r.f0.toNat r.f1.toNat) l
def ofV (n : Int) (l : List S39) : List Bool × Int := if n < 0 ∨ n > 4096 then ([], 1) else ofR n.toNat (List.replicate n.toNat false) l

theorem of_l1 (N : Nat) (l : List S39) (j : Nat) (x : List Bool) (p q : Nat) (hpq : p ≤ q) (hq : q ≤ x.length) (hx : x.length ≤ 4096) (r : List Bool × Int)
    (hr : Ev (fun k => bitmap_Of.l0 k (N : Int) (markN x p q) l (l.length : Int) (wrap64 ((j : Int) + 1))) r) : ∀ (d n : Nat), n + d = q - p →
    Ev (fun k => bitmap_Of.l1 k (N : Int) (markN x p (p + n)) l (l.length : Int) (j : Int) ((q - p : Nat) : Int) (n : Int) (p : Int) (q : Int)) r
  | 0, n, hn => by
    refine Ev.step (fun k => rfl) ?_
    simp only [bitmap_Of.l1]
    refine Ev.neg (by omega) ?_
    rw [show p + n = q by omega]
    exact hr
  | d + 1, n, hn => by
    have ih := of_l1 N l j x p q hpq hq hx r hr d (n + 1) (by omega)
    refine Ev.step (fun k => rfl) ?_
    simp only [bitmap_Of.l1]
    have e : wrap64 ((p : Int) + (n : Int)) = ((p + n : Nat) : Int) := by rw [wrap_in (by omega) (by omega)]; omega
    rw [e, wrap_succ (n := n) (by omega), Int.toNat_natCast]
    refine Ev.pos (by omega) (Ev.pos (by omega) (Ev.pos (by rw [markN_len]; omega) ?_))
    rw [markN_step x p (p + n) (by omega) (by omega)]
    exact ih
theorem of_l0 (N : Nat) (hN : N ≤ 4096) (l : List S39) (hm : l.length < 4611686018427387904) : ∀ (d n : Nat) (x : List Bool), n + d = l.length → x.length = N →
    Ev (fun k => bitmap_Of.l0 k (N : Int) x l (l.length : Int) (n : Int)) (ofR N x (l.drop n))
  | 0, n, x, hn, hx => by
    refine Ev.step (fun k => rfl) ?_
    simp only [bitmap_Of.l0]
    rw [List.drop_of_length_le (by omega)]
    exact Ev.neg (by omega) (Ev.now _)
  | d + 1, n, x, hn, hx => by
    have hl : n < l.length := by omega
    refine Ev.step (fun k => rfl) ?_
    simp only [bitmap_Of.l0]
    rw [rdT_nat, getD_lt _ hl, List.drop_eq_getElem_cons hl]
    simp only [ofR]
    refine Ev.pos (by omega) (Ev.pos (by omega) (Ev.pos (by omega) ?_))
    by_cases h0 : l[n].f0 < 0
    · rw [if_pos (Or.inl h0)]
      refine Ev.pos h0 (Ev.step (fun k => rfl) ?_)
      simp only [bitmap_Of.j2]
      exact Ev.pos (by simp) (Ev.now _)
    refine Ev.neg h0 ?_
    by_cases h1 : l[n].f0 > l[n].f1
    · rw [if_pos (Or.inr (Or.inl h1))]
      refine Ev.pos h1 (Ev.step (fun k => rfl) ?_)
      simp only [bitmap_Of.j2]
      exact Ev.pos (by simp) (Ev.now _)
    refine Ev.neg h1 (Ev.step (fun k => rfl) ?_)
    simp only [bitmap_Of.j2]
    by_cases h2 : l[n].f1 > (N : Int)
    · rw [if_pos (Or.inr (Or.inr h2))]
      exact Ev.pos (by simpa using h2) (Ev.now _)
    rw [if_neg (by omega)]
    refine Ev.neg (by simpa using h2) (Ev.pos (by omega) (Ev.pos (by omega) (Ev.pos (by omega) ?_)))
    obtain ⟨p, hp⟩ := Int.eq_ofNat_of_zero_le (Int.not_lt.1 h0)
    obtain ⟨q, hq⟩ := Int.eq_ofNat_of_zero_le (a := l[n].f1) (by omega)
    rw [hp, hq, Int.toNat_natCast, Int.toNat_natCast]
    have e : ((x.take q).drop p).length = q - p := by simp; omega
    rw [e]
    have ih := of_l0 N hN l hm d (n + 1) (markN x p q) (by omega) (by rw [markN_len]; exact hx)
    have := of_l1 N l n x p q (by omega) (by omega) (by omega) _ (by rw [wrap_succ (by omega)]; exact ih) (q - p) 0 (by omega)
    rw [Nat.add_zero, markN_none] at this
    exact this
theorem of_ev (n : Int) (l : List S39) (hm : l.length < 4611686018427387904) : Ev (fun k => bitmap_Of.f k n l) (ofV n l) := by
  simp only [bitmap_Of.f, ofV]
  by_cases h0 : n < 0
  · rw [if_pos (Or.inl h0)]
    refine Ev.pos h0 (Ev.step (fun k => rfl) ?_)
    simp only [bitmap_Of.j0]
    exact Ev.pos (by simp) (Ev.now _)
  refine Ev.neg h0 (Ev.step (fun k => rfl) ?_)
  simp only [bitmap_Of.j0]
  by_cases h1 : n > 4096
  · rw [if_pos (Or.inr h1)]
    exact Ev.pos (by simpa using h1) (Ev.now _)
  rw [if_neg (by omega)]
  refine Ev.neg (by simpa using h1) ?_
  obtain ⟨N, rfl⟩ := Int.eq_ofNat_of_zero_le (Int.not_lt.1 h0)
  rw [Int.toNat_natCast]
  refine Ev.pos (by omega) (Ev.pos (by omega) ?_)
  exact of_l0 N (by omega) l hm l.length 0 _ (by omega) (by simp)

theorem rof_l1 (N : Nat) (l : List S39) (j : Nat) (x : List Bool) (p q : Nat) (hpq : p ≤ q) (hq : q ≤ x.length) (hx : x.length ≤ 4096) (r : List Bool × Int)
    (hr : Ev (fun k => caulkref39_Of.l0 k (N : Int) (markN x p q) l (l.length : Int) (wrap64 ((j : Int) + 1))) r) : ∀ (d n : Nat), p ≤ n → n + d = q →
    Ev (fun k => caulkref39_Of.l1 k (N : Int) (markN x p n) (n : Int) l (l.length : Int) (j : Int) (p : Int) (q : Int)) r
  | 0, n, hp, hn => by
    refine Ev.step (fun k => rfl) ?_
    simp only [caulkref39_Of.l1]
    refine Ev.neg (by omega) ?_
    rw [show n = q by omega]
    exact hr
  | d + 1, n, hp, hn => by
    have ih := rof_l1 N l j x p q hpq hq hx r hr d (n + 1) (by omega) (by omega)
    refine Ev.step (fun k => rfl) ?_
    simp only [caulkref39_Of.l1]
    rw [wrap_succ (n := n) (by omega), Int.toNat_natCast]
    refine Ev.pos (by omega) (Ev.pos (by omega) (Ev.pos (by rw [markN_len]; omega) ?_))
    rw [markN_step x p n hp (by omega)]
    exact ih
theorem rof_l0 (N : Nat) (hN : N ≤ 4096) (l : List S39) (hm : l.length < 4611686018427387904) : ∀ (d n : Nat) (x : List Bool), n + d = l.length → x.length = N →
    Ev (fun k => caulkref39_Of.l0 k (N : Int) x l (l.length : Int) (n : Int)) (ofR N x (l.drop n))
  | 0, n, x, hn, hx => by
    refine Ev.step (fun k => rfl) ?_
    simp only [caulkref39_Of.l0]
    rw [List.drop_of_length_le (by omega)]
    exact Ev.neg (by omega) (Ev.now _)
  | d + 1, n, x, hn, hx => by
    have hl : n < l.length := by omega
    refine Ev.step (fun k => rfl) ?_
    simp only [caulkref39_Of.l0]
    rw [rdT_nat, getD_lt _ hl, List.drop_eq_getElem_cons hl]
    simp only [ofR]
    refine Ev.pos (by omega) (Ev.pos (by omega) (Ev.pos (by omega) ?_))
    by_cases h0 : l[n].f0 < 0
    · rw [if_pos (Or.inl h0)]
      refine Ev.pos h0 (Ev.step (fun k => rfl) ?_)
      simp only [caulkref39_Of.j2]
      exact Ev.pos (by simp) (Ev.now _)
    refine Ev.neg h0 ?_
    by_cases h1 : l[n].f0 > l[n].f1
    · rw [if_pos (Or.inr (Or.inl h1))]
      refine Ev.pos h1 (Ev.step (fun k => rfl) ?_)
      simp only [caulkref39_Of.j2]
      exact Ev.pos (by simp) (Ev.now _)
    refine Ev.neg h1 (Ev.step (fun k => rfl) ?_)
    simp only [caulkref39_Of.j2]
    by_cases h2 : l[n].f1 > (N : Int)
    · rw [if_pos (Or.inr (Or.inr h2))]
      exact Ev.pos (by simpa using h2) (Ev.now _)
    rw [if_neg (by omega)]
    refine Ev.neg (by simpa using h2) ?_
    obtain ⟨p, hp⟩ := Int.eq_ofNat_of_zero_le (Int.not_lt.1 h0)
    obtain ⟨q, hq⟩ := Int.eq_ofNat_of_zero_le (a := l[n].f1) (by omega)
    rw [hp, hq, Int.toNat_natCast, Int.toNat_natCast]
    have ih := rof_l0 N hN l hm d (n + 1) (markN x p q) (by omega) (by rw [markN_len]; exact hx)
    have := rof_l1 N l n x p q (by omega) (by omega) (by omega) _ (by rw [wrap_succ (by omega)]; exact ih) (q - p) p (Nat.le_refl _) (by omega)
    rw [markN_none] at this
    exact this
theorem rof_ev (n : Int) (l : List S39) (hm : l.length < 4611686018427387904) : Ev (fun k => caulkref39_Of.f k n l) (ofV n l) := by
  simp only [caulkref39_Of.f, ofV]
  by_cases h0 : n < 0
  · rw [if_pos (Or.inl h0)]
    refine Ev.pos h0 (Ev.step (fun k => rfl) ?_)
    simp only [caulkref39_Of.j0]
    exact Ev.pos (by simp) (Ev.now _)
  refine Ev.neg h0 (Ev.step (fun k => rfl) ?_)
  simp only [caulkref39_Of.j0]
  by_cases h1 : n > 4096
  · rw [if_pos (Or.inr h1)]
    exact Ev.pos (by simpa using h1) (Ev.now _)
  rw [if_neg (by omega)]
  refine Ev.neg (by simpa using h1) ?_
  obtain ⟨N, rfl⟩ := Int.eq_ofNat_of_zero_le (Int.not_lt.1 h0)
  rw [Int.toNat_natCast]
  refine Ev.pos (by omega) (Ev.pos (by omega) ?_)
  exact rof_l0 N (by omega) l hm l.length 0 _ (by omega) (by simp)

/-! ### there and back -/
theorem ofR_ok (N : Nat) : ∀ (l : List S39) (x : List Bool), x.length = N → (∀ r ∈ l, 0 ≤ r.f0 ∧ r.f0 ≤ r.f1 ∧ r.f1 ≤ (N : Int)) →
    ∃ y, ofR N x l = (y, 0) ∧ y.length = N ∧ ∀ i : Nat, i < N → (y.getD i false = true ↔ x.getD i false = true ∨ ∃ r ∈ l, r.f0 ≤ (i : Int) ∧ (i : Int) < r.f1)
  | [], x, hx, _ => ⟨x, rfl, hx, fun i _ => by simp⟩
  | r :: l, x, hx, h => by
    obtain ⟨h0, h1, h2⟩ := h r (List.mem_cons_self)
    obtain ⟨y, hy, hl, hc⟩ := ofR_ok N l (markN x r.f0.toNat r.f1.toNat) (by rw [markN_len]; exact hx) (fun q hq => h q (List.mem_cons_of_mem _ hq))
    refine ⟨y, by simp only [ofR]; rw [if_neg (by omega)]; exact hy, hl, fun i hi => ?_⟩
    rw [hc i hi, markN_get _ _ _ _ (by omega)]
    simp only [Bool.or_eq_true, decide_eq_true_eq, List.mem_cons, exists_eq_or_imp]
    have : (r.f0.toNat ≤ i ∧ i < r.f1.toNat) ↔ (r.f0 ≤ (i : Int) ∧ (i : Int) < r.f1) := by omega
    rw [this, or_assoc]
theorem stepR_snoc (init : List S39) (last : S39) (b : Int) : stepR (init ++ [last]) b = if last.f1 = b then init ++ [⟨last.f0, wrap64 (b + 1)⟩] else init ++ [last, ⟨b, wrap64 (b + 1)⟩] := by
  unfold stepR
  have e : (init ++ [last]).length - 1 = init.length := by simp
  have e2 : (init ++ [last]).getD init.length z39 = last := by simp [List.getD]
  rw [e, e2]
  by_cases h : last.f1 = b
  · rw [if_pos ⟨by simp, h⟩, if_pos h, List.set_append_right _ _ (Nat.le_refl _), Nat.sub_self]; rfl
  · rw [if_neg (fun h' => h h'.2), if_neg h]; simp
theorem ranges_inv (a : List Bool) : ∀ n, n ≤ 4096 → (∀ r ∈ (usedN a n).foldl stepR [], 0 ≤ r.f0 ∧ r.f0 ≤ r.f1 ∧ r.f1 ≤ (n : Int)) ∧
    ∀ i : Nat, (∃ r ∈ (usedN a n).foldl stepR [], r.f0 ≤ (i : Int) ∧ (i : Int) < r.f1) ↔ (i < n ∧ a.getD i false = true)
  | 0, _ => by simp [usedN]
  | n + 1, hn => by
    obtain ⟨h1, h2⟩ := ranges_inv a n (by omega)
    rw [usedN_succ]
    by_cases h : a.getD n false = true
    · rw [if_pos h, List.foldl_append, List.foldl_cons, List.foldl_nil]
      have hw : wrap64 ((n : Int) + 1) = (n : Int) + 1 := wrap_in (by omega) (by omega)
      rcases List.eq_nil_or_concat ((usedN a n).foldl stepR []) with e | ⟨init, last, e⟩
      · rw [e] at h1 h2 ⊢
        have e3 : stepR [] (n : Int) = [⟨(n : Int), (n : Int) + 1⟩] := by unfold stepR; rw [if_neg (fun h => absurd h.1 (by simp)), hw]; rfl
        rw [e3]
        refine ⟨fun r hr => by rw [List.mem_singleton.1 hr]; simp; omega, fun i => ?_⟩
        have h3 := h2 i
        simp only [List.mem_singleton, exists_eq_left, List.not_mem_nil, false_and, exists_false, false_iff] at h3 ⊢
        constructor
        · rintro ⟨h4, h5⟩
          have : i = n := by omega
          subst this
          exact ⟨by omega, h⟩
        · rintro ⟨h4, h5⟩
          have : ¬ i < n := fun h6 => h3 ⟨h6, h5⟩
          omega
      · rw [List.concat_eq_append] at e
        rw [e] at h1 h2 ⊢
        rw [stepR_snoc, hw]
        have hla := h1 last (by simp)
        by_cases hq : last.f1 = (n : Int)
        · rw [if_pos hq]
          refine ⟨fun r hr => ?_, fun i => ?_⟩
          · rcases List.mem_append.1 hr with hr | hr
            · have := h1 r (by simp [hr]); omega
            · rw [List.mem_singleton.1 hr]; simp; omega
          · have h3 := h2 i
            simp only [List.mem_append, List.mem_singleton, or_and_right, exists_or, exists_eq_left] at h3 ⊢
            constructor
            · rintro (h4 | ⟨h4, h5⟩)
              · have := h3.1 (Or.inl h4); exact ⟨by omega, this.2⟩
              · by_cases h6 : i = n
                · subst h6; exact ⟨by omega, h⟩
                · have := h3.1 (Or.inr ⟨h4, by omega⟩); exact ⟨by omega, this.2⟩
            · rintro ⟨h4, h5⟩
              by_cases h6 : i = n
              · subst h6; exact Or.inr ⟨by omega, by omega⟩
              · rcases h3.2 ⟨by omega, h5⟩ with h7 | h7
                · exact Or.inl h7
                · exact Or.inr ⟨h7.1, by omega⟩
        · rw [if_neg hq]
          refine ⟨fun r hr => ?_, fun i => ?_⟩
          · rcases List.mem_append.1 hr with hr | hr
            · have := h1 r (by simp [hr]); omega
            · rcases List.mem_cons.1 hr with rfl | hr
              · omega
              · rw [List.mem_singleton.1 hr]; simp; omega
          · have h3 := h2 i
            simp only [List.mem_append, List.mem_cons, List.mem_singleton, List.not_mem_nil, or_false, or_and_right, exists_or, exists_eq_left] at h3 ⊢
            constructor
            · rintro (h4 | h4 | ⟨h4, h5⟩)
              · have := h3.1 (Or.inl h4); exact ⟨by omega, this.2⟩
              · have := h3.1 (Or.inr h4); exact ⟨by omega, this.2⟩
              · have : i = n := by omega
                subst this
                exact ⟨by omega, h⟩
            · rintro ⟨h4, h5⟩
              by_cases h6 : i = n
              · subst h6; exact Or.inr (Or.inr ⟨by omega, by omega⟩)
              · rcases h3.2 ⟨by omega, h5⟩ with h7 | h7
                · exact Or.inl h7
                · exact Or.inr (Or.inl h7)
    · rw [if_neg h, List.append_nil]
      refine ⟨fun r hr => by have := h1 r hr; omega, fun i => ?_⟩
      rw [h2 i]
      constructor
      · rintro ⟨h4, h5⟩; exact ⟨by omega, h5⟩
      · rintro ⟨h4, h5⟩
        refine ⟨?_, h5⟩
        by_cases h6 : i = n
        · subst h6; exact absurd h5 h
        · omega
theorem of_ranges (a : List Bool) (hm : a.length ≤ 4096) : ofV (a.length : Int) (rangesV a) = (a, 0) := by
  unfold ofV
  rw [if_neg (by omega), Int.toNat_natCast]
  obtain ⟨h1, h2⟩ := ranges_inv a a.length hm
  obtain ⟨y, hy, hl, hc⟩ := ofR_ok a.length (rangesV a) (List.replicate a.length false) (by simp) h1
  rw [hy]
  congr 1
  apply List.ext_getElem hl
  intro i h3 h4
  have h5 := hc i (by omega)
  have h6 := h2 i
  rw [getD_lt _ h3] at h5
  rw [getD_lt _ h4] at h6
  have e : (List.replicate a.length false).getD i false = false := by simp [List.getD, h4]
  rw [e] at h5
  have : y[i] = true ↔ a[i] = true := by
    rw [h5]
    constructor
    · rintro (h | h)
      · cases h
      · exact (h6.1 h).2
    · intro h
      exact Or.inr (h6.2 ⟨h4, h⟩)
  exact Bool.eq_iff_iff.2 this
theorem unp_pack (a : List Bool) (hm : a.length ≤ 4096) : unpV (a.length : Int) (strOfNums (packL a)) = (a, 0) := by
  have hs : (strOfNums (packL a)).size = (a.length + 7) / 8 := by rw [strOfNums_size, packL_len]
  have hb : ∀ j, j < 8 * ((a.length + 7) / 8) → bitS (strOfNums (packL a)) j = a.getD j false := by
    intro j hj
    have := bitS_at (strOfNums (packL a)) (j / 8) (j % 8) (by omega)
    rw [show 8 * (j / 8) + j % 8 = j by omega] at this
    rw [this, packL_bt a (j / 8) (by omega), tb_pk8 _ (by omega), show 8 * (j / 8) + j % 8 = j by omega]
  unfold unpV
  rw [if_neg (by omega), Int.toNat_natCast, if_neg (by simp [hs])]
  have hr : rest (strOfNums (packL a)) a.length (8 * (strOfNums (packL a)).size) = false := by
    rw [rest_iff]
    intro j h1 h2
    rw [hb j (by omega)]
    simp [List.getD, List.getElem?_eq_none h1]
  rw [hr]
  simp only [Bool.false_eq_true, if_false]
  congr 1
  unfold useN
  rw [Nat.sub_self, List.replicate_zero, List.append_nil]
  apply List.ext_getElem (by simp)
  intro i h1 h2
  rw [List.getElem_map, List.getElem_range, hb i (by omega), getD_lt _ h2]

end Go.Proofs.Ytgahpdoiddhdaaa.BitmapLem
