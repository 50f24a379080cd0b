/- The plain laws on ranges of blocks: sorted, each once, joined; and back to blocks. No program's step in sight: the printed functions alone. Conditions: none. -/
import Derived.Test.YtepbhlngcaiklaaGSpanSpanJoin
import Derived.Lib.SlicesCompact
namespace Go.Proofs.Ytepbhlngcaiklaa.Pure
open Go.RowKit Go.Proofs.Ytepbhlngcaiklaa Go.Proofs.YtepbhlngcaiklaaW.PrintWords Go.Proofs.YtepbhlngcaiklaaW.PrintLast Go.Proofs.YtepbhlngcaiklaaW.PrintMore Go.Proofs.Ytepbhlngcaiklaa.PKit Go.Proofs.Ytepbhlngcaiklaa.HSpan
set_option linter.unusedVariables false
set_option linter.unusedSimpArgs false

/-! ### runs of rising blocks -/
def stepR (out : List S28) (b : Int) : List S28 :=
  if 0 < out.length ∧ (out.getD (out.length - 1) z28).f1 = b then out.set (out.length - 1) ⟨(out.getD (out.length - 1) z28).f0, wrap64 (b + 1)⟩ else out ++ [⟨b, wrap64 (b + 1)⟩]
theorem stepR_len (out : List S28) (b : Int) : out.length ≤ (stepR out b).length ∧ (stepR out b).length ≤ out.length + 1 ∧ 0 < (stepR out b).length := by
  unfold stepR
  split
  · rename_i h; simp; omega
  · simp
theorem rdT28_nat (xs : List S28) (n : Nat) : rd_T28 xs (n : Int) = xs.getD n z28 := by simp [rd_T28]

theorem merge_l0 (l : List Int) (hm : l.length < 8796093022208) : ∀ (d n : Nat) (x : List S28), n + d = l.length → x.length ≤ n →
    Ev (fun k => span_Merge.l0 k x l (l.length : Int) (n : Int)) ((l.drop n).foldl stepR x)
  | 0, n, x, hn, hx => by
    refine Ev.step (fun k => rfl) ?_
    simp only [span_Merge.l0]
    exact Ev.neg (by omega) (Ev.some_ (by rw [List.drop_of_length_le (by omega)]; rfl))
  | d + 1, n, x, hn, hx => by
    have hl : n < l.length := by omega
    have hs := stepR_len x l[n]
    have ih := merge_l0 l hm d (n + 1) (stepR x l[n]) (by omega) (by omega)
    rw [List.drop_eq_getElem_cons hl, List.foldl_cons]
    refine Ev.step (fun k => rfl) ?_
    simp only [span_Merge.l0]
    refine Ev.pos (by omega) (Ev.pos (by omega) (Ev.pos (by omega) ?_))
    rw [rd_nat, getD_lt _ hl, wrap_succ (by omega)]
    by_cases h0 : 0 < x.length
    · have e : wrap64 ((x.length : Int) - 1) = ((x.length - 1 : Nat) : Int) := by rw [wrap_in (by omega) (by omega)]; omega
      rw [e, rdT28_nat]
      refine Ev.pos (by omega) (Ev.pos (by omega) (Ev.pos (by omega) ?_))
      by_cases h1 : (x.getD (x.length - 1) z28).f1 = l[n]
      · have e2 : stepR x l[n] = x.set (x.length - 1) ⟨(x.getD (x.length - 1) z28).f0, wrap64 (l[n] + 1)⟩ := by unfold stepR; rw [if_pos ⟨h0, h1⟩]
        rw [e2] at ih
        refine Ev.pos h1 ?_
        rw [h1, e2, Int.toNat_natCast]
        exact ih
      · have e2 : stepR x l[n] = x ++ [⟨l[n], wrap64 (l[n] + 1)⟩] := by unfold stepR; rw [if_neg (fun h => h1 h.2)]
        rw [e2] at ih
        refine Ev.neg h1 (Ev.pos (by omega) ?_)
        rw [e2]
        exact ih
    · have e2 : stepR x l[n] = x ++ [⟨l[n], wrap64 (l[n] + 1)⟩] := by unfold stepR; rw [if_neg (fun h => h0 h.1)]
      rw [e2] at ih
      refine Ev.neg (by omega) (Ev.pos (by omega) ?_)
      rw [e2]
      exact ih

theorem rmerge_l2 (l : List Int) (hm : l.length < 8796093022208) : ∀ (d n : Nat) (x : List S28), n + d = l.length → x.length ≤ n → (0 < n → 0 < x.length) →
    Ev (fun k => caulkref19_Merge.l2 k x l (l.length : Int) (n : Int)) ((l.drop n).foldl stepR x)
  | 0, n, x, hn, hx, h0 => by
    refine Ev.step (fun k => rfl) ?_
    simp only [caulkref19_Merge.l2]
    exact Ev.neg (by omega) (Ev.some_ (by rw [List.drop_of_length_le (by omega)]; rfl))
  | d + 1, n, x, hn, hx, hp => by
    have hl : n < l.length := by omega
    have hs := stepR_len x l[n]
    have ih := rmerge_l2 l hm d (n + 1) (stepR x l[n]) (by omega) (by omega) (fun _ => hs.2.2)
    rw [List.drop_eq_getElem_cons hl, List.foldl_cons]
    refine Ev.step (fun k => rfl) ?_
    simp only [caulkref19_Merge.l2]
    refine Ev.pos (by omega) (Ev.pos (by omega) (Ev.pos (by omega) ?_))
    rw [rd_nat, getD_lt _ hl, wrap_succ (by omega)]
    by_cases hn0 : 0 < n
    · have h0 := hp hn0
      have e : wrap64 ((x.length : Int) - 1) = ((x.length - 1 : Nat) : Int) := by rw [wrap_in (by omega) (by omega)]; omega
      rw [e, rdT28_nat]
      refine Ev.pos (by omega) (Ev.pos (by omega) (Ev.pos (by omega) ?_))
      by_cases h1 : (x.getD (x.length - 1) z28).f1 = l[n]
      · have e2 : stepR x l[n] = x.set (x.length - 1) ⟨(x.getD (x.length - 1) z28).f0, wrap64 (l[n] + 1)⟩ := by unfold stepR; rw [if_pos ⟨h0, h1⟩]
        rw [e2] at ih
        refine Ev.pos h1 ?_
        rw [e2, Int.toNat_natCast]
        exact ih
      · have e2 : stepR x l[n] = x ++ [⟨l[n], wrap64 (l[n] + 1)⟩] := by unfold stepR; rw [if_neg (fun h => h1 h.2)]
        rw [e2] at ih
        refine Ev.neg h1 (Ev.pos (by omega) ?_)
        rw [e2]
        exact ih
    · have hx0 : x = [] := List.eq_nil_of_length_eq_zero (by omega)
      subst hx0
      have e2 : stepR [] l[n] = [] ++ [⟨l[n], wrap64 (l[n] + 1)⟩] := by unfold stepR; rw [if_neg (fun h => absurd h.1 (by simp))]
      rw [e2] at ih
      refine Ev.neg (by omega) (Ev.pos (by simp) ?_)
      rw [e2]
      exact ih

theorem foldR_len (l : List Int) : ∀ x : List S28, (l.foldl stepR x).length ≤ x.length + l.length := by
  induction l with
  | nil => intro x; simp
  | cons b l ih =>
    intro x
    have := ih (stepR x b)
    have := stepR_len x b
    simp only [List.foldl_cons, List.length_cons]
    omega

/-! ### each once, in order -/
theorem insI_perm' (x : Int) : ∀ l, (insI x l).Perm (x :: l)
  | [] => List.Perm.refl _
  | y :: l => by
    unfold insI
    split
    · exact List.Perm.refl _
    · exact ((insI_perm' x l).cons y).trans (List.Perm.swap x y l)
theorem sortI_perm' : ∀ l : List Int, (sortI l).Perm l
  | [] => List.Perm.refl _
  | x :: l => (insI_perm' x _).trans ((sortI_perm' l).cons x)
theorem insI_sorted' (x : Int) : ∀ l : List Int, l.Pairwise (· ≤ ·) → (insI x l).Pairwise (· ≤ ·)
  | [], _ => List.pairwise_singleton _ _
  | y :: l, h => by
    have h1 := List.pairwise_cons.1 h
    unfold insI
    split
    · rename_i hxy
      exact List.pairwise_cons.2 ⟨fun z hz => by rcases List.mem_cons.1 hz with rfl | hz; exact hxy; exact Int.le_trans hxy (h1.1 z hz), h⟩
    · rename_i hxy
      refine List.pairwise_cons.2 ⟨fun z hz => ?_, insI_sorted' x l h1.2⟩
      rcases List.mem_cons.1 ((insI_perm' x l).mem_iff.1 hz) with rfl | hz
      · omega
      · exact h1.1 z hz
theorem sortI_sorted' : ∀ l : List Int, (sortI l).Pairwise (· ≤ ·)
  | [] => List.Pairwise.nil
  | x :: l => insI_sorted' x _ (sortI_sorted' l)
theorem cmp_all (z : List Int) (hz : z.Pairwise (· ≤ ·)) : ∀ m, m ≤ z.length → (Lib.compactUpTo z.toArray m).Pairwise (· < ·) ∧ ∀ x, x ∈ Lib.compactUpTo z.toArray m ↔ x ∈ z.take m
  | 0, _ => by simp [Lib.compactUpTo]
  | m + 1, hm => by
    obtain ⟨h1, h2⟩ := cmp_all z hz m (by omega)
    have hg : z.toArray[m]! = z[m] := by simp [show m < z.length by omega]
    rw [Lib.compactUpTo_succ, hg, List.take_succ_eq_append_getElem (by omega)]
    by_cases hk : Lib.keeps z.toArray m = true
    · rw [if_pos hk]
      refine ⟨List.pairwise_append.2 ⟨h1, List.pairwise_singleton _ _, fun x hx y hy => ?_⟩, fun x => by rw [List.mem_append, List.mem_append, h2 x]⟩
      rw [List.mem_singleton] at hy
      subst hy
      obtain ⟨i, hi, rfl⟩ := List.mem_iff_getElem.1 ((h2 x).1 hx)
      have hi' : i < m := by simp at hi; omega
      rw [List.getElem_take]
      unfold Lib.keeps at hk
      simp only [decide_eq_true_eq] at hk
      rcases hk with hk | hk
      · omega
      · have e2 : z.toArray[m - 1]! = z[m - 1]'(by omega) := by simp [show m - 1 < z.length by omega]
        rw [hg, e2] at hk
        have a1 : z[i]'(by omega) ≤ z[m - 1]'(by omega) := by
          rcases Nat.lt_or_ge i (m - 1) with q | q
          · exact List.pairwise_iff_getElem.1 hz i (m - 1) (by omega) (by omega) q
          · have : i = m - 1 := by omega
            subst this; exact Int.le_refl _
        have a2 := List.pairwise_iff_getElem.1 hz (m - 1) m (by omega) (by omega) (by omega)
        omega
    · rw [if_neg hk, List.append_nil]
      refine ⟨h1, fun x => ?_⟩
      rw [List.mem_append, List.mem_singleton, h2 x]
      unfold Lib.keeps at hk
      simp only [decide_eq_true_eq, not_or, Decidable.not_not] at hk
      obtain ⟨hk0, hk1⟩ := hk
      have e2 : z.toArray[m - 1]! = z[m - 1]'(by omega) := by simp [show m - 1 < z.length by omega]
      rw [hg, e2] at hk1
      constructor
      · exact Or.inl
      · rintro (h | h)
        · exact h
        · rw [h, hk1]
          exact List.mem_iff_getElem.2 ⟨m - 1, by rw [List.length_take]; omega, by rw [List.getElem_take]⟩
def uins (b : Int) : List Int → List Int
  | [] => [b]
  | y :: r => if y < b then y :: uins b r else if y = b then y :: r else b :: y :: r
theorem uins_mem (b x : Int) : ∀ l, x ∈ uins b l ↔ x = b ∨ x ∈ l
  | [] => by simp [uins]
  | y :: r => by
    unfold uins
    split
    · rw [List.mem_cons, uins_mem b x r, List.mem_cons]
      constructor
      · rintro (h | h | h) <;> simp [h]
      · rintro (h | h | h) <;> simp [h]
    · split
      · rename_i h
        rw [List.mem_cons]
        constructor
        · exact Or.inr
        · rintro (h' | h')
          · left; omega
          · exact h'
      · rw [List.mem_cons]
theorem uins_up (b : Int) : ∀ l : List Int, l.Pairwise (· < ·) → (uins b l).Pairwise (· < ·)
  | [], _ => List.pairwise_singleton _ _
  | y :: r, h => by
    have h1 := List.pairwise_cons.1 h
    unfold uins
    split
    · rename_i hy
      refine List.pairwise_cons.2 ⟨fun z hz => ?_, uins_up b r h1.2⟩
      rcases (uins_mem b z r).1 hz with rfl | hz
      · exact hy
      · exact h1.1 z hz
    · split
      · exact h
      · refine List.pairwise_cons.2 ⟨fun z hz => ?_, h⟩
        rcases List.mem_cons.1 hz with rfl | hz
        · omega
        · have := h1.1 z hz; omega
theorem uins_len (b : Int) : ∀ l : List Int, (uins b l).length ≤ l.length + 1
  | [] => by simp [uins]
  | y :: r => by
    have := uins_len b r
    unfold uins
    split
    · simp only [List.length_cons]; omega
    · split <;> simp only [List.length_cons] <;> omega
theorem same_up : ∀ a b : List Int, a.Pairwise (· < ·) → b.Pairwise (· < ·) → (∀ x, x ∈ a ↔ x ∈ b) → a = b
  | [], [], _, _, _ => rfl
  | [], y :: b, _, _, h => by have := (h y).2 (List.mem_cons_self ..); simp at this
  | x :: a, [], _, _, h => by have := (h x).1 (List.mem_cons_self ..); simp at this
  | x :: a, y :: b, ha, hb, h => by
    have ha' := List.pairwise_cons.1 ha
    have hb' := List.pairwise_cons.1 hb
    have hxy : x = y := by
      rcases List.mem_cons.1 ((h x).1 (List.mem_cons_self ..)) with e | e
      · exact e
      · rcases List.mem_cons.1 ((h y).2 (List.mem_cons_self ..)) with e' | e'
        · exact e'.symm
        · have := hb'.1 x e; have := ha'.1 y e'; omega
    subst hxy
    rw [same_up a b ha'.2 hb'.2 (fun z => ?_)]
    constructor
    · intro hz
      rcases List.mem_cons.1 ((h z).1 (List.mem_cons_of_mem _ hz)) with e | e
      · have := ha'.1 z hz; omega
      · exact e
    · intro hz
      rcases List.mem_cons.1 ((h z).2 (List.mem_cons_of_mem _ hz)) with e | e
      · have := hb'.1 z hz; omega
      · exact e
def uniq (l : List Int) : List Int := l.foldl (fun x b => uins b x) []
theorem uniq_fold : ∀ (l x : List Int), x.Pairwise (· < ·) → (l.foldl (fun x b => uins b x) x).Pairwise (· < ·) ∧ (∀ y, y ∈ l.foldl (fun x b => uins b x) x ↔ y ∈ x ∨ y ∈ l) ∧ (l.foldl (fun x b => uins b x) x).length ≤ x.length + l.length
  | [], x, hx => by simp [hx]
  | b :: l, x, hx => by
    obtain ⟨h1, h2, h3⟩ := uniq_fold l (uins b x) (uins_up b x hx)
    have := uins_len b x
    refine ⟨h1, fun y => ?_, by simp only [List.foldl_cons, List.length_cons]; omega⟩
    rw [List.foldl_cons, h2, uins_mem, List.mem_cons]
    constructor
    · rintro ((h | h) | h) <;> simp [h]
    · rintro (h | h | h) <;> simp [h]
theorem uniq_compact (l : List Int) : Lib.compact (sortI l) = uniq l := by
  have h := cmp_all (sortI l) (sortI_sorted' l) (sortI l).length (Nat.le_refl _)
  rw [List.take_length] at h
  obtain ⟨u1, u2, _⟩ := uniq_fold l [] List.Pairwise.nil
  refine same_up _ _ h.1 u1 (fun x => ?_)
  unfold uniq Lib.compact
  rw [h.2 x, u2 x, (sortI_perm' l).mem_iff]
  simp
theorem uniq_len (l : List Int) : (uniq l).length ≤ l.length := by
  have := (uniq_fold l [] List.Pairwise.nil).2.2
  simpa [uniq] using this
theorem merge_ev (l : List Int) (hm : l.length ≤ 100000) : Ev (fun k => span_Merge.f k l) ((uniq l).foldl stepR []) := by
  simp only [span_Merge.f, slices_Clone_int_int.f, slices_Sort_int_int.f, slices_Compact_int_int.f]
  rw [if_pos (by omega)]
  refine Ev.let_ ?_
  rw [if_pos (by omega)]
  refine Ev.let_ ?_
  rw [uniq_compact]
  have := uniq_len l
  exact Ev.let_ (merge_l0 (uniq l) (by omega) (uniq l).length 0 [] (by omega) (by simp))
theorem ins_l1 (l : List Int) (b : Int) (n : Nat) (r : List S28) (hn : n < 9223372036854775807) : ∀ (R A : List Int), A.length + R.length ≤ 1000000 →
    Ev (fun k => caulkref19_Merge.l0 k (A ++ uins b R) l (l.length : Int) (wrap64 ((n : Int) + 1))) r →
    Ev (fun k => caulkref19_Merge.l1 k (A ++ R) b (A.length : Int) l (l.length : Int) (n : Int)) r
  | [], A, hA, hr => by
    rw [List.length_nil] at hA
    rw [List.append_nil]
    refine Ev.step (fun k => rfl) ?_
    simp only [caulkref19_Merge.l1]
    refine Ev.neg (by omega) (Ev.let_ (Ev.pos (by omega) (Ev.pos (by omega) (Ev.let_ ?_))))
    rw [Int.toNat_natCast, List.take_length, List.nil_append]
    refine Ev.pos (by simp; omega) (Ev.let_ (Ev.pos (by omega) (Ev.let_ (Ev.let_ ?_))))
    rw [List.drop_length, List.append_nil]
    exact Ev.pos (by simp; omega) hr
  | y :: R, A, hA, hr => by
    rw [List.length_cons] at hA
    have hlen : ((A ++ y :: R).length : Int) = (A.length : Int) + R.length + 1 := by simp; omega
    have g : rd (A ++ y :: R) (A.length : Int) = y := by rw [rd_nat]; simp [List.getD]
    refine Ev.step (fun k => rfl) ?_
    simp only [caulkref19_Merge.l1]
    rw [g, hlen, wrap_succ (n := A.length) (by omega)]
    refine Ev.pos (by omega) (Ev.pos (by omega) ?_)
    by_cases h1 : y < b
    · have eu : uins b (y :: R) = y :: uins b R := by simp [uins, h1]
      rw [eu] at hr
      refine Ev.pos h1 ?_
      have ih := ins_l1 l b n r hn R (A ++ [y]) (by simp only [List.length_append, List.length_cons, List.length_nil]; omega) (by simpa using hr)
      have e1 : A ++ [y] ++ R = A ++ y :: R := by simp
      have e2 : (A ++ [y]).length = A.length + 1 := by simp
      rw [e1, e2] at ih
      exact ih
    · refine Ev.neg h1 ?_
      by_cases h2 : y = b
      · have eu : uins b (y :: R) = y :: R := by simp [uins, h1, h2]
        rw [eu] at hr
        exact Ev.pos h2 hr
      · have eu : uins b (y :: R) = b :: y :: R := by simp [uins, h1, h2]
        rw [eu] at hr
        refine Ev.neg h2 (Ev.let_ (Ev.pos (by omega) (Ev.let_ ?_)))
        have t1 : (A ++ y :: R).take A.length = A := by simp
        have t2 : (A ++ y :: R).drop A.length = y :: R := by simp
        rw [Int.toNat_natCast, t1, t2, List.nil_append]
        refine Ev.pos (by simp; omega) (Ev.let_ (Ev.pos (by omega) (Ev.let_ (Ev.let_ (Ev.pos (by simp; omega) ?_)))))
        simpa using hr
theorem rmerge_l0 (l : List Int) (hm : l.length ≤ 100000) : ∀ (R P x : List Int), l = P ++ R → x.length ≤ P.length →
    Ev (fun k => caulkref19_Merge.l0 k x l (l.length : Int) (P.length : Int)) ((R.foldl (fun x b => uins b x) x).foldl stepR [])
  | [], P, x, hl, hx => by
    have q : P.length = l.length := by rw [hl]; simp
    refine Ev.step (fun k => rfl) ?_
    simp only [caulkref19_Merge.l0]
    refine Ev.neg (by omega) ?_
    exact rmerge_l2 x (by omega) x.length 0 [] (by omega) (by simp) (by simp)
  | b :: R, P, x, hl, hx => by
    have q : l.length = P.length + R.length + 1 := by rw [hl]; simp; omega
    have g : rd l (P.length : Int) = b := by rw [hl, rd_nat]; simp [List.getD]
    have e1 : l = (P ++ [b]) ++ R := by rw [hl]; simp
    have e2 : (P ++ [b]).length = P.length + 1 := by simp
    have ul := uins_len b x
    have ih := rmerge_l0 l hm R (P ++ [b]) (uins b x) e1 (by omega)
    rw [e2] at ih
    refine Ev.step (fun k => rfl) ?_
    simp only [caulkref19_Merge.l0]
    refine Ev.pos (by omega) (Ev.pos (by omega) (Ev.pos (by omega) ?_))
    rw [g]
    have := ins_l1 l b P.length _ (by omega) x [] (by simp only [List.length_nil]; omega) (by rw [wrap_succ (by omega)]; exact ih)
    exact this
theorem rmerge_ev (l : List Int) (hm : l.length ≤ 100000) : Ev (fun k => caulkref19_Merge.f k l) ((uniq l).foldl stepR []) := by
  simp only [caulkref19_Merge.f]
  exact rmerge_l0 l hm l [] [] rfl (by simp)
theorem rd28_mid (P R : List S28) (x : S28) : rd_T28 (P ++ x :: R) (P.length : Int) = x := by simp [rd_T28, List.getD]
theorem rsame_l0 : ∀ (R P : List S28) (L : Nat), P.length + R.length = L → L ≤ 4611686018427387904 → Ev (fun k => caulkref19_SameRanges.l0 k (P ++ R) (P ++ R) (L : Int) (P.length : Int)) true
  | [], P, L, hL, hm => by
    refine Ev.step (fun k => rfl) ?_
    simp only [caulkref19_SameRanges.l0]
    exact Ev.neg (by rw [List.length_nil] at hL; omega) (Ev.now _)
  | x :: R, P, L, hL, hm => by
    rw [List.length_cons] at hL
    have ih := rsame_l0 R (P ++ [x]) L (by simp only [List.length_append, List.length_cons, List.length_nil]; omega) hm
    have e1 : P ++ [x] ++ R = P ++ x :: R := by simp
    have e2 : (P ++ [x]).length = P.length + 1 := by simp
    have hlen : ((P ++ x :: R).length : Int) = (L : Int) := by simp only [List.length_append, List.length_cons]; omega
    rw [e1, e2] at ih
    refine Ev.step (fun k => rfl) ?_
    simp only [caulkref19_SameRanges.l0]
    rw [hlen, wrap_succ (by omega)]
    simp only [rd28_mid]
    exact Ev.pos (by omega) (Ev.pos (by omega) (Ev.pos (by omega) (Ev.pos (by omega) (Ev.neg (by simp) ih))))
theorem rsame_ev (l : List S28) (hm : l.length ≤ 4611686018427387904) : Ev (fun k => caulkref19_SameRanges.f k l l) true := by
  simp only [caulkref19_SameRanges.f]
  exact Ev.pos (by trivial) (rsame_l0 l [] l.length (by simp) hm)
theorem rdI_mid (P R : List Int) (x : Int) : rd (P ++ x :: R) (P.length : Int) = x := by rw [rd_nat]; simp [List.getD]
theorem isame_l0 : ∀ (R P : List Int) (L : Nat), P.length + R.length = L → L ≤ 4611686018427387904 → Ev (fun k => caulkref05_Same.l0 k (P ++ R) (P ++ R) (L : Int) (P.length : Int)) true
  | [], P, L, hL, hm => by
    refine Ev.step (fun k => rfl) ?_
    simp only [caulkref05_Same.l0]
    exact Ev.neg (by rw [List.length_nil] at hL; omega) (Ev.now _)
  | x :: R, P, L, hL, hm => by
    rw [List.length_cons] at hL
    have ih := isame_l0 R (P ++ [x]) L (by simp only [List.length_append, List.length_cons, List.length_nil]; omega) hm
    have e1 : P ++ [x] ++ R = P ++ x :: R := by simp
    have e2 : (P ++ [x]).length = P.length + 1 := by simp
    have hlen : ((P ++ x :: R).length : Int) = (L : Int) := by simp only [List.length_append, List.length_cons]; omega
    rw [e1, e2] at ih
    refine Ev.step (fun k => rfl) ?_
    simp only [caulkref05_Same.l0]
    rw [hlen, wrap_succ (by omega)]
    try simp only [rdI_mid]
    exact Ev.pos (by omega) (Ev.pos (by omega) (Ev.pos (by omega) (Ev.pos (by omega) (Ev.pos (by trivial) ih))))
theorem isame_ev (l : List Int) (hm : l.length ≤ 4611686018427387904) : Ev (fun k => caulkref05_Same.f k l l) true := by
  simp only [caulkref05_Same.f]
  exact Ev.pos (by trivial) (isame_l0 l [] l.length (by simp) hm)
/-! ### blocks of ranges -/
def upTo (a : Int) : Nat → List Int
  | 0 => []
  | n + 1 => a :: upTo (a + 1) n
theorem upTo_len : ∀ (n : Nat) (a : Int), (upTo a n).length = n
  | 0, a => rfl
  | n + 1, a => by simp [upTo, upTo_len n]
def badB (acc : List Int) (x : S28) : Prop := x.f0 < 0 ∨ x.f1 < x.f0 ∨ x.f1 > 65536 ∨ (acc.length : Int) + (x.f1 - x.f0) > 65536
instance (acc : List Int) (x : S28) : Decidable (badB acc x) := by unfold badB; exact inferInstance
def blkS (acc : List Int) : List S28 → List Int × Int
  | [] => (acc, 0)
  | x :: r => if badB acc x then ([], 1) else blkS (acc ++ upTo x.f0 (x.f1 - x.f0).toNat) r
theorem blkS_len : ∀ (l : List S28) (acc : List Int), acc.length ≤ 65536 → (blkS acc l).1.length ≤ 65536
  | [], acc, h => h
  | x :: r, acc, h => by
    unfold blkS
    split
    · simp
    · rename_i hb
      unfold badB at hb
      exact blkS_len r _ (by rw [List.length_append, upTo_len]; omega)
theorem blk_l1 (l : List S28) (L i : Nat) (f0 f1 : Int) (hi : i < 9223372036854775807) : ∀ (d : Nat) (acc : List Int) (x : Int) (r : List Int × Int), x + d = f1 → 0 ≤ x → f1 ≤ 65536 → acc.length + d ≤ 65536 →
    Ev (fun k => span_Blocks.l0 k (acc ++ upTo x d) l (L : Int) ((i + 1 : Nat) : Int)) r → Ev (fun k => span_Blocks.l1 k acc x l (L : Int) (i : Int) f0 f1) r
  | 0, acc, x, r, hd, h0, h1, ha, hr => by
    refine Ev.step (fun k => rfl) ?_
    simp only [span_Blocks.l1]
    refine Ev.neg (by omega) ?_
    rw [wrap_succ (by omega)]
    simpa [upTo] using hr
  | d + 1, acc, x, r, hd, h0, h1, ha, hr => by
    refine Ev.step (fun k => rfl) ?_
    simp only [span_Blocks.l1]
    rw [wrap_in (n := x + 1) (by omega) (by omega)]
    refine Ev.pos (by omega) (Ev.pos (by omega) ?_)
    exact blk_l1 l L i f0 f1 hi d (acc ++ [x]) (x + 1) r (by omega) (by omega) h1 (by simp only [List.length_append, List.length_cons, List.length_nil]; omega) (by simpa [upTo] using hr)
theorem blk_l0 (l : List S28) (L : Nat) (hl : l.length = L) (hL : L ≤ 4611686018427387904) : ∀ (R P : List S28) (acc : List Int), l = P ++ R → acc.length ≤ 65536 → Ev (fun k => span_Blocks.l0 k acc l (L : Int) (P.length : Int)) (blkS acc R)
  | [], P, acc, h1, ha => by
    have q : P.length = L := by rw [← hl, h1]; simp
    refine Ev.step (fun k => rfl) ?_
    simp only [span_Blocks.l0]
    exact Ev.neg (by omega) (Ev.now _)
  | x :: R, P, acc, h1, ha => by
    have q : l.length = P.length + R.length + 1 := by rw [h1]; simp; omega
    have g : rd_T28 l (P.length : Int) = x := by rw [h1]; exact rd28_mid _ _ _
    have e1 : l = (P ++ [x]) ++ R := by rw [h1]; simp
    have e2 : (P ++ [x]).length = P.length + 1 := by simp
    have bad : badB acc x → ∀ b : Bool, b = true → Ev (fun k => span_Blocks.j1 k acc l (L : Int) (P.length : Int) b x.f0 x.f1) (blkS acc (x :: R)) := fun hb b hbt => by
      refine Ev.step (fun k => rfl) ?_
      simp only [span_Blocks.j1]
      refine Ev.pos hbt (Ev.some_ ?_)
      unfold blkS
      rw [if_pos hb]
    refine Ev.step (fun k => rfl) ?_
    simp only [span_Blocks.l0]
    rw [g]
    refine Ev.pos (by omega) (Ev.pos (by omega) (Ev.pos (by omega) ?_))
    by_cases c1 : x.f0 < 0
    · exact Ev.pos c1 (bad (.inl c1) _ rfl)
    refine Ev.neg c1 ?_
    by_cases c2 : x.f1 < x.f0
    · exact Ev.pos c2 (bad (.inr (.inl c2)) _ rfl)
    refine Ev.neg c2 ?_
    by_cases c3 : x.f1 > 65536
    · exact Ev.pos c3 (bad (.inr (.inr (.inl c3))) _ rfl)
    refine Ev.neg c3 ?_
    rw [wrap_in (n := x.f1 - x.f0) (by omega) (by omega), wrap_in (n := 65536 - (acc.length : Int)) (by omega) (by omega)]
    by_cases c4 : (acc.length : Int) + (x.f1 - x.f0) > 65536
    · exact bad (.inr (.inr (.inr c4))) _ (decide_eq_true (by omega))
    · have hnb : ¬ badB acc x := by unfold badB; omega
      have ih := blk_l0 l L hl hL R (P ++ [x]) (acc ++ upTo x.f0 (x.f1 - x.f0).toNat) e1 (by rw [List.length_append, upTo_len]; omega)
      rw [e2] at ih
      refine Ev.step (fun k => rfl) ?_
      simp only [span_Blocks.j1]
      refine Ev.neg (by rw [decide_eq_true_eq]; omega) ?_
      have eb : blkS acc (x :: R) = blkS (acc ++ upTo x.f0 (x.f1 - x.f0).toNat) R := by
        show (if badB acc x then _ else _) = _
        rw [if_neg hnb]
      rw [eb]
      exact blk_l1 l L P.length x.f0 x.f1 (by omega) (x.f1 - x.f0).toNat acc x.f0 _ (by omega) (by omega) (by omega) (by omega) ih
theorem blk_ev (l : List S28) (hL : l.length ≤ 4611686018427387904) : Ev (fun k => span_Blocks.f k l) (blkS [] l) := by
  simp only [span_Blocks.f]
  exact blk_l0 l l.length rfl hL l [] [] rfl (by simp)
theorem rblk_l1 (l : List S28) (L i : Nat) (f0 f1 : Int) (hi : i < 9223372036854775807) : ∀ (d : Nat) (acc : List Int) (x : Int) (r : List Int × Int), x + d = f1 → 0 ≤ x → f1 ≤ 65536 → acc.length + d ≤ 65536 →
    Ev (fun k => caulkref19_Blocks.l0 k (acc ++ upTo x d) l (L : Int) ((i + 1 : Nat) : Int)) r → Ev (fun k => caulkref19_Blocks.l1 k acc x l (L : Int) (i : Int) f0 f1) r
  | 0, acc, x, r, hd, h0, h1, ha, hr => by
    refine Ev.step (fun k => rfl) ?_
    simp only [caulkref19_Blocks.l1]
    refine Ev.neg (by omega) ?_
    rw [wrap_succ (by omega)]
    simpa [upTo] using hr
  | d + 1, acc, x, r, hd, h0, h1, ha, hr => by
    refine Ev.step (fun k => rfl) ?_
    simp only [caulkref19_Blocks.l1]
    rw [wrap_in (n := x + 1) (by omega) (by omega)]
    refine Ev.pos (by omega) (Ev.pos (by omega) ?_)
    exact rblk_l1 l L i f0 f1 hi d (acc ++ [x]) (x + 1) r (by omega) (by omega) h1 (by simp only [List.length_append, List.length_cons, List.length_nil]; omega) (by simpa [upTo] using hr)
theorem rblk_l0 (l : List S28) (L : Nat) (hl : l.length = L) (hL : L ≤ 4611686018427387904) : ∀ (R P : List S28) (acc : List Int), l = P ++ R → acc.length ≤ 65536 → Ev (fun k => caulkref19_Blocks.l0 k acc l (L : Int) (P.length : Int)) (blkS acc R)
  | [], P, acc, h1, ha => by
    have q : P.length = L := by rw [← hl, h1]; simp
    refine Ev.step (fun k => rfl) ?_
    simp only [caulkref19_Blocks.l0]
    exact Ev.neg (by omega) (Ev.now _)
  | x :: R, P, acc, h1, ha => by
    have q : l.length = P.length + R.length + 1 := by rw [h1]; simp; omega
    have g : rd_T28 l (P.length : Int) = x := by rw [h1]; exact rd28_mid _ _ _
    have e1 : l = (P ++ [x]) ++ R := by rw [h1]; simp
    have e2 : (P ++ [x]).length = P.length + 1 := by simp
    have bad : badB acc x → ∀ b : Bool, b = true → Ev (fun k => caulkref19_Blocks.j1 k acc l (L : Int) (P.length : Int) b x.f0 x.f1) (blkS acc (x :: R)) := fun hb b hbt => by
      refine Ev.step (fun k => rfl) ?_
      simp only [caulkref19_Blocks.j1]
      refine Ev.pos hbt (Ev.some_ ?_)
      unfold blkS
      rw [if_pos hb]
    refine Ev.step (fun k => rfl) ?_
    simp only [caulkref19_Blocks.l0]
    rw [g]
    refine Ev.pos (by omega) (Ev.pos (by omega) (Ev.pos (by omega) ?_))
    by_cases c1 : x.f0 < 0
    · exact Ev.pos c1 (bad (.inl c1) _ rfl)
    refine Ev.neg c1 ?_
    by_cases c2 : x.f1 < x.f0
    · exact Ev.pos c2 (bad (.inr (.inl c2)) _ rfl)
    refine Ev.neg c2 ?_
    by_cases c3 : x.f1 > 65536
    · exact Ev.pos c3 (bad (.inr (.inr (.inl c3))) _ rfl)
    refine Ev.neg c3 ?_
    rw [wrap_in (n := (acc.length : Int) + x.f1) (by omega) (by omega), wrap_in (n := (acc.length : Int) + x.f1 - x.f0) (by omega) (by omega)]
    by_cases c4 : (acc.length : Int) + (x.f1 - x.f0) > 65536
    · exact bad (.inr (.inr (.inr c4))) _ (decide_eq_true (by omega))
    · have hnb : ¬ badB acc x := by unfold badB; omega
      have ih := rblk_l0 l L hl hL R (P ++ [x]) (acc ++ upTo x.f0 (x.f1 - x.f0).toNat) e1 (by rw [List.length_append, upTo_len]; omega)
      rw [e2] at ih
      refine Ev.step (fun k => rfl) ?_
      simp only [caulkref19_Blocks.j1]
      refine Ev.neg (by rw [decide_eq_true_eq]; omega) ?_
      have eb : blkS acc (x :: R) = blkS (acc ++ upTo x.f0 (x.f1 - x.f0).toNat) R := by
        show (if badB acc x then _ else _) = _
        rw [if_neg hnb]
      rw [eb]
      exact rblk_l1 l L P.length x.f0 x.f1 (by omega) (x.f1 - x.f0).toNat acc x.f0 _ (by omega) (by omega) (by omega) (by omega) ih
theorem rblk_ev (l : List S28) (hL : l.length ≤ 4611686018427387904) : Ev (fun k => caulkref19_Blocks.f k l) (blkS [] l) := by
  simp only [caulkref19_Blocks.f]
  exact rblk_l0 l l.length rfl hL l [] [] rfl (by simp)
/-! ### the document's join, and what is laid over -/
theorem data_snoc (d : List UInt8) (p : ByteArray) : (⟨d.toArray⟩ : ByteArray) ++ p = ⟨(d ++ p.data.toList).toArray⟩ := by
  apply ByteArray.ext
  rw [ByteArray.data_append]
  simp
theorem rjoin_l0 (size : Int) (hs : size ≤ 65536) (l : List S43) (parts : List ByteArray) (L : Nat) (hl : l.length = L) (hL : L ≤ 100000) (hp : parts.length = L) : ∀ (R P : List S43) (R' P' : List ByteArray) (d : List UInt8), l = P ++ R → parts = P' ++ R' → P.length = P'.length →
    d.length ≤ 65536 * P.length → Ev (fun k => caulkref19_Join.l0 k size parts ⟨d.toArray⟩ l (L : Int) (P.length : Int)) (joinR size R R' (d ++ joinD R'))
  | [], P, [], P', d, h1, h2, h3, hd => by
    have q : P.length = L := by rw [← hl, h1]; simp
    refine Ev.step (fun k => rfl) ?_
    simp only [caulkref19_Join.l0]
    exact Ev.neg (by omega) (Ev.some_ (by simp [joinR, fitAll, joinD]))
  | x :: R, P, p :: R', P', d, h1, h2, h3, hd => by
    have q1 : l.length = P.length + R.length + 1 := by rw [h1]; simp; omega
    have q2 : parts.length = P'.length + R'.length + 1 := by rw [h2]; simp; omega
    have g1 : rd_T43 l (P.length : Int) = x := by rw [h1]; exact rd43_mid _ _ _
    have g2 : rdOf ByteArray.empty parts (P.length : Int) = p := by rw [h2, h3]; exact rdB_mid _ _ _
    have e1 : l = (P ++ [x]) ++ R := by rw [h1]; simp
    have e2 : parts = (P' ++ [p]) ++ R' := by rw [h2]; simp
    have e3 : (P ++ [x]).length = P.length + 1 := by simp
    have no : ¬ fitP size x p → ((⟨#[]⟩ : ByteArray), (2 : Int)) = joinR size (x :: R) (p :: R') (d ++ joinD (p :: R')) := fun h => (joinR_no _ _ _ h).symm
    refine Ev.step (fun k => rfl) ?_
    simp only [caulkref19_Join.l0]
    rw [g1, g2, wrap_succ (by omega)]
    refine Ev.pos (by omega) (Ev.pos (by omega) (Ev.pos (by omega) ?_))
    by_cases c1 : x.f1 < 0
    · exact Ev.pos c1 (Ev.some_ (no (by unfold fitP; omega)))
    refine Ev.neg c1 ?_
    by_cases c2 : x.f2 > size
    · exact Ev.pos c2 (Ev.some_ (no (by unfold fitP; omega)))
    refine Ev.neg c2 ?_
    by_cases c3 : x.f2 < x.f1
    · exact Ev.pos c3 (Ev.some_ (no (by unfold fitP; omega)))
    refine Ev.neg c3 (Ev.pos (by omega) ?_)
    rw [wrap_in (n := x.f2 - x.f1) (by omega) (by omega)]
    by_cases c4 : (p.size : Int) = x.f2 - x.f1
    · have hds : (⟨d.toArray⟩ : ByteArray).size = d.length := by simp [ByteArray.size]
      refine Ev.pos c4 (Ev.pos (by rw [hds]; omega) ?_)
      rw [joinR_yes _ _ _ (by unfold fitP; omega), joinD_cons, ← List.append_assoc, data_snoc]
      have hpl : p.data.toList.length = p.size := data_length p
      have ih := rjoin_l0 size hs l parts L hl hL hp R (P ++ [x]) R' (P' ++ [p]) (d ++ p.data.toList) e1 e2 (by simp [h3]) (by rw [List.length_append, e3]; omega)
      rw [e3] at ih
      exact ih
    · exact Ev.neg c4 (Ev.some_ (no (by unfold fitP; omega)))
  | [], P, p :: R', P', d, h1, h2, h3, hd => by
    have q1 : l.length = P.length := by rw [h1]; simp
    have q2 : parts.length = P'.length + R'.length + 1 := by rw [h2]; simp; omega
    omega
  | x :: R, P, [], P', d, h1, h2, h3, hd => by
    have q1 : l.length = P.length + R.length + 1 := by rw [h1]; simp; omega
    have q2 : parts.length = P'.length := by rw [h2]; simp
    omega
theorem rjoin_ev (size : Int) (l : List S43) (parts : List ByteArray) (hp : parts.length ≤ 100000) : Ev (fun k => caulkref19_Join.f k size l parts) (joinS size l parts) := by
  simp only [caulkref19_Join.f]
  by_cases h : okP size 0 0
  · rw [(right_ok h).2]
    refine Ev.let_ (Ev.pos rfl ?_)
    have h' := h
    unfold okP at h'
    by_cases hl : l.length = parts.length
    · refine Ev.pos (by omega) (Ev.value (rjoin_l0 size (by omega) l parts l.length rfl (by omega) hl.symm l [] parts [] [] rfl rfl rfl (by simp)) ?_)
      simp [joinS, h, hl]
    · exact Ev.neg (by omega) (Ev.some_ (by simp [joinS, h, hl]))
  · rw [(right_not h).2]
    exact Ev.let_ (Ev.neg (by simp) (Ev.some_ (by simp [joinS, h])))
def ovS (a0 : ByteArray) (x : S43) (p : ByteArray) : ByteArray × Int := if fitP (a0.size : Int) x p then (overS a0 x.f1 x.f2 p, 0) else (⟨#[]⟩, 2)
theorem over_eq (a0 : ByteArray) (h0 : a0.size ≤ 140737488355328) (x : S43) (p : ByteArray) : span_Over.f a0 x.f0 x.f1 x.f2 p = some (ovS a0 x p) := by
  unfold span_Over.f ovS
  rw [fits_eq (by omega), Option.bind_some]
  by_cases h : fitP (a0.size : Int) x p
  · rw [if_pos (by simp [h]), if_pos h0, if_pos h]
  · rw [if_neg (by simp [h]), if_neg h]
theorem rover_eq (a0 : ByteArray) (h0 : a0.size ≤ 140737488355328) (x : S43) (p : ByteArray) : caulkref19_Over.f a0 x.f0 x.f1 x.f2 p = some (ovS a0 x p) := by
  unfold caulkref19_Over.f ovS
  by_cases c1 : x.f1 < 0
  · rw [if_pos c1, if_neg (by unfold fitP; omega)]
  rw [if_neg c1]
  by_cases c2 : x.f2 > (a0.size : Int)
  · rw [if_pos c2, if_neg (by unfold fitP; omega)]
  rw [if_neg c2]
  by_cases c3 : x.f2 < x.f1
  · rw [if_pos c3, if_neg (by unfold fitP; omega)]
  rw [if_neg c3, wrap_in (n := x.f2 - x.f1) (by omega) (by omega)]
  by_cases c4 : (p.size : Int) = x.f2 - x.f1
  · have s1 : (a0.extract 0 x.f1.toNat).size = x.f1.toNat := by rw [ByteArray.size_extract]; omega
    have s2 : (a0.extract x.f2.toNat a0.size).size = a0.size - x.f2.toNat := by rw [ByteArray.size_extract]; omega
    rw [if_pos c4, if_pos (by omega), if_pos (by omega), if_pos (by rw [s1]; omega), if_pos (by omega), if_pos (by omega), if_pos (by rw [ByteArray.size_append, s1, s2]; omega), if_pos (by unfold fitP; omega)]
    rfl
  · rw [if_neg c4, if_neg (by unfold fitP; omega)]
/-! ### small lists -/
theorem small_l0 (l : List Int) (hL : l.length ≤ 4611686018427387904) : ∀ (R P : List Int), l = P ++ R → ∃ b : Bool, (b = true → l.length ≤ 300) ∧ Ev (fun k => caulklaw19_small.l0 k l l (l.length : Int) (P.length : Int)) b
  | [], P, h1 => by
    have q : P.length = l.length := by rw [h1]; simp
    refine ⟨decide ((l.length : Int) ≤ 300), fun h => by simp at h; omega, ?_⟩
    refine Ev.step (fun k => rfl) ?_
    simp only [caulklaw19_small.l0]
    exact Ev.neg (by omega) (Ev.now _)
  | x :: R, P, h1 => by
    have q : l.length = P.length + R.length + 1 := by rw [h1]; simp; omega
    have g : rd l (P.length : Int) = x := by rw [h1]; exact rdI_mid _ _ _
    have e1 : l = (P ++ [x]) ++ R := by rw [h1]; simp
    have e2 : (P ++ [x]).length = P.length + 1 := by simp
    by_cases c : x > 1099511627776
    · refine ⟨false, fun h => by simp at h, ?_⟩
      refine Ev.step (fun k => rfl) ?_
      simp only [caulklaw19_small.l0]
      rw [g]
      exact Ev.pos (by omega) (Ev.pos (by omega) (Ev.pos (by omega) (Ev.pos c (Ev.now _))))
    · obtain ⟨b, hb, ih⟩ := small_l0 l hL R (P ++ [x]) e1
      rw [e2] at ih
      refine ⟨b, hb, ?_⟩
      refine Ev.step (fun k => rfl) ?_
      simp only [caulklaw19_small.l0]
      rw [g, wrap_succ (by omega)]
      exact Ev.pos (by omega) (Ev.pos (by omega) (Ev.pos (by omega) (Ev.neg c ih)))
end Go.Proofs.Ytepbhlngcaiklaa.Pure
