/- The plain laws on the elevator's sort: by insertion in blocks of twenty, by merging in place (symMerge), and by halving. No program's step in sight: the printed functions alone. Conditions: none. -/
import Derived.Test.YtgahpdoiddhdaaaGElevElevLem
import Derived.Test.YtgahpdoiddhdaaaGElevx7
namespace Go.Proofs.Ytgahpdoiddhdaaa.Pure
open Go.RowKit Go.Proofs.Ytgahpdoiddhdaaa Go.Proofs.YtgahpdoiddhdaaaW.PrintWords Go.Proofs.YtgahpdoiddhdaaaW.PrintLast Go.Proofs.YtgahpdoiddhdaaaW.PrintMore Go.Proofs.Ytgahpdoiddhdaaa.PKit Go.Proofs.Ytgahpdoiddhdaaa.HElev
set_option linter.unusedVariables false
set_option linter.unusedSimpArgs false

/-! ### what two lists of the same requests share -/
theorem SameF.mem {x y : List S37} (h : SameF x y) (r : S37) : r ∈ x ↔ r ∈ y := by
  have e := h r.f0
  constructor
  · intro hr
    have : r ∈ x.filter (fun q => q.f0 == r.f0) := List.mem_filter.2 ⟨hr, by simp⟩
    rw [e] at this
    exact (List.mem_filter.1 this).1
  · intro hr
    have : r ∈ y.filter (fun q => q.f0 == r.f0) := List.mem_filter.2 ⟨hr, by simp⟩
    rw [← e] at this
    exact (List.mem_filter.1 this).1
instance : DecidableEq S37 := fun a b => by
  cases a; cases b
  simp only [S37.mk.injEq]
  exact inferInstance
theorem SameF.perm {x y : List S37} (h : SameF x y) : x.Perm y := by
  rw [List.perm_iff_count]
  intro r
  have e := h r.f0
  have h1 : List.count r (x.filter (fun q => q.f0 == r.f0)) = List.count r x := List.count_filter (by simp)
  have h2 : List.count r (y.filter (fun q => q.f0 == r.f0)) = List.count r y := List.count_filter (by simp)
  rw [← h1, ← h2, e]
theorem SameF.length {x y : List S37} (h : SameF x y) : x.length = y.length := h.perm.length_eq
theorem SameF.one {x : S37} {b : List S37} (h : ∀ y ∈ b, x.f0 ≠ y.f0) : SameF (x :: b) (b ++ [x]) := SameF.swap (a := [x]) (by simpa using h)

/-! ### lists in order -/
theorem Up.nil : Up [] := List.Pairwise.nil
theorem Up.append {a b : List S37} (ha : Up a) (hb : Up b) (h : ∀ x ∈ a, ∀ y ∈ b, x.f0 ≤ y.f0) : Up (a ++ b) := List.pairwise_append.2 ⟨ha, hb, h⟩
theorem Up.left {a b : List S37} (h : Up (a ++ b)) : Up a := (List.pairwise_append.1 h).1
theorem Up.right {a b : List S37} (h : Up (a ++ b)) : Up b := (List.pairwise_append.1 h).2.1
theorem Up.across {a b : List S37} (h : Up (a ++ b)) : ∀ x ∈ a, ∀ y ∈ b, x.f0 ≤ y.f0 := (List.pairwise_append.1 h).2.2
theorem Up.get {l : List S37} (h : Up l) {i j : Nat} (hij : i ≤ j) (hj : j < l.length) : (l.getD i z37).f0 ≤ (l.getD j z37).f0 := by
  rcases Nat.eq_or_lt_of_le hij with e | e
  · subst e; exact Int.le_refl _
  · have := List.pairwise_iff_getElem.1 h i j (by omega) hj e
    rw [getD_lt _ (by omega), getD_lt _ hj]
    exact this

/-! ### insertion -/
theorem wrap_pred {n : Nat} (h : n + 1 ≤ 4611686018427387904) : wrap64 (((n + 1 : Nat) : Int) - 1) = (n : Int) := by rw [wrap_in (by omega) (by omega)]; omega
theorem pair2 (P S : List S37) (y x : S37) (i : Nat) (h : P.length = i) :
    (P ++ y :: x :: S).getD i z37 = y ∧ (P ++ y :: x :: S).getD (i + 1) z37 = x ∧ ((P ++ y :: x :: S).set (i + 1) y).set i x = P ++ x :: y :: S ∧ ((P ++ y :: x :: S).set i x).set (i + 1) y = P ++ x :: y :: S := by
  have f : ∀ u v : S37, P ++ u :: v :: S = (P ++ [u]) ++ v :: S := fun u v => by simp
  have l : ∀ u : S37, (P ++ [u]).length = i + 1 := fun u => by simp [h]
  refine ⟨by rw [← h]; exact getD_mid _ _ _ _, by rw [f, ← l y]; exact getD_mid _ _ _ _, ?_, ?_⟩
  · rw [f, ← l y, set_mid, ← f, ← h, set_mid]
  · rw [← h, set_mid, f, h, ← l x, set_mid, ← f]
theorem ins_l1 : ∀ (n : Nat) (D1 : List S37) (x : S37) (D2 P S : List S37) (a b i L : Nat), D1.length = n → Up (D1 ++ D2) → (∀ y ∈ D2, x.f0 < y.f0) → P.length = a → a + n + D2.length = i →
    L = P.length + n + 1 + D2.length + S.length → L ≤ 4611686018427387904 →
    ∃ D, D.length = n + 1 + D2.length ∧ Up D ∧ SameF (D1 ++ x :: D2) D ∧ ∀ r, Ev (fun k => api_Req_126__elevator_Order_1.l0 k (P ++ D ++ S) (a : Int) (b : Int) ((i + 1 : Nat) : Int)) r →
      Ev (fun k => api_Req_126__elevator_Order_1.l1 k (P ++ D1 ++ x :: (D2 ++ S)) (a : Int) (b : Int) (i : Int) ((a + n : Nat) : Int)) r
  | 0, D1, x, D2, P, S, a, b, i, L, hn, hup, hx, ha, hi, hL, hm => by
    obtain rfl : D1 = [] := List.length_eq_zero_iff.1 hn
    refine ⟨x :: D2, by simp only [List.length_cons]; omega, List.pairwise_cons.2 ⟨fun y hy => Int.le_of_lt (hx y hy), hup⟩, SameF.refl _, fun r hr => ?_⟩
    simp only [List.append_nil, List.cons_append, List.append_assoc] at hr ⊢
    refine Ev.step (fun k => rfl) ?_
    simp only [api_Req_126__elevator_Order_1.l1]
    refine Ev.neg (by omega) ?_
    rw [wrap_succ (by omega)]
    exact hr
  | n + 1, D1, x, D2, P, S, a, b, i, L, hn, hup, hx, ha, hi, hL, hm => by
    obtain ⟨C, y, rfl⟩ : ∃ C y, D1 = C ++ [y] := ⟨D1.dropLast, D1.getLast (by intro h; simp [h] at hn), (List.dropLast_concat_getLast _).symm⟩
    have hC : C.length = n := by simpa using hn
    have hgl : (P ++ C).length = a + n := by rw [List.length_append]; omega
    obtain ⟨g1, g2, g3, _⟩ := pair2 (P ++ C) (D2 ++ S) y x (a + n) hgl
    have hlen : ((P ++ C ++ y :: x :: (D2 ++ S)).length : Int) = (L : Int) := by simp only [List.length_append, List.length_cons]; omega
    have f1 : P ++ (C ++ [y]) ++ x :: (D2 ++ S) = P ++ C ++ y :: x :: (D2 ++ S) := by simp
    have ea : ((a + (n + 1) : Nat) : Int) = ((a + n + 1 : Nat) : Int) := rfl
    by_cases hc : x.f0 < y.f0
    · have hup' : Up (C ++ y :: D2) := by simpa using hup
      have hx' : ∀ z ∈ y :: D2, x.f0 < z.f0 := by
        intro z hz
        rcases List.mem_cons.1 hz with rfl | hz
        · exact hc
        · exact hx z hz
      obtain ⟨D, hDl, hDu, hDs, hD⟩ := ins_l1 n C x (y :: D2) P S a b i L hC hup' hx' ha (by rw [List.length_cons]; omega) (by rw [List.length_cons]; omega) hm
      rw [List.length_cons] at hDl
      refine ⟨D, by omega, hDu, ?_, fun r hr => ?_⟩
      · refine SameF.trans ?_ hDs
        have h1 : SameF ([y] ++ [x]) ([x] ++ [y]) := SameF.swap (by intro u hu v hv; simp only [List.mem_singleton] at hu hv; subst hu; subst hv; omega)
        have h2 := SameF.mid (p := C) (s := D2) h1
        simpa using h2
      · have ih := hD r hr
        simp only [List.cons_append] at ih
        rw [ea, f1]
        refine Ev.step (fun k => rfl) ?_
        simp only [api_Req_126__elevator_Order_1.l1]
        rw [wrap_pred (by omega), hlen]
        clear hlen
        refine Ev.pos (by omega) (Ev.pos (by omega) (Ev.pos (by omega) (Ev.pos (by omega) (Ev.pos (by omega) ?_))))
        simp only [eta37, rdT_nat, Int.toNat_natCast, g1, g2, g3, ord_ev, Option.bind_some, ord_neg]
        exact Ev.pos hc ih
    · refine ⟨(C ++ [y]) ++ x :: D2, by simp only [List.length_append, List.length_cons, List.length_nil]; omega, ?_, SameF.refl _, fun r hr => ?_⟩
      · refine Up.append hup.left (List.pairwise_cons.2 ⟨fun z hz => Int.le_of_lt (hx z hz), hup.right⟩) ?_
        intro u hu v hv
        have huy : u.f0 ≤ y.f0 := by
          rcases List.mem_append.1 hu with h | h
          · exact hup.left.across u h y (by simp)
          · simp only [List.mem_singleton] at h; subst h; exact Int.le_refl _
        rcases List.mem_cons.1 hv with rfl | hv
        · omega
        · have := hx v hv; omega
      · have hr' : Ev (fun k => api_Req_126__elevator_Order_1.l0 k (P ++ C ++ y :: x :: (D2 ++ S)) (a : Int) (b : Int) ((i + 1 : Nat) : Int)) r := by
          have : P ++ (C ++ [y] ++ x :: D2) ++ S = P ++ C ++ y :: x :: (D2 ++ S) := by simp
          rw [this] at hr
          exact hr
        rw [ea, f1]
        refine Ev.step (fun k => rfl) ?_
        simp only [api_Req_126__elevator_Order_1.l1]
        rw [wrap_pred (by omega), hlen]
        clear hlen
        refine Ev.pos (by omega) (Ev.pos (by omega) (Ev.pos (by omega) (Ev.pos (by omega) (Ev.pos (by omega) ?_))))
        simp only [rdT_nat, g1, g2, ord_ev, Option.bind_some, ord_neg]
        refine Ev.neg hc ?_
        rw [wrap_succ (by omega)]
        exact hr'
theorem ins_l0 : ∀ (n : Nat) (D R P S : List S37) (a b L : Nat), R.length = n → Up D → 0 < D.length → P.length = a → a + D.length + n = b →
    L = P.length + D.length + n + S.length → L ≤ 4611686018427387904 →
    ∃ E, E.length = D.length + n ∧ Up E ∧ SameF (D ++ R) E ∧ Ev (fun k => api_Req_126__elevator_Order_1.l0 k (P ++ D ++ (R ++ S)) (a : Int) (b : Int) ((a + D.length : Nat) : Int)) (P ++ E ++ S)
  | 0, D, R, P, S, a, b, L, hn, hup, h0, ha, hb, hL, hm => by
    obtain rfl : R = [] := List.length_eq_zero_iff.1 hn
    refine ⟨D, by omega, hup, by simpa using SameF.refl D, ?_⟩
    refine Ev.step (fun k => rfl) ?_
    simp only [api_Req_126__elevator_Order_1.l0]
    exact Ev.neg (by omega) (Ev.some_ (by simp))
  | n + 1, D, [], P, S, a, b, L, hn, hup, h0, ha, hb, hL, hm => by simp at hn
  | n + 1, D, x :: R, P, S, a, b, L, hn, hup, h0, ha, hb, hL, hm => by
    rw [List.length_cons] at hn
    obtain ⟨D', hl', hu', hs', h'⟩ := ins_l1 D.length D x [] P (R ++ S) a b (a + D.length) L rfl (by simpa using hup) (by simp) ha (by simp) (by simp only [List.length_nil, List.length_append]; omega) hm
    simp only [List.length_nil, Nat.add_zero] at hl'
    obtain ⟨E, hEl, hEu, hEs, hE⟩ := ins_l0 n D' R P S a b L (by omega) hu' (by omega) ha (by omega) (by omega) hm
    refine ⟨E, by omega, hEu, ?_, ?_⟩
    · have h1 := SameF.append hs' (SameF.refl R)
      have e : D ++ x :: R = D ++ [x] ++ R := by simp
      rw [e]
      exact SameF.trans h1 hEs
    · refine Ev.step (fun k => rfl) ?_
      simp only [api_Req_126__elevator_Order_1.l0]
      refine Ev.pos (by omega) ?_
      refine h' _ ?_
      have e2 : a + D.length + 1 = a + D'.length := by omega
      rw [e2]
      exact hE
/-- Sorting by insertion: the part from a to b is in order then, and of each place as it was. -/
theorem ins_ev (A P S : List S37) (a b : Nat) (ha : P.length = a) (hb : a + A.length = b) (hm : P.length + A.length + S.length ≤ 4611686018427387904) :
    ∃ E, E.length = A.length ∧ Up E ∧ SameF A E ∧ Ev (fun k => api_Req_126__elevator_Order_1.f k (P ++ A ++ S) (a : Int) (b : Int)) (P ++ E ++ S) := by
  simp only [api_Req_126__elevator_Order_1.f]
  rw [wrap_succ (by omega)]
  match A, hb, hm with
  | [], hb, hm =>
    refine ⟨[], rfl, Up.nil, SameF.refl _, ?_⟩
    refine Ev.step (fun k => rfl) ?_
    simp only [api_Req_126__elevator_Order_1.l0]
    exact Ev.neg (by rw [List.length_nil] at hb; omega) (Ev.now _)
  | x :: A, hb, hm =>
    rw [List.length_cons] at hb hm
    obtain ⟨E, h1, h2, h3, h4⟩ := ins_l0 A.length [x] A P S a b _ rfl (List.pairwise_singleton _ _) (by simp) ha (by simp only [List.length_cons, List.length_nil]; omega) rfl (by simp only [List.length_cons, List.length_nil]; omega)
    refine ⟨E, by simp only [List.length_cons, List.length_nil] at h1 ⊢; omega, h2, by simpa using h3, ?_⟩
    simpa using h4

/-! ### halving -/
theorem half_lt {i j : Nat} (h : i < j) (hm : j ≤ 4611686018427387904) : wrap64 (IntKind.u64.wrap (wrap64 ((i : Int) + (j : Int))) / 2) = (((i + j) / 2 : Nat) : Int) := by
  rw [wrap_in (n := (i : Int) + (j : Int)) (by omega) (by omega), IntWalk.u64_in _ ⟨by omega, by omega⟩, wrap_in (by omega) (by omega)]
  omega
theorem cut_at {i : Nat} {l : List S37} (h : i ≤ l.length) : ∃ u v, l = u ++ v ∧ u.length = i ∧ v.length = l.length - i := ⟨l.take i, l.drop i, (List.take_append_drop _ _).symm, by rw [List.length_take]; omega, by rw [List.length_drop]⟩
/-- One request moved up behind those below it. -/
theorem up_l1 : ∀ (B1 : List S37) (x : S37) (P R : List S37) (c i L : Nat), P.length = c → c + B1.length + 1 = i → L = P.length + 1 + B1.length + R.length → L ≤ 4611686018427387904 →
    Ev (fun k => api_Req_127__elevator_Order_1.l1 k (P ++ x :: (B1 ++ R)) (i : Int) (c : Int)) (P ++ (B1 ++ x :: R))
  | [], x, P, R, c, i, L, hc, hi, hL, hm => by
    rw [List.length_nil] at hi hL
    obtain ⟨i, rfl⟩ : ∃ n, i = n + 1 := ⟨i - 1, by omega⟩
    refine Ev.step (fun k => rfl) ?_
    simp only [api_Req_127__elevator_Order_1.l1]
    rw [wrap_pred (by omega)]
    exact Ev.neg (by omega) (Ev.now _)
  | y :: B1, x, P, R, c, i, L, hc, hi, hL, hm => by
    rw [List.length_cons] at hi hL
    obtain ⟨i, rfl⟩ : ∃ n, i = n + 1 := ⟨i - 1, by omega⟩
    obtain ⟨g1, g2, g3, g4⟩ := pair2 P (B1 ++ R) x y c hc
    have ih := up_l1 B1 x (P ++ [y]) R (c + 1) (i + 1) L (by simp [hc]) (by omega) (by simp only [List.length_append, List.length_cons, List.length_nil]; omega) hm
    have hlen : ((P ++ x :: y :: (B1 ++ R)).length : Int) = (L : Int) := by simp only [List.length_append, List.length_cons]; omega
    rw [List.cons_append]
    refine Ev.step (fun k => rfl) ?_
    simp only [api_Req_127__elevator_Order_1.l1]
    rw [wrap_pred (by omega), wrap_succ (by omega), hlen]
    clear hlen
    refine Ev.pos (by omega) (Ev.pos (by omega) (Ev.pos (by omega) (Ev.pos (by omega) (Ev.pos (by omega) ?_))))
    simp only [eta37, rdT_nat, Int.toNat_natCast, g1, g2, g4]
    have e1 : P ++ y :: x :: (B1 ++ R) = P ++ [y] ++ x :: (B1 ++ R) := by simp
    have e2 : P ++ (y :: (B1 ++ x :: R)) = P ++ [y] ++ (B1 ++ x :: R) := by simp
    rw [e1]
    simp only [List.cons_append]
    rw [e2]
    exact ih
/-- One request moved down ahead of those above it. -/
theorem down_l3 : ∀ (n : Nat) (A2 : List S37) (y : S37) (P S : List S37) (i L : Nat), A2.length = n → P.length = i → L = P.length + 1 + n + S.length → L ≤ 4611686018427387904 →
    Ev (fun k => api_Req_127__elevator_Order_1.l3 k (P ++ A2 ++ y :: S) (i : Int) ((i + n : Nat) : Int)) (P ++ y :: (A2 ++ S))
  | 0, A2, y, P, S, i, L, hn, hi, hL, hm => by
    obtain rfl : A2 = [] := List.length_eq_zero_iff.1 hn
    refine Ev.step (fun k => rfl) ?_
    simp only [api_Req_127__elevator_Order_1.l3]
    exact Ev.neg (by omega) (Ev.some_ (by simp))
  | n + 1, A2, y, P, S, i, L, hn, hi, hL, hm => by
    obtain ⟨C, z, rfl⟩ : ∃ C z, A2 = C ++ [z] := ⟨A2.dropLast, A2.getLast (by intro h; simp [h] at hn), (List.dropLast_concat_getLast _).symm⟩
    have hC : C.length = n := by simpa using hn
    have hgl : (P ++ C).length = i + n := by rw [List.length_append]; omega
    obtain ⟨g1, g2, g3, _⟩ := pair2 (P ++ C) S z y (i + n) hgl
    have hlen : ((P ++ C ++ z :: y :: S).length : Int) = (L : Int) := by simp only [List.length_append, List.length_cons]; omega
    have f1 : P ++ (C ++ [z]) ++ y :: S = P ++ C ++ z :: y :: S := by simp
    have f2 : P ++ y :: (C ++ [z] ++ S) = P ++ y :: (C ++ z :: S) := by simp
    have ih := down_l3 n C y P (z :: S) i L hC hi (by rw [List.length_cons]; omega) hm
    have ea : ((i + (n + 1) : Nat) : Int) = ((i + n + 1 : Nat) : Int) := rfl
    rw [ea, f1, f2]
    refine Ev.step (fun k => rfl) ?_
    simp only [api_Req_127__elevator_Order_1.l3]
    rw [wrap_pred (by omega), hlen]
    clear hlen
    refine Ev.pos (by omega) (Ev.pos (by omega) (Ev.pos (by omega) (Ev.pos (by omega) (Ev.pos (by omega) ?_))))
    simp only [eta37, rdT_nat, Int.toNat_natCast, g1, g2, g3]
    exact ih
/-- Halving for the first that is not below x. -/
theorem bin_l0 : ∀ (d : Nat) (D : List S37) (x : S37) (a i j lo hi L : Nat), j - i ≤ d → i ≤ j → lo ≤ i → j ≤ hi → hi ≤ L → a < L → D.length = L → L ≤ 4611686018427387904 → D.getD a z37 = x →
    (i = lo ∨ (D.getD (i - 1) z37).f0 < x.f0) → (j = hi ∨ ¬ (D.getD j z37).f0 < x.f0) →
    ∃ c, lo ≤ c ∧ c ≤ hi ∧ (c = lo ∨ (D.getD (c - 1) z37).f0 < x.f0) ∧ (c = hi ∨ ¬ (D.getD c z37).f0 < x.f0) ∧
      ∀ r, Ev (fun k => api_Req_127__elevator_Order_1.l1 k D (c : Int) (a : Int)) r → Ev (fun k => api_Req_127__elevator_Order_1.l0 k D (a : Int) (i : Int) (j : Int)) r
  | 0, D, x, a, i, j, lo, hi, L, hd, hij, hlo, hhi, hL, ha, hD, hm, hx, h1, h2 => by
    obtain rfl : i = j := by omega
    refine ⟨i, hlo, hhi, h1, h2, fun r hr => ?_⟩
    refine Ev.step (fun k => rfl) ?_
    simp only [api_Req_127__elevator_Order_1.l0]
    exact Ev.neg (by omega) hr
  | d + 1, D, x, a, i, j, lo, hi, L, hd, hij, hlo, hhi, hL, ha, hD, hm, hx, h1, h2 => by
    by_cases hlt : i < j
    · have hlen : ((D.length : Nat) : Int) = (L : Int) := by rw [hD]
      by_cases hc : (D.getD ((i + j) / 2) z37).f0 < x.f0
      · obtain ⟨c, c1, c2, c3, c4, c5⟩ := bin_l0 d D x a ((i + j) / 2 + 1) j lo hi L (by omega) (by omega) (by omega) hhi hL ha hD hm hx (.inr (by rw [Nat.add_sub_cancel]; exact hc)) h2
        refine ⟨c, c1, c2, c3, c4, fun r hr => ?_⟩
        refine Ev.step (fun k => rfl) ?_
        simp only [api_Req_127__elevator_Order_1.l0]
        rw [half_lt hlt (by omega), wrap_succ (by omega), hlen]
        refine Ev.pos (by omega) (Ev.pos (by omega) (Ev.pos (by omega) (Ev.pos (by omega) (Ev.pos (by omega) ?_))))
        simp only [rdT_nat, ord_ev, Option.bind_some, ord_neg, hx]
        exact Ev.pos hc (c5 r hr)
      · obtain ⟨c, c1, c2, c3, c4, c5⟩ := bin_l0 d D x a i ((i + j) / 2) lo hi L (by omega) (by omega) hlo (by omega) hL ha hD hm hx h1 (.inr hc)
        refine ⟨c, c1, c2, c3, c4, fun r hr => ?_⟩
        refine Ev.step (fun k => rfl) ?_
        simp only [api_Req_127__elevator_Order_1.l0]
        rw [half_lt hlt (by omega), hlen]
        refine Ev.pos (by omega) (Ev.pos (by omega) (Ev.pos (by omega) (Ev.pos (by omega) (Ev.pos (by omega) ?_))))
        simp only [rdT_nat, ord_ev, Option.bind_some, ord_neg, hx]
        exact Ev.neg hc (c5 r hr)
    · obtain rfl : i = j := by omega
      refine ⟨i, hlo, hhi, h1, h2, fun r hr => ?_⟩
      refine Ev.step (fun k => rfl) ?_
      simp only [api_Req_127__elevator_Order_1.l0]
      exact Ev.neg (by omega) hr
/-- Halving for the first that is above y. -/
theorem bin_l2 : ∀ (d : Nat) (D : List S37) (y : S37) (m i j lo hi L : Nat), j - i ≤ d → i ≤ j → lo ≤ i → j ≤ hi → hi ≤ L → m < L → D.length = L → L ≤ 4611686018427387904 → D.getD m z37 = y →
    (i = lo ∨ ¬ y.f0 < (D.getD (i - 1) z37).f0) → (j = hi ∨ y.f0 < (D.getD j z37).f0) →
    ∃ c, lo ≤ c ∧ c ≤ hi ∧ (c = lo ∨ ¬ y.f0 < (D.getD (c - 1) z37).f0) ∧ (c = hi ∨ y.f0 < (D.getD c z37).f0) ∧
      ∀ r, Ev (fun k => api_Req_127__elevator_Order_1.l3 k D (c : Int) (m : Int)) r → Ev (fun k => api_Req_127__elevator_Order_1.l2 k D (m : Int) (i : Int) (j : Int)) r
  | 0, D, y, m, i, j, lo, hi, L, hd, hij, hlo, hhi, hL, ha, hD, hm, hx, h1, h2 => by
    obtain rfl : i = j := by omega
    refine ⟨i, hlo, hhi, h1, h2, fun r hr => ?_⟩
    refine Ev.step (fun k => rfl) ?_
    simp only [api_Req_127__elevator_Order_1.l2]
    exact Ev.neg (by omega) hr
  | d + 1, D, y, m, i, j, lo, hi, L, hd, hij, hlo, hhi, hL, ha, hD, hm, hx, h1, h2 => by
    by_cases hlt : i < j
    · have hlen : ((D.length : Nat) : Int) = (L : Int) := by rw [hD]
      by_cases hc : y.f0 < (D.getD ((i + j) / 2) z37).f0
      · obtain ⟨c, c1, c2, c3, c4, c5⟩ := bin_l2 d D y m i ((i + j) / 2) lo hi L (by omega) (by omega) hlo (by omega) hL ha hD hm hx h1 (.inr hc)
        refine ⟨c, c1, c2, c3, c4, fun r hr => ?_⟩
        refine Ev.step (fun k => rfl) ?_
        simp only [api_Req_127__elevator_Order_1.l2]
        rw [half_lt hlt (by omega), hlen]
        refine Ev.pos (by omega) (Ev.pos (by omega) (Ev.pos (by omega) (Ev.pos (by omega) (Ev.pos (by omega) ?_))))
        simp only [rdT_nat, ord_ev, Option.bind_some, ord_neg, hx]
        exact Ev.pos hc (c5 r hr)
      · obtain ⟨c, c1, c2, c3, c4, c5⟩ := bin_l2 d D y m ((i + j) / 2 + 1) j lo hi L (by omega) (by omega) (by omega) hhi hL ha hD hm hx (.inr (by rw [Nat.add_sub_cancel]; exact hc)) h2
        refine ⟨c, c1, c2, c3, c4, fun r hr => ?_⟩
        refine Ev.step (fun k => rfl) ?_
        simp only [api_Req_127__elevator_Order_1.l2]
        rw [half_lt hlt (by omega), wrap_succ (by omega), hlen]
        refine Ev.pos (by omega) (Ev.pos (by omega) (Ev.pos (by omega) (Ev.pos (by omega) (Ev.pos (by omega) ?_))))
        simp only [rdT_nat, ord_ev, Option.bind_some, ord_neg, hx]
        exact Ev.neg hc (c5 r hr)
    · obtain rfl : i = j := by omega
      refine ⟨i, hlo, hhi, h1, h2, fun r hr => ?_⟩
      refine Ev.step (fun k => rfl) ?_
      simp only [api_Req_127__elevator_Order_1.l2]
      exact Ev.neg (by omega) hr

end Go.Proofs.Ytgahpdoiddhdaaa.Pure
