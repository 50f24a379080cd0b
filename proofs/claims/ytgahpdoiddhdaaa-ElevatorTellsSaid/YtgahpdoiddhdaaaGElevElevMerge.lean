/- The plain laws on the elevator's sort: two blocks in order are merged in place (symMerge). No program's step in sight: the printed functions alone. Conditions: none. -/
import Derived.Test.YtgahpdoiddhdaaaGElevElevSort
namespace Go.Proofs.Ytgahpdoiddhdaaa.Pure
open Go.RowKit Go.Proofs.Ytgahpdoiddhdaaa Go.Proofs.YtgahpdoiddhdaaaW.PrintWords Go.Proofs.YtgahpdoiddhdaaaW.PrintLast Go.Proofs.YtgahpdoiddhdaaaW.PrintMore Go.Proofs.Ytgahpdoiddhdaaa.PKit Go.Proofs.Ytgahpdoiddhdaaa.HElev
set_option linter.unusedVariables false
set_option linter.unusedSimpArgs false

theorem at_in (P X S : List S37) (i k : Nat) (h : k < X.length) (hi : P.length + k = i) : (P ++ X ++ S).getD i z37 = X.getD k z37 := by
  subst hi
  simp only [List.getD, List.append_assoc]
  rw [List.getElem?_append_right (by omega), Nat.add_sub_cancel_left, List.getElem?_append_left h]
theorem last_le {X : List S37} (h : Up X) {z : S37} (hz : z ∈ X) : z.f0 ≤ (X.getD (X.length - 1) z37).f0 := by
  obtain ⟨k, hk, rfl⟩ := List.getElem_of_mem hz
  have := Up.get h (i := k) (j := X.length - 1) (by omega) (by omega)
  rw [getD_lt _ hk] at this
  exact this
theorem head_le {X : List S37} (h : Up X) {z : S37} (hz : z ∈ X) : (X.getD 0 z37).f0 ≤ z.f0 := by
  obtain ⟨k, hk, rfl⟩ := List.getElem_of_mem hz
  have := Up.get h (i := 0) (j := k) (by omega) hk
  rw [getD_lt _ hk] at this
  exact this
/-- Halving for where the one block's end and the other one's front change places. -/
theorem bin_l4 : ∀ (d : Nat) (D : List S37) (a m b mid n p i j lo hi L : Nat), j - i ≤ d → i ≤ j → lo ≤ i → j ≤ hi → hi ≤ L → hi ≤ p + 1 → p < L + lo → p + 1 = n → n ≤ 4611686018427387904 → D.length = L → L ≤ 4611686018427387904 →
    (i = lo ∨ ¬ (D.getD (p - (i - 1)) z37).f0 < (D.getD (i - 1) z37).f0) → (j = hi ∨ (D.getD (p - j) z37).f0 < (D.getD j z37).f0) →
    ∃ c, lo ≤ c ∧ c ≤ hi ∧ (c = lo ∨ ¬ (D.getD (p - (c - 1)) z37).f0 < (D.getD (c - 1) z37).f0) ∧ (c = hi ∨ (D.getD (p - c) z37).f0 < (D.getD c z37).f0) ∧
      ∀ r, (∀ f : Bool, (f = true ↔ c < m ∧ m < n - c) → Ev (fun k => api_Req_127__elevator_Order_1.j6 k D (a : Int) (m : Int) (b : Int) (mid : Int) (c : Int) ((n - c : Nat) : Int) f) r) →
        Ev (fun k => api_Req_127__elevator_Order_1.l4 k D (a : Int) (m : Int) (b : Int) (mid : Int) (n : Int) (i : Int) (j : Int) (p : Int)) r
  | 0, D, a, m, b, mid, n, p, i, j, lo, hi, L, hd, hij, hlo, hhi, hL, hp, hp2, hn, hn2, hD, hm, h1, h2 => by
    obtain rfl : i = j := by omega
    refine ⟨i, hlo, hhi, h1, h2, fun r hr => ?_⟩
    refine Ev.step (fun k => rfl) ?_
    simp only [api_Req_127__elevator_Order_1.l4]
    refine Ev.neg (by omega) ?_
    have e : wrap64 ((n : Int) - (i : Int)) = ((n - i : Nat) : Int) := by rw [wrap_in (by omega) (by omega)]; omega
    rw [e]
    clear e
    by_cases hc : i < m
    · exact Ev.pos (by omega) (hr _ (by simp only [decide_eq_true_eq]; omega))
    · exact Ev.neg (by omega) (hr _ (by simp only [Bool.false_eq_true, false_iff]; omega))
  | d + 1, D, a, m, b, mid, n, p, i, j, lo, hi, L, hd, hij, hlo, hhi, hL, hp, hp2, hn, hn2, hD, hm, h1, h2 => by
    by_cases hlt : i < j
    · have hlen : ((D.length : Nat) : Int) = (L : Int) := by rw [hD]
      have e : wrap64 ((p : Int) - (((i + j) / 2 : Nat) : Int)) = ((p - (i + j) / 2 : Nat) : Int) := by rw [wrap_in (by omega) (by omega)]; omega
      by_cases hc : (D.getD (p - (i + j) / 2) z37).f0 < (D.getD ((i + j) / 2) z37).f0
      · obtain ⟨c, c1, c2, c3, c4, c5⟩ := bin_l4 d D a m b mid n p i ((i + j) / 2) lo hi L (by omega) (by omega) hlo (by omega) hL hp hp2 hn hn2 hD hm h1 (.inr hc)
        refine ⟨c, c1, c2, c3, c4, fun r hr => ?_⟩
        refine Ev.step (fun k => rfl) ?_
        simp only [api_Req_127__elevator_Order_1.l4]
        rw [half_lt hlt (by omega), hlen, e]
        clear e
        refine Ev.pos (by omega) (Ev.pos (by omega) (Ev.pos (by omega) (Ev.pos (by omega) (Ev.pos (by omega) ?_))))
        simp only [rdT_nat, ord_ev, Option.bind_some, ord_neg]
        exact Ev.pos hc (c5 r hr)
      · obtain ⟨c, c1, c2, c3, c4, c5⟩ := bin_l4 d D a m b mid n p ((i + j) / 2 + 1) j lo hi L (by omega) (by omega) (by omega) hhi hL hp hp2 hn hn2 hD hm (.inr (by rw [Nat.add_sub_cancel]; exact hc)) h2
        refine ⟨c, c1, c2, c3, c4, fun r hr => ?_⟩
        refine Ev.step (fun k => rfl) ?_
        simp only [api_Req_127__elevator_Order_1.l4]
        rw [half_lt hlt (by omega), hlen, e]
        clear e
        rw [wrap_succ (by omega)]
        refine Ev.pos (by omega) (Ev.pos (by omega) (Ev.pos (by omega) (Ev.pos (by omega) (Ev.pos (by omega) ?_))))
        simp only [rdT_nat, ord_ev, Option.bind_some, ord_neg]
        exact Ev.neg hc (c5 r hr)
    · exact bin_l4 0 D a m b mid n p i j lo hi L (by omega) hij hlo hhi hL hp hp2 hn hn2 hD hm h1 h2

/-- A merge of two blocks. -/
def Merges (A B P S : List S37) (a m b : Nat) : Prop :=
  ∃ C, C.length = A.length + B.length ∧ Up C ∧ SameF (A ++ B) C ∧ Ev (fun k => api_Req_127__elevator_Order_1.f k (P ++ (A ++ B) ++ S) (a : Int) (m : Int) (b : Int)) (P ++ C ++ S)
def MergesTo (N : Nat) : Prop := ∀ (A B P S : List S37) (a m b : Nat), A.length + B.length < N → Up A → Up B → 0 < A.length → 0 < B.length → P.length = a → a + A.length = m → m + B.length = b → P.length + A.length + B.length + S.length ≤ 2305843009213693952 → Merges A B P S a m b

theorem half_ev {N : Nat} (hI : MergesTo N) (A B P S : List S37) (a m b : Nat) (hN : A.length + B.length < N) (hA : Up A) (hB : Up B) (ha : P.length = a) (hm : a + A.length = m) (hb : m + B.length = b) (hl : P.length + A.length + B.length + S.length ≤ 2305843009213693952) :
    ∃ C, C.length = A.length + B.length ∧ Up C ∧ SameF (A ++ B) C ∧ ((a < m ∧ m < b) → Ev (fun k => api_Req_127__elevator_Order_1.f k (P ++ (A ++ B) ++ S) (a : Int) (m : Int) (b : Int)) (P ++ C ++ S)) ∧ (¬ (a < m ∧ m < b) → C = A ++ B) := by
  by_cases h : a < m ∧ m < b
  · obtain ⟨C, h1, h2, h3, h4⟩ := hI A B P S a m b hN hA hB (by omega) (by omega) ha hm hb hl
    exact ⟨C, h1, h2, h3, fun _ => h4, fun h' => absurd h h'⟩
  · refine ⟨A ++ B, List.length_append, ?_, SameF.refl _, fun h' => absurd h' h, fun _ => rfl⟩
    rcases Nat.eq_zero_or_pos A.length with h0 | h0
    · rw [List.length_eq_zero_iff.1 h0]; exact hB
    · have : B.length = 0 := by omega
      rw [List.length_eq_zero_iff.1 this, List.append_nil]; exact hA

theorem sym_j8 {N : Nat} (hI : MergesTo N) (A1 B1 A2 B2 P S : List S37) (a st mid en b : Nat) (f : Bool) (hf : f = true ↔ a < st ∧ st < mid) (u1 : Up A1) (u2 : Up B1) (u3 : Up A2) (u4 : Up B2)
    (ha : P.length = a) (h1 : a + A1.length = st) (h2 : st + B1.length = mid) (h3 : mid + A2.length = en) (h4 : en + B2.length = b) (n1 : A1.length + B1.length < N) (n2 : A2.length + B2.length < N)
    (hl : P.length + A1.length + B1.length + A2.length + B2.length + S.length ≤ 2305843009213693952) :
    ∃ C1 C2, C1.length = A1.length + B1.length ∧ C2.length = A2.length + B2.length ∧ Up C1 ∧ Up C2 ∧ SameF (A1 ++ B1) C1 ∧ SameF (A2 ++ B2) C2 ∧
      Ev (fun k => api_Req_127__elevator_Order_1.j8 k (P ++ (A1 ++ B1) ++ ((A2 ++ B2) ++ S)) (a : Int) (b : Int) (mid : Int) (st : Int) (en : Int) f) (P ++ C1 ++ (C2 ++ S)) := by
  obtain ⟨C1, l1, c1, s1, e1, g1⟩ := half_ev hI A1 B1 P ((A2 ++ B2) ++ S) a st mid n1 u1 u2 ha h1 h2 (by simp only [List.length_append]; omega)
  obtain ⟨C2, l2, c2, s2, e2, g2⟩ := half_ev hI A2 B2 (P ++ C1) S mid en b n2 u3 u4 (by simp only [List.length_append]; omega) h3 h4 (by simp only [List.length_append]; omega)
  refine ⟨C1, C2, l1, l2, c1, c2, s1, s2, ?_⟩
  have q1 : P ++ C1 ++ (A2 ++ B2 ++ S) = P ++ C1 ++ (A2 ++ B2) ++ S := by simp only [List.append_assoc]
  have q2 : P ++ C1 ++ (C2 ++ S) = P ++ C1 ++ C2 ++ S := by simp only [List.append_assoc]
  refine Ev.step (fun k => rfl) ?_
  simp only [api_Req_127__elevator_Order_1.j8]
  by_cases hs : a < st ∧ st < mid
  · refine Ev.pos (hf.2 hs) (Ev.bind (e1 hs) ?_)
    rw [q1, q2]
    by_cases k1 : mid < en
    · by_cases k2 : en < b
      · exact Ev.pos (by omega) (Ev.pos (by omega) (Ev.bind (e2 ⟨k1, k2⟩) (Ev.now _)))
      · exact Ev.pos (by omega) (Ev.neg (by omega) (Ev.some_ (by rw [g2 (by omega)])))
    · exact Ev.neg (by omega) (Ev.some_ (by rw [g2 (by omega)]))
  · refine Ev.neg (fun h => hs (hf.1 h)) ?_
    rw [← g1 hs, q1, q2]
    by_cases k1 : mid < en
    · by_cases k2 : en < b
      · exact Ev.pos (by omega) (Ev.pos (by omega) (Ev.bind (e2 ⟨k1, k2⟩) (Ev.now _)))
      · exact Ev.pos (by omega) (Ev.neg (by omega) (Ev.some_ (by rw [g2 (by omega)])))
    · exact Ev.neg (by omega) (Ev.some_ (by rw [g2 (by omega)]))
theorem sym_j7 {N : Nat} (hI : MergesTo N) (A1 B1 A2 B2 P S : List S37) (a st mid en b : Nat) (u1 : Up A1) (u2 : Up B1) (u3 : Up A2) (u4 : Up B2)
    (ha : P.length = a) (h1 : a + A1.length = st) (h2 : st + B1.length = mid) (h3 : mid + A2.length = en) (h4 : en + B2.length = b) (n1 : A1.length + B1.length < N) (n2 : A2.length + B2.length < N)
    (hl : P.length + A1.length + B1.length + A2.length + B2.length + S.length ≤ 2305843009213693952) :
    ∃ C1 C2, C1.length = A1.length + B1.length ∧ C2.length = A2.length + B2.length ∧ Up C1 ∧ Up C2 ∧ SameF (A1 ++ B1) C1 ∧ SameF (A2 ++ B2) C2 ∧
      Ev (fun k => api_Req_127__elevator_Order_1.j7 k (P ++ (A1 ++ B1) ++ ((A2 ++ B2) ++ S)) (a : Int) (b : Int) (mid : Int) (st : Int) (en : Int)) (P ++ C1 ++ (C2 ++ S)) := by
  obtain ⟨C1, C2, l1, l2, c1, c2, s1, s2, e⟩ := sym_j8 hI A1 B1 A2 B2 P S a st mid en b (decide (a < st ∧ st < mid)) (by simp only [decide_eq_true_eq]) u1 u2 u3 u4 ha h1 h2 h3 h4 n1 n2 hl
  refine ⟨C1, C2, l1, l2, c1, c2, s1, s2, ?_⟩
  refine Ev.step (fun k => rfl) ?_
  simp only [api_Req_127__elevator_Order_1.j7]
  by_cases k1 : a < st
  · refine Ev.pos (by omega) ?_
    have : decide ((st : Int) < (mid : Int)) = decide (a < st ∧ st < mid) := by
      rw [decide_eq_decide]; omega
    rw [this]
    exact e
  · refine Ev.neg (by omega) ?_
    have : false = decide (a < st ∧ st < mid) := by
      simp only [k1, false_and, decide_false]
    rw [this]
    exact e
theorem sym_j6 {N : Nat} (hI : MergesTo N) (A1 A2 B1 B2 P S : List S37) (a st m mid en b : Nat) (f : Bool) (hf : f = true ↔ st < m ∧ m < en) (uA : Up (A1 ++ A2)) (uB : Up (B1 ++ B2))
    (ha : P.length = a) (h1 : a + A1.length = st) (h2 : st + A2.length = m) (h3 : m + B1.length = en) (h4 : en + B2.length = b) (h5 : st + B1.length = mid) (n1 : A1.length + B1.length < N) (n2 : A2.length + B2.length < N)
    (c1 : ∀ x ∈ A1, ∀ y ∈ B2, x.f0 ≤ y.f0) (c2 : ∀ x ∈ A2, ∀ y ∈ B1, y.f0 < x.f0)
    (hl : P.length + A1.length + B1.length + A2.length + B2.length + S.length ≤ 2305843009213693952) :
    ∃ C, C.length = A1.length + A2.length + B1.length + B2.length ∧ Up C ∧ SameF ((A1 ++ A2) ++ (B1 ++ B2)) C ∧
      Ev (fun k => api_Req_127__elevator_Order_1.j6 k (P ++ ((A1 ++ A2) ++ (B1 ++ B2)) ++ S) (a : Int) (m : Int) (b : Int) (mid : Int) (st : Int) (en : Int) f) (P ++ C ++ S) := by
  obtain ⟨C1, C2, l1, l2, k1, k2, s1, s2, e⟩ := sym_j7 hI A1 B1 A2 B2 P S a st mid en b uA.left uB.left uA.right uB.right ha h1 h5 (by omega) h4 n1 n2 hl
  refine ⟨C1 ++ C2, by rw [List.length_append]; omega, ?_, ?_, ?_⟩
  · refine Up.append k1 k2 ?_
    intro x hx y hy
    rcases List.mem_append.1 ((s1.mem x).2 hx) with hx | hx <;> rcases List.mem_append.1 ((s2.mem y).2 hy) with hy | hy
    · exact uA.across x hx y hy
    · exact c1 x hx y hy
    · exact Int.le_of_lt (c2 y hy x hx)
    · exact uB.across x hx y hy
  · refine SameF.trans ?_ (SameF.append s1 s2)
    have hs : SameF (A2 ++ B1) (B1 ++ A2) := SameF.swap (fun x hx y hy => by have := c2 x hx y hy; omega)
    have := SameF.mid (p := A1) (s := B2) hs
    simpa only [List.append_assoc] using this
  · have q1 : P ++ C1 ++ (C2 ++ S) = P ++ (C1 ++ C2) ++ S := by simp only [List.append_assoc]
    rw [q1] at e
    refine Ev.step (fun k => rfl) ?_
    simp only [api_Req_127__elevator_Order_1.j6]
    by_cases hs : st < m ∧ m < en
    · refine Ev.pos (hf.2 hs) ?_
      have hr := rot_ev A2 B1 (P ++ A1) (B2 ++ S) st m en (by omega) (by omega) (by rw [List.length_append]; omega) h2 h3 (by simp only [List.length_append]; omega)
      have q2 : P ++ A1 ++ A2 ++ B1 ++ (B2 ++ S) = P ++ ((A1 ++ A2) ++ (B1 ++ B2)) ++ S := by simp only [List.append_assoc]
      have q3 : P ++ A1 ++ B1 ++ A2 ++ (B2 ++ S) = P ++ (A1 ++ B1) ++ ((A2 ++ B2) ++ S) := by simp only [List.append_assoc]
      rw [q2, q3] at hr
      exact Ev.bind hr e
    · refine Ev.neg (fun h => hs (hf.1 h)) ?_
      have q3 : P ++ ((A1 ++ A2) ++ (B1 ++ B2)) ++ S = P ++ (A1 ++ B1) ++ ((A2 ++ B2) ++ S) := by
        rcases Nat.eq_zero_or_pos A2.length with h0 | h0
        · rw [List.length_eq_zero_iff.1 h0]; simp only [List.append_assoc, List.append_nil, List.nil_append]
        · have : B1.length = 0 := by omega
          rw [List.length_eq_zero_iff.1 this]; simp only [List.append_assoc, List.append_nil, List.nil_append]
      rw [q3]
      exact e
/-- Behind the search: from any bounds that lie as symMerge has them. -/
theorem sym_l4 {N : Nat} (hI : MergesTo N) (A B P S : List S37) (a m b mid n lo hi : Nat) (uA : Up A) (uB : Up B) (ha : P.length = a) (h1 : a + A.length = m) (h2 : m + B.length = b)
    (hn : mid + m = n) (m1 : a < mid) (m2 : mid < b) (hN : b - a ≤ N) (b1 : a ≤ lo) (b2 : lo ≤ hi) (b3 : hi ≤ m) (b4 : m + hi ≤ n) (b5 : n ≤ b + lo) (b6 : lo = a ∨ n = b + lo) (b7 : hi = m ∨ n = m + hi)
    (hl : P.length + A.length + B.length + S.length ≤ 2305843009213693952) :
    ∃ C, C.length = A.length + B.length ∧ Up C ∧ SameF (A ++ B) C ∧
      Ev (fun k => api_Req_127__elevator_Order_1.j4 k (P ++ (A ++ B) ++ S) (a : Int) (m : Int) (b : Int) (mid : Int) (n : Int) (lo : Int) (hi : Int)) (P ++ C ++ S) := by
  obtain ⟨p, rfl⟩ : ∃ p, n = p + 1 := ⟨n - 1, by omega⟩
  have hD : (P ++ (A ++ B) ++ S).length = P.length + A.length + B.length + S.length := by simp only [List.length_append]; omega
  obtain ⟨c, r1, r2, r3, r4, r5⟩ := bin_l4 (hi - lo) (P ++ (A ++ B) ++ S) a m b mid (p + 1) p lo hi lo hi _ (Nat.le_refl _) b2 (Nat.le_refl _) (Nat.le_refl _) (by omega) (by omega) (by omega) rfl (by omega) hD (by omega) (.inl rfl) (.inl rfl)
  obtain ⟨A1, A2, rfl, la1, la2⟩ := cut_at (i := c - a) (l := A) (by omega)
  obtain ⟨B1, B2, rfl, lb1, lb2⟩ := cut_at (i := p + 1 - c - m) (l := B) (by omega)
  rw [List.length_append] at h1 h2 la2 lb2
  have c1 : ∀ x ∈ A1, ∀ y ∈ B2, x.f0 ≤ y.f0 := by
    intro x hx y hy
    have p1 : 0 < A1.length := List.length_pos_of_mem hx
    have p2 : 0 < B2.length := List.length_pos_of_mem hy
    rcases r3 with r3 | r3
    · omega
    · have t1 : (P ++ (A1 ++ A2 ++ (B1 ++ B2)) ++ S).getD (c - 1) z37 = A1.getD (A1.length - 1) z37 := by
        have : P ++ (A1 ++ A2 ++ (B1 ++ B2)) ++ S = P ++ A1 ++ (A2 ++ (B1 ++ B2) ++ S) := by simp only [List.append_assoc]
        rw [this]
        exact at_in P A1 _ _ _ (by omega) (by omega)
      have t2 : (P ++ (A1 ++ A2 ++ (B1 ++ B2)) ++ S).getD (p - (c - 1)) z37 = B2.getD 0 z37 := by
        have : P ++ (A1 ++ A2 ++ (B1 ++ B2)) ++ S = (P ++ A1 ++ A2 ++ B1) ++ B2 ++ S := by simp only [List.append_assoc]
        rw [this]
        exact at_in _ B2 _ _ _ p2 (by simp only [List.length_append]; omega)
      rw [t1, t2] at r3
      have := last_le uA.left hx
      have := head_le uB.right hy
      omega
  have c2 : ∀ x ∈ A2, ∀ y ∈ B1, y.f0 < x.f0 := by
    intro x hx y hy
    have p1 : 0 < A2.length := List.length_pos_of_mem hx
    have p2 : 0 < B1.length := List.length_pos_of_mem hy
    rcases r4 with r4 | r4
    · omega
    · have t1 : (P ++ (A1 ++ A2 ++ (B1 ++ B2)) ++ S).getD c z37 = A2.getD 0 z37 := by
        have : P ++ (A1 ++ A2 ++ (B1 ++ B2)) ++ S = (P ++ A1) ++ A2 ++ ((B1 ++ B2) ++ S) := by simp only [List.append_assoc]
        rw [this]
        exact at_in _ A2 _ _ _ p1 (by simp only [List.length_append]; omega)
      have t2 : (P ++ (A1 ++ A2 ++ (B1 ++ B2)) ++ S).getD (p - c) z37 = B1.getD (B1.length - 1) z37 := by
        have : P ++ (A1 ++ A2 ++ (B1 ++ B2)) ++ S = (P ++ A1 ++ A2) ++ B1 ++ (B2 ++ S) := by simp only [List.append_assoc]
        rw [this]
        exact at_in _ B1 _ _ _ (by omega) (by simp only [List.length_append]; omega)
      rw [t1, t2] at r4
      have := last_le uB.left hy
      have := head_le uA.right hx
      omega
  rw [List.length_append, List.length_append] at hl hD
  have key : ∀ f : Bool, (f = true ↔ c < m ∧ m < p + 1 - c) → ∃ C, C.length = A1.length + A2.length + B1.length + B2.length ∧ Up C ∧ SameF ((A1 ++ A2) ++ (B1 ++ B2)) C ∧
      Ev (fun k => api_Req_127__elevator_Order_1.j6 k (P ++ ((A1 ++ A2) ++ (B1 ++ B2)) ++ S) (a : Int) (m : Int) (b : Int) (mid : Int) (c : Int) ((p + 1 - c : Nat) : Int) f) (P ++ C ++ S) := fun f hf =>
    sym_j6 hI A1 A2 B1 B2 P S a c m mid (p + 1 - c) b f hf uA uB ha (by omega) (by omega) (by omega) (by omega) (by omega) (by omega) (by omega) c1 c2 (by omega)
  obtain ⟨C, k1, k2, k3, k4⟩ := key (decide (c < m ∧ m < p + 1 - c)) (by simp only [decide_eq_true_eq])
  refine ⟨C, by simp only [List.length_append]; omega, k2, k3, ?_⟩
  refine Ev.step (fun k => rfl) ?_
  simp only [api_Req_127__elevator_Order_1.j4]
  rw [wrap_pred (by omega)]
  refine r5 _ (fun f hf => ?_)
  have : f = decide (c < m ∧ m < p + 1 - c) := by
    rw [Bool.eq_iff_iff, hf, decide_eq_true_eq]
  rw [this]
  exact k4

theorem nth_eq (P X S : List S37) (x : S37) : (P ++ x :: S).getD P.length z37 = x := getD_mid _ _ _ _
theorem sym_one {A B P S : List S37} {a m b : Nat} (x : S37) (hx : A = [x]) (uB : Up B) (pB : 0 < B.length) (ha : P.length = a) (h1 : a + A.length = m) (h2 : m + B.length = b)
    (hl : P.length + A.length + B.length + S.length ≤ 2305843009213693952) : Merges A B P S a m b := by
  subst hx
  simp only [List.length_cons, List.length_nil, Nat.zero_add] at h1 hl
  have hD : (P ++ ([x] ++ B) ++ S).length = P.length + 1 + B.length + S.length := by simp only [List.length_append, List.length_cons, List.length_nil]; omega
  have gx : (P ++ ([x] ++ B) ++ S).getD a z37 = x := by
    have : P ++ ([x] ++ B) ++ S = P ++ [x] ++ (B ++ S) := by simp
    rw [this]; exact at_in P [x] _ a 0 (by simp) (by omega)
  obtain ⟨c, r1, r2, r3, r4, r5⟩ := bin_l0 (b - m) (P ++ ([x] ++ B) ++ S) x a m b m b _ (Nat.le_refl _) (by omega) (Nat.le_refl _) (Nat.le_refl _) (by omega) (by omega) hD (by omega) gx (.inl rfl) (.inl rfl)
  obtain ⟨B1, B2, rfl, lb1, lb2⟩ := cut_at (i := c - m) (l := B) (by omega)
  rw [List.length_append] at h2 lb2 pB hl hD
  have c1 : ∀ y ∈ B1, y.f0 < x.f0 := by
    intro y hy
    have p1 : 0 < B1.length := List.length_pos_of_mem hy
    rcases r3 with r3 | r3
    · omega
    · have t1 : (P ++ ([x] ++ (B1 ++ B2)) ++ S).getD (c - 1) z37 = B1.getD (B1.length - 1) z37 := by
        have : P ++ ([x] ++ (B1 ++ B2)) ++ S = (P ++ [x]) ++ B1 ++ (B2 ++ S) := by simp
        rw [this]
        exact at_in _ B1 _ _ _ (by omega) (by simp only [List.length_append, List.length_cons, List.length_nil]; omega)
      rw [t1] at r3
      have := last_le uB.left hy
      omega
  have c2 : ∀ y ∈ B2, x.f0 ≤ y.f0 := by
    intro y hy
    have p1 : 0 < B2.length := List.length_pos_of_mem hy
    rcases r4 with r4 | r4
    · omega
    · have t1 : (P ++ ([x] ++ (B1 ++ B2)) ++ S).getD c z37 = B2.getD 0 z37 := by
        have : P ++ ([x] ++ (B1 ++ B2)) ++ S = (P ++ [x] ++ B1) ++ B2 ++ S := by simp
        rw [this]
        exact at_in _ B2 _ _ _ p1 (by simp only [List.length_append, List.length_cons, List.length_nil]; omega)
      rw [t1] at r4
      have := head_le uB.right hy
      omega
  refine ⟨B1 ++ x :: B2, by simp only [List.length_append, List.length_cons, List.length_nil]; omega, ?_, ?_, ?_⟩
  · refine Up.append uB.left (List.pairwise_cons.2 ⟨c2, uB.right⟩) ?_
    intro y hy z hz
    rcases List.mem_cons.1 hz with rfl | hz
    · exact Int.le_of_lt (c1 y hy)
    · exact uB.across y hy z hz
  · have h := SameF.append (SameF.swap (a := [x]) (b := B1) (by intro u hu v hv; simp only [List.mem_singleton] at hu; subst hu; have := c1 v hv; omega)) (SameF.refl B2)
    simpa using h
  · refine Ev.step (fun k => rfl) ?_
    simp only [api_Req_127__elevator_Order_1.f]
    have e : wrap64 ((m : Int) - (a : Int)) = 1 := by rw [wrap_in (by omega) (by omega)]; omega
    refine Ev.pos e ?_
    clear e
    refine r5 _ ?_
    have h := up_l1 B1 x P (B2 ++ S) a c _ ha (by omega) rfl (by simp only [List.length_append]; omega)
    have q1 : P ++ x :: (B1 ++ (B2 ++ S)) = P ++ ([x] ++ (B1 ++ B2)) ++ S := by simp
    have q2 : P ++ (B1 ++ x :: (B2 ++ S)) = P ++ (B1 ++ x :: B2) ++ S := by simp
    rw [q1, q2] at h
    exact h
theorem sym_two {A B P S : List S37} {a m b : Nat} (y : S37) (hx : B = [y]) (uA : Up A) (pA : 1 < A.length) (ha : P.length = a) (h1 : a + A.length = m) (h2 : m + B.length = b)
    (hl : P.length + A.length + B.length + S.length ≤ 2305843009213693952) : Merges A B P S a m b := by
  subst hx
  simp only [List.length_cons, List.length_nil, Nat.zero_add] at h2 hl
  have hD : (P ++ (A ++ [y]) ++ S).length = P.length + A.length + 1 + S.length := by simp only [List.length_append, List.length_cons, List.length_nil]; omega
  have gx : (P ++ (A ++ [y]) ++ S).getD m z37 = y := by
    have : P ++ (A ++ [y]) ++ S = (P ++ A) ++ [y] ++ S := by simp
    rw [this]; exact at_in (P ++ A) [y] _ m 0 (by simp) (by rw [List.length_append]; omega)
  obtain ⟨c, r1, r2, r3, r4, r5⟩ := bin_l2 (m - a) (P ++ (A ++ [y]) ++ S) y m a m a m _ (Nat.le_refl _) (by omega) (Nat.le_refl _) (Nat.le_refl _) (by omega) (by omega) hD (by omega) gx (.inl rfl) (.inl rfl)
  obtain ⟨A1, A2, rfl, la1, la2⟩ := cut_at (i := c - a) (l := A) (by omega)
  rw [List.length_append] at h1 la2 pA hl hD
  have c1 : ∀ x ∈ A1, x.f0 ≤ y.f0 := by
    intro x hx
    have p1 : 0 < A1.length := List.length_pos_of_mem hx
    rcases r3 with r3 | r3
    · omega
    · have t1 : (P ++ (A1 ++ A2 ++ [y]) ++ S).getD (c - 1) z37 = A1.getD (A1.length - 1) z37 := by
        have : P ++ (A1 ++ A2 ++ [y]) ++ S = P ++ A1 ++ (A2 ++ [y] ++ S) := by simp
        rw [this]
        exact at_in _ A1 _ _ _ (by omega) (by omega)
      rw [t1] at r3
      have := last_le uA.left hx
      omega
  have c2 : ∀ x ∈ A2, y.f0 < x.f0 := by
    intro x hx
    have p1 : 0 < A2.length := List.length_pos_of_mem hx
    rcases r4 with r4 | r4
    · omega
    · have t1 : (P ++ (A1 ++ A2 ++ [y]) ++ S).getD c z37 = A2.getD 0 z37 := by
        have : P ++ (A1 ++ A2 ++ [y]) ++ S = (P ++ A1) ++ A2 ++ ([y] ++ S) := by simp
        rw [this]
        exact at_in _ A2 _ _ _ p1 (by simp only [List.length_append]; omega)
      rw [t1] at r4
      have := head_le uA.right hx
      omega
  refine ⟨A1 ++ y :: A2, by simp only [List.length_append, List.length_cons, List.length_nil]; omega, ?_, ?_, ?_⟩
  · refine Up.append uA.left (List.pairwise_cons.2 ⟨fun x hx => Int.le_of_lt (c2 x hx), uA.right⟩) ?_
    intro x hx z hz
    rcases List.mem_cons.1 hz with rfl | hz
    · exact c1 x hx
    · exact uA.across x hx z hz
  · have h := SameF.append (SameF.refl A1) (SameF.swap (a := A2) (b := [y]) (by intro u hu v hv; simp only [List.mem_singleton] at hv; subst hv; have := c2 u hu; omega))
    simpa using h
  · refine Ev.step (fun k => rfl) ?_
    simp only [api_Req_127__elevator_Order_1.f]
    have e : wrap64 ((m : Int) - (a : Int)) ≠ 1 ∧ wrap64 ((b : Int) - (m : Int)) = 1 := ⟨by rw [wrap_in (by omega) (by omega)]; omega, by rw [wrap_in (by omega) (by omega)]; omega⟩
    refine Ev.neg e.1 (Ev.pos e.2 ?_)
    clear e
    refine r5 _ ?_
    have h := down_l3 A2.length A2 y (P ++ A1) S c _ rfl (by rw [List.length_append]; omega) rfl (by simp only [List.length_append]; omega)
    have q1 : P ++ A1 ++ A2 ++ y :: S = P ++ (A1 ++ A2 ++ [y]) ++ S := by simp
    have q2 : P ++ A1 ++ y :: (A2 ++ S) = P ++ (A1 ++ y :: A2) ++ S := by simp
    have q3 : c + A2.length = m := by omega
    rw [q1, q2, q3] at h
    exact h
theorem sym_all : ∀ N : Nat, MergesTo N
  | 0 => fun A B P S a m b hN => absurd hN (Nat.not_lt_zero _)
  | N + 1 => fun A B P S a m b hN uA uB pA pB ha h1 h2 hl => by
    rcases Nat.lt_or_ge 1 A.length with q1 | q1
    · rcases Nat.lt_or_ge 1 B.length with q2 | q2
      · have hI := sym_all N
        have e : wrap64 ((m : Int) - (a : Int)) ≠ 1 ∧ wrap64 ((b : Int) - (m : Int)) ≠ 1 := ⟨by rw [wrap_in (by omega) (by omega)]; omega, by rw [wrap_in (by omega) (by omega)]; omega⟩
        have eh := half_lt (i := a) (j := b) (by omega) (by omega)
        obtain ⟨e1, e2⟩ := e
        by_cases hm : m > (a + b) / 2
        · obtain ⟨C, k1, k2, k3, k4⟩ := sym_l4 hI A B P S a m b ((a + b) / 2) ((a + b) / 2 + m) ((a + b) / 2 + m - b) ((a + b) / 2) uA uB ha h1 h2 rfl (by clear e1 e2 eh; omega) (by clear e1 e2 eh; omega) (by clear e1 e2 eh; omega) (by clear e1 e2 eh; omega) (by clear e1 e2 eh; omega) (by clear e1 e2 eh; omega) (by clear e1 e2 eh; omega) (by clear e1 e2 eh; omega) (by clear e1 e2 eh; omega) (by clear e1 e2 eh; omega) hl
          refine ⟨C, k1, k2, k3, ?_⟩
          refine Ev.step (fun k => rfl) ?_
          simp only [api_Req_127__elevator_Order_1.f]
          refine Ev.neg e1 (Ev.neg e2 ?_)
          rw [eh]
          clear e1 e2 eh
          have w : wrap64 ((((a + b) / 2 : Nat) : Int) + (m : Int)) = (((a + b) / 2 + m : Nat) : Int) ∧ wrap64 ((((a + b) / 2 + m : Nat) : Int) - (b : Int)) = (((a + b) / 2 + m - b : Nat) : Int) := ⟨by rw [wrap_in (by omega) (by omega)]; omega, by rw [wrap_in (by omega) (by omega)]; omega⟩
          rw [w.1, w.2]
          clear w
          exact Ev.pos (by omega) k4
        · obtain ⟨C, k1, k2, k3, k4⟩ := sym_l4 hI A B P S a m b ((a + b) / 2) ((a + b) / 2 + m) a m uA uB ha h1 h2 rfl (by clear e1 e2 eh; omega) (by clear e1 e2 eh; omega) (by clear e1 e2 eh; omega) (by clear e1 e2 eh; omega) (by clear e1 e2 eh; omega) (by clear e1 e2 eh; omega) (by clear e1 e2 eh; omega) (by clear e1 e2 eh; omega) (by clear e1 e2 eh; omega) (by clear e1 e2 eh; omega) hl
          refine ⟨C, k1, k2, k3, ?_⟩
          refine Ev.step (fun k => rfl) ?_
          simp only [api_Req_127__elevator_Order_1.f]
          refine Ev.neg e1 (Ev.neg e2 ?_)
          rw [eh]
          clear e1 e2 eh
          have w : wrap64 ((((a + b) / 2 : Nat) : Int) + (m : Int)) = (((a + b) / 2 + m : Nat) : Int) := by rw [wrap_in (by omega) (by omega)]; omega
          rw [w]
          clear w
          exact Ev.neg (by omega) k4
      · obtain ⟨y, hy⟩ := List.length_eq_one_iff.1 (show B.length = 1 by omega)
        exact sym_two y hy uA q1 ha h1 h2 hl
    · obtain ⟨x, hx⟩ := List.length_eq_one_iff.1 (show A.length = 1 by omega)
      exact sym_one x hx uB pB ha h1 h2 hl

/-! ### the whole sort -/
inductive Blk (s : Nat) : List S37 → Prop
  | last {x : List S37} : x.length ≤ s → Up x → Blk s x
  | more {x y : List S37} : x.length = s → Up x → Blk s y → Blk s (x ++ y)
theorem Blk.cut {s : Nat} {x : List S37} (h : Blk s x) (hl : s ≤ x.length) : ∃ u v, x = u ++ v ∧ u.length = s ∧ Up u ∧ Blk s v := by
  cases h with
  | last h1 h2 => exact ⟨x, [], by simp, by omega, h2, .last (by simp) List.Pairwise.nil⟩
  | more h1 h2 h3 => exact ⟨_, _, rfl, h1, h2, h3⟩
theorem Blk.up {s : Nat} {x : List S37} (h : Blk s x) (hl : x.length ≤ s) : Up x := by
  cases h with
  | last _ h => exact h
  | more h1 h2 h3 =>
    rename_i u v
    rw [List.length_append] at hl
    have : v.length = 0 := by omega
    rw [List.length_eq_zero_iff.1 this, List.append_nil]; exact h2

/-- Doubling the blocks, until one is left. -/
theorem st_l2 (s n : Nat) (hs : 0 < s) (hn : n ≤ 1152921504606846976) (hs2 : s < n) : ∀ (d : Nat) (D R : List S37) (a : Nat), R.length ≤ d → Blk s R → D.length = a → a + R.length = n →
    ∃ R', R'.length = R.length ∧ Blk (2 * s) R' ∧ SameF R R' ∧ ∀ r, Ev (fun k => api_Req_98__elevator_Order_1.l1 k (D ++ R') (n : Int) ((2 * s : Nat) : Int)) r →
      Ev (fun k => api_Req_98__elevator_Order_1.l2 k (D ++ R) (n : Int) (s : Int) (a : Int) ((a + 2 * s : Nat) : Int)) r
  | d, D, R, a, hd, hB, hD, hR => by
    have w1 : wrap64 ((s : Int) * 2) = ((2 * s : Nat) : Int) := by rw [wrap_in (by omega) (by omega)]; omega
    have w2 : wrap64 ((a : Int) + (s : Int)) = ((a + s : Nat) : Int) := by clear w1; rw [wrap_in (by omega) (by omega)]; omega
    by_cases h2 : 2 * s ≤ R.length
    · obtain ⟨X, R1, rfl, lX, uX, b1⟩ := hB.cut (by clear w1 w2; omega)
      rw [List.length_append] at h2 hR hd
      obtain ⟨Y, R2, rfl, lY, uY, b2⟩ := b1.cut (by clear w1 w2; omega)
      rw [List.length_append] at h2 hR hd
      obtain ⟨C, c1, c2, c3, c4⟩ := sym_all (2 * s + 1) X Y D R2 a (a + s) (a + 2 * s) (by clear w1 w2; omega) uX uY (by clear w1 w2; omega) (by clear w1 w2; omega) hD (by clear w1 w2; omega) (by clear w1 w2; omega) (by clear w1 w2; omega)
      match d, hd with
      | 0, hd => clear w1 w2; omega
      | d + 1, hd =>
        obtain ⟨R', r1, r2, r3, r4⟩ := st_l2 s n hs hn hs2 d (D ++ C) R2 (a + 2 * s) (by clear w1 w2; omega) b2 (by clear w1 w2; rw [List.length_append]; omega) (by clear w1 w2; omega)
        refine ⟨C ++ R', by clear w1 w2; simp only [List.length_append]; omega, .more (by clear w1 w2; omega) c2 r2, ?_, fun r hr => ?_⟩
        · have := SameF.append c3 r3
          simpa only [List.append_assoc] using this
        · refine Ev.step (fun k => rfl) ?_
          simp only [api_Req_98__elevator_Order_1.l2]
          rw [w2]
          clear w1 w2
          have w3 : wrap64 ((((a + 2 * s : Nat) : Int)) + wrap64 (2 * (s : Int))) = ((a + 2 * s + 2 * s : Nat) : Int) := by rw [wrap_in (n := 2 * (s : Int)) (by omega) (by omega), wrap_in (by omega) (by omega)]; omega
          rw [w3]
          clear w3
          refine Ev.pos (by omega) ?_
          have q1 : D ++ (X ++ (Y ++ R2)) = D ++ (X ++ Y) ++ R2 := by simp only [List.append_assoc]
          rw [q1]
          refine Ev.bind c4 ?_
          exact r4 r (by simpa only [List.append_assoc] using hr)
    · by_cases h3 : s < R.length
      · obtain ⟨X, Y, rfl, lX, uX, b1⟩ := hB.cut (by clear w1 w2; omega)
        rw [List.length_append] at h2 h3 hR hd
        have uY := b1.up (by clear w1 w2; omega)
        obtain ⟨C, c1, c2, c3, c4⟩ := sym_all (X.length + Y.length + 1) X Y D [] a (a + s) n (Nat.lt_succ_self _) uX uY (by clear w1 w2; omega) (by clear w1 w2; omega) hD (by clear w1 w2; omega) (by clear w1 w2; omega) (by clear w1 w2; rw [List.length_nil]; omega)
        simp only [List.append_nil] at c4
        refine ⟨C, by clear w1 w2; rw [List.length_append]; omega, .last (by clear w1 w2; omega) c2, c3, fun r hr => ?_⟩
        refine Ev.step (fun k => rfl) ?_
        simp only [api_Req_98__elevator_Order_1.l2]
        rw [w1, w2]
        clear w1 w2
        exact Ev.neg (by omega) (Ev.pos (by omega) (Ev.bind c4 hr))
      · have uR := hB.up (by clear w1 w2; omega)
        refine ⟨R, rfl, .last (by clear w1 w2; omega) uR, SameF.refl _, fun r hr => ?_⟩
        refine Ev.step (fun k => rfl) ?_
        simp only [api_Req_98__elevator_Order_1.l2]
        rw [w1, w2]
        clear w1 w2
        exact Ev.neg (by omega) (Ev.neg (by omega) hr)
theorem st_l1 (n : Nat) (hn : n ≤ 1152921504606846976) : ∀ (d s : Nat) (R : List S37), n - s ≤ d → 0 < s → s ≤ 2305843009213693952 → R.length = n → Blk s R →
    ∃ R', R'.length = n ∧ Up R' ∧ SameF R R' ∧ Ev (fun k => api_Req_98__elevator_Order_1.l1 k R (n : Int) (s : Int)) R'
  | d, s, R, hd, hs, hs2, hR, hB => by
    by_cases h : s < n
    · match d, hd with
      | 0, hd => omega
      | d + 1, hd =>
        obtain ⟨R1, r1, r2, r3, r4⟩ := st_l2 s n hs hn h R.length [] R 0 (Nat.le_refl _) hB rfl (by omega)
        obtain ⟨R2, q1, q2, q3, q4⟩ := st_l1 n hn d (2 * s) R1 (by omega) (by omega) (by omega) (by omega) r2
        refine ⟨R2, q1, q2, SameF.trans r3 q3, ?_⟩
        refine Ev.step (fun k => rfl) ?_
        simp only [api_Req_98__elevator_Order_1.l1]
        have w : wrap64 (2 * (s : Int)) = ((0 + 2 * s : Nat) : Int) := by rw [wrap_in (by omega) (by omega)]; omega
        rw [w]
        clear w
        refine Ev.pos (by omega) ?_
        have := r4 R2 (by simpa only [List.nil_append] using q4)
        simp only [List.nil_append] at this
        exact this
    · refine ⟨R, hR, hB.up (by omega), SameF.refl _, ?_⟩
      refine Ev.step (fun k => rfl) ?_
      simp only [api_Req_98__elevator_Order_1.l1]
      exact Ev.neg (by omega) (Ev.now _)
theorem st_l0 (n : Nat) (hn : n ≤ 1152921504606846976) : ∀ (d : Nat) (D R : List S37) (a : Nat), R.length ≤ d → D.length = a → a + R.length = n →
    ∃ R', R'.length = R.length ∧ Blk 20 R' ∧ SameF R R' ∧ ∀ r, Ev (fun k => api_Req_98__elevator_Order_1.l1 k (D ++ R') (n : Int) 20) r →
      Ev (fun k => api_Req_98__elevator_Order_1.l0 k (D ++ R) (n : Int) 20 (a : Int) ((a + 20 : Nat) : Int)) r
  | d, D, R, a, hd, hD, hR => by
    by_cases h : 20 ≤ R.length
    · obtain ⟨X, R1, rfl, lX, lR⟩ := cut_at (i := 20) (l := R) h
      rw [List.length_append] at hd hR h
      match d, hd with
      | 0, hd => omega
      | d + 1, hd =>
        obtain ⟨E, e1, e2, e3, e4⟩ := ins_ev X D R1 a (a + 20) hD (by omega) (by omega)
        obtain ⟨R', r1, r2, r3, r4⟩ := st_l0 n hn d (D ++ E) R1 (a + 20) (by omega) (by rw [List.length_append]; omega) (by omega)
        refine ⟨E ++ R', by simp only [List.length_append]; omega, .more (by omega) e2 r2, SameF.append e3 r3, fun r hr => ?_⟩
        refine Ev.step (fun k => rfl) ?_
        simp only [api_Req_98__elevator_Order_1.l0]
        have w : wrap64 (((a + 20 : Nat) : Int) + 20) = ((a + 20 + 20 : Nat) : Int) := by rw [wrap_in (by omega) (by omega)]; omega
        rw [w]
        clear w
        refine Ev.pos (by omega) ?_
        have q1 : D ++ (X ++ R1) = D ++ X ++ R1 := by simp only [List.append_assoc]
        rw [q1]
        refine Ev.bind e4 ?_
        exact r4 r (by simpa only [List.append_assoc] using hr)
    · obtain ⟨E, e1, e2, e3, e4⟩ := ins_ev R D [] a n hD hR (by rw [List.length_nil]; omega)
      simp only [List.append_nil] at e4
      refine ⟨E, e1, .last (by omega) e2, e3, fun r hr => ?_⟩
      refine Ev.step (fun k => rfl) ?_
      simp only [api_Req_98__elevator_Order_1.l0]
      exact Ev.neg (by omega) (Ev.bind e4 hr)
/-- SortStableFunc: in order by place, and of each place as it was. -/
theorem stable_ev (R : List S37) (hn : R.length ≤ 1152921504606846976) : ∃ R', R'.length = R.length ∧ Up R' ∧ SameF R R' ∧ Ev (fun k => api_Req_62__elevator_Order_1.f k R) R' := by
  obtain ⟨R1, r1, r2, r3, r4⟩ := st_l0 R.length hn R.length [] R 0 (Nat.le_refl _) rfl (by omega)
  obtain ⟨R2, q1, q2, q3, q4⟩ := st_l1 R.length hn (R.length - 20) 20 R1 (Nat.le_refl _) (by omega) (by omega) r1 r2
  refine ⟨R2, q1, q2, SameF.trans r3 q3, ?_⟩
  simp only [api_Req_62__elevator_Order_1.f, api_Req_98__elevator_Order_1.f]
  have := r4 R2 (by simp only [List.nil_append]; exact q4)
  simp only [List.nil_append] at this
  exact Ev.bind this (Ev.now _)
end Go.Proofs.Ytgahpdoiddhdaaa.Pure
