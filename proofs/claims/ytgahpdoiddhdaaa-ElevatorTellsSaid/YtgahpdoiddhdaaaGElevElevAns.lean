/- The plain laws on the elevator: what its functions, and the document's, answer. No program's step in sight: the printed functions alone. Conditions: none. -/
import Derived.Test.YtgahpdoiddhdaaaGElevElevMerge
import Derived.Test.YtgahpdoiddhdaaaGElevx9
import Derived.Test.YtgahpdoiddhdaaaGElevx10
import Derived.Test.YtgahpdoiddhdaaaGElevx11
namespace Go.Proofs.Ytgahpdoiddhdaaa.Pure
open Go.RowKit Go.Proofs.Ytgahpdoiddhdaaa Go.Proofs.YtgahpdoiddhdaaaW.PrintWords Go.Proofs.YtgahpdoiddhdaaaW.PrintLast Go.Proofs.YtgahpdoiddhdaaaW.PrintMore Go.Proofs.Ytgahpdoiddhdaaa.PKit Go.Proofs.Ytgahpdoiddhdaaa.HElev
set_option linter.unusedVariables false
set_option linter.unusedSimpArgs false

/-! ### whether requests are right -/
def okR (x : S37) : Prop := 0 ≤ x.f0 ∧ x.f0 < 4096 ∧ 1 ≤ x.f1 ∧ x.f1 ≤ 4096 - x.f0
instance : DecidablePred okR := fun x => by unfold okR; exact inferInstance
def chkS (l : List S37) : Int := if ∀ x ∈ l, okR x then 0 else 2
theorem chkS_nil : chkS [] = 0 := by simp [chkS]
theorem chkS_ok {x : S37} (l : List S37) (h : okR x) : chkS (x :: l) = chkS l := by simp [chkS, h]
theorem chkS_not {x : S37} (l : List S37) (h : ¬ okR x) : chkS (x :: l) = 2 := by simp [chkS, h]
theorem rd_mid (P R : List S37) (x : S37) : rd_T37 (P ++ x :: R) (P.length : Int) = x := by rw [rdT_nat]; exact getD_mid _ _ _ _
theorem chk_l0 : ∀ (R P : List S37) (L : Nat), P.length + R.length = L → L ≤ 4611686018427387904 → Ev (fun k => elevator_Check.l0 k (P ++ R) (L : Int) (P.length : Int)) (chkS R)
  | [], P, L, hL, hm => by
    refine Ev.step (fun k => rfl) ?_
    simp only [elevator_Check.l0]
    exact Ev.neg (by rw [List.length_nil] at hL; omega) (Ev.some_ chkS_nil.symm)
  | x :: R, P, L, hL, hm => by
    rw [List.length_cons] at hL
    have ih := chk_l0 R (P ++ [x]) L (by simp only [List.length_append, List.length_cons, List.length_nil]; omega) hm
    have e1 : P ++ [x] ++ R = P ++ x :: R := by simp
    have e2 : (P ++ [x]).length = P.length + 1 := by simp
    have hlen : ((P ++ x :: R).length : Int) = (L : Int) := by simp only [List.length_append, List.length_cons]; omega
    rw [e1, e2] at ih
    refine Ev.step (fun k => rfl) ?_
    simp only [elevator_Check.l0]
    rw [hlen, wrap_succ (by omega)]
    simp only [rd_mid]
    refine Ev.pos (by omega) (Ev.pos (by omega) (Ev.pos (by omega) ?_))
    clear hlen e1 e2
    by_cases h1 : x.f0 < 0
    · exact Ev.pos h1 (Ev.some_ (chkS_not _ (by unfold okR; omega)).symm)
    refine Ev.neg h1 ?_
    by_cases h2 : x.f0 ≥ 4096
    · exact Ev.pos h2 (Ev.some_ (chkS_not _ (by unfold okR; omega)).symm)
    refine Ev.neg h2 ?_
    by_cases h3 : x.f1 < 1
    · exact Ev.pos h3 (Ev.some_ (chkS_not _ (by unfold okR; omega)).symm)
    refine Ev.neg h3 ?_
    rw [wrap_in (by omega) (by omega)]
    by_cases h4 : x.f1 > 4096 - x.f0
    · exact Ev.pos h4 (Ev.some_ (chkS_not _ (by unfold okR; omega)).symm)
    exact Ev.neg h4 (Ev.value ih (chkS_ok _ (by unfold okR; omega)).symm)
theorem chk_ev (l : List S37) (hm : l.length ≤ 4611686018427387904) : Ev (fun k => elevator_Check.f k l) (chkS l) := by
  simp only [elevator_Check.f]
  exact chk_l0 l [] l.length (by simp) hm
theorem rchk_l0 : ∀ (R P : List S37) (L : Nat), P.length + R.length = L → L ≤ 4611686018427387904 → Ev (fun k => caulkref40_Check.l0 k (P ++ R) (L : Int) (P.length : Int)) (chkS R)
  | [], P, L, hL, hm => by
    refine Ev.step (fun k => rfl) ?_
    simp only [caulkref40_Check.l0]
    exact Ev.neg (by rw [List.length_nil] at hL; omega) (Ev.some_ chkS_nil.symm)
  | x :: R, P, L, hL, hm => by
    rw [List.length_cons] at hL
    have ih := rchk_l0 R (P ++ [x]) L (by simp only [List.length_append, List.length_cons, List.length_nil]; omega) hm
    have e1 : P ++ [x] ++ R = P ++ x :: R := by simp
    have e2 : (P ++ [x]).length = P.length + 1 := by simp
    have hlen : ((P ++ x :: R).length : Int) = (L : Int) := by simp only [List.length_append, List.length_cons]; omega
    rw [e1, e2] at ih
    refine Ev.step (fun k => rfl) ?_
    simp only [caulkref40_Check.l0]
    rw [hlen, wrap_succ (by omega)]
    simp only [rd_mid]
    refine Ev.pos (by omega) (Ev.pos (by omega) (Ev.pos (by omega) ?_))
    clear hlen e1 e2
    by_cases h1 : x.f0 < 0
    · exact Ev.pos h1 (Ev.some_ (chkS_not _ (by unfold okR; omega)).symm)
    refine Ev.neg h1 ?_
    by_cases h2 : x.f0 ≥ 4096
    · exact Ev.pos h2 (Ev.some_ (chkS_not _ (by unfold okR; omega)).symm)
    refine Ev.neg h2 ?_
    by_cases h3 : x.f1 < 1
    · exact Ev.pos h3 (Ev.some_ (chkS_not _ (by unfold okR; omega)).symm)
    refine Ev.neg h3 ?_
    by_cases h5 : x.f1 > 4096
    · exact Ev.pos h5 (Ev.some_ (chkS_not _ (by unfold okR; omega)).symm)
    refine Ev.neg h5 ?_
    rw [wrap_in (n := x.f0 + x.f1) (by omega) (by omega)]
    by_cases h4 : x.f0 + x.f1 > 4096
    · exact Ev.pos h4 (Ev.some_ (chkS_not _ (by unfold okR; omega)).symm)
    exact Ev.neg h4 (Ev.value ih (chkS_ok _ (by unfold okR; omega)).symm)
theorem rchk_ev (l : List S37) (hm : l.length ≤ 4611686018427387904) : Ev (fun k => caulkref40_Check.f k l) (chkS l) := by
  simp only [caulkref40_Check.f]
  exact rchk_l0 l [] l.length (by simp) hm
def rdyS (a : Int) (l : List S37) : Int := if chkS l = 0 then (if a < 0 then 1 else if a > 4096 then 1 else 0) else chkS l
theorem rdy_ev (a : Int) (l : List S37) (hm : l.length ≤ 4611686018427387904) : Ev (fun k => elevator_ready.f k a l) (rdyS a l) := by
  simp only [elevator_ready.f]
  refine Ev.bind (chk_ev l hm) ?_
  by_cases h : chkS l = 0
  · by_cases h1 : a < 0
    · exact Ev.pos h (Ev.pos h1 (Ev.some_ (by simp [rdyS, h, h1])))
    · by_cases h2 : a > 4096
      · exact Ev.pos h (Ev.neg h1 (Ev.pos h2 (Ev.some_ (by simp [rdyS, h, h1, h2]))))
      · exact Ev.pos h (Ev.neg h1 (Ev.neg h2 (Ev.some_ (by simp [rdyS, h, h1, h2]))))
  · exact Ev.neg h (Ev.some_ (by simp [rdyS, h]))
theorem rrdy_ev (a : Int) (l : List S37) (hm : l.length ≤ 4611686018427387904) : Ev (fun k => caulkref40_ready.f k a l) (rdyS a l) := by
  simp only [caulkref40_ready.f]
  refine Ev.bind (rchk_ev l hm) ?_
  by_cases h : chkS l = 0
  · by_cases h1 : a < 0
    · exact Ev.pos h (Ev.pos h1 (Ev.some_ (by simp [rdyS, h, h1])))
    · by_cases h2 : a > 4096
      · exact Ev.pos h (Ev.neg h1 (Ev.pos h2 (Ev.some_ (by simp [rdyS, h, h1, h2]))))
      · exact Ev.pos h (Ev.neg h1 (Ev.neg h2 (Ev.some_ (by simp [rdyS, h, h1, h2]))))
  · exact Ev.neg h (Ev.some_ (by simp [rdyS, h]))
theorem chkS_zero {l : List S37} (h : chkS l = 0) : ∀ x ∈ l, okR x := by
  unfold chkS at h
  by_cases h' : ∀ x ∈ l, okR x
  · exact h'
  · rw [if_neg h'] at h; omega
theorem rdyS_zero {a : Int} {l : List S37} (h : rdyS a l = 0) : chkS l = 0 ∧ 0 ≤ a ∧ a ≤ 4096 := by
  unfold rdyS at h
  by_cases h0 : chkS l = 0
  · rw [if_pos h0] at h
    by_cases h1 : a < 0
    · rw [if_pos h1] at h; omega
    · rw [if_neg h1] at h
      by_cases h2 : a > 4096
      · rw [if_pos h2] at h; omega
      · omega
  · rw [if_neg h0] at h; exact absurd h h0

/-! ### lists that are one -/
theorem same_l0 : ∀ (R P : List S37) (L : Nat), P.length + R.length = L → L ≤ 4611686018427387904 → Ev (fun k => caulkref40_Same.l0 k (P ++ R) (P ++ R) (L : Int) (P.length : Int)) true
  | [], P, L, hL, hm => by
    refine Ev.step (fun k => rfl) ?_
    simp only [caulkref40_Same.l0]
    exact Ev.neg (by rw [List.length_nil] at hL; omega) (Ev.now _)
  | x :: R, P, L, hL, hm => by
    rw [List.length_cons] at hL
    have ih := same_l0 R (P ++ [x]) L (by simp only [List.length_append, List.length_cons, List.length_nil]; omega) hm
    have e1 : P ++ [x] ++ R = P ++ x :: R := by simp
    have e2 : (P ++ [x]).length = P.length + 1 := by simp
    have hlen : ((P ++ x :: R).length : Int) = (L : Int) := by simp only [List.length_append, List.length_cons]; omega
    rw [e1, e2] at ih
    refine Ev.step (fun k => rfl) ?_
    simp only [caulkref40_Same.l0]
    rw [hlen, wrap_succ (by omega)]
    simp only [rd_mid]
    exact Ev.pos (by omega) (Ev.pos (by omega) (Ev.pos (by omega) (Ev.pos (by omega) (Ev.neg (by simp) ih))))
theorem same_ev (l : List S37) (hm : l.length ≤ 4611686018427387904) : Ev (fun k => caulkref40_Same.f k l l) true := by
  simp only [caulkref40_Same.f]
  exact Ev.pos (by trivial) (same_l0 l [] l.length (by simp) hm)
theorem rd39_mid (P R : List S39) (x : S39) : rd_T39 (P ++ x :: R) (P.length : Int) = x := by simp [rd_T39, List.getD]
theorem rsame_l0 : ∀ (R P : List S39) (L : Nat), P.length + R.length = L → L ≤ 4611686018427387904 → Ev (fun k => caulkref19_SameRanges.l0 k (P ++ R) (P ++ R) (L : Int) (P.length : Int)) true
  | [], P, L, hL, hm => by
    refine Ev.step (fun k => rfl) ?_
    simp only [caulkref19_SameRanges.l0]
    exact Ev.neg (by rw [List.length_nil] at hL; omega) (Ev.now _)
  | x :: R, P, L, hL, hm => by
    rw [List.length_cons] at hL
    have ih := rsame_l0 R (P ++ [x]) L (by simp only [List.length_append, List.length_cons, List.length_nil]; omega) hm
    have e1 : P ++ [x] ++ R = P ++ x :: R := by simp
    have e2 : (P ++ [x]).length = P.length + 1 := by simp
    have hlen : ((P ++ x :: R).length : Int) = (L : Int) := by simp only [List.length_append, List.length_cons]; omega
    rw [e1, e2] at ih
    refine Ev.step (fun k => rfl) ?_
    simp only [caulkref19_SameRanges.l0]
    rw [hlen, wrap_succ (by omega)]
    simp only [rd39_mid]
    exact Ev.pos (by omega) (Ev.pos (by omega) (Ev.pos (by omega) (Ev.pos (by omega) (Ev.neg (by simp) ih))))
theorem rsame_ev (l : List S39) (hm : l.length ≤ 4611686018427387904) : Ev (fun k => caulkref19_SameRanges.f k l l) true := by
  simp only [caulkref19_SameRanges.f]
  exact Ev.pos (by trivial) (rsame_l0 l [] l.length (by simp) hm)

/-! ### by rising place -/
def ris (l : List S37) (lo : Int) : Nat → List S37
  | 0 => []
  | n + 1 => l.filter (fun r => r.f0 == lo) ++ ris l (lo + 1) n
theorem ris_l1 : ∀ (R P l out : List S37) (hi at' : Int) (L : Nat), l = P ++ R → P.length + R.length = L → L ≤ 1000 → out.length + R.length ≤ 5000000 →
    ∀ r, Ev (fun k => caulkref40_rising.l0 k l hi (out ++ R.filter (fun r => r.f0 == at')) (wrap64 (at' + 1))) r → Ev (fun k => caulkref40_rising.l1 k l hi out at' l (L : Int) (P.length : Int)) r
  | [], P, l, out, hi, at', L, hl, hL, hm, ho => fun r hr => by
    refine Ev.step (fun k => rfl) ?_
    simp only [caulkref40_rising.l1]
    exact Ev.neg (by rw [List.length_nil] at hL; omega) (by simpa using hr)
  | x :: R, P, l, out, hi, at', L, hl, hL, hm, ho => fun r hr => by
    rw [List.length_cons] at hL ho
    have e1 : l = P ++ [x] ++ R := by rw [hl]; simp
    have e2 : (P ++ [x]).length = P.length + 1 := by simp
    have hlen : (l.length : Int) = (L : Int) := by rw [hl]; simp only [List.length_append, List.length_cons]; omega
    refine Ev.step (fun k => rfl) ?_
    simp only [caulkref40_rising.l1]
    rw [hlen, wrap_succ (by omega)]
    have hrd : rd_T37 l (P.length : Int) = x := by rw [hl]; exact rd_mid _ _ _
    simp only [hrd]
    refine Ev.pos (by omega) (Ev.pos (by omega) (Ev.pos (by omega) ?_))
    by_cases h : x.f0 = at'
    · refine Ev.pos h (Ev.pos (by clear hlen; omega) ?_)
      have ih := ris_l1 R (P ++ [x]) l (out ++ [x]) hi at' L e1 (by simp only [List.length_append, List.length_cons, List.length_nil]; omega) hm (by simp only [List.length_append, List.length_cons, List.length_nil]; omega) r (by
        have : (x :: R).filter (fun r => r.f0 == at') = x :: R.filter (fun r => r.f0 == at') := by rw [List.filter_cons_of_pos (by simp [h])]
        rw [this] at hr
        simpa using hr)
      rw [e2] at ih
      exact ih
    · refine Ev.neg h ?_
      have ih := ris_l1 R (P ++ [x]) l out hi at' L e1 (by simp only [List.length_append, List.length_cons, List.length_nil]; omega) hm (by omega) r (by
        have : (x :: R).filter (fun r => r.f0 == at') = R.filter (fun r => r.f0 == at') := by rw [List.filter_cons_of_neg (by simp [h])]
        rw [this] at hr
        exact hr)
      rw [e2] at ih
      exact ih
theorem ris_l0 (l : List S37) (hl : l.length ≤ 1000) : ∀ (n : Nat) (lo hi : Int) (out : List S37), lo + n = hi → 0 ≤ lo → hi ≤ 4096 → out.length + n * 1000 ≤ 4900000 →
    Ev (fun k => caulkref40_rising.l0 k l hi out lo) (out ++ ris l lo n)
  | 0, lo, hi, out, h, h0, h1, ho => by
    refine Ev.step (fun k => rfl) ?_
    simp only [caulkref40_rising.l0]
    exact Ev.neg (by omega) (Ev.some_ (by simp [ris]))
  | n + 1, lo, hi, out, h, h0, h1, ho => by
    have hf : (l.filter (fun r => r.f0 == lo)).length ≤ l.length := List.length_filter_le _ _
    have ih := ris_l0 l hl n (lo + 1) hi (out ++ l.filter (fun r => r.f0 == lo)) (by omega) (by omega) h1 (by rw [List.length_append]; omega)
    refine Ev.step (fun k => rfl) ?_
    simp only [caulkref40_rising.l0]
    refine Ev.pos (by omega) ?_
    refine ris_l1 l [] l out hi lo l.length rfl (by simp) hl (by omega) _ ?_
    rw [wrap_in (by omega) (by omega)]
    refine Ev.value ih ?_
    simp [ris]
theorem ris_ev (l : List S37) (hl : l.length ≤ 1000) (lo hi : Int) (h0 : 0 ≤ lo) (h : lo ≤ hi) (h1 : hi ≤ 4096) : Ev (fun k => caulkref40_rising.f k l lo hi) (ris l lo (hi - lo).toNat) := by
  simp only [caulkref40_rising.f]
  exact Ev.value (ris_l0 l hl (hi - lo).toNat lo hi [] (by omega) h0 h1 (by simp only [List.length_nil]; omega)) (by simp)
theorem ris_congr {x y : List S37} : ∀ (n : Nat) (lo : Int), (∀ v : Int, lo ≤ v → v < lo + n → x.filter (fun r => r.f0 == v) = y.filter (fun r => r.f0 == v)) → ris x lo n = ris y lo n
  | 0, lo, h => rfl
  | n + 1, lo, h => by
    simp only [ris]
    rw [h lo (by omega) (by omega), ris_congr n (lo + 1) (fun v h0 h1 => h v (by omega) (by omega))]
theorem up_split : ∀ (l : List S37) (lo : Int), Up l → (∀ x ∈ l, lo ≤ x.f0) → l = l.filter (fun r => r.f0 == lo) ++ l.filter (fun r => r.f0 != lo)
  | [], lo, hu, h => rfl
  | x :: l, lo, hu, h => by
    have hu' := List.pairwise_cons.1 hu
    by_cases e : x.f0 = lo
    · rw [List.filter_cons_of_pos (by simp [e]), List.filter_cons_of_neg (by simp [e]), List.cons_append, ← up_split l lo hu'.2 (fun y hy => h y (List.mem_cons_of_mem _ hy))]
    · have hx := h x (List.mem_cons_self ..)
      have h1 : (x :: l).filter (fun r => r.f0 == lo) = [] := by
        rw [List.filter_eq_nil_iff]
        intro y hy
        rcases List.mem_cons.1 hy with rfl | hy
        · simp [e]
        · have := hu'.1 y hy
          simp only [beq_iff_eq]; omega
      have h2 : (x :: l).filter (fun r => r.f0 != lo) = x :: l := by
        rw [List.filter_eq_self]
        intro y hy
        rcases List.mem_cons.1 hy with rfl | hy
        · simp [e]
        · have := hu'.1 y hy
          simp only [bne_iff_ne]; omega
      rw [h1, h2, List.nil_append]
theorem up_ris : ∀ (n : Nat) (l : List S37) (lo : Int), Up l → (∀ x ∈ l, lo ≤ x.f0 ∧ x.f0 < lo + n) → l = ris l lo n
  | 0, l, lo, hu, h => by
    match l with
    | [] => rfl
    | x :: l => have := h x (List.mem_cons_self ..); omega
  | n + 1, l, lo, hu, h => by
    have h1 := up_split l lo hu (fun x hx => (h x hx).1)
    have h2 := up_ris n (l.filter (fun r => r.f0 != lo)) (lo + 1) (hu.filter _) (fun x hx => by
      have hx' := List.mem_filter.1 hx
      have := h x hx'.1
      have h3 := hx'.2
      simp only [bne_iff_ne] at h3
      omega)
    simp only [ris]
    have h3 : ris (l.filter (fun r => r.f0 != lo)) (lo + 1) n = ris l (lo + 1) n := ris_congr n (lo + 1) (fun v hv _ => by
      rw [List.filter_filter]
      apply List.filter_congr
      intro y _
      by_cases e : y.f0 = v
      · simp [e]; omega
      · simp [e])
    rw [← h3, ← h2]
    exact h1

/-! ### halving for the head's place -/
theorem ord2_ev (a0 a1 a2 b : Int) : elevator_Order_2.f a0 a1 a2 b = some (if a0 < b then -1 else if a0 > b then 1 else 0) := by
  simp only [elevator_Order_2.f, cmp_ev, Option.bind_some]
theorem bs_l0 : ∀ (d : Nat) (D : List S37) (t : Int) (i j : Nat), j - i ≤ d → i ≤ j → j ≤ D.length → D.length ≤ 4611686018427387904 → 
    (i = 0 ∨ (D.getD (i - 1) z37).f0 < t) → (j = D.length ∨ ¬ (D.getD j z37).f0 < t) →
    ∃ (c : Nat) (b : Bool), c ≤ D.length ∧ (c = 0 ∨ (D.getD (c - 1) z37).f0 < t) ∧ (c = D.length ∨ ¬ (D.getD c z37).f0 < t) ∧
      Ev (fun k => api_Req_int__elevator_Order_2.l0 k D t (D.length : Int) (i : Int) (j : Int)) ((c : Int), b)
  | 0, D, t, i, j, hd, hij, hj, hm, h1, h2 => by
    obtain rfl : i = j := by omega
    by_cases h : i < D.length
    · refine ⟨i, ((if (D.getD i z37).f0 < t then (-1 : Int) else if (D.getD i z37).f0 > t then 1 else 0) == 0), hj, h1, h2, ?_⟩
      refine Ev.step (fun k => rfl) ?_
      simp only [api_Req_int__elevator_Order_2.l0]
      refine Ev.neg (by omega) (Ev.pos (by omega) (Ev.pos (by omega) (Ev.pos (by omega) ?_)))
      simp only [rdT_nat, ord2_ev, Option.bind_some]
      exact Ev.now _
    · refine ⟨i, false, hj, h1, h2, ?_⟩
      refine Ev.step (fun k => rfl) ?_
      simp only [api_Req_int__elevator_Order_2.l0]
      exact Ev.neg (by omega) (Ev.neg (by omega) (Ev.now _))
  | d + 1, D, t, i, j, hd, hij, hj, hm, h1, h2 => by
    by_cases hlt : i < j
    · by_cases hc : (D.getD ((i + j) / 2) z37).f0 < t
      · obtain ⟨c, b, c1, c2, c3, c4⟩ := bs_l0 d D t ((i + j) / 2 + 1) j (by omega) (by omega) hj hm (.inr (by rw [Nat.add_sub_cancel]; exact hc)) h2
        refine ⟨c, b, c1, c2, c3, ?_⟩
        refine Ev.step (fun k => rfl) ?_
        simp only [api_Req_int__elevator_Order_2.l0]
        rw [half_lt hlt (by omega), wrap_succ (by omega)]
        refine Ev.pos (by omega) (Ev.pos (by omega) (Ev.pos (by omega) ?_))
        simp only [rdT_nat, ord2_ev, Option.bind_some, ord_neg]
        exact Ev.pos hc c4
      · obtain ⟨c, b, c1, c2, c3, c4⟩ := bs_l0 d D t i ((i + j) / 2) (by omega) (by omega) (by omega) hm h1 (.inr hc)
        refine ⟨c, b, c1, c2, c3, ?_⟩
        refine Ev.step (fun k => rfl) ?_
        simp only [api_Req_int__elevator_Order_2.l0]
        rw [half_lt hlt (by omega)]
        refine Ev.pos (by omega) (Ev.pos (by omega) (Ev.pos (by omega) ?_))
        simp only [rdT_nat, ord2_ev, Option.bind_some, ord_neg]
        exact Ev.neg hc c4
    · exact bs_l0 0 D t i j (by omega) hij hj hm h1 h2
/-! ### two lists behind each other -/
theorem cat_ev (X Y : List S37) (h : X.length + Y.length ≤ 100000) : Ev (fun k => api_Req_67.f k [X, Y]) (X ++ Y) := by
  simp only [api_Req_67.f]
  have r0 : rd_L2 [X, Y] ((0 : Nat) : Int) = X := rfl
  have r1 : rd_L2 [X, Y] ((1 : Nat) : Int) = Y := rfl
  have hl : (([X, Y] : List (List S37)).length : Int) = 2 := rfl
  have w0 : wrap64 (0 + (X.length : Int)) = ((X.length : Nat) : Int) := by rw [wrap_in (by omega) (by omega)]; omega
  have w1 : wrap64 ((X.length : Int) + (Y.length : Int)) = ((X.length + Y.length : Nat) : Int) := by clear w0; rw [wrap_in (by omega) (by omega)]; omega
  have s0 : wrap64 (0 + 1) = ((1 : Nat) : Int) := by unfold wrap64; omega
  have s1 : wrap64 (((1 : Nat) : Int) + 1) = ((2 : Nat) : Int) := by unfold wrap64; omega
  refine Ev.step (fun k => rfl) ?_
  simp only [api_Req_67.l0]
  rw [show rd_L2 [X, Y] 0 = X from rfl, hl, w0, s0]
  refine Ev.pos (by decide) (Ev.pos (by decide) (Ev.pos (by decide) (Ev.neg (by clear w0 w1 s0 s1; omega) ?_)))
  refine Ev.step (fun k => rfl) ?_
  simp only [api_Req_67.l0]
  rw [r1, hl, w1, s1]
  refine Ev.pos (by decide) (Ev.pos (by decide) (Ev.pos (by decide) (Ev.neg (by clear w0 w1 s0 s1; omega) ?_)))
  refine Ev.step (fun k => rfl) ?_
  simp only [api_Req_67.l0]
  refine Ev.neg (by decide) ?_
  have hm : api_Req_100.f ((X.length + Y.length : Nat) : Int) = some [] := by
    unfold api_Req_100.f
    rw [if_pos ⟨by clear w0 w1 s0 s1; omega, by clear w0 w1 s0 s1; omega⟩]
  rw [hm]
  refine Ev.let_ ?_
  refine Ev.step (fun k => rfl) ?_
  simp only [api_Req_67.l1]
  rw [show rd_L2 [X, Y] 0 = X from rfl, hl, s0]
  refine Ev.pos (by decide) (Ev.pos (by decide) (Ev.pos (by decide) (Ev.pos (by clear w0 w1 s0 s1; simp only [List.length_nil]; omega) ?_)))
  refine Ev.step (fun k => rfl) ?_
  simp only [api_Req_67.l1]
  rw [r1, hl, s1]
  refine Ev.pos (by decide) (Ev.pos (by decide) (Ev.pos (by decide) (Ev.pos (by clear w0 w1 s0 s1; simp only [List.nil_append]; omega) ?_)))
  refine Ev.step (fun k => rfl) ?_
  simp only [api_Req_67.l1]
  exact Ev.neg (by decide) (Ev.some_ (by simp))

/-! ### the order in which they are served -/
def ordL (a : Int) (l : List S37) : List S37 := ris l a (4096 - a).toNat ++ ris l 0 a.toNat
def ordS (a : Int) (l : List S37) : List S37 × Int := if rdyS a l = 0 then (ordL a l, 0) else ([], rdyS a l)
theorem below_take {D : List S37} (hu : Up D) {c : Nat} (hc : c ≤ D.length) {t : Int} (h : c = 0 ∨ (D.getD (c - 1) z37).f0 < t) : ∀ x ∈ D.take c, x.f0 < t := by
  intro x hx
  obtain ⟨k, hk, rfl⟩ := List.getElem_of_mem hx
  rw [List.length_take] at hk
  rcases h with h | h
  · omega
  · have := Up.get hu (i := k) (j := c - 1) (by omega) (by omega)
    rw [getD_lt _ (by omega : k < D.length)] at this
    rw [List.getElem_take]
    omega
theorem above_drop {D : List S37} (hu : Up D) {c : Nat} {t : Int} (h : c = D.length ∨ ¬ (D.getD c z37).f0 < t) : ∀ x ∈ D.drop c, t ≤ x.f0 := by
  intro x hx
  obtain ⟨k, hk, rfl⟩ := List.getElem_of_mem hx
  rw [List.length_drop] at hk
  rcases h with h | h
  · omega
  · have := Up.get hu (i := c) (j := c + k) (by omega) (by omega)
    rw [getD_lt _ (by omega : c + k < D.length)] at this
    rw [List.getElem_drop]
    omega
theorem ord_ris {l D : List S37} (hu : Up D) (hs : SameF l D) (hok : ∀ x ∈ l, okR x) {a : Int} (ha : 0 ≤ a) (ha2 : a ≤ 4096) {c : Nat} (hc : c ≤ D.length)
    (h1 : c = 0 ∨ (D.getD (c - 1) z37).f0 < a) (h2 : c = D.length ∨ ¬ (D.getD c z37).f0 < a) : D.drop c ++ D.take c = ordL a l := by
  have ht := below_take hu hc h1
  have hd := above_drop hu h2
  have hok' : ∀ x ∈ D, okR x := fun x hx => hok x ((hs.mem x).2 hx)
  have eD : D = D.take c ++ D.drop c := (List.take_append_drop _ _).symm
  have uD : Up (D.take c ++ D.drop c) := eD ▸ hu
  unfold ordL
  congr 1
  · have q := up_ris (4096 - a).toNat (D.drop c) a uD.right (fun x hx => by
      have := hd x hx
      have := hok' x (List.mem_of_mem_drop hx)
      unfold okR at this
      omega)
    rw [q]
    rw [← q]
    refine q.trans (ris_congr _ _ (fun v hv _ => ?_))
    rw [hs v, eD, List.filter_append, ← eD]
    have : (D.take c).filter (fun r => r.f0 == v) = [] := by
      rw [List.filter_eq_nil_iff]
      intro y hy
      have := ht y hy
      simp only [beq_iff_eq]; omega
    rw [this, List.nil_append]
  · have q := up_ris a.toNat (D.take c) 0 uD.left (fun x hx => by
      have := ht x hx
      have := hok' x (List.mem_of_mem_take hx)
      unfold okR at this
      omega)
    refine q.trans (ris_congr _ _ (fun v hv hv2 => ?_))
    rw [hs v, eD, List.filter_append, ← eD]
    have : (D.drop c).filter (fun r => r.f0 == v) = [] := by
      rw [List.filter_eq_nil_iff]
      intro y hy
      have := hd y hy
      simp only [beq_iff_eq]; omega
    rw [this, List.append_nil]
/-- What is had of the sort: a list in order with the same requests, cut at the head. -/
theorem ord_made (a : Int) (l : List S37) (hm : l.length ≤ 1000) (h : rdyS a l = 0) :
    ∃ D c, Up D ∧ SameF l D ∧ c ≤ D.length ∧ (∀ x ∈ D.take c, x.f0 < a) ∧ (∀ x ∈ D.drop c, a ≤ x.f0) ∧ D.drop c ++ D.take c = ordL a l ∧ Ev (fun k => elevator_Order.f k a l) (ordL a l, 0) := by
  obtain ⟨hc, ha, ha2⟩ := rdyS_zero h
  obtain ⟨D, d1, d2, d3, d4⟩ := stable_ev l (by omega)
  obtain ⟨c, b, c1, c2, c3, c4⟩ := bs_l0 D.length D a 0 D.length (by omega) (by omega) (Nat.le_refl _) (by omega) (.inl rfl) (.inl rfl)
  have e := ord_ris d2 d3 (chkS_zero hc) ha ha2 c1 c2 c3
  refine ⟨D, c, d2, d3, c1, below_take d2 c1 c2, above_drop d2 c3, e, ?_⟩
  simp only [elevator_Order.f]
  have r := rdy_ev a l (by omega)
  rw [h] at r
  refine Ev.bind r (Ev.pos rfl ?_)
  have q : api_Req_61.f l = some l := by unfold api_Req_61.f; rw [if_pos (by omega)]
  rw [q]
  refine Ev.let_ (Ev.bind d4 ?_)
  have c5 : Ev (fun k => api_Req_int__elevator_Order_2.f k D a) ((c : Int), b) := by
    simp only [api_Req_int__elevator_Order_2.f]
    exact c4
  refine Ev.bind c5 (Ev.pos (by simp only []; omega) (Ev.pos (by simp only []; omega) ?_))
  simp only [Int.toNat_natCast]
  refine Ev.bind (cat_ev (D.drop c) (D.take c) (by rw [List.length_drop, List.length_take]; omega)) ?_
  rw [e]
  exact Ev.now _
theorem ordE_ev (a : Int) (l : List S37) (hm : l.length ≤ 1000) : Ev (fun k => elevator_Order.f k a l) (ordS a l) := by
  by_cases h : rdyS a l = 0
  · obtain ⟨D, c, _, _, _, _, _, _, e⟩ := ord_made a l hm h
    unfold ordS
    rw [if_pos h]
    exact e
  · unfold ordS
    rw [if_neg h]
    simp only [elevator_Order.f]
    exact Ev.bind (rdy_ev a l (by omega)) (Ev.neg h (Ev.now _))
theorem ris_len (l : List S37) : ∀ (n : Nat) (lo : Int), (ris l lo n).length ≤ n * l.length
  | 0, lo => by simp [ris]
  | n + 1, lo => by
    have := ris_len l n (lo + 1)
    have hf : (l.filter (fun r => r.f0 == lo)).length ≤ l.length := List.length_filter_le _ _
    simp only [ris, List.length_append, Nat.succ_mul]
    omega
theorem ordR_ev (a : Int) (l : List S37) (hm : l.length ≤ 1000) : Ev (fun k => caulkref40_Order.f k a l) (ordS a l) := by
  unfold ordS
  simp only [caulkref40_Order.f]
  have r := rrdy_ev a l (by omega)
  by_cases h : rdyS a l = 0
  · obtain ⟨hc, ha, ha2⟩ := rdyS_zero h
    rw [if_pos h]
    rw [h] at r
    refine Ev.bind r (Ev.pos rfl ?_)
    refine Ev.bind (ris_ev l hm a 4096 ha ha2 (by omega)) (Ev.bind (ris_ev l hm 0 a (by omega) ha ha2) ?_)
    have l1 : (ris l a (4096 - a).toNat).length ≤ 4096 * 1000 := Nat.le_trans (ris_len l _ _) (Nat.mul_le_mul (by omega) hm)
    have l2 : (ris l 0 (a - 0).toNat).length ≤ 4096 * 1000 := Nat.le_trans (ris_len l _ _) (Nat.mul_le_mul (by omega) hm)
    refine Ev.pos (by omega) (Ev.some_ ?_)
    unfold ordL
    rw [Int.sub_zero]
  · rw [if_neg h]
    exact Ev.bind r (Ev.neg h (Ev.now _))

/-! ### the way -/
theorem rd_cons_succ (x : S37) (xs : List S37) (k : Nat) : rd_T37 (x :: xs) ((k + 1 : Nat) : Int) = rd_T37 xs (k : Int) := by rw [rdT_nat, rdT_nat]; simp
theorem servedL_cons (h : Int) (x : S37) (xs : List S37) : servedL h (x :: xs) = (h, x) :: servedL (wrap64 (x.f0 + x.f1)) xs := by
  unfold servedL servedN
  rw [List.length_cons, List.range_succ_eq_map, List.map_cons, List.map_map]
  congr 1
  apply List.map_congr_left
  intro k _
  simp only [Function.comp_def]
  rw [rd_cons_succ]
  congr 1
  cases k with
  | zero => rfl
  | succ k =>
    simp only [hdK]
    rw [if_neg (by omega), if_neg (by omega)]
    simp only [Nat.succ_eq_add_one, Nat.add_sub_cancel]
    rw [rd_cons_succ]
def wayW (n h : Int) : List S37 → Int
  | [] => n
  | x :: r => wayW (wayS n (h, x)) (wrap64 (x.f0 + x.f1)) r
theorem way_fold : ∀ (l : List S37) (n h : Int), (servedL h l).foldl wayS n = wayW n h l
  | [], n, h => rfl
  | x :: l, n, h => by rw [servedL_cons, List.foldl_cons, way_fold l]; rfl
def wayA (a : Int) (l : List S37) : Int × Int := if rdyS a l = 0 then (wayW 0 a l, 0) else (0, rdyS a l)
theorem wayE_ev (a : Int) (l : List S37) (hm : l.length ≤ 4611686018427387904) : Ev (fun k => elevator_Way.f k a l) (wayA a l) := by
  simp only [elevator_Way.f, if_pos hm, way_fold]
  refine Ev.bind (rdy_ev a l hm) ?_
  by_cases h : rdyS a l = 0
  · exact Ev.pos h (Ev.some_ (by simp [wayA, h]))
  · exact Ev.neg h (Ev.some_ (by simp [wayA, h]))
theorem way_l0 : ∀ (R P : List S37) (n h : Int) (L : Nat), P.length + R.length = L → L ≤ 4611686018427387904 → Ev (fun k => caulkref40_Way.l0 k h n (P ++ R) (L : Int) (P.length : Int)) (wayW n h R, 0)
  | [], P, n, h, L, hL, hm => by
    refine Ev.step (fun k => rfl) ?_
    simp only [caulkref40_Way.l0]
    exact Ev.neg (by rw [List.length_nil] at hL; omega) (Ev.now _)
  | x :: R, P, n, h, L, hL, hm => by
    rw [List.length_cons] at hL
    have ih := way_l0 R (P ++ [x]) (wayS n (h, x)) (wrap64 (x.f0 + x.f1)) L (by simp only [List.length_append, List.length_cons, List.length_nil]; omega) hm
    have e1 : P ++ [x] ++ R = P ++ x :: R := by simp
    have e2 : (P ++ [x]).length = P.length + 1 := by simp
    have hlen : ((P ++ x :: R).length : Int) = (L : Int) := by simp only [List.length_append, List.length_cons]; omega
    rw [e1, e2] at ih
    refine Ev.step (fun k => rfl) ?_
    simp only [caulkref40_Way.l0]
    rw [hlen, wrap_succ (by omega)]
    simp only [rd_mid]
    clear hlen
    exact Ev.pos (by omega) (Ev.pos (by omega) (Ev.pos (by omega) ih))
theorem wayR_ev (a : Int) (l : List S37) (hm : l.length ≤ 4611686018427387904) : Ev (fun k => caulkref40_Way.f k a l) (wayA a l) := by
  simp only [caulkref40_Way.f]
  refine Ev.bind (rrdy_ev a l hm) ?_
  unfold wayA
  by_cases h : rdyS a l = 0
  · rw [if_pos h]; exact Ev.pos h (way_l0 l [] 0 a l.length (by simp) hm)
  · rw [if_neg h]; exact Ev.neg h (Ev.now _)

/-! ### the runs -/
def runsW (O : List S39) (z : S39) : List S37 → List S39
  | [] => O ++ [z]
  | x :: r => if z.f1 = x.f0 then runsW O ⟨z.f0, wrap64 (z.f1 + x.f1)⟩ r else runsW (O ++ [z]) ⟨x.f0, wrap64 (x.f0 + x.f1)⟩ r
def runsL : List S37 → List S39
  | [] => []
  | x :: r => runsW [] ⟨x.f0, wrap64 (x.f0 + x.f1)⟩ r
theorem runs_fold : ∀ (l : List S37) (O : List S39) (z : S39), O.length + 1 + l.length ≤ 100000 → (servedL z.f1 l).foldlM runsS (O ++ [z]) = some (runsW O z l)
  | [], O, z, h => rfl
  | x :: l, O, z, h => by
    rw [List.length_cons] at h
    rw [servedL_cons, List.foldlM_cons]
    have hlen : (O ++ [z]).length = O.length + 1 := by simp
    have hg : (O ++ [z]).getD O.length z39 = z := by simp [List.getD]
    simp only [runsS, hlen, Nat.add_sub_cancel, hg, List.dropLast_concat, runsW]
    by_cases e : z.f1 = x.f0
    · rw [if_pos e, if_pos e, if_neg (by omega), ← e]
      exact runs_fold l O ⟨z.f0, wrap64 (z.f1 + x.f1)⟩ (by omega)
    · rw [if_neg e, if_neg e, if_pos (by omega)]
      exact runs_fold l (O ++ [z]) ⟨x.f0, wrap64 (x.f0 + x.f1)⟩ (by rw [hlen]; omega)
def runsA (l : List S37) : List S39 × Int := if chkS l = 0 then (runsL l, 0) else ([], chkS l)
theorem runsE_ev (l : List S37) (hm : l.length ≤ 1000) : Ev (fun k => elevator_Runs.f k l) (runsA l) := by
  simp only [elevator_Runs.f, if_pos (show l.length ≤ 4611686018427387904 by omega)]
  refine Ev.bind (chk_ev l (by omega)) ?_
  by_cases h : chkS l = 0
  · have ea : runsA l = (runsL l, 0) := by unfold runsA; rw [if_pos h]
    rw [ea]
    refine Ev.pos h ?_
    have : (servedL (-1) l).foldlM runsS [] = some (runsL l) := by
      match l, hm, h with
      | [], _, _ => rfl
      | x :: r, hm, h =>
        rw [List.length_cons] at hm
        have hx := chkS_zero h x (List.mem_cons_self ..)
        unfold okR at hx
        rw [servedL_cons, List.foldlM_cons]
        simp only [runsS]
        rw [if_neg (by omega), if_pos (by simp)]
        exact runs_fold r [] ⟨x.f0, wrap64 (x.f0 + x.f1)⟩ (by simp only [List.length_nil]; omega)
    rw [this]
    exact Ev.now _
  · exact Ev.neg h (Ev.some_ (by simp [runsA, h]))
theorem runs_l0 : ∀ (R P : List S37) (O : List S39) (z : S39) (L : Nat), P.length + R.length = L → L ≤ 1000 → O.length + R.length ≤ 1000 → Ev (fun k => caulkref40_Runs.l0 k (O ++ [z]) (P ++ R) (L : Int) (P.length : Int)) (runsW O z R, 0)
  | [], P, O, z, L, hL, hm, ho => by
    refine Ev.step (fun k => rfl) ?_
    simp only [caulkref40_Runs.l0]
    exact Ev.neg (by rw [List.length_nil] at hL; omega) (Ev.now _)
  | x :: R, P, O, z, L, hL, hm, ho => by
    rw [List.length_cons] at hL ho
    have e1 : P ++ [x] ++ R = P ++ x :: R := by simp
    have e2 : (P ++ [x]).length = P.length + 1 := by simp
    have hlen : ((P ++ x :: R).length : Int) = (L : Int) := by simp only [List.length_append, List.length_cons]; omega
    have ho1 : (O ++ [z]).length = O.length + 1 := by simp
    have w : wrap64 (((O.length + 1 : Nat) : Int) - 1) = ((O.length : Nat) : Int) := wrap_pred (by omega)
    have hg : rd_T39 (O ++ [z]) (O.length : Int) = z := rd39_mid O [] z
    have ih1 := runs_l0 R (P ++ [x]) O ⟨z.f0, wrap64 (z.f1 + x.f1)⟩ L (by rw [e2]; omega) hm (by omega)
    have ih2 := runs_l0 R (P ++ [x]) (O ++ [z]) ⟨x.f0, wrap64 (x.f0 + x.f1)⟩ L (by rw [e2]; omega) hm (by rw [ho1]; omega)
    rw [e1, e2] at ih1 ih2
    have hs : (O ++ [z]).set O.length ⟨z.f0, wrap64 (z.f1 + x.f1)⟩ = O ++ [⟨z.f0, wrap64 (z.f1 + x.f1)⟩] := by rw [List.set_append_right _ _ (Nat.le_refl _), Nat.sub_self]; rfl
    refine Ev.step (fun k => rfl) ?_
    simp only [caulkref40_Runs.l0]
    rw [hlen, wrap_succ (by clear w; omega), ho1, w]
    simp only [rd_mid, hg, Int.toNat_natCast, hs]
    clear w hlen
    refine Ev.pos (by omega) (Ev.pos (by omega) (Ev.pos (by omega) (Ev.pos (by omega) (Ev.pos (by omega) (Ev.pos (by omega) ?_)))))
    simp only [runsW]
    by_cases e : z.f1 = x.f0
    · rw [if_pos e]; exact Ev.pos e ih1
    · rw [if_neg e]; exact Ev.neg e (Ev.pos (by omega) ih2)
theorem runsR_ev (l : List S37) (hm : l.length ≤ 1000) : Ev (fun k => caulkref40_Runs.f k l) (runsA l) := by
  simp only [caulkref40_Runs.f]
  refine Ev.bind (rchk_ev l (by omega)) ?_
  unfold runsA
  by_cases h : chkS l = 0
  · rw [if_pos h]
    refine Ev.pos h ?_
    match l, hm with
    | [], hm =>
      refine Ev.step (fun k => rfl) ?_
      simp only [caulkref40_Runs.l0]
      exact Ev.neg (by simp) (Ev.now _)
    | x :: r, hm =>
      have ih := runs_l0 r [x] [] ⟨x.f0, wrap64 (x.f0 + x.f1)⟩ (x :: r).length (by simp only [List.length_cons, List.length_nil]; omega) hm (by rw [List.length_cons] at hm; simp only [List.length_nil]; omega)
      refine Ev.step (fun k => rfl) ?_
      simp only [caulkref40_Runs.l0]
      rw [show rd_T37 (x :: r) 0 = x from rfl]
      have w : wrap64 (0 + 1) = ((1 : Nat) : Int) := by unfold wrap64; omega
      rw [w]
      refine Ev.pos (by rw [List.length_cons]; omega) (Ev.pos (by decide) (Ev.pos (by rw [List.length_cons]; omega) (Ev.neg (by simp) (Ev.pos (by simp) ?_))))
      exact ih
  · rw [if_neg h]; exact Ev.neg h (Ev.now _)
theorem runsW_len : ∀ (l : List S37) (O : List S39) (z : S39), (runsW O z l).length ≤ O.length + 1 + l.length
  | [], O, z => by simp [runsW]
  | x :: l, O, z => by
    simp only [runsW]
    by_cases e : z.f1 = x.f0
    · rw [if_pos e]; have := runsW_len l O ⟨z.f0, wrap64 (z.f1 + x.f1)⟩; rw [List.length_cons]; omega
    · rw [if_neg e]; have := runsW_len l (O ++ [z]) ⟨x.f0, wrap64 (x.f0 + x.f1)⟩; simp only [List.length_append, List.length_cons, List.length_nil] at this ⊢; omega
theorem runsL_len (l : List S37) : (runsL l).length ≤ l.length := by
  match l with
  | [] => simp [runsL]
  | x :: r => have := runsW_len r [] ⟨x.f0, wrap64 (x.f0 + x.f1)⟩; simp only [runsL, List.length_cons, List.length_nil] at this ⊢; omega
end Go.Proofs.Ytgahpdoiddhdaaa.Pure
