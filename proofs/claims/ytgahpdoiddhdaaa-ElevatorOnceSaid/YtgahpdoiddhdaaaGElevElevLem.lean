/- The plain laws on the elevator: what a stable sort by insertion and by merging in place (symMerge) leaves. No program's step in sight: the printed functions alone. Conditions: none. -/
import Derived.Test.YtgahpdoiddhdaaaGElevx3
import Derived.Test.YtgahpdoiddhdaaaGElevx8
import Derived.Test.YtgahpdoiddhdaaaGElevK
namespace Go.Proofs.Ytgahpdoiddhdaaa.Pure
open Go.RowKit Go.Proofs.Ytgahpdoiddhdaaa Go.Proofs.YtgahpdoiddhdaaaW.PrintWords Go.Proofs.YtgahpdoiddhdaaaW.PrintLast Go.Proofs.YtgahpdoiddhdaaaW.PrintMore Go.Proofs.Ytgahpdoiddhdaaa.PKit Go.Proofs.Ytgahpdoiddhdaaa.HElev
set_option linter.unusedVariables false
set_option linter.unusedSimpArgs false

/-! ### lists by index -/
theorem rdT_nat (xs : List S37) (n : Nat) : rd_T37 xs (n : Int) = xs.getD n z37 := by simp [rd_T37]
theorem getD_mid {α : Type} (p s : List α) (u d : α) : (p ++ u :: s).getD p.length d = u := by simp [List.getD]
theorem set_mid {α : Type} (p s : List α) (u v : α) : (p ++ u :: s).set p.length v = p ++ v :: s := by rw [List.set_append_right _ _ (Nat.le_refl _), Nat.sub_self]; rfl

/-! ### a < b, by the place -/
theorem cmp_ev (a b : Int) : cmp_Compare_int.f a b = some (if a < b then -1 else if a > b then 1 else 0) := by
  have h : (a != a) = false := by simp
  have h2 : (b != b) = false := by simp
  simp only [cmp_Compare_int.f, cmp_isNaN_int.f, Option.bind_some, h, h2]
  by_cases h3 : a < b
  · simp [h3]
  · by_cases h4 : a > b
    · simp [h3, h4]
    · simp [h3, h4]
theorem ord_ev (a0 a1 a2 b0 b1 b2 : Int) : elevator_Order_1.f a0 a1 a2 b0 b1 b2 = some (if a0 < b0 then -1 else if a0 > b0 then 1 else 0) := by
  simp only [elevator_Order_1.f, cmp_ev, Option.bind_some]
theorem ord_neg (a b : Int) : ((if a < b then -1 else if a > b then 1 else 0 : Int) < 0) ↔ a < b := by
  by_cases h : a < b
  · simp [h]
  · by_cases h2 : a > b <;> simp [h, h2]

/-! ### what a stable sort keeps: of each place those that have it, in their order -/
def SameF (x y : List S37) : Prop := ∀ v : Int, x.filter (fun r => r.f0 == v) = y.filter (fun r => r.f0 == v)
theorem SameF.refl (x : List S37) : SameF x x := fun _ => rfl
theorem SameF.trans {x y z : List S37} (h : SameF x y) (k : SameF y z) : SameF x z := fun v => (h v).trans (k v)
theorem SameF.symm {x y : List S37} (h : SameF x y) : SameF y x := fun v => (h v).symm
theorem SameF.append {x x' y y' : List S37} (h : SameF x x') (k : SameF y y') : SameF (x ++ y) (x' ++ y') := fun v => by rw [List.filter_append, List.filter_append, h v, k v]
/-- Two blocks that share no place may change theirs. -/
theorem SameF.swap {a b : List S37} (h : ∀ x ∈ a, ∀ y ∈ b, x.f0 ≠ y.f0) : SameF (a ++ b) (b ++ a) := by
  intro v
  rw [List.filter_append, List.filter_append]
  by_cases ha : ∃ x ∈ a, x.f0 = v
  · obtain ⟨x, hx, e⟩ := ha
    have : b.filter (fun r => r.f0 == v) = [] := by
      rw [List.filter_eq_nil_iff]
      intro y hy he
      exact h x hx y hy (e.trans (beq_iff_eq.1 he).symm)
    rw [this, List.append_nil, List.nil_append]
  · have : a.filter (fun r => r.f0 == v) = [] := by
      rw [List.filter_eq_nil_iff]
      intro y hy he
      exact ha ⟨y, hy, beq_iff_eq.1 he⟩
    rw [this, List.append_nil, List.nil_append]
theorem SameF.mid {p s x y : List S37} (h : SameF x y) : SameF (p ++ x ++ s) (p ++ y ++ s) := (SameF.append (SameF.append (SameF.refl p) h) (SameF.refl s))
/-- A list in order. -/
def Up (x : List S37) : Prop := x.Pairwise fun a b => a.f0 ≤ b.f0

/-! ### swapRange -/
theorem eta37 (x : S37) : (⟨x.f0, x.f1, x.f2⟩ : S37) = x := rfl
theorem mid2 (P A M B S : List S37) (u w : S37) (i j : Nat) (hi : P.length = i) (hj : P.length + 1 + A.length + M.length = j) :
    (P ++ (u :: A) ++ M ++ (w :: B) ++ S).getD i z37 = u ∧ (P ++ (u :: A) ++ M ++ (w :: B) ++ S).getD j z37 = w ∧
    ((P ++ (u :: A) ++ M ++ (w :: B) ++ S).set i w).set j u = P ++ [w] ++ A ++ (M ++ [u]) ++ B ++ S := by
  have f1 : P ++ (u :: A) ++ M ++ (w :: B) ++ S = P ++ u :: (A ++ M ++ (w :: B) ++ S) := by simp
  have f2 : P ++ (u :: A) ++ M ++ (w :: B) ++ S = (P ++ (u :: A) ++ M) ++ w :: (B ++ S) := by simp
  have hj1 : (P ++ (u :: A) ++ M).length = j := by simp only [List.length_append, List.length_cons]; omega
  have hj2 : (P ++ w :: A ++ M).length = j := by simp only [List.length_append, List.length_cons]; omega
  refine ⟨?_, ?_, ?_⟩
  · rw [f1, ← hi]; exact getD_mid _ _ _ _
  · rw [f2, ← hj1]; exact getD_mid _ _ _ _
  · have e' : P ++ w :: (A ++ M ++ (w :: B) ++ S) = (P ++ w :: A ++ M) ++ w :: (B ++ S) := by simp
    rw [f1, ← hi, set_mid, e', ← hj2, set_mid]
    simp
theorem sw_l0 : ∀ (A B P M S : List S37) (a b n i L : Nat), A.length = B.length → P.length = a + i → P.length + A.length + M.length = b + i → i + A.length = n → L = P.length + A.length + M.length + B.length + S.length → L ≤ 4611686018427387904 →
    Ev (fun k => api_Req_169__elevator_Order_1.l0 k (P ++ A ++ M ++ B ++ S) (a : Int) (b : Int) (n : Int) (i : Int)) (P ++ B ++ M ++ A ++ S)
  | [], [], P, M, S, a, b, n, i, L, hl, ha, hb, hn, hL, hm => by
    refine Ev.step (fun k => rfl) ?_
    simp only [api_Req_169__elevator_Order_1.l0]
    exact Ev.neg (by simp at hn; omega) (Ev.now _)
  | [], _ :: _, _, _, _, _, _, _, _, _, hl, _, _, _, _, _ => by simp at hl
  | _ :: _, [], _, _, _, _, _, _, _, _, hl, _, _, _, _, _ => by simp at hl
  | u :: A, w :: B, P, M, S, a, b, n, i, L, hl, ha, hb, hn, hL, hm => by
    simp only [List.length_cons] at hl hn hb hL
    have ih := sw_l0 A B (P ++ [w]) (M ++ [u]) S a b n (i + 1) L (by omega) (by simp only [List.length_append, List.length_cons, List.length_nil]; omega) (by simp only [List.length_append, List.length_cons, List.length_nil]; omega) (by omega) (by simp only [List.length_append, List.length_cons, List.length_nil]; omega) hm
    obtain ⟨g1, g2, g3⟩ := mid2 P A M B S u w (a + i) (b + i) (by omega) (by omega)
    have hlen : ((P ++ (u :: A) ++ M ++ (w :: B) ++ S).length : Int) = (L : Int) := by simp only [List.length_append, List.length_cons]; omega
    have e5 : P ++ (w :: B) ++ M ++ (u :: A) ++ S = P ++ [w] ++ B ++ (M ++ [u]) ++ A ++ S := by simp
    rw [e5]
    generalize hD : P ++ (u :: A) ++ M ++ (w :: B) ++ S = D at *
    refine Ev.step (fun k => rfl) ?_
    simp only [api_Req_169__elevator_Order_1.l0]
    have e : wrap64 ((a : Int) + (i : Int)) = ((a + i : Nat) : Int) ∧ wrap64 ((b : Int) + (i : Int)) = ((b + i : Nat) : Int) ∧ wrap64 ((i : Int) + 1) = ((i + 1 : Nat) : Int) := by
      clear ih g1 g2 g3 hD e5 hlen
      exact ⟨by rw [wrap_in (by omega) (by omega)]; omega, by rw [wrap_in (by omega) (by omega)]; omega, wrap_succ (by omega)⟩
    obtain ⟨e1, e2, e3⟩ := e
    rw [e1, e2, e3, hlen]
    clear e1 e2 e3 hlen hD e5
    refine Ev.pos (by omega) (Ev.pos (by omega) (Ev.pos (by omega) (Ev.pos (by omega) (Ev.pos (by omega) ?_))))
    simp only [eta37, rdT_nat, Int.toNat_natCast]
    rw [g1, g2, g3]
    exact ih
theorem sw_ev (A B P M S : List S37) (a b n : Nat) (hl : A.length = B.length) (ha : P.length = a) (hb : P.length + A.length + M.length = b) (hn : A.length = n) (hm : P.length + A.length + M.length + B.length + S.length ≤ 4611686018427387904) :
    Ev (fun k => api_Req_169__elevator_Order_1.f k (P ++ A ++ M ++ B ++ S) (a : Int) (b : Int) (n : Int)) (P ++ B ++ M ++ A ++ S) := by
  simp only [api_Req_169__elevator_Order_1.f]
  exact sw_l0 A B P M S a b n 0 _ hl (by omega) (by omega) (by omega) rfl hm

/-! ### rotate: the blocks A and B change their places -/
theorem rot_l0 : ∀ (d : Nat) (A B P S : List S37) (m i j : Nat), i + j ≤ d → A.length = i → B.length = j → 0 < i → 0 < j → P.length + i = m → P.length + A.length + B.length + S.length ≤ 4611686018427387904 →
    Ev (fun k => api_Req_144__elevator_Order_1.l0 k (P ++ A ++ B ++ S) (m : Int) (i : Int) (j : Int)) (P ++ B ++ A ++ S)
  | 0, _, _, _, _, _, i, j, hd, _, _, hi, hj, _, _ => by omega
  | d + 1, A, B, P, S, m, i, j, hd, hA, hB, hi, hj, hm, hl2 => by
    refine Ev.step (fun k => rfl) ?_
    simp only [api_Req_144__elevator_Order_1.l0]
    have e1 : wrap64 ((m : Int) - (i : Int)) = ((m - i : Nat) : Int) := by rw [wrap_in (by omega) (by omega)]; omega
    rw [e1]
    clear e1
    rcases Nat.lt_trichotomy i j with h | h | h
    · -- B's end comes to the front of A's place
      refine Ev.neg (by omega) (Ev.neg (by omega) ?_)
      have e : wrap64 (wrap64 ((m : Int) + (j : Int)) - (i : Int)) = ((m + j - i : Nat) : Int) ∧ wrap64 ((j : Int) - (i : Int)) = ((j - i : Nat) : Int) := ⟨by rw [wrap_in (n := (m : Int) + (j : Int)) (by omega) (by omega), wrap_in (by omega) (by omega)]; omega, by rw [wrap_in (by omega) (by omega)]; omega⟩
      rw [e.1, e.2]
      clear e
      obtain ⟨B1, B2, eB, hB1, hB2⟩ : ∃ B1 B2, B = B1 ++ B2 ∧ B1.length = j - i ∧ B2.length = i := ⟨B.take (j - i), B.drop (j - i), (List.take_append_drop _ _).symm, by rw [List.length_take]; omega, by rw [List.length_drop]; omega⟩
      subst eB
      have hs := sw_ev A B2 P B1 S (m - i) (m + j - i) i (by omega) (by omega) (by omega) hA (by omega)
      have ih := rot_l0 d B2 B1 P (A ++ S) m i (j - i) (by omega) hB2 hB1 hi (by omega) hm (by rw [List.length_append]; omega)
      have e4 : P ++ A ++ (B1 ++ B2) ++ S = P ++ A ++ B1 ++ B2 ++ S := by simp
      have e5 : P ++ (B1 ++ B2) ++ A ++ S = P ++ B1 ++ B2 ++ (A ++ S) := by simp
      have e6 : P ++ B2 ++ B1 ++ A ++ S = P ++ B2 ++ B1 ++ (A ++ S) := by simp
      rw [e4, e5]
      refine Ev.bind hs ?_
      rw [e6]
      exact ih
    · refine Ev.pos (by omega) ?_
      have hs := sw_ev A B P [] S (m - i) m i (by omega) (by omega) (by simp only [List.length_nil]; omega) hA (by simp only [List.length_nil]; omega)
      simp only [List.append_nil] at hs
      exact Ev.bind hs (Ev.now _)
    · refine Ev.neg (by omega) (Ev.pos (by omega) ?_)
      have e3 : wrap64 ((i : Int) - (j : Int)) = ((i - j : Nat) : Int) := by rw [wrap_in (by omega) (by omega)]; omega
      rw [e3]
      clear e3
      obtain ⟨A1, A2, eA, hA1, hA2⟩ : ∃ A1 A2, A = A1 ++ A2 ∧ A1.length = j ∧ A2.length = i - j := ⟨A.take j, A.drop j, (List.take_append_drop _ _).symm, by rw [List.length_take]; omega, by rw [List.length_drop]; omega⟩
      subst eA
      rw [List.length_append] at hl2
      have hs := sw_ev A1 B P A2 S (m - i) m j (by omega) (by omega) (by omega) hA1 (by omega)
      have ih := rot_l0 d A2 A1 (P ++ B) S m (i - j) j (by omega) hA2 hA1 (by omega) hj (by rw [List.length_append]; omega) (by rw [List.length_append]; omega)
      have e4 : P ++ (A1 ++ A2) ++ B ++ S = P ++ A1 ++ A2 ++ B ++ S := by simp
      have e5 : P ++ B ++ (A1 ++ A2) ++ S = P ++ B ++ A1 ++ A2 ++ S := by simp
      rw [e4, e5]
      refine Ev.bind hs ?_
      exact ih
theorem rot_ev (A B P S : List S37) (a m b : Nat) (hA : 0 < A.length) (hB : 0 < B.length) (ha : P.length = a) (hm : a + A.length = m) (hb : m + B.length = b) (hl2 : P.length + A.length + B.length + S.length ≤ 4611686018427387904) :
    Ev (fun k => api_Req_144__elevator_Order_1.f k (P ++ A ++ B ++ S) (a : Int) (m : Int) (b : Int)) (P ++ B ++ A ++ S) := by
  simp only [api_Req_144__elevator_Order_1.f]
  have e : wrap64 ((m : Int) - (a : Int)) = (A.length : Int) ∧ wrap64 ((b : Int) - (m : Int)) = (B.length : Int) := ⟨by rw [wrap_in (by omega) (by omega)]; omega, by rw [wrap_in (by omega) (by omega)]; omega⟩
  rw [e.1, e.2]
  exact rot_l0 (A.length + B.length) A B P S m A.length B.length (Nat.le_refl _) rfl rfl hA hB (by omega) hl2

end Go.Proofs.Ytgahpdoiddhdaaa.Pure
