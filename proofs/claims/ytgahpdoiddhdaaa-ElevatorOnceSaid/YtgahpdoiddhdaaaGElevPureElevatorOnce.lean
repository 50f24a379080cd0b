/- The plain law ElevatorOnce: all requests are served, each as often as it was handed in; the head turns back at most once. Conditions: none. -/
import Derived.Test.YtgahpdoiddhdaaaGElevx13
import Derived.Test.YtgahpdoiddhdaaaGElevElevAns
namespace Go.Proofs.Ytgahpdoiddhdaaa.Pure
open Go.RowKit Go.Proofs.Ytgahpdoiddhdaaa Go.Proofs.YtgahpdoiddhdaaaW.PrintWords Go.Proofs.YtgahpdoiddhdaaaW.PrintLast Go.Proofs.YtgahpdoiddhdaaaW.PrintMore Go.Proofs.Ytgahpdoiddhdaaa.PKit Go.Proofs.Ytgahpdoiddhdaaa.HElev
set_option linter.unusedVariables false
set_option linter.unusedSimpArgs false

def isR (x y : S37) : Bool := (y.f0 == x.f0 && (y.f1 == x.f1 && y.f2 == x.f2))
theorem countP_cons_nat (p : S37 → Bool) (x : S37) (l : List S37) : (x :: l).countP p = l.countP p + (if p x = true then 1 else 0) := List.countP_cons
/-- How often a request is in both lists. -/
theorem once_l1 (a : Int) (l o : List S37) (L : Nat) (hl : l.length = L) (ho : o.length = L) (hm : L ≤ 1000) (t i : Nat) (x : S37) (fl : Bool) (hi : i < L)
    (hfl : (i = 0 ∧ fl = false) ∨ (∃ j, i = j + 1 ∧ fl = decide ((o.getD j z37).f0 > x.f0))) :
    ∀ (R1 R2 P1 P2 : List S37) (ca cb : Nat), l = P1 ++ R1 → o = P2 ++ R2 → P1.length = P2.length → ca + R1.countP (isR x) = cb + R2.countP (isR x) → ca ≤ P1.length → cb ≤ P1.length →
    ∀ r, Ev (fun k => caulklaw40_ElevatorOnce.j2 k a l o (t : Int) o (L : Int) (i : Int) fl x.f0 x.f1 x.f2) r →
      Ev (fun k => caulklaw40_ElevatorOnce.l1 k a l o (t : Int) (i : Int) (ca : Int) (cb : Int) o (L : Int) (i : Int) (L : Int) (P1.length : Int) x.f0 x.f1 x.f2) r
  | [], R2, P1, P2, ca, cb, h1, h2, h3, hc, hca, hcb => fun r hr => by
    have q1 : P1.length = L := by rw [← hl, h1]; simp
    have q2 : R2 = [] := by
      have : o.length = P2.length + R2.length := by rw [h2]; simp
      exact List.length_eq_zero_iff.1 (by omega)
    subst q2
    simp only [List.countP_nil, Nat.add_zero] at hc
    refine Ev.step (fun k => rfl) ?_
    simp only [caulklaw40_ElevatorOnce.l1]
    refine Ev.neg (by omega) (Ev.pos (by omega) ?_)
    rcases hfl with ⟨h0, hf⟩ | ⟨j, hj, hf⟩
    · subst hf
      exact Ev.neg (by omega) hr
    · refine Ev.pos (by omega) ?_
      have w : wrap64 ((i : Int) - 1) = (j : Int) := by rw [wrap_in (by omega) (by omega)]; omega
      rw [w]
      clear w
      refine Ev.pos (by omega) (Ev.pos (by rw [ho]; omega) ?_)
      rw [rdT_nat, ← hf]
      exact hr
  | y :: R1, [], P1, P2, ca, cb, h1, h2, h3, hc, hca, hcb => fun r hr => by
    have q1 : l.length = P1.length + R1.length + 1 := by rw [h1]; simp; omega
    have q2 : o.length = P2.length := by rw [h2]; simp
    omega
  | y :: R1, z :: R2, P1, P2, ca, cb, h1, h2, h3, hc, hca, hcb => fun r hr => by
    have q1 : l.length = P1.length + R1.length + 1 := by rw [h1]; simp; omega
    have e1 : l = P1 ++ [y] ++ R1 := by rw [h1]; simp
    have e2 : o = P2 ++ [z] ++ R2 := by rw [h2]; simp
    have e3 : (P1 ++ [y]).length = P1.length + 1 := by simp
    have e4 : (P2 ++ [z]).length = P2.length + 1 := by simp
    have g1 : rd_T37 l (P1.length : Int) = y := by rw [h1]; exact rd_mid _ _ _
    have g2 : rd_T37 o (P1.length : Int) = z := by rw [h2, h3]; exact rd_mid _ _ _
    have hlen : (l.length : Int) = (L : Int) := by rw [hl]
    have olen : (o.length : Int) = (L : Int) := by rw [ho]
    rw [countP_cons_nat, countP_cons_nat] at hc
    refine Ev.step (fun k => rfl) ?_
    simp only [caulklaw40_ElevatorOnce.l1]
    simp only [g1, g2, hlen, olen]
    rw [wrap_succ (n := P1.length) (by omega), wrap_succ (n := ca) (by omega), wrap_succ (n := cb) (by omega)]
    clear hlen olen
    refine Ev.pos (by omega) (Ev.pos (by omega) (Ev.pos (by omega) ?_))
    by_cases k1 : isR x y = true
    · refine Ev.pos k1 (Ev.pos (by omega) ?_)
      rw [if_pos k1] at hc
      by_cases k2 : isR x z = true
      · refine Ev.pos k2 ?_
        rw [if_pos k2] at hc
        have ih := once_l1 a l o L hl ho hm t i x fl hi hfl R1 R2 (P1 ++ [y]) (P2 ++ [z]) (ca + 1) (cb + 1) e1 e2 (by omega) (by omega) (by omega) (by omega) r hr
        rw [e3] at ih
        exact ih
      · refine Ev.neg k2 ?_
        rw [if_neg k2] at hc
        have ih := once_l1 a l o L hl ho hm t i x fl hi hfl R1 R2 (P1 ++ [y]) (P2 ++ [z]) (ca + 1) cb e1 e2 (by omega) (by omega) (by omega) (by omega) r hr
        rw [e3] at ih
        exact ih
    · refine Ev.neg k1 (Ev.pos (by omega) ?_)
      rw [if_neg k1] at hc
      by_cases k2 : isR x z = true
      · refine Ev.pos k2 ?_
        rw [if_pos k2] at hc
        have ih := once_l1 a l o L hl ho hm t i x fl hi hfl R1 R2 (P1 ++ [y]) (P2 ++ [z]) ca (cb + 1) e1 e2 (by omega) (by omega) (by omega) (by omega) r hr
        rw [e3] at ih
        exact ih
      · refine Ev.neg k2 ?_
        rw [if_neg k2] at hc
        have ih := once_l1 a l o L hl ho hm t i x fl hi hfl R1 R2 (P1 ++ [y]) (P2 ++ [z]) ca cb e1 e2 (by omega) (by omega) (by omega) (by omega) r hr
        rw [e3] at ih
        exact ih
/-- One round. -/
theorem once_step (a : Int) (l o : List S37) (L : Nat) (hl : l.length = L) (ho : o.length = L) (hm : L ≤ 1000) (hp : l.Perm o) (t : Nat) (P R : List S37) (x : S37) (hx : o = P ++ x :: R) (fl : Bool)
    (hfl : (P.length = 0 ∧ fl = false) ∨ (∃ j, P.length = j + 1 ∧ fl = decide ((o.getD j z37).f0 > x.f0))) (r : Bool)
    (hr : Ev (fun k => caulklaw40_ElevatorOnce.j2 k a l o (t : Int) o (L : Int) (P.length : Int) fl x.f0 x.f1 x.f2) r) :
    Ev (fun k => caulklaw40_ElevatorOnce.l0 k a l o (t : Int) o (L : Int) (P.length : Int)) r := by
  have q1 : o.length = P.length + R.length + 1 := by rw [hx]; simp; omega
  have g : rd_T37 o (P.length : Int) = x := by rw [hx]; exact rd_mid _ _ _
  refine Ev.step (fun k => rfl) ?_
  simp only [caulklaw40_ElevatorOnce.l0]
  refine Ev.pos (by omega) (Ev.pos (by omega) (Ev.pos (by omega) ?_))
  rw [g, hl]
  have := once_l1 a l o L hl ho hm t P.length x fl (by omega) hfl l o [] [] 0 0 rfl rfl rfl (by rw [Nat.zero_add, Nat.zero_add, hp.countP_eq]) (Nat.le_refl _) (Nat.le_refl _) r hr
  exact this
theorem once_up (a : Int) (l o : List S37) (L : Nat) (hl : l.length = L) (ho : o.length = L) (hm : L ≤ 1000) (hp : l.Perm o) (t : Nat) : ∀ (R S P : List S37) (p : S37), o = P ++ p :: (R ++ S) → Up (p :: R) →
    ∀ r, Ev (fun k => caulklaw40_ElevatorOnce.l0 k a l o (t : Int) o (L : Int) ((P.length + 1 + R.length : Nat) : Int)) r → Ev (fun k => caulklaw40_ElevatorOnce.l0 k a l o (t : Int) o (L : Int) ((P.length + 1 : Nat) : Int)) r
  | [], S, P, p, h, hu => fun r hr => by
    rw [List.length_nil, Nat.add_zero] at hr
    exact hr
  | x :: R, S, P, p, h, hu => fun r hr => by
    have hu' := List.pairwise_cons.1 hu
    have e1 : o = (P ++ [p]) ++ x :: (R ++ S) := by rw [h]; simp
    have e2 : (P ++ [p]).length = P.length + 1 := by simp
    have q1 : o.length = P.length + (R.length + S.length + 1) + 1 := by rw [h]; simp; omega
    have g : o.getD P.length z37 = p := by rw [h]; exact getD_mid _ _ _ _
    have ih := once_up a l o L hl ho hm hp t R S (P ++ [p]) x e1 hu'.2 r (by rw [e2]; rw [List.length_cons] at hr; rw [show P.length + 1 + 1 + R.length = P.length + 1 + (R.length + 1) by omega]; exact hr)
    rw [e2] at ih
    have := once_step a l o L hl ho hm hp t (P ++ [p]) (R ++ S) x e1 false (.inr ⟨P.length, e2, by
      rw [g]
      have := hu'.1 x (List.mem_cons_self ..)
      exact (decide_eq_false (by omega)).symm⟩) r (by
        refine Ev.step (fun k => rfl) ?_
        simp only [caulklaw40_ElevatorOnce.j2]
        refine Ev.neg (by simp) ?_
        rw [e2, wrap_succ (by omega)]
        exact ih)
    rw [e2] at this
    exact this
theorem once_end (a : Int) (l o : List S37) (L : Nat) (ho : o.length = L) (t : Nat) (ht : t = 0 ∨ (t = 1 ∧ 0 < L ∧ (o.getD 0 z37).f0 ≥ a)) : Ev (fun k => caulklaw40_ElevatorOnce.l0 k a l o (t : Int) o (L : Int) (L : Int)) true := by
  refine Ev.step (fun k => rfl) ?_
  simp only [caulklaw40_ElevatorOnce.l0]
  refine Ev.neg (by omega) ?_
  rcases ht with rfl | ⟨rfl, h0, h1⟩
  · exact Ev.pos (by decide) (Ev.pos (by decide) (Ev.now _))
  · have g : rd_T37 o 0 = o.getD 0 z37 := rdT_nat o 0
    rw [g]
    exact Ev.pos (by decide) (Ev.neg (by decide) (Ev.pos (by omega) (Ev.some_ (decide_eq_true h1))))
theorem once_l0 (a : Int) (l H T : List S37) (L : Nat) (hl : l.length = L) (ho : (H ++ T).length = L) (hm : L ≤ 1000) (hp : l.Perm (H ++ T)) (uH : Up H) (uT : Up T) (hH : ∀ x ∈ H, a ≤ x.f0) (hT : ∀ x ∈ T, x.f0 < a) :
    Ev (fun k => caulklaw40_ElevatorOnce.l0 k a l (H ++ T) 0 (H ++ T) (L : Int) 0) true := by
  have first : ∀ (x : S37) (R : List S37), H ++ T = x :: R → Ev (fun k => caulklaw40_ElevatorOnce.l0 k a l (H ++ T) 0 (H ++ T) (L : Int) ((([] : List S37).length + 1 : Nat) : Int)) true → Ev (fun k => caulklaw40_ElevatorOnce.l0 k a l (H ++ T) 0 (H ++ T) (L : Int) 0) true := fun x R e h => by
    refine once_step a l (H ++ T) L hl ho hm hp 0 [] R x e false (.inl ⟨rfl, rfl⟩) true ?_
    refine Ev.step (fun k => rfl) ?_
    simp only [caulklaw40_ElevatorOnce.j2]
    refine Ev.neg (by simp) ?_
    rw [wrap_succ (by simp)]
    exact h
  match H, T with
  | [], [] =>
    have : L = 0 := by rw [← ho]; rfl
    subst this
    exact once_end a l [] 0 rfl 0 (.inl rfl)
  | [], x :: T =>
    refine first x T rfl ?_
    refine once_up a l _ L hl ho hm hp 0 T [] [] x (by simp) uT true ?_
    have : ([] : List S37).length + 1 + T.length = L := by rw [← ho]; simp; omega
    rw [this]
    exact once_end a l _ L ho 0 (.inl rfl)
  | x :: H, [] =>
    refine first x (H ++ []) rfl ?_
    refine once_up a l _ L hl ho hm hp 0 H [] [] x rfl uH true ?_
    have : ([] : List S37).length + 1 + H.length = L := by rw [← ho]; simp; omega
    rw [this]
    exact once_end a l _ L ho 0 (.inl rfl)
  | x :: H, y :: T =>
    refine first x (H ++ y :: T) rfl ?_
    refine once_up a l _ L hl ho hm hp 0 H (y :: T) [] x rfl uH true ?_
    have e0 : ([] : List S37).length + 1 + H.length = (x :: H).length := by simp; omega
    rw [e0]
    have hlast : ((x :: H ++ y :: T).getD H.length z37).f0 ≥ a := by
      have : (x :: H ++ y :: T).getD H.length z37 = (x :: H).getD H.length z37 := by
        simp only [List.getD]
        rw [List.getElem?_append_left (by simp)]
      rw [this, getD_lt _ (by simp)]
      exact hH _ (List.getElem_mem _)
    have hy := hT y (List.mem_cons_self ..)
    refine once_step a l (x :: H ++ y :: T) L hl ho hm hp 0 (x :: H) T y rfl true (.inr ⟨H.length, rfl, (decide_eq_true (by omega)).symm⟩) true ?_
    refine Ev.step (fun k => rfl) ?_
    simp only [caulklaw40_ElevatorOnce.j2]
    have hlen : (x :: H ++ y :: T).length = H.length + 1 + (T.length + 1) := by simp; omega
    refine Ev.pos (by trivial) (Ev.neg (by omega) ?_)
    have w : wrap64 (((0 : Nat) : Int) + 1) = ((1 : Nat) : Int) := by unfold wrap64; omega
    rw [w, wrap_succ (by clear w; rw [List.length_cons]; omega)]
    clear w
    refine once_up a l (x :: H ++ y :: T) L hl ho hm hp 1 T [] (x :: H) y (by simp) uT true ?_
    have : (x :: H).length + 1 + T.length = L := by rw [← ho, hlen, List.length_cons]; omega
    rw [this]
    exact once_end a l _ L ho 1 (.inr ⟨rfl, by omega, hH x (List.mem_cons_self ..)⟩)
theorem ElevatorOnce : caulklaw40_ElevatorOnce.Pure := by
  intro a l _ hl
  have lv : caulklaw40_lives.f = some true := rfl
  suffices h : Ev (fun k => caulklaw40_ElevatorOnce.f k a l) true from h.rounds
  simp only [caulklaw40_ElevatorOnce.f, lv]
  refine Ev.let_ (Ev.pos rfl ?_)
  by_cases hb : (l.length : Int) > 200
  · exact Ev.pos hb (Ev.now _)
  · refine Ev.neg hb ?_
    have hm : l.length ≤ 1000 := by omega
    by_cases h : rdyS a l = 0
    · obtain ⟨D, c, hu, hs, hc, ht, hd, e, h1⟩ := ord_made a l hm h
      refine Ev.bind h1 (Ev.pos rfl ?_)
      rw [← e]
      have hp : l.Perm (D.drop c ++ D.take c) := by
        refine hs.perm.trans ?_
        have := List.perm_append_comm (l₁ := D.take c) (l₂ := D.drop c)
        rw [List.take_append_drop] at this
        exact this
      have hlen : (D.drop c ++ D.take c).length = l.length := hp.length_eq.symm
      have uD : Up (D.take c ++ D.drop c) := by rw [List.take_append_drop]; exact hu
      simp only [hlen]
      refine Ev.pos (by trivial) ?_
      exact once_l0 a l (D.drop c) (D.take c) l.length rfl hlen hm hp uD.right uD.left hd ht
    · refine Ev.bind (ordE_ev a l hm) ?_
      unfold ordS
      rw [if_neg h]
      exact Ev.neg h (Ev.some_ (by simp))
end Go.Proofs.Ytgahpdoiddhdaaa.Pure
