/- The plain law ElevatorFar: of requests of which no two share a cluster the way is at most three times all clusters, and the runs are all of their clusters. Conditions: none. -/
import Derived.Test.YtgahpdoiddhdaaaGElevx14
import Derived.Test.YtgahpdoiddhdaaaGElevElevAns
namespace Go.Proofs.Ytgahpdoiddhdaaa.Pure
open Go.RowKit Go.Proofs.Ytgahpdoiddhdaaa Go.Proofs.YtgahpdoiddhdaaaW.PrintWords Go.Proofs.YtgahpdoiddhdaaaW.PrintLast Go.Proofs.YtgahpdoiddhdaaaW.PrintMore Go.Proofs.Ytgahpdoiddhdaaa.PKit Go.Proofs.Ytgahpdoiddhdaaa.HElev
set_option linter.unusedVariables false
set_option linter.unusedSimpArgs false

def dis (x y : S37) : Prop := ¬ (x.f0 < y.f0 + y.f1 ∧ y.f0 < x.f0 + x.f1)
theorem dis.symm {x y : S37} (h : dis x y) : dis y x := fun ⟨h1, h2⟩ => h ⟨h2, h1⟩
/-! ### sums -/
def sumN : List S37 → Int
  | [] => 0
  | x :: r => x.f1 + sumN r
theorem sumN_perm {l m : List S37} (h : l.Perm m) : sumN l = sumN m := by
  induction h with
  | nil => rfl
  | cons x _ ih => simp only [sumN, ih]
  | swap x y l => simp only [sumN]; omega
  | trans _ _ ih1 ih2 => rw [ih1, ih2]
def sumR : List S39 → Int
  | [] => 0
  | z :: r => (z.f1 - z.f0) + sumR r
theorem sumR_append : ∀ (l m : List S39), sumR (l ++ m) = sumR l + sumR m
  | [], m => by simp [sumR]
  | z :: l, m => by rw [List.cons_append]; simp only [sumR]; rw [sumR_append l m]; omega
/-! ### the way -/
def dist (h : Int) : List S37 → Int
  | [] => 0
  | x :: r => mx (x.f0 - h) (h - x.f0) + x.f1 + dist (x.f0 + x.f1) r
def endp (h : Int) : List S37 → Int
  | [] => h
  | x :: r => endp (x.f0 + x.f1) r
theorem mx_two (h x : Int) : (x ≤ h ∧ mx (x - h) (h - x) = h - x) ∨ (h ≤ x ∧ mx (x - h) (h - x) = x - h) := by
  unfold mx
  by_cases e : x - h < h - x
  · rw [if_pos e]; left; omega
  · rw [if_neg e]; right; omega
theorem dist_append : ∀ (R S : List S37) (h : Int), dist h (R ++ S) = dist h R + dist (endp h R) S
  | [], S, h => by simp [dist, endp]
  | x :: R, S, h => by rw [List.cons_append]; simp only [dist, endp]; rw [dist_append R S]; omega
theorem way_dist : ∀ (l : List S37) (n h : Int), (∀ x ∈ l, okR x) → 0 ≤ h → h ≤ 4096 → 0 ≤ n → n + 8192 * l.length ≤ 1000000000000 → wayW n h l = n + dist h l
  | [], n, h, ok, h0, h1, n0, n1 => by simp [wayW, dist]
  | x :: l, n, h, ok, h0, h1, n0, n1 => by
    rw [List.length_cons] at n1
    have hx := ok x (List.mem_cons_self ..)
    unfold okR at hx
    simp only [wayW, dist, wayS]
    have m := mx_two h x.f0
    rw [wrap_in (n := x.f0 - h) (by omega) (by omega), wrap_in (n := h - x.f0) (by omega) (by omega)]
    generalize mx (x.f0 - h) (h - x.f0) = q at *
    rw [wrap_in (n := q + x.f1) (by omega) (by omega), wrap_in (n := n + (q + x.f1)) (by omega) (by omega), wrap_in (n := x.f0 + x.f1) (by omega) (by omega),
      way_dist l (n + (q + x.f1)) (x.f0 + x.f1) (fun y hy => ok y (List.mem_cons_of_mem _ hy)) (by omega) (by omega) (by omega) (by omega)]
    omega
theorem dist_all : ∀ (l : List S37) (h : Int), (∀ x ∈ l, okR x) → sumN l ≤ dist h l
  | [], h, ok => by simp [sumN, dist]
  | x :: l, h, ok => by
    have ih := dist_all l (x.f0 + x.f1) (fun y hy => ok y (List.mem_cons_of_mem _ hy))
    simp only [sumN, dist]
    have m := mx_two h x.f0
    generalize mx (x.f0 - h) (h - x.f0) = q at *
    omega
theorem dist_up : ∀ (l : List S37) (h : Int), (∀ x ∈ l, okR x) → Up l → l.Pairwise dis → (∀ x ∈ l, h ≤ x.f0) → h ≤ 4096 → dist h l = endp h l - h ∧ h ≤ endp h l ∧ endp h l ≤ 4096
  | [], h, ok, hu, hd, hh, h1 => by simp [dist, endp, h1]
  | x :: l, h, ok, hu, hd, hh, h1 => by
    have hx := ok x (List.mem_cons_self ..)
    have hhx := hh x (List.mem_cons_self ..)
    have hu' := List.pairwise_cons.1 hu
    have hd' := List.pairwise_cons.1 hd
    unfold okR at hx
    obtain ⟨i1, i2, i3⟩ := dist_up l (x.f0 + x.f1) (fun y hy => ok y (List.mem_cons_of_mem _ hy)) hu'.2 hd'.2 (fun y hy => by
      have a1 := hu'.1 y hy
      have a2 := hd'.1 y hy
      have a3 := ok y (List.mem_cons_of_mem _ hy)
      unfold dis at a2
      unfold okR at a3
      omega) (by omega)
    simp only [dist, endp]
    have m := mx_two h x.f0
    generalize mx (x.f0 - h) (h - x.f0) = q at *
    omega
theorem dist_far (a : Int) (H T : List S37) (ha : 0 ≤ a) (ha2 : a ≤ 4096) (uH : Up H) (uT : Up T) (dH : H.Pairwise dis) (dT : T.Pairwise dis) (oH : ∀ x ∈ H, okR x) (oT : ∀ x ∈ T, okR x) (hH : ∀ x ∈ H, a ≤ x.f0) : dist a (H ++ T) ≤ 12288 := by
  rw [dist_append]
  obtain ⟨e1, e2, e3⟩ := dist_up H a oH uH dH hH ha2
  generalize endp a H = e at *
  match T with
  | [] => simp only [dist]; omega
  | y :: T =>
    have hy := oT y (List.mem_cons_self ..)
    have hu' := List.pairwise_cons.1 uT
    have hd' := List.pairwise_cons.1 dT
    unfold okR at hy
    obtain ⟨i1, i2, i3⟩ := dist_up T (y.f0 + y.f1) (fun z hz => oT z (List.mem_cons_of_mem _ hz)) hu'.2 hd'.2 (fun z hz => by
      have a1 := hu'.1 z hz
      have a2 := hd'.1 z hz
      have a3 := oT z (List.mem_cons_of_mem _ hz)
      unfold dis at a2
      unfold okR at a3
      omega) (by omega)
    simp only [dist]
    have m := mx_two e y.f0
    generalize mx (y.f0 - e) (e - y.f0) = q at *
    omega
/-! ### the runs -/
theorem runsW_sum : ∀ (l : List S37) (O : List S39) (z : S39), (∀ x ∈ l, okR x) → sumR (runsW O z l) = sumR O + (z.f1 - z.f0) + sumN l
  | [], O, z, ok => by simp only [runsW, sumN, sumR_append, sumR]; omega
  | x :: l, O, z, ok => by
    have hx := ok x (List.mem_cons_self ..)
    have ok' : ∀ y ∈ l, okR y := fun y hy => ok y (List.mem_cons_of_mem _ hy)
    unfold okR at hx
    simp only [runsW, sumN]
    by_cases e : z.f1 = x.f0
    · rw [if_pos e, runsW_sum l _ _ ok', e, wrap_in (by omega) (by omega)]
      simp only []
      omega
    · rw [if_neg e, runsW_sum l _ _ ok', wrap_in (by omega) (by omega), sumR_append]
      simp only [sumR]
      omega
def inR (z : S39) : Prop := 0 ≤ z.f0 ∧ z.f0 ≤ 4096 ∧ 0 ≤ z.f1 ∧ z.f1 ≤ 4096
theorem runsW_in : ∀ (l : List S37) (O : List S39) (z : S39), (∀ x ∈ l, okR x) → (∀ y ∈ O, inR y) → inR z → ∀ y ∈ runsW O z l, inR y
  | [], O, z, ok, hO, hz => fun y hy => by
    rcases List.mem_append.1 hy with h | h
    · exact hO y h
    · rw [List.mem_singleton] at h; subst h; exact hz
  | x :: l, O, z, ok, hO, hz => by
    have hx := ok x (List.mem_cons_self ..)
    have ok' : ∀ y ∈ l, okR y := fun y hy => ok y (List.mem_cons_of_mem _ hy)
    unfold okR at hx
    simp only [runsW]
    by_cases e : z.f1 = x.f0
    · rw [if_pos e]
      refine runsW_in l O _ ok' hO ?_
      unfold inR at hz ⊢
      rw [e, wrap_in (by omega) (by omega)]
      simp only []
      omega
    · rw [if_neg e]
      refine runsW_in l _ _ ok' ?_ ?_
      · intro y hy
        rcases List.mem_append.1 hy with h | h
        · exact hO y h
        · rw [List.mem_singleton] at h; subst h; exact hz
      · unfold inR
        rw [wrap_in (by omega) (by omega)]
        simp only []
        omega
theorem runsL_sum (l : List S37) (ok : ∀ x ∈ l, okR x) : sumR (runsL l) = sumN l ∧ ∀ y ∈ runsL l, inR y := by
  match l with
  | [] => simp [runsL, sumR, sumN]
  | x :: l =>
    have hx := ok x (List.mem_cons_self ..)
    have ok' : ∀ y ∈ l, okR y := fun y hy => ok y (List.mem_cons_of_mem _ hy)
    unfold okR at hx
    have w : wrap64 (x.f0 + x.f1) = x.f0 + x.f1 := wrap_in (by omega) (by omega)
    simp only [runsL, w]
    clear w
    constructor
    · rw [runsW_sum l _ _ ok']; simp only [sumR, sumN]; omega
    · exact runsW_in l _ _ ok' (by simp) (by unfold inR; simp only []; omega)

/-! ### the law's own loops -/
theorem far_l3 (x1 : List S37) (way all : Int) (rn : List S39) (hw : way ≤ 12288) (hl : rn.length ≤ x1.length) (hwa : all ≤ way) : ∀ (R P : List S39) (acc : Int) (L : Nat), rn = P ++ R → rn.length = L → L ≤ 1000 → (∀ y ∈ R, inR y) →
    acc + sumR R = all → -1000000000 ≤ acc - 4096 * R.length → acc + 4096 * R.length ≤ 1000000000 →
    Ev (fun k => caulklaw40_ElevatorFar.l3 k x1 way 0 rn 0 all acc rn (L : Int) (P.length : Int)) true
  | [], P, acc, L, h1, h2, hm, hin, hs, b1, b2 => by
    have q : P.length = L := by rw [← h2, h1]; simp
    simp only [sumR] at hs
    refine Ev.step (fun k => rfl) ?_
    simp only [caulklaw40_ElevatorFar.l3]
    exact Ev.neg (by omega) (Ev.pos (by trivial) (Ev.pos hw (Ev.pos (by trivial) (Ev.pos (by omega) (Ev.pos (by omega) (Ev.some_ (decide_eq_true hwa)))))))
  | z :: R, P, acc, L, h1, h2, hm, hin, hs, b1, b2 => by
    have q : rn.length = P.length + R.length + 1 := by rw [h1]; simp; omega
    have g : rd_T39 rn (P.length : Int) = z := by rw [h1]; exact rd39_mid _ _ _
    have e1 : rn = (P ++ [z]) ++ R := by rw [h1]; simp
    have e2 : (P ++ [z]).length = P.length + 1 := by simp
    have hz := hin z (List.mem_cons_self ..)
    unfold inR at hz
    rw [List.length_cons] at b1 b2
    simp only [sumR] at hs
    have ih := far_l3 x1 way all rn hw hl hwa R (P ++ [z]) (acc + (z.f1 - z.f0)) L e1 h2 hm (fun y hy => hin y (List.mem_cons_of_mem _ hy)) (by omega) (by omega) (by omega)
    rw [e2] at ih
    refine Ev.step (fun k => rfl) ?_
    simp only [caulklaw40_ElevatorFar.l3]
    rw [g, wrap_succ (by omega), wrap_in (n := z.f1 - z.f0) (by omega) (by omega), wrap_in (n := acc + (z.f1 - z.f0)) (by omega) (by omega)]
    exact Ev.pos (by omega) (Ev.pos (by omega) (Ev.pos (by omega) ih))
theorem far_l2 (l : List S37) (way : Int) (rn : List S39) (hw : way ≤ 12288) (hl : rn.length ≤ l.length) (hwa : sumN l ≤ way) (hrn : ∀ y ∈ rn, inR y) (hsum : sumR rn = sumN l) (hm : l.length ≤ 1000) : ∀ (R P : List S37) (acc : Int), l = P ++ R → (∀ x ∈ R, okR x) →
    acc + sumN R = sumN l → 0 ≤ acc → acc + 4096 * R.length ≤ 1000000000 →
    Ev (fun k => caulklaw40_ElevatorFar.l2 k l way 0 rn 0 acc 0 l (l.length : Int) (P.length : Int)) true
  | [], P, acc, h1, ok, hs, b1, b2 => by
    have q : P.length = l.length := by rw [h1]; simp
    simp only [sumN, Int.add_zero] at hs
    refine Ev.step (fun k => rfl) ?_
    simp only [caulklaw40_ElevatorFar.l2]
    refine Ev.neg (by omega) ?_
    rw [hs]
    exact far_l3 l way (sumN l) rn hw hl hwa rn [] 0 rn.length rfl rfl (by omega) hrn (by omega) (by omega) (by omega)
  | x :: R, P, acc, h1, ok, hs, b1, b2 => by
    have q : l.length = P.length + R.length + 1 := by rw [h1]; simp; omega
    have g : rd_T37 l (P.length : Int) = x := by rw [h1]; exact rd_mid _ _ _
    have e1 : l = (P ++ [x]) ++ R := by rw [h1]; simp
    have e2 : (P ++ [x]).length = P.length + 1 := by simp
    have hx := ok x (List.mem_cons_self ..)
    unfold okR at hx
    rw [List.length_cons] at b2
    simp only [sumN] at hs
    have ih := far_l2 l way rn hw hl hwa hrn hsum hm R (P ++ [x]) (acc + x.f1) e1 (fun y hy => ok y (List.mem_cons_of_mem _ hy)) (by omega) (by omega) (by omega)
    rw [e2] at ih
    refine Ev.step (fun k => rfl) ?_
    simp only [caulklaw40_ElevatorFar.l2]
    rw [g, wrap_succ (by omega), wrap_in (n := acc + x.f1) (by omega) (by omega)]
    exact Ev.pos (by omega) (Ev.pos (by omega) (Ev.pos (by omega) ih))
theorem far_l1 (a : Int) (l Y : List S37) (L i : Nat) (x : S37) (hx : okR x) (hY : Y.length ≤ 1000) (hi : i ≤ 1000) : ∀ (R P : List S37), Y = P ++ R → (∀ y ∈ R, okR y) →
    ((∀ y ∈ R, dis x y) → Ev (fun k => caulklaw40_ElevatorFar.l0 k a l l (L : Int) ((i + 1 : Nat) : Int)) true) →
    Ev (fun k => caulklaw40_ElevatorFar.l1 k a l l (L : Int) (i : Int) Y (Y.length : Int) (P.length : Int) x.f0 x.f1 x.f2) true
  | [], P, h1, ok, hr => by
    have q : P.length = Y.length := by rw [h1]; simp
    refine Ev.step (fun k => rfl) ?_
    simp only [caulklaw40_ElevatorFar.l1]
    refine Ev.neg (by omega) ?_
    rw [wrap_succ (by omega)]
    exact hr (by simp)
  | y :: R, P, h1, ok, hr => by
    have q : Y.length = P.length + R.length + 1 := by rw [h1]; simp; omega
    have g : rd_T37 Y (P.length : Int) = y := by rw [h1]; exact rd_mid _ _ _
    have e1 : Y = (P ++ [y]) ++ R := by rw [h1]; simp
    have e2 : (P ++ [y]).length = P.length + 1 := by simp
    have hy := ok y (List.mem_cons_self ..)
    unfold okR at hy hx
    have next : dis x y → Ev (fun k => caulklaw40_ElevatorFar.l1 k a l l (L : Int) (i : Int) Y (Y.length : Int) ((P.length + 1 : Nat) : Int) x.f0 x.f1 x.f2) true := fun hd => by
      have ih := far_l1 a l Y L i x hx hY hi R (P ++ [y]) e1 (fun z hz => ok z (List.mem_cons_of_mem _ hz)) (fun hR => hr (fun z hz => by
        rcases List.mem_cons.1 hz with rfl | hz
        · exact hd
        · exact hR z hz))
      rw [e2] at ih
      exact ih
    refine Ev.step (fun k => rfl) ?_
    simp only [caulklaw40_ElevatorFar.l1]
    rw [g, wrap_succ (by omega), wrap_in (n := y.f0 + y.f1) (by omega) (by omega), wrap_in (n := x.f0 + x.f1) (by omega) (by omega)]
    refine Ev.pos (by omega) (Ev.pos (by omega) (Ev.pos (by omega) ?_))
    by_cases k1 : x.f0 < y.f0 + y.f1
    · refine Ev.pos k1 ?_
      by_cases k2 : y.f0 < x.f0 + x.f1
      · exact Ev.pos k2 (Ev.now _)
      · exact Ev.neg k2 (next (fun h => k2 h.2))
    · exact Ev.neg k1 (next (fun h => k1 h.1))
theorem far_end (a : Int) (l : List S37) (hm : l.length ≤ 1000) (hc : chkS l = 0) (hd : l.Pairwise dis) : Ev (fun k => caulklaw40_ElevatorFar.l0 k a l l (l.length : Int) (l.length : Int)) true := by
  refine Ev.step (fun k => rfl) ?_
  simp only [caulklaw40_ElevatorFar.l0]
  refine Ev.neg (by omega) ?_
  by_cases h : rdyS a l = 0
  · obtain ⟨_, ha, ha2⟩ := rdyS_zero h
    have ok := chkS_zero hc
    obtain ⟨D, c, hu, hs, hcl, ht, hdr, e, h1⟩ := ord_made a l hm h
    refine Ev.bind h1 (Ev.pos rfl ?_)
    simp only []
    have hp : l.Perm (D.drop c ++ D.take c) := by
      refine hs.perm.trans ?_
      have := List.perm_append_comm (l₁ := D.take c) (l₂ := D.drop c)
      rw [List.take_append_drop] at this
      exact this
    have uD : Up (D.take c ++ D.drop c) := by rw [List.take_append_drop]; exact hu
    rw [e] at hp
    have hlen : (ordL a l).length = l.length := hp.length_eq.symm
    have oko : ∀ x ∈ ordL a l, okR x := fun x hx => ok x ((hp.mem_iff).2 hx)
    have hdo : (ordL a l).Pairwise dis := (hp.pairwise_iff (fun h => dis.symm h)).1 hd
    have hco : chkS (ordL a l) = 0 := by unfold chkS; rw [if_pos oko]
    have hro : rdyS a (ordL a l) = 0 := by
      unfold rdyS
      rw [if_pos hco, if_neg (by omega), if_neg (by omega)]
    have w := wayE_ev a (ordL a l) (by omega)
    have r := runsE_ev (ordL a l) (by omega)
    unfold wayA at w
    rw [if_pos hro, way_dist (ordL a l) 0 a oko ha ha2 (Int.le_refl _) (by omega), Int.zero_add] at w
    unfold runsA at r
    rw [if_pos hco] at r
    obtain ⟨s1, s2⟩ := runsL_sum (ordL a l) oko
    have hsn := sumN_perm hp
    refine Ev.bind w (Ev.bind r ?_)
    simp only []
    have hfar : dist a (ordL a l) ≤ 12288 := by
      rw [← e]
      rw [← e] at hdo oko
      have hpw := List.pairwise_append.1 hdo
      exact dist_far a (D.drop c) (D.take c) ha ha2 uD.right uD.left hpw.1 hpw.2.1 (fun x hx => oko x (List.mem_append_left _ hx)) (fun x hx => oko x (List.mem_append_right _ hx)) hdr
    exact far_l2 l _ _ hfar (by have := runsL_len (ordL a l); omega) (by rw [hsn]; exact dist_all _ _ oko) s2 (by rw [s1, hsn]) hm l [] 0 rfl ok (by omega) (by omega) (by omega)
  · have h1 : rdyS a l = 1 := by
      unfold rdyS at h ⊢
      rw [if_pos hc] at h ⊢
      by_cases k1 : a < 0
      · rw [if_pos k1]
      · rw [if_neg k1] at h ⊢
        by_cases k2 : a > 4096
        · rw [if_pos k2]
        · rw [if_neg k2] at h; exact absurd rfl h
    refine Ev.bind (ordE_ev a l hm) ?_
    unfold ordS
    rw [if_neg h]
    exact Ev.neg h (Ev.some_ (by simp [h1]))
theorem far_l0 (a : Int) (l : List S37) (hm : l.length ≤ 1000) (hc : chkS l = 0) : ∀ (R P : List S37), l = P ++ R → P.Pairwise dis → Ev (fun k => caulklaw40_ElevatorFar.l0 k a l l (l.length : Int) (P.length : Int)) true
  | [], P, h1, hd => by
    have q : P.length = l.length := by rw [h1]; simp
    rw [q]
    exact far_end a l hm hc (by rw [h1, List.append_nil]; exact hd)
  | x :: R, P, h1, hd => by
    have q : l.length = P.length + R.length + 1 := by rw [h1]; simp; omega
    have g : rd_T37 l (P.length : Int) = x := by rw [h1]; exact rd_mid _ _ _
    have e1 : l = (P ++ [x]) ++ R := by rw [h1]; simp
    have e2 : (P ++ [x]).length = P.length + 1 := by simp
    have e3 : l.take P.length = P := by rw [h1]; simp
    have ok := chkS_zero hc
    refine Ev.step (fun k => rfl) ?_
    simp only [caulklaw40_ElevatorFar.l0]
    rw [g, Int.toNat_natCast, e3]
    refine Ev.pos (by omega) (Ev.pos (by omega) (Ev.pos (by omega) (Ev.pos (by omega) (Ev.let_ ?_))))
    refine far_l1 a l P l.length P.length x (ok x (by rw [h1]; simp)) (by omega) (by omega) P [] rfl (fun y hy => ok y (by rw [h1]; exact List.mem_append_left _ hy)) (fun hx => ?_)
    have ih := far_l0 a l hm hc R (P ++ [x]) e1 (List.pairwise_append.2 ⟨hd, List.pairwise_singleton _ _, fun y hy z hz => by
      rw [List.mem_singleton] at hz
      subst hz
      exact (hx y hy).symm⟩)
    rw [e2] at ih
    exact ih
theorem ElevatorFar : caulklaw40_ElevatorFar.Pure := by
  intro a l _ hl
  have lv : caulklaw40_lives.f = some true := rfl
  suffices h : Ev (fun k => caulklaw40_ElevatorFar.f k a l) true from h.rounds
  simp only [caulklaw40_ElevatorFar.f, lv]
  refine Ev.let_ (Ev.pos rfl ?_)
  by_cases hb : (l.length : Int) > 60
  · refine Ev.pos hb ?_
    refine Ev.step (fun k => rfl) ?_
    simp only [caulklaw40_ElevatorFar.j0]
    exact Ev.pos (by trivial) (Ev.now _)
  · refine Ev.neg hb ?_
    have hm : l.length ≤ 1000 := by omega
    refine Ev.bind (chk_ev l (by omega)) ?_
    refine Ev.step (fun k => rfl) ?_
    simp only [caulklaw40_ElevatorFar.j0]
    by_cases hc : chkS l = 0
    · refine Ev.neg (by simp [hc]) ?_
      exact far_l0 a l hm hc l [] rfl List.Pairwise.nil
    · exact Ev.pos (by simp [hc]) (Ev.now _)
end Go.Proofs.Ytgahpdoiddhdaaa.Pure
