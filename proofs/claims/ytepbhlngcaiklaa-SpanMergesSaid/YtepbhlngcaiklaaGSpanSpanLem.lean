/- The plain laws on spans: what cuts bytes into spans, and tells the whole blocks, answers as the document says. No program's step in sight: the printed functions alone. Conditions: none. -/
import Derived.Test.YtepbhlngcaiklaaGSpanx8
import Derived.Test.YtepbhlngcaiklaaGSpanx9
import Derived.Test.YtepbhlngcaiklaaGSpanK
namespace Go.Proofs.Ytepbhlngcaiklaa.Pure
open Go.RowKit Go.Proofs.Ytepbhlngcaiklaa Go.Proofs.YtepbhlngcaiklaaW.PrintWords Go.Proofs.YtepbhlngcaiklaaW.PrintLast Go.Proofs.YtepbhlngcaiklaaW.PrintMore Go.Proofs.Ytepbhlngcaiklaa.PKit Go.Proofs.Ytepbhlngcaiklaa.HSpan
set_option linter.unusedVariables false
set_option linter.unusedSimpArgs false

def okP (a0 a1 a2 : Int) : Prop := 1 ≤ a0 ∧ a0 ≤ 65536 ∧ 0 ≤ a1 ∧ a1 ≤ 1099511627776 ∧ 0 ≤ a2 ∧ a2 ≤ 1099511627776
instance (a0 a1 a2 : Int) : Decidable (okP a0 a1 a2) := by unfold okP; exact inferInstance
theorem right_ok {a0 a1 a2 : Int} (h : okP a0 a1 a2) : span_right.f a0 a1 a2 = some true ∧ caulkref19_right.f a0 a1 a2 = some true := by
  unfold okP at h
  constructor
  · unfold span_right.f
    rw [if_pos (by omega), if_pos (by omega), if_pos (by unfold mn; split <;> omega)]
    have : mx a1 a2 ≤ 1099511627776 := by unfold mx; split <;> omega
    simp [this]
  · unfold caulkref19_right.f
    rw [if_pos (by omega), if_pos (by omega), if_pos (by omega), if_pos (by omega), if_pos (by omega)]
    simp [h.2.2.2.2.2]
theorem right_not {a0 a1 a2 : Int} (h : ¬ okP a0 a1 a2) : span_right.f a0 a1 a2 = some false ∧ caulkref19_right.f a0 a1 a2 = some false := by
  unfold okP at h
  constructor
  · unfold span_right.f
    by_cases h1 : a0 ≥ 1
    · rw [if_pos h1]
      by_cases h2 : a0 ≤ 65536
      · rw [if_pos h2]
        by_cases h3 : mn a1 a2 ≥ 0
        · rw [if_pos h3]
          have : ¬ mx a1 a2 ≤ 1099511627776 := by unfold mn at h3; unfold mx; split at h3 <;> split <;> omega
          simp [this]
        · rw [if_neg h3]
      · rw [if_neg h2]
    · rw [if_neg h1]
  · unfold caulkref19_right.f
    by_cases h1 : a0 ≥ 1
    · rw [if_pos h1]
      by_cases h2 : a0 ≤ 65536
      · rw [if_pos h2]
        by_cases h3 : a1 ≥ 0
        · rw [if_pos h3]
          by_cases h4 : a1 ≤ 1099511627776
          · rw [if_pos h4]
            by_cases h5 : a2 ≥ 0
            · rw [if_pos h5]
              have : ¬ a2 ≤ 1099511627776 := by omega
              simp [this]
            · rw [if_neg h5]
          · rw [if_neg h4]
        · rw [if_neg h3]
      · rw [if_neg h2]
    · rw [if_neg h1]

/-! ### spans -/
theorem mn_le (a b : Int) : (a < b ∧ mn a b = a) ∨ (b ≤ a ∧ mn a b = b) := by
  unfold mn
  by_cases h : b < a
  · rw [if_pos h]; right; omega
  · rw [if_neg h]; by_cases h2 : a < b
    · left; omega
    · right; omega
theorem spL_zero (size : Int) (k : Nat) (b f l : Int) (h : l ≤ 0) : spL size k b f l = [] := by
  cases k with
  | zero => rfl
  | succ k => simp only [spL]; rw [if_neg (by omega)]
theorem spL_len (size : Int) : ∀ (k : Nat) (b f l : Int), (spL size k b f l).length ≤ k
  | 0, _, _, _ => by simp [spL]
  | k + 1, b, f, l => by
    simp only [spL]
    split
    · have := spL_len size k (wrap64 (b + 1)) 0 (wrap64 (l - mn (wrap64 (size - f)) l))
      simp only [List.length_cons]; omega
    · simp
/-- One span more: either all that is left, or up to the block's end. -/
theorem spL_one {size b f l : Int} (k : Nat) (hs : 1 ≤ size) (hs2 : size ≤ 65536) (hf : 0 ≤ f) (hf2 : f < size) (hl : 0 < l) (hl2 : l ≤ 2199023255552) (hb : 0 ≤ b) (hb2 : b ≤ 2199023255552) :
    (l ≤ size - f ∧ spL size (k + 1) b f l = [⟨b, f, f + l⟩]) ∨ (size - f < l ∧ spL size (k + 1) b f l = ⟨b, f, size⟩ :: spL size k (b + 1) 0 (l - (size - f))) := by
  simp only [spL]
  rw [if_pos (by omega), wrap_in (n := size - f) (by omega) (by omega), wrap_in (n := b + 1) (by omega) (by omega)]
  rcases mn_le (size - f) l with ⟨h, e⟩ | ⟨h, e⟩
  · right
    rw [e, wrap_in (n := f + (size - f)) (by omega) (by omega), wrap_in (n := l - (size - f)) (by omega) (by omega)]
    refine ⟨h, ?_⟩
    rw [show f + (size - f) = size by omega]
  · left
    rw [e, wrap_in (n := f + l) (by omega) (by omega), wrap_in (n := l - l) (by omega) (by omega), spL_zero _ _ _ _ _ (by omega)]
    exact ⟨h, rfl⟩
theorem next_block {size off : Int} (hs : 1 ≤ size) (ho : 0 ≤ off) : (off + (size - off % size)) / size = off / size + 1 ∧ (off + (size - off % size)) % size = 0 := by
  have e := Int.mul_ediv_add_emod off size
  have e2 : off + (size - off % size) = size * (off / size + 1) := by rw [Int.mul_add, Int.mul_one]; omega
  rw [e2]
  exact ⟨Int.mul_ediv_cancel_left _ (by omega), Int.mul_emod_right _ _⟩
theorem rcut_l0 (size : Int) (hs : 1 ≤ size) (hs2 : size ≤ 65536) : ∀ (k : Nat) (off n : Int) (out : List S43), 0 ≤ off → off + n ≤ 2199023255552 → 0 ≤ n → n ≤ k → out.length + k ≤ 4000000 →
    Ev (fun q => caulkref19_Cut.l0 q size off n out) (out ++ spL size k (off / size) (off % size) n, 0)
  | 0, off, n, out, h0, h1, h2, h3, h4 => by
    refine Ev.step (fun k => rfl) ?_
    simp only [caulkref19_Cut.l0]
    exact Ev.neg (by omega) (Ev.some_ (by simp [spL]))
  | k + 1, off, n, out, h0, h1, h2, h3, h4 => by
    refine Ev.step (fun k => rfl) ?_
    simp only [caulkref19_Cut.l0]
    by_cases hn : n > 0
    · have d1 : 0 ≤ off / size := Int.ediv_nonneg h0 (by omega)
      have d2 : off / size ≤ off := Int.ediv_le_self _ h0
      have d3 : 0 ≤ off % size := Int.emod_nonneg _ (by omega)
      have d4 : off % size < size := Int.emod_lt_of_pos _ (by omega)
      refine Ev.pos hn (Ev.neg (by omega) (Ev.pos (by omega) ?_))
      rw [Int.tmod_eq_emod_of_nonneg h0, Int.tdiv_eq_ediv_of_nonneg h0, wrap_in (n := off / size) (by omega) (by omega), wrap_in (n := size - off % size) (by omega) (by omega)]
      have nb := next_block hs h0
      rcases mn_le (size - off % size) n with ⟨h, e⟩ | ⟨h, e⟩
      · rw [e, wrap_in (n := off + (size - off % size)) (by omega) (by omega), wrap_in (n := n - (size - off % size)) (by omega) (by omega), wrap_in (n := off % size + (size - off % size)) (by omega) (by omega)]
        have ih := rcut_l0 size hs hs2 k (off + (size - off % size)) (n - (size - off % size)) (out ++ [⟨off / size, off % size, off % size + (size - off % size)⟩]) (by omega) (by omega) (by omega) (by omega) (by simp only [List.length_append, List.length_cons, List.length_nil]; omega)
        refine Ev.value ih ?_
        rw [nb.1, nb.2]
        rcases spL_one (b := off / size) (f := off % size) (l := n) k hs hs2 d3 d4 hn (by omega) d1 (by omega) with ⟨q, _⟩ | ⟨_, q⟩
        · omega
        · rw [q, show off % size + (size - off % size) = size by omega]; simp
      · rw [e, wrap_in (n := off + n) (by omega) (by omega), wrap_in (n := n - n) (by omega) (by omega), wrap_in (n := off % size + n) (by omega) (by omega)]
        have ih := rcut_l0 size hs hs2 k (off + n) (n - n) (out ++ [⟨off / size, off % size, off % size + n⟩]) (by omega) (by omega) (by omega) (by omega) (by simp only [List.length_append, List.length_cons, List.length_nil]; omega)
        refine Ev.value ih ?_
        rw [spL_zero _ _ _ _ (n - n) (by omega)]
        rcases spL_one (b := off / size) (f := off % size) (l := n) k hs hs2 d3 d4 hn (by omega) d1 (by omega) with ⟨_, q⟩ | ⟨q, _⟩
        · rw [q]; simp
        · omega
    · refine Ev.neg hn (Ev.some_ ?_)
      rw [spL_zero _ _ _ _ _ (by omega)]; simp
def cutS (a0 a1 a2 : Int) : List S43 × Int := if okP a0 a1 a2 then (if a2 > 1048576 then ([], 7) else (spansL a0 a1 a2, 0)) else ([], 1)
theorem cut_eq (a0 a1 a2 : Int) : span_Cut.f a0 a1 a2 = some (cutS a0 a1 a2) := by
  unfold span_Cut.f cutS
  by_cases h : okP a0 a1 a2
  · rw [(right_ok h).1, Option.bind_some, if_pos rfl, if_pos h]
    by_cases h2 : a2 > 1048576
    · rw [if_pos h2, if_pos h2]
    · rw [if_neg h2, if_neg h2]
  · rw [(right_not h).1, Option.bind_some, if_neg (by simp), if_neg h]
theorem rcut_ev (a0 a1 a2 : Int) : Ev (fun k => caulkref19_Cut.f k a0 a1 a2) (cutS a0 a1 a2) := by
  simp only [caulkref19_Cut.f]
  by_cases h : okP a0 a1 a2
  · rw [(right_ok h).2]
    have h' := h
    unfold okP at h'
    refine Ev.let_ (Ev.pos rfl ?_)
    by_cases h2 : a2 > 1048576
    · exact Ev.pos h2 (Ev.some_ (by simp [cutS, h, h2]))
    · refine Ev.neg h2 (Ev.value (rcut_l0 a0 (by omega) (by omega) a2.toNat a1 a2 [] (by omega) (by omega) (by omega) (by omega) (by simp only [List.length_nil]; omega)) ?_)
      simp [cutS, h, h2, spansL]
  · rw [(right_not h).2]
    exact Ev.let_ (Ev.neg (by simp) (Ev.some_ (by simp [cutS, h])))
/-! ### whole blocks -/
theorem ceil_div {size off : Int} (hs : 1 ≤ size) (ho : 0 ≤ off) : (off + size - 1) / size = if off % size > 0 then off / size + 1 else off / size := by
  have e := Int.mul_ediv_add_emod off size
  have d3 : 0 ≤ off % size := Int.emod_nonneg _ (by omega)
  have d4 : off % size < size := Int.emod_lt_of_pos _ (by omega)
  by_cases h : off % size > 0
  · rw [if_pos h]
    have e2 : off + size - 1 = (off % size - 1) + size * (off / size + 1) := by rw [Int.mul_add, Int.mul_one]; omega
    rw [e2, Int.add_mul_ediv_left _ _ (by omega), Int.ediv_eq_zero_of_lt (by omega) (by omega), Int.zero_add]
  · rw [if_neg h]
    have e2 : off + size - 1 = (size - 1) + size * (off / size) := by omega
    rw [e2, Int.add_mul_ediv_left _ _ (by omega), Int.ediv_eq_zero_of_lt (by omega) (by omega), Int.zero_add]
def whoS (a0 a1 a2 : Int) : Int × Int × Int := if okP a0 a1 a2 then (if (a1 + a0 - 1) / a0 ≥ (a1 + a2) / a0 then (0, 0, 0) else ((a1 + a0 - 1) / a0, (a1 + a2) / a0, 0)) else (0, 0, 1)
theorem who_eq (a0 a1 a2 : Int) : span_Whole.f a0 a1 a2 = some (whoS a0 a1 a2) := by
  unfold span_Whole.f whoS
  by_cases h : okP a0 a1 a2
  · rw [(right_ok h).1, Option.bind_some, if_pos rfl, if_pos h]
    unfold okP at h
    have b1 : (a1 + a0 - 1) / a0 ≤ a1 + a0 - 1 := Int.ediv_le_self _ (by omega)
    have b2 : 0 ≤ (a1 + a0 - 1) / a0 := Int.ediv_nonneg (by omega) (by omega)
    have b3 : (a1 + a2) / a0 ≤ a1 + a2 := Int.ediv_le_self _ (by omega)
    have b4 : 0 ≤ (a1 + a2) / a0 := Int.ediv_nonneg (by omega) (by omega)
    rw [if_neg (by omega), wrap_in (n := a1 + a0) (by omega) (by omega), wrap_in (n := a1 + a0 - 1) (by omega) (by omega), wrap_in (n := a1 + a2) (by omega) (by omega), Int.tdiv_eq_ediv_of_nonneg (by omega), Int.tdiv_eq_ediv_of_nonneg (by omega), wrap_in (n := (a1 + a0 - 1) / a0) (by omega) (by omega), wrap_in (n := (a1 + a2) / a0) (by omega) (by omega)]
    by_cases h2 : (a1 + a0 - 1) / a0 ≥ (a1 + a2) / a0
    · rw [if_pos h2, if_pos h2]
    · rw [if_neg h2, if_neg h2]
  · rw [(right_not h).1, Option.bind_some, if_neg (by simp), if_neg h]
theorem rwho_eq (a0 a1 a2 : Int) : caulkref19_Whole.f a0 a1 a2 = some (whoS a0 a1 a2) := by
  unfold caulkref19_Whole.f whoS
  by_cases h : okP a0 a1 a2
  · rw [(right_ok h).2, Option.bind_some, if_pos rfl, if_pos h]
    unfold okP at h
    have c := ceil_div (size := a0) (off := a1) (by omega) (by omega)
    have b1 : a1 / a0 ≤ a1 := Int.ediv_le_self _ (by omega)
    have b2 : 0 ≤ a1 / a0 := Int.ediv_nonneg (by omega) (by omega)
    have b3 : (a1 + a2) / a0 ≤ a1 + a2 := Int.ediv_le_self _ (by omega)
    have b4 : 0 ≤ (a1 + a2) / a0 := Int.ediv_nonneg (by omega) (by omega)
    rw [c, if_neg (by omega), wrap_in (n := a1 + a2) (by omega) (by omega), Int.tdiv_eq_ediv_of_nonneg (a := a1 + a2) (by omega), Int.tdiv_eq_ediv_of_nonneg (a := a1) (by omega), Int.tmod_eq_emod_of_nonneg (by omega), wrap_in (n := (a1 + a2) / a0) (by omega) (by omega), wrap_in (n := a1 / a0) (by omega) (by omega), wrap_in (n := a1 / a0 + 1) (by omega) (by omega)]
    by_cases h1 : a1 % a0 > 0
    · rw [if_pos h1, if_pos h1]
      by_cases h2 : (a1 + a2) / a0 ≤ a1 / a0 + 1
      · rw [if_pos h2, if_pos (show a1 / a0 + 1 ≥ (a1 + a2) / a0 from h2)]
      · rw [if_neg h2, if_neg (show ¬ a1 / a0 + 1 ≥ (a1 + a2) / a0 from h2)]
    · rw [if_neg h1, if_neg h1]
      by_cases h2 : (a1 + a2) / a0 ≤ a1 / a0
      · rw [if_pos h2, if_pos (show a1 / a0 ≥ (a1 + a2) / a0 from h2)]
      · rw [if_neg h2, if_neg (show ¬ a1 / a0 ≥ (a1 + a2) / a0 from h2)]
  · rw [(right_not h).2, Option.bind_some, if_neg (by simp), if_neg h]
/-! ### lists that are one -/
theorem rd43_mid (P R : List S43) (x : S43) : rd_T43 (P ++ x :: R) (P.length : Int) = x := by simp [rd_T43, List.getD]
theorem same_l0 : ∀ (R P : List S43) (L : Nat), P.length + R.length = L → L ≤ 4611686018427387904 → Ev (fun k => caulkref19_Same.l0 k (P ++ R) (P ++ R) (L : Int) (P.length : Int)) true
  | [], P, L, hL, hm => by
    refine Ev.step (fun k => rfl) ?_
    simp only [caulkref19_Same.l0]
    exact Ev.neg (by rw [List.length_nil] at hL; omega) (Ev.now _)
  | x :: R, P, L, hL, hm => by
    rw [List.length_cons] at hL
    have ih := same_l0 R (P ++ [x]) L (by simp only [List.length_append, List.length_cons, List.length_nil]; omega) hm
    have e1 : P ++ [x] ++ R = P ++ x :: R := by simp
    have e2 : (P ++ [x]).length = P.length + 1 := by simp
    have hlen : ((P ++ x :: R).length : Int) = (L : Int) := by simp only [List.length_append, List.length_cons]; omega
    rw [e1, e2] at ih
    refine Ev.step (fun k => rfl) ?_
    simp only [caulkref19_Same.l0]
    rw [hlen, wrap_succ (by omega)]
    simp only [rd43_mid]
    exact Ev.pos (by omega) (Ev.pos (by omega) (Ev.pos (by omega) (Ev.pos (by omega) (Ev.neg (by simp) ih))))
theorem same_ev (l : List S43) (hm : l.length ≤ 4611686018427387904) : Ev (fun k => caulkref19_Same.f k l l) true := by
  simp only [caulkref19_Same.f]
  exact Ev.pos (by trivial) (same_l0 l [] l.length (by simp) hm)
theorem cutS_len (a0 a1 a2 : Int) : (cutS a0 a1 a2).1.length ≤ 2000000 := by
  unfold cutS
  split
  · split
    · simp
    · have := spL_len a0 a2.toNat (a1 / a0) (a1 % a0) a2
      simp only [spansL]; omega
  · simp
end Go.Proofs.Ytepbhlngcaiklaa.Pure
