/- The plain laws on joining parts: each fits its span, or not; what is had is all of them. No program's step in sight: the printed functions alone. Conditions: none. -/
import Derived.Test.YtepbhlngcaiklaaGSpanSpanLem
import Derived.Lib.Join
namespace Go.Proofs.Ytepbhlngcaiklaa.Pure
open Go.RowKit Go.Proofs.Ytepbhlngcaiklaa Go.Proofs.YtepbhlngcaiklaaW.PrintWords Go.Proofs.YtepbhlngcaiklaaW.PrintLast Go.Proofs.YtepbhlngcaiklaaW.PrintMore Go.Proofs.Ytepbhlngcaiklaa.PKit Go.Proofs.Ytepbhlngcaiklaa.HSpan
set_option linter.unusedVariables false
set_option linter.unusedSimpArgs false

def joinD (parts : List ByteArray) : List UInt8 := (parts.map (·.data.toList)).flatten
theorem joinD_append (a b : List ByteArray) : joinD (a ++ b) = joinD a ++ joinD b := by simp [joinD]
theorem joinD_one (p : ByteArray) : joinD [p] = p.data.toList := by simp [joinD]
theorem joinD_cons (p : ByteArray) (b : List ByteArray) : joinD (p :: b) = p.data.toList ++ joinD b := by simp [joinD]
theorem join_flat (xs : List (List UInt8)) : Lib.join xs [] = xs.flatten := by
  match xs with
  | [] => rfl
  | x :: r =>
    rw [Lib.join_cons]
    have : (fun y : List UInt8 => ([] : List UInt8) ++ y) = id := rfl
    simp [Lib.joinTail]
def fitP (size : Int) (x : S43) (p : ByteArray) : Prop := 0 ≤ x.f1 ∧ x.f1 ≤ x.f2 ∧ x.f2 ≤ size ∧ (p.size : Int) = x.f2 - x.f1
instance (size : Int) (x : S43) (p : ByteArray) : Decidable (fitP size x p) := by unfold fitP; exact inferInstance
theorem fits_eq {size : Int} (h : size ≤ 9223372036854775807) (x : S43) (p : ByteArray) : span_fits.f x.f0 x.f1 x.f2 size p = some (decide (fitP size x p)) := by
  unfold span_fits.f
  by_cases h1 : x.f1 ≥ 0
  · rw [if_pos h1]
    by_cases h2 : x.f1 ≤ x.f2
    · rw [if_pos h2]
      by_cases h3 : x.f2 ≤ size
      · rw [if_pos h3, wrap_in (by omega) (by omega)]
        by_cases h4 : (p.size : Int) = x.f2 - x.f1
        · simp [fitP, h1, h2, h3, h4]
        · simp [fitP, h4]
      · rw [if_neg h3]; simp [fitP, h3]
    · rw [if_neg h2]; simp [fitP, h2]
  · rw [if_neg h1]; simp [fitP, h1]
def fitAll (size : Int) : List S43 → List ByteArray → Prop
  | [], [] => True
  | x :: r, p :: q => fitP size x p ∧ fitAll size r q
  | [], _ :: _ => False
  | _ :: _, [] => False
instance fitAllDec (size : Int) : ∀ (l : List S43) (q : List ByteArray), Decidable (fitAll size l q)
  | [], [] => isTrue trivial
  | x :: r, p :: q => by
    have := fitAllDec size r q
    unfold fitAll
    exact inferInstance
  | [], _ :: _ => isFalse (fun h => h)
  | _ :: _, [] => isFalse (fun h => h)
theorem fitAll_len (size : Int) : ∀ (l : List S43) (q : List ByteArray), fitAll size l q → l.length = q.length
  | [], [], _ => rfl
  | x :: r, p :: q, h => by simp only [List.length_cons]; rw [fitAll_len size r q h.2]
  | [], _ :: _, h => h.elim
  | _ :: _, [], h => h.elim
theorem fitAll_snoc (size : Int) : ∀ (l : List S43) (q : List ByteArray) (x : S43) (p : ByteArray), fitAll size l q → fitP size x p → fitAll size (l ++ [x]) (q ++ [p])
  | [], [], x, p, _, h2 => ⟨h2, trivial⟩
  | y :: r, z :: q, x, p, h, h2 => ⟨h.1, fitAll_snoc size r q x p h.2 h2⟩
  | [], _ :: _, _, _, h, _ => h.elim
  | _ :: _, [], _, _, h, _ => h.elim
theorem fitAll_size (size : Int) (hs : size ≤ 65536) : ∀ (l : List S43) (q : List ByteArray), fitAll size l q → (joinD q).length ≤ 65536 * q.length
  | [], [], _ => by simp [joinD]
  | x :: r, p :: q, h => by
    have ih := fitAll_size size hs r q h.2
    have h1 := h.1
    unfold fitP at h1
    have hp : p.data.toList.length = p.size := data_length p
    rw [joinD_cons, List.length_append, List.length_cons]
    omega
  | [], _ :: _, h => h.elim
  | _ :: _, [], h => h.elim
theorem rdB_mid (P R : List ByteArray) (p : ByteArray) : rdOf ByteArray.empty (P ++ p :: R) (P.length : Int) = p := by rw [rdOf_nat]; simp [List.getD]
def joinR (size : Int) (l : List S43) (q : List ByteArray) (d : List UInt8) : ByteArray × Int := if fitAll size l q then (⟨d.toArray⟩, 0) else (⟨#[]⟩, 2)
theorem joinR_no {size : Int} {x : S43} {p : ByteArray} (l : List S43) (q : List ByteArray) (d : List UInt8) (h : ¬ fitP size x p) : joinR size (x :: l) (p :: q) d = (⟨#[]⟩, 2) := by
  unfold joinR; rw [if_neg (fun h' => h h'.1)]
theorem joinR_yes {size : Int} {x : S43} {p : ByteArray} (l : List S43) (q : List ByteArray) (d : List UInt8) (h : fitP size x p) : joinR size (x :: l) (p :: q) d = joinR size l q d := by
  unfold joinR
  by_cases h' : fitAll size l q
  · rw [if_pos h', if_pos ⟨h, h'⟩]
  · rw [if_neg h', if_neg (fun h2 => h' h2.2)]
theorem join_l0 (size : Int) (hs : size ≤ 65536) (l : List S43) (parts : List ByteArray) (L : Nat) (hl : l.length = L) (hL : L ≤ 100000) (hp : parts.length = L) : ∀ (R P : List S43) (R' P' : List ByteArray), l = P ++ R → parts = P' ++ R' → P.length = P'.length →
    (fitAll size R R' → (joinD parts).length ≤ 140737488355328) → Ev (fun k => span_Join.l0 k size parts l (L : Int) (P.length : Int)) (joinR size R R' (joinD parts))
  | [], P, [], P', h1, h2, h3, hb => by
    have q : P.length = L := by rw [← hl, h1]; simp
    refine Ev.step (fun k => rfl) ?_
    simp only [span_Join.l0]
    refine Ev.neg (by omega) ?_
    have e : (parts.map (·.data.toList)).flatten = joinD parts := rfl
    have : strings_Join.f parts ⟨#[]⟩ = some ⟨(joinD parts).toArray⟩ := by
      unfold strings_Join.f
      have e2 : (⟨#[]⟩ : ByteArray).data.toList = [] := rfl
      rw [e2, join_flat, e, if_pos ⟨by omega, hb trivial⟩]
    rw [this]
    exact Ev.let_ (Ev.some_ (by simp [joinR, fitAll]))
  | x :: R, P, p :: R', P', h1, h2, h3, hb => by
    have q1 : l.length = P.length + R.length + 1 := by rw [h1]; simp; omega
    have q2 : parts.length = P'.length + R'.length + 1 := by rw [h2]; simp; omega
    have g1 : rd_T43 l (P.length : Int) = x := by rw [h1]; exact rd43_mid _ _ _
    have g2 : rdOf ByteArray.empty parts (P.length : Int) = p := by rw [h2, h3]; exact rdB_mid _ _ _
    have e1 : l = (P ++ [x]) ++ R := by rw [h1]; simp
    have e2 : parts = (P' ++ [p]) ++ R' := by rw [h2]; simp
    have e3 : (P ++ [x]).length = P.length + 1 := by simp
    refine Ev.step (fun k => rfl) ?_
    simp only [span_Join.l0]
    rw [g1, g2, fits_eq (by omega), wrap_succ (by omega)]
    refine Ev.pos (by omega) (Ev.pos (by omega) (Ev.pos (by omega) (Ev.pos (by omega) (Ev.let_ ?_))))
    by_cases hf : fitP size x p
    · refine Ev.pos (by simp [hf]) ?_
      rw [joinR_yes _ _ _ hf]
      have ih := join_l0 size hs l parts L hl hL hp R (P ++ [x]) R' (P' ++ [p]) e1 e2 (by simp [h3]) (fun h => hb ⟨hf, h⟩)
      rw [e3] at ih
      exact ih
    · exact Ev.neg (by simp [hf]) (Ev.some_ (joinR_no _ _ _ hf).symm)
  | [], P, p :: R', P', h1, h2, h3, hb => by
    have q1 : l.length = P.length := by rw [h1]; simp
    have q2 : parts.length = P'.length + R'.length + 1 := by rw [h2]; simp; omega
    omega
  | x :: R, P, [], P', h1, h2, h3, hb => by
    have q1 : l.length = P.length + R.length + 1 := by rw [h1]; simp; omega
    have q2 : parts.length = P'.length := by rw [h2]; simp
    omega
def joinS (size : Int) (l : List S43) (parts : List ByteArray) : ByteArray × Int := if okP size 0 0 then (if l.length = parts.length then joinR size l parts (joinD parts) else (⟨#[]⟩, 2)) else (⟨#[]⟩, 1)
theorem join_ev (size : Int) (l : List S43) (parts : List ByteArray) (hp : parts.length ≤ 100000) : Ev (fun k => span_Join.f k size l parts) (joinS size l parts) := by
  simp only [span_Join.f]
  by_cases h : okP size 0 0
  · rw [(right_ok h).1]
    refine Ev.let_ (Ev.pos rfl ?_)
    have h' := h
    unfold okP at h'
    by_cases hl : l.length = parts.length
    · refine Ev.pos (by omega) (Ev.value (join_l0 size (by omega) l parts l.length rfl (by omega) hl.symm l [] parts [] rfl rfl rfl (fun hf => by have := fitAll_size size (by omega) l parts hf; omega)) ?_)
      simp [joinS, h, hl]
    · exact Ev.neg (by omega) (Ev.some_ (by simp [joinS, h, hl]))
  · rw [(right_not h).1]
    exact Ev.let_ (Ev.neg (by simp) (Ev.some_ (by simp [joinS, h])))
end Go.Proofs.Ytepbhlngcaiklaa.Pure
