/- The plain law SpanAll: spans cover the bytes, each once, in order; what is cut, and joined, is what it was; whole blocks are those whose span is all of them. Conditions: none. -/
import Derived.Test.YtepbhlngcaiklaaGSpanx10
import Derived.Test.YtepbhlngcaiklaaGSpanSpanJoin
namespace Go.Proofs.Ytepbhlngcaiklaa.Pure
open Go.RowKit Go.Proofs.Ytepbhlngcaiklaa Go.Proofs.YtepbhlngcaiklaaW.PrintWords Go.Proofs.YtepbhlngcaiklaaW.PrintLast Go.Proofs.YtepbhlngcaiklaaW.PrintMore Go.Proofs.Ytepbhlngcaiklaa.PKit Go.Proofs.Ytepbhlngcaiklaa.HSpan
set_option linter.unusedVariables false
set_option linter.unusedSimpArgs false

theorem ext_size (s : ByteArray) (a b : Nat) (h : b ≤ s.size) : (s.extract a b).size = b - a := by
  rw [ByteArray.size_extract]; omega
theorem ext_split (s : ByteArray) (k : Nat) (h : k ≤ s.size) : (s.extract 0 k).data.toList ++ (s.extract k s.size).data.toList = s.data.toList := by
  rw [ByteArray.data_extract, ByteArray.data_extract, Array.toList_extract, Array.toList_extract, List.extract_eq_take_drop, List.extract_eq_take_drop, List.drop_zero, Nat.sub_zero]
  rw [List.take_of_length_le (l := List.drop k s.data.toList) (by rw [List.length_drop, data_length]; omega), List.take_append_drop]
theorem bytes_of_data {a : ByteArray} {l : List UInt8} (h : l = a.data.toList) : (⟨l.toArray⟩ : ByteArray) = a := by
  subst h; cases a; rfl
def cB (b f : Int) : Int := if f = 0 then b else b + 1
def remB (T b f left : Int) : Int := if 0 < left then (if cB b f < T then T - cB b f else 0) else 0
theorem all_end (size : Int) (s : ByteArray) (l : List S43) (lo hi w : Int) (rest : ByteArray) (parts : List ByteArray) (at' : Int) (hs1 : 1 ≤ size) (hs2 : size ≤ 65536) (hl : l.length ≤ 5000)
    (hfit : fitAll size l parts) (hr : rest.size = 0) (hj : joinD parts ++ rest.data.toList = s.data.toList) (hw : wrap64 (hi - lo) = w) :
    Ev (fun k => caulklaw19_SpanAll.l0 k size s l 0 at' w rest parts l (l.length : Int) (l.length : Int) lo hi) true := by
  have hlen := fitAll_len size l parts hfit
  have hok : okP size 0 0 := by unfold okP; omega
  have hj1 : joinS size l parts = (⟨(joinD parts).toArray⟩, 0) := by unfold joinS joinR; rw [if_pos hok, if_pos hlen, if_pos hfit]
  have hr0 : rest.data.toList = [] := List.length_eq_zero_iff.1 (by rw [data_length]; exact hr)
  rw [hr0, List.append_nil] at hj
  have hje := join_ev size l parts (by omega)
  rw [hj1, bytes_of_data hj] at hje
  have hrest : rest = ⟨#[]⟩ := by
    rw [← bytes_of_data hr0.symm]
  refine Ev.step (fun k => rfl) ?_
  simp only [caulklaw19_SpanAll.l0]
  refine Ev.neg (by omega) (Ev.bind hje ?_)
  simp only []
  refine Ev.pos (by trivial) (Ev.pos (by rw [hrest]; simp [ByteArray.toList, ByteArray.toList.loop, ByteArray.size]) (Ev.pos (by trivial) (Ev.pos (by trivial) (Ev.some_ (by rw [hw]; simp)))))
theorem all_l0 (size E F T tot lo hi : Int) (s : ByteArray) (l : List S43) (hs1 : 1 ≤ size) (hs2 : size ≤ 65536) (hE0 : 0 ≤ E) (hE : E ≤ 2199023255552) (hT : T = E / size) (hl : l.length ≤ 5000)
    (hlo : F < T → lo = F ∧ hi = T) (htot : Aside0 (wrap64 (hi - lo) = tot)) (hF0 : 0 ≤ F) (hT2 : T ≤ 2199023255552) : ∀ (fuel : Nat) (P : List S43) (b f left at' w : Int) (rest : ByteArray) (parts : List ByteArray),
    l = P ++ spL size fuel b f left → left = (rest.size : Int) → left ≤ fuel → left ≤ 4096 → 0 ≤ f → f < size → 0 ≤ b → (0 < left → b * size + f + left = E ∧ at' = b * size + f ∧ F ≤ cB b f) → (P = [] ∨ ∃ P' y, P = P' ++ [y] ∧ y.f0 + 1 = b) →
    fitAll size P parts → joinD parts ++ rest.data.toList = s.data.toList → w + remB T b f left = tot → 0 ≤ w → w ≤ P.length →
    Ev (fun k => caulklaw19_SpanAll.l0 k size s l 0 at' w rest parts l (l.length : Int) (P.length : Int) lo hi) true
  | fuel, P, b, f, left, at', w, rest, parts, hP, hleft, hfu, hle, hf0, hf1, hb, hst, hprev, hfit, hj, hw, hw0, hwl => by
    by_cases h0 : 0 < left
    · obtain ⟨fuel, rfl⟩ : ∃ m, fuel = m + 1 := ⟨fuel - 1, by omega⟩
      obtain ⟨e1, e2, e3⟩ := hst h0
      have hbs : b ≤ b * size := by
        have := Int.mul_le_mul_of_nonneg_left hs1 hb
        rw [Int.mul_one] at this
        exact this
      have hbm : (b + 1) * size = b * size + size := by rw [Int.add_mul, Int.one_mul]
      have hTle : ∀ x : Int, x ≤ T ↔ x * size ≤ E := fun x => by rw [hT]; exact Int.le_ediv_iff_mul_le (by omega)
      have hb1 := hTle (b + 1)
      rw [hbm] at hb1
      have hb2 := hTle (b + 2)
      have hbm2 : (b + 2) * size = b * size + size + size := by rw [show b + 2 = b + 1 + 1 by omega, Int.add_mul, Int.one_mul, hbm]
      rw [hbm2] at hb2
      have hpl : parts.length = P.length := (fitAll_len size P parts hfit).symm
      -- one round, for a span of kk bytes
      have round : ∀ (x : S43) (R : List S43) (kk b' f' : Int), l = P ++ x :: R → x = ⟨b, f, f + kk⟩ → 1 ≤ kk → kk ≤ left → kk ≤ size - f → R = spL size fuel b' f' (left - kk) →
          0 ≤ f' → f' < size → b' = b + 1 → (0 < left - kk → kk = size - f ∧ f' = 0) → Ev (fun k => caulklaw19_SpanAll.l0 k size s l 0 at' w rest parts l (l.length : Int) (P.length : Int) lo hi) true := fun x R kk b' f' hl2 hx k1 k2 k3 hR hf'0 hf'1 hb' hnext => by
        have q1 : l.length = P.length + R.length + 1 := by rw [hl2]; simp; omega
        have g : rd_T43 l (P.length : Int) = x := by rw [hl2]; exact rd43_mid _ _ _
        have eP : (P ++ [x]).length = P.length + 1 := by simp
        have hl3 : l = (P ++ [x]) ++ R := by rw [hl2]; simp
        have hkk : (kk.toNat : Int) = kk := by omega
        have hkr : kk.toNat ≤ rest.size := by omega
        have hrs : (rest.extract kk.toNat rest.size).size = rest.size - kk.toNat := ext_size rest _ _ (Nat.le_refl _)
        have hps : (rest.extract 0 kk.toNat).size = kk.toNat - 0 := ext_size rest _ _ hkr
        have hnew : ∀ w2 : Int, w2 + remB T b' f' (left - kk) = tot → 0 ≤ w2 → w2 ≤ P.length + 1 → Ev (fun k => caulklaw19_SpanAll.l0 k size s l 0 (at' + kk) w2 (rest.extract kk.toNat rest.size) (parts ++ [rest.extract 0 kk.toNat]) l (l.length : Int) ((P.length + 1 : Nat) : Int) lo hi) true := fun w2 hw2 hw20 hw21 => by
          have ih := all_l0 size E F T tot lo hi s l hs1 hs2 hE0 hE hT hl hlo htot hF0 hT2 fuel (P ++ [x]) b' f' (left - kk) (at' + kk) w2 (rest.extract kk.toNat rest.size) (parts ++ [rest.extract 0 kk.toNat])
            (by rw [hl3, hR]) (by rw [hrs]; omega) (by omega) (by omega) hf'0 hf'1 (by omega) (fun hp => by
              obtain ⟨n1, n2⟩ := hnext hp
              subst n2
              have hc : cB b' 0 = b + 1 := by unfold cB; rw [if_pos rfl, hb']
              have hc2 : cB b f ≤ b + 1 := by unfold cB; split <;> omega
              rw [hb', hbm]
              rw [hb'] at hc
              exact ⟨by omega, by omega, by omega⟩) (.inr ⟨P, x, rfl, by rw [hx, hb']⟩)
            (fitAll_snoc size P parts x _ hfit (by unfold fitP; rw [hx]; simp only []; rw [hps]; omega)) (by
              rw [joinD_append, joinD_one, List.append_assoc, ext_split rest _ hkr]; exact hj) hw2 hw20 (by rw [eP]; omega)
          rw [eP] at ih
          exact ih
        have cond : Ev (fun k => caulklaw19_SpanAll.j1 k size s l 0 at' w rest parts kk l (l.length : Int) (P.length : Int) false lo hi b f (f + kk)) true := by
          refine Ev.step (fun k => rfl) ?_
          simp only [caulklaw19_SpanAll.j1]
          refine Ev.neg (by simp) ?_
          have wr : wrap64 (at' + kk) = at' + kk := wrap_in (by omega) (by omega)
          have wi : wrap64 ((P.length : Int) + 1) = ((P.length + 1 : Nat) : Int) := wrap_succ (by omega)
          rw [wr, wi]
          clear wr wi
          by_cases hfull : kk = size
          · -- a whole block
            have hf : f = 0 := by omega
            have hc : cB b f = b := by unfold cB; rw [if_pos hf]
            have hbT : b + 1 ≤ T := hb1.2 (by omega)
            obtain ⟨hlo1, hhi1⟩ := hlo (by omega)
            refine Ev.pos hfull (Ev.neg (by omega) (Ev.neg (by omega) (Ev.pos (by omega) (Ev.pos (by omega) (Ev.pos (by omega) ?_)))))
            rw [wrap_in (n := w + 1) (by omega) (by omega)]
            refine hnew (w + 1) ?_ (by omega) (by omega)
            have r1 : remB T b f left = T - b := by unfold remB; rw [if_pos h0, hc, if_pos (by omega)]
            rw [r1] at hw
            by_cases hz : 0 < left - kk
            · obtain ⟨n1, n2⟩ := hnext hz
              subst n2
              have hc' : cB b' 0 = b + 1 := by unfold cB; rw [if_pos rfl, hb']
              unfold remB
              rw [if_pos hz, hc']
              split <;> omega
            · have : T = b + 1 := by
                have : ¬ b + 2 ≤ T := fun h => by have := hb2.1 h; omega
                omega
              unfold remB
              rw [if_neg hz]
              omega
          · refine Ev.neg hfull (Ev.pos (by omega) (Ev.pos (by omega) (Ev.pos (by omega) ?_)))
            refine hnew w ?_ hw0 (by omega)
            have r0 : remB T b f left = remB T b' f' (left - kk) := by
              unfold remB
              rw [if_pos h0]
              by_cases hz : 0 < left - kk
              · obtain ⟨n1, n2⟩ := hnext hz
                subst n2
                have hc' : cB b' 0 = b + 1 := by unfold cB; rw [if_pos rfl, hb']
                have hc : cB b f = b + 1 := by unfold cB; rw [if_neg (by omega)]
                rw [if_pos hz, hc', hc]
              · rw [if_neg hz]
                have hkl : kk = left := by omega
                have hbT : f = 0 → ¬ b + 1 ≤ T := fun hf h => by have := hb1.1 h; omega
                have hbT2 : ¬ b + 2 ≤ T := fun h => by have := hb2.1 h; omega
                unfold cB
                split
                · rename_i hf; have := hbT hf; rw [if_neg (by omega)]
                · rw [if_neg (by omega)]
            rw [← r0]
            exact hw
        refine Ev.step (fun k => rfl) ?_
        simp only [caulklaw19_SpanAll.l0]
        rw [g, hx]
        simp only []
        have w1 : wrap64 (f + kk - f) = kk := by rw [wrap_in (by omega) (by omega)]; omega
        have w2 : wrap64 (wrap64 (b * size) + f) = at' := by clear w1; rw [wrap_in (n := b * size) (by omega) (by omega), wrap_in (by omega) (by omega)]; omega
        rw [w1, w2]
        clear w1 w2
        refine Ev.pos (by omega) (Ev.pos (by omega) (Ev.pos (by omega) (Ev.neg (by omega) (Ev.neg (by omega) (Ev.pos rfl ?_)))))
        rcases hprev with rfl | ⟨P', y, rfl, hy⟩
        · exact Ev.neg (by simp) cond
        · have eP' : (P' ++ [y]).length = P'.length + 1 := by simp
          have g2 : rd_T43 l (P'.length : Int) = y := by
            have : l = P' ++ y :: (x :: R) := by rw [hl2]; simp
            rw [this]; exact rd43_mid _ _ _
          have w3 : wrap64 (((P' ++ [y]).length : Int) - 1) = (P'.length : Int) := by rw [eP', wrap_in (by omega) (by omega)]; omega
          refine Ev.pos (by omega) ?_
          rw [w3, g2]
          clear w3
          refine Ev.pos (by omega) (Ev.pos (by omega) ?_)
          have w4 : (wrap64 (y.f0 + 1) != b) = false := by rw [hy, wrap_in (by omega) (by omega)]; simp
          rw [w4]
          exact cond
      rcases spL_one (b := b) (f := f) (l := left) fuel hs1 hs2 hf0 hf1 h0 (by omega) hb (by omega) with ⟨q, e⟩ | ⟨q, e⟩
      · rw [e] at hP
        refine round ⟨b, f, f + left⟩ [] left (b + 1) 0 hP rfl (by omega) (Int.le_refl _) q (by rw [spL_zero _ _ _ _ _ (by omega)]) (by omega) (by omega) rfl (fun h => by omega)
      · rw [e] at hP
        refine round ⟨b, f, size⟩ _ (size - f) (b + 1) 0 hP (by rw [show f + (size - f) = size by omega]) (by omega) (by omega) (Int.le_refl _) rfl (by omega) (by omega) rfl (fun h => ⟨rfl, rfl⟩)
    · have hz : spL size fuel b f left = [] := spL_zero _ _ _ _ _ (by omega)
      rw [hz, List.append_nil] at hP
      subst hP
      have : remB T b f left = 0 := by unfold remB; rw [if_neg h0]
      rw [this, Int.add_zero] at hw
      exact all_end size s l lo hi w rest parts at' hs1 hs2 hl hfit (by omega) hj (by rw [htot.out, hw])
theorem SpanAll : caulklaw19_SpanAll.Pure := by
  intro a0 a1 a2 _ _ _
  have lv : caulklaw19_lives.f = some true := rfl
  suffices h : Ev (fun k => caulklaw19_SpanAll.f k a0 a1 a2) true from h.rounds
  simp only [caulklaw19_SpanAll.f, lv, cut_eq, who_eq]
  refine Ev.let_ (Ev.pos rfl ?_)
  by_cases hb : (a2.size : Int) > 4096
  · exact Ev.pos hb (Ev.now _)
  · refine Ev.neg hb (Ev.let_ (Ev.let_ ?_))
    by_cases hok : okP a0 a1 (a2.size : Int)
    · have hok' := hok
      unfold okP at hok'
      have hc : cutS a0 a1 (a2.size : Int) = (spansL a0 a1 (a2.size : Int), 0) := by unfold cutS; rw [if_pos hok, if_neg (by omega)]
      rw [hc]
      refine Ev.pos rfl ?_
      simp only []
      have c := ceil_div (size := a0) (off := a1) (by omega) (by omega)
      have d1 : 0 ≤ a1 / a0 := Int.ediv_nonneg (by omega) (by omega)
      have d2 : a1 / a0 ≤ a1 := Int.ediv_le_self _ (by omega)
      have d3 : 0 ≤ a1 % a0 := Int.emod_nonneg _ (by omega)
      have d4 : a1 % a0 < a0 := Int.emod_lt_of_pos _ (by omega)
      have d5 : (a1 + (a2.size : Int)) / a0 ≤ a1 + (a2.size : Int) := Int.ediv_le_self _ (by omega)
      have d6 : 0 ≤ (a1 + (a2.size : Int)) / a0 := Int.ediv_nonneg (by omega) (by omega)
      have em := Int.mul_ediv_add_emod a1 a0
      rw [Int.mul_comm] at em
      have hF : (a1 + a0 - 1) / a0 = cB (a1 / a0) (a1 % a0) := by
        rw [c]; unfold cB
        by_cases hz : a1 % a0 > 0
        · rw [if_pos hz, if_neg (by omega)]
        · rw [if_neg hz, if_pos (by omega)]
      have hFle : cB (a1 / a0) (a1 % a0) ≤ a1 / a0 + 1 ∧ 0 ≤ cB (a1 / a0) (a1 % a0) := by unfold cB; split <;> omega
      have hlen : (spansL a0 a1 (a2.size : Int)).length ≤ 5000 := by
        have := spL_len a0 (a2.size : Int).toNat (a1 / a0) (a1 % a0) (a2.size : Int)
        unfold spansL; omega
      have hw2 : (whoS a0 a1 (a2.size : Int)).2.2 = 0 := by unfold whoS; rw [if_pos hok]; split <;> rfl
      have hlo : (a1 + a0 - 1) / a0 < (a1 + (a2.size : Int)) / a0 → (whoS a0 a1 (a2.size : Int)).1 = (a1 + a0 - 1) / a0 ∧ (whoS a0 a1 (a2.size : Int)).2.1 = (a1 + (a2.size : Int)) / a0 := fun h => by
        unfold whoS; rw [if_pos hok, if_neg (by omega)]; exact ⟨rfl, rfl⟩
      have htot : wrap64 ((whoS a0 a1 (a2.size : Int)).2.1 - (whoS a0 a1 (a2.size : Int)).1) = if (a1 + a0 - 1) / a0 < (a1 + (a2.size : Int)) / a0 then (a1 + (a2.size : Int)) / a0 - (a1 + a0 - 1) / a0 else 0 := by
        by_cases h : (a1 + a0 - 1) / a0 < (a1 + (a2.size : Int)) / a0
        · rw [if_pos h, (hlo h).1, (hlo h).2, wrap_in (by omega) (by omega)]
        · rw [if_neg h]
          have : whoS a0 a1 (a2.size : Int) = (0, 0, 0) := by unfold whoS; rw [if_pos hok, if_pos (by omega)]
          rw [this]
          show wrap64 (0 - 0) = 0
          unfold wrap64; omega
      rw [hw2]
      have main := all_l0 a0 (a1 + (a2.size : Int)) ((a1 + a0 - 1) / a0) ((a1 + (a2.size : Int)) / a0) _ _ _ a2 (spansL a0 a1 (a2.size : Int)) (by omega) (by omega) (by omega) (by omega) rfl hlen hlo ⟨htot⟩ (by rw [hF]; exact hFle.2) (by omega)
        (a2.size : Int).toNat [] (a1 / a0) (a1 % a0) (a2.size : Int) a1 0 a2 [] rfl rfl (by omega) (by omega) d3 d4 d1 (fun _ => ⟨by omega, by omega, by rw [hF]; exact Int.le_refl _⟩) (.inl rfl) trivial (by simp [joinD]) (by
          rw [Int.zero_add, hF]
          unfold remB
          by_cases hz : 0 < (a2.size : Int)
          · rw [if_pos hz]
          · rw [if_neg hz]
            have h0 : (a2.size : Int) = 0 := by omega
            rw [h0, Int.add_zero]
            have : ¬ cB (a1 / a0) (a1 % a0) < a1 / a0 := by unfold cB; split <;> omega
            rw [if_neg this]) (Int.le_refl _) (by simp)
      exact main
    · have hc : cutS a0 a1 (a2.size : Int) = ([], 1) := by unfold cutS; rw [if_neg hok]
      have hw : whoS a0 a1 (a2.size : Int) = (0, 0, 1) := by unfold whoS; rw [if_neg hok]
      rw [hc, hw]
      exact Ev.neg (by simp) (Ev.pos (by simp) (Ev.some_ (by simp)))
end Go.Proofs.Ytepbhlngcaiklaa.Pure
