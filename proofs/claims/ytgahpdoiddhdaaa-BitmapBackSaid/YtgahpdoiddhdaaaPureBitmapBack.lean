/- The plain law BitmapBack: a use is had from its bits, and from its ranges; what is had of bits has these. Conditions: none. -/
import Derived.Test.YtgahpdoiddhdaaaHBitmapx8
import Derived.Test.YtgahpdoiddhdaaaBitmapRan
namespace Go.Proofs.Ytgahpdoiddhdaaa.Pure
open Go.RowKit Go.Proofs.Ytgahpdoiddhdaaa.HBitmap Go.Proofs.Ytgahpdoiddhdaaa.PKit Go.Proofs.Ytgahpdoiddhdaaa.BitmapLem Go.Proofs.YtgahpdoiddhdaaaW.PrintWords Go.Proofs.YtgahpdoiddhdaaaW.PrintLast
set_option linter.unusedSimpArgs false
set_option linter.unusedVariables false

theorem BitmapBack : caulklaw39_BitmapBack.Pure := by
  intro a n s ha hn hs
  refine Ev.rounds ?_
  simp only [caulklaw39_BitmapBack.f, caulklaw39_lives.f]
  refine Ev.let_ (Ev.pos (by simp) ?_)
  by_cases h1 : (a.length : Int) > 4096
  · refine Ev.pos h1 (Ev.step (fun k => rfl) ?_)
    simp only [caulklaw39_BitmapBack.j0]
    exact Ev.pos (by simp) (Ev.now _)
  refine Ev.neg h1 (Ev.step (fun k => rfl) ?_)
  simp only [caulklaw39_BitmapBack.j0]
  by_cases h2 : (s.size : Int) > 1024
  · exact Ev.pos (by simpa using h2) (Ev.now _)
  refine Ev.neg (by simpa using h2) ?_
  have ep : packV a = (strOfNums (packL a), 0) := by unfold packV; rw [if_neg h1]
  refine Ev.bind (a := (strOfNums (packL a), 0)) (ep ▸ pack_ev a) ?_
  refine Ev.bind (a := (a, 0)) (unp_pack a (by omega) ▸ unpack_ev _ _) ?_
  refine Ev.bind (ranges_ev a (by omega)) ?_
  refine Ev.bind (a := (a, 0)) (of_ranges a (by omega) ▸ of_ev _ _ (by have := rangesV_len a; omega)) ?_
  refine Ev.bind (unpack_ev n s) (Ev.bind (pack_ev _) ?_)
  refine Ev.pos rfl (Ev.pos rfl (Ev.bind (Ev.value (same_ev a a (by omega)) (by simp : _ = true)) (Ev.pos rfl (Ev.pos rfl (Ev.bind (Ev.value (same_ev a a (by omega)) (by simp : _ = true)) (Ev.pos rfl ?_))))))
  by_cases h3 : (unpV n s).2 = 0
  · refine Ev.pos h3 ?_
    have h4 : ¬ (n < 0 ∨ n > 4096) ∧ s.size = (n.toNat + 7) / 8 ∧ rest s n.toNat (8 * s.size) = false ∧ unpV n s = (useN s n.toNat n.toNat, 0) := by
      unfold unpV at h3 ⊢
      by_cases c1 : n < 0 ∨ n > 4096
      · rw [if_pos c1] at h3; simp at h3
      rw [if_neg c1] at h3 ⊢
      by_cases c2 : s.size = (n.toNat + 7) / 8
      · rw [if_neg (by simpa using c2)] at h3 ⊢
        by_cases c3 : rest s n.toNat (8 * s.size) = true
        · rw [if_pos c3] at h3; simp at h3
        · rw [if_neg c3]
          exact ⟨c1, c2, by simpa using c3, rfl⟩
      · rw [if_pos c2] at h3; simp at h3
    obtain ⟨c1, c2, c3, c4⟩ := h4
    rw [c4]
    have hl : (useN s n.toNat n.toNat).length = n.toNat := useN_len s (Nat.le_refl _)
    have ep2 : packV (useN s n.toNat n.toNat) = (strOfNums (packL (useN s n.toNat n.toNat)), 0) := by unfold packV; rw [if_neg (by omega)]
    rw [ep2]
    refine Ev.pos rfl (Ev.pos ((back_iff s n.toNat c2).2 c3) (Ev.some_ ?_))
    show (((useN s n.toNat n.toNat).length : Int) == n) = true
    rw [hl]
    simp
    omega
  · exact Ev.neg h3 (Ev.now _)

end Go.Proofs.Ytgahpdoiddhdaaa.Pure
