/- The plain law ElevatorTells: any requests are right or not, are served in the order, go through the clusters, and take the way, that the document says. Conditions: none. -/
import Derived.Test.YtgahpdoiddhdaaaGElevx12
import Derived.Test.YtgahpdoiddhdaaaGElevElevAns
namespace Go.Proofs.Ytgahpdoiddhdaaa.Pure
open Go.RowKit Go.Proofs.Ytgahpdoiddhdaaa Go.Proofs.YtgahpdoiddhdaaaW.PrintWords Go.Proofs.YtgahpdoiddhdaaaW.PrintLast Go.Proofs.YtgahpdoiddhdaaaW.PrintMore Go.Proofs.Ytgahpdoiddhdaaa.PKit Go.Proofs.Ytgahpdoiddhdaaa.HElev
set_option linter.unusedVariables false

theorem ordS_len (a : Int) (l : List S37) (hm : l.length ≤ 1000) : (ordS a l).1.length ≤ 10000000 := by
  unfold ordS
  by_cases h : rdyS a l = 0
  · rw [if_pos h]
    obtain ⟨_, ha, ha2⟩ := rdyS_zero h
    unfold ordL
    have l1 : (ris l a (4096 - a).toNat).length ≤ 4096 * 1000 := Nat.le_trans (ris_len l _ _) (Nat.mul_le_mul (by omega) hm)
    have l2 : (ris l 0 a.toNat).length ≤ 4096 * 1000 := Nat.le_trans (ris_len l _ _) (Nat.mul_le_mul (by omega) hm)
    simp only [List.length_append]
    omega
  · rw [if_neg h]; simp
theorem runsA_len (l : List S37) (hm : l.length ≤ 1000) : (runsA l).1.length ≤ 1000 := by
  unfold runsA
  by_cases h : chkS l = 0
  · rw [if_pos h]; have := runsL_len l; simp only []; omega
  · rw [if_neg h]; simp
theorem ElevatorTells : caulklaw40_ElevatorTells.Pure := by
  intro a l _ hl
  have lv : caulklaw40_lives.f = some true := rfl
  suffices h : Ev (fun k => caulklaw40_ElevatorTells.f k a l) true from h.rounds
  simp only [caulklaw40_ElevatorTells.f, lv]
  by_cases hb : (l.length : Int) > 40
  · exact Ev.pos hb (Ev.now _)
  · refine Ev.neg hb ?_
    have hm : l.length ≤ 1000 := by omega
    have hm2 : l.length ≤ 4611686018427387904 := by omega
    refine Ev.bind (ordE_ev a l hm) (Ev.bind (ordR_ev a l hm) (Ev.bind (runsE_ev l hm) (Ev.bind (runsR_ev l hm) (Ev.bind (wayE_ev a l hm2) (Ev.bind (wayR_ev a l hm2) (Ev.let_ (Ev.pos rfl ?_)))))))
    refine Ev.bind (chk_ev l hm2) (Ev.bind (rchk_ev l hm2) (Ev.pos rfl ?_))
    refine Ev.bind (same_ev _ (by have := ordS_len a l hm; omega)) (Ev.pos rfl (Ev.pos rfl ?_))
    refine Ev.bind (rsame_ev _ (by have := runsA_len l hm; omega)) (Ev.pos rfl (Ev.pos rfl (Ev.pos rfl ?_)))
    exact Ev.some_ (by simp)
end Go.Proofs.Ytgahpdoiddhdaaa.Pure
