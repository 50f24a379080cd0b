/- The plain law BitmapTells: any use has the bits, and the ranges, and any bits, and any ranges, the use, that the document says, or none. Conditions: none. -/
import Derived.Test.YtgahpdoiddhdaaaHBitmapx8
import Derived.Test.YtgahpdoiddhdaaaBitmapRan
namespace Go.Proofs.Ytgahpdoiddhdaaa.Pure
open Go.RowKit Go.Proofs.Ytgahpdoiddhdaaa.HBitmap Go.Proofs.Ytgahpdoiddhdaaa.PKit Go.Proofs.Ytgahpdoiddhdaaa.BitmapLem Go.Proofs.YtgahpdoiddhdaaaW.PrintWords Go.Proofs.YtgahpdoiddhdaaaW.PrintLast
set_option linter.unusedSimpArgs false
set_option linter.unusedVariables false

theorem unpV_len (n : Int) (s : ByteArray) : (unpV n s).1.length ≤ 4096 := by
  unfold unpV
  split
  · simp
  split
  · simp
  split
  · simp
  · rw [useN_len _ (Nat.le_refl _)]; omega
theorem ofR_len (N : Nat) : ∀ (l : List S39) (x : List Bool), x.length = N → (ofR N x l).1.length ≤ N
  | [], x, hx => by simp [ofR, hx]
  | r :: l, x, hx => by
    simp only [ofR]
    split
    · simp
    · exact ofR_len N l _ (by rw [markN_len]; exact hx)
theorem ofV_len (n : Int) (l : List S39) : (ofV n l).1.length ≤ 4096 := by
  unfold ofV
  split
  · simp
  · have := ofR_len n.toNat l (List.replicate n.toNat false) (by simp)
    omega

theorem BitmapTells : caulklaw39_BitmapTells.Pure := by
  intro a n s l ha hn hs hl
  refine Ev.rounds ?_
  have ml : l.length < 4611686018427387904 := by omega
  have yes : Ev (fun k => caulklaw39_BitmapTells.j0 k a n s l true) true := by
    refine Ev.step (fun k => rfl) ?_
    simp only [caulklaw39_BitmapTells.j0]
    refine Ev.pos (by simp) ?_
    simp only [caulklaw39_lives.f]
    exact Ev.let_ (Ev.now _)
  have last : Ev (fun k => caulklaw39_BitmapTells.j1 k (packV a).1 (packV a).2 (packV a).1 (packV a).2 (unpV n s).1 (unpV n s).2 (unpV n s).1 (unpV n s).2 (ofV n l).1 (ofV n l).2 (ofV n l).1 (ofV n l).2 false) true := by
    refine Ev.step (fun k => rfl) ?_
    simp only [caulklaw39_BitmapTells.j1, caulklaw39_lives.f]
    refine Ev.neg (by simp) (Ev.let_ (Ev.pos (by simp) (Ev.pos (by simp) (Ev.pos (by simp) (Ev.bind (Ev.value (same_ev (unpV n s).1 (unpV n s).1 (by have := unpV_len n s; omega)) (by simp : _ = true)) (Ev.pos (by simp) (Ev.pos (by simp) (Ev.bind (Ev.value (same_ev (ofV n l).1 (ofV n l).1 (by have := ofV_len n l; omega)) (by simp : _ = true)) (Ev.pos (by simp) (Ev.some_ (by simp)))))))))))
  have no : (a.length ≤ 300 ∨ 4096 < a.length) → Ev (fun k => caulklaw39_BitmapTells.j0 k a n s l false) true := by
    intro hal
    refine Ev.step (fun k => rfl) ?_
    simp only [caulklaw39_BitmapTells.j0]
    refine Ev.neg (by simp) (Ev.bind (pack_ev a) (Ev.bind (rpack_ev a) (Ev.bind (unpack_ev n s) (Ev.bind (runpack_ev n s) (Ev.bind (of_ev n l ml) (Ev.bind (rof_ev n l ml) ?_))))))
    by_cases h : a.length ≤ 300
    · refine Ev.pos (by omega) (Ev.bind (ranges_ev a (by omega)) (Ev.bind (rranges_ev a (by omega)) (Ev.bind (sameR_ev _ (by have := rangesV_len a; omega)) ?_)))
      exact last
    · exact Ev.neg (by omega) last
  have flag : ∀ b : Bool, (a.length ≤ 300 ∨ 4096 < a.length) → Ev (fun k => caulklaw39_BitmapTells.j0 k a n s l b) true := by
    intro b hal
    cases b
    · exact no hal
    · exact yes
  simp only [caulklaw39_BitmapTells.f]
  by_cases h1 : (a.length : Int) > 300
  · refine Ev.pos h1 ?_
    by_cases h2 : (a.length : Int) ≤ 4096
    · exact Ev.pos h2 yes
    · refine Ev.neg h2 ?_
      by_cases h3 : (s.size : Int) > 1024
      · exact Ev.pos h3 yes
      · exact Ev.neg h3 (flag _ (by omega))
  · refine Ev.neg h1 ?_
    by_cases h3 : (s.size : Int) > 1024
    · exact Ev.pos h3 yes
    · exact Ev.neg h3 (flag _ (by omega))

end Go.Proofs.Ytgahpdoiddhdaaa.Pure
