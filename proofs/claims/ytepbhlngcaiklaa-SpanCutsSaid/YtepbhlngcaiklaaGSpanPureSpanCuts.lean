/- The plain law SpanCuts: any bytes have the spans, and the whole blocks, that the document says, or none. Conditions: none. -/
import Derived.Test.YtepbhlngcaiklaaGSpanx9
import Derived.Test.YtepbhlngcaiklaaGSpanSpanLem
namespace Go.Proofs.Ytepbhlngcaiklaa.Pure
open Go.RowKit Go.Proofs.Ytepbhlngcaiklaa Go.Proofs.YtepbhlngcaiklaaW.PrintWords Go.Proofs.YtepbhlngcaiklaaW.PrintLast Go.Proofs.YtepbhlngcaiklaaW.PrintMore Go.Proofs.Ytepbhlngcaiklaa.PKit Go.Proofs.Ytepbhlngcaiklaa.HSpan
set_option linter.unusedVariables false

theorem cuts_j0 (a0 a1 a2 : Int) (b : Bool) : Ev (fun k => caulklaw19_SpanCuts.j0 k a0 a1 a2 b) true := by
  have lv : caulklaw19_lives.f = some true := rfl
  refine Ev.step (fun k => rfl) ?_
  simp only [caulklaw19_SpanCuts.j0, lv, cut_eq, who_eq, rwho_eq]
  cases b with
  | true => exact Ev.pos rfl (Ev.now _)
  | false =>
    refine Ev.neg (by simp) (Ev.let_ (Ev.bind (rcut_ev a0 a1 a2) (Ev.let_ (Ev.let_ (Ev.let_ (Ev.pos rfl ?_))))))
    refine Ev.bind (same_ev _ (by have := cutS_len a0 a1 a2; omega)) (Ev.pos rfl (Ev.pos rfl (Ev.pos (by simp) (Ev.some_ (by simp)))))
theorem SpanCuts : caulklaw19_SpanCuts.Pure := by
  intro a0 a1 a2 _ _ _
  suffices h : Ev (fun k => caulklaw19_SpanCuts.f k a0 a1 a2) true from h.rounds
  simp only [caulklaw19_SpanCuts.f]
  by_cases h1 : a0 > 0
  · refine Ev.pos h1 ?_
    by_cases h2 : a0 < 64
    · refine Ev.pos h2 ?_
      by_cases h3 : a2 > 16384
      · exact Ev.pos h3 (cuts_j0 ..)
      · exact Ev.neg h3 (cuts_j0 ..)
    · exact Ev.neg h2 (cuts_j0 ..)
  · exact Ev.neg h1 (cuts_j0 ..)
end Go.Proofs.Ytepbhlngcaiklaa.Pure
