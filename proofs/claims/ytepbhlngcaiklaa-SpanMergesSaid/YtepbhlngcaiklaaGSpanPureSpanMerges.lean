/- The plain law SpanMerges: any blocks have the ranges, and any ranges the blocks, that the document says, or none; any parts are joined, and laid over, as it says, or not. Conditions: none. -/
import Derived.Test.YtepbhlngcaiklaaGSpanx9
import Derived.Test.YtepbhlngcaiklaaGSpanSpanRan
namespace Go.Proofs.Ytepbhlngcaiklaa.Pure
open Go.RowKit Go.Proofs.Ytepbhlngcaiklaa Go.Proofs.YtepbhlngcaiklaaW.PrintWords Go.Proofs.YtepbhlngcaiklaaW.PrintLast Go.Proofs.YtepbhlngcaiklaaW.PrintMore Go.Proofs.Ytepbhlngcaiklaa.PKit Go.Proofs.Ytepbhlngcaiklaa.HSpan
set_option linter.unusedVariables false

theorem merges_j2 (l0 : List Int) (h0 : l0.length ≤ 300) (bl : List Int × Int) (hbl : bl.1.length ≤ 65536) (jn : ByteArray × Int) : Ev (fun k => caulklaw19_SpanMerges.j2 k l0 bl.1 bl.2 bl.1 bl.2 jn.1 jn.2 jn.1 jn.2) true := by
  have lv : caulklaw19_lives.f = some true := rfl
  refine Ev.step (fun k => rfl) ?_
  simp only [caulklaw19_SpanMerges.j2, lv]
  refine Ev.let_ (Ev.pos rfl ?_)
  refine Ev.bind (merge_ev l0 (by omega)) (Ev.bind (rmerge_ev l0 (by omega)) ?_)
  have hu := uniq_len l0
  have hf := foldR_len (uniq l0) []
  rw [List.length_nil] at hf
  refine Ev.bind (rsame_ev _ (by omega)) (Ev.pos rfl ?_)
  exact Ev.bind (isame_ev _ (by omega)) (Ev.pos rfl (Ev.pos (by trivial) (Ev.pos (by trivial) (Ev.some_ (by simp)))))
theorem merges_j1 (l0 : List Int) (h0 : l0.length ≤ 300) (l3 : List S43) (l4 : List ByteArray) (a5 : ByteArray) (h5 : a5.size ≤ 140737488355328) (bl : List Int × Int) (hbl : bl.1.length ≤ 65536) (jn : ByteArray × Int) (b : Bool) (hb : b = true → 0 < l3.length ∧ 0 < l4.length) :
    Ev (fun k => caulklaw19_SpanMerges.j1 k l0 l3 l4 a5 bl.1 bl.2 bl.1 bl.2 jn.1 jn.2 jn.1 jn.2 b) true := by
  refine Ev.step (fun k => rfl) ?_
  simp only [caulklaw19_SpanMerges.j1, over_eq a5 h5, rover_eq a5 h5]
  cases b with
  | true =>
    obtain ⟨p1, p2⟩ := hb rfl
    exact Ev.pos rfl (Ev.pos (by omega) (Ev.pos (by omega) (Ev.let_ (Ev.let_ (Ev.pos rfl (Ev.pos rfl (merges_j2 l0 h0 bl hbl jn)))))))
  | false => exact Ev.neg (by simp) (merges_j2 l0 h0 bl hbl jn)
theorem merges_j0 (l0 : List Int) (l1 : List S28) (a2 : Int) (l3 : List S43) (l4 : List ByteArray) (a5 : ByteArray) (h1 : l1.length ≤ 4611686018427387904) (h5 : a5.size ≤ 140737488355328) (b : Bool) (hb : b = false → l0.length ≤ 300 ∧ l4.length ≤ 100) :
    Ev (fun k => caulklaw19_SpanMerges.j0 k l0 l1 a2 l3 l4 a5 b) true := by
  have lv : caulklaw19_lives.f = some true := rfl
  refine Ev.step (fun k => rfl) ?_
  simp only [caulklaw19_SpanMerges.j0, lv]
  cases b with
  | true => exact Ev.pos rfl (Ev.now _)
  | false =>
    obtain ⟨q0, q4⟩ := hb rfl
    have hbl := blkS_len l1 [] (by simp)
    refine Ev.neg (by simp) (Ev.bind (blk_ev l1 h1) (Ev.bind (rblk_ev l1 h1) (Ev.bind (join_ev a2 l3 l4 (by omega)) (Ev.bind (rjoin_ev a2 l3 l4 (by omega)) ?_))))
    by_cases c : (l3.length : Int) > 0
    · exact Ev.pos c (merges_j1 l0 q0 l3 l4 a5 h5 _ hbl _ _ (fun h => ⟨by omega, by have := of_decide_eq_true h; omega⟩))
    · exact Ev.neg c (merges_j1 l0 q0 l3 l4 a5 h5 _ hbl _ _ (fun h => by simp at h))
theorem SpanMerges : caulklaw19_SpanMerges.Pure := by
  intro l0 l1 a2 l3 l4 a5 w0 w1 _ w3 w4 w5
  have m1 : l0.length ≤ 4611686018427387904 := by have := w0.2.1; omega
  have m2 : l1.length ≤ 4611686018427387904 := by have := w1.2.1; omega
  suffices h : Ev (fun k => caulklaw19_SpanMerges.f k l0 l1 a2 l3 l4 a5) true from h.rounds
  simp only [caulklaw19_SpanMerges.f]
  obtain ⟨b, hb, hs⟩ := small_l0 l0 m1 l0 [] rfl
  have hs' : Ev (fun k => caulklaw19_small.f k l0) b := by
    simp only [caulklaw19_small.f]
    exact hs
  refine Ev.bind hs' ?_
  cases b with
  | true =>
    refine Ev.pos rfl (merges_j0 l0 l1 a2 l3 l4 a5 m2 (by omega) _ (fun h => ⟨hb rfl, ?_⟩))
    have := of_decide_eq_false h
    omega
  | false => exact Ev.neg (by simp) (merges_j0 l0 l1 a2 l3 l4 a5 m2 (by omega) _ (fun h => by simp at h))
end Go.Proofs.Ytepbhlngcaiklaa.Pure
