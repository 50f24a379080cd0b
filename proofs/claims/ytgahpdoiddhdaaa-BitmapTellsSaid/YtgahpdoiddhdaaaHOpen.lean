/- The lemmas that open an argument of whatever shape (whole numbers, bools, strings, slices and structs, nested) into the plain value that the printed contracts speak of, with the bounds of the form's reach. Conditions: none. -/
import Derived.Test.YtgahpdoiddhdaaaWWords
import Derived.Test.YtgahpdoiddhdaaaWLast
import Derived.Test.YtgahpdoiddhdaaaWMore
import Derived.SizedLaws
import Derived.ChangeArms
import Derived.Deep.Slices
import Derived.DataReads
import Derived.OpenShut
namespace Go.Proofs.Ytgahpdoiddhdaaa.HOpen
open Go.RowKit Go.Proofs.YtgahpdoiddhdaaaW.PrintWords
set_option linter.unusedVariables false

/-- A datum that is read at type t opens as a plain value of kind d, with the bounds Wf. -/
structure Opens {α : Type} (P : Program) (t : TypeId) (d : Kd α) (Wf : α → Prop) : Prop where
  cells : P.cellsOf t = d.sz
  go : ∀ {H : Type} {enc : TypeId × Value → H} {w : World} {base : Nat} {spare : Nat → Bool} {held : Bool} {fuel : Nat} {cs : List Value} {x : DataW H × List MemPlace}, DataW.trod enc P w base spare held fuel t cs = some x →
    (∀ n ∈ x.1.weights P t, n ≤ reachBytes) → ∃ y : α, d.K w y cs ∧ Wf y

theorem Opens.int {P : Program} {t : TypeId} {k : IntKind} (hu : P.underlying t = some (.int k)) (hc : P.cellsOf t = 1) : Opens P t (Kd.int k) (fun n => (Lit.int k n).wf = true) := by
  refine ⟨hc, fun h _ => ?_⟩
  obtain ⟨n, rfl, _, hw⟩ := DataW.trod_int hu h
  exact ⟨n, rfl, hw⟩

theorem Opens.bool {P : Program} {t : TypeId} (hu : P.underlying t = some .bool) (hc : P.cellsOf t = 1) : Opens P t Kd.bool (fun _ => True) := by
  refine ⟨hc, fun h _ => ?_⟩
  obtain ⟨b, rfl, _⟩ := DataW.trod_bool hu h
  exact ⟨b, rfl, trivial⟩

theorem Opens.string {P : Program} {t : TypeId} (hu : P.underlying t = some .string) (hc : P.cellsOf t = 1) : Opens P t Kd.string (fun s => s.size ≤ 140737488351232) := by
  refine ⟨hc, fun h hz => ?_⟩
  obtain ⟨s, rfl, rfl, hs⟩ := DataW.trod_string hu h
  refine ⟨s, rfl, ?_⟩
  have := hz s.data.toList.length (by simp [DataW.weights])
  simpa [reachBytes] using this

theorem weights_elem {H : Type} {P : Program} {e : TypeId} : ∀ {l : List (DataW H)} {d : DataW H}, d ∈ l → ∀ n ∈ d.weights P e, n ∈ DataW.weightsAll P e l
  | d0 :: l, d, hd, n, hn => by
    rcases List.mem_cons.1 hd with rfl | hd
    · simp only [DataW.weightsAll, List.mem_append]; exact Or.inl hn
    · simp only [DataW.weightsAll, List.mem_append]; exact Or.inr (weights_elem hd n hn)

theorem Opens.slice {α : Type} {P : Program} {t e : TypeId} {d : Kd α} {Wf : α → Prop} {B : Nat} (hu : P.underlying t = some (.slice e)) (hc : P.cellsOf t = 1) (hB : P.bytesOf e = B) (ho : Opens P e d Wf) :
    Opens P t (Kd.slice e d) (fun xs => xs.length ≤ maxLen ∧ xs.length * B ≤ 140737488351232 ∧ ∀ x ∈ xs, Wf x) := by
  refine ⟨hc, fun {H enc w base spare held fuel cs x} h hz => ?_⟩
  rcases Go.Deep.open_slice hu h with ⟨rfl, rfl⟩ | ⟨a, len, cap, m, n, D, Pl, rfl, hb, hl, hm, hmm, rfl, hx⟩
  · exact ⟨[], ⟨none, 0, rfl, Nat.le_refl _, ⟨rfl, by simp, fun h => absurd h (by simp)⟩⟩, by simp [maxLen], by simp, by simp⟩
  · have hlm : len ≤ m := by subst hmm; split <;> omega
    have key : ∀ i, i < len → ∃ y : α, (∃ cs', w.cells? base (a.add (i * P.cellsOf e)) (P.cellsOf e) = some cs' ∧ d.K w y cs') ∧ Wf y := by
      intro i hi
      obtain ⟨cs', h1, h2⟩ := hx i (by omega)
      obtain ⟨y, hK, hW⟩ := ho.go h2 (fun q hq => hz q (by
        simp only [DataW.weights, hu, List.mem_cons, List.mem_append]
        exact Or.inr (Or.inl (weights_elem (d := D i) (List.mem_map.2 ⟨i, List.mem_range.2 hi, rfl⟩) q hq))))
      exact ⟨y, ⟨cs', h1, hK⟩, hW⟩
    have key2 : ∃ ys : List α, ys.length = len ∧ ∀ i y, ys[i]? = some y → (∃ cs', w.cells? base (a.add (i * P.cellsOf e)) (P.cellsOf e) = some cs' ∧ d.K w y cs') ∧ Wf y := by
      clear hx hz h
      have : ∀ k, k ≤ len → ∃ ys : List α, ys.length = k ∧ ∀ i y, ys[i]? = some y → (∃ cs', w.cells? base (a.add (i * P.cellsOf e)) (P.cellsOf e) = some cs' ∧ d.K w y cs') ∧ Wf y := by
        intro k
        induction k with
        | zero => intro _; exact ⟨[], rfl, fun i y h => by simp at h⟩
        | succ k ih =>
          intro hk
          obtain ⟨ys, hys, hy⟩ := ih (by omega)
          obtain ⟨y, h1, h2⟩ := key k (by omega)
          refine ⟨ys ++ [y], by simp [hys], fun i z hz => ?_⟩
          rcases Nat.lt_or_ge i ys.length with hi | hi
          · rw [List.getElem?_append_left hi] at hz
            exact hy i z hz
          · have hi' : i = ys.length := by
              have := (List.getElem?_eq_some_iff.1 hz).1
              rw [List.length_append, List.length_singleton] at this
              omega
            subst hi'
            rw [List.getElem?_append_right (Nat.le_refl _)] at hz
            simp at hz
            subst hz
            rw [hys]
            exact ⟨h1, h2⟩
      exact this len (Nat.le_refl _)
    obtain ⟨ys, rfl, hy⟩ := key2
    have hw0 := hz ((((List.range ys.length).map D).length + ((List.range (m - ys.length)).map fun j => D (ys.length + j)).length) * P.bytesOf e) (by simp [DataW.weights, hu])
    simp only [List.length_map, List.length_range] at hw0
    rw [hB] at hw0
    have hle : ys.length * B ≤ 140737488351232 := Nat.le_trans (Nat.mul_le_mul_right _ (by omega)) hw0
    refine ⟨ys, ⟨some a, cap, rfl, hl, rfl, Nat.le_trans hl (Nat.le_trans hm (by decide)), fun _ => ⟨a, rfl, fun j p hj => ?_⟩⟩, Nat.le_trans hl hm, hle, fun x hx => ?_⟩
    · obtain ⟨⟨cs', h1, hK⟩, _⟩ := hy j p hj
      refine ⟨cs', d.K_len hK, hK, fun i u hu => ?_⟩
      obtain ⟨_, hlen, hcell⟩ := World.cells?_some h1
      have hi : i < P.cellsOf e := by rw [← hlen]; exact (List.getElem?_eq_some_iff.1 hu).1
      have := hcell i hi
      rw [hu, Go.Deep.add_add, ho.cells] at this
      exact this
    · obtain ⟨i, hi⟩ := List.getElem?_of_mem hx
      exact (hy i x hi).2

/-- From field i on, whose cells begin at 'off'. -/
def OpensF {α : Type} (P : Program) (fs : Array Field) (i off : Nat) (d : Kd α) (Wf : α → Prop) : Prop :=
  ∀ {H : Type} {enc : TypeId × Value → H} {w : World} {base : Nat} {spare : Nat → Bool} {held : Bool} {n : Nat} {cs : List Value} {xs : List (DataW H × List MemPlace)}, xs.length = fs.size → cs.length = off + d.sz →
    (∀ (j : Nat) (f : Field), fs[j]? = some f → DataW.trod enc P w base spare held n f.type ((cs.drop f.offset).take (P.cellsOf f.type)) = xs[j]?) →
    (∀ q ∈ DataW.weightsEach P (fs.toList.map (·.type)) (xs.map (·.1)), q ≤ reachBytes) → ∃ y : α, d.K w y (cs.drop off) ∧ Wf y

theorem OpensF.field {α : Type} {P : Program} {fs : Array Field} {i off : Nat} {d : Kd α} {Wf : α → Prop} {f : Field} (hf : fs[i]? = some f) (hoff : f.offset = off) (ho : Opens P f.type d Wf)
    {H : Type} {enc : TypeId × Value → H} {w : World} {base : Nat} {spare : Nat → Bool} {held : Bool} {n : Nat} {cs : List Value} {xs : List (DataW H × List MemPlace)} (hl : xs.length = fs.size)
    (ht : ∀ (j : Nat) (f : Field), fs[j]? = some f → DataW.trod enc P w base spare held n f.type ((cs.drop f.offset).take (P.cellsOf f.type)) = xs[j]?)
    (hz : ∀ q ∈ DataW.weightsEach P (fs.toList.map (·.type)) (xs.map (·.1)), q ≤ reachBytes) : ∃ y : α, d.K w y ((cs.drop off).take d.sz) ∧ Wf y := by
  have hi : i < xs.length := by rw [hl]; exact (Array.getElem?_eq_some_iff.1 hf).1
  have h := ht i f hf
  rw [List.getElem?_eq_getElem hi, hoff, ho.cells] at h
  refine ho.go h (fun q hq => hz q (DataW.weights_mem_each (j := i) (t := f.type) (d := xs[i].1) ?_ ?_ q hq))
  · rw [List.getElem?_map]; simp [Array.getElem?_toList, hf]
  · rw [List.getElem?_map, List.getElem?_eq_getElem hi]; rfl

theorem OpensF.last {α : Type} {P : Program} {fs : Array Field} {i off : Nat} {d : Kd α} {Wf : α → Prop} {f : Field} {t : TypeId} (ho : Opens P t d Wf) (hf : fs[i]? = some f) (hoff : f.offset = off) (htt : f.type = t) : OpensF P fs i off d Wf := by
  subst htt
  intro H enc w base spare held n cs xs hl hcs ht hz
  obtain ⟨y, hK, hW⟩ := OpensF.field hf hoff ho hl ht hz
  rw [List.take_of_length_le (by rw [List.length_drop]; omega)] at hK
  exact ⟨y, hK, hW⟩

theorem OpensF.cons {α β : Type} {P : Program} {fs : Array Field} {i off : Nat} {a : Kd α} {b : Kd β} {Wa : α → Prop} {Wb : β → Prop} {f : Field} {t : TypeId} (ho : Opens P t a Wa) (hf : fs[i]? = some f) (hoff : f.offset = off) (htt : f.type = t) (hr : OpensF P fs (i + 1) (off + a.sz) b Wb) :
    OpensF P fs i off (Kd.pair a b) (fun y => Wa y.1 ∧ Wb y.2) := by
  subst htt
  intro H enc w base spare held n cs xs hl hcs ht hz
  obtain ⟨y, hK, hW⟩ := OpensF.field hf hoff ho hl ht hz
  obtain ⟨z, hK2, hW2⟩ := hr hl (by simp only [Kd.pair] at hcs; omega) ht hz
  refine ⟨(y, z), ⟨_, _, ?_, hK, hK2⟩, hW, hW2⟩
  rw [← List.drop_drop, List.take_append_drop]

theorem Opens.struct {α : Type} {P : Program} {t : TypeId} {fs : Array Field} {d : Kd α} {Wf : α → Prop} (hu : P.underlying t = some (.struct fs)) (hc : P.cellsOf t = d.sz) (ho : OpensF P fs 0 0 d Wf) : Opens P t d Wf := by
  refine ⟨hc, fun h hz => ?_⟩
  obtain ⟨xs, n, rfl, rfl, hl, hx, hf⟩ := DataW.trod_struct hu h
  obtain ⟨y, hK, hW⟩ := ho hx (by rw [hl, hc]; omega) hf (fun q hq => hz q (by simpa [DataW.weights, hu] using hq))
  exact ⟨y, by simpa using hK, hW⟩

theorem Opens.iso {α β : Type} {P : Program} {t : TypeId} {d : Kd α} {Wf : α → Prop} (f : β → α) (g : α → β) (hfg : ∀ y, f (g y) = y) (h : Opens P t d Wf) : Opens P t (Kd.iso d f) (fun x => Wf (f x)) := by
  refine ⟨h.cells, fun h1 hz => ?_⟩
  obtain ⟨y, hK, hW⟩ := h.go h1 hz
  exact ⟨g y, by show d.K _ (f (g y)) _; rw [hfg]; exact hK, by show Wf (f (g y)); rw [hfg]; exact hW⟩

theorem Opens.mono {α : Type} {P : Program} {t : TypeId} {d : Kd α} {Wf Wf' : α → Prop} (h : Opens P t d Wf) (hi : ∀ y, Wf y → Wf' y) : Opens P t d Wf' :=
  ⟨h.cells, fun h1 hz => let ⟨y, hK, hW⟩ := h.go h1 hz; ⟨y, hK, hi y hW⟩⟩

/-- The same at a row's argument. -/
theorem Opens.arg {α : Type} {P : Program} {t : TypeId} {d : Kd α} {Wf : α → Prop} (ho : Opens P t d Wf) {H : Type} {enc : TypeId × Value → H} {W : World} {base : Nat} {spare : Nat → Bool} {held : Bool} {v : Value} {dt : DataW H} {ps : List MemPlace}
    {ts : List TypeId} {ds : List (DataW H)} {j : Nat} (hsz : (DataW.weightsEach P ts ds).all (· ≤ reachBytes) = true) (ht : ts[j]? = some t) (hd : ds[j]? = some dt) (h : DataW.Trod enc P W base spare held t v dt ps) :
    ∃ y : α, d.K W y v.cells.toList ∧ Wf y := by
  obtain ⟨fuel, hf⟩ := h
  exact ho.go hf (fun n hn => by simpa using List.all_eq_true.1 hsz n (DataW.weights_mem_each ht hd n hn))

section
open Go.Proofs.YtgahpdoiddhdaaaW.PrintLast
variable {P : Program} {ops : Array Oper} {Q : Exit → Act → World → Prop}
/-- A call through a value whose function is known, as one step of a region that draws. -/
theorem goesv_ {oi : Oper} {N : Option Tmp} {a : Act} {w : World} {K : Act → World → Prop} {f : FuncId} {fn : Func} {c : Operand} {as : Array Operand} {ts : Array TypeId} (hf : P.funcs[f]? = some fn) (hname : (fn.name == "runtime.NumGoroutine") = false) (hb : fn.body.isSome = true) (args : Array Value)
    (hw : Region.wanted oi (yielded ops a.tmps) = true) (hN : oi.dst = N) (hop : oi.op = .call { callee := .value c, args := as, argTypes := ts }) (hc : a.eval c = .func (.func f) #[] #[]) (hargs : as.map a.eval = args)
    (h : Calls P f args w fun e w' => ∃ v, e = .returned v ∧ K (a.put N v) w') : if Region.wanted oi (yielded ops a.tmps) = true then Oper.wp P oi a w K Q else K (a.put N undef) w := by
  refine call_ f args hw hN ?_ h
  have he := enters_ hf hname hb args w
  unfold execOp
  simp [hop, resolve, Deferred.ofValue, invoke, hc, hargs, he]
/-- The same in a plain region. -/
theorem goesLv_ {rest : List Oper} {oi : Oper} {a : Act} {w : World} (N : Option Tmp) (hd : oi.dst = N) (hg : oi.guard = none) {f : FuncId} {fn : Func} {c : Operand} {as : Array Operand} {ts : Array TypeId} (hf : P.funcs[f]? = some fn) (hname : (fn.name == "runtime.NumGoroutine") = false) (hb : fn.body.isSome = true) (args : Array Value)
    (hop : oi.op = .call { callee := .value c, args := as, argTypes := ts }) (hc : a.eval c = .func (.func f) #[] #[]) (hargs : as.map a.eval = args)
    (h : Calls P f args w fun e w' => ∃ v, e = .returned v ∧ wpList P ops Q rest (a.put N v) w') : wpList P ops Q (oi :: rest) a w := by
  refine wpList_plain hg fun K hK => ?_
  have he := enters_ hf hname hb args w
  have hrun : (execOp a.eval oi).run P w = .ok (.enter f args) w := by
    unfold execOp
    simp [hop, resolve, Deferred.ofValue, invoke, hc, hargs, he]
  unfold Oper.wp
  rw [hrun, Oper.upon_enter]
  refine h.mono fun e w'' hh => ?_
  obtain ⟨v, rfl, hk⟩ := hh
  subst hd
  exact hK _ _ hk
/-- A long region's operations, put in line. -/
theorem gate_append {l1 l2 : List Oper} {a : Act} {W : World} (h : wpList P (l1 ++ l2).toArray Q (l1 ++ l2) a W) : wpList P (l1.append l2).toArray Q (l1.append l2) a W := h
/-- The operation calls through this slot. -/
theorem gate_calleev {rest : List Oper} {o : Oper} {a : Act} {W : World} {t : Tmp} {as : Array Operand} {ts : Array TypeId} (_ho : o.op = .call { callee := .value (.tmp t), args := as, argTypes := ts }) (h : wpList P ops Q (o :: rest) a W) : wpList P ops Q (o :: rest) a W := h
end

end Go.Proofs.Ytgahpdoiddhdaaa.HOpen
