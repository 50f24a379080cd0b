/- WRITTEN BY wip/hyb.py, a program of this workplace (out of the kit's printer and this workplace's own contracts). -/
import Derived.Test.YtepbhlngcaiklaaGSpanx0
import Derived.Test.YtepbhlngcaiklaaGSpanx1
import Derived.Test.YtepbhlngcaiklaaGSpanx4
namespace Go.Proofs.Ytepbhlngcaiklaa.HSpan
open Go.RowKit Go.Proofs.YtepbhlngcaiklaaW.PrintWords Go.Proofs.YtepbhlngcaiklaaW.PrintLast Go.Proofs.YtepbhlngcaiklaaW.PrintMore
attribute [local go_sem] max2_int min2_int max_two min_two max_three min_three max_four min_four   -- for this text's walks alone
set_option linter.unusedVariables false
set_option linter.unusedSimpArgs false

attribute [local go_sem high] eqA28
section
open Go Go.Shelf Go.Proofs.Ytepbhlngcaiklaa.Seq Go.Proofs.YtepbhlngcaiklaaW.PrintLast
attribute [local go_sem] Oper.semAt_some max2_int min2_int max_two min_two
theorem strOfNums_bytesOf (s : ByteArray) : strOfNums (bytesOf s) = s := by
 unfold strOfNums bytesOf
 cases s with
 | mk d =>
  simp only [ByteArray.mk.injEq, List.map_map]
  have : ((fun n : Int => UInt8.ofNat n.toNat) ∘ fun b : UInt8 => (b.toNat : Int)) = id := by funext b; simp
  rw [this, List.map_id]
theorem over_data (s p : ByteArray) (f t : Nat) : (((s.extract 0 f) ++ p) ++ (s.extract t s.size)).data.toList = s.data.toList.take f ++ p.data.toList ++ s.data.toList.drop t := by
 rw [ByteArray.data_append, ByteArray.data_append, ByteArray.data_extract, ByteArray.data_extract, Array.toList_append, Array.toList_append, Array.toList_extract, Array.toList_extract, List.extract_eq_take_drop, List.extract_eq_take_drop]
 rw [List.drop_zero, Nat.sub_zero, List.take_of_length_le (l := List.drop t s.data.toList) (by rw [List.length_drop, data_length]; omega)]
theorem over_reads (W : World) (s p : ByteArray) (f t : Nat) (hft : f ≤ t) (ht : t ≤ s.size) (hp : p.size = t - f) (hs : s.size ≤ 9223372036854775807) :
  ReadsInt ((Lib.bytesWorld W 5 s).setCells W.heap.size f (p.data.toList.map fun x => Value.int .u8 (x.toNat : Int))) .u8 (some ⟨W.heap.size, 0, none⟩) s.size (bytesOf (((s.extract 0 f) ++ p) ++ (s.extract t s.size))) := by
 have hsl : s.data.toList.length = s.size := data_length s
 have hpl : p.data.toList.length = p.size := data_length p
 have hlen : (s.data.toList.take f ++ p.data.toList ++ s.data.toList.drop t).length = s.size := by simp only [List.length_append, List.length_take, List.length_drop]; omega
 have hb : bytesOf (((s.extract 0 f) ++ p) ++ (s.extract t s.size)) = (s.data.toList.take f ++ p.data.toList ++ s.data.toList.drop t).map fun b => (b.toNat : Int) := by
  unfold bytesOf; rw [over_data]
 refine ⟨by rw [hb, List.length_map, hlen], hs, fun _ => ⟨_, rfl, fun j hj => ?_⟩⟩
 rw [add_plain, hb]
 have hml : (p.data.toList.map fun x => Value.int .u8 (x.toNat : Int)).length = t - f := by rw [List.length_map, hpl, hp]
 by_cases h1 : f ≤ j ∧ j < t
 ·obtain ⟨i, rfl⟩ : ∃ i, j = f + i := ⟨j - f, by omega⟩
  have hin := World.cell?_setCells_in W.heap.size (p.data.toList.map fun x => Value.int .u8 (x.toNat : Int)) f (Lib.bytesWorld W 5 s) (fun k hk => by rw [Lib.bytesWorld_cell W 5 s (f + k) (by omega)]; rfl) i (by omega)
  rw [hin]
  have : i < p.data.toList.length := by omega
  simp only [List.getElem_map, List.getD, List.getElem?_map]
  rw [List.append_assoc, List.getElem?_append_right (by rw [List.length_take]; omega), List.length_take, show f + i - min f s.data.toList.length = i by omega, List.getElem?_append_left this, List.getElem?_eq_getElem this]
  rfl
 ·rw [World.cell?_setCells_out W.heap.size _ f _ ⟨W.heap.size, j, none⟩ (fun _ _ => by simp only []; omega), Lib.bytesWorld_cell W 5 s j hj]
  simp only [List.getD, List.getElem?_map]
  by_cases h2 : j < f
  ·rw [List.append_assoc, List.getElem?_append_left (by rw [List.length_take]; omega), List.getElem?_take_of_lt h2, List.getElem?_eq_getElem (by omega)]
   simp
  ·rw [List.getElem?_append_right (by rw [List.length_append, List.length_take]; omega), List.getElem?_drop, List.length_append, List.length_take, show t + (j - (min f s.data.toList.length + p.data.toList.length)) = j by omega, List.getElem?_eq_getElem (by omega)]
   simp
def overS (a0 : ByteArray) (f t : Int) (p : ByteArray) : ByteArray := ((a0.extract 0 (f : Int).toNat) ++ p) ++ (a0.extract (t : Int).toNat a0.size)
def span_Over.f (a0 : ByteArray) (a1_0 a1_1 a1_2 : Int) (a2 : ByteArray) : Option (ByteArray × Int) := (span_fits.f a1_0 a1_1 a1_2 (a0.size : Int) a2).bind fun t => if t = true then (if a0.size ≤ 140737488355328 then some (overS a0 a1_1 a1_2 a2, 0) else none) else some ((⟨#[]⟩ : ByteArray), 2)
theorem fits_true {a0 a1 a2 n : Int} {p : ByteArray} (h : span_fits.f a0 a1 a2 n p = some true) : 0 ≤ a1 ∧ a1 ≤ a2 ∧ a2 ≤ n ∧ (p.size : Int) = wrap64 (a2 - a1) := by
 unfold span_fits.f at h
 split at h <;> try (cases h)
 split at h <;> try (cases h)
 split at h <;> try (cases h)
 rename_i h1 h2 h3
 have h4 : (p.size : Int) = wrap64 (a2 - a1) := by simpa using h
 exact ⟨h1, h2, h3, h4⟩
set_option maxRecDepth 100000 in
set_option maxHeartbeats 2000000 in
theorem span_Over.calls (a0 : ByteArray) (a1_0 a1_1 a1_2 : Int) (a2 : ByteArray) (r1 : ByteArray) (r2 : Int) (w : World) (h : span_Over.f a0 a1_0 a1_1 a1_2 a2 = some (r1, r2)) :
  Calls Try.prog 17 #[.string a0, .agg #[.int .i64 a1_0, .int .i64 a1_1, .int .i64 a1_2], .string a2] w fun e w' => e = .returned (.tuple #[.string r1, .int .i64 r2]) ∧ Below w.heap.size w w' := by
 unfold span_Over.f at h
 obtain ⟨t, ht, h⟩ := Option.bind_eq_some_iff.mp h
 have hR := fun W => span_fits.calls a1_0 a1_1 a1_2 (a0.size : Int) a2 t W ht
 refine (callsIn_wide (n := 4)).1 ?_
 refine callsIn_of_wp_marks Try.func17 rfl trivial ?_ rfl
 simp only [Try.ntmps17, List.size_toArray, List.length_cons, List.length_nil, Nat.reduceAdd, Nat.reduceSub, Array.replicate_succ, Array.replicate_zero, List.push_toArray, List.append_toArray, List.nil_append, List.cons_append]
 have hBw : ∀ W', Below (w.alloc (.cells #[.int .i64 a1_0, .int .i64 a1_1, .int .i64 a1_2] 43)).heap.size (w.alloc (.cells #[.int .i64 a1_0, .int .i64 a1_1, .int .i64 a1_2] 43)) W' → Below w.heap.size w W' := fun W' h => ((Below.refl _ w).alloc (Nat.le_refl _) _).trans (h.mono (by simp))
 have hX : ∀ W', Below (w.alloc (.cells #[.int .i64 a1_0, .int .i64 a1_1, .int .i64 a1_2] 43)).heap.size (w.alloc (.cells #[.int .i64 a1_0, .int .i64 a1_1, .int .i64 a1_2] 43)) W' → w.heap.size < W'.heap.size ∧ (Lib.bytesWorld W' 5 a0).cell? ⟨w.heap.size, 1, none⟩ = some (.int .i64 a1_1) ∧ (Lib.bytesWorld W' 5 a0).cell? ⟨w.heap.size, 2, none⟩ = some (.int .i64 a1_2) := by
  intro W' h
  have hx : W'.heap[w.heap.size]? = some (.cells #[.int .i64 a1_0, .int .i64 a1_1, .int .i64 a1_2] 43) := (h.block _ (by simp)).trans (World.alloc_heap_new _ _)
  have hs : w.heap.size < W'.heap.size := by have := h.size; simp at this; omega
  exact ⟨hs, (Lib.bytesWorld_old W' 5 a0 ⟨w.heap.size, 1, none⟩ hs).trans (by simp [World.cell?, hx]), (Lib.bytesWorld_old W' 5 a0 ⟨w.heap.size, 2, none⟩ hs).trans (by simp [World.cell?, hx])⟩
 cases t with
 | false =>
  rw [if_neg (by simp)] at h
  cases h
  gi_wp2_with (refine ⟨trivial, ?_⟩; gi_at_call 27; refine (callsIn_wide.2 (hR _)).mono ?_; rintro e w' ⟨rfl, hb⟩)
  exact ⟨_, results_tmp2 rfl _ _ _, rfl, hBw _ hb⟩
 | true =>
  rw [if_pos rfl] at h
  by_cases hsz : a0.size ≤ 140737488355328
  case neg => rw [if_neg hsz] at h; cases h
  rw [if_pos hsz] at h
  obtain ⟨q1, q2, q3, q4⟩ := fits_true ht
  cases h
  have kb := fun W => print_bytes (P := Try.prog) 9 55 5 Try.underlying9 Try.underlying55 Try.underlying5 a0 W
  have q5 : wrap64 (a1_2 - a1_1) = a1_2 - a1_1 := by unfold wrap64; omega
  rw [q5] at q4
  clear q5
  have hC : ∀ W' : World, (Builtin.copy_ #[55, 9] 3 #[.slice (some ⟨W'.heap.size, a1_1.toNat, none⟩) (a1_2.toNat - a1_1.toNat) (grownCap W' a0.size 0 5 - a1_1.toNat), .string a2]).run Try.prog (Lib.bytesWorld W' 5 a0) =
     .ok (goInt a2.size) ((Lib.bytesWorld W' 5 a0).setCells W'.heap.size a1_1.toNat (a2.data.toList.map fun x => Value.int .u8 (x.toNat : Int))) ∧
    (convert 55 9 (.slice (some ⟨W'.heap.size, 0, none⟩) a0.size (grownCap W' a0.size 0 5))).run Try.prog ((Lib.bytesWorld W' 5 a0).setCells W'.heap.size a1_1.toNat (a2.data.toList.map fun x => Value.int .u8 (x.toNat : Int))) =
     .ok (.string (overS a0 a1_1 a1_2 a2)) ((Lib.bytesWorld W' 5 a0).setCells W'.heap.size a1_1.toNat (a2.data.toList.map fun x => Value.int .u8 (x.toNat : Int))) ∧
    Below W'.heap.size W' ((Lib.bytesWorld W' 5 a0).setCells W'.heap.size a1_1.toNat (a2.data.toList.map fun x => Value.int .u8 (x.toNat : Int))) := by
   intro W'
   refine ⟨run_copy_string _ 55 9 3 5 W'.heap.size a1_1.toNat _ _ a2 Try.underlying55 (fun w => by kernel_rfl) (by omega) (fun j hj => by rw [Lib.bytesWorld_cell W' 5 a0 _ (by omega)]; rfl) (fun j hj => ?_), ?_, below_setCells (Nat.le_refl _) _ _ _ (bytes_below (Below.refl _ _) (Nat.le_refl _) 5 a0)⟩
   ·simp [World.frozen?, Lib.bytesWorld_at_new, Lib.bytesCells]
    have := grownCap_ge W' a0.size 0 5
    intro
    omega
   ·have h1 := string_of_reads (c := grownCap W' a0.size 0 5) Try.underlying55 Try.underlying5 Try.underlying9 (over_reads W' a0 a2 a1_1.toNat a1_2.toNat (by omega) (by omega) (by omega) (by omega))
    rw [strOfNums_bytesOf] at h1
    exact h1
  by_cases he : a2.size = 0
  ·have hC0 : ∀ (W' : World) (d : Option Addr) (l c : Nat), (Builtin.copy_ #[55, 9] 3 #[.slice d l c, .string a2]).run Try.prog (Lib.bytesWorld W' 5 a0) = .ok (goInt a2.size) ((Lib.bytesWorld W' 5 a0).setCells W'.heap.size a1_1.toNat (a2.data.toList.map fun x => Value.int .u8 (x.toNat : Int))) := by
    intro W' d l c
    rw [Lib.run_copy_empty_string (Lib.bytesWorld W' 5 a0) 55 9 3 5 d l c a2 Try.underlying55 (by kernel_rfl) he, he]
    have : a2.data.toList = [] := List.length_eq_zero_iff.1 (by rw [data_length]; exact he)
    rw [this]
    rfl
   gi_wp2_with (refine ⟨trivial, ?_⟩; gi_at_call 27; refine (callsIn_wide.2 (hR _)).mono ?_; rintro e w' ⟨rfl, hb⟩; obtain ⟨hsz', hc1, hc2⟩ := hX _ hb; have hcap := grownCap_ge w' a0.size 0 5; obtain ⟨hcopy, hconv, hbelow⟩ := hC w'; have hcopy0 := hC0 w')
   all_goals exact ⟨_, results_tmp2 rfl _ _ _, rfl, (hBw _ hb).trans (hbelow.mono (by have := hb.size; simp at this; omega))⟩
  ·have he2 : a1_1.toNat < a0.size := by omega
   gi_wp2_with (refine ⟨trivial, ?_⟩; gi_at_call 27; refine (callsIn_wide.2 (hR _)).mono ?_; rintro e w' ⟨rfl, hb⟩; obtain ⟨hsz', hc1, hc2⟩ := hX _ hb; have hcap := grownCap_ge w' a0.size 0 5; obtain ⟨hcopy, hconv, hbelow⟩ := hC w')
   all_goals exact ⟨_, results_tmp2 rfl _ _ _, rfl, (hBw _ hb).trans (hbelow.mono (by have := hb.size; simp at this; omega))⟩
end

def caulkref19_SameRanges.l0 : Nat → List (S28) → List (S28) → Int → Int → Option (Bool)
 | 0, _, _, _, _ => none
 | k + 1, x0, x1, x12, x13 => if x13 < x12 then (if 0 ≤ x13 then (if x13 < (x0.length : Int) then (if x13 < (x1.length : Int) then (if (!(((rd_T28 x0 x13).f0) == ((rd_T28 x1 x13).f0)) || (!(((rd_T28 x0 x13).f1) == ((rd_T28 x1 x13).f1)))) = true then (some false) else (caulkref19_SameRanges.l0 k x0 x1 x12 (wrap64 (x13 + 1)))) else (none)) else (none)) else (none)) else (some true)
def caulkref19_SameRanges.f (k : Nat) (l0 : List (S28)) (l1 : List (S28)) : Option (Bool) := if (l0.length : Int) = (l1.length : Int) then (caulkref19_SameRanges.l0 k l0 l1 (l0.length : Int) 0) else (some false)
theorem caulkref19_SameRanges.mono_l : ∀ k, (∀ y0 y1 y2 y3, LeO (caulkref19_SameRanges.l0 k y0 y1 y2 y3) (caulkref19_SameRanges.l0 (k + 1) y0 y1 y2 y3))
 | 0 => fun _ _ _ _ r h => by simp [caulkref19_SameRanges.l0] at h
 | k + 1 => by
  have ih0 := caulkref19_SameRanges.mono_l k
  ·intro y0 y1 y2 y3
   unfold caulkref19_SameRanges.l0
   repeat' first
   | (with_reducible exact ih0 _ _ _ _)
   | (with_reducible exact LeO.refl _)
   | (with_reducible exact LeO.none _)
   | (with_reducible refine LeO.ite ?_ ?_)
   | (with_reducible refine LeO.bind ?_ (fun _ => ?_))
   | exact ih0 _ _ _ _
   | exact LeO.none _
   | refine LeO.ite ?_ ?_
   | refine LeO.bind ?_ (fun _ => ?_)
theorem caulkref19_SameRanges.mono : ∀ a0 a1 k, LeO (caulkref19_SameRanges.f k a0 a1) (caulkref19_SameRanges.f (k + 1) a0 a1) := by
 intro a0 a1 k
 have ih0 := caulkref19_SameRanges.mono_l k
 unfold caulkref19_SameRanges.f
 repeat' first
   | (with_reducible exact ih0 _ _ _ _)
   | (with_reducible exact LeO.refl _)
   | (with_reducible exact LeO.none _)
   | (with_reducible refine LeO.ite ?_ ?_)
   | (with_reducible refine LeO.bind ?_ (fun _ => ?_))
   | exact ih0 _ _ _ _
   | exact LeO.none _
   | refine LeO.ite ?_ ?_
   | refine LeO.bind ?_ (fun _ => ?_)
set_option maxHeartbeats 8000000 in
set_option maxRecDepth 100000 in
theorem caulkref19_SameRanges.calls (k : Nat) (A0 : Option Addr) (c0 : Nat) (l0 : List (S28)) (A1 : Option Addr) (c1 : Nat) (l1 : List (S28)) (r : Bool) (w : World) (hr0 : Kd.C k28 w A0 l0.length l0) (hc0 : l0.length ≤ c0) (hr1 : Kd.C k28 w A1 l1.length l1) (hc1 : l1.length ≤ c1) (h : caulkref19_SameRanges.f k l0 l1 = some r) :
  Calls Try.prog 19 #[.slice A0 l0.length c0, .slice A1 l1.length c1] w fun e w' => e = .returned (.bool r) ∧ Drawn0 w w' := by
 have hu28 := Try.underlying28
 have HR0 := Aside0.mk hr0
 have HC0 := Aside0.mk hc0
 clear hr0 hc0
 have HR1 := Aside0.mk hr1
 have HC1 := Aside0.mk hc1
 clear hr1 hc1
 have H : (if (l0.length : Int) = (l1.length : Int) then (caulkref19_SameRanges.l0 k l0 l1 (l0.length : Int) 0) else (some false)) = some r := h
 clear h
 by_cases c3 : (l0.length : Int) = (l1.length : Int)
 ·rw [if_pos c3] at H
  have c3b0 : ((l0.length : Int) == (l1.length : Int)) = true := beq_iff_eq.mpr c3
  have c3b1 : ((l0.length : Int) != (l1.length : Int)) = false := bne_eq_false_iff_eq.mpr c3
  have c3b2 : (l0.length == l1.length) = true := by first | simpa using c3 | (simp at c3 ⊢; omega)
  clear c3
  have H' := Aside0.mk H
  clear H
  go_enter Try.func19, Try.ntmps19
  go_wp2
  repeat (go_quiet (fail); try go_wp2)
  go_loopg [13] k (fun kq v13 w' => ∃ (x13_1 : Int), v13 = .int .i64 x13_1 ∧ Aside0 (caulkref19_SameRanges.l0 kq l0 l1 (l0.length : Int) x13_1 = some r) ∧ Aside0 (kq ≤ k) ∧ Drawn0 w w')
  case atStart => exact ⟨(0), (by first | rfl | (simp; done) | (simp [*]; done)), H', ⟨Nat.le_refl _⟩, by repeat (first | exact Drawn0.refl _ | apply Drawn0.step)⟩
  case round =>
   clear H'
   try clear c1
   try clear p2
   try clear c3
   try clear c3b0
   try clear c3b1
   try clear c3b2
   obtain ⟨x13_1, rfl, HA, HK1, ⟨m1, rfl⟩⟩ := hrel
   cases gk with
   | zero => exact absurd HA.out (by simp [caulkref19_SameRanges.l0])
   | succ k1 =>
    have H := HA.out
    clear HA
    simp only [caulkref19_SameRanges.l0] at H
    by_cases c4 : x13_1 < (l0.length : Int)
    ·rw [if_pos c4] at H
     have c4b0 : decide (x13_1 < (l0.length : Int)) = true := decide_eq_true c4
     clear c4
     by_cases c5 : 0 ≤ x13_1
     ·rw [if_pos c5] at H
      have c5b0 : decide (0 ≤ x13_1) = true := decide_eq_true c5
      clear c5
      by_cases c6 : x13_1 < (l0.length : Int)
      ·rw [if_pos c6] at H
       have c6b0 : decide (x13_1 < (l0.length : Int)) = true := decide_eq_true c6
       clear c6
       by_cases c7 : x13_1 < (l1.length : Int)
       ·rw [if_pos c7] at H
        have c7b0 : decide (x13_1 < (l1.length : Int)) = true := decide_eq_true c7
        clear c7
        by_cases c8 : (!(((rd_T28 l0 x13_1).f0) == ((rd_T28 l1 x13_1).f0)) || (!(((rd_T28 l0 x13_1).f1) == ((rd_T28 l1 x13_1).f1)))) = true
        ·rw [if_pos c8] at H
         have c8b0 : (!(((rd_T28 l0 x13_1).f0) == ((rd_T28 l1 x13_1).f0)) || (!(((rd_T28 l0 x13_1).f1) == ((rd_T28 l1 x13_1).f1)))) = true := c8
         clear c8
         obtain rfl := Option.some.inj H
         have p117 : 0 ≤ (x13_1 : Int) := of_decide_eq_true (by first | (with_reducible assumption) | assumption)
         have q117 : x13_1 < (l0.length : Int) := of_decide_eq_true (by first | (with_reducible assumption) | assumption)
         obtain ⟨ad117, e117, hx117_0, hx117_1⟩ := at_T28 HR0.out x13_1 p117 q117
         cases e117
         replace p117 := eq_true p117
         replace q117 := eq_true q117
         have p118 : 0 ≤ (x13_1 : Int) := of_decide_eq_true (by first | (with_reducible assumption) | assumption)
         have q118 : x13_1 < (l1.length : Int) := of_decide_eq_true (by first | (with_reducible assumption) | assumption)
         obtain ⟨ad118, e118, hx118_0, hx118_1⟩ := at_T28 HR1.out x13_1 p118 q118
         cases e118
         replace p118 := eq_true p118
         replace q118 := eq_true q118
         go_wp2
         repeat (go_quiet (fail); try go_wp2)
         go_ret
         exact ⟨by first | rfl | (simp; done) | (simp [*]; done), by repeat (first | exact Drawn0.refl _ | apply Drawn0.step)⟩
        ·rw [if_neg c8] at H
         have c8b0 : (!(((rd_T28 l0 x13_1).f0) == ((rd_T28 l1 x13_1).f0)) || (!(((rd_T28 l0 x13_1).f1) == ((rd_T28 l1 x13_1).f1)))) = false := by simpa using c8
         clear c8
         have H' := Aside0.mk H
         clear H
         have p117 : 0 ≤ (x13_1 : Int) := of_decide_eq_true (by first | (with_reducible assumption) | assumption)
         have q117 : x13_1 < (l0.length : Int) := of_decide_eq_true (by first | (with_reducible assumption) | assumption)
         obtain ⟨ad117, e117, hx117_0, hx117_1⟩ := at_T28 HR0.out x13_1 p117 q117
         cases e117
         replace p117 := eq_true p117
         replace q117 := eq_true q117
         have p118 : 0 ≤ (x13_1 : Int) := of_decide_eq_true (by first | (with_reducible assumption) | assumption)
         have q118 : x13_1 < (l1.length : Int) := of_decide_eq_true (by first | (with_reducible assumption) | assumption)
         obtain ⟨ad118, e118, hx118_0, hx118_1⟩ := at_T28 HR1.out x13_1 p118 q118
         cases e118
         replace p118 := eq_true p118
         replace q118 := eq_true q118
         go_wp2
         repeat (go_quiet (fail); try go_wp2)
         go_roundg k1
         case measure => have := HK1.out; omega
         case rel => exact ⟨(wrap64 (x13_1 + 1)), (by first | rfl | (simp; done) | (simp [*]; done)), H', ⟨by have := HK1.out; omega⟩, by repeat (first | exact Drawn0.refl _ | apply Drawn0.step)⟩
       ·rw [if_neg c7] at H
        exact absurd H (by simp)
      ·rw [if_neg c6] at H
       exact absurd H (by simp)
     ·rw [if_neg c5] at H
      exact absurd H (by simp)
    ·rw [if_neg c4] at H
     have c4b0 : decide (x13_1 < (l0.length : Int)) = false := decide_eq_false c4
     clear c4
     obtain rfl := Option.some.inj H
     go_wp2
     repeat (go_quiet (fail); try go_wp2)
     go_ret
     exact ⟨by first | rfl | (simp; done) | (simp [*]; done), by repeat (first | exact Drawn0.refl _ | apply Drawn0.step)⟩
 ·rw [if_neg c3] at H
  have c3b0 : ((l0.length : Int) == (l1.length : Int)) = false := beq_eq_false_iff_ne.mpr c3
  have c3b1 : ((l0.length : Int) != (l1.length : Int)) = true := bne_iff_ne.mpr c3
  have c3b2 : (l0.length == l1.length) = false := by first | simpa using c3 | (simp at c3 ⊢; omega)
  obtain rfl := Option.some.inj H
  go_enter Try.func19, Try.ntmps19
  go_wp2
  repeat (go_quiet (fail); try go_wp2)
  go_ret
  exact ⟨by first | rfl | (simp; done) | (simp [*]; done), by repeat (first | exact Drawn0.refl _ | apply Drawn0.step)⟩

def slices_Clone_int_int.f (l0 : List Int) : Option (List Int) := if l0.length * 8 ≤ 140737488355328 then some l0 else none
theorem slices_Clone_int_int.calls (A0 : Option Addr) (c0 : Nat) (l0 : List Int) (r : List Int) (w : World) (hr0 : Kd.C (Kd.int .i64) w A0 l0.length l0) (hc0 : l0.length ≤ c0) (h : slices_Clone_int_int.f l0 = some r) :
  Calls Try.prog 29 #[.slice A0 l0.length c0] w fun e w' => ∃ v0_ : Value, e = .returned (v0_) ∧ Kd.R (Kd.int .i64) 3 w' w.heap.size (fun _ => True) v0_ r ∧ Below w.heap.size w w' := by
 unfold slices_Clone_int_int.f at h
 by_cases hlen : l0.length * 8 ≤ 140737488355328
 ·rw [if_pos hlen] at h
  obtain rfl := Option.some.inj h
  cases A0 with
  | none =>
   have : l0 = [] := by
    cases l0 with
    | nil => rfl
    | cons a b => obtain ⟨ad, e, _⟩ := hr0.2.2 (by simp); cases e
   subst this
   refine (Try.slices_Clone_int_nil _ c0 w).mono ?_
   rintro e w' ⟨rfl, rfl⟩
   exact ⟨_, rfl, Kd.R_nil _ _ _ _ _, Below.refl _ _⟩
  | some ad =>
   by_cases h0 : 0 < l0.length
   ·have hr := Kd.reads_of_C (d := (0 : Int)) hr0
    obtain ⟨ad', e, hc⟩ := hr.2.2 h0
    cases e
    obtain ⟨b, off, el⟩ := ad
    cases el with
    | some x =>
     exfalso
     have := hc 0 h0
     simp [Addr.add, World.cell?] at this
     split at this <;> simp at this
    | none =>
     refine (Try.slices_Clone_int b off l0.length c0 l0 w (Nat.le_refl _) hlen (fun j hj => ?_)).mono ?_
     ·have := hc j hj
      rwa [Addr.add_lit] at this
     ·rintro e w' ⟨v', rfl, hown, _, hb⟩
      rw [List.take_length] at hown
      exact ⟨v', rfl, Kd.R_of_own hown (fun _ _ => trivial), hb⟩
   ·have : l0 = [] := by cases l0 <;> simp_all
    subst this
    refine (Try.slices_Clone_int_zero ad c0 w).mono ?_
    rintro e w' ⟨v', rfl, hown, _, hb⟩
    exact ⟨v', rfl, Kd.R_of_own hown (fun _ _ => trivial), hb⟩
 ·rw [if_neg hlen] at h
  cases h

def insI (x : Int) : List Int → List Int
 | [] => [x]
 | y :: l => if x ≤ y then x :: y :: l else y :: insI x l
def sortI : List Int → List Int
 | [] => []
 | x :: l => insI x (sortI l)
theorem insI_perm (x : Int) : ∀ l, (insI x l).Perm (x :: l)
 | [] => List.Perm.refl _
 | y :: l => by
  unfold insI
  split
  ·exact List.Perm.refl _
  ·exact ((insI_perm x l).cons y).trans (List.Perm.swap x y l)
theorem sortI_perm : ∀ l : List Int, (sortI l).Perm l
 | [] => List.Perm.refl _
 | x :: l => (insI_perm x _).trans ((sortI_perm l).cons x)
theorem insI_sorted (x : Int) : ∀ l : List Int, l.Pairwise (· ≤ ·) → (insI x l).Pairwise (· ≤ ·)
 | [], _ => List.pairwise_singleton _ _
 | y :: l, h => by
  have h1 := List.pairwise_cons.1 h
  unfold insI
  split
  ·rename_i hxy
   exact List.pairwise_cons.2 ⟨fun z hz => by rcases List.mem_cons.1 hz with rfl | hz; exact hxy; exact Int.le_trans hxy (h1.1 z hz), h⟩
  ·rename_i hxy
   refine List.pairwise_cons.2 ⟨fun z hz => ?_, insI_sorted x l h1.2⟩
   rcases List.mem_cons.1 ((insI_perm x l).mem_iff.1 hz) with rfl | hz
   ·omega
   ·exact h1.1 z hz
theorem sortI_sorted : ∀ l : List Int, (sortI l).Pairwise (· ≤ ·)
 | [] => List.Pairwise.nil
 | x :: l => insI_sorted x _ (sortI_sorted l)
theorem sortI_merge (l : List Int) : (l.mergeSort fun x y => decide (x ≤ y)) = sortI l := by
 have h1 : (l.mergeSort fun x y => decide (x ≤ y)).Pairwise (· ≤ ·) := by
  have := List.pairwise_mergeSort (le := fun x y : Int => decide (x ≤ y)) (fun a b c h1 h2 => by simp at *; omega) (fun a b => by simp; omega) l
  exact this.imp (fun h => by simpa using h)
 exact List.Perm.eq_of_pairwise (fun a b _ _ h1 h2 => Int.le_antisymm h1 h2) h1 (sortI_sorted l) ((List.mergeSort_perm l _).trans (sortI_perm l).symm)
def slices_Sort_int_int.f (l0 : List Int) : Option (List Int) := if l0.length < 4611686018427387904 then some (sortI l0) else none
theorem slices_Sort_int_int.calls (P0_ : Nat → Prop) (u9000_ : Value) (l0 : List Int) (r : List Int) (w0 w : World) (hB : Below w0.heap.size w0 w) (ho0 : Kd.R (Kd.int .i64) 3 w w0.heap.size P0_ u9000_ l0) (h : slices_Sort_int_int.f l0 = some r) :
  Calls Try.prog 30 #[u9000_] w fun e w' => e = .returned (.tuple #[]) ∧ Kd.R (Kd.int .i64) 3 w' w0.heap.size (fun k_ => (P0_ k_ ∨ w.heap.size ≤ k_)) u9000_ r ∧ Below w0.heap.size w0 w' ∧ Kept w w' (fun k_ => P0_ k_) := by
 unfold slices_Sort_int_int.f at h
 by_cases hlen : l0.length < 4611686018427387904
 ·rw [if_pos hlen] at h
  have h' := Option.some.inj h
  rw [← sortI_merge] at h'
  subst h'
  by_cases h0 : 0 < l0.length
  ·have hown := Kd.own_of_R ho0
   obtain ⟨g, cap, rfl, hbase, hlt, cells, hblk⟩ := Kd.R_form ho0 h0
   obtain ⟨g', cap', hv, _, _, _, _, _, hH⟩ := Lib.holds_of_ownsRow (zs := l0) hown (by simp)
   simp only [Value.slice.injEq, Option.some.injEq, Addr.mk.injEq, and_true, true_and] at hv
   obtain ⟨rfl, rfl⟩ := hv
   refine (Try.slices_Sort_int g 0 cap l0 w hH hlt hlen).mono ?_
   rintro e w' ⟨rfl, n, os, rfl⟩
   have hl2 : (l0.mergeSort fun x y => decide (x ≤ y)).length = l0.length := List.length_mergeSort _
   have hg := grownBy_sortedI (w := w) (g := g) (n := n) (os := os) (l0.mergeSort fun x y => decide (x ≤ y)).toArray
   have hP : P0_ g := ho0.1 g rfl
   refine ⟨rfl, ?_, hB.grown hg (below_size hB) (fun k hk => by cases hk; exact hbase), ⟨hg.size, fun i hi hn => hg.block i hi (fun e => hn (by cases e; exact hP))⟩⟩
   rcases hown.2 with ⟨e0, _⟩ | ⟨g2, cap2, cur, e0, hb2, hg2, hn2, hm2, hs2, ht2⟩
   ·cases e0
   ·cases e0
    have h1 := ownsRow_sortedI (n := n) (os := os) hl2 hb2 hg2 hn2 hm2 hs2
    rw [← hl2] at h1 ⊢
    exact Kd.R_of_own h1 (fun k hk => by simp [Value.ownBlock] at hk; subst hk; exact Or.inl hP)
  ·have : l0 = [] := by cases l0 <;> simp_all
   subst this
   obtain ⟨A, c, rfl, _, _⟩ := Kd.R_reads ho0
   refine (Try.slices_Sort_int_none A c w).mono ?_
   rintro e w' ⟨rfl, rfl⟩
   refine ⟨rfl, ?_, hB, Kept.refl _ _⟩
   rw [List.mergeSort_nil]
   exact Kd.R_mono ho0 (fun k hk => Or.inl hk)
 ·rw [if_neg hlen] at h
  cases h

def slices_Compact_int_int.f (l0 : List Int) : Option (List Int) := some (Lib.compact l0)
theorem slices_Compact_int_int.calls (P0_ : Nat → Prop) (u9000_ : Value) (l0 : List Int) (r : List Int) (w0 w : World) (hB : Below w0.heap.size w0 w) (ho0 : Kd.R (Kd.int .i64) 3 w w0.heap.size P0_ u9000_ l0) (h : slices_Compact_int_int.f l0 = some r) :
  Calls Try.prog 31 #[u9000_] w fun e w' => ∃ v0_ : Value, e = .returned (v0_) ∧ Kd.R (Kd.int .i64) 3 w' w0.heap.size (fun k_ => (P0_ k_ ∨ w.heap.size ≤ k_)) v0_ r ∧ Below w0.heap.size w0 w' ∧ Kept w w' (fun k_ => P0_ k_) := by
 unfold slices_Compact_int_int.f at h
 obtain rfl := Option.some.inj h
 by_cases h0 : 0 < l0.length
 ·have hown := Kd.own_of_R ho0
  obtain ⟨g, cap, rfl, hbase, hlt, cells, hblk⟩ := Kd.R_form ho0 h0
  obtain ⟨g', cap', hv, _, _, hcl, hcm, _, hH⟩ := Lib.holds_of_ownsRow (zs := l0) hown (by simp)
  simp only [Value.slice.injEq, Option.some.injEq, Addr.mk.injEq, and_true, true_and] at hv
  obtain ⟨rfl, rfl⟩ := hv
  refine (Try.slices_Compact_int g 0 cap l0 w hH (Nat.le_trans hcl (Nat.le_trans hcm (by decide))) hcl).mono ?_
  rintro e w' ⟨rfl, q, rfl⟩
  have hcmp : (Lib.compact l0).length ≤ l0.length := Lib.compact_length_le l0
  have hP : P0_ g := ho0.1 g rfl
  have hl2 : (Lib.compact l0 ++ List.replicate (l0.length - (Lib.compact l0).length) 0).length = l0.length := by simp; omega
  have h1 := Lib.ownsRow_putRow (q := q) (k := (Lib.compact l0).length) hown hl2 hcmp
  rw [List.take_left] at h1
  refine ⟨_, rfl, Kd.R_of_own h1 (fun k hk => by simp [Value.ownBlock] at hk; subst hk; exact Or.inl hP), Lib.below_putRow hB hbase, ?_⟩
  refine ⟨by simp [Go.Sort.putRow, Go.Sort.mapBlock, Go.Sort.ahead], fun i hi hn => ?_⟩
  have hne : g ≠ i := fun e => hn (by rw [← e]; exact hP)
  simp [Go.Sort.putRow, Go.Sort.mapBlock, Go.Sort.ahead, Array.getElem?_modify, hne]
 ·have : l0 = [] := by cases l0 <;> simp_all
  subst this
  obtain ⟨A, c, rfl, _, _⟩ := Kd.R_reads ho0
  refine (Try.slices_Compact_int_empty A c w).mono ?_
  rintro e w' ⟨rfl, rfl⟩
  refine ⟨_, rfl, ?_, hB, Kept.refl _ _⟩
  have e0 : Lib.compact ([] : List Int) = [] := rfl
  rw [e0]
  exact Kd.R_mono ho0 (fun k hk => Or.inl hk)

def span_Merge.l0 : Nat → List (S28) → List Int → Int → Int → Option ((List (S28)))
 | 0, _, _, _, _ => none
 | k + 1, x4, x13, x14, x15 => if x15 < x14 then (if 0 ≤ x15 then (if x15 < (x13.length : Int) then (if (x4.length : Int) > 0 then (if 0 ≤ (wrap64 ((x4.length : Int) - 1)) then (if (wrap64 ((x4.length : Int) - 1)) < (x4.length : Int) then (if ((rd_T28 x4 (wrap64 ((x4.length : Int) - 1))).f1) = (rd x13 x15) then (span_Merge.l0 k (x4.set ((wrap64 ((x4.length : Int) - 1)) : Int).toNat (⟨(rd_T28 x4 (wrap64 ((x4.length : Int) - 1))).f0, wrap64 (((rd_T28 x4 (wrap64 ((x4.length : Int) - 1))).f1) + 1)⟩ : S28)) x13 x14 (wrap64 (x15 + 1))) else (if x4.length < 8796093022208 then (span_Merge.l0 k (x4 ++ [(⟨rd x13 x15, wrap64 ((rd x13 x15) + 1)⟩ : S28)]) x13 x14 (wrap64 (x15 + 1))) else (none))) else (none)) else (none)) else (if x4.length < 8796093022208 then (span_Merge.l0 k (x4 ++ [(⟨rd x13 x15, wrap64 ((rd x13 x15) + 1)⟩ : S28)]) x13 x14 (wrap64 (x15 + 1))) else (none))) else (none)) else (none)) else (some x4)
def span_Merge.f (k : Nat) (l0 : List Int) : Option ((List (S28))) := (slices_Clone_int_int.f l0).bind fun t119 => ((slices_Sort_int_int.f t119).bind fun t122 => ((slices_Compact_int_int.f t122).bind fun t123 => (span_Merge.l0 k ([] : List (S28)) t123 (t123.length : Int) 0)))
theorem span_Merge.mono_l : ∀ k, (∀ y0 y1 y2 y3, LeO (span_Merge.l0 k y0 y1 y2 y3) (span_Merge.l0 (k + 1) y0 y1 y2 y3))
 | 0 => fun _ _ _ _ r h => by simp [span_Merge.l0] at h
 | k + 1 => by
  have ih0 := span_Merge.mono_l k
  ·intro y0 y1 y2 y3
   unfold span_Merge.l0
   repeat' first
   | (with_reducible exact ih0 _ _ _ _)
   | (with_reducible exact LeO.refl _)
   | (with_reducible exact LeO.none _)
   | (with_reducible refine LeO.ite ?_ ?_)
   | (with_reducible refine LeO.bind ?_ (fun _ => ?_))
   | exact ih0 _ _ _ _
   | exact LeO.none _
   | refine LeO.ite ?_ ?_
   | refine LeO.bind ?_ (fun _ => ?_)
theorem span_Merge.mono : ∀ a0 k, LeO (span_Merge.f k a0) (span_Merge.f (k + 1) a0) := by
 intro a0 k
 have ih0 := span_Merge.mono_l k
 unfold span_Merge.f
 repeat' first
   | (with_reducible exact ih0 _ _ _ _)
   | (with_reducible exact LeO.refl _)
   | (with_reducible exact LeO.none _)
   | (with_reducible refine LeO.ite ?_ ?_)
   | (with_reducible refine LeO.bind ?_ (fun _ => ?_))
   | exact ih0 _ _ _ _
   | exact LeO.none _
   | refine LeO.ite ?_ ?_
   | refine LeO.bind ?_ (fun _ => ?_)
set_option maxHeartbeats 8000000 in
set_option maxRecDepth 100000 in
theorem span_Merge.calls (k : Nat) (A0 : Option Addr) (c0 : Nat) (l0 : List Int) (r : List (S28)) (w : World) (hr0 : Kd.C (Kd.int .i64) w A0 l0.length l0) (hc0 : l0.length ≤ c0) (h : span_Merge.f k l0 = some r) :
  Calls Try.prog 20 #[.slice A0 l0.length c0] w fun e w' => ∃ v0_ : Value, e = .returned (v0_) ∧ Kd.R k28 28 w' w.heap.size (fun _ => True) v0_ r ∧ Below w.heap.size w w' := by
 have hu28 := Try.underlying28
 have HR0 := Aside0.mk hr0
 have HC0 := Aside0.mk hc0
 clear hr0 hc0
 have HB := Aside0.mk (Below.refl w.heap.size w)
 have H : ((slices_Clone_int_int.f l0).bind fun t119 => ((slices_Sort_int_int.f t119).bind fun t122 => ((slices_Compact_int_int.f t122).bind fun t123 => (span_Merge.l0 k ([] : List (S28)) t123 (t123.length : Int) 0)))) = some r := h
 clear h
 replace H := Option.bind_eq_some_iff.mp H
 obtain ⟨t119, A20, H⟩ := H
 replace H : ((slices_Sort_int_int.f t119).bind fun t122 => ((slices_Compact_int_int.f t122).bind fun t123 => (span_Merge.l0 k ([] : List (S28)) t123 (t123.length : Int) 0))) = some r := H
 have A2 := Aside0.mk A20
 clear A20
 replace H := Option.bind_eq_some_iff.mp H
 obtain ⟨t122, A30, H⟩ := H
 replace H : ((slices_Compact_int_int.f t122).bind fun t123 => (span_Merge.l0 k ([] : List (S28)) t123 (t123.length : Int) 0)) = some r := H
 have A3 := Aside0.mk A30
 clear A30
 replace H := Option.bind_eq_some_iff.mp H
 obtain ⟨t123, A40, H⟩ := H
 replace H : (span_Merge.l0 k ([] : List (S28)) t123 (t123.length : Int) 0) = some r := H
 have A4 := Aside0.mk A40
 clear A40
 have H' := Aside0.mk H
 clear H
 go_enter Try.func20, Try.ntmps20
 go_wp2_with (first | ((with_reducible refine HOpen.gate_append ?_); simp only [List.cons_append, List.nil_append]) | ((with_reducible refine gate_callee (f := 29) rfl ?_); refine goesL_ (some 9) rfl rfl Try.func29 (by kernel_rfl) rfl #[.slice A0 l0.length c0] rfl (by (try simp only [List.map_toArray, List.map_cons, List.map_nil]); first | done | rfl | (simp only [List.length_drop, List.length_take]; rfl)) ?_; (with_reducible refine (slices_Clone_int_int.calls _ _ l0 t119 _ ?side1 ?side2 A2.out).mono ?_); (case side1 => repeat (first | exact HR0.out | (with_reducible refine Kd.C_alloc ?_ _) | (with_reducible refine Kd.C_drewN ?_ _) | (with_reducible refine Kd.C_drew ?_))); (case side2 => exact HC0.out); rintro e w5 ⟨v120, rfl, ho0, hb⟩; refine ⟨_, rfl, ?_⟩; have n0_ := Aside0.mk (Kd.R_lower ho0 (below_size (by repeat (first | (with_reducible first | exact HB.out | apply below_alloc | apply pw_below_drewN | apply below_drew1) | exact HB.out)))); have n1_ := Aside0.mk (below_step (by repeat (first | (with_reducible first | exact HB.out | apply below_alloc | apply pw_below_drewN | apply below_drew1) | exact HB.out)) hb); clear HB; have HO121 := n0_; have HB := n1_; clear n0_ n1_; (try clear hb); (try clear hb2); (try clear hk); (try clear hi); (try clear ho0); obtain ⟨Ao6, co6, eo6⟩ := Kd.R_slice HO121.out; subst eo6) | ((with_reducible refine gate_callee (f := 30) rfl ?_); refine goesL_ (some 11) rfl rfl Try.func30 (by kernel_rfl) rfl #[.slice Ao6 t119.length co6] rfl (by (try simp only [List.map_toArray, List.map_cons, List.map_nil]); first | done | rfl | (simp only [List.length_drop, List.length_take]; rfl)) ?_; (with_reducible refine (slices_Sort_int_int.calls (fun k_ => some k_ = (.slice Ao6 t119.length co6 : Value).ownBlock) (.slice Ao6 t119.length co6) t119 t122 w _ ?side1 ?side2 A3.out).mono ?_); (case side1 => repeat (first | (with_reducible first | exact HB.out | apply below_alloc | apply pw_below_drewN | apply below_drew1) | exact HB.out)); (case side2 => exact Kd.R_tight rfl HO121.out); rintro e w7 ⟨rfl, hy0, hb, hkp⟩; refine ⟨_, rfl, ?_⟩; have n0_ := Aside0.mk (Kd.R_reok rfl hy0 (fun k_ e_ => HO121.out.1 k_ e_)); have n1_ := Aside0.mk (hb); clear HO121; clear HB; have HO121 := n0_; have HB := n1_; clear n0_ n1_; (try clear hb); (try clear hkp); (try clear hy0)) | ((with_reducible refine gate_callee (f := 31) rfl ?_); refine goesL_ (some 13) rfl rfl Try.func31 (by kernel_rfl) rfl #[.slice Ao6 t119.length co6] rfl (by (try simp only [List.map_toArray, List.map_cons, List.map_nil]); first | done | rfl | (simp only [List.length_drop, List.length_take]; rfl)) ?_; (with_reducible refine (slices_Compact_int_int.calls (fun k_ => some k_ = (.slice Ao6 t119.length co6 : Value).ownBlock) (.slice Ao6 t119.length co6) t122 t123 w _ ?side1 ?side2 A4.out).mono ?_); (case side1 => repeat (first | (with_reducible first | exact HB.out | apply below_alloc | apply pw_below_drewN | apply below_drew1) | exact HB.out)); (case side2 => exact Kd.R_tight rfl HO121.out); rintro e w8 ⟨v124, rfl, ho0, hb, hkp⟩; refine ⟨_, rfl, ?_⟩; have n0_ := Aside0.mk (Kd.R_mono (ok' := fun k_ => True) ho0 (fun k_ hk_ => trivial)); have n1_ := Aside0.mk (hb); clear HB; clear HO121; have HO125 := n0_; have HB := n1_; clear n0_ n1_; (try clear hb); (try clear hkp); (try clear ho0); obtain ⟨Ao9, co9, eo9⟩ := Kd.R_slice HO125.out; subst eo9))
 (try simp only [Act.put, List.setIfInBounds_toArray, List.set_cons_zero, List.set_cons_succ])
 go_loopg [4, 15] k (fun kq v4 v15 w' => ∃ (x4_1 : List (S28)) (x15_1 : Int), v15 = .int .i64 x15_1 ∧ Aside0 (span_Merge.l0 kq x4_1 t123 (t123.length : Int) x15_1 = some r) ∧ Aside0 (kq ≤ k) ∧ Aside0 (Kd.R k28 28 w' w.heap.size (fun _ => True) v4 x4_1) ∧ Aside0 (Kd.R (Kd.int .i64) 3 w' w.heap.size (fun _ => True) (.slice Ao9 t123.length co9) t123) ∧ Aside0 (Below w.heap.size w w'))
 case atStart => exact ⟨(([] : List (S28))), (0), (by first | rfl | (simp; done) | (simp [*]; done)), H', ⟨Nat.le_refl _⟩, ⟨by first | exact Kd.R_nil _ _ _ _ _ | exact Kd.N_nil _ _ _ _ _ | exact Kd.V_nil _ _ _ _ _ | exact Kd.Q_nil _ _ _ _ _ | exact Kd.S_nil _ _ _ _ _⟩, ⟨by (with_reducible repeat (first | apply Kd.R_alloc | apply Kd.R_drewN | apply Kd.R_drew)); exact HO125.out⟩, ⟨by repeat (first | (with_reducible first | exact HB.out | apply below_alloc | apply pw_below_drewN | apply below_drew1) | exact HB.out)⟩⟩
 case round =>
  clear H'
  try clear c2
  try clear p2
  try clear c3
  obtain ⟨x4_1, x15_1, rfl, HA, HK1, HO_4, HO_13, HB⟩ := hrel
  cases gk with
  | zero => exact absurd HA.out (by simp [span_Merge.l0])
  | succ k1 =>
   have H := HA.out
   clear HA
   simp only [span_Merge.l0] at H
   by_cases c10 : x15_1 < (t123.length : Int)
   ·rw [if_pos c10] at H
    have c10b0 : decide (x15_1 < (t123.length : Int)) = true := decide_eq_true c10
    clear c10
    by_cases c11 : 0 ≤ x15_1
    ·rw [if_pos c11] at H
     have c11b0 : decide (0 ≤ x15_1) = true := decide_eq_true c11
     clear c11
     by_cases c12 : x15_1 < (t123.length : Int)
     ·rw [if_pos c12] at H
      have c12b0 : decide (x15_1 < (t123.length : Int)) = true := decide_eq_true c12
      clear c12
      by_cases c13 : (x4_1.length : Int) > 0
      ·rw [if_pos c13] at H
       have c13b0 : decide (0 < (x4_1.length : Int)) = true := decide_eq_true c13
       have c13b1 : decide (0 < x4_1.length) = true := decide_eq_true (by omega)
       clear c13
       obtain ⟨ji14, hji14⟩ : ∃ j_ : Int, (wrap64 ((x4_1.length : Int) - 1)) = j_ := ⟨_, rfl⟩
       replace H : (if 0 ≤ (ji14) then (if (ji14) < (x4_1.length : Int) then (if ((rd_T28 x4_1 (ji14)).f1) = (rd t123 x15_1) then (span_Merge.l0 k1 (x4_1.set ((ji14) : Int).toNat (⟨(rd_T28 x4_1 (ji14)).f0, wrap64 (((rd_T28 x4_1 (ji14)).f1) + 1)⟩ : S28)) t123 (t123.length : Int) (wrap64 (x15_1 + 1))) else (if x4_1.length < 8796093022208 then (span_Merge.l0 k1 (x4_1 ++ [(⟨rd t123 x15_1, wrap64 ((rd t123 x15_1) + 1)⟩ : S28)]) t123 (t123.length : Int) (wrap64 (x15_1 + 1))) else (none))) else (none)) else (none)) = some r := by first | (rw [hji14] at H; exact H) | (simp only [hji14] at H ⊢; exact H)
       have hji14w : (IntKind.i64.wrap ((x4_1.length : Int) - 1)) = ji14 := (i64_w _).trans hji14
       by_cases c15 : 0 ≤ (ji14)
       ·rw [if_pos c15] at H
        have c15b0 : decide (0 ≤ (ji14)) = true := decide_eq_true c15
        clear c15
        by_cases c16 : (ji14) < (x4_1.length : Int)
        ·rw [if_pos c16] at H
         have c16b0 : decide ((ji14) < (x4_1.length : Int)) = true := decide_eq_true c16
         clear c16
         by_cases c17 : ((rd_T28 x4_1 (ji14)).f1) = (rd t123 x15_1)
         ·rw [if_pos c17] at H
          have c17b0 : (((rd_T28 x4_1 (ji14)).f1) == (rd t123 x15_1)) = true := beq_iff_eq.mpr c17
          have c17b1 : (((rd_T28 x4_1 (ji14)).f1) != (rd t123 x15_1)) = false := bne_eq_false_iff_eq.mpr c17
          clear c17
          obtain ⟨y129, hy129⟩ : ∃ y_ : List (S28), y_ = (x4_1.set ((ji14) : Int).toNat (⟨(rd_T28 x4_1 (ji14)).f0, wrap64 (((rd_T28 x4_1 (ji14)).f1) + 1)⟩ : S28)) := ⟨_, rfl⟩
          replace H : (span_Merge.l0 k1 y129 t123 (t123.length : Int) (wrap64 (x15_1 + 1))) = some r := by first | (rw [hy129]; with_reducible exact H) | (have H2_ := (Option.bind_some _ _).symm.trans H; rw [hy129]; with_reducible exact H2_) | (have H2_ := (Option.bind_some _ _).symm.trans H; with_reducible exact H2_) | with_reducible exact H | (rw [hy129]; exact H) | exact H
          have Ny129 := Aside0.mk hy129
          clear hy129
          have H' := Aside0.mk H
          clear H
          have p126 : 0 ≤ (x15_1 : Int) := of_decide_eq_true (by first | (with_reducible assumption) | assumption)
          have q126 : x15_1 < (t123.length : Int) := of_decide_eq_true (by first | (with_reducible assumption) | assumption)
          obtain ⟨ad126, e126, hx126_0⟩ := Kd.at_int (Kd.R_reads' HO_13.out).2.2 x15_1 p126 q126
          cases e126
          replace p126 := eq_true p126
          replace q126 := eq_true q126
          obtain ⟨Ao19, co19, eo19⟩ := Kd.R_slice HO_4.out
          subst eo19
          have p127 : 0 ≤ ((ji14) : Int) := of_decide_eq_true (by first | (with_reducible assumption) | assumption)
          have q127 : (ji14) < (x4_1.length : Int) := of_decide_eq_true (by first | (with_reducible assumption) | assumption)
          obtain ⟨ad127, e127, hx127_0, hx127_1⟩ := at_T28 (Kd.R_reads' HO_4.out).2.2 (ji14) p127 q127
          cases e127
          replace p127 := eq_true p127
          replace q127 := eq_true q127
          have p128 : 0 ≤ ((ji14) : Int) := of_decide_eq_true (by first | (with_reducible assumption) | assumption)
          have q128 : (ji14) < (x4_1.length : Int) := of_decide_eq_true (by first | (with_reducible assumption) | assumption)
          obtain ⟨ad128, e128, hx128_0, hx128_1⟩ := at_T28 (Kd.R_reads' HO_4.out).2.2 (ji14) p128 q128
          obtain rfl : ad127 = ad128 := (by injection e128)
          replace p128 := eq_true p128
          replace q128 := eq_true q128
          have p18 : 0 ≤ ((ji14) : Int) := of_decide_eq_true (by first | (with_reducible assumption) | assumption)
          have q18 : ((ji14) : Int) < ((x4_1.length : Int) : Int) := of_decide_eq_true (by first | (with_reducible assumption) | assumption)
          obtain ⟨go18, co18, eo18, gb18, gl18, cl18, HG18⟩ := Kd.R_form HO_4.out (by omega)
          (first | cases eo18 | (injection eo18 with ea_ en_ ec_; (first | subst ea_ | (injection ea_ with ea_; subst ea_)); subst ec_; clear en_))
          have GB18 := Aside0.mk gb18
          have GG18 := Aside0.mk HG18
          clear gb18 gl18 HG18
          (first | simp only [add_plain] at hx127_0 | skip)
          (first | simp only [add_plain] at hx127_1 | skip)
          (first | simp only [add_plain] at hx128_0 | skip)
          (first | simp only [add_plain] at hx128_1 | skip)
          obtain ⟨ce18, hcl18, hM18, hcc18, hfr18⟩ := Kd.R_elem HO_4.out z28 ((ji14) : Int) p18 q18
          obtain rfl := k28_openM hM18
          have hx18_0 : wr.cell? ⟨go18, ((ji14) : Int).toNat * 2, none⟩ = some (.int .i64 ((rd_T28 x4_1 (ji14)).f0)) := hcc18 0 _ rfl
          have hx18_1 : wr.cell? ⟨go18, ((ji14) : Int).toNat * 2 + 1, none⟩ = some (.int .i64 ((rd_T28 x4_1 (ji14)).f1)) := hcc18 1 _ rfl
          have hf18_0 : wr.frozen? ⟨go18, ((ji14) : Int).toNat * 2, none⟩ = false := hfr18 0
          have hf18_1 : wr.frozen? ⟨go18, ((ji14) : Int).toNat * 2 + 1, none⟩ = false := hfr18 1
          clear hcl18 hcc18 hfr18 hM18
          replace p18 := eq_true p18
          replace q18 := eq_true q18
          have HX20 := Aside0.mk (show Kd.R k28 28 wr w.heap.size (fun _ => True) (.slice (some ⟨go18, 0, none⟩) x4_1.length co19) x4_1 from (by (with_reducible repeat (first | apply Kd.R_alloc | apply Kd.R_drewN | apply Kd.R_drew)); exact HO_4.out))
          obtain ⟨ce20, hcl20, hM20, hcc20, hfr20⟩ := Kd.R_elem HX20.out z28 ((ji14) : Int) (of_decide_eq_true (by first | (with_reducible assumption) | assumption)) (by have h_ : ((ji14) : Int) < ((x4_1.length : Int) : Int) := of_decide_eq_true (by first | (with_reducible assumption) | assumption); first | exact h_ | (have e_ := (Kd.R_reads' HO_4.out).1; omega) | simpa using h_)
          obtain rfl := k28_openM hM20
          have HP20 := Kd.R_seg HX20.out ((ji14) : Int) (of_decide_eq_true (by first | (with_reducible assumption) | assumption)) (by have h_ : ((ji14) : Int) < ((x4_1.length : Int) : Int) := of_decide_eq_true (by first | (with_reducible assumption) | assumption); first | exact h_ | (have e_ := (Kd.R_reads' HO_4.out).1; omega) | simpa using h_) (seg := [.int .i64 (wrap64 (((rd_T28 x4_1 (ji14)).f1) + 1))]) (j := 1) hcl20 hcc20 (show 2 ≤ 2 from by decide) (x' := (⟨(rd_T28 x4_1 (ji14)).f0, wrap64 (((rd_T28 x4_1 (ji14)).f1) + 1)⟩ : S28)) (k28_mkM _ _ _ (⟨(rd_T28 x4_1 (ji14)).f0, wrap64 (((rd_T28 x4_1 (ji14)).f1) + 1)⟩ : S28) ) (fun _ hk => hk)
          have hx20_1 := hcc20 1 _ rfl
          (try simp only [show (k28).sz = 2 from rfl, Nat.mul_one, Nat.add_zero] at hx20_1)
          have hf20_1 := hfr20 1
          (try simp only [show (k28).sz = 2 from rfl, Nat.mul_one, Nat.add_zero] at hf20_1)
          clear hcl20 hcc20 hfr20 hM20
          go_wp2_with (first | ((with_reducible refine HOpen.gate_append ?_); simp only [List.cons_append, List.nil_append]) | ((with_reducible refine gate_store (t := 3) (p := 41) rfl ?_); refine store_event (t := 3) (p := 41) (v := ?vo_w21) (w1 := (wr.setCell ⟨go18, ((ji14) : Int).toNat * 2 + 1, none⟩ (.int .i64 (wrap64 (((rd_T28 x4_1 (ji14)).f1) + 1))))) ?hg ?ho ?hn ?hr ?_; (case ho => rfl); (case hg => rfl); (case hn => rfl); (case hr => first | (go_simp; done) | (go_simp; rfl)); intro w21 hw; have hg : wr.grownBy w21 (some go18) := (by rw [hw]; exact HP20.2); have hp_ : Kd.R k28 28 w21 w.heap.size (fun _ => True) (.slice (some ⟨go18, 0, none⟩) x4_1.length co19) y129 := (by rw [hw, Ny129.out]; exact HP20.1); clear HP20; have n0_ := Aside0.mk (hp_); have n1_ := Aside0.mk (Kd.R_over' (v := (.slice (some ⟨go18, 0, none⟩) x4_1.length co19)) (by (with_reducible repeat (first | apply Kd.R_alloc | apply Kd.R_drewN | apply Kd.R_drew)); exact HO_13.out) (Kd.R_typed HO_4.out) (by decide) hg); have n2_ := Aside0.mk ((by rw [hw]; exact below_set (HB.out) GB18.out : Below w.heap.size w w21)); clear HO_4; clear HO_13; clear HB; have HO_4 := n0_; have HO_13 := n1_; have HB := n2_; clear n0_ n1_ n2_; clear hg hw hp_))
          go_roundg k1
          case measure => have := HK1.out; omega
          case rel => exact ⟨(y129), (wrap64 (x15_1 + 1)), (by first | rfl | (simp; done) | (simp [*]; done)), H', ⟨by have := HK1.out; omega⟩, ⟨by (with_reducible repeat (first | apply Kd.R_alloc | apply Kd.R_drewN | apply Kd.R_drew)); exact HO_4.out⟩, ⟨by (with_reducible repeat (first | apply Kd.R_alloc | apply Kd.R_drewN | apply Kd.R_drew)); exact HO_13.out⟩, ⟨by repeat (first | (with_reducible first | exact HB.out | apply below_alloc | apply pw_below_drewN | apply below_drew1) | exact HB.out)⟩⟩
         ·rw [if_neg c17] at H
          have c17b0 : (((rd_T28 x4_1 (ji14)).f1) == (rd t123 x15_1)) = false := beq_eq_false_iff_ne.mpr c17
          have c17b1 : (((rd_T28 x4_1 (ji14)).f1) != (rd t123 x15_1)) = true := bne_iff_ne.mpr c17
          by_cases c22 : x4_1.length < 8796093022208
          ·rw [if_pos c22] at H
           have LMc22 := Aside0.mk c22
           clear c22
           obtain ⟨y130, hy130⟩ : ∃ y_ : List (S28), y_ = (x4_1 ++ [(⟨rd t123 x15_1, wrap64 ((rd t123 x15_1) + 1)⟩ : S28)]) := ⟨_, rfl⟩
           replace H : (span_Merge.l0 k1 y130 t123 (t123.length : Int) (wrap64 (x15_1 + 1))) = some r := by first | (rw [hy130]; with_reducible exact H) | (have H2_ := (Option.bind_some _ _).symm.trans H; rw [hy130]; with_reducible exact H2_) | (have H2_ := (Option.bind_some _ _).symm.trans H; with_reducible exact H2_) | with_reducible exact H | (rw [hy130]; exact H) | exact H
           have Ny130 := Aside0.mk hy130
           clear hy130
           have H' := Aside0.mk H
           clear H
           have p126 : 0 ≤ (x15_1 : Int) := of_decide_eq_true (by first | (with_reducible assumption) | assumption)
           have q126 : x15_1 < (t123.length : Int) := of_decide_eq_true (by first | (with_reducible assumption) | assumption)
           obtain ⟨ad126, e126, hx126_0⟩ := Kd.at_int (Kd.R_reads' HO_13.out).2.2 x15_1 p126 q126
           cases e126
           replace p126 := eq_true p126
           replace q126 := eq_true q126
           obtain ⟨Ao23, co23, eo23⟩ := Kd.R_slice HO_4.out
           subst eo23
           have p127 : 0 ≤ ((ji14) : Int) := of_decide_eq_true (by first | (with_reducible assumption) | assumption)
           have q127 : (ji14) < (x4_1.length : Int) := of_decide_eq_true (by first | (with_reducible assumption) | assumption)
           obtain ⟨ad127, e127, hx127_0, hx127_1⟩ := at_T28 (Kd.R_reads' HO_4.out).2.2 (ji14) p127 q127
           cases e127
           replace p127 := eq_true p127
           replace q127 := eq_true q127
           go_wp2_with (first | ((with_reducible refine HOpen.gate_append ?_); simp only [List.cons_append, List.nil_append]) | ((with_reducible refine gate_builtin (b := .append) (xs := #[.tmp 42, .tmp 47]) rfl ?_); at_builtin; refine Kd.R_append k28 (w0 := w) w.heap.size rfl (.tmp 42) (.tmp 47) 34 28 (.agg #[(.int .i64 0), (.int .i64 0)]) 16 rfl Try.underlying34 info28 rfl (by decide) (by omega) (.slice (some ad127) x4_1.length co23) x4_1 (⟨rd t123 x15_1, wrap64 ((rd t123 x15_1) + 1)⟩ : S28) [.int .i64 (rd t123 x15_1), .int .i64 (wrap64 ((rd t123 x15_1) + 1))] (fun _ => True) (fun _ => False) rfl rfl ?aP (fun _ hk => hk.elim) ?aF ?aO ?aB ?aS ?aL ?_; (case aP => exact k28_mkM _ _ _ (⟨rd t123 x15_1, wrap64 ((rd t123 x15_1) + 1)⟩ : S28)); (case aB => exact (by repeat (first | (with_reducible first | exact HB.out | apply below_alloc | apply pw_below_drewN | apply below_drew1) | exact HB.out))); (case aF => exact (fun _ _ => trivial)); (case aO => exact (by (with_reducible repeat (first | apply Kd.R_alloc | apply Kd.R_drewN | apply Kd.R_drew)); exact HO_4.out)); (case aS => exact (below_size (by repeat (first | (with_reducible first | exact HB.out | apply below_alloc | apply pw_below_drewN | apply below_drew1) | exact HB.out)))); (case aL => have := LMc22.out; omega); intro v131 w24 ho hb hg hat; rw [← Ny130.out] at ho; have n0_ := Aside0.mk (Kd.R_over' (by (with_reducible repeat (first | apply Kd.R_alloc | apply Kd.R_drewN | apply Kd.R_drew)); exact HO_13.out) (Kd.R_typed (by (with_reducible repeat (first | apply Kd.R_alloc | apply Kd.R_drewN | apply Kd.R_drew)); exact HO_4.out)) (by decide) hg); have n1_ := Aside0.mk (hb); have n2_ := Aside0.mk (ho); clear HO_13; clear HB; clear HO_4; have HO_13 := n0_; have HB := n1_; have HO132 := n2_; clear n0_ n1_ n2_; clear ho hb hg hat))
           go_roundg k1
           case measure => have := HK1.out; omega
           case rel => exact ⟨(y130), (wrap64 (x15_1 + 1)), (by first | rfl | (simp; done) | (simp [*]; done)), H', ⟨by have := HK1.out; omega⟩, ⟨by (with_reducible repeat (first | apply Kd.R_alloc | apply Kd.R_drewN | apply Kd.R_drew)); exact HO132.out⟩, ⟨by (with_reducible repeat (first | apply Kd.R_alloc | apply Kd.R_drewN | apply Kd.R_drew)); exact HO_13.out⟩, ⟨by repeat (first | (with_reducible first | exact HB.out | apply below_alloc | apply pw_below_drewN | apply below_drew1) | exact HB.out)⟩⟩
          ·rw [if_neg c22] at H
           exact absurd H (by simp)
        ·rw [if_neg c16] at H
         exact absurd H (by simp)
       ·rw [if_neg c15] at H
        exact absurd H (by simp)
      ·rw [if_neg c13] at H
       have c13b0 : decide (0 < (x4_1.length : Int)) = false := decide_eq_false c13
       have c13b1 : decide (0 < x4_1.length) = false := decide_eq_false (by omega)
       clear c13
       by_cases c25 : x4_1.length < 8796093022208
       ·rw [if_pos c25] at H
        have LMc25 := Aside0.mk c25
        clear c25
        obtain ⟨y133, hy133⟩ : ∃ y_ : List (S28), y_ = (x4_1 ++ [(⟨rd t123 x15_1, wrap64 ((rd t123 x15_1) + 1)⟩ : S28)]) := ⟨_, rfl⟩
        replace H : (span_Merge.l0 k1 y133 t123 (t123.length : Int) (wrap64 (x15_1 + 1))) = some r := by first | (rw [hy133]; with_reducible exact H) | (have H2_ := (Option.bind_some _ _).symm.trans H; rw [hy133]; with_reducible exact H2_) | (have H2_ := (Option.bind_some _ _).symm.trans H; with_reducible exact H2_) | with_reducible exact H | (rw [hy133]; exact H) | exact H
        have Ny133 := Aside0.mk hy133
        clear hy133
        have H' := Aside0.mk H
        clear H
        have p126 : 0 ≤ (x15_1 : Int) := of_decide_eq_true (by first | (with_reducible assumption) | assumption)
        have q126 : x15_1 < (t123.length : Int) := of_decide_eq_true (by first | (with_reducible assumption) | assumption)
        obtain ⟨ad126, e126, hx126_0⟩ := Kd.at_int (Kd.R_reads' HO_13.out).2.2 x15_1 p126 q126
        cases e126
        replace p126 := eq_true p126
        replace q126 := eq_true q126
        obtain ⟨Ao26, co26, eo26⟩ := Kd.R_slice HO_4.out
        subst eo26
        go_wp2_with (first | ((with_reducible refine HOpen.gate_append ?_); simp only [List.cons_append, List.nil_append]) | ((with_reducible refine gate_builtin (b := .append) (xs := #[.tmp 42, .tmp 47]) rfl ?_); at_builtin; refine Kd.R_append k28 (w0 := w) w.heap.size rfl (.tmp 42) (.tmp 47) 34 28 (.agg #[(.int .i64 0), (.int .i64 0)]) 16 rfl Try.underlying34 info28 rfl (by decide) (by omega) (.slice Ao26 x4_1.length co26) x4_1 (⟨rd t123 x15_1, wrap64 ((rd t123 x15_1) + 1)⟩ : S28) [.int .i64 (rd t123 x15_1), .int .i64 (wrap64 ((rd t123 x15_1) + 1))] (fun _ => True) (fun _ => False) rfl rfl ?aP (fun _ hk => hk.elim) ?aF ?aO ?aB ?aS ?aL ?_; (case aP => exact k28_mkM _ _ _ (⟨rd t123 x15_1, wrap64 ((rd t123 x15_1) + 1)⟩ : S28)); (case aB => exact (by repeat (first | (with_reducible first | exact HB.out | apply below_alloc | apply pw_below_drewN | apply below_drew1) | exact HB.out))); (case aF => exact (fun _ _ => trivial)); (case aO => exact (by (with_reducible repeat (first | apply Kd.R_alloc | apply Kd.R_drewN | apply Kd.R_drew)); exact HO_4.out)); (case aS => exact (below_size (by repeat (first | (with_reducible first | exact HB.out | apply below_alloc | apply pw_below_drewN | apply below_drew1) | exact HB.out)))); (case aL => have := LMc25.out; omega); intro v134 w27 ho hb hg hat; rw [← Ny133.out] at ho; have n0_ := Aside0.mk (Kd.R_over' (by (with_reducible repeat (first | apply Kd.R_alloc | apply Kd.R_drewN | apply Kd.R_drew)); exact HO_13.out) (Kd.R_typed (by (with_reducible repeat (first | apply Kd.R_alloc | apply Kd.R_drewN | apply Kd.R_drew)); exact HO_4.out)) (by decide) hg); have n1_ := Aside0.mk (hb); have n2_ := Aside0.mk (ho); clear HO_13; clear HB; clear HO_4; have HO_13 := n0_; have HB := n1_; have HO135 := n2_; clear n0_ n1_ n2_; clear ho hb hg hat))
        go_roundg k1
        case measure => have := HK1.out; omega
        case rel => exact ⟨(y133), (wrap64 (x15_1 + 1)), (by first | rfl | (simp; done) | (simp [*]; done)), H', ⟨by have := HK1.out; omega⟩, ⟨by (with_reducible repeat (first | apply Kd.R_alloc | apply Kd.R_drewN | apply Kd.R_drew)); exact HO135.out⟩, ⟨by (with_reducible repeat (first | apply Kd.R_alloc | apply Kd.R_drewN | apply Kd.R_drew)); exact HO_13.out⟩, ⟨by repeat (first | (with_reducible first | exact HB.out | apply below_alloc | apply pw_below_drewN | apply below_drew1) | exact HB.out)⟩⟩
       ·rw [if_neg c25] at H
        exact absurd H (by simp)
     ·rw [if_neg c12] at H
      exact absurd H (by simp)
    ·rw [if_neg c11] at H
     exact absurd H (by simp)
   ·rw [if_neg c10] at H
    have c10b0 : decide (x15_1 < (t123.length : Int)) = false := decide_eq_false c10
    clear c10
    obtain rfl := Option.some.inj H
    go_wp2
    go_ret
    exact ⟨_, by first | rfl | (simp [errW_none, errW_some] <;> rfl) | (simp [*, errW_none, errW_some] <;> rfl), by (with_reducible repeat (first | apply Kd.R_alloc | apply Kd.R_drewN | apply Kd.R_drew)); exact HO_4.out, by repeat (first | (with_reducible first | exact HB.out | apply below_alloc | apply pw_below_drewN | apply below_drew1) | exact HB.out)⟩

def caulkref05_Same.l0 : Nat → List Int → List Int → Int → Int → Option (Bool)
 | 0, _, _, _, _ => none
 | k + 1, x0, x1, x12, x13 => if x13 < x12 then (if 0 ≤ x13 then (if x13 < (x0.length : Int) then (if x13 < (x1.length : Int) then (if (rd x0 x13) = (rd x1 x13) then (caulkref05_Same.l0 k x0 x1 x12 (wrap64 (x13 + 1))) else (some false)) else (none)) else (none)) else (none)) else (some true)
def caulkref05_Same.f (k : Nat) (l0 : List Int) (l1 : List Int) : Option (Bool) := if (l0.length : Int) = (l1.length : Int) then (caulkref05_Same.l0 k l0 l1 (l0.length : Int) 0) else (some false)
theorem caulkref05_Same.mono_l : ∀ k, (∀ y0 y1 y2 y3, LeO (caulkref05_Same.l0 k y0 y1 y2 y3) (caulkref05_Same.l0 (k + 1) y0 y1 y2 y3))
 | 0 => fun _ _ _ _ r h => by simp [caulkref05_Same.l0] at h
 | k + 1 => by
  have ih0 := caulkref05_Same.mono_l k
  ·intro y0 y1 y2 y3
   unfold caulkref05_Same.l0
   repeat' first
   | (with_reducible exact ih0 _ _ _ _)
   | (with_reducible exact LeO.refl _)
   | (with_reducible exact LeO.none _)
   | (with_reducible refine LeO.ite ?_ ?_)
   | (with_reducible refine LeO.bind ?_ (fun _ => ?_))
   | exact ih0 _ _ _ _
   | exact LeO.none _
   | refine LeO.ite ?_ ?_
   | refine LeO.bind ?_ (fun _ => ?_)
theorem caulkref05_Same.mono : ∀ a0 a1 k, LeO (caulkref05_Same.f k a0 a1) (caulkref05_Same.f (k + 1) a0 a1) := by
 intro a0 a1 k
 have ih0 := caulkref05_Same.mono_l k
 unfold caulkref05_Same.f
 repeat' first
   | (with_reducible exact ih0 _ _ _ _)
   | (with_reducible exact LeO.refl _)
   | (with_reducible exact LeO.none _)
   | (with_reducible refine LeO.ite ?_ ?_)
   | (with_reducible refine LeO.bind ?_ (fun _ => ?_))
   | exact ih0 _ _ _ _
   | exact LeO.none _
   | refine LeO.ite ?_ ?_
   | refine LeO.bind ?_ (fun _ => ?_)
set_option maxHeartbeats 8000000 in
set_option maxRecDepth 100000 in
theorem caulkref05_Same.calls (k : Nat) (A0 : Option Addr) (c0 : Nat) (l0 : List Int) (A1 : Option Addr) (c1 : Nat) (l1 : List Int) (r : Bool) (w : World) (hr0 : Kd.C (Kd.int .i64) w A0 l0.length l0) (hc0 : l0.length ≤ c0) (hr1 : Kd.C (Kd.int .i64) w A1 l1.length l1) (hc1 : l1.length ≤ c1) (h : caulkref05_Same.f k l0 l1 = some r) :
  Calls Try.prog 22 #[.slice A0 l0.length c0, .slice A1 l1.length c1] w fun e w' => e = .returned (.bool r) ∧ Drawn0 w w' := by
 have HR0 := Aside0.mk hr0
 have HC0 := Aside0.mk hc0
 clear hr0 hc0
 have HR1 := Aside0.mk hr1
 have HC1 := Aside0.mk hc1
 clear hr1 hc1
 have H : (if (l0.length : Int) = (l1.length : Int) then (caulkref05_Same.l0 k l0 l1 (l0.length : Int) 0) else (some false)) = some r := h
 clear h
 by_cases c3 : (l0.length : Int) = (l1.length : Int)
 ·rw [if_pos c3] at H
  have c3b0 : ((l0.length : Int) == (l1.length : Int)) = true := beq_iff_eq.mpr c3
  have c3b1 : ((l0.length : Int) != (l1.length : Int)) = false := bne_eq_false_iff_eq.mpr c3
  have c3b2 : (l0.length == l1.length) = true := by first | simpa using c3 | (simp at c3 ⊢; omega)
  clear c3
  have H' := Aside0.mk H
  clear H
  go_enter Try.func22, Try.ntmps22
  go_wp2
  repeat (go_quiet (fail); try go_wp2)
  go_loopg [13] k (fun kq v13 w' => ∃ (x13_1 : Int), v13 = .int .i64 x13_1 ∧ Aside0 (caulkref05_Same.l0 kq l0 l1 (l0.length : Int) x13_1 = some r) ∧ Aside0 (kq ≤ k) ∧ Drawn0 w w')
  case atStart => exact ⟨(0), (by first | rfl | (simp; done) | (simp [*]; done)), H', ⟨Nat.le_refl _⟩, by repeat (first | exact Drawn0.refl _ | apply Drawn0.step)⟩
  case round =>
   clear H'
   try clear c1
   try clear c2
   try clear p2
   try clear c3
   try clear c3b0
   try clear c3b1
   try clear c3b2
   obtain ⟨x13_1, rfl, HA, HK1, ⟨m1, rfl⟩⟩ := hrel
   cases gk with
   | zero => exact absurd HA.out (by simp [caulkref05_Same.l0])
   | succ k1 =>
    have H := HA.out
    clear HA
    simp only [caulkref05_Same.l0] at H
    by_cases c4 : x13_1 < (l0.length : Int)
    ·rw [if_pos c4] at H
     have c4b0 : decide (x13_1 < (l0.length : Int)) = true := decide_eq_true c4
     clear c4
     by_cases c5 : 0 ≤ x13_1
     ·rw [if_pos c5] at H
      have c5b0 : decide (0 ≤ x13_1) = true := decide_eq_true c5
      clear c5
      by_cases c6 : x13_1 < (l0.length : Int)
      ·rw [if_pos c6] at H
       have c6b0 : decide (x13_1 < (l0.length : Int)) = true := decide_eq_true c6
       clear c6
       by_cases c7 : x13_1 < (l1.length : Int)
       ·rw [if_pos c7] at H
        have c7b0 : decide (x13_1 < (l1.length : Int)) = true := decide_eq_true c7
        clear c7
        by_cases c8 : (rd l0 x13_1) = (rd l1 x13_1)
        ·rw [if_pos c8] at H
         have c8b0 : ((rd l0 x13_1) == (rd l1 x13_1)) = true := beq_iff_eq.mpr c8
         have c8b1 : ((rd l0 x13_1) != (rd l1 x13_1)) = false := bne_eq_false_iff_eq.mpr c8
         clear c8
         have H' := Aside0.mk H
         clear H
         have p136 : 0 ≤ (x13_1 : Int) := of_decide_eq_true (by first | (with_reducible assumption) | assumption)
         have q136 : x13_1 < (l0.length : Int) := of_decide_eq_true (by first | (with_reducible assumption) | assumption)
         obtain ⟨ad136, e136, hx136_0⟩ := Kd.at_int HR0.out x13_1 p136 q136
         cases e136
         replace p136 := eq_true p136
         replace q136 := eq_true q136
         have p137 : 0 ≤ (x13_1 : Int) := of_decide_eq_true (by first | (with_reducible assumption) | assumption)
         have q137 : x13_1 < (l1.length : Int) := of_decide_eq_true (by first | (with_reducible assumption) | assumption)
         obtain ⟨ad137, e137, hx137_0⟩ := Kd.at_int HR1.out x13_1 p137 q137
         cases e137
         replace p137 := eq_true p137
         replace q137 := eq_true q137
         go_wp2
         repeat (go_quiet (fail); try go_wp2)
         go_roundg k1
         case measure => have := HK1.out; omega
         case rel => exact ⟨(wrap64 (x13_1 + 1)), (by first | rfl | (simp; done) | (simp [*]; done)), H', ⟨by have := HK1.out; omega⟩, by repeat (first | exact Drawn0.refl _ | apply Drawn0.step)⟩
        ·rw [if_neg c8] at H
         have c8b0 : ((rd l0 x13_1) == (rd l1 x13_1)) = false := beq_eq_false_iff_ne.mpr c8
         have c8b1 : ((rd l0 x13_1) != (rd l1 x13_1)) = true := bne_iff_ne.mpr c8
         obtain rfl := Option.some.inj H
         have p136 : 0 ≤ (x13_1 : Int) := of_decide_eq_true (by first | (with_reducible assumption) | assumption)
         have q136 : x13_1 < (l0.length : Int) := of_decide_eq_true (by first | (with_reducible assumption) | assumption)
         obtain ⟨ad136, e136, hx136_0⟩ := Kd.at_int HR0.out x13_1 p136 q136
         cases e136
         replace p136 := eq_true p136
         replace q136 := eq_true q136
         have p137 : 0 ≤ (x13_1 : Int) := of_decide_eq_true (by first | (with_reducible assumption) | assumption)
         have q137 : x13_1 < (l1.length : Int) := of_decide_eq_true (by first | (with_reducible assumption) | assumption)
         obtain ⟨ad137, e137, hx137_0⟩ := Kd.at_int HR1.out x13_1 p137 q137
         cases e137
         replace p137 := eq_true p137
         replace q137 := eq_true q137
         go_wp2
         repeat (go_quiet (fail); try go_wp2)
         go_ret
         exact ⟨by first | rfl | (simp; done) | (simp [*]; done), by repeat (first | exact Drawn0.refl _ | apply Drawn0.step)⟩
       ·rw [if_neg c7] at H
        exact absurd H (by simp)
      ·rw [if_neg c6] at H
       exact absurd H (by simp)
     ·rw [if_neg c5] at H
      exact absurd H (by simp)
    ·rw [if_neg c4] at H
     have c4b0 : decide (x13_1 < (l0.length : Int)) = false := decide_eq_false c4
     clear c4
     obtain rfl := Option.some.inj H
     go_wp2
     repeat (go_quiet (fail); try go_wp2)
     go_ret
     exact ⟨by first | rfl | (simp; done) | (simp [*]; done), by repeat (first | exact Drawn0.refl _ | apply Drawn0.step)⟩
 ·rw [if_neg c3] at H
  have c3b0 : ((l0.length : Int) == (l1.length : Int)) = false := beq_eq_false_iff_ne.mpr c3
  have c3b1 : ((l0.length : Int) != (l1.length : Int)) = true := bne_iff_ne.mpr c3
  have c3b2 : (l0.length == l1.length) = false := by first | simpa using c3 | (simp at c3 ⊢; omega)
  obtain rfl := Option.some.inj H
  go_enter Try.func22, Try.ntmps22
  go_wp2
  repeat (go_quiet (fail); try go_wp2)
  go_ret
  exact ⟨by first | rfl | (simp; done) | (simp [*]; done), by repeat (first | exact Drawn0.refl _ | apply Drawn0.step)⟩

end Go.Proofs.Ytepbhlngcaiklaa.HSpan
