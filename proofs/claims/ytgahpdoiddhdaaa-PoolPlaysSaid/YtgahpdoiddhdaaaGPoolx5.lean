/- WRITTEN BY wip/hyb.py, a program of this workplace (out of the kit's printer and this workplace's own contracts). -/
import Derived.Test.YtgahpdoiddhdaaaGPoolx0
import Derived.Test.YtgahpdoiddhdaaaGPoolx1
import Derived.Test.YtgahpdoiddhdaaaGPoolx2
import Derived.Test.YtgahpdoiddhdaaaGPoolx3
import Derived.Test.YtgahpdoiddhdaaaGPoolx4
namespace Go.Proofs.Ytgahpdoiddhdaaa.HPool
open Go.RowKit Go.Proofs.YtgahpdoiddhdaaaW.PrintWords Go.Proofs.YtgahpdoiddhdaaaW.PrintLast Go.Proofs.YtgahpdoiddhdaaaW.PrintMore
attribute [local go_sem] max2_int min2_int max_two min_two max_three min_three max_four min_four   -- for this text's walks alone
set_option linter.unusedVariables false
set_option linter.unusedSimpArgs false

section
open Go Go.Shelf Go.Maps Go.Proofs.Ytgahpdoiddhdaaa.Seq Go.Proofs.Ytgahpdoiddhdaaa.MapL Go.Proofs.YtgahpdoiddhdaaaW.PrintLast
attribute [local go_sem] Oper.semAt_some max2_int min2_int max_two min_two
def refL (L : List (Int × ByteArray)) : List S135 := L.map fun q => ⟨q.1, q.2⟩
theorem refL_len (L : List (Int × ByteArray)) : (refL L).length = L.length := List.length_map _
theorem rd_refL (L : List (Int × ByteArray)) (i : Nat) (h : i < L.length) : rd_T135 (refL L) (i : Int) = ⟨(L[i]).1, (L[i]).2⟩ := by
 simp [rd_T135, refL, List.getD, h]
theorem wrap_small {x : Int} (h0 : 0 ≤ x) (h1 : x < 9223372036854775808) : wrap64 x = x := by unfold wrap64; omega
theorem refGet (L : List (Int × ByteArray)) (id : Int) (hL : L.length < 9000000000000000000) : ∀ (d i k : Nat), i + d = L.length → d < k → caulkref17_Pool_Get.l0 k id (refL L) (L.length : Int) (i : Int) = some (getP (L.drop i) id)
 | 0, i, k, h, hk => by
  obtain ⟨k, rfl⟩ : ∃ m, k = m + 1 := ⟨k - 1, by omega⟩
  rw [caulkref17_Pool_Get.l0, if_neg (by omega), List.drop_eq_nil_of_le (by omega)]
  rfl
 | d + 1, i, k, h, hk => by
  obtain ⟨k, rfl⟩ : ∃ m, k = m + 1 := ⟨k - 1, by omega⟩
  have hi : i < L.length := by omega
  rw [caulkref17_Pool_Get.l0, if_pos (by omega), if_pos (by omega), if_pos (by rw [refL_len]; omega), rd_refL L i hi, List.drop_eq_getElem_cons hi]
  unfold getP
  rw [getL]
  by_cases e : (L[i]).1 = id
  ·rw [if_pos e, if_pos e]
  ·rw [if_neg e, if_neg e, wrap_small (by omega) (by omega)]
   exact refGet L id hL d (i + 1) k (by omega) (by omega)
theorem refGet_any (L : List (Int × ByteArray)) (last id : Int) (hL : L.length < 9000000000000000000) : caulkref17_Pool_Get.f (L.length + 1) (refL L) last id = some (getP L id) := by
 unfold caulkref17_Pool_Get.f
 rw [refL_len]
 exact refGet L id hL L.length 0 _ (by omega) (by omega)
theorem refIds (L : List (Int × ByteArray)) (hL : L.length < 1000000000000) : ∀ (d i k : Nat), i + d = L.length → d < k → caulkref17_Pool_Ids.l0 k ((L.take i).map Prod.fst) (refL L) (L.length : Int) (i : Int) = some (L.map Prod.fst)
 | 0, i, k, h, hk => by
  obtain ⟨k, rfl⟩ : ∃ m, k = m + 1 := ⟨k - 1, by omega⟩
  rw [caulkref17_Pool_Ids.l0, if_neg (by omega), List.take_of_length_le (by omega)]
 | d + 1, i, k, h, hk => by
  obtain ⟨k, rfl⟩ : ∃ m, k = m + 1 := ⟨k - 1, by omega⟩
  have hi : i < L.length := by omega
  have hl : ((L.take i).map Prod.fst).length ≤ i := by rw [List.length_map]; exact List.length_take_le _ _
  have ht : (L.take i).map Prod.fst ++ [(L[i]).1] = (L.take (i + 1)).map Prod.fst := by rw [List.take_succ_eq_append_getElem hi, List.map_append]; rfl
  rw [caulkref17_Pool_Ids.l0, if_pos (by omega), if_pos (by omega), if_pos (by rw [refL_len]; omega), rd_refL L i hi, if_pos (by omega), wrap_small (by omega) (by omega)]
  show caulkref17_Pool_Ids.l0 k ((L.take i).map Prod.fst ++ [(L[i]).1]) _ _ _ = _
  rw [ht]
  exact refIds L hL d (i + 1) k (by omega) (by omega)
theorem refIds_any (L : List (Int × ByteArray)) (last : Int) (hL : L.length < 1000000000000) : caulkref17_Pool_Ids.f (L.length + 1) (refL L) last = some (L.map Prod.fst) := by
 unfold caulkref17_Pool_Ids.f
 rw [refL_len]
 exact refIds L hL L.length 0 _ (by omega) (by omega)
theorem refBytes (L : List (Int × ByteArray)) (hL : L.length < 1000000000000) (hs : ∀ q ∈ L, q.2.size ≤ 65536) : ∀ (d i k : Nat), i + d = L.length → d < k → caulkref17_Pool_Bytes.l0 k (sizeP (L.take i) : Int) (refL L) (L.length : Int) (i : Int) = some (sizeP L : Int)
 | 0, i, k, h, hk => by
  obtain ⟨k, rfl⟩ : ∃ m, k = m + 1 := ⟨k - 1, by omega⟩
  rw [caulkref17_Pool_Bytes.l0, if_neg (by omega), List.take_of_length_le (by omega)]
 | d + 1, i, k, h, hk => by
  obtain ⟨k, rfl⟩ : ∃ m, k = m + 1 := ⟨k - 1, by omega⟩
  have hi : i < L.length := by omega
  have ht : sizeP (L.take (i + 1)) = sizeP (L.take i) + (L[i]).2.size := by rw [List.take_succ_eq_append_getElem hi, sizeP_append, sizeP, sizeP]; rfl
  have hle := sizeP_le (l := L.take (i + 1)) (fun q hq => hs q (List.mem_of_mem_take hq))
  have hlt : (L.take (i + 1)).length ≤ i + 1 := List.length_take_le _ _
  rw [caulkref17_Pool_Bytes.l0, if_pos (by omega), if_pos (by omega), if_pos (by rw [refL_len]; omega), rd_refL L i hi, wrap_small (x := (i : Int) + 1) (by omega) (by omega)]
  show caulkref17_Pool_Bytes.l0 k (wrap64 ((sizeP (L.take i) : Int) + ((L[i]).2.size : Int))) _ _ _ = _
  rw [wrap_small (by omega) (by omega), ← Int.natCast_add, ← ht]
  exact refBytes L hL hs d (i + 1) k (by omega) (by omega)
theorem refBytes_any (L : List (Int × ByteArray)) (last : Int) (hL : L.length < 1000000000000) (hs : ∀ q ∈ L, q.2.size ≤ 65536) : caulkref17_Pool_Bytes.f (L.length + 1) (refL L) last = some (sizeP L : Int) := by
 unfold caulkref17_Pool_Bytes.f
 rw [refL_len]
 exact refBytes L hL hs L.length 0 _ (by omega) (by omega)
theorem sameL (xs : List Int) (hL : xs.length < 9000000000000000000) : ∀ (d i k : Nat), i + d = xs.length → d < k → caulkref05_Same.l0 k xs xs (xs.length : Int) (i : Int) = some true
 | 0, i, k, h, hk => by
  obtain ⟨k, rfl⟩ : ∃ m, k = m + 1 := ⟨k - 1, by omega⟩
  rw [caulkref05_Same.l0, if_neg (by omega)]
 | d + 1, i, k, h, hk => by
  obtain ⟨k, rfl⟩ : ∃ m, k = m + 1 := ⟨k - 1, by omega⟩
  rw [caulkref05_Same.l0, if_pos (by omega), if_pos (by omega), if_pos (by omega), if_pos (by omega), if_pos rfl, wrap_small (by omega) (by omega)]
  exact sameL xs hL d (i + 1) k (by omega) (by omega)
theorem same_any (xs : List Int) (hL : xs.length < 9000000000000000000) : caulkref05_Same.f (xs.length + 1) xs xs = some true := by
 unfold caulkref05_Same.f
 rw [if_pos rfl]
 exact sameL xs hL xs.length 0 _ (by omega) (by omega)
theorem refAdd_any (L : List (Int × ByteArray)) (last : Int) (s : ByteArray) (hL : L.length < 1000000000000) (h0 : 0 ≤ last) (h1 : last < 2000000000) : caulkref17_Pool_Add.f (refL L) last s = some (refL (addP last L s).2.1, (addP last L s).1, (addP last L s).2.2.1, (addP last L s).2.2.2) := by
 unfold caulkref17_Pool_Add.f addP
 by_cases e1 : 65536 < s.size
 ·rw [if_pos (by omega), if_pos e1]
 ·rw [if_neg (by omega), if_neg e1]
  by_cases e2 : last = 1073741824
  ·rw [if_pos e2, if_pos e2]
  ·rw [if_neg e2, if_neg e2]
   simp only [Option.bind, List.nil_append, List.length_nil]
   rw [if_pos (by rw [refL_len]; omega)]
   rw [if_pos (by rw [refL_len]; simp; omega), wrap_small (by omega) (by omega)]
   simp [refL]
theorem refKeep1 (ids : List Int) (l6 l14 l121 : List S135) (a15 a16 a121 idx : Int) (s : ByteArray) (hI : ids.length < 9000000000000000000) : ∀ (d j k : Nat) (is : Bool), j + d = ids.length → d < k →
  ∃ k', k' + d + 1 = k ∧ caulkref17_Pool_Keep.l1 k ids l6 is l14 a15 a16 ids (ids.length : Int) (j : Int) l121 a121 idx s = caulkref17_Pool_Keep.l1 (k' + 1) ids l6 (is || decide (idx ∈ ids.drop j)) l14 a15 a16 ids (ids.length : Int) (ids.length : Int) l121 a121 idx s
 | 0, j, k, is, h, hk => ⟨k - 1, by omega, by
  have e : j = ids.length := by omega
  subst e
  have e2 : k - 1 + 1 = k := by omega
  rw [e2, List.drop_length]; simp⟩
 | d + 1, j, k, is, h, hk => by
  obtain ⟨k, rfl⟩ : ∃ m, k = m + 1 := ⟨k - 1, by omega⟩
  have hj : j < ids.length := by omega
  obtain ⟨k', h1, h2⟩ := refKeep1 ids l6 l14 l121 a15 a16 a121 idx s hI d (j + 1) k (is || decide (idx = ids[j])) (by omega) (by omega)
  refine ⟨k', by omega, ?_⟩
  have hd : ids.drop j = ids[j] :: ids.drop (j + 1) := List.drop_eq_getElem_cons hj
  have hr : rd ids (j : Int) = ids[j] := by simp [rd, List.getD, hj]
  have e3 : (is || decide (idx = ids[j]) || decide (idx ∈ ids.drop (j + 1))) = (is || decide (idx ∈ ids.drop j)) := by
   rw [hd, Bool.or_assoc]; congr 1
   rw [Bool.eq_iff_iff]; simp only [Bool.or_eq_true, decide_eq_true_eq, List.mem_cons]
  rw [e3] at h2
  rw [← h2, caulkref17_Pool_Keep.l1, if_pos (by omega), if_pos (by omega), if_pos (by omega), hr, wrap_small (by omega) (by omega)]
  cases is
  ·rw [if_neg (by decide), Bool.false_or]
   rfl
  ·rw [if_pos rfl, Bool.true_or]; rfl
theorem refKeep (L : List (Int × ByteArray)) (ids : List Int) (last : Int) (hL : L.length < 1000000000000) (hI : ids.length < 9000000000000000000) : ∀ (d i k : Nat), i + d = L.length → d * (ids.length + 2) < k →
  caulkref17_Pool_Keep.l0 k ids (refL (keepP (L.take i) ids)) (refL L) (L.length : Int) (i : Int) (refL L) last = some (refL (keepP L ids), last, (L.length : Int) - ((keepP L ids).length : Int))
 | 0, i, k, h, hk => by
  obtain ⟨k, rfl⟩ : ∃ m, k = m + 1 := ⟨k - 1, by omega⟩
  have hle : (keepP L ids).length ≤ L.length := List.length_filter_le _ _
  rw [caulkref17_Pool_Keep.l0, if_neg (by omega), List.take_of_length_le (by omega), refL_len, refL_len, wrap_small (by omega) (by omega)]
 | d + 1, i, k, h, hk => by
  obtain ⟨k, rfl⟩ : ∃ m, k = m + 1 := ⟨k - 1, by omega⟩
  have hi : i < L.length := by omega
  have hk2 : d * (ids.length + 2) + (ids.length + 2) < k + 1 := by rw [Nat.add_mul] at hk; omega
  rw [caulkref17_Pool_Keep.l0, if_pos (by omega), if_pos (by omega), if_pos (by rw [refL_len]; omega), rd_refL L i hi]
  obtain ⟨k', h1, h2⟩ := refKeep1 ids (refL (keepP (L.take i) ids)) (refL L) (refL L) (L.length : Int) (i : Int) last (L[i]).1 (L[i]).2 hI ids.length 0 k false (by omega) (by omega)
  have h2' := h2
  simp only [Int.natCast_zero, Bool.false_or, List.drop_zero] at h2'
  show caulkref17_Pool_Keep.l1 k ids _ false _ _ _ ids _ 0 _ _ (L[i]).1 (L[i]).2 = _
  have h3 : caulkref17_Pool_Keep.l1 k ids (refL (keepP (L.take i) ids)) false (refL L) (L.length : Int) (i : Int) ids (ids.length : Int) 0 (refL L) last (L[i]).1 (L[i]).2 = _ := h2'
  rw [h3, caulkref17_Pool_Keep.l1, if_neg (by omega)]
  have hlk : (keepP (L.take i) ids).length ≤ i := Nat.le_trans (List.length_filter_le _ _) (List.length_take_le _ _)
  have ht : keepP (L.take (i + 1)) ids = keepP (L.take i) ids ++ (if (L[i]).1 ∈ ids then [L[i]] else []) := by
   rw [List.take_succ_eq_append_getElem hi]
   unfold keepP
   rw [List.filter_append]
   congr 1
   by_cases e : (L[i]).1 ∈ ids <;> simp [e]
  have ih := refKeep L ids last hL hI d (i + 1) k' (by omega) (by omega)
  rw [ht] at ih
  by_cases e : (L[i]).1 ∈ ids
  ·rw [decide_eq_true e, if_pos rfl, if_pos (by rw [refL_len]; omega), wrap_small (by omega) (by omega)]
   rw [if_pos e] at ih
   have e4 : refL (keepP (L.take i) ids) ++ [(⟨(L[i]).1, (L[i]).2⟩ : S135)] = refL (keepP (L.take i) ids ++ [L[i]]) := by simp [refL]
   rw [e4]
   exact ih
  ·rw [decide_eq_false e, if_neg (by decide), wrap_small (by omega) (by omega)]
   rw [if_neg e, List.append_nil] at ih
   exact ih
theorem refKeep_any (L : List (Int × ByteArray)) (ids : List Int) (last : Int) (hL : L.length < 1000000000000) (hI : ids.length < 9000000000000000000) :
  caulkref17_Pool_Keep.f (L.length * (ids.length + 2) + 1) (refL L) last ids = some (refL (keepP L ids), last, (L.length : Int) - ((keepP L ids).length : Int)) := by
 unfold caulkref17_Pool_Keep.f
 rw [refL_len]
 exact refKeep L ids last hL hI L.length 0 _ (by omega) (by omega)
theorem step_kept {B : Nat} {w A C : World} {S : Nat → Prop} (h1 : Below B w A) (h2 : Below B w C) (hk : Kept A C S) : Step S A C :=
 ⟨⟨h2.os.trans h1.os.symm, h2.tape.trans h1.tape.symm, h2.output.trans h1.output.symm, hk.1, fun k hk0 => absurd hk0 (Nat.not_lt_zero k)⟩, hk.2⟩
theorem R135_step {S : Nat → Prop} {w w' : World} {base : Nat} {ok ok' : Nat → Prop} {v : Value} {xs : List S135} (h : Kd.R k135 135 w base ok v xs) (hs : Step S w w') (hn : ∀ g, v.ownBlock = some g → ¬ S g) (hok : ∀ g, v.ownBlock = some g → ok' g) : Kd.R k135 135 w' base ok' v xs := by
 obtain ⟨h0, inner, ho, hr⟩ := h
 exact ⟨hok, inner, ownsRow_step hs ho hn, hr.1, fun j p hj => by have := k135_openM (hr.2 j p hj); rw [this]; exact k135_mkM _ _ _ _⟩
def PlaysAt (w wr : World) (T p b : Nat) (last : Int) (vL : Value) (L : List (Int × ByteArray)) : Prop :=
 PoolAt wr p b last L ∧ wr.heap[T]? = some (.cells #[vL, .int .i64 last] 71 (0, 0)) ∧ Kd.R k135 135 wr w.heap.size (fun q => vL.ownBlock = some q) vL (refL L) ∧ Below w.heap.size w wr ∧ w.heap.size ≤ p ∧ w.heap.size ≤ b ∧ w.heap.size ≤ T
theorem PlaysAt.ne {w wr : World} {T p b : Nat} {last : Int} {vL : Value} {L : List (Int × ByteArray)} (h : PlaysAt w wr T p b last vL L) : p ≠ T ∧ b ≠ T ∧ ∀ g, vL.ownBlock = some g → g ≠ p ∧ g ≠ b ∧ g ≠ T ∧ g < wr.heap.size ∧ w.heap.size ≤ g := by
 obtain ⟨hP, hT, hR, _⟩ := h
 obtain ⟨D, ⟨es, clock, h2, _⟩, _⟩ := hP.2.1
 refine ⟨fun e => ?_, fun e => ?_, fun g hg => ?_⟩
 ·subst e; rw [hP.1] at hT; cases hT
 ·subst e; rw [h2] at hT; cases hT
 ·obtain ⟨inner, ho⟩ := Kd.R_own hR
  rcases ho.2 with ⟨rfl, _⟩ | ⟨g', cap, cur, rfl, hb, hg', _⟩
  ·simp [Value.ownBlock] at hg
  ·simp [Value.ownBlock] at hg
   subst hg
   refine ⟨fun e => ?_, fun e => ?_, fun e => ?_, (Array.getElem?_eq_some_iff.1 hg').1, hb⟩
   ·subst e; rw [hP.1] at hg'; cases hg'
   ·subst e; rw [h2] at hg'; cases hg'
   ·subst e; rw [hT] at hg'; cases hg'
theorem PlaysAt.step {w wr w' : World} {T p b : Nat} {last : Int} {vL : Value} {L : List (Int × ByteArray)} (h : PlaysAt w wr T p b last vL L) (hs : Step (fun _ => False) wr w') : PlaysAt w w' T p b last vL L :=
 ⟨h.1.step hs (fun h => h) (fun h => h), hs.block h.2.1 (fun h => h), R135_step h.2.2.1 hs (fun _ _ h => h) (fun _ h => h), h.2.2.2.1.trans (hs.below h.2.2.2.1.size (fun _ h => h.elim)), h.2.2.2.2⟩
theorem own135 {w : World} {base : Nat} {ok : Nat → Prop} {v : Value} {xs : List S135} (h : Kd.R k135 135 w base ok v xs) {g : Nat} (hg : v.ownBlock = some g) : ∃ cur, w.heap[g]? = some (.cells cur 135 (0, 0)) := by
 obtain ⟨inner, ho⟩ := Kd.R_own h
 rcases ho.2 with ⟨rfl, _⟩ | ⟨g', cap, cur, rfl, hb, hg', _⟩
 ·simp [Value.ownBlock] at hg
 ·simp [Value.ownBlock] at hg; subst hg; exact ⟨cur, hg'⟩
theorem own135_ne {w : World} {base : Nat} {ok : Nat → Prop} {v : Value} {xs : List S135} (h : Kd.R k135 135 w base ok v xs) {q : Nat} {o : Obj} (hq : w.heap[q]? = some o) (ho : ∀ cur, o ≠ .cells cur 135 (0, 0)) : v.ownBlock ≠ some q := by
 intro e
 obtain ⟨cur, hc⟩ := own135 h e
 rw [hc] at hq
 exact ho cur (Option.some.inj hq).symm
theorem PoolAt.map {w : World} {p b : Nat} {last : Int} {L : List (Int × ByteArray)} (h : PoolAt w p b last L) : ∃ es clock, w.heap[b]? = some (.map es clock) := by
 obtain ⟨D, ⟨es, clock, h2, _⟩, _⟩ := h.2.1
 exact ⟨es, clock, h2⟩
theorem own135_pool {w : World} {base : Nat} {ok : Nat → Prop} {v : Value} {xs : List S135} (h : Kd.R k135 135 w base ok v xs) {p b : Nat} {last : Int} {L : List (Int × ByteArray)} (hP : PoolAt w p b last L) : ∀ g, v.ownBlock = some g → ¬ (g = p ∨ g = b) := by
 rintro g hg (rfl | rfl)
 ·exact own135_ne h hP.1 (fun _ e => by cases e) hg
 ·obtain ⟨es, clock, hb⟩ := hP.map
  exact own135_ne h hb (fun _ e => by cases e) hg
theorem plays_put {w w6 : World} {T p b : Nat} {last lx : Int} {vX v0 : Value} {L : List (Int × ByteArray)} {base : Nat} {ok : Nat → Prop} (hP6 : PoolAt w6 p b last L) (hT6 : w6.heap[T]? = some (.cells #[vX, .int .i64 lx] 71 (0, 0))) (hR6 : Kd.R k135 135 w6 base ok v0 (refL L)) (hbase : w.heap.size ≤ base) (hB6 : Below w.heap.size w w6) (h1 : w.heap.size ≤ p) (h2 : w.heap.size ≤ b) (h3 : w.heap.size ≤ T) :
  PlaysAt w ((w6.setCell ⟨T, 0, none⟩ v0).setCell ⟨T, 1, none⟩ (.int .i64 last)) T p b last v0 L := by
 have hs : Step (fun q => q = T) w6 ((w6.setCell ⟨T, 0, none⟩ v0).setCell ⟨T, 1, none⟩ (.int .i64 last)) := (Step.setCell w6 (p := ⟨T, 0, none⟩) (S := fun q => q = T) rfl _).trans (Step.setCell _ (p := ⟨T, 1, none⟩) (S := fun q => q = T) rfl _) (fun _ h => h) (fun _ h => Or.inl h)
 have npT : p ≠ T := by rintro rfl; rw [hP6.1] at hT6; cases hT6
 have nbT : b ≠ T := by rintro rfl; obtain ⟨es, clock, hb⟩ := hP6.map; rw [hb] at hT6; cases hT6
 have nT : v0.ownBlock ≠ some T := own135_ne hR6 hT6 (fun _ e => by cases e)
 refine ⟨hP6.step hs npT nbT, ?_, Kd.R_lower (R135_step hR6 hs (fun g hg e => nT (by rw [hg, e])) (fun _ h => h)) hbase, hB6.trans (hs.below hB6.size (fun q hq => hq ▸ h3)), h1, h2, h3⟩
 have := blk_set (blk_set hT6 0 v0) 1 (.int .i64 last)
 simpa using this
theorem ids_slice {w : World} {p b : Nat} {last : Int} {L : List (Int × ByteArray)} (h : PoolAt w p b last L) :
  Calls Try.prog 36 #[.pointer (some ⟨p, 0, none⟩)] w fun e w' => ∃ A c, e = .returned (.slice A L.length c) ∧ L.length ≤ c ∧ Kd.C (Kd.int .i64) w' A L.length (L.map Prod.fst) ∧ Below w.heap.size w w' := by
 refine (pool_Ids_any w p b last L h).mono ?_
 rintro e w' ⟨v, rfl, hR, hb⟩
 obtain ⟨A, c, rfl, hc, hC⟩ := Kd.R_reads hR
 rw [List.length_map] at hC hc ⊢
 exact ⟨A, c, rfl, hc, hC, hb⟩
theorem ref_ids_slice {w : World} {Av : Option Addr} {cv : Nat} {last : Int} {L : List (Int × ByteArray)} (hL : L.length < 1000000000000) (hC : Kd.C k135 w Av L.length (refL L)) (hc : L.length ≤ cv) :
  Calls Try.prog 43 #[.agg #[.slice Av L.length cv, .int .i64 last]] w fun e w' => ∃ A c, e = .returned (.slice A L.length c) ∧ L.length ≤ c ∧ Kd.C (Kd.int .i64) w' A L.length (L.map Prod.fst) ∧ Below w.heap.size w w' := by
 have h := caulkref17_Pool_Ids.calls (L.length + 1) Av cv (refL L) last (L.map Prod.fst) w (by rw [refL_len]; exact hC) (by rw [refL_len]; exact hc) (refIds_any L last hL)
 rw [refL_len] at h
 refine h.mono ?_
 rintro e w' ⟨v, rfl, hR, hb⟩
 obtain ⟨A, c, rfl, hc, hC⟩ := Kd.R_reads hR
 rw [List.length_map] at hC hc ⊢
 exact ⟨A, c, rfl, hc, hC, hb⟩
theorem same_slices {w : World} {A1 A2 : Option Addr} {c1 c2 : Nat} {L : List (Int × ByteArray)} (hL : L.length < 1000000000000) (h1 : Kd.C (Kd.int .i64) w A1 L.length (L.map Prod.fst)) (l1 : L.length ≤ c1) (h2 : Kd.C (Kd.int .i64) w A2 L.length (L.map Prod.fst)) (l2 : L.length ≤ c2) :
  Calls Try.prog 42 #[.slice A1 L.length c1, .slice A2 L.length c2] w fun e w' => e = .returned (.bool true) ∧ Below w.heap.size w w' := by
 have h := caulkref05_Same.calls ((L.map Prod.fst).length + 1) A1 c1 (L.map Prod.fst) A2 c2 (L.map Prod.fst) true w (by rw [List.length_map]; exact h1) (by rw [List.length_map]; exact l1) (by rw [List.length_map]; exact h2) (by rw [List.length_map]; exact l2) (same_any _ (by rw [List.length_map]; omega))
 rw [List.length_map] at h
 refine h.mono ?_
 rintro e w' ⟨rfl, n, rfl⟩
 exact ⟨rfl, pw_below_drewN (Below.refl _ _) n⟩
theorem ref_bytes_slice {w : World} {Av : Option Addr} {cv : Nat} {last : Int} {L : List (Int × ByteArray)} (hL : L.length < 1000000000000) (hs : ∀ q ∈ L, q.2.size ≤ 65536) (hC : Kd.C k135 w Av L.length (refL L)) (hc : L.length ≤ cv) :
  Calls Try.prog 45 #[.agg #[.slice Av L.length cv, .int .i64 last]] w fun e w' => e = .returned (.int .i64 (sizeP L)) ∧ Below w.heap.size w w' := by
 have h := caulkref17_Pool_Bytes.calls (L.length + 1) Av cv (refL L) last (sizeP L) w (by rw [refL_len]; exact hC) (by rw [refL_len]; exact hc) (refBytes_any L last hL hs)
 rw [refL_len] at h
 exact h
def caulklaw17_PoolPlays.Pure : Prop := True
set_option maxRecDepth 100000 in
set_option maxHeartbeats 2000000 in
theorem caulklaw17_PoolPlays.walk (P : caulklaw17_PoolPlays.Pure) (A0 : Option Addr) (c0 : Nat) (l0 : List S62) (w : World) (hr0 : Kd.C k62 w A0 l0.length l0) (hc0 : l0.length ≤ c0) (hw0 : (l0.length ≤ maxLen ∧ l0.length * 56 ≤ 140737488351232 ∧ ∀ z0 ∈ l0, wf62 z0)) :
  Calls Try.prog 9 #[.slice A0 l0.length c0] w fun e w' => e = .returned (.bool true) ∧ Below w.heap.size w w' := by
 refine (callsIn_wide (n := 4)).1 ?_
 refine callsIn_of_wp Try.func9 rfl trivial ?_ rfl
 simp only [Try.ntmps9, List.size_toArray, List.length_cons, List.length_nil, Nat.reduceAdd, Nat.reduceSub, Array.replicate_succ, Array.replicate_zero, List.push_toArray, List.append_toArray, List.nil_append, List.cons_append]
 gi_wp2
 refine ⟨trivial, ?_⟩
 gi_at_call 32
 refine (callsIn_wide.2 (lives17_any w)).mono ?_
 rintro e w1 ⟨rfl, hB1⟩
 gi_wp2
 refine ⟨trivial, ?_⟩
 gi_at_call 33
 refine (callsIn_wide.2 (pool_New_any w1)).mono ?_
 rintro e w2 ⟨p0, b0, rfl, h2, hp2, hb2, hB2⟩
 have hB3 : Below w.heap.size w w2 := hB1.trans (hB2.mono hB1.size)
 have hws1 := hB1.size
 by_cases hlen : 100 < l0.length
 ·have d1 : decide (100 < (l0.length : Int)) = true := decide_eq_true (by omega)
  gi_wp2
  go_ret
  exact ⟨rfl, hB3⟩
 ·have d1 : decide (100 < (l0.length : Int)) = false := decide_eq_false (by omega)
  have hz71 : ∀ w, (zeroValue 71).run Try.prog w = .ok (.agg #[.slice none 0 0, .int .i64 0]) w := fun w => by kernel_rfl
  gi_wp2
  have hA : PlaysAt w (w2.alloc (.cells #[.slice none 0 0, .int .i64 0] 71)) w2.heap.size p0 b0 0 (.slice none 0 0) [] :=
   ⟨h2.step (Step.alloc (fun _ => False) _ _) (fun h => h) (fun h => h), World.alloc_heap_new w2 _, Kd.R_nil _ _ _ _ _, hB3.alloc hB3.size _, by omega, by omega, hB3.size⟩
  gi_loopw [3, 33] (fun t3 t33 wr => ∃ (k p b : Nat) (last : Int) (vL : Value) (L : List (Int × ByteArray)), k ≤ l0.length ∧ t33 = .int .i64 k ∧ t3 = .pointer (some ⟨p, 0, none⟩) ∧ last ≤ k ∧ PlaysAt w wr w2.heap.size p b last vL L) (fun _ t33 _ => l0.length - (intOf t33).toNat)
  case atStart => exact ⟨0, p0, b0, 0, _, [], Nat.zero_le _, rfl, rfl, Int.le_refl _, hA⟩
  case round =>
   obtain ⟨k, p, b, last, vL, L, hk, rfl, rfl, hlk, hA⟩ := hrel
   by_cases hlt : k < l0.length
   ·have hB := hA.2.2.2.1
    have hwrs := hB.size
    obtain ⟨ad, A3, c3, ea, x0, x1, x2, x3, hl3, hi3⟩ := at_T62 hr0 (k : Int) (by omega) (by omega)
    cases ea
    have hwf := hw0.2.2 _ (List.getElem_mem hlt)
    obtain ⟨x, hx⟩ : ∃ x, x = rd_T62 l0 (k : Int) := ⟨_, rfl⟩
    have hxd : l0[k] = x := by rw [hx]; simp [rd_T62, List.getD, hlt]
    rw [hxd] at hwf
    rw [← hx] at x0 x1 x2 x3 hl3 hi3
    clear hx hxd
    replace x0 := (hB.cell (World.block_lt_of_cell? w _ x0)).trans x0
    replace x1 := (hB.cell (World.block_lt_of_cell? w _ x1)).trans x1
    replace x2 := (hB.cell (World.block_lt_of_cell? w _ x2)).trans x2
    replace x3 := (hB.cell (World.block_lt_of_cell? w _ x3)).trans x3
    simp only [Int.toNat_natCast] at x0 x1 x2 x3
    have hk100 : (k : Int) < 100 := by omega
    gi_upto_region 10 with (fail)
    repeat ((fail_if_success with_reducible change (Code.block 2 _).wpIn _ _ _ _ _ _); (first | go_values | gi_guarded | gi_step | gi_upon | gi_back | go_simp))
    obtain ⟨Wa, hWa⟩ : ∃ Wa, Wa = wr.alloc (.cells #[.int .i64 x.f0, .string x.f1, .int .i64 x.f2, .slice A3 x.f3.length c3] 62) := ⟨_, rfl⟩
    have hsa : Step (fun _ => False) wr Wa := by rw [hWa]; exact Step.alloc _ _ _
    have hba : Wa.heap[wr.heap.size]? = some (.cells #[.int .i64 x.f0, .string x.f1, .int .i64 x.f2, .slice A3 x.f3.length c3] 62 (0, 0)) := by rw [hWa]; exact World.alloc_heap_new wr _
    have hza : Wa.heap.size = wr.heap.size + 1 := by rw [hWa]; simp
    have hAa := hA.step hsa
    have hBa := hAa.2.2.2.1
    have hi3a := Kd.C_below hi3 hBa
    obtain ⟨hpT, hbT, hgv⟩ := hA.ne
    have hps : p < wr.heap.size := (Array.getElem?_eq_some_iff.1 hA.1.1).1
    have hbs := hA.1.2.1.lt
    have hTs : w2.heap.size < wr.heap.size := (Array.getElem?_eq_some_iff.1 hA.2.1).1
    obtain ⟨hq0, hq1, hq2⟩ : 0 ≤ last ∧ last ≤ 1073741824 ∧ (L.length : Int) ≤ last := ⟨hA.1.2.2.1, hA.1.2.2.2.1, hA.1.2.2.2.2.1⟩
    obtain ⟨hA1, hA2, hA3⟩ := hA.2.2.2.2
    obtain ⟨Av, cv, rfl, hcv, hCv⟩ := Kd.R_reads hAa.2.2.1
    rw [refL_len] at hCv hcv
    have hRa := hAa.2.2.1
    rw [refL_len] at hRa
    have hTa := hAa.2.1
    rw [refL_len] at hTa
    rw [refL_len] at hgv
    have hLn : L.length < 1000000000000 := by omega
    rw [← hWa]
    have a0 : Wa.cell? ⟨wr.heap.size, 0, none⟩ = some (.int .i64 x.f0) := by simp [World.cell?, hba]
    have a1 : Wa.cell? ⟨wr.heap.size, 1, none⟩ = some (.string x.f1) := by simp [World.cell?, hba]
    have a2 : Wa.cell? ⟨wr.heap.size, 2, none⟩ = some (.int .i64 x.f2) := by simp [World.cell?, hba]
    have a3 : Wa.cell? ⟨wr.heap.size, 3, none⟩ = some (.slice A3 x.f3.length c3) := by simp [World.cell?, hba]
    have t0 : Wa.cell? ⟨w2.heap.size, 0, none⟩ = some (.slice Av L.length cv) := by simp [World.cell?, hAa.2.1, refL_len]
    have t1 : Wa.cell? ⟨w2.heap.size, 1, none⟩ = some (.int .i64 last) := by simp [World.cell?, hAa.2.1]
    clear x0 x1 x2 x3 hi3 hA hWa hB hlen d1 hz71 h2 hB1 hB2
    gi_cut [3] from 35 (fun t3 wc => ∃ (p b : Nat) (last : Int) (vL : Value) (L : List (Int × ByteArray)), t3 = .pointer (some ⟨p, 0, none⟩) ∧ last ≤ (k : Int) + 1 ∧ PlaysAt w wc w2.heap.size p b last vL L)
    case first =>
     by_cases hk0 : x.f0 = 0
     ·have e0 : (x.f0 == 0) = true := by simpa using hk0
      have hRA := caulkref17_Pool_Add.calls (fun q => (Value.slice Av L.length cv).ownBlock = some q) (.slice Av L.length cv) (refL L) last x.f1 _ _ _ _ w Wa hBa hRa (refAdd_any L last x.f1 hLn hq0 (by omega))
      have hsx : x.f1.size ≤ maxLen := by have := hwf.2.1; unfold maxLen; omega
      gi_wp2
      refine ⟨trivial, ?_⟩
      gi_at_call 38
      refine (callsIn_wide.2 hRA).mono ?_
      rintro e w4 ⟨v0, rfl, hR4, hB4, hK4⟩
      obtain ⟨A4, n4, c4, rfl⟩ : ∃ A n c, v0 = .slice A n c := by
       obtain ⟨A, c, e⟩ := Kd.R_slice hR4
       exact ⟨A, _, c, e⟩
      have hs4 := step_kept hBa hB4 hK4
      have hP4 := hAa.1.step hs4 (fun h => (hgv p h).1 rfl) (fun h => (hgv b h).2.1 rfl)
      have hT4 := hs4.block hTa (fun h => (hgv _ h).2.2.1 rfl)
      have hx4 := hs4.block hba (fun h => by have := (hgv _ h).2.2.2.1; omega)
      have hz4 := hs4.size
      obtain ⟨W5, hW5⟩ : ∃ W5, W5 = w4.alloc (.cells #[.slice A4 n4 c4, .int .i64 (addP last L x.f1).1] 71) := ⟨_, rfl⟩
      have hs5 : Step (fun _ => False) w4 W5 := by rw [hW5]; exact Step.alloc _ _ _
      have hv5 : W5.heap[w4.heap.size]? = some (.cells #[.slice A4 n4 c4, .int .i64 (addP last L x.f1).1] 71 (0, 0)) := by rw [hW5]; exact World.alloc_heap_new w4 _
      have hx5 := hs5.block hx4 (fun h => h)
      have c51 : W5.cell? ⟨wr.heap.size, 1, none⟩ = some (.string x.f1) := by simp [World.cell?, hx5]
      have hP5 := hP4.step hs5 (fun h => h) (fun h => h)
      have hAdd := pool_Add_any W5 p b last L x.f1 hP5 hsx
      clear t0 t1 a0 a1 a2 a3
      rw [hW5] at c51
      gi_wp2
      refine ⟨trivial, ?_⟩
      gi_at_call 34
      rw [← hW5]
      refine (callsIn_wide.2 hAdd).mono ?_
      rintro e w6 ⟨rfl, hP6, hs6⟩
      have hz5 : W5.heap.size = w4.heap.size + 1 := by rw [hW5]; simp
      have hv6 := hs6.block hv5 (by omega)
      have hT6 := hs6.block (hs5.block hT4 (fun h => h)) (fun h => h.elim (fun e => hpT e.symm) (fun e => hbT e.symm))
      have hR5 := R135_step hR4 hs5 (fun _ _ h => h) (fun _ _ => trivial : ∀ g, _ → (fun _ => True) g)
      have hR6 := R135_step hR5 hs6 (own135_pool hR5 hP5) (fun _ _ => trivial : ∀ g, _ → (fun _ => True) g)
      have hB6 : Below w.heap.size w w6 := (hB4.trans (hs5.below hB4.size (fun _ h => h.elim))).trans (hs6.below (by have := hB4.size; omega) (fun q hq => by rcases hq with rfl | rfl <;> omega))
      have c60 : w6.cell? ⟨w4.heap.size, 0, none⟩ = some (.slice A4 n4 c4) := by simp [World.cell?, hv6]
      have c61 : w6.cell? ⟨w4.heap.size, 1, none⟩ = some (.int .i64 (addP last L x.f1).1) := by simp [World.cell?, hv6]
      have c62 : w6.cell? ⟨w2.heap.size, 0, none⟩ = some (.slice Av L.length cv) := by simp [World.cell?, hT6]
      have c63 : w6.cell? ⟨w2.heap.size, 1, none⟩ = some (.int .i64 last) := by simp [World.cell?, hT6]
      have f62 : w6.frozen? ⟨w2.heap.size, 0, none⟩ = false := by simp [World.frozen?, hT6]
      have f63 : w6.frozen? ⟨w2.heap.size, 1, none⟩ = false := by simp [World.frozen?, hT6]
      gi_wp2
      gi_meet
      case rel =>
       refine ⟨p, b, (addP last L x.f1).1, .slice A4 n4 c4, (addP last L x.f1).2.1, rfl, ?_, plays_put hP6 hT6 hR6 (Nat.le_refl _) hB6 hA1 hA2 hA3⟩
       unfold addP; split
       ·show last ≤ _; omega
       ·split
        ·show last ≤ _; omega
        ·show last + 1 ≤ _; omega
     ·by_cases hk1 : x.f0 = 1
      ·have e0 : (x.f0 == 0) = false := by simpa using hk0
       have e1 : (x.f0 == 1) = true := by simpa using hk1
       have hG := caulkref17_Pool_Get.calls (L.length + 1) Av cv (refL L) last x.f2 (getP L x.f2).1 (getP L x.f2).2 Wa (by rw [refL_len]; exact hCv) (by rw [refL_len]; exact hcv) (refGet_any L last x.f2 (by omega))
       rw [refL_len] at hG
       gi_wp2
       refine ⟨trivial, ?_⟩
       gi_at_call 39
       refine (callsIn_wide.2 hG).mono ?_
       rintro e w4 ⟨rfl, hB4⟩
       have hA4 := hAa.step (Step.of_below (S := fun _ => False) hB4)
       have hx4 := (Step.of_below (S := fun _ => False) hB4).block hba (fun h => h)
       have c42 : w4.cell? ⟨wr.heap.size, 2, none⟩ = some (.int .i64 x.f2) := by simp [World.cell?, hx4]
       have hG2 := pool_Get_any w4 p b last L x.f2 hA4.1 hwf.2.2.1
       gi_wp2
       refine ⟨trivial, ?_⟩
       gi_at_call 37
       refine (callsIn_wide.2 hG2).mono ?_
       rintro e w6 ⟨rfl, hs6⟩
       gi_wp2
       gi_meet
       case rel => exact ⟨p, b, last, _, L, rfl, by omega, hA4.step hs6⟩
      ·by_cases hk2 : x.f0 = 2
       ·have e0 : (x.f0 == 0) = false := by simpa using hk0
        have e1 : (x.f0 == 1) = false := by simpa using hk1
        have e2 : (x.f0 == 2) = true := by simpa using hk2
        have hil : x.f3.length ≤ 4611686018427387904 := by have := hwf.2.2.2.2.1; omega
        have hG := caulkref17_Pool_Keep.calls (L.length * (x.f3.length + 2) + 1) Av cv (refL L) last A3 c3 x.f3 _ _ _ Wa (by rw [refL_len]; exact hCv) (by rw [refL_len]; exact hcv) hi3a hl3 (refKeep_any L x.f3 last hLn (by omega))
        rw [refL_len] at hG
        gi_wp2
        refine ⟨trivial, ?_⟩
        gi_at_call 40
        refine (callsIn_wide.2 hG).mono ?_
        rintro e w4 ⟨v0, rfl, hR4, hB4⟩
        obtain ⟨A4, n4, c4, rfl⟩ : ∃ A n c, v0 = .slice A n c := by
         obtain ⟨A, c, e⟩ := Kd.R_slice hR4
         exact ⟨A, _, c, e⟩
        have hs4 := Step.of_below (S := fun _ => False) hB4
        have hA4 := hAa.step hs4
        have hx4 := hs4.block hba (fun h => h)
        have hz4 := hs4.size
        obtain ⟨W5, hW5⟩ : ∃ W5, W5 = w4.alloc (.cells #[.slice A4 n4 c4, .int .i64 last] 71) := ⟨_, rfl⟩
        have hs5 : Step (fun _ => False) w4 W5 := by rw [hW5]; exact Step.alloc _ _ _
        have hv5 : W5.heap[w4.heap.size]? = some (.cells #[.slice A4 n4 c4, .int .i64 last] 71 (0, 0)) := by rw [hW5]; exact World.alloc_heap_new w4 _
        have hx5 := hs5.block hx4 (fun h => h)
        have c53 : W5.cell? ⟨wr.heap.size, 3, none⟩ = some (.slice A3 x.f3.length c3) := by simp [World.cell?, hx5]
        have hA5 := hA4.step hs5
        have hT5 := hA5.2.1
        rw [refL_len] at hT5
        have hKp := pool_Keep_any W5 p b last L A3 c3 x.f3 hA5.1 (Kd.C_below hi3a (hB4.trans (hs5.below hz4 (fun _ h => h.elim)))) hil hwf.2.2.2.2.2
        have hR5 := R135_step hR4 hs5 (fun _ _ h => h) (fun _ _ => trivial : ∀ g, _ → (fun _ => True) g)
        clear t0 t1 a0 a1 a2 a3
        rw [hW5] at c53
        gi_wp2
        refine ⟨trivial, ?_⟩
        gi_at_call 35
        rw [← hW5]
        refine (callsIn_wide.2 hKp).mono ?_
        rintro e w6 ⟨rfl, hP6, hs6⟩
        have hz5 : W5.heap.size = w4.heap.size + 1 := by rw [hW5]; simp
        have hv6 := hs6.block hv5 (by omega)
        have hT6 := hs6.block hT5 (fun h => h.elim (fun e => hpT e.symm) (fun e => hbT e.symm))
        have hR6 := R135_step hR5 hs6 (own135_pool hR5 hA5.1) (fun _ _ => trivial : ∀ g, _ → (fun _ => True) g)
        have hB5 := hA5.2.2.2.1
        have hB6 : Below w.heap.size w w6 := hB5.trans (hs6.below hB5.size (fun q hq => by rcases hq with rfl | rfl <;> omega))
        have c60 : w6.cell? ⟨w4.heap.size, 0, none⟩ = some (.slice A4 n4 c4) := by simp [World.cell?, hv6]
        have c61 : w6.cell? ⟨w4.heap.size, 1, none⟩ = some (.int .i64 last) := by simp [World.cell?, hv6]
        have c62 : w6.cell? ⟨w2.heap.size, 0, none⟩ = some (.slice Av L.length cv) := by simp [World.cell?, hT6]
        have c63 : w6.cell? ⟨w2.heap.size, 1, none⟩ = some (.int .i64 last) := by simp [World.cell?, hT6]
        have f62 : w6.frozen? ⟨w2.heap.size, 0, none⟩ = false := by simp [World.frozen?, hT6]
        have f63 : w6.frozen? ⟨w2.heap.size, 1, none⟩ = false := by simp [World.frozen?, hT6]
        gi_wp2
        gi_meet
        case rel => exact ⟨p, b, last, .slice A4 n4 c4, keepP L x.f3, rfl, by omega, plays_put hP6 hT6 hR6 (by have := hBa.size; omega) hB6 hA1 hA2 hA3⟩
       ·by_cases hk3 : x.f0 = 3
        ·have e0 : (x.f0 == 0) = false := by simpa using hk0
         have e1 : (x.f0 == 1) = false := by simpa using hk1
         have e2 : (x.f0 == 2) = false := by simpa using hk2
         have e3 : (x.f0 == 3) = true := by simpa using hk3
         have hC := pool_Clone_any Wa p b last L hAa.1
         gi_wp2
         refine ⟨trivial, ?_⟩
         gi_at_call 41
         refine (callsIn_wide.2 hC).mono ?_
         rintro e w4 ⟨p', b', rfl, hP4, hp4, hb4, hB4⟩
         have hA4 := hAa.step (Step.of_below (S := fun _ => False) hB4)
         have hAdd := pool_Add_any w4 p b last L ⟨#[103, 111, 110, 101]⟩ hA4.1 (by unfold maxLen; exact Nat.le_of_ble_eq_true rfl)
         gi_wp2
         refine ⟨trivial, ?_⟩
         gi_at_call 34
         refine (callsIn_wide.2 hAdd).mono ?_
         rintro e w5 ⟨rfl, hP5, hs5⟩
         have hK := pool_Keep_any w5 p b _ _ none 0 [] hP5 ⟨rfl, by simp, fun h => absurd h (by simp)⟩ (by simp) (by simp)
         gi_wp2
         refine ⟨trivial, ?_⟩
         gi_at_call 35
         refine (callsIn_wide.2 hK).mono ?_
         rintro e w6 ⟨rfl, hP6, hs6⟩
         have hs46 : Step (fun q => q = p ∨ q = b) w4 w6 := hs5.trans hs6 (fun _ h => h) (fun _ h => Or.inl h)
         have hPn := hP4.step hs46 (fun h => by rcases h with h | h <;> omega) (fun h => by rcases h with h | h <;> omega)
         have hT6 := hs46.block hA4.2.1 (fun h => h.elim (fun e => hpT e.symm) (fun e => hbT e.symm))
         have hR6 := R135_step hA4.2.2.1 hs46 (own135_pool hA4.2.2.1 hA4.1) (fun _ h => h)
         have hBw4 := hA4.2.2.2.1
         have hB6 : Below w.heap.size w w6 := hBw4.trans (hs46.below hBw4.size (fun q hq => by rcases hq with rfl | rfl <;> omega))
         have hzw := hBa.size
         gi_wp2
         gi_meet
         case rel => exact ⟨p', b', last, _, L, rfl, by omega, hPn, hT6, hR6, hB6, by omega, by omega, hA3⟩
        ·have e0 : (x.f0 == 0) = false := by simpa using hk0
         have e1 : (x.f0 == 1) = false := by simpa using hk1
         have e2 : (x.f0 == 2) = false := by simpa using hk2
         have e3 : (x.f0 == 3) = false := by simpa using hk3
         gi_wp2
         gi_meet
         case rel => exact ⟨p, b, last, _, L, rfl, by omega, hAa⟩
    case rest =>
     clear t0 t1 a0 a1 a2 a3 hba hsa hza hAa hBa hi3a hpT hbT hgv hps hbs hTs hq0 hq1 hq2 hA1 hA2 hA3 hCv hcv hRa hTa hLn
     obtain ⟨p, b, last, vL, L, rfl, hlk1, hA⟩ := hcut
     obtain ⟨Av, cv, rfl, hcv, hCv⟩ := Kd.R_reads hA.2.2.1
     have hP := hA.1
     have hLn : L.length < 1000000000000 := by have := hP.2.2.2.1; have := hP.2.2.2.2.1; omega
     have hsz : ∀ q ∈ L, q.2.size ≤ 65536 := fun q hq => (hP.2.2.2.2.2.1 q hq).2.2
     rw [refL_len] at hCv hcv
     have t0 : wc.cell? ⟨w2.heap.size, 0, none⟩ = some (.slice Av L.length cv) := by simp [World.cell?, hA.2.1, refL_len]
     have t1 : wc.cell? ⟨w2.heap.size, 1, none⟩ = some (.int .i64 last) := by simp [World.cell?, hA.2.1]
     have hbc : Below wc.heap.size wc wc.drew := below_drew1 (Below.refl _ wc)
     gi_wp2
     have hP : PoolAt wc.drew p b last L := hP
     have t0 : wc.drew.cell? ⟨w2.heap.size, 0, none⟩ = some (.slice Av L.length cv) := t0
     have t1 : wc.drew.cell? ⟨w2.heap.size, 1, none⟩ = some (.int .i64 last) := t1
     have hCv := Kd.C_drew hCv
     gi_region_with (first
      | (refine ⟨trivial, ?_⟩; gi_at_call 36; refine (callsIn_wide.2 (ids_slice (last := last) (L := L) (b := b) hP)).mono ?_; rintro e w36 ⟨A36, c36, rfl, hc36, hC36, hb⟩; have hP := hP.below hb; have t0 := pw_cell_below hb t0; have t1 := pw_cell_below hb t1; have hCv := Kd.C_below hCv hb; have hbc := hbc.trans (hb.mono hbc.size); (try have hC43 := Kd.C_below hC43 hb); clear hb)
      | (refine ⟨trivial, ?_⟩; gi_at_call 43; refine (callsIn_wide.2 (ref_ids_slice hLn hCv hcv)).mono ?_; rintro e w43 ⟨A43, c43, rfl, hc43, hC43, hb⟩; have hP := hP.below hb; have t0 := pw_cell_below hb t0; have t1 := pw_cell_below hb t1; have hCv := Kd.C_below hCv hb; have hbc := hbc.trans (hb.mono hbc.size); (try have hC36 := Kd.C_below hC36 hb); clear hb)
      | (refine ⟨trivial, ?_⟩; gi_at_call 42; refine (callsIn_wide.2 (same_slices hLn hC36 hc36 hC43 hc43)).mono ?_; rintro e w42 ⟨rfl, hb⟩; have hP := hP.below hb; have t0 := pw_cell_below hb t0; have t1 := pw_cell_below hb t1; have hCv := Kd.C_below hCv hb; have hbc := hbc.trans (hb.mono hbc.size); clear hb)
      | (refine ⟨trivial, ?_⟩; gi_at_call 44; refine (callsIn_wide.2 (pool_Bytes_any _ p b last L hP)).mono ?_; rintro e w44 ⟨rfl, hb⟩; have hP := hP.below hb; have t0 := pw_cell_below hb t0; have t1 := pw_cell_below hb t1; have hCv := Kd.C_below hCv hb; have hbc := hbc.trans (hb.mono hbc.size); clear hb)
      | (refine ⟨trivial, ?_⟩; gi_at_call 45; refine (callsIn_wide.2 (ref_bytes_slice hLn hsz hCv hcv)).mono ?_; rintro e w45 ⟨rfl, hb⟩; have hP := hP.below hb; have t0 := pw_cell_below hb t0; have t1 := pw_cell_below hb t1; have hCv := Kd.C_below hCv hb; have hbc := hbc.trans (hb.mono hbc.size); clear hb))
     all_goals gi_wp2
     all_goals go_roundw
     all_goals first | exact ⟨k + 1, p, b, last, _, L, by omega, by simp, rfl, by omega, hA.step (Step.of_below hbc)⟩ | (simp [intOf]; omega)
   ·have ek : k = l0.length := by omega
    subst ek
    gi_wp2
    go_ret
    exact ⟨rfl, hA.2.2.2.1⟩
end

end Go.Proofs.Ytgahpdoiddhdaaa.HPool
