/- a text of this claim -/
import Derived.Test.YtmmfplogkikbjaaDoorGSFx0
import Derived.Test.YtmmfplogkikbjaaDoorGSFx2
import Derived.Test.YtmmfplogkikbjaaDoorGSFx8
import Derived.Test.YtmmfplogkikbjaaDoorGSFx11
import Derived.Test.YtmmfplogkikbjaaDoorGSFx12
import Derived.Test.YtmmfplogkikbjaaDoorGSFx13
import Derived.Test.YtmmfplogkikbjaaDoorGSFx15
namespace Go.Proofs.YtmmfplogkikbjaaDoor.HSF
open Go.RowKit Go.Proofs.YtmmfplogkikbjaaDoorW.PrintWords Go.Proofs.YtmmfplogkikbjaaDoorW.PrintLast Go.Proofs.YtmmfplogkikbjaaDoorW.PrintMore
attribute [local go_sem] max2_int min2_int max_two min_two max_three min_three max_four min_four
set_option linter.unusedVariables false
set_option linter.unusedSimpArgs false
attribute [local go_sem high] eqA88
section
open Go Go.Shelf Go.Maps Go.Proofs.YtmmfplogkikbjaaDoor.Seq Go.Proofs.YtmmfplogkikbjaaDoor.MapL Go.Proofs.YtmmfplogkikbjaaDoorW.PrintLast
attribute [local go_sem] Oper.semAt_some max2_int min2_int max_two min_two
structure HlS where
 F : FL
 off : Bool
 fuse : Int
 nw : Int
 out : List Nat
 e : Int
def healOne (xs : List ByteArray) (B : BL) (t : ByteArray) (k : Nat) (r : HlS) : HlS :=
 if (readP xs r.F B r.off (k : Int)).2 = 0 ∧ (readP xs r.F B r.off (k : Int)).1.toList = t.toList then r else
 if (writeP xs.length r.F r.off r.fuse r.nw (k : Int) t).2.2.2.2 ≠ 0 then ⟨(writeP xs.length r.F r.off r.fuse r.nw (k : Int) t).1, (writeP xs.length r.F r.off r.fuse r.nw (k : Int) t).2.1, (writeP xs.length r.F r.off r.fuse r.nw (k : Int) t).2.2.1, (writeP xs.length r.F r.off r.fuse r.nw (k : Int) t).2.2.2.1, [], (writeP xs.length r.F r.off r.fuse r.nw (k : Int) t).2.2.2.2⟩
 else ⟨(writeP xs.length r.F r.off r.fuse r.nw (k : Int) t).1, (writeP xs.length r.F r.off r.fuse r.nw (k : Int) t).2.1, (writeP xs.length r.F r.off r.fuse r.nw (k : Int) t).2.2.1, (writeP xs.length r.F r.off r.fuse r.nw (k : Int) t).2.2.2.1, r.out ++ [k], 0⟩
def hlK (xs : List ByteArray) (B : BL) (t : ByteArray) (r : HlS) : Nat → HlS
 | 0 => r
 | k + 1 => if (hlK xs B t r k).e = 0 then healOne xs B t k (hlK xs B t r k) else hlK xs B t r k
theorem hlK_stop {xs : List ByteArray} {B : BL} {t : ByteArray} {r : HlS} {k : Nat} (h : (hlK xs B t r k).e ≠ 0) : ∀ m, k ≤ m → hlK xs B t r m = hlK xs B t r k := by
 intro m hm
 induction m with
 | zero =>
  have : k = 0 := by omega
  rw [this]
 | succ m ih =>
  by_cases e : k = m + 1
  ·rw [e]
  ·rw [hlK, ih (by omega), if_neg h]
def copC (k : Nat) : List Value := [.int .i64 (k : Int), .bool true]
def healS (xs : List ByteArray) (F : FL) (B : BL) (off : Bool) (fuse nw : Int) (b : ByteArray × Int) : HlS := if b.2 ≠ 0 then ⟨F, off, fuse, nw, [], b.2⟩ else hlK xs B b.1 ⟨F, off, fuse, nw, [], 0⟩ 2
theorem hl1_out {xs : List ByteArray} {B : BL} {t : ByteArray} {k : Nat} {r : HlS} : (healOne xs B t k r).out.length ≤ r.out.length + 1 := by
 unfold healOne
 split
 ·omega
 ·split
  ·simp
  ·simp
theorem hlK_out {xs : List ByteArray} {B : BL} {t : ByteArray} {F : FL} {off : Bool} {fuse nw : Int} : ∀ k, (hlK xs B t ⟨F, off, fuse, nw, [], 0⟩ k).out.length ≤ k
 | 0 => by simp [hlK]
 | k + 1 => by
  have h := hlK_out (xs := xs) (B := B) (t := t) (F := F) (off := off) (fuse := fuse) (nw := nw) k
  rw [hlK]
  split
  ·have := hl1_out (xs := xs) (B := B) (t := t) (k := k) (r := hlK xs B t ⟨F, off, fuse, nw, [], 0⟩ k)
   omega
  ·omega
set_option maxRecDepth 100000 in
set_option maxHeartbeats 8000000 in
theorem super_Heal_any (w : World) (hT : TabAt w) (i : DevIds) (xs : List ByteArray) (F : FL) (B : BL) (off : Bool) (fuse nw : Int) (hD : DevAt w i xs F B off fuse nw) (g sh k m c l a b s : Int) (hs : 0 ≤ s ∧ s < 4294967296) (R : HlS) (hR : R = healS xs F B off fuse nw (bytesS g sh k m c l a b s)) :
  Calls Tryd.prog 36 #[.pointer (some ⟨i.d, 0, none⟩), .agg #[.int .i64 g, .int .i64 sh, .int .i64 k, .int .i64 m, .int .i64 c, .int .i64 l, .int .i64 a, .int .i64 b, .int .u32 s]] w fun e w' => ∃ v, e = .returned (.tuple #[v, .int .i64 R.e]) ∧ DevAt w' i xs R.F B R.off R.fuse R.nw ∧ w'.ownsRow w.heap.size 88 2 v R.out.length (R.out.flatMap copC) ∧ Step i.In w w' := by
 have hu28 := Tryd.underlying28
 have hu88 := Tryd.underlying88
 have hlt := hD.lt
 refine (callsIn_wide (n := 4)).1 ?_
 refine callsIn_of_wp_marks Tryd.func36 rfl trivial ?_ rfl
 simp only [Tryd.ntmps36, List.size_toArray, List.length_cons, List.length_nil, Nat.reduceAdd, Nat.reduceSub, Array.replicate_succ, Array.replicate_zero, List.push_toArray, List.append_toArray, List.nil_append, List.cons_append]
 have hb0 : Below w.heap.size w (w.alloc (.cells #[.int .i64 g, .int .i64 sh, .int .i64 k, .int .i64 m, .int .i64 c, .int .i64 l, .int .i64 a, .int .i64 b, .int .u32 s] 28)) := (Below.refl _ _).alloc (Nat.le_refl _) _
 have hBy := super_Bytes_any (w.alloc (.cells #[.int .i64 g, .int .i64 sh, .int .i64 k, .int .i64 m, .int .i64 c, .int .i64 l, .int .i64 a, .int .i64 b, .int .u32 s] 28)) (hT.below hb0) (by simp) g sh k m c l a b s hs
 generalize bytesS g sh k m c l a b s = bb at hR hBy
 obtain ⟨bt_, bn⟩ := bb
 dsimp only at hBy
 unfold healS at hR
 dsimp only at hR
 gi_wp2
 refine ⟨trivial, ?_⟩
 gi_at_call 9
 refine (callsIn_wide.2 hBy).mono ?_
 rintro e w1 ⟨rfl, hb1⟩
 have hs1 : Step (fun _ => False) w w1 := step2 (Step.of_below hb0) (Step.of_below hb1)
 have hD1 := hD.step hs1 (fun _ _ h => h)
 have hz1 := hs1.size
 clear hBy hb0 hb1
 by_cases hbn : bn = 0
 case neg =>
  have d1 : (bn != 0) = true := by simpa using hbn
  rw [if_pos hbn] at hR
  subst hR
  dsimp only
  gi_wp2
  exact ⟨_, results_tmp2 rfl _ _ _, _, rfl, hD1, World.ownsRow_nil _ _ _ _, hs1.mono (fun _ h => h.elim)⟩
 have d1 : (bn != 0) = false := by simpa using hbn
 rw [if_neg (by simpa using hbn)] at hR
 clear hbn
 gi_wp2
 gi_loopw [8, 21] (fun t8 t21 wr => ∃ (j : Nat) (r : HlS) (v8 : Value), v8 = t8 ∧ j ≤ 2 ∧ t21 = .int .i64 j ∧ r = hlK xs B bt_ ⟨F, off, fuse, nw, [], 0⟩ j ∧ r.e = 0 ∧ DevAt wr i xs r.F B r.off r.fuse r.nw ∧ wr.ownsRow w.heap.size 88 2 v8 r.out.length (r.out.flatMap copC) ∧ Step i.In w wr) (fun _ t21 _ => 2 - (intOf t21).toNat)
 case atStart => exact ⟨0, _, _, rfl, by omega, rfl, rfl, rfl, hD1, World.ownsRow_nil _ _ _ _, hs1.mono (fun _ h => h.elim)⟩
 case round =>
  obtain ⟨j, r, v8, rfl, hj, rfl, hrk, hre, hDr, hor, hsr⟩ := hrel
  obtain ⟨hbk, A, n, cp, rfl⟩ : (∀ q, v8.ownBlock = some q → w.heap.size ≤ q ∧ q < wr.heap.size) ∧ ∃ A n c, v8 = .slice A n c := by
   rcases hor.2 with ⟨rfl, _⟩ | ⟨g', cap, cur, rfl, hgn, hg, _⟩
   ·exact ⟨fun q hq => by simp [Value.ownBlock] at hq, _, _, _, rfl⟩
   ·exact ⟨fun q hq => by simp [Value.ownBlock] at hq; subst hq; exact ⟨hgn, (Array.getElem?_eq_some_iff.1 hg).1⟩, _, _, _, rfl⟩
  by_cases hjl : j < 2
  ·have hjI : (j : Int) < 2 := by omega
   have hk1 : hlK xs B bt_ ⟨F, off, fuse, nw, [], 0⟩ (j + 1) = healOne xs B bt_ j r := by rw [hlK, ← hrk, if_pos hre]
   have hol : r.out.length ≤ 2 := by have := hlK_out (xs := xs) (B := B) (t := bt_) (F := F) (off := off) (fuse := fuse) (nw := nw) j; rw [← hrk] at this; omega
   have hRd := dev_Read_any wr i xs r.F B r.off r.fuse r.nw (j : Int) hDr
   have hWr := fun W (h : DevAt W i xs r.F B r.off r.fuse r.nw) => dev_Write_any W i xs r.F B r.off r.fuse r.nw (j : Int) bt_ h
   unfold healOne at hk1
   generalize readP xs r.F B r.off (j : Int) = rp at hRd hk1
   obtain ⟨rs, rn⟩ := rp
   generalize writeP xs.length r.F r.off r.fuse r.nw (j : Int) bt_ = q at hWr hk1
   obtain ⟨F3, o3, l3, m3, why⟩ := q
   dsimp only at hRd hWr hk1
   clear hrk
   gi_wp2
   refine ⟨trivial, ?_⟩
   gi_at_call 96
   refine (callsIn_wide.2 hRd).mono ?_
   rintro e w2 ⟨rfl, hs2⟩
   have hD2 := hDr.step hs2 (fun _ _ h => h)
   have ho2 := ownsRow_step hs2 hor (fun _ _ h => h)
   have hsr2 := hsr.trans hs2 (fun _ h => h) (fun _ h => h.elim)
   have hz2 := hs2.size
   have hzr := hsr.size
   clear hRd
   by_cases hrn : rn = 0
   ·have e1 : (rn == 0) = true := by simpa using hrn
    by_cases hrs : rs.toList = bt_.toList
    ·have e2 : (rs.toList == bt_.toList) = true := by simpa using hrs
     rw [if_pos ⟨hrn, hrs⟩] at hk1
     clear hrs hrn
     gi_wp2
     go_roundw
     case rel => exact ⟨j + 1, r, _, rfl, by omega, by simp, hk1.symm, hre, hD2, ho2, hsr2⟩
     case measure => simp [intOf]; omega
    ·have e2 : (rs.toList == bt_.toList) = false := beq_eq_false_iff_ne.2 hrs
     rw [if_neg (fun h => hrs h.2)] at hk1
     clear hrs hrn
     gi_wp2
     refine ⟨trivial, ?_⟩
     gi_at_call 58
     refine (callsIn_wide.2 (hWr _ hD2)).mono ?_
     rintro e w3 ⟨rfl, hD3, hs3⟩
     have ho3 := ownsRow_step hs3 ho2 (fun q hq h => by have := hlt q h; have := hbk q hq; omega)
     have hsr3 := hsr2.trans hs3 (fun _ h => h) (fun _ h => Or.inl h)
     have hz3 := hs3.size
     by_cases hw : why = 0
     ·have e5 : (why != 0) = false := by simpa using hw
      rw [if_neg (by simpa using hw)] at hk1
      have hcell := World.news_of_block (cs := #[.int .i64 (j : Int), .bool true]) (t := 88) (fr := (0, 0)) (World.alloc_heap_new w3 (.cells #[.int .i64 (j : Int), .bool true] 88))
      have hb3 : w.heap.size ≤ (w3.alloc (.cells #[.int .i64 (j : Int), .bool true] 88)).heap.size := by simp; omega
      gi_wp2_with (gi_at_builtin; refine wpListIn_append_at _ rfl _ _ 63 rfl w.heap.size 88 (.agg #[.int .i64 0, .bool false]) 2 16 Tryd.underlying63 infoS88 rfl (by decide) (.slice A n cp) r.out.length (r.out.flatMap copC) rfl (ho3.alloc _) ⟨w3.heap.size, 0, none⟩ 1 1 [.int .i64 (j : Int), .bool true] rfl rfl (by simpa using hcell) (by simp [Value.oneCell']) (by unfold maxLen; omega) (by omega) hb3 ?_; intro v1 w4 hown4 hg4 _ hat4)
      have hs4 : Step (fun q => (Value.slice A n cp).ownBlock = some q) w3 w4 := (Step.alloc _ w3 _).trans (Step.grown hg4 (S := fun q => (Value.slice A n cp).ownBlock = some q) (fun q hq => hq)) (fun _ h => h) (fun _ h => Or.inl h)
      go_roundw
      case rel =>
       refine ⟨j + 1, ⟨F3, o3, l3, m3, r.out ++ [j], 0⟩, _, rfl, by omega, by simp, hk1.symm, rfl, hD3.step hs4 (fun q hq h => by have := hlt q hq; have := hbk q h; omega), ?_, hsr3.trans hs4 (fun _ h => h) (fun q h => Or.inr (hbk q h).1)⟩
       rw [List.length_append, List.length_singleton, List.flatMap_append, List.flatMap_singleton]
       exact hown4
      case measure => simp [intOf]; omega
     ·have e5 : (why != 0) = true := by simpa using hw
      rw [if_pos (by simpa using hw)] at hk1
      have hst := hlK_stop (k := j + 1) (xs := xs) (B := B) (t := bt_) (r := ⟨F, off, fuse, nw, [], 0⟩) (by rw [hk1]; exact hw) 2 (by omega)
      have hRr : R = ⟨F3, o3, l3, m3, [], why⟩ := hR.trans (hst.trans hk1)
      clear hst hk1 hR
      gi_wp2
      refine ⟨_, results_tmp2 rfl _ _ _, .slice none 0 0, ?_, ?_, ?_, hsr3⟩
      ·rw [hRr]; rfl
      ·rw [hRr]; exact hD3
      ·rw [hRr]; exact World.ownsRow_nil _ _ _ _
   ·have e1 : (rn == 0) = false := by simpa using hrn
    rw [if_neg (fun h => hrn h.1)] at hk1
    clear hrn
    gi_wp2
    refine ⟨trivial, ?_⟩
    gi_at_call 58
    refine (callsIn_wide.2 (hWr _ hD2)).mono ?_
    rintro e w3 ⟨rfl, hD3, hs3⟩
    have ho3 := ownsRow_step hs3 ho2 (fun q hq h => by have := hlt q h; have := hbk q hq; omega)
    have hsr3 := hsr2.trans hs3 (fun _ h => h) (fun _ h => Or.inl h)
    have hz3 := hs3.size
    by_cases hw : why = 0
    ·have e5 : (why != 0) = false := by simpa using hw
     rw [if_neg (by simpa using hw)] at hk1
     have hcell := World.news_of_block (cs := #[.int .i64 (j : Int), .bool true]) (t := 88) (fr := (0, 0)) (World.alloc_heap_new w3 (.cells #[.int .i64 (j : Int), .bool true] 88))
     have hb3 : w.heap.size ≤ (w3.alloc (.cells #[.int .i64 (j : Int), .bool true] 88)).heap.size := by simp; omega
     gi_wp2_with (gi_at_builtin; refine wpListIn_append_at _ rfl _ _ 63 rfl w.heap.size 88 (.agg #[.int .i64 0, .bool false]) 2 16 Tryd.underlying63 infoS88 rfl (by decide) (.slice A n cp) r.out.length (r.out.flatMap copC) rfl (ho3.alloc _) ⟨w3.heap.size, 0, none⟩ 1 1 [.int .i64 (j : Int), .bool true] rfl rfl (by simpa using hcell) (by simp [Value.oneCell']) (by unfold maxLen; omega) (by omega) hb3 ?_; intro v1 w4 hown4 hg4 _ hat4)
     have hs4 : Step (fun q => (Value.slice A n cp).ownBlock = some q) w3 w4 := (Step.alloc _ w3 _).trans (Step.grown hg4 (S := fun q => (Value.slice A n cp).ownBlock = some q) (fun q hq => hq)) (fun _ h => h) (fun _ h => Or.inl h)
     go_roundw
     case rel =>
      refine ⟨j + 1, ⟨F3, o3, l3, m3, r.out ++ [j], 0⟩, _, rfl, by omega, by simp, hk1.symm, rfl, hD3.step hs4 (fun q hq h => by have := hlt q hq; have := hbk q h; omega), ?_, hsr3.trans hs4 (fun _ h => h) (fun q h => Or.inr (hbk q h).1)⟩
      rw [List.length_append, List.length_singleton, List.flatMap_append, List.flatMap_singleton]
      exact hown4
     case measure => simp [intOf]; omega
    ·have e5 : (why != 0) = true := by simpa using hw
     rw [if_pos (by simpa using hw)] at hk1
     have hst := hlK_stop (k := j + 1) (xs := xs) (B := B) (t := bt_) (r := ⟨F, off, fuse, nw, [], 0⟩) (by rw [hk1]; exact hw) 2 (by omega)
     have hRr : R = ⟨F3, o3, l3, m3, [], why⟩ := hR.trans (hst.trans hk1)
     clear hst hk1 hR
     gi_wp2
     refine ⟨_, results_tmp2 rfl _ _ _, .slice none 0 0, ?_, ?_, ?_, hsr3⟩
     ·rw [hRr]; rfl
     ·rw [hRr]; exact hD3
     ·rw [hRr]; exact World.ownsRow_nil _ _ _ _
  ·have ej : j = 2 := by omega
   subst ej
   have hRr : R = r := hR.trans hrk.symm
   clear hrk hR
   gi_wp2
   refine ⟨_, results_tmp2 rfl _ _ _, .slice A n cp, ?_, ?_, ?_, hsr⟩
   ·rw [hRr, hre]; rfl
   ·rw [hRr]; exact hDr
   ·rw [hRr]; exact hor
theorem bytesOf_append (a b : ByteArray) : bytesOf (a ++ b) = bytesOf a ++ bytesOf b := by
 unfold bytesOf
 rw [ByteArray.data_append, Array.toList_append, List.map_append]
theorem crcL_in (t : ByteArray) : ∀ x ∈ crcL t, 0 ≤ x ∧ x < 256 := by
 intro x hx
 have := sumC_in t
 simp only [crcL, List.mem_cons, List.mem_nil_iff, or_false] at hx
 rcases hx with rfl | rfl | rfl | rfl <;> omega
theorem headL_in (g sh k m c l a b s : Int) : ∀ x ∈ headL g sh k m c l a b s, 0 ≤ x ∧ x < 256 := by
 intro x hx
 simp only [headL, List.mem_append, List.mem_nil_iff, or_false] at hx
 rcases hx with h | h | h | h | h | h | h <;> exact leI_in _ _ x h
theorem rootL_in (a b s : Int) : ∀ x ∈ rootL a b s, 0 ≤ x ∧ x < 256 := by
 intro x hx
 simp only [rootL, List.mem_append, List.mem_nil_iff, or_false] at hx
 rcases hx with h | h | h <;> exact leI_in _ _ x h
theorem sect_bytes (g sh k m c l a b s : Int) : bytesOf (sectS g sh k m c l a b s) = bytesOf magicS ++ (headL g sh k m c l a b s ++ (rootL a b s ++ (crcL (bodyS g sh k m c l a b s) ++ zeros468))) := by
 have hz : ∀ x ∈ zeros468, 0 ≤ x ∧ x < 256 := fun x hx => by
  have := List.eq_of_mem_replicate hx
  omega
 have hb : bytesOf (bodyS g sh k m c l a b s) = bytesOf magicS ++ headL g sh k m c l a b s ++ rootL a b s := by
  unfold bodyS
  rw [bytesOf_append, bytesOf_append, bytesOf_str _ (headL_in _ _ _ _ _ _ _ _ _), bytesOf_str _ (rootL_in _ _ _)]
 unfold sectS
 rw [bytesOf_append, bytesOf_append, hb, bytesOf_str _ (crcL_in _), bytesOf_str _ hz, List.append_assoc, List.append_assoc, List.append_assoc]
theorem sect_size (g sh k m c l a b s : Int) : (sectS g sh k m c l a b s).size = 512 := by
 unfold sectS
 rw [ByteArray.size_append, ByteArray.size_append, bodyS_size, strOfNums_size, strOfNums_size, show (crcL (bodyS g sh k m c l a b s)).length = 4 from rfl, show zeros468.length = 468 from List.length_replicate]
theorem take_leI (w : Nat) (n : Int) (l : List Int) : (leI w n ++ l).take w = leI w n := by
 rw [List.take_append_of_le_length (by rw [leI_len]; omega), List.take_of_length_le (by rw [leI_len]; omega)]
theorem drop_leI (w : Nat) (n : Int) (l : List Int) : (leI w n ++ l).drop w = l := by
 rw [List.drop_append, List.drop_of_length_le (by rw [leI_len]; omega), leI_len, Nat.sub_self, List.drop_zero, List.nil_append]
theorem dec_head (g sh k m c l a b s : Int) (h : SupOk g sh k m c l a b) (X : List Int) : allV ws7 (headL g sh k m c l a b s ++ X) = [g, sh, k, m, 0, c, l] := by
 obtain ⟨h1, h2, ⟨q1, q2, q3, q4, q5, q6, q7, q8, _⟩, h4, h5, h6, h7, h8, h9⟩ := h
 have e : headL g sh k m c l a b s ++ X = leI 8 g ++ (leI 1 sh ++ (leI 1 k ++ (leI 1 m ++ (leI 1 0 ++ (leI 4 c ++ (leI 4 l ++ X)))))) := by simp [headL]
 rw [e]
 simp only [ws7, allV, show (8 : Int).toNat = 8 from rfl, show (1 : Int).toNat = 1 from rfl, show (4 : Int).toNat = 4 from rfl, take_leI, drop_leI]
 rw [deI_leI 8 g (by omega) (by omega), deI_leI 1 sh (by omega) (by omega), deI_leI 1 k (by omega) (by omega), deI_leI 1 m (by omega) (by omega), deI_leI 1 0 (by omega) (by omega), deI_leI 4 c (by omega) (by omega), deI_leI 4 l (by omega) (by omega)]
theorem dec_root (a b s : Int) (h0 : 0 ≤ a ∧ a < 4294967296) (h1 : 0 ≤ b ∧ b < 4294967296) (h2 : 0 ≤ s ∧ s < 4294967296) (X : List Int) : ptrV (rootL a b s ++ X) 0 = a ∧ ptrV (rootL a b s ++ X) 1 = b ∧ ptrV (rootL a b s ++ X) 2 = s := by
 have e := allV_ptr (rootL a b s ++ X)
 have e2 : rootL a b s ++ X = leI 4 a ++ (leI 4 b ++ (leI 4 s ++ X)) := by simp [rootL]
 have e3 : allV [4, 4, 4] (rootL a b s ++ X) = [a, b, s] := by
  rw [e2]
  simp only [allV, show (4 : Int).toNat = 4 from rfl, take_leI, drop_leI]
  rw [deI_leI 4 a h0.1 (by omega), deI_leI 4 b h1.1 (by omega), deI_leI 4 s h2.1 (by omega)]
 rw [e3] at e
 simp only [List.cons.injEq, and_true] at e
 exact ⟨e.1.symm, e.2.1.symm, e.2.2.symm⟩
theorem sect_dec (g sh k m c l a b s : Int) (h : SupOk g sh k m c l a b) (hs : 0 ≤ s ∧ s < 4294967296) : allV ws7 (bytesOf ((sectS g sh k m c l a b s).extract 8 (sectS g sh k m c l a b s).size)) = [g, sh, k, m, 0, c, l] ∧ pP (sectS g sh k m c l a b s) 0 = a ∧ pP (sectS g sh k m c l a b s) 1 = b ∧ pP (sectS g sh k m c l a b s) 2 = s := by
 have hm : (bytesOf magicS).length = 8 := rfl
 have hb : bytesOf ((sectS g sh k m c l a b s).extract 8 (sectS g sh k m c l a b s).size) = headL g sh k m c l a b s ++ (rootL a b s ++ (crcL (bodyS g sh k m c l a b s) ++ zeros468)) := by
  rw [bytesOf_drop, sect_bytes, List.drop_append, List.drop_of_length_le (by rw [hm]; omega), hm, Nat.sub_self, List.drop_zero, List.nil_append]
 refine ⟨by rw [hb]; exact dec_head g sh k m c l a b s h _, ?_⟩
 have hr : bytesOf (rP (sectS g sh k m c l a b s)) = rootL a b s ++ (crcL (bodyS g sh k m c l a b s) ++ zeros468) := by
  unfold rP
  rw [restV_bytes, hb, List.drop_append, List.drop_of_length_le (by rw [headL_len]; decide), headL_len]
  rfl
 obtain ⟨h1, h2, ⟨q1, q2, q3, q4, q5, q6, q7, q8, _⟩, h4, h5, h6, h7, h8, h9⟩ := h
 unfold pP
 rw [hr]
 exact dec_root a b s ⟨by omega, by omega⟩ ⟨by omega, by omega⟩ hs _
theorem sect_vP (g sh k m c l a b s : Int) (h : SupOk g sh k m c l a b) (hs : 0 ≤ s ∧ s < 4294967296) : vP (sectS g sh k m c l a b s) 0 = g ∧ vP (sectS g sh k m c l a b s) 1 = sh ∧ vP (sectS g sh k m c l a b s) 2 = k ∧ vP (sectS g sh k m c l a b s) 3 = m ∧ vP (sectS g sh k m c l a b s) 5 = c ∧ vP (sectS g sh k m c l a b s) 6 = l := by
 have e := (sect_dec g sh k m c l a b s h hs).1
 unfold vP
 rw [e]
 exact ⟨rfl, rfl, rfl, rfl, rfl, rfl⟩
theorem sect_is (g sh k m c l a b s : Int) (h : SupOk g sh k m c l a b) (hs : 0 ≤ s ∧ s < 4294967296) : IsS (sectS g sh k m c l a b s) := by
 refine ⟨sect_size _ _ _ _ _ _ _ _ _, ?_⟩
 obtain ⟨v0, v1, v2, v3, v5, v6⟩ := sect_vP g sh k m c l a b s h hs
 obtain ⟨_, p0, p1, p2⟩ := sect_dec g sh k m c l a b s h hs
 have hh := h
 obtain ⟨h1, h2, ⟨q1, q2, q3, q4, q5, q6, q7, q8, _⟩, h4, h5, h6, h7, h8, h9⟩ := hh
 unfold decS
 rw [v0, v1, v2, v3, v5, v6, p0, p1, p2, wrap64_id (x := g) (by omega) (by omega), wrap64_id (x := sh) (by omega) (by omega), wrap64_id (x := k) (by omega) (by omega), wrap64_id (x := m) (by omega) (by omega), wrap64_id (x := c) (by omega) (by omega), wrap64_id (x := l) (by omega) (by omega), bytesS, if_pos h]
theorem zero_not : ¬ IsS zeroS := fun h => by
 have h2 := h.2
 unfold decS bytesS at h2
 split at h2
 ·have e := congrArg (fun b : ByteArray × Int => (bytesOf b.1).head?) h2
  dsimp only at e
  rw [sect_bytes] at e
  have e2 : bytesOf zeroS = List.replicate 512 0 := bytesOf_str _ (fun x hx => by
   have := List.eq_of_mem_replicate hx
   omega)
  rw [e2] at e
  have e3 : bytesOf magicS = [99, 97, 117, 108, 107, 32, 48, 49] := rfl
  rw [e3] at e
  simp at e
 ·have e : (2 : Int) = 0 := congrArg Prod.snd h2
  omega
def xs0 : List ByteArray := List.replicate 16 zeroS
def S1 : ByteArray := sectS 3 1 2 1 8 5 2 3 4
def S4 : ByteArray := sectS 4 1 2 1 8 5 2 3 4
theorem ok1 : SupOk 3 1 2 1 8 5 2 3 := by decide
theorem ok4 : SupOk 4 1 2 1 8 5 2 3 := by decide
theorem by1 : bytesS 3 1 2 1 8 5 2 3 4 = (S1, 0) := if_pos ok1
theorem by4 : bytesS 4 1 2 1 8 5 2 3 4 = (S4, 0) := if_pos ok4
theorem sz1 : S1.size = 512 := sect_size _ _ _ _ _ _ _ _ _
theorem sz4 : S4.size = 512 := sect_size _ _ _ _ _ _ _ _ _
theorem is1 : IsS S1 := sect_is _ _ _ _ _ _ _ _ _ ok1 ⟨by decide, by decide⟩
theorem is4 : IsS S4 := sect_is _ _ _ _ _ _ _ _ _ ok4 ⟨by decide, by decide⟩
theorem v1_ : vP S1 0 = 3 ∧ vP S1 1 = 1 ∧ vP S1 2 = 2 ∧ vP S1 3 = 1 ∧ vP S1 5 = 8 ∧ vP S1 6 = 5 := sect_vP _ _ _ _ _ _ _ _ _ ok1 ⟨by decide, by decide⟩
theorem v4_ : vP S4 0 = 4 ∧ vP S4 1 = 1 ∧ vP S4 2 = 2 ∧ vP S4 3 = 1 ∧ vP S4 5 = 8 ∧ vP S4 6 = 5 := sect_vP _ _ _ _ _ _ _ _ _ ok4 ⟨by decide, by decide⟩
theorem p1_ : pP S1 0 = 2 ∧ pP S1 1 = 3 ∧ pP S1 2 = 4 := (sect_dec _ _ _ _ _ _ _ _ _ ok1 ⟨by decide, by decide⟩).2
theorem p4_ : pP S4 0 = 2 ∧ pP S4 1 = 3 ∧ pP S4 2 = 4 := (sect_dec _ _ _ _ _ _ _ _ _ ok4 ⟨by decide, by decide⟩).2
theorem w64c : wrap64 1 = 1 ∧ wrap64 2 = 2 ∧ wrap64 3 = 3 ∧ wrap64 4 = 4 ∧ wrap64 5 = 5 ∧ wrap64 8 = 8 := ⟨wrapJ (by omega) (by omega), wrapJ (by omega) (by omega), wrapJ (by omega) (by omega), wrapJ (by omega) (by omega), wrapJ (by omega) (by omega), wrapJ (by omega) (by omega)⟩
theorem par1 : parseR S1 = (.agg #[.int .i64 3, .int .i64 1, .int .i64 2, .int .i64 1, .int .i64 8, .int .i64 5, .int .i64 2, .int .i64 3, .int .u32 4], 0) := by
 obtain ⟨a0, a1, a2, a3, a5, a6⟩ := v1_
 obtain ⟨b0, b1, b2⟩ := p1_
 obtain ⟨c1, c2, c3, c4, c5, c8⟩ := w64c
 rw [show parseR S1 = (supV S1, 0) from if_pos is1, supV, a0, a1, a2, a3, a5, a6, b0, b1, b2, c1, c2, c3, c5, c8]
theorem parS (t : ByteArray) (h : t.size ≠ 512) : parseR t = (zeroV, 6) := if_neg (fun e => h e.1)
theorem slot1 (xs : List ByteArray) (F : FL) (B : BL) (off : Bool) (j : Nat) (h : rdT xs F B off j = S1) : slotC xs F B off j = [.int .i64 (j : Int), .int .i64 3, .int .i64 1, .int .i64 2, .int .i64 1, .int .i64 8, .int .i64 5, .int .i64 2, .int .i64 3, .int .u32 4] ∧ genS xs F B off j = 3 ∧ (xs.length = 16 → slotFits xs F B off j = true) := by
 obtain ⟨a0, a1, a2, a3, a5, a6⟩ := v1_
 obtain ⟨b0, b1, b2⟩ := p1_
 obtain ⟨c1, c2, c3, c4, c5, c8⟩ := w64c
 refine ⟨by rw [slotC, h, a0, a1, a2, a3, a5, a6, b0, b1, b2, c1, c2, c3, c5, c8], by rw [genS, h, a0, c3], fun hx => ?_⟩
 rw [slotFits, h, a1, a2, a3, a5, c1, c2, c8, hx]
 decide
theorem slot4 (xs : List ByteArray) (F : FL) (B : BL) (off : Bool) (j : Nat) (h : rdT xs F B off j = S4) : slotC xs F B off j = [.int .i64 (j : Int), .int .i64 4, .int .i64 1, .int .i64 2, .int .i64 1, .int .i64 8, .int .i64 5, .int .i64 2, .int .i64 3, .int .u32 4] ∧ genS xs F B off j = 4 ∧ (xs.length = 16 → slotFits xs F B off j = true) := by
 obtain ⟨a0, a1, a2, a3, a5, a6⟩ := v4_
 obtain ⟨b0, b1, b2⟩ := p4_
 obtain ⟨c1, c2, c3, c4, c5, c8⟩ := w64c
 refine ⟨by rw [slotC, h, a0, a1, a2, a3, a5, a6, b0, b1, b2, c1, c2, c4, c5, c8], by rw [genS, h, a0, c4], fun hx => ?_⟩
 rw [slotFits, h, a1, a2, a3, a5, c1, c2, c8, hx]
 decide
theorem find1 : fndS xs0 [(1, S1)] [] false = [1] := by
 have r0 : rdT xs0 [(1, S1)] [] false 0 = zeroS := rfl
 have r1 : rdT xs0 [(1, S1)] [] false 1 = S1 := rfl
 have hf := (slot1 xs0 [(1, S1)] [] false 1 r1).2.2 rfl
 have hs : stL xs0 [(1, S1)] [] false 2 = [1] := by
  rw [stL, stL, stL, r0, r1, if_neg zero_not, if_pos is1]; rfl
 rw [fndS, hs, List.filter_cons, hf, if_pos rfl, List.filter_nil]
theorem find2 : fndS xs0 [(1, S4), (0, S1)] [] false = [0, 1] ∧ srtS xs0 [(1, S4), (0, S1)] [] false [0, 1] = [1, 0] := by
 have r0 : rdT xs0 [(1, S4), (0, S1)] [] false 0 = S1 := rfl
 have r1 : rdT xs0 [(1, S4), (0, S1)] [] false 1 = S4 := rfl
 obtain ⟨_, g0, f0⟩ := slot1 xs0 [(1, S4), (0, S1)] [] false 0 r0
 obtain ⟨_, g1, f1⟩ := slot4 xs0 [(1, S4), (0, S1)] [] false 1 r1
 have hs : stL xs0 [(1, S4), (0, S1)] [] false 2 = [0, 1] := by
  rw [stL, stL, stL, r0, r1, if_pos is1, if_pos is4]; rfl
 refine ⟨by rw [fndS, hs, List.filter_cons, f0 rfl, if_pos rfl, List.filter_cons, f1 rfl, if_pos rfl, List.filter_nil], ?_⟩
 show (if genS _ _ _ _ 0 < genS _ _ _ _ 1 then [1, 0] else [0, 1]) = _
 rw [g0, g1]
 rfl
theorem wr1_ : swP 16 [] false (-1) 0 1 (bytesS 3 1 2 1 8 5 2 3 4) = ([(1, S1)], false, -1, 1, 0) := by
 have hw : wrap64 (0 + 1) = 1 := wrapJ (by omega) (by omega)
 rw [by1]
 show (if _ then _ else _) = _
 rw [if_neg (by decide), if_neg (by decide)]
 show writeP 16 [] false (-1) 0 1 S1 = _
 rw [writeP, if_neg (by decide), if_neg (by rw [sz1]; decide), if_neg (by decide), hw]
 rfl
theorem wr4_ : swP 16 [(1, S1), (0, S1)] false (-1) 2 1 (bytesS 4 1 2 1 8 5 2 3 4) = ([(1, S4), (0, S1)], false, -1, 3, 0) := by
 have hw : wrap64 (2 + 1) = 3 := wrapJ (by omega) (by omega)
 rw [by4]
 show (if _ then _ else _) = _
 rw [if_neg (by decide), if_neg (by decide)]
 show writeP 16 [(1, S1), (0, S1)] false (-1) 2 1 S4 = _
 rw [writeP, if_neg (by decide), if_neg (by rw [sz4]; decide), if_neg (by decide), hw]
 rfl
theorem wr2_ (F : FL) (fuse nw : Int) (b : ByteArray × Int) : swP 16 F false fuse nw 2 b = (F, false, fuse, nw, 1) := if_pos (Or.inr (by decide))
theorem heal_ : healS xs0 [(1, S1)] [] false (-1) 1 (bytesS 3 1 2 1 8 5 2 3 4) = ⟨[(1, S1), (0, S1)], false, -1, 2, [0], 0⟩ := by
 have hw : wrap64 (1 + 1) = 2 := wrapJ (by omega) (by omega)
 have hne : ¬ (zeroS.toList = S1.toList) := fun e => zero_not (by rw [tl_inj e]; exact is1)
 rw [by1]
 have h1 : healOne xs0 [] S1 0 ⟨[(1, S1)], false, -1, 1, [], 0⟩ = ⟨[(1, S1), (0, S1)], false, -1, 2, [0], 0⟩ := by
  have hr : readP xs0 [(1, S1)] [] false ((0 : Nat) : Int) = (zeroS, 0) := rfl
  have hq : writeP xs0.length [(1, S1)] false (-1) 1 ((0 : Nat) : Int) S1 = ([(1, S1), (0, S1)], false, -1, 2, 0) := by
   rw [writeP, if_neg (by decide), if_neg (by rw [sz1]; decide), if_neg (by decide), hw]
   rfl
  rw [healOne, hr, hq]
  rw [if_neg (fun h => hne h.2), if_neg (by decide)]
  rfl
 have h2 : healOne xs0 [] S1 1 ⟨[(1, S1), (0, S1)], false, -1, 2, [0], 0⟩ = ⟨[(1, S1), (0, S1)], false, -1, 2, [0], 0⟩ := by
  have hr : readP xs0 [(1, S1), (0, S1)] [] false ((1 : Nat) : Int) = (S1, 0) := rfl
  rw [healOne, hr, if_pos ⟨rfl, rfl⟩]
 show hlK xs0 [] S1 ⟨[(1, S1)], false, -1, 1, [], 0⟩ 2 = _
 rw [hlK, hlK, hlK, if_pos rfl, h1, if_pos rfl, h2]
end
def caulkref09_Same.l0 : Nat → List (S88) → List (S88) → Int → Int → Option (Bool)
 | 0, _, _, _, _ => none
 | k + 1, x0, x1, x12, x13 => if x13 < x12 then (if 0 ≤ x13 then (if x13 < (x0.length : Int) then (if x13 < (x1.length : Int) then (if (!(((rd_T88 x0 x13).f0) == ((rd_T88 x1 x13).f0)) || (!(((rd_T88 x0 x13).f1) == ((rd_T88 x1 x13).f1)))) = true then (some false) else (caulkref09_Same.l0 k x0 x1 x12 (wrap64 (x13 + 1)))) else (none)) else (none)) else (none)) else (some true)
def caulkref09_Same.f (k : Nat) (l0 : List (S88)) (l1 : List (S88)) : Option (Bool) := if (l0.length : Int) = (l1.length : Int) then (caulkref09_Same.l0 k l0 l1 (l0.length : Int) 0) else (some false)
set_option maxHeartbeats 8000000 in
set_option maxRecDepth 100000 in
theorem caulkref09_Same.calls (k : Nat) (A0 : Option Addr) (c0 : Nat) (l0 : List (S88)) (A1 : Option Addr) (c1 : Nat) (l1 : List (S88)) (r : Bool) (w : World) (hr0 : Kd.C k88 w A0 l0.length l0) (hc0 : l0.length ≤ c0) (hr1 : Kd.C k88 w A1 l1.length l1) (hc1 : l1.length ≤ c1) (h : caulkref09_Same.f k l0 l1 = some r) :
  Calls Tryd.prog 39 #[.slice A0 l0.length c0, .slice A1 l1.length c1] w fun e w' => e = .returned (.bool r) ∧ Drawn0 w w' := by
 have hu88 := Tryd.underlying88
 have HR0 := Aside0.mk hr0
 have HC0 := Aside0.mk hc0
 clear hr0 hc0
 have HR1 := Aside0.mk hr1
 have HC1 := Aside0.mk hc1
 clear hr1 hc1
 have H : (if (l0.length : Int) = (l1.length : Int) then (caulkref09_Same.l0 k l0 l1 (l0.length : Int) 0) else (some false)) = some r := h
 clear h
 by_cases c3 : (l0.length : Int) = (l1.length : Int)
 ·rw [if_pos c3] at H
  have c3b0 : ((l0.length : Int) == (l1.length : Int)) = true := beq_iff_eq.mpr c3
  have c3b1 : ((l0.length : Int) != (l1.length : Int)) = false := bne_eq_false_iff_eq.mpr c3
  have c3b2 : (l0.length == l1.length) = true := by first | simpa using c3 | (simp at c3 ⊢; omega)
  clear c3
  have H' := Aside0.mk H
  clear H
  go_enter Tryd.func39, Tryd.ntmps39
  go_wp2
  repeat (go_quiet (fail); try go_wp2)
  go_loopg [13] k (fun kq v13 w' => ∃ (x13_1 : Int), v13 = .int .i64 x13_1 ∧ Aside0 (caulkref09_Same.l0 kq l0 l1 (l0.length : Int) x13_1 = some r) ∧ Aside0 (kq ≤ k) ∧ Drawn0 w w')
  case atStart => exact ⟨(0), (by first | rfl | (simp; done) | (simp [*]; done)), H', ⟨Nat.le_refl _⟩, by repeat (first | exact Drawn0.refl _ | apply Drawn0.step)⟩
  case round =>
   clear H'
   (try clear c1);(try clear p2);(try clear c3);(try clear c3b0);(try clear c3b1);(try clear c3b2)
   obtain ⟨x13_1, rfl, HA, HK1, ⟨m1, rfl⟩⟩ := hrel
   cases gk with
   | zero => exact absurd HA.out (by simp [caulkref09_Same.l0])
   | succ k1 =>
    have H := HA.out
    clear HA
    simp only [caulkref09_Same.l0] at H
    by_cases c4 : x13_1 < (l0.length : Int)
    ·rw [if_pos c4] at H
     have c4b0 : decide (x13_1 < (l0.length : Int)) = true := decide_eq_true c4
     clear c4
     by_cases c5 : 0 ≤ x13_1
     ·rw [if_pos c5] at H
      have c5b0 : decide (0 ≤ x13_1) = true := decide_eq_true c5
      clear c5
      by_cases c6 : x13_1 < (l0.length : Int)
      ·rw [if_pos c6] at H
       have c6b0 : decide (x13_1 < (l0.length : Int)) = true := decide_eq_true c6
       clear c6
       by_cases c7 : x13_1 < (l1.length : Int)
       ·rw [if_pos c7] at H
        have c7b0 : decide (x13_1 < (l1.length : Int)) = true := decide_eq_true c7
        clear c7
        by_cases c8 : (!(((rd_T88 l0 x13_1).f0) == ((rd_T88 l1 x13_1).f0)) || (!(((rd_T88 l0 x13_1).f1) == ((rd_T88 l1 x13_1).f1)))) = true
        ·rw [if_pos c8] at H
         have c8b0 : (!(((rd_T88 l0 x13_1).f0) == ((rd_T88 l1 x13_1).f0)) || (!(((rd_T88 l0 x13_1).f1) == ((rd_T88 l1 x13_1).f1)))) = true := c8
         clear c8
         obtain rfl := Option.some.inj H
         have p212 : 0 ≤ (x13_1 : Int) := of_decide_eq_true (by first | (with_reducible assumption) | assumption)
         have q212 : x13_1 < (l0.length : Int) := of_decide_eq_true (by first | (with_reducible assumption) | assumption)
         obtain ⟨ad212, e212, hx212_0, hx212_1⟩ := at_T88 HR0.out x13_1 p212 q212
         cases e212
         replace p212 := eq_true p212
         replace q212 := eq_true q212
         have p213 : 0 ≤ (x13_1 : Int) := of_decide_eq_true (by first | (with_reducible assumption) | assumption)
         have q213 : x13_1 < (l1.length : Int) := of_decide_eq_true (by first | (with_reducible assumption) | assumption)
         obtain ⟨ad213, e213, hx213_0, hx213_1⟩ := at_T88 HR1.out x13_1 p213 q213
         cases e213
         replace p213 := eq_true p213
         replace q213 := eq_true q213
         go_wp2
         repeat (go_quiet (fail); try go_wp2)
         go_ret
         exact ⟨by first | rfl | (simp; done) | (simp [*]; done), by repeat (first | exact Drawn0.refl _ | apply Drawn0.step)⟩
        ·rw [if_neg c8] at H
         have c8b0 : (!(((rd_T88 l0 x13_1).f0) == ((rd_T88 l1 x13_1).f0)) || (!(((rd_T88 l0 x13_1).f1) == ((rd_T88 l1 x13_1).f1)))) = false := by simpa using c8
         clear c8
         have H' := Aside0.mk H
         clear H
         have p212 : 0 ≤ (x13_1 : Int) := of_decide_eq_true (by first | (with_reducible assumption) | assumption)
         have q212 : x13_1 < (l0.length : Int) := of_decide_eq_true (by first | (with_reducible assumption) | assumption)
         obtain ⟨ad212, e212, hx212_0, hx212_1⟩ := at_T88 HR0.out x13_1 p212 q212
         cases e212
         replace p212 := eq_true p212
         replace q212 := eq_true q212
         have p213 : 0 ≤ (x13_1 : Int) := of_decide_eq_true (by first | (with_reducible assumption) | assumption)
         have q213 : x13_1 < (l1.length : Int) := of_decide_eq_true (by first | (with_reducible assumption) | assumption)
         obtain ⟨ad213, e213, hx213_0, hx213_1⟩ := at_T88 HR1.out x13_1 p213 q213
         cases e213
         replace p213 := eq_true p213
         replace q213 := eq_true q213
         go_wp2
         repeat (go_quiet (fail); try go_wp2)
         go_roundg k1
         case measure => have := HK1.out; omega
         case rel => exact ⟨(wrap64 (x13_1 + 1)), (by first | rfl | (simp; done) | (simp [*]; done)), H', ⟨by have := HK1.out; omega⟩, by repeat (first | exact Drawn0.refl _ | apply Drawn0.step)⟩
       ·rw [if_neg c7] at H
        exact absurd H (by simp)
      ·rw [if_neg c6] at H
       exact absurd H (by simp)
     ·rw [if_neg c5] at H
      exact absurd H (by simp)
    ·rw [if_neg c4] at H
     have c4b0 : decide (x13_1 < (l0.length : Int)) = false := decide_eq_false c4
     clear c4
     obtain rfl := Option.some.inj H
     go_wp2
     repeat (go_quiet (fail); try go_wp2)
     go_ret
     exact ⟨by first | rfl | (simp; done) | (simp [*]; done), by repeat (first | exact Drawn0.refl _ | apply Drawn0.step)⟩
 ·rw [if_neg c3] at H
  have c3b0 : ((l0.length : Int) == (l1.length : Int)) = false := beq_eq_false_iff_ne.mpr c3
  have c3b1 : ((l0.length : Int) != (l1.length : Int)) = true := bne_iff_ne.mpr c3
  have c3b2 : (l0.length == l1.length) = false := by first | simpa using c3 | (simp at c3 ⊢; omega)
  obtain rfl := Option.some.inj H
  go_enter Tryd.func39, Tryd.ntmps39
  go_wp2
  repeat (go_quiet (fail); try go_wp2)
  go_ret
  exact ⟨by first | rfl | (simp; done) | (simp [*]; done), by repeat (first | exact Drawn0.refl _ | apply Drawn0.step)⟩
section
open Go Go.Shelf Go.Maps Go.Proofs.YtmmfplogkikbjaaDoor.Seq Go.Proofs.YtmmfplogkikbjaaDoor.MapL Go.Proofs.YtmmfplogkikbjaaDoorW.PrintLast
attribute [local go_sem] Oper.semAt_some max2_int min2_int max_two min_two
theorem C_cop {W : World} {n : Nat} (h0 : W.cell? ⟨n, 0, none⟩ = some (.int .i64 0)) (h1 : W.cell? ⟨n, 1, none⟩ = some (.bool true)) : Kd.C k88 W (some ⟨n, 0, none⟩) 1 [⟨0, true⟩] := by
 refine ⟨rfl, by decide, fun _ => ⟨_, rfl, fun j p hp => ?_⟩⟩
 have hj0 : j = 0 := by
  rcases Nat.eq_zero_or_pos j with e | e
  ·exact e
  ·rw [List.getElem?_eq_none (by simp; omega)] at hp; cases hp
 subst hj0
 simp only [List.getElem?_cons_zero, Option.some.injEq] at hp
 subst hp
 refine ⟨[.int .i64 0, .bool true], rfl, k88_mk W ⟨0, true⟩, fun i u hi => ?_⟩
 rcases i with _ | _ | i
 ·cases hi; exact h0
 ·cases hi; exact h1
 ·simp at hi
theorem head9 : S1.extract 0 9 = (⟨#[99, 97, 117, 108, 107, 32, 48, 49, 3]⟩ : ByteArray) := by kernel_rfl
theorem head9_list : ((S1.extract 0 9).toList == [99, 97, 117, 108, 107, 32, 48, 49, 3]) = true := by
 rw [head9, ByteArray.toList_eq]; rfl
theorem check0 : checkS 0 0 0 0 0 0 0 0 = 2 := by decide
set_option maxRecDepth 100000 in
set_option maxHeartbeats 16000000 in
theorem super_lives_any (w : World) (hT : TabAt w) : Calls Tryd.prog 8 #[] w fun e w' => e = .returned (.bool true) ∧ Step (fun _ => False) w w' := by
 have hu28 := Tryd.underlying28
 have hu23 := Tryd.underlying23
 have hu26 := Tryd.underlying26
 have hu48 := Tryd.underlying48
 have hu88 := Tryd.underlying88
 have hNew : ∀ W, Calls Tryd.prog 16 #[.int .i64 16] W fun e w' => ∃ i, e = .returned (.tuple #[.pointer (some ⟨i.d, 0, none⟩), .int .i64 0]) ∧ DevAt w' i xs0 [] [] false (-1) 0 ∧ (∀ k, i.In k → W.heap.size ≤ k) ∧ Below W.heap.size W w' := fun W => dev_New_any W 16 (by omega) (by omega)
 have hB1 : ∀ W, TabAt W → Calls Tryd.prog 9 #[.agg #[.int .i64 3, .int .i64 1, .int .i64 2, .int .i64 1, .int .i64 8, .int .i64 5, .int .i64 2, .int .i64 3, .int .u32 4]] W fun e w' => e = .returned (.tuple #[.string S1, .int .i64 0]) ∧ Below W.heap.size W w' := fun W h => by
  have := super_Bytes_any W h h.pos 3 1 2 1 8 5 2 3 4 ⟨by decide, by decide⟩
  rw [by1] at this
  exact this
 have hP1 : ∀ W, TabAt W → Calls Tryd.prog 11 #[.string S1] W fun e w' => e = .returned (.tuple #[.agg #[.int .i64 3, .int .i64 1, .int .i64 2, .int .i64 1, .int .i64 8, .int .i64 5, .int .i64 2, .int .i64 3, .int .u32 4], .int .i64 0]) ∧ Below W.heap.size W w' := fun W h => by
  have := super_Parse_any W h h.pos S1
  rw [par1] at this
  exact this
 have hP2 : ∀ W, TabAt W → Calls Tryd.prog 11 #[.string (S1.extract 1 S1.size)] W fun e w' => e = .returned (.tuple #[.agg #[.int .i64 0, .int .i64 0, .int .i64 0, .int .i64 0, .int .i64 0, .int .i64 0, .int .i64 0, .int .i64 0, .int .u32 0], .int .i64 6]) ∧ Below W.heap.size W w' := fun W h => by
  have := super_Parse_any W h h.pos (S1.extract 1 S1.size)
  rw [parS _ (by rw [ByteArray.size_extract, sz1]; decide)] at this
  exact this
 have hW1 : ∀ W i, TabAt W → DevAt W i xs0 [] [] false (-1) 0 → Calls Tryd.prog 17 #[.pointer (some ⟨i.d, 0, none⟩), .int .i64 1, .agg #[.int .i64 3, .int .i64 1, .int .i64 2, .int .i64 1, .int .i64 8, .int .i64 5, .int .i64 2, .int .i64 3, .int .u32 4]] W fun e w' => e = .returned (.int .i64 0) ∧ DevAt w' i xs0 [(1, S1)] [] false (-1) 1 ∧ Step i.In W w' := fun W i h hD => super_Write_any W h i xs0 [] [] false (-1) 0 hD 1 3 1 2 1 8 5 2 3 4 ⟨by decide, by decide⟩ _ _ _ _ _ wr1_
 have hF1 : ∀ W i, TabAt W → DevAt W i xs0 [(1, S1)] [] false (-1) 1 → Calls Tryd.prog 19 #[.pointer (some ⟨i.d, 0, none⟩)] W fun e w' => ∃ v, e = .returned (.tuple #[v, .int .i64 0]) ∧ w'.ownsRow W.heap.size 48 10 v 1 [.int .i64 1, .int .i64 3, .int .i64 1, .int .i64 2, .int .i64 1, .int .i64 8, .int .i64 5, .int .i64 2, .int .i64 3, .int .u32 4] ∧ Step (fun _ => False) W w' := fun W i h hD => by
  have := super_Find_ok W h i xs0 [(1, S1)] [] (-1) 1 hD
  rw [find1] at this
  have e : srtS xs0 [(1, S1)] [] false [1] = [1] := rfl
  rw [e, List.flatMap_cons, List.flatMap_nil, (slot1 xs0 [(1, S1)] [] false 1 rfl).1] at this
  exact this
 have hH : ∀ W i, TabAt W → DevAt W i xs0 [(1, S1)] [] false (-1) 1 → Calls Tryd.prog 36 #[.pointer (some ⟨i.d, 0, none⟩), .agg #[.int .i64 3, .int .i64 1, .int .i64 2, .int .i64 1, .int .i64 8, .int .i64 5, .int .i64 2, .int .i64 3, .int .u32 4]] W fun e w' => ∃ v, e = .returned (.tuple #[v, .int .i64 0]) ∧ DevAt w' i xs0 [(1, S1), (0, S1)] [] false (-1) 2 ∧ w'.ownsRow W.heap.size 88 2 v 1 [.int .i64 0, .bool true] ∧ Step i.In W w' := fun W i h hD =>
  super_Heal_any W h i xs0 [(1, S1)] [] false (-1) 1 hD 3 1 2 1 8 5 2 3 4 ⟨by decide, by decide⟩ _ heal_.symm
 have hW4 : ∀ W i, TabAt W → DevAt W i xs0 [(1, S1), (0, S1)] [] false (-1) 2 → Calls Tryd.prog 17 #[.pointer (some ⟨i.d, 0, none⟩), .int .i64 1, .agg #[.int .i64 4, .int .i64 1, .int .i64 2, .int .i64 1, .int .i64 8, .int .i64 5, .int .i64 2, .int .i64 3, .int .u32 4]] W fun e w' => e = .returned (.int .i64 0) ∧ DevAt w' i xs0 [(1, S4), (0, S1)] [] false (-1) 3 ∧ Step i.In W w' := fun W i h hD => super_Write_any W h i xs0 [(1, S1), (0, S1)] [] false (-1) 2 hD 1 4 1 2 1 8 5 2 3 4 ⟨by decide, by decide⟩ _ _ _ _ _ wr4_
 have hF4 : ∀ W i, TabAt W → DevAt W i xs0 [(1, S4), (0, S1)] [] false (-1) 3 → Calls Tryd.prog 19 #[.pointer (some ⟨i.d, 0, none⟩)] W fun e w' => ∃ v, e = .returned (.tuple #[v, .int .i64 0]) ∧ w'.ownsRow W.heap.size 48 10 v 2 [.int .i64 1, .int .i64 4, .int .i64 1, .int .i64 2, .int .i64 1, .int .i64 8, .int .i64 5, .int .i64 2, .int .i64 3, .int .u32 4, .int .i64 0, .int .i64 3, .int .i64 1, .int .i64 2, .int .i64 1, .int .i64 8, .int .i64 5, .int .i64 2, .int .i64 3, .int .u32 4] ∧ Step (fun _ => False) W w' := fun W i h hD => by
  have := super_Find_ok W h i xs0 [(1, S4), (0, S1)] [] (-1) 3 hD
  rw [find2.1, find2.2] at this
  rw [List.flatMap_cons, List.flatMap_cons, List.flatMap_nil, (slot1 xs0 [(1, S4), (0, S1)] [] false 0 rfl).1, (slot4 xs0 [(1, S4), (0, S1)] [] false 1 rfl).1] at this
  exact this
 have hW2 : ∀ W i, TabAt W → DevAt W i xs0 [(1, S4), (0, S1)] [] false (-1) 3 → Calls Tryd.prog 17 #[.pointer (some ⟨i.d, 0, none⟩), .int .i64 2, .agg #[.int .i64 4, .int .i64 1, .int .i64 2, .int .i64 1, .int .i64 8, .int .i64 5, .int .i64 2, .int .i64 3, .int .u32 4]] W fun e w' => e = .returned (.int .i64 1) ∧ DevAt w' i xs0 [(1, S4), (0, S1)] [] false (-1) 3 ∧ Step i.In W w' := fun W i h hD => super_Write_any W h i xs0 [(1, S4), (0, S1)] [] false (-1) 3 hD 2 4 1 2 1 8 5 2 3 4 ⟨by decide, by decide⟩ _ _ _ _ _ (wr2_ _ _ _ _)
 have hC0 : ∀ W, Calls Tryd.prog 13 #[.agg #[.int .i64 0, .int .i64 0, .int .i64 0, .int .i64 0, .int .i64 0, .int .i64 0, .int .i64 0, .int .i64 0, .int .u32 0]] W fun e w' => e = .returned (.int .i64 2) ∧ Below W.heap.size W w' := fun W => by
  have := super_Check_any W 0 0 0 0 0 0 0 0 0
  rw [check0] at this
  exact this
 have hSame : ∀ W q c n, W.cell? ⟨q, 0, none⟩ = some (.int .i64 0) → W.cell? ⟨q, 1, none⟩ = some (.bool true) → 1 ≤ c → W.cell? ⟨n, 0, none⟩ = some (.int .i64 0) → W.cell? ⟨n, 1, none⟩ = some (.bool true) → Calls Tryd.prog 39 #[.slice (some ⟨q, 0, none⟩) 1 c, .slice (some ⟨n, 0, none⟩) 1 1] W fun e w' => e = .returned (.bool true) ∧ Drawn0 W w' := fun W q c n h0 h1 hc g0 g1 => caulkref09_Same.calls 5 (some ⟨q, 0, none⟩) c [⟨0, true⟩] (some ⟨n, 0, none⟩) 1 [⟨0, true⟩] true W (C_cop h0 h1) hc (C_cop g0 g1) (Nat.le_refl _) (by kernel_rfl)
 have hsz : ((S1.size : Int) != 512) = false := by rw [sz1]; rfl
 have hsz1 : (1 : Int) ≤ S1.size := by rw [sz1]; decide
 have hsz9 : (9 : Int) ≤ S1.size := by rw [sz1]; decide
 have hhd := head9_list
 generalize S1 = SA at *
 generalize S4 = SB at *
 obtain ⟨X, hX⟩ : ∃ X, X = xs0 := ⟨_, rfl⟩
 rw [← hX] at hNew hW1 hF1 hH hW4 hF4 hW2
 clear hX
 have hsl : ∀ W, (Instr.slice 9 (.string SA) (some (.int .i64 1)) none none).run Tryd.prog W = .ok (.string (SA.extract 1 SA.size)) W := fun W => slice_lo W SA 1 (by decide) hsz1
 have hsh : ∀ W, (Instr.slice 9 (.string SA) none (some (.int .i64 9)) none).run Tryd.prog W = .ok (.string (SA.extract 0 9)) W := fun W => slice_hi W SA 9 (by decide) hsz9
 clear hsz1 hsz9
 have hs1 := Step.alloc (fun _ => False) w (.cells #[.int .i64 3, .int .i64 1, .int .i64 2, .int .i64 1, .int .i64 8, .int .i64 5, .int .i64 2, .int .i64 3, .int .u32 4] 28)
 have k1 := World.alloc_heap_new w (.cells #[.int .i64 3, .int .i64 1, .int .i64 2, .int .i64 1, .int .i64 8, .int .i64 5, .int .i64 2, .int .i64 3, .int .u32 4] 28)
 go_enter Tryd.func8, Tryd.ntmps8
 try simp only [List.append_eq, List.cons_append, List.nil_append]
 go_wp2_with (go_at_call 16; with_reducible refine (hNew _).mono ?_)
 rintro e w2 ⟨i, rfl, hD2, hlo, hb2⟩
 have k2 := (Step.of_below (S := fun _ => False) hb2).block k1 (fun h => h)
 have hs2 := step2 hs1 (Step.of_below (S := fun _ => False) hb2)
 have hin : ∀ k, i.In k → w.heap.size < k := fun k hk => by have := hlo k hk; simp at this; omega
 have hT2 := hT.step hs2 (fun h => h)
 clear hlo hb2 hs1 k1 hNew
 obtain ⟨x0, x1, x2, x3, x4, x5, x6, x7, x8⟩ := blk9 k2
 go_wp2_with (go_at_call 9; with_reducible refine (hB1 _ hT2).mono ?_)
 rintro e w3 ⟨rfl, hb3⟩
 have k3 := Stepb hb3 k2
 have hs3 := step2 hs2 (Step.of_below (S := fun _ => False) hb3)
 have hD3 := hD2.step (Step.of_below (S := fun _ => False) hb3) (fun _ _ h => h)
 have hT3 := hT.step hs3 (fun h => h)
 clear x0 x1 x2 x3 x4 x5 x6 x7 x8 hb3 k2 hs2 hD2 hT2
 go_wp2_with (go_at_call 11; with_reducible refine (hP1 _ hT3).mono ?_)
 rintro e w4 ⟨rfl, hb4⟩
 have k4 := Stepb hb4 k3
 have hs4 := step2 hs3 (Step.of_below (S := fun _ => False) hb4)
 have hD4 := hD3.step (Step.of_below (S := fun _ => False) hb4) (fun _ _ h => h)
 clear hb4 k3 hs3 hD3 hT3
 have ha5 := Step.alloc (fun _ => False) w4 (.cells #[.int .i64 3, .int .i64 1, .int .i64 2, .int .i64 1, .int .i64 8, .int .i64 5, .int .i64 2, .int .i64 3, .int .u32 4] 28)
 have hs5 := step2 hs4 ha5
 have hT5 := hT.step hs5 (fun h => h)
 go_wp2_with (go_at_call 11; with_reducible refine (hP2 _ hT5).mono ?_)
 rintro e w6 ⟨rfl, hb6⟩
 have g5 := World.alloc_heap_new w4 (.cells #[.int .i64 3, .int .i64 1, .int .i64 2, .int .i64 1, .int .i64 8, .int .i64 5, .int .i64 2, .int .i64 3, .int .u32 4] 28)
 have hs56 := step2 ha5 (Step.of_below (S := fun _ => False) hb6)
 have hl4 : w.heap.size < w4.heap.size := (Array.getElem?_eq_some_iff.1 k4).1
 have k6 := hs56.block k4 (fun h => h)
 have g6 := Stepb hb6 g5
 have hs6 := step2 hs4 hs56
 have ha7 := Step.alloc (fun _ => False) w6 (.cells #[.int .i64 0, .int .i64 0, .int .i64 0, .int .i64 0, .int .i64 0, .int .i64 0, .int .i64 0, .int .i64 0, .int .u32 0] 28)
 have k7 := ha7.block k6 (fun h => h)
 have g7 := ha7.block g6 (fun h => h)
 have hs7 := step2 hs6 ha7
 have hT7 := hT.step hs7 (fun h => h)
 have hD7 := hD4.step (step2 hs56 ha7) (fun _ _ h => h)
 have hp7 : ∀ k, i.In k → k ≠ w4.heap.size := fun k hk => Nat.ne_of_lt (hD4.lt k hk)
 clear hb6 g5 hs56 k6 g6 hs6 ha7 hs4 ha5 k4 hD4 hT5 hP1 hP2
 obtain ⟨x0, x1, x2, x3, x4, x5, x6, x7, x8⟩ := blk9 k7
 go_wp2_with (go_at_call 17; with_reducible refine (hW1 _ i hT7 hD7).mono ?_)
 rintro e w8 ⟨rfl, hD8, hs78⟩
 have k8 := hs78.block k7 (fun h => Nat.lt_irrefl _ (hin _ h))
 have g8 := hs78.block g7 (fun h => hp7 _ h rfl)
 have hs8 := hs7.trans hs78 (fun _ h => h) (fun k hk => Or.inr (Nat.le_of_lt (hin k hk)))
 have hT8 := hT.step hs8 (fun h => h)
 clear x0 x1 x2 x3 x4 x5 x6 x7 x8 hs78 k7 g7 hs7 hT7 hD7 hW1
 go_wp2_with (go_at_call 19; with_reducible refine (hF1 _ i hT8 hD8).mono ?_)
 rintro e w9 ⟨v9, rfl, ho9, hs89⟩
 obtain ⟨r9, c9, rfl, hr9, hl9, _⟩ := ownsRow_form ho9 (by omega)
 have k9 := hs89.block k8 (fun h => h)
 have g9 := hs89.block g8 (fun h => h)
 have hs9 := step2 hs8 hs89
 have hD9 := hD8.step hs89 (fun _ _ h => h)
 have hT9 := hT.step hs9 (fun h => h)
 have hn9 : ¬ i.In r9 := fun h => by have := hD8.lt _ h; omega
 have hq9 : r9 ≠ w.heap.size := by have := (Array.getElem?_eq_some_iff.1 k8).1; omega
 clear hs89 k8 g8 hs8 hD8 hT8 hF1
 obtain ⟨x0, x1, x2, x3, x4, x5, x6, x7, x8⟩ := blk9 k9
 go_wp2_with (go_at_call 36; with_reducible refine (hH _ i hT9 hD9).mono ?_)
 rintro e wa ⟨va, rfl, hDa, hoa, hs9a⟩
 obtain ⟨ra, ca, rfl, hra, hla, _⟩ := ownsRow_form hoa (by omega)
 have ka := hs9a.block k9 (fun h => Nat.lt_irrefl _ (hin _ h))
 have ga := hs9a.block g9 (fun h => hp7 _ h rfl)
 have hsa := hs9.trans hs9a (fun _ h => h) (fun k hk => Or.inr (Nat.le_of_lt (hin k hk)))
 have ho9a := ownsRow_step hs9a ho9 (fun q hq h => by simp [Value.ownBlock] at hq; subst hq; exact hn9 h)
 have hna : ¬ i.In ra := fun h => by have := hD9.lt _ h; omega
 have hqa : ra ≠ w.heap.size := by have := (Array.getElem?_eq_some_iff.1 k9).1; omega
 clear x0 x1 x2 x3 x4 x5 x6 x7 x8 hs9a k9 g9 hs9 hT9 hD9 hH ho9
 have hfz := blk_frozen ka 0
 have kb := blk_set ka 0 (.int .i64 4)
 have hsab := Step.setCell wa (p := ⟨w.heap.size, 0, none⟩) (S := fun q => q = w.heap.size) rfl (.int .i64 4)
 have gb := hsab.block ga (fun h => by have := (Array.getElem?_eq_some_iff.1 ka).1; have := hl4; omega)
 have hsb := hsa.trans hsab (fun _ h => h) (fun k hk => Or.inr (Nat.le_of_eq hk.symm))
 have hDb := hDa.step hsab (fun k hk h => Nat.lt_irrefl _ (h ▸ hin k hk))
 have hob := ownsRow_step hsab hoa (fun q hq h => by simp [Value.ownBlock] at hq; omega)
 have ho9b := ownsRow_step hsab ho9a (fun q hq h => by simp [Value.ownBlock] at hq; omega)
 have hTb := hT.step hsb (fun h => h)
 have y0 := Lib.cell_of_heap ka 0
 simp at y0
 go_upto_region 12 with (fail)
 clear y0 hfz ka hsab ga hsa hDa hoa ho9a
 generalize wa.setCell ⟨w.heap.size, 0, none⟩ (.int .i64 4) = wb at *
 obtain ⟨x0, x1, x2, x3, x4, x5, x6, x7, x8⟩ := blk9 kb
 go_wp2_with (go_at_call 17; with_reducible refine (hW4 _ i hTb hDb).mono ?_)
 rintro e wc ⟨rfl, hDc, hsbc⟩
 have kc := hsbc.block kb (fun h => Nat.lt_irrefl _ (hin _ h))
 have gc := hsbc.block gb (fun h => hp7 _ h rfl)
 have hsc := hsb.trans hsbc (fun _ h => h) (fun k hk => Or.inr (Nat.le_of_lt (hin k hk)))
 have ho9c := ownsRow_step hsbc ho9b (fun q hq h => by simp [Value.ownBlock] at hq; subst hq; exact hn9 h)
 have hoc := ownsRow_step hsbc hob (fun q hq h => by simp [Value.ownBlock] at hq; subst hq; exact hna h)
 have hTc := hT.step hsc (fun h => h)
 clear x0 x1 x2 x3 x4 x5 x6 x7 x8 hsbc kb gb hsb hTb hDb hob ho9b hW4
 go_wp2_with (go_at_call 19; with_reducible refine (hF4 _ i hTc hDc).mono ?_)
 rintro e wd ⟨vd, rfl, hod, hscd⟩
 obtain ⟨rd, cd, rfl, hrd, hld, _⟩ := ownsRow_form hod (by omega)
 have kd := hscd.block kc (fun h => h)
 have gd := hscd.block gc (fun h => h)
 have hsd := step2 hsc hscd
 have ho9d := ownsRow_step hscd ho9c (fun q hq h => h)
 have hoad := ownsRow_step hscd hoc (fun q hq h => h)
 have hDd := hDc.step hscd (fun _ _ h => h)
 have hTd := hT.step hsd (fun h => h)
 have hnd : ¬ i.In rd := fun h => by have := hDc.lt _ h; omega
 clear hscd kc gc hsc ho9c hoc hDc hTc hF4
 go_upto_region 14 with (fail)
 obtain ⟨x0, x1, x2, x3, x4, x5, x6, x7, x8⟩ := blk9 kd
 go_wp2_with (go_at_call 17; with_reducible refine (hW2 _ i hTd hDd).mono ?_)
 rintro e we ⟨rfl, hDe, hsde⟩
 have ge := hsde.block gd (fun h => hp7 _ h rfl)
 have hse := hsd.trans hsde (fun _ h => h) (fun k hk => Or.inr (Nat.le_of_lt (hin k hk)))
 have ho9e := ownsRow_step hsde ho9d (fun q hq h => by simp [Value.ownBlock] at hq; subst hq; exact hn9 h)
 have hoae := ownsRow_step hsde hoad (fun q hq h => by simp [Value.ownBlock] at hq; subst hq; exact hna h)
 have hode := ownsRow_step hsde hod (fun q hq h => by simp [Value.ownBlock] at hq; subst hq; exact hnd h)
 clear x0 x1 x2 x3 x4 x5 x6 x7 x8 hsde kd gd hsd ho9d hoad hod hDd hTd hW2 hDe
 have y0 := Lib.cell_of_heap ge 0
 have y8 := Lib.cell_of_heap ge 8
 simp at y0 y8
 have u0 := ownsRow_cell ho9e (j := 0) rfl
 have u1 := ownsRow_cell hode (j := 1) rfl
 have u2 := ownsRow_cell hode (j := 10) rfl
 have ag := World.alloc_heap_new we (.cells #[.int .i64 0, .bool true] 88)
 have c0 : (we.alloc (.cells #[.int .i64 0, .bool true] 88)).cell? ⟨we.heap.size, 0, none⟩ = some (.int .i64 0) := Lib.cell_of_heap ag 0
 have c1 : (we.alloc (.cells #[.int .i64 0, .bool true] 88)).cell? ⟨we.heap.size, 1, none⟩ = some (.bool true) := Lib.cell_of_heap ag 1
 have hoaf := ownsRow_step (Step.alloc (fun _ => False) we (.cells #[.int .i64 0, .bool true] 88)) hoae (fun _ _ h => h)
 have b0 := ownsRow_cell hoaf (j := 0) rfl
 have b1 := ownsRow_cell hoaf (j := 1) rfl
 have hca : 1 ≤ ca := by
  rcases hoaf.2 with ⟨h0, _⟩ | ⟨g', cap', cur, e', _, _, h1, _⟩
  ·cases h0
  ·cases e'; exact h1
 have hsf := step2 hse (Step.alloc (fun _ => False) we (.cells #[.int .i64 0, .bool true] 88))
 have hSm := hSame (we.alloc (.cells #[.int .i64 0, .bool true] 88)) ra ca we.heap.size b0 b1 hca c0 c1
 clear c0 c1 ag hoaf b0 b1
 go_wp2_with (go_at_call 39; with_reducible refine hSm.mono ?_)
 rintro e wg ⟨rfl, hdr⟩
 have hbg := hdr.below
 have hsg := step2 hsf (Step.of_below (S := fun _ => False) hbg)
 have hs2 := Step.of_below (S := fun _ => False) hbg
 have ho2 := ownsRow_step hs2 (ownsRow_step (Step.alloc (fun _ => False) we (.cells #[.int .i64 0, .bool true] 88)) hode (fun _ _ h => h)) (fun _ _ h => h)
 have u1 := ownsRow_cell ho2 (j := 1) rfl
 have u2 := ownsRow_cell ho2 (j := 10) rfl
 clear hSm hdr ho9e hoae hode ge u0 y0 y8
 go_wp2_with (go_at_call 13; with_reducible refine (hC0 _).mono ?_)
 rintro e wh ⟨rfl, hbh⟩
 have hsh := step2 hsg (Step.of_below (S := fun _ => False) hbh)
 go_wp2
 go_ret
 exact ⟨rfl, hsh⟩
end
end Go.Proofs.YtmmfplogkikbjaaDoor.HSF
