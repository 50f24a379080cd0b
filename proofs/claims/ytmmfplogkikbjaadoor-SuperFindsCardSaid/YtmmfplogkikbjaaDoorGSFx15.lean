/- a text of this claim -/
import Derived.Test.YtmmfplogkikbjaaDoorGSFx0
import Derived.Test.YtmmfplogkikbjaaDoorGSFx8
import Derived.Test.YtmmfplogkikbjaaDoorGSFx11
import Derived.Test.YtmmfplogkikbjaaDoorGSFx12
import Derived.Test.YtmmfplogkikbjaaDoorGSFx13
import Derived.Test.YtmmfplogkikbjaaDoorGSFx14
namespace Go.Proofs.YtmmfplogkikbjaaDoor.HSF
open Go.RowKit Go.Proofs.YtmmfplogkikbjaaDoorW.PrintWords Go.Proofs.YtmmfplogkikbjaaDoorW.PrintLast Go.Proofs.YtmmfplogkikbjaaDoorW.PrintMore
attribute [local go_sem] max2_int min2_int max_two min_two max_three min_three max_four min_four
set_option linter.unusedVariables false
set_option linter.unusedSimpArgs false
section
open Go Go.Shelf Go.Maps Go.Proofs.YtmmfplogkikbjaaDoor.Seq Go.Proofs.YtmmfplogkikbjaaDoor.MapL Go.Proofs.YtmmfplogkikbjaaDoorW.PrintLast
attribute [local go_sem] Oper.semAt_some max2_int min2_int max_two min_two
theorem infoS48 : (Tryd.prog.info? 48).map (fun i => (i.zero, i.size, i.bytes)) = some (some (.agg #[(.int .i64 0), (.int .i64 0), (.int .i64 0), (.int .i64 0), (.int .i64 0), (.int .i64 0), (.int .i64 0), (.int .i64 0), (.int .i64 0), (.int .u32 0)]), 10, 80) := by kernel_rfl
theorem infoS88 : (Tryd.prog.info? 88).map (fun i => (i.zero, i.size, i.bytes)) = some (some (.agg #[(.int .i64 0), (.bool false)]), 2, 16) := by kernel_rfl
theorem TabAt.pos {w : World} (h : TabAt w) : 0 < w.heap.size := World.block_lt_of_cell? w _ (h 0 (by decide))
def swP (n : Nat) (F : FL) (off : Bool) (fuse nw slot : Int) (b : ByteArray × Int) : FL × Bool × Int × Int × Int :=
 if slot < 0 ∨ 2 ≤ slot then (F, off, fuse, nw, 1) else if b.2 ≠ 0 then (F, off, fuse, nw, b.2) else writeP n F off fuse nw slot b.1
set_option maxRecDepth 100000 in
set_option maxHeartbeats 4000000 in
theorem super_Write_any (w : World) (hT : TabAt w) (i : DevIds) (xs : List ByteArray) (F : FL) (B : BL) (off : Bool) (fuse nw : Int) (hD : DevAt w i xs F B off fuse nw) (slot g sh k m c l a b s : Int) (hs : 0 ≤ s ∧ s < 4294967296)
  (F3 : FL) (o3 : Bool) (l3 m3 why : Int) (hq : swP xs.length F off fuse nw slot (bytesS g sh k m c l a b s) = (F3, o3, l3, m3, why)) :
  Calls Tryd.prog 17 #[.pointer (some ⟨i.d, 0, none⟩), .int .i64 slot, .agg #[.int .i64 g, .int .i64 sh, .int .i64 k, .int .i64 m, .int .i64 c, .int .i64 l, .int .i64 a, .int .i64 b, .int .u32 s]] w fun e w' => e = .returned (.int .i64 why) ∧ DevAt w' i xs F3 B o3 l3 m3 ∧ Step i.In w w' := by
 have hu28 := Tryd.underlying28
 have hb0 : Below w.heap.size w (w.alloc (.cells #[.int .i64 g, .int .i64 sh, .int .i64 k, .int .i64 m, .int .i64 c, .int .i64 l, .int .i64 a, .int .i64 b, .int .u32 s] 28)) := (Below.refl _ _).alloc (Nat.le_refl _) _
 have hBy := super_Bytes_any (w.alloc (.cells #[.int .i64 g, .int .i64 sh, .int .i64 k, .int .i64 m, .int .i64 c, .int .i64 l, .int .i64 a, .int .i64 b, .int .u32 s] 28)) (hT.below hb0) (by simp) g sh k m c l a b s hs
 generalize bytesS g sh k m c l a b s = bb at hq hBy
 obtain ⟨bt_, bn⟩ := bb
 dsimp only at hBy
 unfold swP at hq
 by_cases h1 : slot < 0
 ·have d1 : decide (slot < 0) = true := decide_eq_true h1
  rw [if_pos (Or.inl h1)] at hq
  simp only [Prod.mk.injEq] at hq
  obtain ⟨rfl, rfl, rfl, rfl, rfl⟩ := hq
  go_enter Tryd.func17, Tryd.ntmps17
  go_wp2
  go_ret
  exact ⟨rfl, hD.step (Step.of_below (S := fun _ => False) hb0) (fun _ _ h => h), Step.of_below hb0⟩
 have d1 : decide (slot < 0) = false := decide_eq_false h1
 by_cases h2 : 2 ≤ slot
 ·have d2 : decide (2 ≤ slot) = true := decide_eq_true h2
  rw [if_pos (Or.inr h2)] at hq
  simp only [Prod.mk.injEq] at hq
  obtain ⟨rfl, rfl, rfl, rfl, rfl⟩ := hq
  go_enter Tryd.func17, Tryd.ntmps17
  go_wp2
  go_ret
  exact ⟨rfl, hD.step (Step.of_below (S := fun _ => False) hb0) (fun _ _ h => h), Step.of_below hb0⟩
 have d2 : decide (2 ≤ slot) = false := decide_eq_false h2
 rw [if_neg (by omega)] at hq
 by_cases h3 : bn = 0
 ·have d3 : (bn != 0) = false := by simpa using h3
  rw [if_neg (by simpa using h3)] at hq
  have hWr := fun W (h : DevAt W i xs F B off fuse nw) => dev_Write_any W i xs F B off fuse nw slot bt_ h
  rw [hq] at hWr
  dsimp only at hWr
  clear hq h3
  go_enter Tryd.func17, Tryd.ntmps17
  go_wp2_with (first
   | (go_at_call 9; with_reducible refine hBy.mono ?_; rintro e w1 ⟨rfl, hb1⟩; have hB1 := hb0.trans (hb1.mono hb0.size); have hD1 := hD.step (Step.of_below (S := fun _ => False) hB1) (fun _ _ h => h); clear hBy hb1)
   | (go_at_call 58; with_reducible refine (hWr _ hD1).mono ?_; rintro e w2 ⟨rfl, hD2, hs2⟩))
  go_ret
  exact ⟨rfl, hD2, (Step.of_below (S := i.In) hB1).trans hs2 (fun _ h => h) (fun _ h => Or.inl h)⟩
 ·have d3 : (bn != 0) = true := by simpa using h3
  rw [if_pos (by simpa using h3)] at hq
  simp only [Prod.mk.injEq] at hq
  obtain ⟨rfl, rfl, rfl, rfl, rfl⟩ := hq
  go_enter Tryd.func17, Tryd.ntmps17
  go_wp2_with (first
   | (go_at_call 9; with_reducible refine hBy.mono ?_; rintro e w1 ⟨rfl, hb1⟩; have hB1 := hb0.trans (hb1.mono hb0.size)))
  go_ret
  exact ⟨rfl, hD.step (Step.of_below (S := fun _ => False) hB1) (fun _ _ h => h), Step.of_below hB1⟩
theorem step2 {w w1 w2 : World} (h1 : Step (fun _ => False) w w1) (h2 : Step (fun _ => False) w1 w2) : Step (fun _ => False) w w2 := h1.trans h2 (fun _ h => h) (fun _ h => h.elim)
def rdT (xs : List ByteArray) (F : FL) (B : BL) (off : Bool) (j : Nat) : ByteArray := (readP xs F B off (j : Int)).1
noncomputable instance isS_dec (t : ByteArray) : Decidable (IsS t) := Classical.propDecidable _
noncomputable def stL (xs : List ByteArray) (F : FL) (B : BL) (off : Bool) : Nat → List Nat
 | 0 => []
 | k + 1 => stL xs F B off k ++ if IsS (rdT xs F B off k) then [k] else []
def slotV (xs : List ByteArray) (F : FL) (B : BL) (off : Bool) (j : Nat) : Value := .agg #[.int .i64 (j : Int), .int .i64 (wrap64 (vP (rdT xs F B off j) 0)), .int .i64 (wrap64 (vP (rdT xs F B off j) 1)), .int .i64 (wrap64 (vP (rdT xs F B off j) 2)), .int .i64 (wrap64 (vP (rdT xs F B off j) 3)), .int .i64 (wrap64 (vP (rdT xs F B off j) 5)), .int .i64 (wrap64 (vP (rdT xs F B off j) 6)), .int .i64 (pP (rdT xs F B off j) 0), .int .i64 (pP (rdT xs F B off j) 1), .int .u32 (pP (rdT xs F B off j) 2)]
theorem stands_any (w : World) (i : DevIds) : Calls Tryd.prog 62 #[.pointer (some ⟨i.d, 0, none⟩)] w fun e w' => e = .returned (.func (.func 109) #[] #[.pointer (some ⟨w.heap.size, 0, none⟩)]) ∧ w' = w.alloc (.cells #[.pointer (some ⟨i.d, 0, none⟩)] 38) := by
 go_enter Tryd.func62, Tryd.ntmps62
 go_wp2
 go_ret
 exact ⟨rfl, rfl⟩
theorem stL_pre (xs : List ByteArray) (F : FL) (B : BL) (off : Bool) : ∀ {k : Nat}, k < 2 → stL xs F B off (k + 1) <+: stL xs F B off 2 := fun {k} hk => by
 rcases (show k = 0 ∨ k = 1 by omega) with rfl | rfl
 ·exact List.prefix_append _ _
 ·exact List.prefix_refl _
set_option maxRecDepth 100000 in
set_option maxHeartbeats 8000000 in
theorem stands_seq (w : World) (hT : TabAt w) (Bx : Nat) (i : DevIds) (xs : List ByteArray) (F : FL) (B : BL) (off : Bool) (fuse nw : Int) (hB : Boxed w Bx 38 (.pointer (some ⟨i.d, 0, none⟩))) (hD : DevAt w i xs F B off fuse nw) :
  SeqO (fun r => r = Bx ∨ i.In r ∨ r = 0) (fun _ => False) Tryd.prog 109 #[.pointer (some ⟨Bx, 0, none⟩)] (fun j : Nat => #[slotV xs F B off j]) (stL xs F B off 2) w := by
 intro l J Jx O W hW hO hJ hY h0
 have hu28 := Tryd.underlying28
 have hu48 := Tryd.underlying48
 replace hB := hW.boxed hB (by simp)
 replace hD := hD.step hW (fun k hk h => h (Or.inr (Or.inl hk)))
 replace hT := hT.step hW (fun h => h (Or.inr (Or.inr rfl)))
 have hcB := hB.cell
 have hlt := hD.lt
 have hBl := hB.lt
 have hpos := hT.pos
 refine callsIn_of_wp Tryd.func109 rfl trivial ?_ rfl
 simp only [Tryd.ntmps109, List.size_toArray, List.length_cons, List.length_nil, Nat.reduceAdd, Nat.reduceSub, Array.replicate_succ, Array.replicate_zero, List.push_toArray, List.append_toArray, List.nil_append, List.cons_append]
 gi_wp2
 gi_loopw [8] (fun t wr => ∃ k : Nat, k ≤ 2 ∧ t = .int .i64 k ∧ Boxed wr Bx 38 (.pointer (some ⟨i.d, 0, none⟩)) ∧ DevAt wr i xs F B off fuse nw ∧ TabAt wr ∧ W.heap.size ≤ wr.heap.size ∧ ∃ O', J O' (stL xs F B off k) wr ∧ (∀ q, O' q → ¬ (q = Bx ∨ i.In q ∨ q = 0))) (fun t _ => 2 - (intOf t).toNat)
 case atStart => exact ⟨0, by omega, rfl, hB, hD, hT, Nat.le_refl _, O, h0, fun q hq => hO q hq⟩
 case round =>
  obtain ⟨k, hk, rfl, hBr, hDr, hTr, hzr, O1, hJr, hO1⟩ := hrel
  by_cases hkl : k < 2
  ·have hkI : (k : Int) < 2 := by omega
   have hnew : ∀ q, wr.heap.size ≤ q → ¬ (q = Bx ∨ i.In q ∨ q = 0) := fun q h e => by
    rcases e with e | e | e
    ·have := hBr.lt; omega
    ·have := hDr.lt q e; omega
    ·omega
   have cB := hBr.cell
   have hRd := dev_Read_any wr i xs F B off fuse nw (k : Int) hDr
   have hst : stL xs F B off (k + 1) = stL xs F B off k ++ if IsS (rdT xs F B off k) then [k] else [] := rfl
   have hpre := stL_pre xs F B off hkl
   obtain ⟨rt, hrt⟩ : ∃ rt, rt = rdT xs F B off k := ⟨_, rfl⟩
   replace hrt : (readP xs F B off (k : Int)).1 = rt := hrt.symm
   rw [hrt] at hRd
   generalize (readP xs F B off (k : Int)).2 = re at hRd
   gi_wp2
   refine ⟨trivial, ?_⟩
   gi_at_call 96
   refine (callsIn_wide.2 hRd).mono ?_
   rintro e w1 ⟨rfl, hs1⟩
   have hT1 := hTr.step hs1 (fun h => h)
   have hP := super_Parse_any w1 hT1 hT1.pos rt
   have hrd : rdT xs F B off k = rt := hrt
   rw [hrd] at hst
   by_cases his : IsS rt
   ·have hpr : parseR rt = (supV rt, 0) := if_pos his
    rw [hpr] at hP
    unfold supV at hP
    dsimp only at hP
    rw [if_pos his] at hst
    have hslot : slotV xs F B off k = .agg #[.int .i64 (k : Int), .int .i64 (wrap64 (vP rt 0)), .int .i64 (wrap64 (vP rt 1)), .int .i64 (wrap64 (vP rt 2)), .int .i64 (wrap64 (vP rt 3)), .int .i64 (wrap64 (vP rt 5)), .int .i64 (wrap64 (vP rt 6)), .int .i64 (pP rt 0), .int .i64 (pP rt 1), .int .u32 (pP rt 2)] := by unfold slotV; rw [hrd]
    clear hpr hrt hrd hRd his
    gi_wp2
    refine ⟨trivial, ?_⟩
    gi_at_call 11
    refine (callsIn_wide.2 hP).mono ?_
    rintro e w2 ⟨rfl, hb2⟩
    have hs2 : Step (fun _ => False) wr w2 := step2 hs1 (Step.of_below hb2)
    have hs3 : Step (fun _ => False) wr (w2.alloc (.cells #[.int .i64 (wrap64 (vP rt 0)), .int .i64 (wrap64 (vP rt 1)), .int .i64 (wrap64 (vP rt 2)), .int .i64 (wrap64 (vP rt 3)), .int .i64 (wrap64 (vP rt 5)), .int .i64 (wrap64 (vP rt 6)), .int .i64 (pP rt 0), .int .i64 (pP rt 1), .int .u32 (pP rt 2)] 28)) := step2 hs2 (Step.alloc (fun _ => False) _ _)
    have hJ3 := hJ.step O1 _ wr _ _ hJr hs3 (fun _ h => h.elim)
    rw [hst] at hpre
    obtain ⟨fn, tmps, assign, body, hy, hR⟩ := hY O1 _ _ _ hJ3 hpre
    simp only [hslot] at hy
    have hB3 := hs3.boxed hBr (fun h => h)
    have hD3 := hDr.step hs3 (fun _ _ h => h)
    have hT3 := hTr.step hs3 (fun h => h)
    have hz3 := Nat.le_trans hzr hs3.size
    have hzn := hs3.size
    clear hP hs1 hs2 hb2 hT1 hslot
    gi_wp2
    refine hR.mono ?_
    rintro e W' ⟨O3, hO3, hs4, ⟨rfl, hJ4⟩ | ⟨rfl, hJ4⟩⟩
    ·gi_wp2
     go_roundw
     case rel => exact ⟨k + 1, by omega, by simp, hs4.boxed hB3 (fun h => hO1 _ h (Or.inl rfl)), hD3.step hs4 (fun q hq h => hO1 _ h (Or.inr (Or.inl hq))), hT3.step hs4 (fun h => hO1 _ h (Or.inr (Or.inr rfl))), Nat.le_trans hz3 hs4.size, O3, by rw [hst]; exact hJ4, fun q hq => (hO3 q hq).elim (hO1 q) (fun h => hnew q (by omega))⟩
     case measure => simp [intOf]; omega
    ·gi_wp2
     refine bodyPost_ret (results_none rfl _ _ _) rfl ?_
     exact ⟨⟨_, rfl⟩, O3, .inr ⟨_, hpre, hJ4⟩⟩
   ·have hpr : parseR rt = (zeroV, 6) := if_neg his
    rw [hpr] at hP
    unfold zeroV at hP
    dsimp only at hP
    rw [if_neg his, List.append_nil] at hst
    clear hpr hrt hrd hRd his
    gi_wp2
    refine ⟨trivial, ?_⟩
    gi_at_call 11
    refine (callsIn_wide.2 hP).mono ?_
    rintro e w2 ⟨rfl, hb2⟩
    have hs2 : Step (fun _ => False) wr w2 := step2 hs1 (Step.of_below hb2)
    have hs3 : Step (fun _ => False) wr (w2.alloc (.cells #[.int .i64 0, .int .i64 0, .int .i64 0, .int .i64 0, .int .i64 0, .int .i64 0, .int .i64 0, .int .i64 0, .int .u32 0] 28)) := step2 hs2 (Step.alloc (fun _ => False) _ _)
    have hJ3 := hJ.step O1 _ wr _ _ hJr hs3 (fun _ h => h.elim)
    clear hP
    gi_wp2
    refine ⟨(fun f h => by cases h), ?_⟩
    gi_wp2
    go_roundw
    case rel => exact ⟨k + 1, by omega, by simp, hs3.boxed hBr (fun h => h), hDr.step hs3 (fun _ _ h => h), hTr.step hs3 (fun h => h), Nat.le_trans hzr hs3.size, O1, by rw [hst]; exact hJ3, hO1⟩
    case measure => simp [intOf]; omega
  ·have ek : k = 2 := by omega
   subst ek
   gi_wp2
   go_end0
   exact ⟨⟨_, rfl⟩, O1, .inl hJr⟩
theorem dev_Sectors_any (w : World) (i : DevIds) (xs : List ByteArray) (F : FL) (B : BL) (off : Bool) (fuse nw : Int) (h : DevAt w i xs F B off fuse nw) :
  Calls Tryd.prog 63 #[.pointer (some ⟨i.d, 0, none⟩)] w fun e w' => e = .returned (.int .i64 xs.length) ∧ w' = w := by
 obtain ⟨c0, _⟩ := h.cells
 go_enter Tryd.func63, Tryd.ntmps63
 go_wp2
 go_ret
 exact ⟨rfl, rfl⟩
def slotC (xs : List ByteArray) (F : FL) (B : BL) (off : Bool) (j : Nat) : List Value := [.int .i64 (j : Int), .int .i64 (wrap64 (vP (rdT xs F B off j) 0)), .int .i64 (wrap64 (vP (rdT xs F B off j) 1)), .int .i64 (wrap64 (vP (rdT xs F B off j) 2)), .int .i64 (wrap64 (vP (rdT xs F B off j) 3)), .int .i64 (wrap64 (vP (rdT xs F B off j) 5)), .int .i64 (wrap64 (vP (rdT xs F B off j) 6)), .int .i64 (pP (rdT xs F B off j) 0), .int .i64 (pP (rdT xs F B off j) 1), .int .u32 (pP (rdT xs F B off j) 2)]
def slotFits (xs : List ByteArray) (F : FL) (B : BL) (off : Bool) (j : Nat) : Bool := decide (sectorsP (wrap64 (vP (rdT xs F B off j) 1)) (wrap64 (vP (rdT xs F B off j) 2)) (wrap64 (vP (rdT xs F B off j) 3)) (wrap64 (vP (rdT xs F B off j) 5)) ≤ (xs.length : Int))
def genS (xs : List ByteArray) (F : FL) (B : BL) (off : Bool) (j : Nat) : Int := wrap64 (vP (rdT xs F B off j) 0)
def srtS (xs : List ByteArray) (F : FL) (B : BL) (off : Bool) : List Nat → List Nat
 | [x, y] => if genS xs F B off x < genS xs F B off y then [y, x] else [x, y]
 | l => l
noncomputable def fndS (xs : List ByteArray) (F : FL) (B : BL) (off : Bool) : List Nat := (stL xs F B off 2).filter (slotFits xs F B off)
theorem stL_len (xs : List ByteArray) (F : FL) (B : BL) (off : Bool) : ∀ k, (stL xs F B off k).length ≤ k
 | 0 => by simp [stL]
 | k + 1 => by
  have := stL_len xs F B off k
  rw [stL, List.length_append]
  split <;> simp <;> omega
theorem blk10 {w : World} {g : Nat} {t : TypeId} {a b c d e f i j k l : Value} (h : w.heap[g]? = some (.cells #[a, b, c, d, e, f, i, j, k, l] t (0, 0))) : w.cell? ⟨g, 0, none⟩ = some a ∧ w.cell? ⟨g, 1, none⟩ = some b ∧ w.cell? ⟨g, 2, none⟩ = some c ∧ w.cell? ⟨g, 3, none⟩ = some d ∧ w.cell? ⟨g, 4, none⟩ = some e ∧ w.cell? ⟨g, 5, none⟩ = some f ∧ w.cell? ⟨g, 6, none⟩ = some i ∧ w.cell? ⟨g, 7, none⟩ = some j ∧ w.cell? ⟨g, 8, none⟩ = some k ∧ w.cell? ⟨g, 9, none⟩ = some l := by
 refine ⟨?_, ?_, ?_, ?_, ?_, ?_, ?_, ?_, ?_, ?_⟩ <;> (rw [blk_cell h]; rfl)
structure FndI (w W : World) (i : DevIds) (xs : List ByteArray) (F : FL) (B : BL) (off : Bool) (fuse nw : Int) (v : Value) (pre : List Nat) : Prop where
 bd : Boxed W w.heap.size 38 (.pointer (some ⟨i.d, 0, none⟩))
 bo : Boxed W (w.heap.size + 1) 43 v
 own : W.ownsRow (w.heap.size + 3) 48 10 v (pre.filter (slotFits xs F B off)).length ((pre.filter (slotFits xs F B off)).flatMap (slotC xs F B off))
 dev : DevAt W i xs F B off fuse nw
 st : Step (fun _ => False) w W
section
variable {w W W' : World} {i : DevIds} {xs : List ByteArray} {F : FL} {B : BL} {off : Bool} {fuse nw : Int} {v : Value} {pre : List Nat}
theorem FndI.step {S : Nat → Prop} (h : FndI w W i xs F B off fuse nw v pre) (hS : Step S W W') (hn : ∀ k, S k → (∀ g, v.ownBlock = some g → k ≠ g) ∧ k ≠ w.heap.size ∧ k ≠ w.heap.size + 1 ∧ ¬ i.In k ∧ w.heap.size ≤ k) : FndI w W' i xs F B off fuse nw v pre :=
 ⟨hS.boxed h.bd (fun e => (hn _ e).2.1 rfl), hS.boxed h.bo (fun e => (hn _ e).2.2.1 rfl), ownsRow_step hS h.own (fun g hg e => (hn _ e).1 g hg rfl), h.dev.step hS (fun k hk e => (hn _ e).2.2.2.1 hk), h.st.trans hS (fun _ h => h) (fun k hk => Or.inr (hn k hk).2.2.2.2)⟩
theorem FndI.own_in (h : FndI w W i xs F B off fuse nw v pre) : (∀ q, v.ownBlock = some q → w.heap.size + 3 ≤ q ∧ q < W.heap.size) ∧ ∃ A n c, v = .slice A n c := by
 rcases h.own.2 with ⟨rfl, _⟩ | ⟨g, cap, cur, rfl, hgn, hg, _⟩
 ·exact ⟨fun q hq => by simp [Value.ownBlock] at hq, _, _, _, rfl⟩
 ·exact ⟨fun q hq => by simp [Value.ownBlock] at hq; subst hq; exact ⟨hgn, (Array.getElem?_eq_some_iff.1 hg).1⟩, _, _, _, rfl⟩
theorem rnd_below (h : FndI w W i xs F B off fuse nw v pre) (hb : Below W.heap.size W W') : FndI w W' i xs F B off fuse nw v pre := h.step (Step.of_below (S := fun _ => False) hb) (fun _ h => h.elim)
end
set_option maxRecDepth 100000 in
set_option maxHeartbeats 8000000 in
theorem super_Find_any (w : World) (hT : TabAt w) (i : DevIds) (xs : List ByteArray) (F : FL) (B : BL) (fuse nw : Int) (hD : DevAt w i xs F B false fuse nw)
  (hSort : ∀ W base v (ys : List Nat), ys.length ≤ 2 → W.ownsRow base 48 10 v ys.length (ys.flatMap (slotC xs F B false)) → base ≤ W.heap.size → Calls Tryd.prog 64 #[v, .func (.func 65) #[] #[]] W fun e W' => e = .returned (.tuple #[]) ∧ W'.ownsRow base 48 10 v ys.length ((srtS xs F B false ys).flatMap (slotC xs F B false)) ∧ Step (fun k => v.ownBlock = some k) W W') :
  Calls Tryd.prog 19 #[.pointer (some ⟨i.d, 0, none⟩)] w fun e w' => ∃ v, e = .returned (.tuple #[v, .int .i64 0]) ∧ w'.ownsRow w.heap.size 48 10 v (fndS xs F B false).length ((srtS xs F B false (fndS xs F B false)).flatMap (slotC xs F B false)) ∧ Step (fun _ => False) w w' := by
 have hlt := hD.lt
 have hpos := hT.pos
 refine (callsIn_wide (n := 4)).1 ?_
 refine callsIn_of_wp_marks Tryd.func19 rfl trivial ?_ rfl
 simp only [Tryd.ntmps19, List.size_toArray, List.length_cons, List.length_nil, Nat.reduceAdd, Nat.reduceSub, Array.replicate_succ, Array.replicate_zero, List.push_toArray, List.append_toArray, List.nil_append, List.cons_append]
 obtain ⟨W0, hW0⟩ : ∃ W0, W0 = w.alloc (.cells #[.pointer (some ⟨i.d, 0, none⟩)] 38) := ⟨_, rfl⟩
 have hs0 : Step (fun _ => False) w W0 := by rw [hW0]; exact Step.alloc _ _ _
 have b0 : Boxed W0 w.heap.size 38 (.pointer (some ⟨i.d, 0, none⟩)) := by rw [hW0]; exact Boxed.new w 38 _
 have hz0 : W0.heap.size = w.heap.size + 1 := by rw [hW0]; simp
 gi_wp2
 rw [← hW0]
 have hD0 := hD.step hs0 (fun _ _ h => h)
 have c0 := b0.cell
 clear hW0
 refine ⟨trivial, ?_⟩
 gi_at_call 61
 refine (callsIn_wide.2 (dev_Down_any W0 i _ _ _ _ _ _ hD0)).mono ?_
 rintro e w1 ⟨rfl, rfl⟩
 have hs1 : Step (fun _ => False) w (w1.alloc (.cells #[.slice none 0 0] 43)) := step2 hs0 (Step.alloc _ _ _)
 have bo1 : Boxed (w1.alloc (.cells #[.slice none 0 0] 43)) (w.heap.size + 1) 43 (.slice none 0 0) := by rw [← hz0]; exact Boxed.new w1 43 _
 have bd1 := (Step.alloc (fun _ => False) w1 (.cells #[.slice none 0 0] 43)).boxed b0 (fun h => h)
 have hz1 : (w1.alloc (.cells #[.slice none 0 0] 43)).heap.size = w.heap.size + 2 := by simp [hz0]
 have c1 := bd1.cell
 gi_wp2
 try rw [hz0]
 generalize w1.alloc (.cells #[.slice none 0 0] 43) = W1 at hs1 bo1 bd1 hz1 c1 ⊢
 refine ⟨trivial, ?_⟩
 gi_at_call 62
 refine (callsIn_wide.2 (stands_any W1 i)).mono ?_
 rintro e w2 ⟨rfl, rfl⟩
 have hs2 : Step (fun _ => False) w (W1.alloc (.cells #[.pointer (some ⟨i.d, 0, none⟩)] 38)) := step2 hs1 (Step.alloc _ _ _)
 have bs2 : Boxed (W1.alloc (.cells #[.pointer (some ⟨i.d, 0, none⟩)] 38)) (w.heap.size + 2) 38 (.pointer (some ⟨i.d, 0, none⟩)) := by rw [← hz1]; exact Boxed.new W1 38 _
 have bo2 := (Step.alloc (fun _ => False) W1 (.cells #[.pointer (some ⟨i.d, 0, none⟩)] 38)).boxed bo1 (fun h => h)
 have bd2 := (Step.alloc (fun _ => False) W1 (.cells #[.pointer (some ⟨i.d, 0, none⟩)] 38)).boxed bd1 (fun h => h)
 have hz2 : (W1.alloc (.cells #[.pointer (some ⟨i.d, 0, none⟩)] 38)).heap.size = w.heap.size + 3 := by simp [hz1]
 try rw [hz1]
 gi_wp2
 generalize W1.alloc (.cells #[.pointer (some ⟨i.d, 0, none⟩)] 38) = V at hs2 bs2 bo2 bd2 hz2 ⊢
 have hTV := hT.step hs2 (fun h => h)
 have hDV := hD.step hs2 (fun _ _ h => h)
 have hF0 : FndI w V i xs F B false fuse nw (.slice none 0 0) [] := ⟨bd2, bo2, World.ownsRow_nil _ _ _ _, hDV, hs2⟩
 clear hs0 b0 hz0 hD0 c0 hs1 bo1 bd1 hz1 c1
 refine wpIn_rangeFunc_O (gf := 109) (lb := #[.pointer (some ⟨w.heap.size + 2, 0, none⟩)]) rfl (enters_of Tryd.func109 (by kernel_rfl) rfl) (stands_seq V hTV (w.heap.size + 2) i xs F B false fuse nw bs2 hDV) (fun r hr => by rcases hr with hr | hr | hr; omega; (have := hlt r hr; omega); omega) (fun _ => rfl)
  (fun O pre Wc => ∃ v, (∀ k, O k ↔ k = w.heap.size + 1 ∨ v.ownBlock = some k) ∧ FndI w Wc i xs F B false fuse nw v pre)
  (fun _ _ _ _ => False) ⟨?lt, ?step⟩ (fun _ => ⟨fun _ _ _ h => h.elim, fun _ _ _ _ _ h => h.elim⟩) (fun k => k = w.heap.size + 1) (fun k hk hz => by rcases hz with hz | hz | hz; omega; (have := hlt k hz; omega); omega) ⟨.slice none 0 0, by simp [Value.ownBlock], hF0⟩ ?round ?done ?stop
 case lt =>
  rintro O pre Wc ⟨v, h1, hF⟩ k hk
  rcases (h1 k).1 hk with rfl | hk
  ·exact hF.bo.lt
  ·exact (hF.own_in.1 k hk).2
 case step =>
  rintro O pre Wc W' S ⟨v, h1, hF⟩ hS hs
  refine ⟨v, h1, hF.step hS (fun k hk => ?_)⟩
  obtain ⟨hk1, hk2⟩ := hs k hk
  replace hk2 : V.heap.size ≤ k := hk2.elim (fun h => h.elim) id
  exact ⟨fun g hg e => hk1 ((h1 k).2 (Or.inr (e ▸ hg))), by omega, by omega, fun h => by have := hlt k h; omega, by omega⟩
 case round =>
  rintro l O pre x Wc hl hWs - hpre
  have hx2 : pre.length + 1 ≤ 2 := by
   have h := hpre.length_le
   have h2 : (stL xs F B false 2).length ≤ 2 := stL_len xs F B false 2
   simp at h
   omega
  have hsc : slotC xs F B false x = [.int .i64 (x : Int), .int .i64 (wrap64 (vP (rdT xs F B false x) 0)), .int .i64 (wrap64 (vP (rdT xs F B false x) 1)), .int .i64 (wrap64 (vP (rdT xs F B false x) 2)), .int .i64 (wrap64 (vP (rdT xs F B false x) 3)), .int .i64 (wrap64 (vP (rdT xs F B false x) 5)), .int .i64 (wrap64 (vP (rdT xs F B false x) 6)), .int .i64 (pP (rdT xs F B false x) 0), .int .i64 (pP (rdT xs F B false x) 1), .int .u32 (pP (rdT xs F B false x) 2)] := rfl
  have hfi : slotFits xs F B false x = decide (sectorsP (wrap64 (vP (rdT xs F B false x) 1)) (wrap64 (vP (rdT xs F B false x) 2)) (wrap64 (vP (rdT xs F B false x) 3)) (wrap64 (vP (rdT xs F B false x) 5)) ≤ (xs.length : Int)) := rfl
  unfold slotV
  generalize rdT xs F B false x = rt at hsc hfi ⊢
  have hcA := World.alloc_heap_new Wc (.cells #[.int .i64 (x : Int), .int .i64 (wrap64 (vP rt 0)), .int .i64 (wrap64 (vP rt 1)), .int .i64 (wrap64 (vP rt 2)), .int .i64 (wrap64 (vP rt 3)), .int .i64 (wrap64 (vP rt 5)), .int .i64 (wrap64 (vP rt 6)), .int .i64 (pP rt 0), .int .i64 (pP rt 1), .int .u32 (pP rt 2)] 48)
  have hsA : Step (fun _ => False) Wc (Wc.alloc (.cells #[.int .i64 (x : Int), .int .i64 (wrap64 (vP rt 0)), .int .i64 (wrap64 (vP rt 1)), .int .i64 (wrap64 (vP rt 2)), .int .i64 (wrap64 (vP rt 3)), .int .i64 (wrap64 (vP rt 5)), .int .i64 (wrap64 (vP rt 6)), .int .i64 (pP rt 0), .int .i64 (pP rt 1), .int .u32 (pP rt 2)] 48)) := Step.alloc _ _ _
  have hzA : (Wc.alloc (.cells #[.int .i64 (x : Int), .int .i64 (wrap64 (vP rt 0)), .int .i64 (wrap64 (vP rt 1)), .int .i64 (wrap64 (vP rt 2)), .int .i64 (wrap64 (vP rt 3)), .int .i64 (wrap64 (vP rt 5)), .int .i64 (wrap64 (vP rt 6)), .int .i64 (pP rt 0), .int .i64 (pP rt 1), .int .u32 (pP rt 2)] 48)).heap.size = Wc.heap.size + 1 := by simp
  gi_wp2
  obtain ⟨t5, ht5⟩ : ∃ t5, t5 = Wc.heap.size := ⟨_, rfl⟩
  rw [← ht5] at hcA hzA hWs hl ⊢
  generalize Wc.alloc (.cells #[.int .i64 (x : Int), .int .i64 (wrap64 (vP rt 0)), .int .i64 (wrap64 (vP rt 1)), .int .i64 (wrap64 (vP rt 2)), .int .i64 (wrap64 (vP rt 3)), .int .i64 (wrap64 (vP rt 5)), .int .i64 (wrap64 (vP rt 6)), .int .i64 (pP rt 0), .int .i64 (pP rt 1), .int .u32 (pP rt 2)] 48) = Wa at hcA hsA hzA ⊢
  refine ⟨hsA, ?_⟩
  rintro Wb hsb ⟨v, h1, hF⟩
  have hcb := hsb.block hcA (by omega)
  have hzb := hsb.size
  clear hcA hsA ht5
  have yc := hcb
  gi_wp2
  obtain ⟨y0, y1, y2, y3, y4, y5, y6, y7, y8, y9⟩ := blk10 hcb
  have yB := hF.bd.cell
  have hR := rnd_below hF (below_drew1 (Below.refl Wb.heap.size Wb))
  have hc5 := Stepb (below_drew1 (Below.refl Wb.heap.size Wb)) hcb
  have hst : Step (fun _ => False) Wb Wb.drew := Step.of_below (below_drew1 (Below.refl Wb.heap.size Wb))
  try simp only [List.append_eq, List.cons_append, List.nil_append]
  refine startIn_ (n := 7) (S := fun w' => w'.cell? ⟨t5, 2, none⟩ = some (.int .i64 (wrap64 (vP rt 1))) ∧ w'.cell? ⟨t5, 3, none⟩ = some (.int .i64 (wrap64 (vP rt 2))) ∧ w'.cell? ⟨t5, 4, none⟩ = some (.int .i64 (wrap64 (vP rt 3))) ∧ w'.cell? ⟨t5, 5, none⟩ = some (.int .i64 (wrap64 (vP rt 5))) ∧ w'.cell? ⟨w.heap.size, 0, none⟩ = some (.pointer (some ⟨i.d, 0, none⟩))) (ds := []) (by rintro ⟨_, _, h⟩; exact h) (by kernel_rfl) #[G,G,G,G,G,G,G] (by kernel_rfl) rfl rfl ⟨y2, y3, y4, y5, yB⟩ (fun hHeld => ?_)
  generalize Wb.drew = w3 at hHeld hR hc5 hst ⊢
  refine pure_ (i := 0) (N := some 11) (v := ?_) (a' := ?_) #[Y,G,G,G,G,G,G] rfl rfl (by kernel_rfl) (fun _ _ _ h => h) (Or.inl ⟨by rfl, ?_⟩) ?_ ?_;rotate_left
  ·intro w';go_simp;with_reducible rfl
  rotate_left;·simp only [Act.put, sA_];rfl
  refine pure_ (i := 1) (N := some 12) (v := ?_) (a' := ?_) #[Y,Y,G,G,G,G,G] rfl rfl (by kernel_rfl) (fun _ _ _ h => h) (Or.inl ⟨by rfl, ?_⟩) ?_ ?_;rotate_left
  ·intro w';go_simp;with_reducible rfl
  rotate_left;·simp only [Act.put, sA_];rfl
  refine take_ (i := 2) (N := some 13) (v := ?_) (a' := ?_) #[Y,Y,Y,G,G,G,G] rfl rfl (by kernel_rfl) (fun _ _ _ h => h) (Or.inl ⟨by rfl, ?_⟩) hHeld ?_ ?_;rotate_left
  ·rintro w' ⟨s0, s1, s2, s3, s4⟩
   go_simp
   with_reducible rfl
  rotate_left;·simp only [Act.put, sA_];rfl
  refine take_ (i := 4) (N := some 15) (v := ?_) (a' := ?_) #[Y,Y,Y,G,Y,G,G] rfl rfl (by kernel_rfl) (fun _ _ _ h => h) (Or.inl ⟨by rfl, ?_⟩) hHeld ?_ ?_;rotate_left
  ·rintro w' ⟨s0, s1, s2, s3, s4⟩
   go_simp
   with_reducible rfl
  rotate_left;·simp only [Act.put, sA_];rfl
  refine one_ (i := 3) (N := some 14) #[Y,Y,Y,Y,Y,G,G] rfl rfl (by kernel_rfl) (by decide) (fun K hK => ?_)
  refine goes_ Tryd.func27 (by kernel_rfl) rfl #[.agg #[.int .i64 (wrap64 (vP rt 1)), .int .i64 (wrap64 (vP rt 2)), .int .i64 (wrap64 (vP rt 3)), .int .i64 (wrap64 (vP rt 5))]] (by rfl) rfl rfl (by simp only [List.map_toArray, List.map_cons, List.map_nil]; rfl) ?_
  with_reducible refine (geom_Sectors_any _ _ _ _ _).mono ?_
  rintro e w3 ⟨rfl, hb3⟩
  refine ⟨_, rfl, ?_⟩
  replace hR := rnd_below hR hb3
  replace hc5 := Stepb hb3 hc5
  replace hst := step2 hst (Step.of_below hb3)
  refine hK.out _ _ ⟨pw_cell_below hb3 hHeld.1, pw_cell_below hb3 hHeld.2.1, pw_cell_below hb3 hHeld.2.2.1, pw_cell_below hb3 hHeld.2.2.2.1, pw_cell_below hb3 hHeld.2.2.2.2⟩ (fun hHeld => ?_)
  clear hK K
  refine norm_ (a' := ?_) ?_ ?_;rotate_left
  ·show Act.put _ (some 14) _ = _
   simp only [Act.put, sA_]
   rfl
  refine one_ (i := 5) (N := some 16) #[Y,Y,Y,Y,Y,Y,G] rfl rfl (by kernel_rfl) (by decide) (fun K hK => ?_)
  refine goes_ Tryd.func63 (by kernel_rfl) rfl #[.pointer (some ⟨i.d, 0, none⟩)] (by rfl) rfl rfl (by simp only [List.map_toArray, List.map_cons, List.map_nil]; rfl) ?_
  with_reducible refine (dev_Sectors_any _ i _ _ _ _ _ _ hR.dev).mono ?_
  rintro e w4 ⟨rfl, rfl⟩
  refine ⟨_, rfl, ?_⟩
  refine hK.out _ _ ⟨hHeld.1, hHeld.2.1, hHeld.2.2.1, hHeld.2.2.2.1, hHeld.2.2.2.2⟩ (fun hHeld => ?_)
  clear hK K
  refine norm_ (a' := ?_) ?_ ?_;rotate_left
  ·show Act.put _ (some 16) _ = _
   simp only [Act.put, sA_]
   rfl
  refine pure_ (i := 6) (N := some 17) (v := ?_) (a' := ?_) #[Y,Y,Y,Y,Y,Y,Y] rfl rfl (by kernel_rfl) (fun _ _ _ h => h) (Or.inl ⟨by rfl, ?_⟩) ?_ ?_;rotate_left
  ·intro w';go_simp;with_reducible rfl
  rotate_left;·simp only [Act.put, sA_];rfl
  refine done_ (by kernel_rfl) ?_

  have hzw := hst.size
  obtain ⟨hbk, A, n, c, rfl⟩ := hR.own_in
  by_cases hle : sectorsP (wrap64 (vP rt 1)) (wrap64 (vP rt 2)) (wrap64 (vP rt 3)) (wrap64 (vP rt 5)) ≤ (xs.length : Int)
  case neg =>
   have hff : slotFits xs F B false x = false := hfi.trans (decide_eq_false hle)
   have hd : decide (sectorsP (wrap64 (vP rt 1)) (wrap64 (vP rt 2)) (wrap64 (vP rt 3)) (wrap64 (vP rt 5)) ≤ (xs.length : Int)) = false := decide_eq_false hle
   rw [hd]
   clear hle hfi
   clear hHeld y0 y1 y2 y3 y4 y5 y6 y7 y8 y9 yB yc
   gi_wp2
   refine ⟨O, fun k hk => Or.inl hk, hst.mono (fun _ h => h.elim), .slice A n c, h1, ?_⟩
   exact ⟨hR.bd, hR.bo, by rw [List.filter_append, List.filter_cons, hff, List.filter_nil, if_neg (by decide), List.append_nil]; exact hR.own, hR.dev, hR.st⟩
  case pos =>
   have hff : slotFits xs F B false x = true := hfi.trans (decide_eq_true hle)
   have hd : decide (sectorsP (wrap64 (vP rt 1)) (wrap64 (vP rt 2)) (wrap64 (vP rt 3)) (wrap64 (vP rt 5)) ≤ (xs.length : Int)) = true := decide_eq_true hle
   rw [hd]
   clear hle hfi
   clear hHeld y0 y1 y2 y3 y4 y5 y6 y7 y8 y9 yB yc
   obtain ⟨y0, y1, y2, y3, y4, y5, y6, y7, y8, y9⟩ := blk10 hc5
   have cO := hR.bo.cell
   have fO := hR.bo.frozen
   have hcell := World.news_of_block (cs := #[.int .i64 (x : Int), .int .i64 (wrap64 (vP rt 0)), .int .i64 (wrap64 (vP rt 1)), .int .i64 (wrap64 (vP rt 2)), .int .i64 (wrap64 (vP rt 3)), .int .i64 (wrap64 (vP rt 5)), .int .i64 (wrap64 (vP rt 6)), .int .i64 (pP rt 0), .int .i64 (pP rt 1), .int .u32 (pP rt 2)]) (t := 48) (fr := (0, 0)) (World.alloc_heap_new w4 (.cells #[.int .i64 (x : Int), .int .i64 (wrap64 (vP rt 0)), .int .i64 (wrap64 (vP rt 1)), .int .i64 (wrap64 (vP rt 2)), .int .i64 (wrap64 (vP rt 3)), .int .i64 (wrap64 (vP rt 5)), .int .i64 (wrap64 (vP rt 6)), .int .i64 (pP rt 0), .int .i64 (pP rt 1), .int .u32 (pP rt 2)] 48))
   have hfl : (pre.filter (slotFits xs F B false)).length ≤ 2 := by have := List.length_filter_le (slotFits xs F B false) pre; omega
   have hb3 : w.heap.size + 3 ≤ (w4.alloc (.cells #[.int .i64 (x : Int), .int .i64 (wrap64 (vP rt 0)), .int .i64 (wrap64 (vP rt 1)), .int .i64 (wrap64 (vP rt 2)), .int .i64 (wrap64 (vP rt 3)), .int .i64 (wrap64 (vP rt 5)), .int .i64 (wrap64 (vP rt 6)), .int .i64 (pP rt 0), .int .i64 (pP rt 1), .int .u32 (pP rt 2)] 48)).heap.size := by simp; omega
   gi_wp2_with (gi_at_builtin; refine wpListIn_append_at _ rfl _ _ 43 rfl (w.heap.size + 3) 48 (.agg #[.int .i64 0, .int .i64 0, .int .i64 0, .int .i64 0, .int .i64 0, .int .i64 0, .int .i64 0, .int .i64 0, .int .i64 0, .int .u32 0]) 10 80 Tryd.underlying43 infoS48 rfl (by decide) (.slice A n c) (pre.filter (slotFits xs F B false)).length ((pre.filter (slotFits xs F B false)).flatMap (slotC xs F B false)) rfl (hR.own.alloc _) ⟨w4.heap.size, 0, none⟩ 1 1 [.int .i64 (x : Int), .int .i64 (wrap64 (vP rt 0)), .int .i64 (wrap64 (vP rt 1)), .int .i64 (wrap64 (vP rt 2)), .int .i64 (wrap64 (vP rt 3)), .int .i64 (wrap64 (vP rt 5)), .int .i64 (wrap64 (vP rt 6)), .int .i64 (pP rt 0), .int .i64 (pP rt 1), .int .u32 (pP rt 2)] rfl rfl (by simpa using hcell) (by simp [Value.oneCell']) (by unfold maxLen; omega) (by omega) hb3 ?_; intro v1 w1 hown1 hg1 _ hat1; obtain ⟨g1, cap1, rfl, hgn1, hgs1, _⟩ := ownsRow_form hown1 (by omega); have hv1 := (hR.bo.alloc (.cells #[.int .i64 (x : Int), .int .i64 (wrap64 (vP rt 0)), .int .i64 (wrap64 (vP rt 1)), .int .i64 (wrap64 (vP rt 2)), .int .i64 (wrap64 (vP rt 3)), .int .i64 (wrap64 (vP rt 5)), .int .i64 (wrap64 (vP rt 6)), .int .i64 (pP rt 0), .int .i64 (pP rt 1), .int .u32 (pP rt 2)] 48)).kept hg1 (fun e => by have := hbk _ e.symm; omega); have hc1 := hv1.cell; have hf1 := hv1.frozen)
   have hsG : Step (fun k => (Value.slice A n c).ownBlock = some k) w4 w1 := (Step.alloc (fun k => (Value.slice A n c).ownBlock = some k) w4 _).trans (Step.grown hg1 (S := fun k => (Value.slice A n c).ownBlock = some k) (fun q hq => hq)) (fun _ h => h) (fun _ h => Or.inl h)
   have hsC : Step (fun k => k = w.heap.size + 1) w1 (w1.setCell ⟨w.heap.size + 1, 0, none⟩ (.slice (some ⟨g1, 0, none⟩) ((pre.filter (slotFits xs F B false)).length + 1) cap1)) := Step.setCell (S := fun k => k = w.heap.size + 1) w1 (p := ⟨w.heap.size + 1, 0, none⟩) rfl _
   have hsE : Step (fun k => k = w.heap.size + 1 ∨ (Value.slice A n c).ownBlock = some k) w4 (w1.setCell ⟨w.heap.size + 1, 0, none⟩ (.slice (some ⟨g1, 0, none⟩) ((pre.filter (slotFits xs F B false)).length + 1) cap1)) := hsG.trans hsC (fun _ h => Or.inr h) (fun _ h => Or.inl (Or.inl h))
   have hownE := ownsRow_step hsC hown1 (fun q hq => by simp [Value.ownBlock] at hq; omega)
   have hboE := hv1.set (.slice (some ⟨g1, 0, none⟩) ((pre.filter (slotFits xs F B false)).length + 1) cap1)
   generalize w1.setCell ⟨w.heap.size + 1, 0, none⟩ (.slice (some ⟨g1, 0, none⟩) ((pre.filter (slotFits xs F B false)).length + 1) cap1) = wE at hsE hownE hboE ⊢
   have hfa : (pre ++ [x]).filter (slotFits xs F B false) = (pre.filter (slotFits xs F B false)) ++ [x] := by rw [List.filter_append, List.filter_cons, hff, List.filter_nil, if_pos rfl]
   refine ⟨fun q => q = w.heap.size + 1 ∨ q = g1, fun q hq => ?_, (hst.mono (fun _ h => h.elim)).trans hsE (fun _ h => h) (fun q hq => Or.inl ((h1 q).2 hq)), Value.slice (some ⟨g1, 0, none⟩) ((pre.filter (slotFits xs F B false)).length + 1) cap1, fun q => ?_, ?_⟩
   ·rcases hq with rfl | rfl
    ·exact Or.inl ((h1 _).2 (Or.inl rfl))
    ·rcases hat1 with e | e
     ·exact Or.inl ((h1 _).2 (Or.inr e.symm))
     ·right; simp [Value.ownBlock] at e; omega
   ·simp [Value.ownBlock, eq_comm]
   ·refine ⟨hsE.boxed hR.bd (fun e => ?_), hboE, ?_, hR.dev.step hsE (fun k hk e => ?_), hR.st.trans hsE (fun _ h => h) (fun k hk => Or.inr ?_)⟩
    ·rcases e with e | e
     ·omega
     ·have := hbk _ e; omega
    ·rw [hfa, List.length_append, List.length_singleton, List.flatMap_append, List.flatMap_singleton, hsc]
     exact hownE
    ·have h9 := hlt k hk
     rcases e with e | e
     ·omega
     ·have := hbk _ e; omega
    ·rcases hk with hk | hk
     ·omega
     ·have := hbk _ hk; omega
 case done =>
  rintro D O Wc hD' hOD ⟨v, h1, hF⟩ hK
  have hc4 := hF.bo.cell
  have hfl : (fndS xs F B false).length ≤ 2 := by have := List.length_filter_le (slotFits xs F B false) (stL xs F B false 2); have := stL_len xs F B false 2; unfold fndS; omega
  have hown : Wc.ownsRow (w.heap.size + 3) 48 10 v (fndS xs F B false).length ((fndS xs F B false).flatMap (slotC xs F B false)) := hF.own
  have hS := hSort Wc (w.heap.size + 3) v (fndS xs F B false) hfl hown (by have := blk_lt hK; omega)
  have hbk := hF.own_in.1
  gi_wp2
  refine ⟨trivial, ?_⟩
  gi_at_call 64
  refine (callsIn_wide.2 hS).mono ?_
  rintro e w5 ⟨rfl, hown5, hs5⟩
  have hbo5 := hs5.boxed hF.bo (fun e => by have := hbk _ e; omega)
  have hc5 := hbo5.cell
  have hK5 := hs5.block hK (fun e => hOD ((h1 D).2 (Or.inr e)))
  gi_wp2
  refine ⟨by simp, .inl ⟨_, _, rfl, run_takeDeferred hK5, ?_⟩⟩
  have hsp : Step (fun q => q = D) w5 (w5.putObj D (.deferred none)) := Step.put w5 D _
  refine ⟨_, results_tmp2 rfl _ _ _, v, rfl, ?_, ?_⟩
  ·have h5 : w5.ownsRow w.heap.size 48 10 v (fndS xs F B false).length ((srtS xs F B false (fndS xs F B false)).flatMap (slotC xs F B false)) := ⟨hown5.1, hown5.2.imp id fun ⟨g, cap, cur, e, hb, h⟩ => ⟨g, cap, cur, e, by omega, h⟩⟩
   exact ownsRow_step hsp h5 (fun g hg h => hOD ((h1 D).2 (Or.inr (h ▸ hg))))
  ·exact (hF.st.trans hs5 (fun _ h => h) (fun k hk => Or.inr (by have := hbk _ hk; omega))).trans hsp (fun _ h => h) (fun k hk => Or.inr (by omega))
 case stop => rintro D O c pre Wc _ _ _ h; exact h.elim
theorem rowc {W : World} {base g cap : Nat} {v0 v1 v2 v3 v4 v5 v6 v7 v8 v9 v10 v11 v12 v13 v14 v15 v16 v17 v18 v19 : Value} (ho : W.ownsRow base 48 10 (.slice (some ⟨g, 0, none⟩) 2 cap) 2 [v0, v1, v2, v3, v4, v5, v6, v7, v8, v9, v10, v11, v12, v13, v14, v15, v16, v17, v18, v19]) : W.cell? ⟨g, 0, none⟩ = some v0 ∧ W.cell? ⟨g, 1, none⟩ = some v1 ∧ W.cell? ⟨g, 2, none⟩ = some v2 ∧ W.cell? ⟨g, 3, none⟩ = some v3 ∧ W.cell? ⟨g, 4, none⟩ = some v4 ∧ W.cell? ⟨g, 5, none⟩ = some v5 ∧ W.cell? ⟨g, 6, none⟩ = some v6 ∧ W.cell? ⟨g, 7, none⟩ = some v7 ∧ W.cell? ⟨g, 8, none⟩ = some v8 ∧ W.cell? ⟨g, 9, none⟩ = some v9 ∧ W.cell? ⟨g, 10, none⟩ = some v10 ∧ W.cell? ⟨g, 11, none⟩ = some v11 ∧ W.cell? ⟨g, 12, none⟩ = some v12 ∧ W.cell? ⟨g, 13, none⟩ = some v13 ∧ W.cell? ⟨g, 14, none⟩ = some v14 ∧ W.cell? ⟨g, 15, none⟩ = some v15 ∧ W.cell? ⟨g, 16, none⟩ = some v16 ∧ W.cell? ⟨g, 17, none⟩ = some v17 ∧ W.cell? ⟨g, 18, none⟩ = some v18 ∧ W.cell? ⟨g, 19, none⟩ = some v19 := ⟨ownsRow_cell ho (j := 0) rfl, ownsRow_cell ho (j := 1) rfl, ownsRow_cell ho (j := 2) rfl, ownsRow_cell ho (j := 3) rfl, ownsRow_cell ho (j := 4) rfl, ownsRow_cell ho (j := 5) rfl, ownsRow_cell ho (j := 6) rfl, ownsRow_cell ho (j := 7) rfl, ownsRow_cell ho (j := 8) rfl, ownsRow_cell ho (j := 9) rfl, ownsRow_cell ho (j := 10) rfl, ownsRow_cell ho (j := 11) rfl, ownsRow_cell ho (j := 12) rfl, ownsRow_cell ho (j := 13) rfl, ownsRow_cell ho (j := 14) rfl, ownsRow_cell ho (j := 15) rfl, ownsRow_cell ho (j := 16) rfl, ownsRow_cell ho (j := 17) rfl, ownsRow_cell ho (j := 18) rfl, ownsRow_cell ho (j := 19) rfl⟩
theorem rowf {W : World} {base g cap n : Nat} {xs : List Value} (ho : W.ownsRow base 48 10 (.slice (some ⟨g, 0, none⟩) 2 cap) n xs) : W.frozen? ⟨g, 0, none⟩ = false ∧ W.frozen? ⟨g, 1, none⟩ = false ∧ W.frozen? ⟨g, 2, none⟩ = false ∧ W.frozen? ⟨g, 3, none⟩ = false ∧ W.frozen? ⟨g, 4, none⟩ = false ∧ W.frozen? ⟨g, 5, none⟩ = false ∧ W.frozen? ⟨g, 6, none⟩ = false ∧ W.frozen? ⟨g, 7, none⟩ = false ∧ W.frozen? ⟨g, 8, none⟩ = false ∧ W.frozen? ⟨g, 9, none⟩ = false ∧ W.frozen? ⟨g, 10, none⟩ = false ∧ W.frozen? ⟨g, 11, none⟩ = false ∧ W.frozen? ⟨g, 12, none⟩ = false ∧ W.frozen? ⟨g, 13, none⟩ = false ∧ W.frozen? ⟨g, 14, none⟩ = false ∧ W.frozen? ⟨g, 15, none⟩ = false ∧ W.frozen? ⟨g, 16, none⟩ = false ∧ W.frozen? ⟨g, 17, none⟩ = false ∧ W.frozen? ⟨g, 18, none⟩ = false ∧ W.frozen? ⟨g, 19, none⟩ = false := ⟨ownsRow_frozen ho 0, ownsRow_frozen ho 1, ownsRow_frozen ho 2, ownsRow_frozen ho 3, ownsRow_frozen ho 4, ownsRow_frozen ho 5, ownsRow_frozen ho 6, ownsRow_frozen ho 7, ownsRow_frozen ho 8, ownsRow_frozen ho 9, ownsRow_frozen ho 10, ownsRow_frozen ho 11, ownsRow_frozen ho 12, ownsRow_frozen ho 13, ownsRow_frozen ho 14, ownsRow_frozen ho 15, ownsRow_frozen ho 16, ownsRow_frozen ho 17, ownsRow_frozen ho 18, ownsRow_frozen ho 19⟩
def insL (x y : Int) (A B : List Value) : List Value := if x < y then B ++ A else A ++ B
def cmpI (x y : Int) : Int := if x < y then -1 else if x > y then 1 else 0
theorem cmp_two (w : World) (b0 b1 b2 b3 b4 b5 b6 b7 b8 b9 a0 a1 a2 a3 a4 a5 a6 a7 a8 a9 : Int) : Calls Tryd.prog 65 #[.agg #[.int .i64 b0, .int .i64 b1, .int .i64 b2, .int .i64 b3, .int .i64 b4, .int .i64 b5, .int .i64 b6, .int .i64 b7, .int .i64 b8, .int .u32 b9], .agg #[.int .i64 a0, .int .i64 a1, .int .i64 a2, .int .i64 a3, .int .i64 a4, .int .i64 a5, .int .i64 a6, .int .i64 a7, .int .i64 a8, .int .u32 a9]] w fun e w' => e = .returned (.int .i64 (cmpI a1 b1)) ∧ Below w.heap.size w w' := by
 refine super_Find_1.calls b0 b1 b2 b3 b4 b5 b6 b7 b8 b9 a0 a1 a2 a3 a4 a5 a6 a7 a8 a9 _ w ?_
 unfold super_Find_1.f cmp_Compare_int64.f cmp_isNaN_int64.f cmpI
 simp
 by_cases h1 : a1 < b1
 ·rw [if_pos h1, if_pos h1]
 ·rw [if_neg h1, if_neg h1]
  by_cases h2 : b1 < a1
  ·rw [if_pos h2, if_pos h2]
  ·rw [if_neg h2, if_neg h2]
set_option maxRecDepth 100000 in
set_option maxHeartbeats 8000000 in
theorem ins_two (W : World) (base g cap : Nat) (a0 a1 a2 a3 a4 a5 a6 a7 a8 a9 b0 b1 b2 b3 b4 b5 b6 b7 b8 b9 : Int) (ho : W.ownsRow base 48 10 (.slice (some ⟨g, 0, none⟩) 2 cap) 2 [.int .i64 a0, .int .i64 a1, .int .i64 a2, .int .i64 a3, .int .i64 a4, .int .i64 a5, .int .i64 a6, .int .i64 a7, .int .i64 a8, .int .u32 a9, .int .i64 b0, .int .i64 b1, .int .i64 b2, .int .i64 b3, .int .i64 b4, .int .i64 b5, .int .i64 b6, .int .i64 b7, .int .i64 b8, .int .u32 b9]) :
  Calls Tryd.prog 139 #[.slice (some ⟨g, 0, none⟩) 2 cap, .int .i64 0, .int .i64 2, .func (.func 65) #[] #[]] W fun e W' => e = .returned (.tuple #[]) ∧ W'.ownsRow base 48 10 (.slice (some ⟨g, 0, none⟩) 2 cap) 2 (insL a1 b1 [.int .i64 a0, .int .i64 a1, .int .i64 a2, .int .i64 a3, .int .i64 a4, .int .i64 a5, .int .i64 a6, .int .i64 a7, .int .i64 a8, .int .u32 a9] [.int .i64 b0, .int .i64 b1, .int .i64 b2, .int .i64 b3, .int .i64 b4, .int .i64 b5, .int .i64 b6, .int .i64 b7, .int .i64 b8, .int .u32 b9]) ∧ Step (fun k => k = g) W W' := by
 have hu48 := Tryd.underlying48
 have w00 : wrap64 0 = 0 := wrapJ (by omega) (by omega)
 go_enter Tryd.func139, Tryd.ntmps139
 go_wp2
 go_loopw [8] (fun t8 wr => (t8 = .int .i64 1 ∧ wr.ownsRow base 48 10 (.slice (some ⟨g, 0, none⟩) 2 cap) 2 [.int .i64 a0, .int .i64 a1, .int .i64 a2, .int .i64 a3, .int .i64 a4, .int .i64 a5, .int .i64 a6, .int .i64 a7, .int .i64 a8, .int .u32 a9, .int .i64 b0, .int .i64 b1, .int .i64 b2, .int .i64 b3, .int .i64 b4, .int .i64 b5, .int .i64 b6, .int .i64 b7, .int .i64 b8, .int .u32 b9] ∧ Step (fun k => k = g) W wr) ∨ (t8 = .int .i64 2 ∧ wr.ownsRow base 48 10 (.slice (some ⟨g, 0, none⟩) 2 cap) 2 (insL a1 b1 [.int .i64 a0, .int .i64 a1, .int .i64 a2, .int .i64 a3, .int .i64 a4, .int .i64 a5, .int .i64 a6, .int .i64 a7, .int .i64 a8, .int .u32 a9] [.int .i64 b0, .int .i64 b1, .int .i64 b2, .int .i64 b3, .int .i64 b4, .int .i64 b5, .int .i64 b6, .int .i64 b7, .int .i64 b8, .int .u32 b9]) ∧ Step (fun k => k = g) W wr)) (fun t8 _ => 2 - (intOf t8).toNat)
 case atStart => exact Or.inl ⟨rfl, ho, Step.refl _ _⟩
 case round =>
  rcases hrel with h1 | h1
  ·obtain ⟨rfl, ho, hs⟩ := h1
   go_wp2
   go_loopw [9] (fun t9 wr => (t9 = .int .i64 1 ∧ wr.ownsRow base 48 10 (.slice (some ⟨g, 0, none⟩) 2 cap) 2 [.int .i64 a0, .int .i64 a1, .int .i64 a2, .int .i64 a3, .int .i64 a4, .int .i64 a5, .int .i64 a6, .int .i64 a7, .int .i64 a8, .int .u32 a9, .int .i64 b0, .int .i64 b1, .int .i64 b2, .int .i64 b3, .int .i64 b4, .int .i64 b5, .int .i64 b6, .int .i64 b7, .int .i64 b8, .int .u32 b9] ∧ Step (fun k => k = g) W wr) ∨ (t9 = .int .i64 0 ∧ a1 < b1 ∧ wr.ownsRow base 48 10 (.slice (some ⟨g, 0, none⟩) 2 cap) 2 [.int .i64 b0, .int .i64 b1, .int .i64 b2, .int .i64 b3, .int .i64 b4, .int .i64 b5, .int .i64 b6, .int .i64 b7, .int .i64 b8, .int .u32 b9, .int .i64 a0, .int .i64 a1, .int .i64 a2, .int .i64 a3, .int .i64 a4, .int .i64 a5, .int .i64 a6, .int .i64 a7, .int .i64 a8, .int .u32 a9] ∧ Step (fun k => k = g) W wr)) (fun t9 _ => (intOf t9).toNat)
   case atStart => exact Or.inl ⟨rfl, ho, hs⟩
   case round =>
    clear ho hs
    rcases hrel with h1 | h1
    ·obtain ⟨rfl, ho, hs⟩ := h1
     obtain ⟨c0, c1, c2, c3, c4, c5, c6, c7, c8, c9, c10, c11, c12, c13, c14, c15, c16, c17, c18, c19⟩ := rowc ho
     have hb0 := below_drew1 (Below.refl wr.heap.size wr)
     replace hs := hs.trans (Step.of_below (S := fun k => k = g) hb0) (fun _ h => h) (fun _ h => Or.inl h)
     replace ho := ownsRow_step (Step.of_below (S := fun _ => False) hb0) ho (fun _ _ h => h)
     go_upto_region 4 with (fail)
     try simp only [List.append_eq, List.cons_append, List.nil_append]
     by_cases hab : a1 < b1
     ·have hcm : decide (cmpI a1 b1 < 0) = true := by rw [cmpI, if_pos hab]; rfl
      refine start_ (n := 17) (S := fun w' => w'.cell? ⟨g, 0, none⟩ = some (.int .i64 a0) ∧ w'.cell? ⟨g, 1, none⟩ = some (.int .i64 a1) ∧ w'.cell? ⟨g, 2, none⟩ = some (.int .i64 a2) ∧ w'.cell? ⟨g, 3, none⟩ = some (.int .i64 a3) ∧ w'.cell? ⟨g, 4, none⟩ = some (.int .i64 a4) ∧ w'.cell? ⟨g, 5, none⟩ = some (.int .i64 a5) ∧ w'.cell? ⟨g, 6, none⟩ = some (.int .i64 a6) ∧ w'.cell? ⟨g, 7, none⟩ = some (.int .i64 a7) ∧ w'.cell? ⟨g, 8, none⟩ = some (.int .i64 a8) ∧ w'.cell? ⟨g, 9, none⟩ = some (.int .u32 a9) ∧ w'.cell? ⟨g, 10, none⟩ = some (.int .i64 b0) ∧ w'.cell? ⟨g, 11, none⟩ = some (.int .i64 b1) ∧ w'.cell? ⟨g, 12, none⟩ = some (.int .i64 b2) ∧ w'.cell? ⟨g, 13, none⟩ = some (.int .i64 b3) ∧ w'.cell? ⟨g, 14, none⟩ = some (.int .i64 b4) ∧ w'.cell? ⟨g, 15, none⟩ = some (.int .i64 b5) ∧ w'.cell? ⟨g, 16, none⟩ = some (.int .i64 b6) ∧ w'.cell? ⟨g, 17, none⟩ = some (.int .i64 b7) ∧ w'.cell? ⟨g, 18, none⟩ = some (.int .i64 b8) ∧ w'.cell? ⟨g, 19, none⟩ = some (.int .u32 b9)) (ds := []) #[G,G,G,G,G,G,G,G,G,G,G,G,G,G,G,G,G] (by kernel_rfl) rfl rfl ⟨c0, c1, c2, c3, c4, c5, c6, c7, c8, c9, c10, c11, c12, c13, c14, c15, c16, c17, c18, c19⟩ (fun hHeld => ?_)
      generalize wr.drew = w3 at hHeld ho hs ⊢
      refine pure_ (i := 0) (N := some 18) (v := ?_) (a' := ?_) #[Y,G,G,G,G,G,G,G,G,G,G,G,G,G,G,G,G] rfl rfl (by kernel_rfl) (fun _ _ _ h => h) (Or.inl ⟨by rfl, ?_⟩) ?_ ?_;rotate_left
      ·intro w';go_simp;with_reducible rfl
      rotate_left;·simp only [Act.put, sA_];rfl
      refine pure_ (i := 1) (N := some 19) (v := ?_) (a' := ?_) #[Y,Y,G,G,G,G,G,G,G,G,G,G,G,G,G,G,G] rfl rfl (by kernel_rfl) (fun _ _ _ h => h) (Or.inl ⟨by rfl, ?_⟩) ?_ ?_;rotate_left
      ·intro w';go_simp;with_reducible rfl
      rotate_left;·simp only [Act.put, sA_];rfl
      refine pure_ (i := 2) (N := some 20) (v := ?_) (a' := ?_) #[Y,Y,Y,G,G,G,G,G,G,G,G,G,G,G,G,G,G] rfl rfl (by kernel_rfl) (fun _ _ _ h => h) (Or.inl ⟨by rfl, ?_⟩) ?_ ?_;rotate_left
      ·intro w';go_simp;with_reducible rfl
      rotate_left;·simp only [Act.put, sA_];rfl
      refine pure_ (i := 3) (N := some 21) (v := ?_) (a' := ?_) #[Y,Y,Y,Y,G,G,G,G,G,G,G,G,G,G,G,G,G] rfl rfl (by kernel_rfl) (fun _ _ _ h => h) (Or.inl ⟨by rfl, ?_⟩) ?_ ?_;rotate_left
      ·intro w';go_simp;with_reducible rfl
      rotate_left;·simp only [Act.put, sA_];rfl
      refine pure_ (i := 4) (N := some 22) (v := ?_) (a' := ?_) #[Y,Y,Y,Y,Y,G,G,G,G,G,G,G,G,G,G,G,G] rfl rfl (by kernel_rfl) (fun _ _ _ h => h) (Or.inl ⟨by rfl, ?_⟩) ?_ ?_;rotate_left
      ·intro w';go_simp;with_reducible rfl
      rotate_left;·simp only [Act.put, sA_];rfl
      refine pure_ (i := 5) (N := some 23) (v := ?_) (a' := ?_) #[Y,Y,Y,Y,Y,Y,G,G,G,G,G,G,G,G,G,G,G] rfl rfl (by kernel_rfl) (fun _ _ _ h => h) (Or.inl ⟨by rfl, ?_⟩) ?_ ?_;rotate_left
      ·intro w';go_simp;with_reducible rfl
      rotate_left;·simp only [Act.put, sA_];rfl
      refine pure_ (i := 6) (N := some 24) (v := ?_) (a' := ?_) #[Y,Y,Y,Y,Y,Y,Y,G,G,G,G,G,G,G,G,G,G] rfl rfl (by kernel_rfl) (fun _ _ _ h => h) (Or.inl ⟨by rfl, ?_⟩) ?_ ?_;rotate_left
      ·intro w';go_simp;with_reducible rfl
      rotate_left;·simp only [Act.put, sA_];rfl
      refine pure_ (i := 7) (N := some 25) (v := ?_) (a' := ?_) #[Y,Y,Y,Y,Y,Y,Y,Y,G,G,G,G,G,G,G,G,G] rfl rfl (by kernel_rfl) (fun _ _ _ h => h) (Or.inl ⟨by rfl, ?_⟩) ?_ ?_;rotate_left
      ·intro w';go_simp;with_reducible rfl
      rotate_left;·simp only [Act.put, sA_];rfl
      refine pure_ (i := 9) (N := some 27) (v := ?_) (a' := ?_) #[Y,Y,Y,Y,Y,Y,Y,Y,G,Y,G,G,G,G,G,G,G] rfl rfl (by kernel_rfl) (fun _ _ _ h => h) (Or.inl ⟨by rfl, ?_⟩) ?_ ?_;rotate_left
      ·intro w';go_simp;with_reducible rfl
      rotate_left;·simp only [Act.put, sA_];rfl
      refine pure_ (i := 10) (N := some 28) (v := ?_) (a' := ?_) #[Y,Y,Y,Y,Y,Y,Y,Y,G,Y,Y,G,G,G,G,G,G] rfl rfl (by kernel_rfl) (fun _ _ _ h => h) (Or.inl ⟨by rfl, ?_⟩) ?_ ?_;rotate_left
      ·intro w';go_simp;with_reducible rfl
      rotate_left;·simp only [Act.put, sA_];rfl
      refine pure_ (i := 11) (N := some 29) (v := ?_) (a' := ?_) #[Y,Y,Y,Y,Y,Y,Y,Y,G,Y,Y,Y,G,G,G,G,G] rfl rfl (by kernel_rfl) (fun _ _ _ h => h) (Or.inl ⟨by rfl, ?_⟩) ?_ ?_;rotate_left
      ·intro w';go_simp;with_reducible rfl
      rotate_left;·simp only [Act.put, sA_];rfl
      refine pure_ (i := 12) (N := some 30) (v := ?_) (a' := ?_) #[Y,Y,Y,Y,Y,Y,Y,Y,G,Y,Y,Y,Y,G,G,G,G] rfl rfl (by kernel_rfl) (fun _ _ _ h => h) (Or.inl ⟨by rfl, ?_⟩) ?_ ?_;rotate_left
      ·intro w';go_simp;with_reducible rfl
      rotate_left;·simp only [Act.put, sA_];rfl
      refine take_ (i := 8) (N := some 26) (v := ?_) (a' := ?_) #[Y,Y,Y,Y,Y,Y,Y,Y,Y,Y,Y,Y,Y,G,G,G,G] rfl rfl (by kernel_rfl) (fun _ _ _ h => h) (Or.inl ⟨by rfl, ?_⟩) hHeld ?_ ?_;rotate_left
      ·rintro w' ⟨s0, s1, s2, s3, s4, s5, s6, s7, s8, s9, s10, s11, s12, s13, s14, s15, s16, s17, s18, s19⟩
       go_simp
       with_reducible rfl
      rotate_left;·simp only [Act.put, sA_];rfl
      refine take_ (i := 13) (N := some 31) (v := ?_) (a' := ?_) #[Y,Y,Y,Y,Y,Y,Y,Y,Y,Y,Y,Y,Y,Y,G,G,G] rfl rfl (by kernel_rfl) (fun _ _ _ h => h) (Or.inl ⟨by rfl, ?_⟩) hHeld ?_ ?_;rotate_left
      ·rintro w' ⟨s0, s1, s2, s3, s4, s5, s6, s7, s8, s9, s10, s11, s12, s13, s14, s15, s16, s17, s18, s19⟩
       go_simp
       with_reducible rfl
      rotate_left;·simp only [Act.put, sA_];rfl
      refine one_ (i := 14) (N := some 32) #[Y,Y,Y,Y,Y,Y,Y,Y,Y,Y,Y,Y,Y,Y,Y,G,G] rfl rfl (by kernel_rfl) (by decide) (fun K hK => ?_)
      refine HOpen.goesv_ Tryd.func65 (by kernel_rfl) rfl #[.agg #[.int .i64 b0, .int .i64 b1, .int .i64 b2, .int .i64 b3, .int .i64 b4, .int .i64 b5, .int .i64 b6, .int .i64 b7, .int .i64 b8, .int .u32 b9], .agg #[.int .i64 a0, .int .i64 a1, .int .i64 a2, .int .i64 a3, .int .i64 a4, .int .i64 a5, .int .i64 a6, .int .i64 a7, .int .i64 a8, .int .u32 a9]] (by rfl) rfl rfl rfl (by simp only [List.map_toArray, List.map_cons, List.map_nil]; rfl) ?_
      with_reducible refine (cmp_two w3 b0 b1 b2 b3 b4 b5 b6 b7 b8 b9 a0 a1 a2 a3 a4 a5 a6 a7 a8 a9).mono ?_
      rintro e w3 ⟨rfl, hb3⟩
      refine ⟨_, rfl, ?_⟩
      replace ho := ownsRow_step (Step.of_below (S := fun _ => False) hb3) ho (fun _ _ h => h)
      replace hs := hs.trans (Step.of_below (S := fun k => k = g) hb3) (fun _ h => h) (fun _ h => Or.inl h)
      refine hK.out _ _ ⟨pw_cell_below hb3 hHeld.1, pw_cell_below hb3 hHeld.2.1, pw_cell_below hb3 hHeld.2.2.1, pw_cell_below hb3 hHeld.2.2.2.1, pw_cell_below hb3 hHeld.2.2.2.2.1, pw_cell_below hb3 hHeld.2.2.2.2.2.1, pw_cell_below hb3 hHeld.2.2.2.2.2.2.1, pw_cell_below hb3 hHeld.2.2.2.2.2.2.2.1, pw_cell_below hb3 hHeld.2.2.2.2.2.2.2.2.1, pw_cell_below hb3 hHeld.2.2.2.2.2.2.2.2.2.1, pw_cell_below hb3 hHeld.2.2.2.2.2.2.2.2.2.2.1, pw_cell_below hb3 hHeld.2.2.2.2.2.2.2.2.2.2.2.1, pw_cell_below hb3 hHeld.2.2.2.2.2.2.2.2.2.2.2.2.1, pw_cell_below hb3 hHeld.2.2.2.2.2.2.2.2.2.2.2.2.2.1, pw_cell_below hb3 hHeld.2.2.2.2.2.2.2.2.2.2.2.2.2.2.1, pw_cell_below hb3 hHeld.2.2.2.2.2.2.2.2.2.2.2.2.2.2.2.1, pw_cell_below hb3 hHeld.2.2.2.2.2.2.2.2.2.2.2.2.2.2.2.2.1, pw_cell_below hb3 hHeld.2.2.2.2.2.2.2.2.2.2.2.2.2.2.2.2.2.1, pw_cell_below hb3 hHeld.2.2.2.2.2.2.2.2.2.2.2.2.2.2.2.2.2.2.1, pw_cell_below hb3 hHeld.2.2.2.2.2.2.2.2.2.2.2.2.2.2.2.2.2.2.2⟩ (fun hHeld => ?_)
      clear hK K
      refine norm_ (a' := ?_) ?_ ?_;rotate_left
      ·show Act.put _ (some 32) _ = _
       simp only [Act.put, sA_]
       rfl
      refine pure_ (i := 15) (N := some 33) (v := ?_) (a' := ?_) #[Y,Y,Y,Y,Y,Y,Y,Y,Y,Y,Y,Y,Y,Y,Y,Y,G] rfl rfl (by kernel_rfl) (fun _ _ _ h => h) (Or.inl ⟨by rfl, ?_⟩) ?_ ?_;rotate_left
      ·intro w';go_simp;with_reducible rfl
      rotate_left;·simp only [Act.put, sA_];rfl
      refine pure_ (i := 16) (N := some 34) (v := ?_) (a' := ?_) #[Y,Y,Y,Y,Y,Y,Y,Y,Y,Y,Y,Y,Y,Y,Y,Y,Y] rfl rfl (by kernel_rfl) (fun _ _ _ h => h) (Or.inl ⟨by rfl, ?_⟩) ?_ ?_;rotate_left
      ·intro w';go_simp;with_reducible rfl
      rotate_left;·simp only [Act.put, sA_];rfl
      refine done_ (by kernel_rfl) ?_

      try rw [hcm]
      clear hHeld
      obtain ⟨c0, c1, c2, c3, c4, c5, c6, c7, c8, c9, c10, c11, c12, c13, c14, c15, c16, c17, c18, c19⟩ := rowc ho
      go_wp2_with fail
      try simp only [List.append_eq, List.cons_append, List.nil_append]
      have hb1 := below_drew1 (Below.refl w3.heap.size w3)
      replace hs := hs.trans (Step.of_below (S := fun k => k = g) hb1) (fun _ h => h) (fun _ h => Or.inl h)
      replace ho := ownsRow_step (Step.of_below (S := fun _ => False) hb1) ho (fun _ _ h => h)
      refine start_ (n := 18) (S := fun w' => w'.cell? ⟨g, 0, none⟩ = some (.int .i64 a0) ∧ w'.cell? ⟨g, 1, none⟩ = some (.int .i64 a1) ∧ w'.cell? ⟨g, 2, none⟩ = some (.int .i64 a2) ∧ w'.cell? ⟨g, 3, none⟩ = some (.int .i64 a3) ∧ w'.cell? ⟨g, 4, none⟩ = some (.int .i64 a4) ∧ w'.cell? ⟨g, 5, none⟩ = some (.int .i64 a5) ∧ w'.cell? ⟨g, 6, none⟩ = some (.int .i64 a6) ∧ w'.cell? ⟨g, 7, none⟩ = some (.int .i64 a7) ∧ w'.cell? ⟨g, 8, none⟩ = some (.int .i64 a8) ∧ w'.cell? ⟨g, 9, none⟩ = some (.int .u32 a9) ∧ w'.cell? ⟨g, 10, none⟩ = some (.int .i64 b0) ∧ w'.cell? ⟨g, 11, none⟩ = some (.int .i64 b1) ∧ w'.cell? ⟨g, 12, none⟩ = some (.int .i64 b2) ∧ w'.cell? ⟨g, 13, none⟩ = some (.int .i64 b3) ∧ w'.cell? ⟨g, 14, none⟩ = some (.int .i64 b4) ∧ w'.cell? ⟨g, 15, none⟩ = some (.int .i64 b5) ∧ w'.cell? ⟨g, 16, none⟩ = some (.int .i64 b6) ∧ w'.cell? ⟨g, 17, none⟩ = some (.int .i64 b7) ∧ w'.cell? ⟨g, 18, none⟩ = some (.int .i64 b8) ∧ w'.cell? ⟨g, 19, none⟩ = some (.int .u32 b9)) (ds := [15, 17]) #[G,G,G,G,G,G,G,G,G,G,G,G,G,G,G,G,G,G] (by kernel_rfl) rfl rfl ⟨c0, c1, c2, c3, c4, c5, c6, c7, c8, c9, c10, c11, c12, c13, c14, c15, c16, c17, c18, c19⟩ (fun hHeld => ?_)
      generalize w3.drew = w5 at hHeld ho hs ⊢
      refine pure_ (i := 0) (N := some 37) (v := ?_) (a' := ?_) #[Y,G,G,G,G,G,G,G,G,G,G,G,G,G,G,G,G,G] rfl rfl (by kernel_rfl) (fun _ _ _ h => h) (Or.inl ⟨by rfl, ?_⟩) ?_ ?_;rotate_left
      ·intro w';go_simp;with_reducible rfl
      rotate_left;·simp only [Act.put, sA_];rfl
      refine pure_ (i := 1) (N := some 38) (v := ?_) (a' := ?_) #[Y,Y,G,G,G,G,G,G,G,G,G,G,G,G,G,G,G,G] rfl rfl (by kernel_rfl) (fun _ _ _ h => h) (Or.inl ⟨by rfl, ?_⟩) ?_ ?_;rotate_left
      ·intro w';go_simp;with_reducible rfl
      rotate_left;·simp only [Act.put, sA_];rfl
      refine pure_ (i := 2) (N := some 39) (v := ?_) (a' := ?_) #[Y,Y,Y,G,G,G,G,G,G,G,G,G,G,G,G,G,G,G] rfl rfl (by kernel_rfl) (fun _ _ _ h => h) (Or.inl ⟨by rfl, ?_⟩) ?_ ?_;rotate_left
      ·intro w';go_simp;with_reducible rfl
      rotate_left;·simp only [Act.put, sA_];rfl
      refine pure_ (i := 3) (N := some 40) (v := ?_) (a' := ?_) #[Y,Y,Y,Y,G,G,G,G,G,G,G,G,G,G,G,G,G,G] rfl rfl (by kernel_rfl) (fun _ _ _ h => h) (Or.inl ⟨by rfl, ?_⟩) ?_ ?_;rotate_left
      ·intro w';go_simp;with_reducible rfl
      rotate_left;·simp only [Act.put, sA_];rfl
      refine pure_ (i := 4) (N := some 41) (v := ?_) (a' := ?_) #[Y,Y,Y,Y,Y,G,G,G,G,G,G,G,G,G,G,G,G,G] rfl rfl (by kernel_rfl) (fun _ _ _ h => h) (Or.inl ⟨by rfl, ?_⟩) ?_ ?_;rotate_left
      ·intro w';go_simp;with_reducible rfl
      rotate_left;·simp only [Act.put, sA_];rfl
      refine pure_ (i := 5) (N := some 42) (v := ?_) (a' := ?_) #[Y,Y,Y,Y,Y,Y,G,G,G,G,G,G,G,G,G,G,G,G] rfl rfl (by kernel_rfl) (fun _ _ _ h => h) (Or.inl ⟨by rfl, ?_⟩) ?_ ?_;rotate_left
      ·intro w';go_simp;with_reducible rfl
      rotate_left;·simp only [Act.put, sA_];rfl
      refine pure_ (i := 6) (N := some 43) (v := ?_) (a' := ?_) #[Y,Y,Y,Y,Y,Y,Y,G,G,G,G,G,G,G,G,G,G,G] rfl rfl (by kernel_rfl) (fun _ _ _ h => h) (Or.inl ⟨by rfl, ?_⟩) ?_ ?_;rotate_left
      ·intro w';go_simp;with_reducible rfl
      rotate_left;·simp only [Act.put, sA_];rfl
      refine pure_ (i := 7) (N := some 44) (v := ?_) (a' := ?_) #[Y,Y,Y,Y,Y,Y,Y,Y,G,G,G,G,G,G,G,G,G,G] rfl rfl (by kernel_rfl) (fun _ _ _ h => h) (Or.inl ⟨by rfl, ?_⟩) ?_ ?_;rotate_left
      ·intro w';go_simp;with_reducible rfl
      rotate_left;·simp only [Act.put, sA_];rfl
      refine pure_ (i := 8) (N := some 45) (v := ?_) (a' := ?_) #[Y,Y,Y,Y,Y,Y,Y,Y,Y,G,G,G,G,G,G,G,G,G] rfl rfl (by kernel_rfl) (fun _ _ _ h => h) (Or.inl ⟨by rfl, ?_⟩) ?_ ?_;rotate_left
      ·intro w';go_simp;with_reducible rfl
      rotate_left;·simp only [Act.put, sA_];rfl
      refine pure_ (i := 10) (N := some 47) (v := ?_) (a' := ?_) #[Y,Y,Y,Y,Y,Y,Y,Y,Y,G,Y,G,G,G,G,G,G,G] rfl rfl (by kernel_rfl) (fun _ _ _ h => h) (Or.inl ⟨by rfl, ?_⟩) ?_ ?_;rotate_left
      ·intro w';go_simp;with_reducible rfl
      rotate_left;·simp only [Act.put, sA_];rfl
      refine pure_ (i := 11) (N := some 48) (v := ?_) (a' := ?_) #[Y,Y,Y,Y,Y,Y,Y,Y,Y,G,Y,Y,G,G,G,G,G,G] rfl rfl (by kernel_rfl) (fun _ _ _ h => h) (Or.inl ⟨by rfl, ?_⟩) ?_ ?_;rotate_left
      ·intro w';go_simp;with_reducible rfl
      rotate_left;·simp only [Act.put, sA_];rfl
      refine pure_ (i := 12) (N := some 49) (v := ?_) (a' := ?_) #[Y,Y,Y,Y,Y,Y,Y,Y,Y,G,Y,Y,Y,G,G,G,G,G] rfl rfl (by kernel_rfl) (fun _ _ _ h => h) (Or.inl ⟨by rfl, ?_⟩) ?_ ?_;rotate_left
      ·intro w';go_simp;with_reducible rfl
      rotate_left;·simp only [Act.put, sA_];rfl
      refine take_ (i := 9) (N := some 46) (v := ?_) (a' := ?_) #[Y,Y,Y,Y,Y,Y,Y,Y,Y,Y,Y,Y,Y,G,G,G,G,G] rfl rfl (by kernel_rfl) (fun _ _ _ h => h) (Or.inl ⟨by rfl, ?_⟩) hHeld ?_ ?_;rotate_left
      ·rintro w' ⟨s0, s1, s2, s3, s4, s5, s6, s7, s8, s9, s10, s11, s12, s13, s14, s15, s16, s17, s18, s19⟩
       go_simp
       with_reducible rfl
      rotate_left;·simp only [Act.put, sA_];rfl
      refine take_ (i := 13) (N := some 50) (v := ?_) (a' := ?_) #[Y,Y,Y,Y,Y,Y,Y,Y,Y,Y,Y,Y,Y,Y,G,G,G,G] rfl rfl (by kernel_rfl) (fun _ _ _ h => h) (Or.inl ⟨by rfl, ?_⟩) hHeld ?_ ?_;rotate_left
      ·rintro w' ⟨s0, s1, s2, s3, s4, s5, s6, s7, s8, s9, s10, s11, s12, s13, s14, s15, s16, s17, s18, s19⟩
       go_simp
       with_reducible rfl
      rotate_left;·simp only [Act.put, sA_];rfl
      refine pure_ (i := 14) (N := some 51) (v := ?_) (a' := ?_) #[Y,Y,Y,Y,Y,Y,Y,Y,Y,Y,Y,Y,Y,Y,Y,G,G,G] rfl rfl (by kernel_rfl) (fun _ _ _ h => h) (Or.inl ⟨by rfl, ?_⟩) ?_ ?_;rotate_left
      ·intro w';go_simp;with_reducible rfl
      rotate_left;·simp only [Act.put, sA_];rfl
      refine last_ (i := 15) (N := none) #[Y,Y,Y,Y,Y,Y,Y,Y,Y,Y,Y,Y,Y,Y,Y,Y,G,G] rfl rfl (by kernel_rfl) (by decide) (fun K hK => ?_)
      clear hHeld
      obtain ⟨f0, f1, f2, f3, f4, f5, f6, f7, f8, f9, f10, f11, f12, f13, f14, f15, f16, f17, f18, f19⟩ := rowf ho
      obtain ⟨c0, c1, c2, c3, c4, c5, c6, c7, c8, c9, c10, c11, c12, c13, c14, c15, c16, c17, c18, c19⟩ := rowc ho
      refine skip_ (w1 := ?_) (by rfl) rfl ?_ ?_;rotate_left
      ·go_simp
       rfl
      have hst6 : Step (fun k => k = g) w5 ((((((((((w5.setCell ⟨g, 10, none⟩ (.int .i64 a0)).setCell ⟨g, 11, none⟩ (.int .i64 a1)).setCell ⟨g, 12, none⟩ (.int .i64 a2)).setCell ⟨g, 13, none⟩ (.int .i64 a3)).setCell ⟨g, 14, none⟩ (.int .i64 a4)).setCell ⟨g, 15, none⟩ (.int .i64 a5)).setCell ⟨g, 16, none⟩ (.int .i64 a6)).setCell ⟨g, 17, none⟩ (.int .i64 a7)).setCell ⟨g, 18, none⟩ (.int .i64 a8)).setCell ⟨g, 19, none⟩ (.int .u32 a9)) := step_set _ _ _ _ (step_set _ _ _ _ (step_set _ _ _ _ (step_set _ _ _ _ (step_set _ _ _ _ (step_set _ _ _ _ (step_set _ _ _ _ (step_set _ _ _ _ (step_set _ _ _ _ (step_set _ _ _ _ (Step.refl _ _))))))))))
      have ho6 : World.ownsRow _ base 48 10 (.slice (some ⟨g, 0, none⟩) 2 cap) 2 [.int .i64 a0, .int .i64 a1, .int .i64 a2, .int .i64 a3, .int .i64 a4, .int .i64 a5, .int .i64 a6, .int .i64 a7, .int .i64 a8, .int .u32 a9, .int .i64 a0, .int .i64 a1, .int .i64 a2, .int .i64 a3, .int .i64 a4, .int .i64 a5, .int .i64 a6, .int .i64 a7, .int .i64 a8, .int .u32 a9] := ownsRow_set (ownsRow_set (ownsRow_set (ownsRow_set (ownsRow_set (ownsRow_set (ownsRow_set (ownsRow_set (ownsRow_set (ownsRow_set (ho) 10 (.int .i64 a0)) 11 (.int .i64 a1)) 12 (.int .i64 a2)) 13 (.int .i64 a3)) 14 (.int .i64 a4)) 15 (.int .i64 a5)) 16 (.int .i64 a6)) 17 (.int .i64 a7)) 18 (.int .i64 a8)) 19 (.int .u32 a9)
      generalize ((((((((((w5.setCell ⟨g, 10, none⟩ (.int .i64 a0)).setCell ⟨g, 11, none⟩ (.int .i64 a1)).setCell ⟨g, 12, none⟩ (.int .i64 a2)).setCell ⟨g, 13, none⟩ (.int .i64 a3)).setCell ⟨g, 14, none⟩ (.int .i64 a4)).setCell ⟨g, 15, none⟩ (.int .i64 a5)).setCell ⟨g, 16, none⟩ (.int .i64 a6)).setCell ⟨g, 17, none⟩ (.int .i64 a7)).setCell ⟨g, 18, none⟩ (.int .i64 a8)).setCell ⟨g, 19, none⟩ (.int .u32 a9)) = w6 at hst6 ho6 ⊢
      replace hs := hs.trans hst6 (fun _ h => h) (fun _ h => Or.inl h)
      clear hst6 f0 f1 f2 f3 f4 f5 f6 f7 f8 f9 f10 f11 f12 f13 f14 f15 f16 f17 f18 f19 c0 c1 c2 c3 c4 c5 c6 c7 c8 c9 c10 c11 c12 c13 c14 c15 c16 c17 c18 c19
      refine hK.out _ _ ?_
      clear hK K
      refine pure_ (i := 16) (N := some 52) (v := ?_) (a' := ?_) #[Y,Y,Y,Y,Y,Y,Y,Y,Y,Y,Y,Y,Y,Y,Y,Y,Y,G] rfl rfl (by kernel_rfl) (fun _ _ _ h => h) (Or.inl ⟨by rfl, ?_⟩) ?_ ?_;rotate_left
      ·intro w';go_simp;with_reducible rfl
      rotate_left;·simp only [Act.put, sA_];rfl
      refine last_ (i := 17) (N := none) #[Y,Y,Y,Y,Y,Y,Y,Y,Y,Y,Y,Y,Y,Y,Y,Y,Y,Y] rfl rfl (by kernel_rfl) (by decide) (fun K hK => ?_)
      obtain ⟨f0, f1, f2, f3, f4, f5, f6, f7, f8, f9, f10, f11, f12, f13, f14, f15, f16, f17, f18, f19⟩ := rowf ho6
      obtain ⟨c0, c1, c2, c3, c4, c5, c6, c7, c8, c9, c10, c11, c12, c13, c14, c15, c16, c17, c18, c19⟩ := rowc ho6
      refine skip_ (w1 := ?_) (by rfl) rfl ?_ ?_;rotate_left
      ·go_simp
       rfl
      have hst7 : Step (fun k => k = g) w6 ((((((((((w6.setCell ⟨g, 0, none⟩ (.int .i64 b0)).setCell ⟨g, 1, none⟩ (.int .i64 b1)).setCell ⟨g, 2, none⟩ (.int .i64 b2)).setCell ⟨g, 3, none⟩ (.int .i64 b3)).setCell ⟨g, 4, none⟩ (.int .i64 b4)).setCell ⟨g, 5, none⟩ (.int .i64 b5)).setCell ⟨g, 6, none⟩ (.int .i64 b6)).setCell ⟨g, 7, none⟩ (.int .i64 b7)).setCell ⟨g, 8, none⟩ (.int .i64 b8)).setCell ⟨g, 9, none⟩ (.int .u32 b9)) := step_set _ _ _ _ (step_set _ _ _ _ (step_set _ _ _ _ (step_set _ _ _ _ (step_set _ _ _ _ (step_set _ _ _ _ (step_set _ _ _ _ (step_set _ _ _ _ (step_set _ _ _ _ (step_set _ _ _ _ (Step.refl _ _))))))))))
      have ho7 : World.ownsRow _ base 48 10 (.slice (some ⟨g, 0, none⟩) 2 cap) 2 [.int .i64 b0, .int .i64 b1, .int .i64 b2, .int .i64 b3, .int .i64 b4, .int .i64 b5, .int .i64 b6, .int .i64 b7, .int .i64 b8, .int .u32 b9, .int .i64 a0, .int .i64 a1, .int .i64 a2, .int .i64 a3, .int .i64 a4, .int .i64 a5, .int .i64 a6, .int .i64 a7, .int .i64 a8, .int .u32 a9] := ownsRow_set (ownsRow_set (ownsRow_set (ownsRow_set (ownsRow_set (ownsRow_set (ownsRow_set (ownsRow_set (ownsRow_set (ownsRow_set (ho6) 0 (.int .i64 b0)) 1 (.int .i64 b1)) 2 (.int .i64 b2)) 3 (.int .i64 b3)) 4 (.int .i64 b4)) 5 (.int .i64 b5)) 6 (.int .i64 b6)) 7 (.int .i64 b7)) 8 (.int .i64 b8)) 9 (.int .u32 b9)
      generalize ((((((((((w6.setCell ⟨g, 0, none⟩ (.int .i64 b0)).setCell ⟨g, 1, none⟩ (.int .i64 b1)).setCell ⟨g, 2, none⟩ (.int .i64 b2)).setCell ⟨g, 3, none⟩ (.int .i64 b3)).setCell ⟨g, 4, none⟩ (.int .i64 b4)).setCell ⟨g, 5, none⟩ (.int .i64 b5)).setCell ⟨g, 6, none⟩ (.int .i64 b6)).setCell ⟨g, 7, none⟩ (.int .i64 b7)).setCell ⟨g, 8, none⟩ (.int .i64 b8)).setCell ⟨g, 9, none⟩ (.int .u32 b9)) = w7 at hst7 ho7 ⊢
      replace hs := hs.trans hst7 (fun _ h => h) (fun _ h => Or.inl h)
      clear hst7 f0 f1 f2 f3 f4 f5 f6 f7 f8 f9 f10 f11 f12 f13 f14 f15 f16 f17 f18 f19 c0 c1 c2 c3 c4 c5 c6 c7 c8 c9 c10 c11 c12 c13 c14 c15 c16 c17 c18 c19
      refine hK.out _ _ ?_
      clear hK K
      refine done_ (by kernel_rfl) ?_

      go_wp2
      exact ⟨Or.inr ⟨rfl, hab, ho7, hs⟩, by simp [intOf]⟩
     ·have hcm : decide (cmpI a1 b1 < 0) = false := by
       rw [cmpI, if_neg hab]
       split <;> rfl
      refine start_ (n := 17) (S := fun w' => w'.cell? ⟨g, 0, none⟩ = some (.int .i64 a0) ∧ w'.cell? ⟨g, 1, none⟩ = some (.int .i64 a1) ∧ w'.cell? ⟨g, 2, none⟩ = some (.int .i64 a2) ∧ w'.cell? ⟨g, 3, none⟩ = some (.int .i64 a3) ∧ w'.cell? ⟨g, 4, none⟩ = some (.int .i64 a4) ∧ w'.cell? ⟨g, 5, none⟩ = some (.int .i64 a5) ∧ w'.cell? ⟨g, 6, none⟩ = some (.int .i64 a6) ∧ w'.cell? ⟨g, 7, none⟩ = some (.int .i64 a7) ∧ w'.cell? ⟨g, 8, none⟩ = some (.int .i64 a8) ∧ w'.cell? ⟨g, 9, none⟩ = some (.int .u32 a9) ∧ w'.cell? ⟨g, 10, none⟩ = some (.int .i64 b0) ∧ w'.cell? ⟨g, 11, none⟩ = some (.int .i64 b1) ∧ w'.cell? ⟨g, 12, none⟩ = some (.int .i64 b2) ∧ w'.cell? ⟨g, 13, none⟩ = some (.int .i64 b3) ∧ w'.cell? ⟨g, 14, none⟩ = some (.int .i64 b4) ∧ w'.cell? ⟨g, 15, none⟩ = some (.int .i64 b5) ∧ w'.cell? ⟨g, 16, none⟩ = some (.int .i64 b6) ∧ w'.cell? ⟨g, 17, none⟩ = some (.int .i64 b7) ∧ w'.cell? ⟨g, 18, none⟩ = some (.int .i64 b8) ∧ w'.cell? ⟨g, 19, none⟩ = some (.int .u32 b9)) (ds := []) #[G,G,G,G,G,G,G,G,G,G,G,G,G,G,G,G,G] (by kernel_rfl) rfl rfl ⟨c0, c1, c2, c3, c4, c5, c6, c7, c8, c9, c10, c11, c12, c13, c14, c15, c16, c17, c18, c19⟩ (fun hHeld => ?_)
      generalize wr.drew = w3 at hHeld ho hs ⊢
      refine pure_ (i := 0) (N := some 18) (v := ?_) (a' := ?_) #[Y,G,G,G,G,G,G,G,G,G,G,G,G,G,G,G,G] rfl rfl (by kernel_rfl) (fun _ _ _ h => h) (Or.inl ⟨by rfl, ?_⟩) ?_ ?_;rotate_left
      ·intro w';go_simp;with_reducible rfl
      rotate_left;·simp only [Act.put, sA_];rfl
      refine pure_ (i := 1) (N := some 19) (v := ?_) (a' := ?_) #[Y,Y,G,G,G,G,G,G,G,G,G,G,G,G,G,G,G] rfl rfl (by kernel_rfl) (fun _ _ _ h => h) (Or.inl ⟨by rfl, ?_⟩) ?_ ?_;rotate_left
      ·intro w';go_simp;with_reducible rfl
      rotate_left;·simp only [Act.put, sA_];rfl
      refine pure_ (i := 2) (N := some 20) (v := ?_) (a' := ?_) #[Y,Y,Y,G,G,G,G,G,G,G,G,G,G,G,G,G,G] rfl rfl (by kernel_rfl) (fun _ _ _ h => h) (Or.inl ⟨by rfl, ?_⟩) ?_ ?_;rotate_left
      ·intro w';go_simp;with_reducible rfl
      rotate_left;·simp only [Act.put, sA_];rfl
      refine pure_ (i := 3) (N := some 21) (v := ?_) (a' := ?_) #[Y,Y,Y,Y,G,G,G,G,G,G,G,G,G,G,G,G,G] rfl rfl (by kernel_rfl) (fun _ _ _ h => h) (Or.inl ⟨by rfl, ?_⟩) ?_ ?_;rotate_left
      ·intro w';go_simp;with_reducible rfl
      rotate_left;·simp only [Act.put, sA_];rfl
      refine pure_ (i := 4) (N := some 22) (v := ?_) (a' := ?_) #[Y,Y,Y,Y,Y,G,G,G,G,G,G,G,G,G,G,G,G] rfl rfl (by kernel_rfl) (fun _ _ _ h => h) (Or.inl ⟨by rfl, ?_⟩) ?_ ?_;rotate_left
      ·intro w';go_simp;with_reducible rfl
      rotate_left;·simp only [Act.put, sA_];rfl
      refine pure_ (i := 5) (N := some 23) (v := ?_) (a' := ?_) #[Y,Y,Y,Y,Y,Y,G,G,G,G,G,G,G,G,G,G,G] rfl rfl (by kernel_rfl) (fun _ _ _ h => h) (Or.inl ⟨by rfl, ?_⟩) ?_ ?_;rotate_left
      ·intro w';go_simp;with_reducible rfl
      rotate_left;·simp only [Act.put, sA_];rfl
      refine pure_ (i := 6) (N := some 24) (v := ?_) (a' := ?_) #[Y,Y,Y,Y,Y,Y,Y,G,G,G,G,G,G,G,G,G,G] rfl rfl (by kernel_rfl) (fun _ _ _ h => h) (Or.inl ⟨by rfl, ?_⟩) ?_ ?_;rotate_left
      ·intro w';go_simp;with_reducible rfl
      rotate_left;·simp only [Act.put, sA_];rfl
      refine pure_ (i := 7) (N := some 25) (v := ?_) (a' := ?_) #[Y,Y,Y,Y,Y,Y,Y,Y,G,G,G,G,G,G,G,G,G] rfl rfl (by kernel_rfl) (fun _ _ _ h => h) (Or.inl ⟨by rfl, ?_⟩) ?_ ?_;rotate_left
      ·intro w';go_simp;with_reducible rfl
      rotate_left;·simp only [Act.put, sA_];rfl
      refine pure_ (i := 9) (N := some 27) (v := ?_) (a' := ?_) #[Y,Y,Y,Y,Y,Y,Y,Y,G,Y,G,G,G,G,G,G,G] rfl rfl (by kernel_rfl) (fun _ _ _ h => h) (Or.inl ⟨by rfl, ?_⟩) ?_ ?_;rotate_left
      ·intro w';go_simp;with_reducible rfl
      rotate_left;·simp only [Act.put, sA_];rfl
      refine pure_ (i := 10) (N := some 28) (v := ?_) (a' := ?_) #[Y,Y,Y,Y,Y,Y,Y,Y,G,Y,Y,G,G,G,G,G,G] rfl rfl (by kernel_rfl) (fun _ _ _ h => h) (Or.inl ⟨by rfl, ?_⟩) ?_ ?_;rotate_left
      ·intro w';go_simp;with_reducible rfl
      rotate_left;·simp only [Act.put, sA_];rfl
      refine pure_ (i := 11) (N := some 29) (v := ?_) (a' := ?_) #[Y,Y,Y,Y,Y,Y,Y,Y,G,Y,Y,Y,G,G,G,G,G] rfl rfl (by kernel_rfl) (fun _ _ _ h => h) (Or.inl ⟨by rfl, ?_⟩) ?_ ?_;rotate_left
      ·intro w';go_simp;with_reducible rfl
      rotate_left;·simp only [Act.put, sA_];rfl
      refine pure_ (i := 12) (N := some 30) (v := ?_) (a' := ?_) #[Y,Y,Y,Y,Y,Y,Y,Y,G,Y,Y,Y,Y,G,G,G,G] rfl rfl (by kernel_rfl) (fun _ _ _ h => h) (Or.inl ⟨by rfl, ?_⟩) ?_ ?_;rotate_left
      ·intro w';go_simp;with_reducible rfl
      rotate_left;·simp only [Act.put, sA_];rfl
      refine take_ (i := 8) (N := some 26) (v := ?_) (a' := ?_) #[Y,Y,Y,Y,Y,Y,Y,Y,Y,Y,Y,Y,Y,G,G,G,G] rfl rfl (by kernel_rfl) (fun _ _ _ h => h) (Or.inl ⟨by rfl, ?_⟩) hHeld ?_ ?_;rotate_left
      ·rintro w' ⟨s0, s1, s2, s3, s4, s5, s6, s7, s8, s9, s10, s11, s12, s13, s14, s15, s16, s17, s18, s19⟩
       go_simp
       with_reducible rfl
      rotate_left;·simp only [Act.put, sA_];rfl
      refine take_ (i := 13) (N := some 31) (v := ?_) (a' := ?_) #[Y,Y,Y,Y,Y,Y,Y,Y,Y,Y,Y,Y,Y,Y,G,G,G] rfl rfl (by kernel_rfl) (fun _ _ _ h => h) (Or.inl ⟨by rfl, ?_⟩) hHeld ?_ ?_;rotate_left
      ·rintro w' ⟨s0, s1, s2, s3, s4, s5, s6, s7, s8, s9, s10, s11, s12, s13, s14, s15, s16, s17, s18, s19⟩
       go_simp
       with_reducible rfl
      rotate_left;·simp only [Act.put, sA_];rfl
      refine one_ (i := 14) (N := some 32) #[Y,Y,Y,Y,Y,Y,Y,Y,Y,Y,Y,Y,Y,Y,Y,G,G] rfl rfl (by kernel_rfl) (by decide) (fun K hK => ?_)
      refine HOpen.goesv_ Tryd.func65 (by kernel_rfl) rfl #[.agg #[.int .i64 b0, .int .i64 b1, .int .i64 b2, .int .i64 b3, .int .i64 b4, .int .i64 b5, .int .i64 b6, .int .i64 b7, .int .i64 b8, .int .u32 b9], .agg #[.int .i64 a0, .int .i64 a1, .int .i64 a2, .int .i64 a3, .int .i64 a4, .int .i64 a5, .int .i64 a6, .int .i64 a7, .int .i64 a8, .int .u32 a9]] (by rfl) rfl rfl rfl (by simp only [List.map_toArray, List.map_cons, List.map_nil]; rfl) ?_
      with_reducible refine (cmp_two w3 b0 b1 b2 b3 b4 b5 b6 b7 b8 b9 a0 a1 a2 a3 a4 a5 a6 a7 a8 a9).mono ?_
      rintro e w3 ⟨rfl, hb3⟩
      refine ⟨_, rfl, ?_⟩
      replace ho := ownsRow_step (Step.of_below (S := fun _ => False) hb3) ho (fun _ _ h => h)
      replace hs := hs.trans (Step.of_below (S := fun k => k = g) hb3) (fun _ h => h) (fun _ h => Or.inl h)
      refine hK.out _ _ ⟨pw_cell_below hb3 hHeld.1, pw_cell_below hb3 hHeld.2.1, pw_cell_below hb3 hHeld.2.2.1, pw_cell_below hb3 hHeld.2.2.2.1, pw_cell_below hb3 hHeld.2.2.2.2.1, pw_cell_below hb3 hHeld.2.2.2.2.2.1, pw_cell_below hb3 hHeld.2.2.2.2.2.2.1, pw_cell_below hb3 hHeld.2.2.2.2.2.2.2.1, pw_cell_below hb3 hHeld.2.2.2.2.2.2.2.2.1, pw_cell_below hb3 hHeld.2.2.2.2.2.2.2.2.2.1, pw_cell_below hb3 hHeld.2.2.2.2.2.2.2.2.2.2.1, pw_cell_below hb3 hHeld.2.2.2.2.2.2.2.2.2.2.2.1, pw_cell_below hb3 hHeld.2.2.2.2.2.2.2.2.2.2.2.2.1, pw_cell_below hb3 hHeld.2.2.2.2.2.2.2.2.2.2.2.2.2.1, pw_cell_below hb3 hHeld.2.2.2.2.2.2.2.2.2.2.2.2.2.2.1, pw_cell_below hb3 hHeld.2.2.2.2.2.2.2.2.2.2.2.2.2.2.2.1, pw_cell_below hb3 hHeld.2.2.2.2.2.2.2.2.2.2.2.2.2.2.2.2.1, pw_cell_below hb3 hHeld.2.2.2.2.2.2.2.2.2.2.2.2.2.2.2.2.2.1, pw_cell_below hb3 hHeld.2.2.2.2.2.2.2.2.2.2.2.2.2.2.2.2.2.2.1, pw_cell_below hb3 hHeld.2.2.2.2.2.2.2.2.2.2.2.2.2.2.2.2.2.2.2⟩ (fun hHeld => ?_)
      clear hK K
      refine norm_ (a' := ?_) ?_ ?_;rotate_left
      ·show Act.put _ (some 32) _ = _
       simp only [Act.put, sA_]
       rfl
      refine pure_ (i := 15) (N := some 33) (v := ?_) (a' := ?_) #[Y,Y,Y,Y,Y,Y,Y,Y,Y,Y,Y,Y,Y,Y,Y,Y,G] rfl rfl (by kernel_rfl) (fun _ _ _ h => h) (Or.inl ⟨by rfl, ?_⟩) ?_ ?_;rotate_left
      ·intro w';go_simp;with_reducible rfl
      rotate_left;·simp only [Act.put, sA_];rfl
      refine pure_ (i := 16) (N := some 34) (v := ?_) (a' := ?_) #[Y,Y,Y,Y,Y,Y,Y,Y,Y,Y,Y,Y,Y,Y,Y,Y,Y] rfl rfl (by kernel_rfl) (fun _ _ _ h => h) (Or.inl ⟨by rfl, ?_⟩) ?_ ?_;rotate_left
      ·intro w';go_simp;with_reducible rfl
      rotate_left;·simp only [Act.put, sA_];rfl
      refine done_ (by kernel_rfl) ?_

      try rw [hcm]
      clear hHeld
      go_wp2
      exact ⟨Or.inr ⟨rfl, by rw [insL, if_neg hab]; exact ho, hs⟩, by simp [intOf]⟩
    ·obtain ⟨rfl, hab, ho, hs⟩ := h1
     have hb0 := below_drew1 (Below.refl wr.heap.size wr)
     replace hs := hs.trans (Step.of_below (S := fun k => k = g) hb0) (fun _ h => h) (fun _ h => Or.inl h)
     replace ho := ownsRow_step (Step.of_below (S := fun _ => False) hb0) ho (fun _ _ h => h)
     go_upto_region 4 with (fail)
     try simp only [List.append_eq, List.cons_append, List.nil_append]
     refine start_ (n := 17) (S := fun w' => True) (ds := []) #[G,G,G,G,G,G,G,G,G,G,G,G,G,G,G,G,G] (by kernel_rfl) rfl rfl trivial (fun hHeld => ?_)
     generalize wr.drew = w3 at ho hs ⊢
     refine pure_ (i := 0) (N := some 18) (v := ?_) (a' := ?_) #[Y,G,G,G,G,G,G,G,G,G,G,G,G,G,G,G,G] rfl rfl (by kernel_rfl) (fun _ _ _ h => h) (Or.inl ⟨by rfl, ?_⟩) ?_ ?_;rotate_left
     ·intro w';go_simp;with_reducible rfl
     rotate_left;·simp only [Act.put, sA_];rfl
     refine pure_ (i := 1) (N := some 19) (v := ?_) (a' := ?_) #[Y,Y,G,G,G,G,G,G,G,G,G,G,G,G,G,G,G] rfl rfl (by kernel_rfl) (fun _ _ _ h => h) (Or.inl ⟨by rfl, ?_⟩) ?_ ?_;rotate_left
     ·intro w';go_simp;with_reducible rfl
     rotate_left;·simp only [Act.put, sA_];rfl
     refine pure_ (i := 2) (N := some 20) (v := ?_) (a' := ?_) #[Y,Y,Y,G,G,G,G,G,G,G,G,G,G,G,G,G,G] rfl rfl (by kernel_rfl) (fun _ _ _ h => h) (Or.inl ⟨by rfl, ?_⟩) ?_ ?_;rotate_left
     ·intro w';go_simp;with_reducible rfl
     rotate_left;·simp only [Act.put, sA_];rfl
     refine pure_ (i := 3) (N := some 21) (v := ?_) (a' := ?_) #[Y,Y,Y,Y,G,G,G,G,G,G,G,G,G,G,G,G,G] rfl rfl (by kernel_rfl) (fun _ _ _ h => h) (Or.inl ⟨by rfl, ?_⟩) ?_ ?_;rotate_left
     ·intro w';go_simp;with_reducible rfl
     rotate_left;·simp only [Act.put, sA_];rfl
     refine pure_ (i := 4) (N := some 22) (v := undef) (a' := ?_) #[Y,Y,Y,Y,Y,G,G,G,G,G,G,G,G,G,G,G,G] rfl rfl (by kernel_rfl) (fun _ _ _ h => h) (Or.inr ⟨by rfl, rfl⟩) ?_ ?_;rotate_left
     ·simp only [Act.put, sA_];rfl
     refine pure_ (i := 5) (N := some 23) (v := undef) (a' := ?_) #[Y,Y,Y,Y,Y,Y,G,G,G,G,G,G,G,G,G,G,G] rfl rfl (by kernel_rfl) (fun _ _ _ h => h) (Or.inr ⟨by rfl, rfl⟩) ?_ ?_;rotate_left
     ·simp only [Act.put, sA_];rfl
     refine pure_ (i := 6) (N := some 24) (v := undef) (a' := ?_) #[Y,Y,Y,Y,Y,Y,Y,G,G,G,G,G,G,G,G,G,G] rfl rfl (by kernel_rfl) (fun _ _ _ h => h) (Or.inr ⟨by rfl, rfl⟩) ?_ ?_;rotate_left
     ·simp only [Act.put, sA_];rfl
     refine pure_ (i := 7) (N := some 25) (v := undef) (a' := ?_) #[Y,Y,Y,Y,Y,Y,Y,Y,G,G,G,G,G,G,G,G,G] rfl rfl (by kernel_rfl) (fun _ _ _ h => h) (Or.inr ⟨by rfl, rfl⟩) ?_ ?_;rotate_left
     ·simp only [Act.put, sA_];rfl
     refine pure_ (i := 8) (N := some 26) (v := undef) (a' := ?_) #[Y,Y,Y,Y,Y,Y,Y,Y,Y,G,G,G,G,G,G,G,G] rfl rfl (by kernel_rfl) (fun _ _ _ h => h) (Or.inr ⟨by rfl, rfl⟩) ?_ ?_;rotate_left
     ·simp only [Act.put, sA_];rfl
     refine pure_ (i := 9) (N := some 27) (v := undef) (a' := ?_) #[Y,Y,Y,Y,Y,Y,Y,Y,Y,Y,G,G,G,G,G,G,G] rfl rfl (by kernel_rfl) (fun _ _ _ h => h) (Or.inr ⟨by rfl, rfl⟩) ?_ ?_;rotate_left
     ·simp only [Act.put, sA_];rfl
     refine pure_ (i := 10) (N := some 28) (v := undef) (a' := ?_) #[Y,Y,Y,Y,Y,Y,Y,Y,Y,Y,Y,G,G,G,G,G,G] rfl rfl (by kernel_rfl) (fun _ _ _ h => h) (Or.inr ⟨by rfl, rfl⟩) ?_ ?_;rotate_left
     ·simp only [Act.put, sA_];rfl
     refine pure_ (i := 11) (N := some 29) (v := undef) (a' := ?_) #[Y,Y,Y,Y,Y,Y,Y,Y,Y,Y,Y,Y,G,G,G,G,G] rfl rfl (by kernel_rfl) (fun _ _ _ h => h) (Or.inr ⟨by rfl, rfl⟩) ?_ ?_;rotate_left
     ·simp only [Act.put, sA_];rfl
     refine pure_ (i := 12) (N := some 30) (v := undef) (a' := ?_) #[Y,Y,Y,Y,Y,Y,Y,Y,Y,Y,Y,Y,Y,G,G,G,G] rfl rfl (by kernel_rfl) (fun _ _ _ h => h) (Or.inr ⟨by rfl, rfl⟩) ?_ ?_;rotate_left
     ·simp only [Act.put, sA_];rfl
     refine pure_ (i := 13) (N := some 31) (v := undef) (a' := ?_) #[Y,Y,Y,Y,Y,Y,Y,Y,Y,Y,Y,Y,Y,Y,G,G,G] rfl rfl (by kernel_rfl) (fun _ _ _ h => h) (Or.inr ⟨by rfl, rfl⟩) ?_ ?_;rotate_left
     ·simp only [Act.put, sA_];rfl
     refine pure_ (i := 14) (N := some 32) (v := undef) (a' := ?_) #[Y,Y,Y,Y,Y,Y,Y,Y,Y,Y,Y,Y,Y,Y,Y,G,G] rfl rfl (by kernel_rfl) (fun _ _ _ h => h) (Or.inr ⟨by rfl, rfl⟩) ?_ ?_;rotate_left
     ·simp only [Act.put, sA_];rfl
     refine pure_ (i := 15) (N := some 33) (v := undef) (a' := ?_) #[Y,Y,Y,Y,Y,Y,Y,Y,Y,Y,Y,Y,Y,Y,Y,Y,G] rfl rfl (by kernel_rfl) (fun _ _ _ h => h) (Or.inr ⟨by rfl, rfl⟩) ?_ ?_;rotate_left
     ·simp only [Act.put, sA_];rfl
     refine pure_ (i := 16) (N := some 34) (v := ?_) (a' := ?_) #[Y,Y,Y,Y,Y,Y,Y,Y,Y,Y,Y,Y,Y,Y,Y,Y,Y] rfl rfl (by kernel_rfl) (fun _ _ _ h => h) (Or.inl ⟨by rfl, ?_⟩) ?_ ?_;rotate_left
     ·intro w';go_simp;with_reducible rfl
     rotate_left;·simp only [Act.put, sA_];rfl
     refine done_ (by kernel_rfl) ?_

     go_wp2
     exact ⟨Or.inr ⟨rfl, by rw [insL, if_pos hab]; exact ho, hs⟩, by simp [intOf]⟩
  ·obtain ⟨rfl, ho, hs⟩ := h1
   go_wp2
   go_end0
   exact ⟨rfl, ho, hs⟩
set_option maxRecDepth 100000 in
set_option maxHeartbeats 4000000 in
theorem ins_small (W : World) (A : Option Addr) (n c : Nat) (hn : n ≤ 1) : Calls Tryd.prog 139 #[.slice A n c, .int .i64 0, .int .i64 n, .func (.func 65) #[] #[]] W fun e W' => e = .returned (.tuple #[]) ∧ W' = W := by
 have d1 : decide ((1 : Int) < (n : Int)) = false := decide_eq_false (by omega)
 go_enter Tryd.func139, Tryd.ntmps139
 go_wp2
 go_loopw [8] (fun t8 wr => t8 = .int .i64 1 ∧ wr = W) (fun t8 _ => 2 - (intOf t8).toNat)
 case atStart => exact ⟨rfl, rfl⟩
 case round =>
  obtain ⟨rfl, rfl⟩ := hrel
  go_wp2
  go_end0
  exact ⟨rfl, rfl⟩
set_option maxRecDepth 100000 in
set_option maxHeartbeats 4000000 in
theorem stable_of (W : World) (A : Option Addr) (n c : Nat) (hn : n ≤ 2) (R : World → Prop) (hI : Calls Tryd.prog 139 #[.slice A n c, .int .i64 0, .int .i64 n, .func (.func 65) #[] #[]] W fun e W' => e = .returned (.tuple #[]) ∧ R W') :
  Calls Tryd.prog 110 #[.slice A n c, .int .i64 n, .func (.func 65) #[] #[]] W fun e W' => e = .returned (.tuple #[]) ∧ R W' := by
 have d1 : decide ((20 : Int) ≤ (n : Int)) = false := decide_eq_false (by omega)
 have d2 : decide ((20 : Int) < (n : Int)) = false := decide_eq_false (by omega)
 go_enter Tryd.func110, Tryd.ntmps110
 go_wp2
 go_loopw [7, 8] (fun t7 t8 wr => t7 = .int .i64 0 ∧ t8 = .int .i64 20 ∧ wr = W) (fun _ t8 _ => 0)
 case atStart => exact ⟨rfl, rfl, rfl⟩
 case round =>
  obtain ⟨rfl, rfl, rfl⟩ := hrel
  go_wp2_with (go_at_call 139; refine hI.mono ?_)
  rintro e w1 ⟨rfl, hR⟩
  go_wp2
  go_loopw [6] (fun t6 wr => t6 = .int .i64 20 ∧ R wr) (fun t6 _ => 0)
  case atStart => exact ⟨rfl, hR⟩
  case round =>
   obtain ⟨rfl, hR⟩ := hrel
   go_wp2
   go_end0
   exact ⟨rfl, hR⟩
set_option maxRecDepth 100000 in
set_option maxHeartbeats 4000000 in
theorem sort_of (W : World) (A : Option Addr) (n c : Nat) (hn : n ≤ 2) (R : World → Prop) (hI : Calls Tryd.prog 139 #[.slice A n c, .int .i64 0, .int .i64 n, .func (.func 65) #[] #[]] W fun e W' => e = .returned (.tuple #[]) ∧ R W') :
  Calls Tryd.prog 64 #[.slice A n c, .func (.func 65) #[] #[]] W fun e W' => e = .returned (.tuple #[]) ∧ R W' := by
 have hS := stable_of W A n c hn R hI
 go_enter Tryd.func64, Tryd.ntmps64
 go_wp2_with (go_at_call 110; refine hS.mono ?_)
 rintro e w1 ⟨rfl, hR⟩
 go_wp2
 go_end0
 exact ⟨rfl, hR⟩
set_option maxRecDepth 100000 in
set_option maxHeartbeats 4000000 in
theorem sort_any (xs : List ByteArray) (F : FL) (B : BL) (off : Bool) (W : World) (base : Nat) (v : Value) (ys : List Nat) (hn : ys.length ≤ 2) (ho : W.ownsRow base 48 10 v ys.length (ys.flatMap (slotC xs F B off))) :
  Calls Tryd.prog 64 #[v, .func (.func 65) #[] #[]] W fun e W' => e = .returned (.tuple #[]) ∧ W'.ownsRow base 48 10 v ys.length ((srtS xs F B off ys).flatMap (slotC xs F B off)) ∧ Step (fun k => v.ownBlock = some k) W W' := by
 rcases ys with _ | ⟨x, _ | ⟨y, _ | ⟨z, l⟩⟩⟩
 case nil =>
  obtain ⟨A, n, c, rfl, hn0⟩ : ∃ A n c, v = .slice A n c ∧ n = 0 := by
   rcases ho.2 with ⟨rfl, _⟩ | ⟨g, cap, cur, rfl, _⟩
   ·exact ⟨_, _, _, rfl, rfl⟩
   ·exact ⟨_, _, _, rfl, rfl⟩
  subst hn0
  refine (sort_of W A 0 c (by omega) (fun w' => w' = W) (ins_small W A 0 c (by omega))).mono ?_
  rintro e w' ⟨rfl, rfl⟩
  exact ⟨rfl, ho, Step.refl _ _⟩
 case cons.nil =>
  obtain ⟨A, n, c, rfl, hn1⟩ : ∃ A n c, v = .slice A n c ∧ n = 1 := by
   rcases ho.2 with ⟨_, h0⟩ | ⟨g, cap, cur, rfl, _⟩
   ·exact absurd h0 (by simp)
   ·exact ⟨_, _, _, rfl, rfl⟩
  subst hn1
  refine (sort_of W A 1 c (by omega) (fun w' => w' = W) (ins_small W A 1 c (by omega))).mono ?_
  rintro e w' ⟨rfl, rfl⟩
  exact ⟨rfl, ho, Step.refl _ _⟩
 case cons.cons.nil =>
  have hi : W.ownsRow base 48 10 v 2 (slotC xs F B off x ++ (slotC xs F B off y ++ [])) := ho
  clear ho
  have ho := hi
  unfold slotC at ho
  obtain ⟨g, cap, rfl, _⟩ := ownsRow_form ho (by decide)
  have hI := ins_two W base g cap (x : Int) (wrap64 (vP (rdT xs F B off x) 0)) (wrap64 (vP (rdT xs F B off x) 1)) (wrap64 (vP (rdT xs F B off x) 2)) (wrap64 (vP (rdT xs F B off x) 3)) (wrap64 (vP (rdT xs F B off x) 5)) (wrap64 (vP (rdT xs F B off x) 6)) (pP (rdT xs F B off x) 0) (pP (rdT xs F B off x) 1) (pP (rdT xs F B off x) 2) (y : Int) (wrap64 (vP (rdT xs F B off y) 0)) (wrap64 (vP (rdT xs F B off y) 1)) (wrap64 (vP (rdT xs F B off y) 2)) (wrap64 (vP (rdT xs F B off y) 3)) (wrap64 (vP (rdT xs F B off y) 5)) (wrap64 (vP (rdT xs F B off y) 6)) (pP (rdT xs F B off y) 0) (pP (rdT xs F B off y) 1) (pP (rdT xs F B off y) 2) ho
  refine (sort_of W (some ⟨g, 0, none⟩) 2 cap (by omega) _ hI).mono ?_
  rintro e w' ⟨rfl, hO, hs⟩
  refine ⟨rfl, ?_, hs.mono (fun k hk => by rw [hk]; rfl)⟩
  by_cases hg : genS xs F B off x < genS xs F B off y
  ·have e : srtS xs F B off [x, y] = [y, x] := if_pos hg
   rw [e]
   rw [insL, if_pos (show wrap64 (vP (rdT xs F B off x) 0) < wrap64 (vP (rdT xs F B off y) 0) from hg)] at hO
   exact hO
  ·have e : srtS xs F B off [x, y] = [x, y] := if_neg hg
   rw [e]
   rw [insL, if_neg (show ¬ wrap64 (vP (rdT xs F B off x) 0) < wrap64 (vP (rdT xs F B off y) 0) from hg)] at hO
   exact hO
 case cons.cons.cons => simp at hn
theorem super_Find_ok (w : World) (hT : TabAt w) (i : DevIds) (xs : List ByteArray) (F : FL) (B : BL) (fuse nw : Int) (hD : DevAt w i xs F B false fuse nw) :
  Calls Tryd.prog 19 #[.pointer (some ⟨i.d, 0, none⟩)] w fun e w' => ∃ v, e = .returned (.tuple #[v, .int .i64 0]) ∧ w'.ownsRow w.heap.size 48 10 v (fndS xs F B false).length ((srtS xs F B false (fndS xs F B false)).flatMap (slotC xs F B false)) ∧ Step (fun _ => False) w w' :=
 super_Find_any w hT i xs F B fuse nw hD (fun W base v ys hn ho _ => sort_any xs F B false W base v ys hn ho)
end
end Go.Proofs.YtmmfplogkikbjaaDoor.HSF
