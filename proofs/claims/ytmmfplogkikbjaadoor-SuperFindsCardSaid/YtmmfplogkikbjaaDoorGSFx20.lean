/- a text of this claim -/
import Derived.Test.YtmmfplogkikbjaaDoorGSFx0
import Derived.Test.YtmmfplogkikbjaaDoorGSFx8
import Derived.Test.YtmmfplogkikbjaaDoorGSFx11
import Derived.Test.YtmmfplogkikbjaaDoorGSFx12
import Derived.Test.YtmmfplogkikbjaaDoorGSFx15
import Derived.Test.YtmmfplogkikbjaaDoorGSFx16
import Derived.Test.YtmmfplogkikbjaaDoorGSFx17
import Derived.Test.YtmmfplogkikbjaaDoorGSFx18
import Derived.Test.YtmmfplogkikbjaaDoorGSFx19
namespace Go.Proofs.YtmmfplogkikbjaaDoor.HSF
open Go.RowKit Go.Proofs.YtmmfplogkikbjaaDoorW.PrintWords Go.Proofs.YtmmfplogkikbjaaDoorW.PrintLast Go.Proofs.YtmmfplogkikbjaaDoorW.PrintMore
attribute [local go_sem] max2_int min2_int max_two min_two max_three min_three max_four min_four
set_option linter.unusedVariables false
set_option linter.unusedSimpArgs false
section
open Go Go.Shelf Go.Maps Go.Proofs.YtmmfplogkikbjaaDoor.Seq Go.Proofs.YtmmfplogkikbjaaDoor.MapL Go.Proofs.YtmmfplogkikbjaaDoorW.PrintLast
attribute [local go_sem] Oper.semAt_some max2_int min2_int max_two min_two
set_option maxRecDepth 100000 in
set_option maxHeartbeats 4000000 in
theorem dev_Garble_no (w : World) (i : DevIds) (xs : List ByteArray) (F : FL) (B : BL) (off : Bool) (fuse nw : Int) (at_ o b : Int) (h : DevAt w i xs F B off fuse nw) (hn : ¬ ((0 ≤ at_ ∧ at_ < xs.length) ∧ 0 ≤ o ∧ o ≤ 508)) :
  Calls Tryd.prog 91 #[.pointer (some ⟨i.d, 0, none⟩), .int .i64 at_, .int .i64 o, .int .u32 b] w fun e w' => e = .returned (.int .i64 1) ∧ w' = w := by
 have hH := dev_has_any w i xs F B off fuse nw at_ h
 go_enter Tryd.func91, Tryd.ntmps91
 go_wp2_with (go_at_call 67; refine hH.mono ?_)
 rintro e w1 ⟨rfl, rfl⟩
 by_cases hh : 0 ≤ at_ ∧ at_ < (xs.length : Int)
 ·have d1 : decide (0 ≤ at_ ∧ at_ < (xs.length : Int)) = true := decide_eq_true hh
  by_cases h0 : o < 0
  ·have d2 : decide (o < 0) = true := decide_eq_true h0
   rw [d1]
   go_wp2
   go_ret
   exact ⟨rfl, rfl⟩
  ·have h5 : 508 < o := by omega
   have d2 : decide (o < 0) = false := decide_eq_false h0
   have d3 : decide (508 < o) = true := decide_eq_true h5
   rw [d1]
   go_wp2
   go_ret
   exact ⟨rfl, rfl⟩
 ·have d1 : decide (0 ≤ at_ ∧ at_ < (xs.length : Int)) = false := decide_eq_false hh
  rw [d1]
  go_wp2
  go_ret
  exact ⟨rfl, rfl⟩
theorem flushP_len {xs : List ByteArray} {F : FL} {B : BL} {off : Bool} {left : Int} {xs3 : List ByteArray} {F3 : FL} {B3 : BL} {o3 : Bool} {l3 why : Int} (hq : flushP xs F B off left = (xs3, F3, B3, o3, l3, why)) : xs3.length = xs.length := by
 unfold flushP at hq
 split at hq
 ·simp only [Prod.mk.injEq] at hq; rw [← hq.1]
 ·split at hq
  ·simp only [Prod.mk.injEq] at hq; rw [← hq.1]
  ·simp only [Prod.mk.injEq] at hq; rw [← hq.1, landXs_len]
theorem ref_FlushR {xs : List ByteArray} {F : FL} {B : BL} {off : Bool} {left nw : Int} {xs3 : List ByteArray} {F3 : FL} {B3 : BL} {o3 : Bool} {l3 why : Int} (hq : flushP xs F B off left = (xs3, F3, B3, o3, l3, why)) (hl : xs3.length = xs.length) (w : World) (v : Value) (h : RefAt w v xs F B) (hok : DevOk xs F B left) :
  Calls Tryd.prog 92 #[.agg #[v, .bool off, .int .i64 left, .int .i64 nw]] w fun e w' => ∃ A3 c3, e = .returned (.tuple #[.agg #[.slice A3 xs.length c3, .bool o3, .int .i64 l3, .int .i64 nw], .int .i64 why]) ∧ RefAt w' (.slice A3 xs.length c3) xs3 F3 B3 ∧ Below w.heap.size w w' := by
 refine (ref_Flush w v xs F B off left nw h hok).mono ?_
 rintro e w' ⟨v', x1, x2, x3, x4, x5, x6, hq', rfl, hR, hb⟩
 rw [hq] at hq'
 simp only [Prod.mk.injEq] at hq'
 obtain ⟨rfl, rfl, rfl, rfl, rfl, rfl⟩ := hq'
 obtain ⟨A, c, rfl, _⟩ := hR.reads
 rw [hl] at hR ⊢
 exact ⟨A, c, rfl, hR, hb⟩
theorem dev_FlushR {xs : List ByteArray} {F : FL} {B : BL} {off : Bool} {fuse nw : Int} {xs3 : List ByteArray} {F3 : FL} {B3 : BL} {o3 : Bool} {l3 why : Int} (hq : flushP xs F B off fuse = (xs3, F3, B3, o3, l3, why)) (w : World) (i : DevIds) (h : DevAt w i xs F B off fuse nw) :
  Calls Tryd.prog 18 #[.pointer (some ⟨i.d, 0, none⟩)] w fun e w' => e = .returned (.int .i64 why) ∧ DevAt w' i xs3 F3 B3 o3 l3 nw ∧ Step i.In w w' := by
 refine (dev_Flush_any w i xs F B off fuse nw h).mono ?_
 rintro e w' ⟨x1, x2, x3, x4, x5, x6, hq', rfl, hD, hs⟩
 rw [hq] at hq'
 simp only [Prod.mk.injEq] at hq'
 obtain ⟨rfl, rfl, rfl, rfl, rfl, rfl⟩ := hq'
 exact ⟨rfl, hD, hs⟩
theorem ref_EraseR {xs : List ByteArray} {F : FL} {B : BL} {off : Bool} {left nw at_ : Int} (w : World) (v : Value) (h : RefAt w v xs F B) (hok : DevOk xs F B left) :
  Calls Tryd.prog 89 #[.agg #[v, .bool off, .int .i64 left, .int .i64 nw], .int .i64 at_] w fun e w' => ∃ A3 c3, e = .returned (.tuple #[.agg #[.slice A3 xs.length c3, .bool off, .int .i64 left, .int .i64 nw], .int .i64 (eraseP xs.length B at_).2]) ∧ RefAt w' (.slice A3 xs.length c3) xs F (eraseP xs.length B at_).1 ∧ Below w.heap.size w w' := by
 refine (ref_Erase w v xs F B off left nw at_ h hok).mono ?_
 rintro e w' ⟨v', rfl, hR, hb⟩
 obtain ⟨A, c, rfl, _⟩ := hR.reads
 exact ⟨A, c, rfl, hR, hb⟩
def garbP (xs : List ByteArray) (at_ o b : Int) : List ByteArray × Int := if (0 ≤ at_ ∧ at_ < xs.length) ∧ 0 ≤ o ∧ o ≤ 508 then (xs.set at_.toNat (strOfNums (grb (bytesOf (xs.getD at_.toNat ⟨#[]⟩)) o.toNat b 4)), 0) else (xs, 1)
theorem garbP_len {xs : List ByteArray} {at_ o b : Int} {xs3 : List ByteArray} {why : Int} (hq : garbP xs at_ o b = (xs3, why)) : xs3.length = xs.length := by
 unfold garbP at hq
 split at hq
 ·simp only [Prod.mk.injEq] at hq; rw [← hq.1, List.length_set]
 ·simp only [Prod.mk.injEq] at hq; rw [← hq.1]
theorem ref_GarbleR {xs : List ByteArray} {F : FL} {B : BL} {off : Bool} {left nw at_ o b : Int} {xs3 : List ByteArray} {why : Int} (hq : garbP xs at_ o b = (xs3, why)) (hb0 : 0 ≤ b) (hb1 : b < 4294967296) (w : World) (v : Value) (h : RefAt w v xs F B) (hok : DevOk xs F B left) :
  Calls Tryd.prog 90 #[.agg #[v, .bool off, .int .i64 left, .int .i64 nw], .int .i64 at_, .int .i64 o, .int .u32 b] w fun e w' => ∃ A3 c3, e = .returned (.tuple #[.agg #[.slice A3 xs.length c3, .bool off, .int .i64 left, .int .i64 nw], .int .i64 why]) ∧ RefAt w' (.slice A3 xs.length c3) xs3 F B ∧ Below w.heap.size w w' := by
 have hl := garbP_len hq
 by_cases hc : (0 ≤ at_ ∧ at_ < xs.length) ∧ 0 ≤ o ∧ o ≤ 508
 ·refine (ref_Garble w v xs F B off left nw at_ o b h hok hc.1.1 hc.1.2 hc.2.1 hc.2.2 hb0 hb1).mono ?_
  unfold garbP at hq
  rw [if_pos hc] at hq
  simp only [Prod.mk.injEq] at hq
  obtain ⟨rfl, rfl⟩ := hq
  rintro e w' ⟨v', rfl, hR, hb⟩
  obtain ⟨A, c, rfl, _⟩ := hR.reads
  rw [hl] at hR ⊢
  exact ⟨A, c, rfl, hR, hb⟩
 ·refine (ref_Garble_no w v xs F B off left nw at_ o b h hc).mono ?_
  unfold garbP at hq
  rw [if_neg hc] at hq
  simp only [Prod.mk.injEq] at hq
  obtain ⟨rfl, rfl⟩ := hq
  rintro e w' ⟨v', rfl, hR, hb⟩
  obtain ⟨A, c, rfl, _⟩ := hR.reads
  exact ⟨A, c, rfl, hR, hb⟩
theorem dev_GarbleR {xs : List ByteArray} {F : FL} {B : BL} {off : Bool} {fuse nw at_ o b : Int} {xs3 : List ByteArray} {why : Int} (hq : garbP xs at_ o b = (xs3, why)) (hb0 : 0 ≤ b) (hb1 : b < 4294967296) (w : World) (i : DevIds) (h : DevAt w i xs F B off fuse nw) :
  Calls Tryd.prog 91 #[.pointer (some ⟨i.d, 0, none⟩), .int .i64 at_, .int .i64 o, .int .u32 b] w fun e w' => e = .returned (.int .i64 why) ∧ DevAt w' i xs3 F B off fuse nw ∧ Step i.In w w' := by
 by_cases hc : (0 ≤ at_ ∧ at_ < xs.length) ∧ 0 ≤ o ∧ o ≤ 508
 ·unfold garbP at hq
  rw [if_pos hc] at hq
  simp only [Prod.mk.injEq] at hq
  obtain ⟨rfl, rfl⟩ := hq
  exact dev_Garble_any w i xs F B off fuse nw at_ o b h hc.1.1 hc.1.2 hc.2.1 hc.2.2 hb0 hb1
 ·unfold garbP at hq
  rw [if_neg hc] at hq
  simp only [Prod.mk.injEq] at hq
  obtain ⟨rfl, rfl⟩ := hq
  refine (dev_Garble_no w i xs F B off fuse nw at_ o b h hc).mono ?_
  rintro e w' ⟨rfl, rfl⟩
  exact ⟨rfl, h, Step.refl _ _⟩
theorem ref_dev {w : World} {i : DevIds} {v : Value} {xs xs2 : List ByteArray} {F F2 : FL} {B B2 : BL} {off : Bool} {fuse nw : Int} (hR : RefAt w v xs2 F2 B2) (hD : DevAt w i xs F B off fuse nw) : ∀ g, v.ownBlock = some g → ¬ i.In g := by
 obtain ⟨hd, hr, hf, hb, _⟩ := hD
 obtain ⟨e1, c1, m1⟩ := map_block hf
 obtain ⟨e2, c2, m2⟩ := map_block hb
 obtain ⟨cur, r⟩ := row_block hr
 rintro g hg (rfl | rfl | rfl | rfl)
 ·exact hR.ne hd (by decide) hg
 ·exact hR.ne r (by decide) hg
 ·exact own103_ne hR m1 (fun cur e => by cases e) hg
 ·exact own103_ne hR m2 (fun cur e => by cases e) hg
theorem DevAt.below {w w' : World} {i : DevIds} {xs : List ByteArray} {F : FL} {B : BL} {off : Bool} {fuse nw : Int} (h : DevAt w i xs F B off fuse nw) (hb : Below w.heap.size w w') : DevAt w' i xs F B off fuse nw := h.step (Step.of_below (S := fun _ => False) hb) (fun _ _ h => h)
def HurtsR (w : World) (i : DevIds) (nw : Int) (e : Ending) (w' : World) : Prop := ∃ (A3 : Option Addr) (c3 : Nat) (xs3 : List ByteArray) (F3 : FL) (B3 : BL) (o3 : Bool) (l3 : Int), e = .returned (.tuple #[.agg #[.slice A3 xs3.length c3, .bool o3, .int .i64 l3, .int .i64 nw], .bool true]) ∧ DevAt w' i xs3 F3 B3 o3 l3 nw ∧ RefAt w' (.slice A3 xs3.length c3) xs3 F3 B3 ∧ Step i.In w w'
set_option maxRecDepth 100000 in
set_option maxHeartbeats 16000000 in
theorem hurts_any (w : World) (i : DevIds) (A : Option Addr) (c : Nat) (xs : List ByteArray) (F : FL) (B : BL) (off : Bool) (fuse nw : Int) (hD : DevAt w i xs F B off fuse nw) (hR : RefAt w (.slice A xs.length c) xs F B) (Al : Option Addr) (cl : Nat) (l : List S149) (hll : l.length ≤ 20) (hcl : l.length ≤ cl) (hwf : ∀ z ∈ l, wf149 z) (hC : ∀ w', Step i.In w w' → Kd.C k149 w' Al l.length l) :
  Calls Tryd.prog 34 #[.pointer (some ⟨i.d, 0, none⟩), .agg #[.slice A xs.length c, .bool off, .int .i64 fuse, .int .i64 nw], .slice Al l.length cl] w fun e w' => HurtsR w i nw e w' := by
 have hu71 := Tryd.underlying71
 have hu149 := Tryd.underlying149
 have hlt := hD.lt
 have hb0 := below2 w (.cells #[.slice A xs.length c, .bool off, .int .i64 fuse, .int .i64 nw] 71) (.cells #[.slice none 0 0, .bool false, .int .i64 0, .int .i64 0] 71)
 have p0 := new1of2 w (.cells #[.slice A xs.length c, .bool off, .int .i64 fuse, .int .i64 nw] 71) (.cells #[.slice none 0 0, .bool false, .int .i64 0, .int .i64 0] 71)
 have p1 := new2 w (.cells #[.slice A xs.length c, .bool off, .int .i64 fuse, .int .i64 nw] 71) (.cells #[.slice none 0 0, .bool false, .int .i64 0, .int .i64 0] 71)
 have hz0 : w.heap.size + 2 ≤ ((w.alloc (.cells #[.slice A xs.length c, .bool off, .int .i64 fuse, .int .i64 nw] 71)).alloc (.cells #[.slice none 0 0, .bool false, .int .i64 0, .int .i64 0] 71)).heap.size := by simp
 go_enter Tryd.func34, Tryd.ntmps34
 go_upto_region 1 with (fail)
 generalize (w.alloc (.cells #[.slice A xs.length c, .bool off, .int .i64 fuse, .int .i64 nw] 71)).alloc (.cells #[.slice none 0 0, .bool false, .int .i64 0, .int .i64 0] 71) = W0 at hb0 p0 p1 hz0 ⊢
 have hD0 := hD.below hb0
 have hR0 := hR.below hb0
 have hs0 : Step i.In w W0 := Step.of_below hb0
 clear hD hR hb0
 go_wp2
 go_loopw [18] (fun t18 wr => ∃ (j : Nat) (A : Option Addr) (c : Nat) (xs : List ByteArray) (F : FL) (B : BL) (off : Bool) (fuse : Int), j ≤ l.length ∧ t18 = .int .i64 j ∧ wr.heap[w.heap.size]? = some (.cells #[.slice A xs.length c, .bool off, .int .i64 fuse, .int .i64 nw] 71 (0, 0)) ∧ wr.heap[w.heap.size + 1]? = some (.cells #[.slice none 0 0, .bool false, .int .i64 0, .int .i64 0] 71 (0, 0)) ∧ DevAt wr i xs F B off fuse nw ∧ RefAt wr (.slice A xs.length c) xs F B ∧ Step i.In w wr ∧ w.heap.size + 2 ≤ wr.heap.size) (fun t18 _ => l.length - (intOf t18).toNat)
 case atStart => exact ⟨0, A, c, xs, F, B, off, fuse, Nat.zero_le _, rfl, p0, p1, hD0, hR0, hs0, hz0⟩
 case round =>
  clear p0 p1 hD0 hR0 hs0 hz0
  obtain ⟨j, A, c, xs, F, B, off, fuse, hj, rfl, s0, s1, hD, hRf, hs, hsz⟩ := hrel
  by_cases hjl : j < l.length
  ·have hjI : (j : Int) < (l.length : Int) := by omega
   have hj0 : (0 : Int) ≤ (j : Int) := by omega
   obtain ⟨adL, rfl, u0, u1, u2, u3⟩ := at_T149 (hC wr hs) (j : Int) (by omega) hjI
   simp only [Int.toNat_natCast] at u0 u1 u2 u3
   have hXm : wf149 (rd_T149 l (j : Int)) := by
    rw [rd_T149, Int.toNat_natCast, List.getD_eq_getElem?_getD, List.getElem?_eq_getElem hjl, Option.getD_some]
    exact hwf _ (List.getElem_mem hjl)
   obtain ⟨_, _, hw2, hw3⟩ := hXm
   generalize rd_T149 l (j : Int) = X at u0 u1 u2 u3 hw2 hw3
   have hbX := bounds_u32 hw3
   have hb3 : Below wr.heap.size wr (wr.alloc (.cells #[.int .i64 X.f0, .int .i64 X.f1, .int .i64 X.f2, .int .u32 X.f3] 149)) := (Below.refl _ _).alloc (Nat.le_refl _) _
   have zX := World.alloc_heap_new wr (.cells #[.int .i64 X.f0, .int .i64 X.f1, .int .i64 X.f2, .int .u32 X.f3] 149)
   have hgx : w.heap.size + 2 ≤ wr.heap.size := hsz
   replace s0 := Stepb hb3 s0
   replace s1 := Stepb hb3 s1
   replace hs := hs.trans (Step.of_below (S := i.In) hb3) (fun _ h => h) (fun _ h => Or.inl h)
   replace hsz := Nat.le_trans hsz hb3.size
   replace hD := hD.below hb3
   replace hRf := hRf.below hb3
   clear hb3
   have hok := hD.ok
   go_upto_region 4 with (fail)
   generalize wr.heap.size = gx at zX hgx ⊢
   generalize wr.alloc (.cells #[.int .i64 X.f0, .int .i64 X.f1, .int .i64 X.f2, .int .u32 X.f3] 149) = wa at zX s0 s1 hs hsz hD hRf ⊢
   clear u0 u1 u2 u3
   by_cases e0 : X.f0 = 0
   ·have d0 : (X.f0 == 0) = true := by simpa using e0
    clear e0
    have hRef : ∀ W, RefAt W (.slice A xs.length c) xs F B → Calls Tryd.prog 89 #[.agg #[.slice A xs.length c, .bool off, .int .i64 fuse, .int .i64 nw], .int .i64 X.f1] W fun e w' => ∃ A3 c3, e = .returned (.tuple #[.agg #[.slice A3 xs.length c3, .bool off, .int .i64 fuse, .int .i64 nw], .int .i64 (eraseP xs.length B X.f1).2]) ∧ RefAt w' (.slice A3 xs.length c3) xs F (eraseP xs.length B X.f1).1 ∧ Below W.heap.size W w' := fun W hW => ref_EraseR W _ hW hok
    have hDev : ∀ W, DevAt W i xs F B off fuse nw → Calls Tryd.prog 20 #[.pointer (some ⟨i.d, 0, none⟩), .int .i64 X.f1] W fun e w' => e = .returned (.int .i64 (eraseP xs.length B X.f1).2) ∧ DevAt w' i xs F (eraseP xs.length B X.f1).1 off fuse nw ∧ Step i.In W w' := fun W hW => dev_Erase_any W i xs F B off fuse nw X.f1 hW
    generalize eraseP xs.length B X.f1 = qq at hRef hDev
    obtain ⟨B3, why⟩ := qq
    dsimp only at hRef hDev
    obtain ⟨⟨a0, a1, a2, a3⟩, g0, g1, g2, g3⟩ := blk4 s0
    obtain ⟨⟨z0, z1, z2, z3⟩, _⟩ := blk4 zX
    go_wp2_with (go_at_call 89; with_reducible refine (hRef _ hRf).mono ?_)
    rintro e w3 ⟨A3, c3, rfl, hR3, hb3⟩
    replace s0 := Stepb hb3 s0
    replace s1 := Stepb hb3 s1
    replace zX := Stepb hb3 zX
    replace hs := hs.trans (Step.of_below (S := i.In) hb3) (fun _ h => h) (fun _ h => Or.inl h)
    replace hsz := Nat.le_trans hsz hb3.size
    replace hD := hD.below hb3
    clear hb3 hRef hRf
    have hb4 : Below w3.heap.size w3 (w3.alloc (.cells #[.slice A3 xs.length c3, .bool off, .int .i64 fuse, .int .i64 nw] 71)) := (Below.refl _ _).alloc (Nat.le_refl _) _
    have z4 := World.alloc_heap_new w3 (.cells #[.slice A3 xs.length c3, .bool off, .int .i64 fuse, .int .i64 nw] 71)
    replace s0 := Stepb hb4 s0
    replace s1 := Stepb hb4 s1
    replace zX := Stepb hb4 zX
    replace hs := hs.trans (Step.of_below (S := i.In) hb4) (fun _ h => h) (fun _ h => Or.inl h)
    replace hsz := Nat.le_trans hsz hb4.size
    replace hR3 := hR3.below hb4
    replace hD := hD.below hb4
    clear hb4
    clear a0 a1 a2 a3 g0 g1 g2 g3 z0 z1 z2 z3
    go_upto_region 9 with (fail)
    generalize w3.heap.size = gv at z4 ⊢
    generalize w3.alloc (.cells #[.slice A3 xs.length c3, .bool off, .int .i64 fuse, .int .i64 nw] 71) = w4 at z4 s0 s1 zX hs hsz hR3 hD ⊢
    obtain ⟨⟨a0, a1, a2, a3⟩, g0, g1, g2, g3⟩ := blk4 s0
    obtain ⟨⟨z0, z1, z2, z3⟩, _⟩ := blk4 zX
    obtain ⟨⟨y0, y1, y2, y3⟩, _⟩ := blk4 z4
    have hst := step_put4 w4 w.heap.size (.slice A3 xs.length c3) (.bool off) (.int .i64 fuse) (.int .i64 nw)
    have u0 := put4 s0 (.slice A3 xs.length c3) (.bool off) (.int .i64 fuse) (.int .i64 nw)
    have u1 := hst.block s1 (fun e => by omega)
    have vX := hst.block zX (fun e => by omega)
    have hRb := ref_put4 hR3 s0 (.slice A3 xs.length c3) (.bool off) (.int .i64 fuse) (.int .i64 nw)
    have hsb := hs.trans hst (fun _ h => h) (fun q hq => Or.inr (Nat.le_of_eq hq.symm))
    have hzb := Nat.le_trans hsz hst.size
    have hDb := hD.step hst (fun q hq e => by have := hlt q hq; omega)
    go_upto_region 10 with (fail)
    clear a0 a1 a2 a3 g0 g1 g2 g3 z0 z1 z2 z3 y0 y1 y2 y3 z4 s0 s1 zX hs hsz hR3 hD hst
    generalize ((((w4.setCell ⟨w.heap.size, 0, none⟩ (.slice A3 xs.length c3)).setCell ⟨w.heap.size, 1, none⟩ (.bool off)).setCell ⟨w.heap.size, 2, none⟩ (.int .i64 fuse)).setCell ⟨w.heap.size, 3, none⟩ (.int .i64 nw)) = w5 at u0 u1 vX hRb hsb hzb hDb ⊢
    obtain ⟨⟨z0, z1, z2, z3⟩, _⟩ := blk4 vX
    go_wp2_with (go_at_call 20; with_reducible refine (hDev _ hDb).mono ?_)
    rintro e w6 ⟨rfl, hD6, hs6⟩
    have q0 := hs6.block u0 (fun h => by have := hlt _ h; omega)
    have q1 := hs6.block u1 (fun h => by have := hlt _ h; omega)
    have hR6 := hRb.step hs6 (ref_dev hRb hDb)
    have hs7 := hsb.trans hs6 (fun _ h => h) (fun _ h => Or.inl h)
    have hz6 := Nat.le_trans hzb hs6.size
    clear z0 z1 z2 z3 u0 u1 vX hRb hsb hzb hDb hs6
    go_wp2
    exact ⟨⟨j + 1, A3, c3, xs, F, B3, off, fuse, by omega, by simp, q0, q1, hD6, hR6, hs7, hz6⟩, by simp [intOf]; omega⟩
   by_cases e1 : X.f0 = 1
   ·have d0 : (X.f0 == 0) = false := by simpa using e0
    have d1 : (X.f0 == 1) = true := by simpa using e1
    clear e0 e1
    obtain ⟨xs3, why, hq⟩ : ∃ xs3 why, garbP xs X.f1 X.f2 X.f3 = (xs3, why) := ⟨_, _, rfl⟩
    have hl3 : xs3.length = xs.length := garbP_len hq
    have hRef : ∀ W, RefAt W (.slice A xs.length c) xs F B → Calls Tryd.prog 90 #[.agg #[.slice A xs.length c, .bool off, .int .i64 fuse, .int .i64 nw], .int .i64 X.f1, .int .i64 X.f2, .int .u32 X.f3] W fun e w' => ∃ A3 c3, e = .returned (.tuple #[.agg #[.slice A3 xs.length c3, .bool off, .int .i64 fuse, .int .i64 nw], .int .i64 why]) ∧ RefAt w' (.slice A3 xs.length c3) xs3 F B ∧ Below W.heap.size W w' := fun W hW => ref_GarbleR hq hbX.1 (by omega) W _ hW hok
    have hDev : ∀ W, DevAt W i xs F B off fuse nw → Calls Tryd.prog 91 #[.pointer (some ⟨i.d, 0, none⟩), .int .i64 X.f1, .int .i64 X.f2, .int .u32 X.f3] W fun e w' => e = .returned (.int .i64 why) ∧ DevAt w' i xs3 F B off fuse nw ∧ Step i.In W w' := fun W hW => dev_GarbleR hq hbX.1 (by omega) W i hW
    clear hq
    obtain ⟨⟨a0, a1, a2, a3⟩, g0, g1, g2, g3⟩ := blk4 s0
    obtain ⟨⟨z0, z1, z2, z3⟩, _⟩ := blk4 zX
    go_wp2_with (go_at_call 90; with_reducible refine (hRef _ hRf).mono ?_)
    rintro e w3 ⟨A3, c3, rfl, hR3, hb3⟩
    replace s0 := Stepb hb3 s0
    replace s1 := Stepb hb3 s1
    replace zX := Stepb hb3 zX
    replace hs := hs.trans (Step.of_below (S := i.In) hb3) (fun _ h => h) (fun _ h => Or.inl h)
    replace hsz := Nat.le_trans hsz hb3.size
    replace hD := hD.below hb3
    clear hb3 hRef hRf
    have hb4 : Below w3.heap.size w3 (w3.alloc (.cells #[.slice A3 xs.length c3, .bool off, .int .i64 fuse, .int .i64 nw] 71)) := (Below.refl _ _).alloc (Nat.le_refl _) _
    have z4 := World.alloc_heap_new w3 (.cells #[.slice A3 xs.length c3, .bool off, .int .i64 fuse, .int .i64 nw] 71)
    replace s0 := Stepb hb4 s0
    replace s1 := Stepb hb4 s1
    replace zX := Stepb hb4 zX
    replace hs := hs.trans (Step.of_below (S := i.In) hb4) (fun _ h => h) (fun _ h => Or.inl h)
    replace hsz := Nat.le_trans hsz hb4.size
    replace hR3 := hR3.below hb4
    replace hD := hD.below hb4
    clear hb4
    clear a0 a1 a2 a3 g0 g1 g2 g3 z0 z1 z2 z3
    go_upto_region 14 with (fail)
    generalize w3.heap.size = gv at z4 ⊢
    generalize w3.alloc (.cells #[.slice A3 xs.length c3, .bool off, .int .i64 fuse, .int .i64 nw] 71) = w4 at z4 s0 s1 zX hs hsz hR3 hD ⊢
    obtain ⟨⟨a0, a1, a2, a3⟩, g0, g1, g2, g3⟩ := blk4 s0
    obtain ⟨⟨z0, z1, z2, z3⟩, _⟩ := blk4 zX
    obtain ⟨⟨y0, y1, y2, y3⟩, _⟩ := blk4 z4
    have hst := step_put4 w4 w.heap.size (.slice A3 xs.length c3) (.bool off) (.int .i64 fuse) (.int .i64 nw)
    have u0 := put4 s0 (.slice A3 xs.length c3) (.bool off) (.int .i64 fuse) (.int .i64 nw)
    have u1 := hst.block s1 (fun e => by omega)
    have vX := hst.block zX (fun e => by omega)
    have hRb := ref_put4 hR3 s0 (.slice A3 xs.length c3) (.bool off) (.int .i64 fuse) (.int .i64 nw)
    have hsb := hs.trans hst (fun _ h => h) (fun q hq => Or.inr (Nat.le_of_eq hq.symm))
    have hzb := Nat.le_trans hsz hst.size
    have hDb := hD.step hst (fun q hq e => by have := hlt q hq; omega)
    go_upto_region 15 with (fail)
    clear a0 a1 a2 a3 g0 g1 g2 g3 z0 z1 z2 z3 y0 y1 y2 y3 z4 s0 s1 zX hs hsz hR3 hD hst
    generalize ((((w4.setCell ⟨w.heap.size, 0, none⟩ (.slice A3 xs.length c3)).setCell ⟨w.heap.size, 1, none⟩ (.bool off)).setCell ⟨w.heap.size, 2, none⟩ (.int .i64 fuse)).setCell ⟨w.heap.size, 3, none⟩ (.int .i64 nw)) = w5 at u0 u1 vX hRb hsb hzb hDb ⊢
    obtain ⟨⟨z0, z1, z2, z3⟩, _⟩ := blk4 vX
    go_wp2_with (go_at_call 91; with_reducible refine (hDev _ hDb).mono ?_)
    rintro e w6 ⟨rfl, hD6, hs6⟩
    have q0 := hs6.block u0 (fun h => by have := hlt _ h; omega)
    have q1 := hs6.block u1 (fun h => by have := hlt _ h; omega)
    have hR6 := hRb.step hs6 (ref_dev hRb hDb)
    have hs7 := hsb.trans hs6 (fun _ h => h) (fun _ h => Or.inl h)
    have hz6 := Nat.le_trans hzb hs6.size
    clear z0 z1 z2 z3 u0 u1 vX hRb hsb hzb hDb hs6
    go_wp2
    exact ⟨⟨j + 1, A3, c3, xs3, F, B, off, fuse, by omega, by simp, by rw [hl3]; exact q0, q1, hD6, by rw [hl3]; exact hR6, hs7, hz6⟩, by simp [intOf]; omega⟩
   by_cases e2 : X.f0 = 2
   ·have d0 : (X.f0 == 0) = false := by simpa using e0
    have d1 : (X.f0 == 1) = false := by simpa using e1
    have d2 : (X.f0 == 2) = true := by simpa using e2
    clear e0 e1 e2
    obtain ⟨xs3, F3, B3, o3, l3, why, hq⟩ : ∃ xs3 F3 B3 o3 l3 why, flushP xs F B off fuse = (xs3, F3, B3, o3, l3, why) := ⟨_, _, _, _, _, _, rfl⟩
    have hl3 : xs3.length = xs.length := flushP_len hq
    have hRef : ∀ W, RefAt W (.slice A xs.length c) xs F B → Calls Tryd.prog 92 #[.agg #[.slice A xs.length c, .bool off, .int .i64 fuse, .int .i64 nw]] W fun e w' => ∃ A3 c3, e = .returned (.tuple #[.agg #[.slice A3 xs.length c3, .bool o3, .int .i64 l3, .int .i64 nw], .int .i64 why]) ∧ RefAt w' (.slice A3 xs.length c3) xs3 F3 B3 ∧ Below W.heap.size W w' := fun W hW => ref_FlushR hq hl3 W _ hW hok
    have hDev : ∀ W, DevAt W i xs F B off fuse nw → Calls Tryd.prog 18 #[.pointer (some ⟨i.d, 0, none⟩)] W fun e w' => e = .returned (.int .i64 why) ∧ DevAt w' i xs3 F3 B3 o3 l3 nw ∧ Step i.In W w' := fun W hW => dev_FlushR hq W i hW
    clear hq
    obtain ⟨⟨a0, a1, a2, a3⟩, g0, g1, g2, g3⟩ := blk4 s0
    obtain ⟨⟨z0, z1, z2, z3⟩, _⟩ := blk4 zX
    go_wp2_with (go_at_call 92; with_reducible refine (hRef _ hRf).mono ?_)
    rintro e w3 ⟨A3, c3, rfl, hR3, hb3⟩
    replace s0 := Stepb hb3 s0
    replace s1 := Stepb hb3 s1
    replace zX := Stepb hb3 zX
    replace hs := hs.trans (Step.of_below (S := i.In) hb3) (fun _ h => h) (fun _ h => Or.inl h)
    replace hsz := Nat.le_trans hsz hb3.size
    replace hD := hD.below hb3
    clear hb3 hRef hRf
    have hb4 : Below w3.heap.size w3 (w3.alloc (.cells #[.slice A3 xs.length c3, .bool o3, .int .i64 l3, .int .i64 nw] 71)) := (Below.refl _ _).alloc (Nat.le_refl _) _
    have z4 := World.alloc_heap_new w3 (.cells #[.slice A3 xs.length c3, .bool o3, .int .i64 l3, .int .i64 nw] 71)
    replace s0 := Stepb hb4 s0
    replace s1 := Stepb hb4 s1
    replace zX := Stepb hb4 zX
    replace hs := hs.trans (Step.of_below (S := i.In) hb4) (fun _ h => h) (fun _ h => Or.inl h)
    replace hsz := Nat.le_trans hsz hb4.size
    replace hR3 := hR3.below hb4
    replace hD := hD.below hb4
    clear hb4
    clear a0 a1 a2 a3 g0 g1 g2 g3 z0 z1 z2 z3
    go_upto_region 19 with (fail)
    generalize w3.heap.size = gv at z4 ⊢
    generalize w3.alloc (.cells #[.slice A3 xs.length c3, .bool o3, .int .i64 l3, .int .i64 nw] 71) = w4 at z4 s0 s1 zX hs hsz hR3 hD ⊢
    obtain ⟨⟨a0, a1, a2, a3⟩, g0, g1, g2, g3⟩ := blk4 s0
    obtain ⟨⟨z0, z1, z2, z3⟩, _⟩ := blk4 zX
    obtain ⟨⟨y0, y1, y2, y3⟩, _⟩ := blk4 z4
    have hst := step_put4 w4 w.heap.size (.slice A3 xs.length c3) (.bool o3) (.int .i64 l3) (.int .i64 nw)
    have u0 := put4 s0 (.slice A3 xs.length c3) (.bool o3) (.int .i64 l3) (.int .i64 nw)
    have u1 := hst.block s1 (fun e => by omega)
    have vX := hst.block zX (fun e => by omega)
    have hRb := ref_put4 hR3 s0 (.slice A3 xs.length c3) (.bool o3) (.int .i64 l3) (.int .i64 nw)
    have hsb := hs.trans hst (fun _ h => h) (fun q hq => Or.inr (Nat.le_of_eq hq.symm))
    have hzb := Nat.le_trans hsz hst.size
    have hDb := hD.step hst (fun q hq e => by have := hlt q hq; omega)
    go_upto_region 20 with (fail)
    clear a0 a1 a2 a3 g0 g1 g2 g3 z0 z1 z2 z3 y0 y1 y2 y3 z4 s0 s1 zX hs hsz hR3 hD hst
    generalize ((((w4.setCell ⟨w.heap.size, 0, none⟩ (.slice A3 xs.length c3)).setCell ⟨w.heap.size, 1, none⟩ (.bool o3)).setCell ⟨w.heap.size, 2, none⟩ (.int .i64 l3)).setCell ⟨w.heap.size, 3, none⟩ (.int .i64 nw)) = w5 at u0 u1 vX hRb hsb hzb hDb ⊢
    obtain ⟨⟨z0, z1, z2, z3⟩, _⟩ := blk4 vX
    go_wp2_with (go_at_call 18; with_reducible refine (hDev _ hDb).mono ?_)
    rintro e w6 ⟨rfl, hD6, hs6⟩
    have q0 := hs6.block u0 (fun h => by have := hlt _ h; omega)
    have q1 := hs6.block u1 (fun h => by have := hlt _ h; omega)
    have hR6 := hRb.step hs6 (ref_dev hRb hDb)
    have hs7 := hsb.trans hs6 (fun _ h => h) (fun _ h => Or.inl h)
    have hz6 := Nat.le_trans hzb hs6.size
    clear z0 z1 z2 z3 u0 u1 vX hRb hsb hzb hDb hs6
    go_wp2
    exact ⟨⟨j + 1, A3, c3, xs3, F3, B3, o3, l3, by omega, by simp, by rw [hl3]; exact q0, q1, hD6, by rw [hl3]; exact hR6, hs7, hz6⟩, by simp [intOf]; omega⟩
   have d0 : (X.f0 == 0) = false := by simpa using e0
   have d1 : (X.f0 == 1) = false := by simpa using e1
   have d2 : (X.f0 == 2) = false := by simpa using e2
   clear e0 e1 e2
   have hRef := fun W (hW : RefAt W (.slice A xs.length c) xs F B) => ref_Fuse W _ xs F B off fuse nw X.f2 hW
   have hDev := fun W (hW : DevAt W i xs F B off fuse nw) => dev_Fuse_any W i xs F B off fuse nw X.f2 hW hw2
   generalize mx X.f2 (-1) = l3 at hRef hDev
   obtain ⟨⟨a0, a1, a2, a3⟩, g0, g1, g2, g3⟩ := blk4 s0
   obtain ⟨⟨z0, z1, z2, z3⟩, _⟩ := blk4 zX
   go_wp2_with (go_at_call 93; with_reducible refine (hRef _ hRf).mono ?_)
   rintro e w4 ⟨rfl, hb3⟩
   replace s0 := Stepb hb3 s0
   replace s1 := Stepb hb3 s1
   replace zX := Stepb hb3 zX
   replace hs := hs.trans (Step.of_below (S := i.In) hb3) (fun _ h => h) (fun _ h => Or.inl h)
   replace hsz := Nat.le_trans hsz hb3.size
   replace hD := hD.below hb3
   have hR3 := hRf.below hb3
   clear hb3 hRef hRf
   clear a0 a1 a2 a3 g0 g1 g2 g3 z0 z1 z2 z3
   obtain ⟨⟨a0, a1, a2, a3⟩, g0, g1, g2, g3⟩ := blk4 s0
   obtain ⟨⟨z0, z1, z2, z3⟩, _⟩ := blk4 zX
   have hst := step_put4 w4 w.heap.size (.slice A xs.length c) (.bool off) (.int .i64 l3) (.int .i64 nw)
   have u0 := put4 s0 (.slice A xs.length c) (.bool off) (.int .i64 l3) (.int .i64 nw)
   have u1 := hst.block s1 (fun e => by omega)
   have vX := hst.block zX (fun e => by omega)
   have hRb := ref_put4 hR3 s0 (.slice A xs.length c) (.bool off) (.int .i64 l3) (.int .i64 nw)
   have hsb := hs.trans hst (fun _ h => h) (fun q hq => Or.inr (Nat.le_of_eq hq.symm))
   have hzb := Nat.le_trans hsz hst.size
   have hDb := hD.step hst (fun q hq e => by have := hlt q hq; omega)
   go_upto_region 6 with (fail)
   clear a0 a1 a2 a3 g0 g1 g2 g3 z0 z1 z2 z3 s0 s1 zX hs hsz hR3 hD hst
   generalize ((((w4.setCell ⟨w.heap.size, 0, none⟩ (.slice A xs.length c)).setCell ⟨w.heap.size, 1, none⟩ (.bool off)).setCell ⟨w.heap.size, 2, none⟩ (.int .i64 l3)).setCell ⟨w.heap.size, 3, none⟩ (.int .i64 nw)) = w5 at u0 u1 vX hRb hsb hzb hDb ⊢
   obtain ⟨⟨z0, z1, z2, z3⟩, _⟩ := blk4 vX
   go_wp2_with (go_at_call 94; with_reducible refine (hDev _ hDb).mono ?_)
   rintro e w6 ⟨rfl, hD6, hs6⟩
   have q0 := hs6.block u0 (fun h => by have := hlt _ h; omega)
   have q1 := hs6.block u1 (fun h => by have := hlt _ h; omega)
   have hR6 := hRb.step hs6 (ref_dev hRb hDb)
   have hs7 := hsb.trans hs6 (fun _ h => h) (fun _ h => Or.inl h)
   have hz6 := Nat.le_trans hzb hs6.size
   clear z0 z1 z2 z3 u0 u1 vX hRb hsb hzb hDb hs6
   go_wp2
   exact ⟨⟨j + 1, A, c, xs, F, B, off, l3, by omega, by simp, q0, q1, hD6, hR6, hs7, hz6⟩, by simp [intOf]; omega⟩
  ·have dj : ¬ (j : Int) < (l.length : Int) := by omega
   obtain ⟨⟨a0, a1, a2, a3⟩, _⟩ := blk4 s0
   obtain ⟨⟨b0, b1, b2, b3⟩, q0, q1, q2, q3⟩ := blk4 s1
   have hst := step_put4 wr (w.heap.size + 1) (.slice A xs.length c) (.bool off) (.int .i64 fuse) (.int .i64 nw)
   have hDe := hD.step hst (fun q hq e => by have := hlt q hq; omega)
   have hRe := ref_put4 hRf s1 (.slice A xs.length c) (.bool off) (.int .i64 fuse) (.int .i64 nw)
   have hse := hs.trans hst (fun _ h => h) (fun q hq => Or.inr (by omega))
   clear hjl hj
   go_wp2
   refine bodyPost_ret (results_ct rfl _ _ (w.heap.size + 1) 71 _ (0, 0) _ rfl (put4 s1 _ _ _ _) Tryd.underlying71 rfl (by kernel_rfl)) rfl ?_
   exact ⟨_, _, _, _, _, _, _, rfl, hDe, hRe, hse⟩
theorem reps_flat {α : Type} {R : α → List Value → Prop} {size : Nat} (f : Nat → α) (g : Nat → List Value) (hR : ∀ j, R (f j) (g j)) (hs : ∀ j, (g j).length = size) : ∀ (ys : List Nat) (ps : List α) (cs : List Value), Reps R size ps cs → Reps R size (ps ++ ys.map f) (cs ++ ys.flatMap g)
 | [], ps, cs, h => by simpa using h
 | y :: ys, ps, cs, h => by
  have := reps_flat f g hR hs ys _ _ (Reps.snoc h (hR y) (hs y))
  rwa [List.append_assoc, List.append_assoc] at this
theorem C_own {α : Type} (d : Kd α) (z : Nat) (hz : d.sz = z) {e : TypeId} {w : World} {base : Nat} {v : Value} (f : Nat → α) (g : Nat → List Value) (ys : List Nat) (hM : ∀ ok j, d.M w base ok (f j) (g j)) (hs : ∀ j, (g j).length = z) (ho : w.ownsRow base e z v ys.length (ys.flatMap g)) :
  Kd.R d e w base (fun _ => True) v (ys.map f) := by
 subst hz
 exact ⟨fun _ _ => trivial, ys.flatMap g, by rw [List.length_map]; exact ho, by simpa using reps_flat f g (hM _) hs ys [] [] (Reps.none _ _)⟩
theorem C_on {α : Type} {d : Kd α} {e : TypeId} {w : World} {base : Nat} {v : Value} {xs : List α} (h : Kd.R d e w base (fun _ => True) v xs) (S : Nat → Prop) (hS : ∀ k, S k → k < base) :
  ∃ A c, v = .slice A xs.length c ∧ xs.length ≤ c ∧ ∀ w', Step S w w' → Kd.C d w' A xs.length xs := by
 obtain ⟨A, c, rfl, hc, _⟩ := Kd.R_reads h
 refine ⟨A, c, rfl, hc, fun w' hs => ?_⟩
 have h2 := Kd.R_step (Kd.R_bound h) (w1 := w') (fun k hk hlt => by
  obtain ⟨_, _, hb, _⟩ := hk
  have := hs.block (Array.getElem?_eq_getElem hlt) (fun hq => by have := hS k hq; omega)
  rw [this, Array.getElem?_eq_getElem hlt])
 exact (Kd.R_reads' h2).2.2
theorem same48_run (l : List S48) (hl : l.length ≤ 1000) : ∀ (d i k : Nat), i + d = l.length → d < k → caulkref10_Same.l0 k l l (l.length : Int) (i : Int) = some true
 | 0, i, k + 1, h, _ => by
  rw [caulkref10_Same.l0, if_neg (by omega)]
 | d + 1, i, k + 1, h, hk => by
  rw [caulkref10_Same.l0, if_pos (by omega), if_pos (by omega), if_pos (by omega), if_pos (by omega), if_neg (by simp), wrapS (by omega) (by omega)]
  exact same48_run l hl d (i + 1) k (by omega) (by omega)
theorem same88_run (l : List S88) (hl : l.length ≤ 1000) : ∀ (d i k : Nat), i + d = l.length → d < k → caulkref09_Same.l0 k l l (l.length : Int) (i : Int) = some true
 | 0, i, k + 1, h, _ => by
  rw [caulkref09_Same.l0, if_neg (by omega)]
 | d + 1, i, k + 1, h, hk => by
  rw [caulkref09_Same.l0, if_pos (by omega), if_pos (by omega), if_pos (by omega), if_pos (by omega), if_neg (by simp), wrapS (by omega) (by omega)]
  exact same88_run l hl d (i + 1) k (by omega) (by omega)
theorem same48_any (w : World) (A1 A2 : Option Addr) (c1 c2 : Nat) (l : List S48) (hl : l.length ≤ 1000) (h1 : Kd.C k48 w A1 l.length l) (g1 : l.length ≤ c1) (h2 : Kd.C k48 w A2 l.length l) (g2 : l.length ≤ c2) : Calls Tryd.prog 38 #[.slice A1 l.length c1, .slice A2 l.length c2] w fun e w' => e = .returned (.bool true) ∧ Below w.heap.size w w' := by
 refine (caulkref10_Same.calls (l.length + 1) A1 c1 l A2 c2 l true w h1 g1 h2 g2 ?_).mono ?_
 ·rw [caulkref10_Same.f, if_pos rfl]
  exact same48_run l hl l.length 0 (l.length + 1) (by omega) (by omega)
 ·rintro e w' ⟨rfl, hd⟩
  exact ⟨rfl, hd.below⟩
theorem same88_any (w : World) (A1 A2 : Option Addr) (c1 c2 : Nat) (l : List S88) (hl : l.length ≤ 1000) (h1 : Kd.C k88 w A1 l.length l) (g1 : l.length ≤ c1) (h2 : Kd.C k88 w A2 l.length l) (g2 : l.length ≤ c2) : Calls Tryd.prog 39 #[.slice A1 l.length c1, .slice A2 l.length c2] w fun e w' => e = .returned (.bool true) ∧ Below w.heap.size w w' := by
 refine (caulkref09_Same.calls (l.length + 1) A1 c1 l A2 c2 l true w h1 g1 h2 g2 ?_).mono ?_
 ·rw [caulkref09_Same.f, if_pos rfl]
  exact same88_run l hl l.length 0 (l.length + 1) (by omega) (by omega)
 ·rintro e w' ⟨rfl, hd⟩
  exact ⟨rfl, hd.below⟩
noncomputable def fndL (xs : List ByteArray) (F : FL) (B : BL) (off : Bool) : List S48 := if off = true then [] else (srtS xs F B false (fndS xs F B false)).map (sl48 xs F B)
def fndE (off : Bool) : Int := if off = true then 12 else 0
theorem srtS_len (xs : List ByteArray) (F : FL) (B : BL) (off : Bool) : ∀ l : List Nat, (srtS xs F B off l).length = l.length
 | [] => rfl
 | [x] => rfl
 | [x, y] => by
  show (if genS xs F B off x < genS xs F B off y then [y, x] else [x, y]).length = 2
  split <;> rfl
 | x :: y :: z :: l => rfl
theorem fndS_len (xs : List ByteArray) (F : FL) (B : BL) (off : Bool) : (fndS xs F B off).length ≤ 2 := by
 have h1 := List.length_filter_le (slotFits xs F B off) (stL xs F B off 2)
 have h2 := stL_len xs F B off 2
 exact Nat.le_trans h1 h2
theorem fndL_len (xs : List ByteArray) (F : FL) (B : BL) (off : Bool) : (fndL xs F B off).length ≤ 1000 := by
 unfold fndL
 split
 ·simp
 ·rw [List.length_map, srtS_len]
  have := fndS_len xs F B false
  omega
theorem super_Find_down (w : World) (i : DevIds) (xs : List ByteArray) (F : FL) (B : BL) (fuse nw : Int) (hD : DevAt w i xs F B true fuse nw) : Calls Tryd.prog 19 #[.pointer (some ⟨i.d, 0, none⟩)] w fun e w' => e = .returned (.tuple #[.slice none 0 0, .int .i64 12]) ∧ Step (fun _ => False) w w' := by
 have hb0 : Step (fun _ => False) w (w.alloc (.cells #[.pointer (some ⟨i.d, 0, none⟩)] 38)) := Step.alloc _ _ _
 have hD0 := hD.step hb0 (fun _ _ h => h)
 have hc := World.alloc_heap_new w (.cells #[.pointer (some ⟨i.d, 0, none⟩)] 38)
 have c0 : (w.alloc (.cells #[.pointer (some ⟨i.d, 0, none⟩)] 38)).cell? ⟨w.heap.size, 0, none⟩ = some (.pointer (some ⟨i.d, 0, none⟩)) := Lib.cell_of_heap hc 0
 go_enter Tryd.func19, Tryd.ntmps19
 go_wp2_with (go_at_call 61; with_reducible refine (dev_Down_any _ i _ _ _ _ _ _ hD0).mono ?_)
 rintro e w1 ⟨rfl, rfl⟩
 go_wp2
 go_ret2
 exact ⟨rfl, hb0⟩
theorem ref10_Find_down (w : World) (v : Value) (left nw : Int) : Calls Tryd.prog 35 #[.agg #[v, .bool true, .int .i64 left, .int .i64 nw]] w fun e w' => e = .returned (.tuple #[.slice none 0 0, .int .i64 12]) ∧ Below w.heap.size w w' := by
 have hu71 := Tryd.underlying71
 go_enter Tryd.func35, Tryd.ntmps35
 go_wp2
 go_ret2
 exact ⟨rfl, (Below.refl _ _).alloc (Nat.le_refl _) _⟩
theorem sl48_cells (xs : List ByteArray) (F : FL) (B : BL) (j : Nat) : slotC xs F B false j = [.int .i64 (sl48 xs F B j).f0, .int .i64 (sl48 xs F B j).f1.f0, .int .i64 (sl48 xs F B j).f1.f1.f0, .int .i64 (sl48 xs F B j).f1.f1.f1, .int .i64 (sl48 xs F B j).f1.f1.f2, .int .i64 (sl48 xs F B j).f1.f1.f3, .int .i64 (sl48 xs F B j).f1.f2, .int .i64 (sl48 xs F B j).f1.f3.f0, .int .i64 (sl48 xs F B j).f1.f3.f1, .int .u32 (sl48 xs F B j).f1.f3.f2] := by
 simp only [slotC, sl48]
theorem k48_sz : k48.sz = 10 := rfl
theorem k88_sz : k88.sz = 2 := rfl
theorem slotC_len (xs : List ByteArray) (F : FL) (B : BL) (j : Nat) : (slotC xs F B false j).length = 10 := rfl
set_option maxRecDepth 100000 in
theorem find_dev (w : World) (hT : TabAt w) (i : DevIds) (xs : List ByteArray) (F : FL) (B : BL) (off : Bool) (fuse nw : Int) (hD : DevAt w i xs F B off fuse nw) : Calls Tryd.prog 19 #[.pointer (some ⟨i.d, 0, none⟩)] w fun e w' => ∃ A c, e = .returned (.tuple #[.slice A (fndL xs F B off).length c, .int .i64 (fndE off)]) ∧ (fndL xs F B off).length ≤ c ∧ (∀ w2, Step i.In w' w2 → Kd.C k48 w2 A (fndL xs F B off).length (fndL xs F B off)) ∧ Step (fun _ => False) w w' := by
 cases off
 ·refine (super_Find_ok w hT i xs F B fuse nw hD).mono ?_
  rintro e w' ⟨v, rfl, ho, hs⟩
  rw [← srtS_len xs F B false (fndS xs F B false)] at ho
  have hRo : Kd.R k48 48 w' w.heap.size (fun _ => True) v ((srtS xs F B false (fndS xs F B false)).map (sl48 xs F B)) := C_own k48 10 k48_sz (sl48 xs F B) (slotC xs F B false) (srtS xs F B false (fndS xs F B false)) (fun ok j => by rw [sl48_cells]; exact k48_mkM _ _ _ (sl48 xs F B j)) (slotC_len xs F B) ho
  obtain ⟨A, c, rfl, hc, hC⟩ := C_on hRo i.In hD.lt
  exact ⟨A, c, rfl, hc, hC, hs⟩
 ·refine (super_Find_down w i xs F B fuse nw hD).mono ?_
  rintro e w' ⟨rfl, hs⟩
  have e0 : fndL xs F B true = [] := if_pos rfl
  rw [e0]
  exact ⟨none, 0, rfl, Nat.le_refl _, fun _ _ => ⟨rfl, by decide, fun h => absurd h (by decide)⟩, hs⟩
theorem find_ref (S : Nat → Prop) (w : World) (hS : ∀ k, S k → k < w.heap.size) (v : Value) (xs : List ByteArray) (F : FL) (B : BL) (off : Bool) (left nw : Int) (h : RefAt w v xs F B) (hx : xs.length ≤ 32768) : Calls Tryd.prog 35 #[.agg #[v, .bool off, .int .i64 left, .int .i64 nw]] w fun e w' => ∃ A c, e = .returned (.tuple #[.slice A (fndL xs F B off).length c, .int .i64 (fndE off)]) ∧ (fndL xs F B off).length ≤ c ∧ (∀ w2, Step S w' w2 → Kd.C k48 w2 A (fndL xs F B off).length (fndL xs F B off)) ∧ Below w.heap.size w w' := by
 cases off
 ·refine (ref10_Find_any w v xs F B left nw h hx).mono ?_
  rintro e w' ⟨v', rfl, hR, hb⟩
  obtain ⟨A, c, rfl, hc, hC⟩ := C_on hR S hS
  exact ⟨A, c, rfl, hc, hC, hb⟩
 ·refine (ref10_Find_down w v left nw).mono ?_
  rintro e w' ⟨rfl, hs⟩
  have e0 : fndL xs F B true = [] := if_pos rfl
  rw [e0]
  exact ⟨none, 0, rfl, Nat.le_refl _, fun _ _ => ⟨rfl, by decide, fun h => absurd h (by decide)⟩, hs⟩
theorem heal_dev (w : World) (hT : TabAt w) (i : DevIds) (xs : List ByteArray) (F : FL) (B : BL) (off : Bool) (fuse nw : Int) (hD : DevAt w i xs F B off fuse nw) (g sh k m c l a b s : Int) (hs : 0 ≤ s ∧ s < 4294967296) (R : HlS) (hR : R = healS xs F B off fuse nw (bytesS g sh k m c l a b s)) :
  Calls Tryd.prog 36 #[.pointer (some ⟨i.d, 0, none⟩), .agg #[.int .i64 g, .int .i64 sh, .int .i64 k, .int .i64 m, .int .i64 c, .int .i64 l, .int .i64 a, .int .i64 b, .int .u32 s]] w fun e w' => ∃ A q, e = .returned (.tuple #[.slice A (R.out.map cop8).length q, .int .i64 R.e]) ∧ (R.out.map cop8).length ≤ q ∧ Kd.C k88 w' A (R.out.map cop8).length (R.out.map cop8) ∧ DevAt w' i xs R.F B R.off R.fuse R.nw ∧ Step i.In w w' := by
 refine (super_Heal_any w hT i xs F B off fuse nw hD g sh k m c l a b s hs R hR).mono ?_
 rintro e w' ⟨v, rfl, hD', ho, hs'⟩
 have hRo : Kd.R k88 88 w' w.heap.size (fun _ => True) v (R.out.map cop8) := C_own k88 2 k88_sz cop8 copC R.out (fun ok j => k88_mkM _ _ _ (cop8 j)) (fun _ => rfl) ho
 obtain ⟨A, q, rfl, hq, hC⟩ := Kd.R_reads hRo
 exact ⟨A, q, rfl, hq, hC, hD', hs'⟩
theorem heal_ref (w : World) (v : Value) (xs : List ByteArray) (F : FL) (B : BL) (off : Bool) (left nw g sh k m c l a b s : Int) (hs : 0 ≤ s ∧ s < 4294967296) (h : RefAt w v xs F B) (hok : DevOk xs F B left) (hnF : NodupK F) (R : HlS) (hR : R = healS xs F B off left nw (bytesS g sh k m c l a b s)) :
  Calls Tryd.prog 37 #[.agg #[v, .bool off, .int .i64 left, .int .i64 nw], .agg #[.int .i64 g, .int .i64 sh, .int .i64 k, .int .i64 m, .int .i64 c, .int .i64 l, .int .i64 a, .int .i64 b, .int .u32 s]] w fun e w' => ∃ A3 c3 A q, e = .returned (.tuple #[.agg #[.slice A3 xs.length c3, .bool R.off, .int .i64 R.fuse, .int .i64 R.nw], .slice A (R.out.map cop8).length q, .int .i64 R.e]) ∧ RefAt w' (.slice A3 xs.length c3) xs R.F B ∧ (R.out.map cop8).length ≤ q ∧ Kd.C k88 w' A (R.out.map cop8).length (R.out.map cop8) ∧ Below w.heap.size w w' := by
 refine (ref10_Heal_any w v xs F B off left nw g sh k m c l a b s hs h hok hnF R hR).mono ?_
 rintro e w' ⟨A3, c3, v', rfl, hRf, hRo, hb⟩
 obtain ⟨A, q, rfl, hq, hC⟩ := Kd.R_reads hRo
 exact ⟨A3, c3, A, q, rfl, hRf, hq, hC, hb⟩
theorem healS_len {xs : List ByteArray} {F : FL} {B : BL} {off : Bool} {fuse nw : Int} {b : ByteArray × Int} : ((healS xs F B off fuse nw b).out.map cop8).length ≤ 1000 := by
 rw [List.length_map]
 unfold healS
 split
 ·simp
 ·have := hlK_out (xs := xs) (B := B) (t := b.1) (F := F) (off := off) (fuse := fuse) (nw := nw) 2
  omega
end
end Go.Proofs.YtmmfplogkikbjaaDoor.HSF
