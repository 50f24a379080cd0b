/- WRITTEN BY wip/hyb.py, a program of this workplace (out of the kit's printer and this workplace's own contracts). -/
import Derived.Test.YtkdbgdglmbnnkaaGDQx0
import Derived.Test.YtkdbgdglmbnnkaaGDQx2
import Derived.Test.YtkdbgdglmbnnkaaGDQx3
import Derived.Test.YtkdbgdglmbnnkaaGDQx4
import Derived.Test.YtkdbgdglmbnnkaaGDQx6
import Derived.Test.YtkdbgdglmbnnkaaGDQx7
import Derived.Test.YtkdbgdglmbnnkaaGDQx8
namespace Go.Proofs.Ytkdbgdglmbnnkaa.HDQ
open Go.RowKit Go.Proofs.YtkdbgdglmbnnkaaW.PrintWords Go.Proofs.YtkdbgdglmbnnkaaW.PrintLast Go.Proofs.YtkdbgdglmbnnkaaW.PrintMore
attribute [local go_sem] max2_int min2_int max_two min_two max_three min_three max_four min_four   -- for this text's walks alone
set_option linter.unusedVariables false
set_option linter.unusedSimpArgs false

section
open Go Go.Shelf Go.Maps Go.Proofs.Ytkdbgdglmbnnkaa.Seq Go.Proofs.Ytkdbgdglmbnnkaa.MapL Go.Proofs.YtkdbgdglmbnnkaaW.PrintLast
attribute [local go_sem] Oper.semAt_some max2_int min2_int max_two min_two
theorem DevAt.nodF {w : World} {i : DevIds} {xs : List ByteArray} {F : FL} {B : BL} {off : Bool} {fuse nw : Int} (h : DevAt w i xs F B off fuse nw) : NodupK F := h.2.2.1.nodup
theorem DevAt.nodB {w : World} {i : DevIds} {xs : List ByteArray} {F : FL} {B : BL} {off : Bool} {fuse nw : Int} (h : DevAt w i xs F B off fuse nw) : NodupK B := h.2.2.2.1.nodup
theorem DevAt.lenF {w : World} {i : DevIds} {xs : List ByteArray} {F : FL} {B : BL} {off : Bool} {fuse nw : Int} (h : DevAt w i xs F B off fuse nw) : F.length < 1000000 := by have := h.ok.2.1; have := h.ok.2.2.2.2.2.1; omega
theorem DevAt.lenB {w : World} {i : DevIds} {xs : List ByteArray} {F : FL} {B : BL} {off : Bool} {fuse nw : Int} (h : DevAt w i xs F B off fuse nw) : B.length < 1000000 := by have := h.ok.2.1; have := h.ok.2.2.2.2.2.2.1; omega
theorem does_any (w : World) (i : DevIds) (v : Value) (xs : List ByteArray) (F : FL) (B : BL) (off : Bool) (fuse nw : Int) (kd at_ c n by_ : Int) (Ak : Option Addr) (ck : Nat) (keep : List Bool) (hD : DevAt w i xs F B off fuse nw) (hR : RefAt w v xs F B) (hk : Kd.C Kd.bool w Ak keep.length keep) (hkl : keep.length ≤ 4611686018427387904) (hkb : ∀ a, Ak = some a → keep.length = 0 ∨ ¬ i.In a.block) (hn : (Lit.int .i64 n).wf = true) (hb0 : 0 ≤ by_) (hb1 : by_ < 4294967296) :
  Calls Try.prog 18 #[.pointer (some ⟨i.d, 0, none⟩), .agg #[v, .bool off, .int .i64 fuse, .int .i64 nw], .agg #[.int .i64 kd, .int .i64 at_, .int .u8 c, .slice Ak keep.length ck, .int .i64 n, .int .u32 by_]] w fun e w' => ∃ v' xs' F' B' off' fuse' nw', e = .returned (.tuple #[.agg #[v', .bool off', .int .i64 fuse', .int .i64 nw'], .bool true]) ∧
   DevAt w' i xs' F' B' off' fuse' nw' ∧ RefAt w' v' xs' F' B' ∧ xs'.length = xs.length ∧ Step i.In w w' := by
 by_cases h0 : kd = 0
 ·exact does_0 w i v xs F B off fuse nw kd at_ c n by_ Ak ck keep hD hR h0
 by_cases h1 : kd = 1
 ·exact does_1 w i v xs F B off fuse nw kd at_ c n by_ Ak ck keep hD hR h1
 by_cases h2 : kd = 2
 ·exact does_2 w i v xs F B off fuse nw kd at_ c n by_ Ak ck keep hD hR h2 hk hkl hkb
 by_cases h3 : kd = 3
 ·exact does_3 w i v xs F B off fuse nw kd at_ c n by_ Ak ck keep hD hR h3 hn
 by_cases h4 : kd = 4
 ·exact does_4 w i v xs F B off fuse nw kd at_ c n by_ Ak ck keep hD hR h4
 by_cases h5 : kd = 5
 ·exact does_5 w i v xs F B off fuse nw kd at_ c n by_ Ak ck keep hD hR h5 hb0 hb1
 by_cases h6 : kd = 6
 ·exact does_6 w i v xs F B off fuse nw kd at_ c n by_ Ak ck keep hD hR h6
 exact does_7 w i v xs F B off fuse nw kd at_ c n by_ Ak ck keep hD hR (beq_eq_false_iff_ne.2 h0) (beq_eq_false_iff_ne.2 h1) (beq_eq_false_iff_ne.2 h2) (beq_eq_false_iff_ne.2 h3) (beq_eq_false_iff_ne.2 h4) (beq_eq_false_iff_ne.2 h5) (beq_eq_false_iff_ne.2 h6)
theorem u32_bounds {b : Int} (h : (Lit.int .u32 b).wf = true) : 0 ≤ b ∧ b < 4294967296 := by
 have := bounds_u32 h
 omega
structure PlS (w wr : World) (T : Nat) (i : DevIds) (v : Value) (xs : List ByteArray) (F : FL) (B : BL) (off : Bool) (fuse nw : Int) : Prop where
 dev : DevAt wr i xs F B off fuse nw
 ref : RefAt wr v xs F B
 bx : wr.heap[T]? = some (.cells #[v, .bool off, .int .i64 fuse, .int .i64 nw] 45 (0, 0))
 bl : Below w.heap.size w wr
 lo : ∀ k, i.In k → w.heap.size ≤ k
 tl : w.heap.size ≤ T
section
variable {w wr w' : World} {T : Nat} {i : DevIds} {v : Value} {xs : List ByteArray} {F : FL} {B : BL} {off : Bool} {fuse nw : Int}
theorem PlS.below (h : PlS w wr T i v xs F B off fuse nw) (hb : Below wr.heap.size wr w') : PlS w w' T i v xs F B off fuse nw :=
 ⟨h.dev.below hb, h.ref.below hb, Stepb hb h.bx, h.bl.trans (hb.mono h.bl.size), h.lo, h.tl⟩
theorem PlS.notT (h : PlS w wr T i v xs F B off fuse nw) : ¬ i.In T := by
 obtain ⟨hd, hr, hf, hb, _⟩ := h.dev
 obtain ⟨e1, c1, m1⟩ := map_block hf
 obtain ⟨e2, c2, m2⟩ := map_block hb
 obtain ⟨cur, r⟩ := row_block hr
 have hbx := h.bx
 rintro (e | e | e | e)
 ·rw [e, hd] at hbx; cases hbx
 ·rw [e, r] at hbx; cases hbx
 ·rw [e, m1] at hbx; cases hbx
 ·rw [e, m2] at hbx; cases hbx
theorem PlS.next (h : PlS w wr T i v xs F B off fuse nw) {v' : Value} {xs' : List ByteArray} {F' : FL} {B' : BL} {off' : Bool} {fuse' nw' : Int} (hD : DevAt w' i xs' F' B' off' fuse' nw') (hR : RefAt w' v' xs' F' B') (hs : Step i.In wr w') :
  PlS w ((((w'.setCell ⟨T, 0, none⟩ v').setCell ⟨T, 1, none⟩ (.bool off')).setCell ⟨T, 2, none⟩ (.int .i64 fuse')).setCell ⟨T, 3, none⟩ (.int .i64 nw')) T i v' xs' F' B' off' fuse' nw' := by
 have hbx := hs.block h.bx h.notT
 have hst := step_put4 w' T v' (.bool off') (.int .i64 fuse') (.int .i64 nw')
 exact ⟨hD.step hst (fun k hk e => h.notT (e ▸ hk)), ref_put4 hR hbx _ _ _ _, put4 hbx _ _ _ _, (h.bl.trans (hs.below h.bl.size h.lo)).trans (hst.below (by have := h.bl.size; have := hs.size; omega) (fun k hk => hk ▸ h.tl)), h.lo, h.tl⟩
end
def devPlays.T14 : Bool × List (List Nat × List Nat) := (true, [([], []), ([0], [0]), ([1], [1]), ([2], [2]), ([3, 2, 2], [2, 3]), ([2], [2]), ([5, 2], [2, 5]), ([4, 6, 2], [2, 4, 6]), ([2, 7], [2, 7]), ([8, 4], [8]), ([9], [9]), ([10, 9, 9], [9, 10]), ([9], [9]), ([12, 9], [9, 12]), ([11, 13, 9], [9, 11, 13]), ([9, 14], [9, 14]), ([15, 11], [15]), ([16], [16]), ([17, 16, 16], [16, 17]), ([16], [16]), ([19, 18, 16], [16, 19]), ([18, 20, 20, 16], [16, 18, 20]), ([21, 16], [16, 21]), ([16, 22], [16, 22]), ([23, 21], [23]), ([24], [24]), ([25, 24, 24], [24, 25]), ([24], [24]), ([27, 26, 24], [24, 27]), ([26, 28, 28, 24], [24, 26, 28]), ([29, 24], [24, 29]), ([24, 30], [24, 30])])
def devPlays.B14 : List Nat := [0, 1, 3, 7, 15, 7, 39, 127, 255, 511, 1023, 2047, 1023, 5119, 16383, 32767, 65535, 131071, 262143, 131071, 1048575, 2097151, 4194303, 8388607, 16777215, 33554431, 67108863, 33554431, 268435455, 536870911, 1073741823, 2147483647]
theorem devPlays.tab14 : rtab .any (opsOf Try.f4 14) = devPlays.T14 := by kernel_rfl
theorem devPlays.bits14 : waitsOk devPlays.T14.2 devPlays.B14 = true := by kernel_rfl
def devPlays.T21 : Bool × List (List Nat × List Nat) := (true, [([], []), ([0], [0]), ([1], [1]), ([2], [2]), ([3, 2, 2], [2, 3]), ([2], [2]), ([5, 4, 2], [2, 5]), ([4, 6, 2], [2, 4, 6]), ([2, 7], [2, 7]), ([8, 6], [8]), ([9], [9]), ([10, 9, 9], [9, 10]), ([9], [9]), ([11, 12, 9], [9, 11, 12]), ([9, 13], [9, 13]), ([14, 11, 0, 1, 2, 3, 4, 5, 6, 7, 8, 9, 10, 11, 12, 13, 14], [14])])
def devPlays.B21 : List Nat := [0, 1, 3, 7, 15, 7, 63, 127, 255, 511, 1023, 2047, 1023, 8191, 16383, 32767]
theorem devPlays.tab21 : rtab .any (opsOf Try.f4 21) = devPlays.T21 := by kernel_rfl
theorem devPlays.bits21 : waitsOk devPlays.T21.2 devPlays.B21 = true := by kernel_rfl
def caulklaw05_DevPlays.Pure : Prop := True
set_option maxRecDepth 100000 in
set_option maxHeartbeats 16000000 in
theorem caulklaw05_DevPlays.walk (P : caulklaw05_DevPlays.Pure) (a0 : Int) (A1 : Option Addr) (c1 : Nat) (l1 : List S32) (w : World) (hr1 : Kd.C k32 w A1 l1.length l1) (hc1 : l1.length ≤ c1) (hw0 : (Lit.int .i64 a0).wf = true) (hw1 : (l1.length ≤ maxLen ∧ l1.length * 64 ≤ 140737488351232 ∧ ∀ z0 ∈ l1, wf32 z0)) :
  Calls Try.prog 4 #[.int .i64 a0, .slice A1 l1.length c1] w fun e w' => e = .returned (.bool true) ∧ Below w.heap.size w w' := by
 go_enter Try.func4, Try.ntmps4
 have hL := lives_any w
 go_wp2_with (go_at_call 9; refine hL.mono ?_)
 rintro e w1 ⟨rfl, hb1⟩
 clear hL
 by_cases g1 : 64 < a0 ∧ a0 ≤ 32768
 ·have d1 : decide (64 < a0) = true := decide_eq_true g1.1
  have d2 : decide (a0 ≤ 32768) = true := decide_eq_true g1.2
  go_wp2
  go_ret
  exact ⟨rfl, hb1⟩
 by_cases g2 : 100 < l1.length
 ·have d3 : decide (100 < (l1.length : Int)) = true := decide_eq_true (by omega)
  by_cases g3 : 64 < a0
  ·have d1 : decide (64 < a0) = true := decide_eq_true g3
   have d2 : decide (a0 ≤ 32768) = false := decide_eq_false (by omega)
   go_wp2
   go_ret
   exact ⟨rfl, hb1⟩
  ·have d1 : decide (64 < a0) = false := decide_eq_false g3
   go_wp2
   go_ret
   exact ⟨rfl, hb1⟩
 have d3 : decide (100 < (l1.length : Int)) = false := decide_eq_false (by omega)
 by_cases g4 : 1 ≤ a0 ∧ a0 ≤ 64
 ·have d1 : decide (64 < a0) = false := decide_eq_false (by omega)
  have hN := dev_New_any w1 a0 g4.1 (by omega)
  go_wp2_with (go_at_call 10; refine hN.mono ?_)
  rintro e w2 ⟨i0, rfl, hD0, hi0, hb2⟩
  have hN2 := ref_New w2 a0 g4.1 (by omega)
  go_wp2_with (go_at_call 17; refine hN2.mono ?_)
  rintro e w3 ⟨v0, rfl, hR0, hb3⟩
  have hB3 := (hb1.trans (hb2.mono hb1.size)).trans (hb3.mono (hb1.trans (hb2.mono hb1.size)).size)
  have hD3 := hD0.below hb3
  have hxl0 : ((List.replicate a0.toNat zeroS).length : Int) = a0 := by rw [List.length_replicate]; omega
  generalize List.replicate a0.toNat zeroS = xs0 at hD3 hR0 hxl0
  obtain ⟨A0, c0, rfl, _⟩ := hR0.reads
  have hlo : ∀ k, i0.In k → w.heap.size ≤ k := fun k hk => Nat.le_trans hb1.size (hi0 k hk)
  clear hN hN2 hb1 hb2 hb3 hD0 hi0
  go_wp2_with fail
  have hT := World.alloc_heap_new w3 (.cells #[.slice A0 xs0.length c0, .bool false, .int .i64 (-1), .int .i64 0] 45)
  have hb4 : Below w3.heap.size w3 (w3.alloc (.cells #[.slice A0 xs0.length c0, .bool false, .int .i64 (-1), .int .i64 0] 45)) := (Below.refl _ _).alloc (Nat.le_refl _) _
  have hS : PlS w (w3.alloc (.cells #[.slice A0 xs0.length c0, .bool false, .int .i64 (-1), .int .i64 0] 45)) w3.heap.size i0 (.slice A0 xs0.length c0) xs0 [] [] false (-1) 0 := ⟨hD3.below hb4, hR0.below hb4, hT, hB3.trans (hb4.mono hB3.size), hlo, hB3.size⟩
  clear hT hb4 hD3 hR0 hB3 hlo
  generalize w3.alloc (.cells #[.slice A0 xs0.length c0, .bool false, .int .i64 (-1), .int .i64 0] 45) = W0 at hS ⊢
  generalize w3.heap.size = T at hS ⊢
  go_loopw [5, 54] (fun t5 t54 wr => ∃ (k : Nat) (i : DevIds) (A : Option Addr) (c : Nat) (xs : List ByteArray) (F : FL) (B : BL) (off : Bool) (fuse nw : Int), k ≤ l1.length ∧ t54 = .int .i64 k ∧ t5 = .pointer (some ⟨i.d, 0, none⟩) ∧ (xs.length : Int) = a0 ∧ PlS w wr T i (.slice A xs.length c) xs F B off fuse nw) (fun _ t54 _ => l1.length - (intOf t54).toNat)
  case atStart => exact ⟨0, i0, A0, c0, xs0, _, _, _, _, _, Nat.zero_le _, rfl, rfl, hxl0, hS⟩
  case round =>
   obtain ⟨k, i, A, c, xs, F, B, off, fuse, nw, hk, rfl, rfl, hxl, hS⟩ := hrel
   by_cases hlt : k < l1.length
   ·have hk1 : (k : Int) < (l1.length : Int) := by omega
    have hk0 : (0 : Int) ≤ (k : Int) := by omega
    have dk : decide ((k : Int) < (l1.length : Int)) = true := decide_eq_true hk1
    have hB := hS.bl
    obtain ⟨ad, A3, c3, ea, x0, x1, x2, x3, x4, x5, hl3, hi3⟩ := at_T32 hr1 (k : Int) (by omega) (by omega)
    cases ea
    have hwf := hw1.2.2 _ (List.getElem_mem hlt)
    obtain ⟨x, hx⟩ : ∃ x, x = rd_T32 l1 (k : Int) := ⟨_, rfl⟩
    have hxd : l1[k] = x := by rw [hx]; simp [rd_T32, List.getD, hlt]
    rw [hxd] at hwf
    rw [← hx] at x0 x1 x2 x3 x4 x5 hl3 hi3
    clear hx hxd
    have hkb0 : ∀ a, A3 = some a → a.block < w.heap.size ∨ x.f3.length = 0 := fun a ha => by
     rcases Nat.eq_zero_or_pos x.f3.length with h0 | h0
     ·exact Or.inr h0
     ·obtain ⟨ad3, e3, hx3⟩ := Kd.at_bool hi3 0 (by omega) (by omega)
      rw [ha] at e3
      cases e3
      exact Or.inl (by have := World.block_lt_of_cell? w _ hx3; rwa [add_block] at this)
    replace x0 := (hB.cell (World.block_lt_of_cell? w _ x0)).trans x0
    replace x1 := (hB.cell (World.block_lt_of_cell? w _ x1)).trans x1
    replace x2 := (hB.cell (World.block_lt_of_cell? w _ x2)).trans x2
    replace x3 := (hB.cell (World.block_lt_of_cell? w _ x3)).trans x3
    replace x4 := (hB.cell (World.block_lt_of_cell? w _ x4)).trans x4
    replace x5 := (hB.cell (World.block_lt_of_cell? w _ x5)).trans x5
    simp only [Int.toNat_natCast] at x0 x1 x2 x3 x4 x5
    have hba : Below wr.heap.size wr (wr.alloc (.cells #[.int .i64 x.f0, .int .i64 x.f1, .int .u8 x.f2, .slice A3 x.f3.length c3, .int .i64 x.f4, .int .u32 x.f5] 32)) := (Below.refl _ _).alloc (Nat.le_refl _) _
    have hSa := hS.below hba
    clear hba
    obtain ⟨⟨t0, t1, t2, t3⟩, _⟩ := blk4 hSa.bx
    have hil := hS.lo
    have hcall := does_any (wr.alloc (.cells #[.int .i64 x.f0, .int .i64 x.f1, .int .u8 x.f2, .slice A3 x.f3.length c3, .int .i64 x.f4, .int .u32 x.f5] 32)) i (.slice A xs.length c) xs F B off fuse nw x.f0 x.f1 x.f2 x.f4 x.f5 A3 c3 x.f3 hSa.dev hSa.ref (Kd.C_below hi3 hSa.bl) (by have := hwf.2.2.2.1.2.1; omega) (fun a ha => (hkb0 a ha).elim (fun h => Or.inr (fun h2 => by have := hil _ h2; omega)) Or.inl) hwf.2.2.2.2.1 (by have := hwf.2.2.2.2.2; exact (u32_bounds this).1) (by have := hwf.2.2.2.2.2; exact (u32_bounds this).2)
    clear hS hB hi3 hkb0 hwf
    go_wp2_with (go_at_call 18; refine hcall.mono ?_)
    rintro e w3 ⟨v4, xs4, F4, B4, off4, fuse4, nw4, rfl, hD4, hR4, hl4, hs4⟩
    obtain ⟨A4, c4, rfl, _⟩ := hR4.reads
    rw [hl4] at hR4 ⊢
    have hxl4 : (xs4.length : Int) = a0 := by rw [hl4]; exact hxl
    clear hl4
    have hSn := (hSa.next hD4 hR4 hs4).below ((Below.refl _ _).alloc (Nat.le_refl _) (.cells #[.slice A4 xs.length c4, .bool off4, .int .i64 fuse4, .int .i64 nw4] 45))
    have hbT := hs4.block hSa.bx hSa.notT
    have hTl := blk_lt hbT
    obtain ⟨⟨u0, u1, u2, u3⟩, p0, p1, p2, p3⟩ := blk4 hbT
    clear hcall hD4 hR4 hs4 x0 x1 x2 x3 x4 x5 t0 t1 t2 t3 hSa
    go_upto_region 14 with (fail)
    generalize ((((w3.setCell ⟨T, 0, none⟩ (.slice A4 xs.length c4)).setCell ⟨T, 1, none⟩ (.bool off4)).setCell ⟨T, 2, none⟩ (.int .i64 fuse4)).setCell ⟨T, 3, none⟩ (.int .i64 nw4)).alloc (.cells #[.slice A4 xs.length c4, .bool off4, .int .i64 fuse4, .int .i64 nw4] 45) = W4 at hSn ⊢
    clear hbT u0 u1 u2 u3 p0 p1 p2 p3 hTl
    try simp only [List.append_eq, List.cons_append, List.nil_append]
    have hS3 := hSn.below (below_drew1 (Below.refl W4.heap.size W4))
    clear hSn
    obtain ⟨⟨t0, t1, t2, t3⟩, _⟩ := blk4 hS3.bx
    refine start_ (n := 32) (S := fun w' => w'.cell? ⟨T, 0, none⟩ = some (.slice A4 xs.length c4) ∧ w'.cell? ⟨T, 1, none⟩ = some (.bool off4) ∧ w'.cell? ⟨T, 2, none⟩ = some (.int .i64 fuse4) ∧ w'.cell? ⟨T, 3, none⟩ = some (.int .i64 nw4)) (ds := []) #[false, false, false, false, false, false, false, false, false, false, false, false, false, false, false, false, false, false, false, false, false, false, false, false, false, false, false, false, false, false, false, false] (by kernel_rfl) rfl rfl ⟨t0, t1, t2, t3⟩ (fun hHeld => ?_)
    refine with_tabW devPlays.tab14 devPlays.bits14 (fun HT_ HW_ => ?_)
    generalize W4.drew = w3 at hHeld hS3 ⊢
    refine pure_ (i := 0) (N := some 67) (v := ?_) (a' := ?_) #[true, false, false, false, false, false, false, false, false, false, false, false, false, false, false, false, false, false, false, false, false, false, false, false, false, false, false, false, false, false, false, false] rfl rfl (any_of HT_.out (by kernel_rfl)) (fun _ _ _ h => h) (Or.inl ⟨by rfl, ?_⟩) ?_ ?_
    rotate_left
    ·intro w'
     go_simp
     with_reducible rfl
    rotate_left
    ·simp only [Act.put, List.setIfInBounds_toArray, List.set_cons_zero, List.set_cons_succ, i64_w, i32_w]
     rfl
    refine pure_ (i := 1) (N := some 68) (v := ?_) (a' := ?_) #[true, true, false, false, false, false, false, false, false, false, false, false, false, false, false, false, false, false, false, false, false, false, false, false, false, false, false, false, false, false, false, false] rfl rfl (any_of HT_.out (by kernel_rfl)) (fun _ _ _ h => h) (Or.inl ⟨by rfl, ?_⟩) ?_ ?_
    rotate_left
    ·intro w'
     go_simp
     with_reducible rfl
    rotate_left
    ·simp only [Act.put, List.setIfInBounds_toArray, List.set_cons_zero, List.set_cons_succ, i64_w, i32_w]
     rfl
    refine pure_ (i := 2) (N := some 69) (v := ?_) (a' := ?_) #[true, true, true, false, false, false, false, false, false, false, false, false, false, false, false, false, false, false, false, false, false, false, false, false, false, false, false, false, false, false, false, false] rfl rfl (any_of HT_.out (by kernel_rfl)) (fun _ _ _ h => h) (Or.inl ⟨by rfl, ?_⟩) ?_ ?_
    rotate_left
    ·intro w'
     go_simp
     with_reducible rfl
    rotate_left
    ·simp only [Act.put, List.setIfInBounds_toArray, List.set_cons_zero, List.set_cons_succ, i64_w, i32_w]
     rfl
    refine pure_ (i := 3) (N := some 70) (v := ?_) (a' := ?_) #[true, true, true, true, false, false, false, false, false, false, false, false, false, false, false, false, false, false, false, false, false, false, false, false, false, false, false, false, false, false, false, false] rfl rfl (any_of HT_.out (by kernel_rfl)) (fun _ _ _ h => h) (Or.inl ⟨by rfl, ?_⟩) ?_ ?_
    rotate_left
    ·intro w'
     go_simp
     with_reducible rfl
    rotate_left
    ·simp only [Act.put, List.setIfInBounds_toArray, List.set_cons_zero, List.set_cons_succ, i64_w, i32_w]
     rfl
    refine pure_ (i := 5) (N := some 72) (v := ?_) (a' := ?_) #[true, true, true, true, false, true, false, false, false, false, false, false, false, false, false, false, false, false, false, false, false, false, false, false, false, false, false, false, false, false, false, false] rfl rfl (any_of HT_.out (by kernel_rfl)) (fun _ _ _ h => h) (Or.inl ⟨by rfl, ?_⟩) ?_ ?_
    rotate_left
    ·intro w'
     go_simp
     with_reducible rfl
    rotate_left
    ·simp only [Act.put, List.setIfInBounds_toArray, List.set_cons_zero, List.set_cons_succ, i64_w, i32_w]
     rfl
    refine take_ (i := 6) (N := some 73) (v := ?_) (a' := ?_) #[true, true, true, true, false, true, true, false, false, false, false, false, false, false, false, false, false, false, false, false, false, false, false, false, false, false, false, false, false, false, false, false] rfl rfl (take_ofW HT_.out HW_.out (by kernel_rfl)) (fun _ _ _ h => h) (Or.inl ⟨by rfl, ?_⟩) hHeld ?_ ?_
    rotate_left
    ·rintro w' ⟨s0, s1, s2, s3⟩
     go_simp
     with_reducible rfl
    rotate_left
    ·simp only [Act.put, List.setIfInBounds_toArray, List.set_cons_zero, List.set_cons_succ, i64_w, i32_w]
     rfl
    refine one_ (i := 4) (N := some 71) #[true, true, true, true, true, true, true, false, false, false, false, false, false, false, false, false, false, false, false, false, false, false, false, false, false, false, false, false, false, false, false, false] rfl rfl (one_of HT_.out (by kernel_rfl)) (by decide) (fun K hK => ?_)
    refine goes_ Try.func19 (by kernel_rfl) rfl #[.pointer (some ⟨i.d, 0, none⟩)] (by rfl) rfl rfl (by simp only [List.map_toArray, List.map_cons, List.map_nil]; rfl) ?_
    with_reducible refine (dev_Down_any _ i _ _ _ _ _ _ hS3.dev).mono ?_
    rintro e w4 ⟨rfl, rfl⟩
    refine ⟨_, rfl, ?_⟩
    refine hK.out _ _ ⟨hHeld.1, hHeld.2.1, hHeld.2.2.1, hHeld.2.2.2⟩ (fun hHeld => ?_)
    clear hK K
    refine norm_ (a' := ?_) ?_ ?_
    rotate_left
    ·show Act.put _ (some 71) _ = _
     simp only [Act.put, List.setIfInBounds_toArray, List.set_cons_zero, List.set_cons_succ, i64_w, i32_w]
     rfl
    refine pure_ (i := 7) (N := some 74) (v := ?_) (a' := ?_) #[true, true, true, true, true, true, true, true, false, false, false, false, false, false, false, false, false, false, false, false, false, false, false, false, false, false, false, false, false, false, false, false] rfl rfl (any_of HT_.out (by kernel_rfl)) (fun _ _ _ h => h) (Or.inl ⟨by rfl, ?_⟩) ?_ ?_
    rotate_left
    ·intro w'
     go_simp
     with_reducible rfl
    rotate_left
    ·simp only [Act.put, List.setIfInBounds_toArray, List.set_cons_zero, List.set_cons_succ, i64_w, i32_w]
     rfl
    refine pure_ (i := 8) (N := some 75) (v := ?_) (a' := ?_) #[true, true, true, true, true, true, true, true, true, false, false, false, false, false, false, false, false, false, false, false, false, false, false, false, false, false, false, false, false, false, false, false] rfl rfl (any_of HT_.out (by kernel_rfl)) (fun _ _ _ h => h) (Or.inl ⟨by rfl, ?_⟩) ?_ ?_
    rotate_left
    ·intro w'
     go_simp
     with_reducible rfl
    rotate_left
    ·simp only [Act.put, List.setIfInBounds_toArray, List.set_cons_zero, List.set_cons_succ, i64_w, i32_w]
     rfl
    refine pure_ (i := 9) (N := some 76) (v := ?_) (a' := ?_) #[true, true, true, true, true, true, true, true, true, true, false, false, false, false, false, false, false, false, false, false, false, false, false, false, false, false, false, false, false, false, false, false] rfl rfl (any_of HT_.out (by kernel_rfl)) (fun _ _ _ h => h) (Or.inl ⟨by rfl, ?_⟩) ?_ ?_
    rotate_left
    ·intro w'
     go_simp
     with_reducible rfl
    rotate_left
    ·simp only [Act.put, List.setIfInBounds_toArray, List.set_cons_zero, List.set_cons_succ, i64_w, i32_w]
     rfl
    refine pure_ (i := 10) (N := some 77) (v := ?_) (a' := ?_) #[true, true, true, true, true, true, true, true, true, true, true, false, false, false, false, false, false, false, false, false, false, false, false, false, false, false, false, false, false, false, false, false] rfl rfl (any_of HT_.out (by kernel_rfl)) (fun _ _ _ h => h) (Or.inl ⟨by rfl, ?_⟩) ?_ ?_
    rotate_left
    ·intro w'
     go_simp
     with_reducible rfl
    rotate_left
    ·simp only [Act.put, List.setIfInBounds_toArray, List.set_cons_zero, List.set_cons_succ, i64_w, i32_w]
     rfl
    refine pure_ (i := 12) (N := some 79) (v := ?_) (a' := ?_) #[true, true, true, true, true, true, true, true, true, true, true, false, true, false, false, false, false, false, false, false, false, false, false, false, false, false, false, false, false, false, false, false] rfl rfl (any_of HT_.out (by kernel_rfl)) (fun _ _ _ h => h) (Or.inl ⟨by rfl, ?_⟩) ?_ ?_
    rotate_left
    ·intro w'
     go_simp
     with_reducible rfl
    rotate_left
    ·simp only [Act.put, List.setIfInBounds_toArray, List.set_cons_zero, List.set_cons_succ, i64_w, i32_w]
     rfl
    refine take_ (i := 13) (N := some 80) (v := ?_) (a' := ?_) #[true, true, true, true, true, true, true, true, true, true, true, false, true, true, false, false, false, false, false, false, false, false, false, false, false, false, false, false, false, false, false, false] rfl rfl (take_ofW HT_.out HW_.out (by kernel_rfl)) (fun _ _ _ h => h) (Or.inl ⟨by rfl, ?_⟩) hHeld ?_ ?_
    rotate_left
    ·rintro w' ⟨s0, s1, s2, s3⟩
     go_simp
     with_reducible rfl
    rotate_left
    ·simp only [Act.put, List.setIfInBounds_toArray, List.set_cons_zero, List.set_cons_succ, i64_w, i32_w]
     rfl
    refine one_ (i := 11) (N := some 78) #[true, true, true, true, true, true, true, true, true, true, true, true, true, true, false, false, false, false, false, false, false, false, false, false, false, false, false, false, false, false, false, false] rfl rfl (one_of HT_.out (by kernel_rfl)) (by decide) (fun K hK => ?_)
    refine goes_ Try.func20 (by kernel_rfl) rfl #[.pointer (some ⟨i.d, 0, none⟩)] (by rfl) rfl rfl (by simp only [List.map_toArray, List.map_cons, List.map_nil]; rfl) ?_
    with_reducible refine (dev_Writes_any _ i _ _ _ _ _ _ hS3.dev).mono ?_
    rintro e w4 ⟨rfl, rfl⟩
    refine ⟨_, rfl, ?_⟩
    refine hK.out _ _ ⟨hHeld.1, hHeld.2.1, hHeld.2.2.1, hHeld.2.2.2⟩ (fun hHeld => ?_)
    clear hK K
    refine norm_ (a' := ?_) ?_ ?_
    rotate_left
    ·show Act.put _ (some 78) _ = _
     simp only [Act.put, List.setIfInBounds_toArray, List.set_cons_zero, List.set_cons_succ, i64_w, i32_w]
     rfl
    refine pure_ (i := 14) (N := some 81) (v := ?_) (a' := ?_) #[true, true, true, true, true, true, true, true, true, true, true, true, true, true, true, false, false, false, false, false, false, false, false, false, false, false, false, false, false, false, false, false] rfl rfl (any_of HT_.out (by kernel_rfl)) (fun _ _ _ h => h) (Or.inl ⟨by rfl, ?_⟩) ?_ ?_
    rotate_left
    ·intro w'
     go_simp
     with_reducible rfl
    rotate_left
    ·simp only [Act.put, List.setIfInBounds_toArray, List.set_cons_zero, List.set_cons_succ, i64_w, i32_w]
     rfl
    refine pure_ (i := 15) (N := some 82) (v := ?_) (a' := ?_) #[true, true, true, true, true, true, true, true, true, true, true, true, true, true, true, true, false, false, false, false, false, false, false, false, false, false, false, false, false, false, false, false] rfl rfl (any_of HT_.out (by kernel_rfl)) (fun _ _ _ h => h) (Or.inl ⟨by rfl, ?_⟩) ?_ ?_
    rotate_left
    ·intro w'
     go_simp
     with_reducible rfl
    rotate_left
    ·simp only [Act.put, List.setIfInBounds_toArray, List.set_cons_zero, List.set_cons_succ, i64_w, i32_w]
     rfl
    refine pure_ (i := 16) (N := some 83) (v := ?_) (a' := ?_) #[true, true, true, true, true, true, true, true, true, true, true, true, true, true, true, true, true, false, false, false, false, false, false, false, false, false, false, false, false, false, false, false] rfl rfl (any_of HT_.out (by kernel_rfl)) (fun _ _ _ h => h) (Or.inl ⟨by rfl, ?_⟩) ?_ ?_
    rotate_left
    ·intro w'
     go_simp
     with_reducible rfl
    rotate_left
    ·simp only [Act.put, List.setIfInBounds_toArray, List.set_cons_zero, List.set_cons_succ, i64_w, i32_w]
     rfl
    refine pure_ (i := 17) (N := some 84) (v := ?_) (a' := ?_) #[true, true, true, true, true, true, true, true, true, true, true, true, true, true, true, true, true, true, false, false, false, false, false, false, false, false, false, false, false, false, false, false] rfl rfl (any_of HT_.out (by kernel_rfl)) (fun _ _ _ h => h) (Or.inl ⟨by rfl, ?_⟩) ?_ ?_
    rotate_left
    ·intro w'
     go_simp
     with_reducible rfl
    rotate_left
    ·simp only [Act.put, List.setIfInBounds_toArray, List.set_cons_zero, List.set_cons_succ, i64_w, i32_w]
     rfl
    refine take_ (i := 19) (N := some 86) (v := ?_) (a' := ?_) #[true, true, true, true, true, true, true, true, true, true, true, true, true, true, true, true, true, true, false, true, false, false, false, false, false, false, false, false, false, false, false, false] rfl rfl (take_ofW HT_.out HW_.out (by kernel_rfl)) (fun _ _ _ h => h) (Or.inl ⟨by rfl, ?_⟩) hHeld ?_ ?_
    rotate_left
    ·rintro w' ⟨s0, s1, s2, s3⟩
     go_simp
     with_reducible rfl
    rotate_left
    ·simp only [Act.put, List.setIfInBounds_toArray, List.set_cons_zero, List.set_cons_succ, i64_w, i32_w]
     rfl
    refine one_ (i := 18) (N := some 85) #[true, true, true, true, true, true, true, true, true, true, true, true, true, true, true, true, true, true, true, true, false, false, false, false, false, false, false, false, false, false, false, false] rfl rfl (one_of HT_.out (by kernel_rfl)) (by decide) (fun K hK => ?_)
    refine goes_ Try.func14 (by kernel_rfl) rfl #[.pointer (some ⟨i.d, 0, none⟩)] (by rfl) rfl rfl (by simp only [List.map_toArray, List.map_cons, List.map_nil]; rfl) ?_
    with_reducible refine (dev_Waiting_any _ i _ _ _ _ _ _ hS3.dev).mono ?_
    rintro e w3 ⟨Aw, cw, rfl, hcw, hCw, hb3, _⟩
    refine ⟨_, rfl, ?_⟩
    replace hS3 := hS3.below hb3
    refine hK.out _ _ ⟨pw_cell_below hb3 hHeld.1, pw_cell_below hb3 hHeld.2.1, pw_cell_below hb3 hHeld.2.2.1, pw_cell_below hb3 hHeld.2.2.2⟩ (fun hHeld => ?_)
    clear hK K
    refine norm_ (a' := ?_) ?_ ?_
    rotate_left
    ·show Act.put _ (some 85) _ = _
     simp only [Act.put, List.setIfInBounds_toArray, List.set_cons_zero, List.set_cons_succ, i64_w, i32_w]
     rfl
    refine one_ (i := 20) (N := some 87) #[true, true, true, true, true, true, true, true, true, true, true, true, true, true, true, true, true, true, true, true, true, false, false, false, false, false, false, false, false, false, false, false] rfl rfl (one_of HT_.out (by kernel_rfl)) (by decide) (fun K hK => ?_)
    refine goes_ Try.func22 (by kernel_rfl) rfl #[.agg #[.slice A4 xs.length c4, .bool off4, .int .i64 fuse4, .int .i64 nw4]] (by rfl) rfl rfl (by simp only [List.map_toArray, List.map_cons, List.map_nil]; rfl) ?_
    with_reducible refine (ref_Waiting _ _ xs4 F4 B4 off4 fuse4 nw4 hS3.ref hS3.dev.ok hS3.dev.nodF).mono ?_
    rintro e w3 ⟨Ar, cr, rfl, hcr, hCr, hb3⟩
    refine ⟨_, rfl, ?_⟩
    replace hS3 := hS3.below hb3
    replace hCw := Kd.C_below hCw hb3
    refine hK.out _ _ ⟨pw_cell_below hb3 hHeld.1, pw_cell_below hb3 hHeld.2.1, pw_cell_below hb3 hHeld.2.2.1, pw_cell_below hb3 hHeld.2.2.2⟩ (fun hHeld => ?_)
    clear hK K
    refine norm_ (a' := ?_) ?_ ?_
    rotate_left
    ·show Act.put _ (some 87) _ = _
     simp only [Act.put, List.setIfInBounds_toArray, List.set_cons_zero, List.set_cons_succ, i64_w, i32_w]
     rfl
    refine one_ (i := 21) (N := some 88) #[true, true, true, true, true, true, true, true, true, true, true, true, true, true, true, true, true, true, true, true, true, true, false, false, false, false, false, false, false, false, false, false] rfl rfl (one_of HT_.out (by kernel_rfl)) (by decide) (fun K hK => ?_)
    refine goes_ Try.func21 (by kernel_rfl) rfl #[.slice Aw F4.length cw, .slice Ar F4.length cr] (by rfl) rfl rfl (by simp only [List.map_toArray, List.map_cons, List.map_nil]; rfl) ?_
    with_reducible refine (same_is _ Aw Ar cw cr F4.length (keysI F4) (keysI_len F4) hS3.dev.lenF hCw hcw hCr hcr).mono ?_
    rintro e w3 ⟨rfl, hb3⟩
    refine ⟨_, rfl, ?_⟩
    replace hS3 := hS3.below hb3
    refine hK.out _ _ ⟨pw_cell_below hb3 hHeld.1, pw_cell_below hb3 hHeld.2.1, pw_cell_below hb3 hHeld.2.2.1, pw_cell_below hb3 hHeld.2.2.2⟩ (fun hHeld => ?_)
    clear hK K
    refine norm_ (a' := ?_) ?_ ?_
    rotate_left
    ·show Act.put _ (some 88) _ = _
     simp only [Act.put, List.setIfInBounds_toArray, List.set_cons_zero, List.set_cons_succ, i64_w, i32_w]
     rfl
    refine pure_ (i := 22) (N := some 89) (v := ?_) (a' := ?_) #[true, true, true, true, true, true, true, true, true, true, true, true, true, true, true, true, true, true, true, true, true, true, true, false, false, false, false, false, false, false, false, false] rfl rfl (any_of HT_.out (by kernel_rfl)) (fun _ _ _ h => h) (Or.inl ⟨by rfl, ?_⟩) ?_ ?_
    rotate_left
    ·intro w'
     go_simp
     with_reducible rfl
    rotate_left
    ·simp only [Act.put, List.setIfInBounds_toArray, List.set_cons_zero, List.set_cons_succ, i64_w, i32_w]
     rfl
    refine pure_ (i := 23) (N := some 90) (v := ?_) (a' := ?_) #[true, true, true, true, true, true, true, true, true, true, true, true, true, true, true, true, true, true, true, true, true, true, true, true, false, false, false, false, false, false, false, false] rfl rfl (any_of HT_.out (by kernel_rfl)) (fun _ _ _ h => h) (Or.inl ⟨by rfl, ?_⟩) ?_ ?_
    rotate_left
    ·intro w'
     go_simp
     with_reducible rfl
    rotate_left
    ·simp only [Act.put, List.setIfInBounds_toArray, List.set_cons_zero, List.set_cons_succ, i64_w, i32_w]
     rfl
    refine pure_ (i := 24) (N := some 91) (v := ?_) (a' := ?_) #[true, true, true, true, true, true, true, true, true, true, true, true, true, true, true, true, true, true, true, true, true, true, true, true, true, false, false, false, false, false, false, false] rfl rfl (any_of HT_.out (by kernel_rfl)) (fun _ _ _ h => h) (Or.inl ⟨by rfl, ?_⟩) ?_ ?_
    rotate_left
    ·intro w'
     go_simp
     with_reducible rfl
    rotate_left
    ·simp only [Act.put, List.setIfInBounds_toArray, List.set_cons_zero, List.set_cons_succ, i64_w, i32_w]
     rfl
    refine pure_ (i := 25) (N := some 92) (v := ?_) (a' := ?_) #[true, true, true, true, true, true, true, true, true, true, true, true, true, true, true, true, true, true, true, true, true, true, true, true, true, true, false, false, false, false, false, false] rfl rfl (any_of HT_.out (by kernel_rfl)) (fun _ _ _ h => h) (Or.inl ⟨by rfl, ?_⟩) ?_ ?_
    rotate_left
    ·intro w'
     go_simp
     with_reducible rfl
    rotate_left
    ·simp only [Act.put, List.setIfInBounds_toArray, List.set_cons_zero, List.set_cons_succ, i64_w, i32_w]
     rfl
    refine take_ (i := 27) (N := some 94) (v := ?_) (a' := ?_) #[true, true, true, true, true, true, true, true, true, true, true, true, true, true, true, true, true, true, true, true, true, true, true, true, true, true, false, true, false, false, false, false] rfl rfl (take_ofW HT_.out HW_.out (by kernel_rfl)) (fun _ _ _ h => h) (Or.inl ⟨by rfl, ?_⟩) hHeld ?_ ?_
    rotate_left
    ·rintro w' ⟨s0, s1, s2, s3⟩
     go_simp
     with_reducible rfl
    rotate_left
    ·simp only [Act.put, List.setIfInBounds_toArray, List.set_cons_zero, List.set_cons_succ, i64_w, i32_w]
     rfl
    refine one_ (i := 26) (N := some 93) #[true, true, true, true, true, true, true, true, true, true, true, true, true, true, true, true, true, true, true, true, true, true, true, true, true, true, true, true, false, false, false, false] rfl rfl (one_of HT_.out (by kernel_rfl)) (by decide) (fun K hK => ?_)
    refine goes_ Try.func23 (by kernel_rfl) rfl #[.pointer (some ⟨i.d, 0, none⟩)] (by rfl) rfl rfl (by simp only [List.map_toArray, List.map_cons, List.map_nil]; rfl) ?_
    with_reducible refine (dev_Bad_any _ i _ _ _ _ _ _ hS3.dev).mono ?_
    rintro e w3 ⟨Ab, cb, rfl, hcb, hCb, hb3, _⟩
    refine ⟨_, rfl, ?_⟩
    replace hS3 := hS3.below hb3
    refine hK.out _ _ ⟨pw_cell_below hb3 hHeld.1, pw_cell_below hb3 hHeld.2.1, pw_cell_below hb3 hHeld.2.2.1, pw_cell_below hb3 hHeld.2.2.2⟩ (fun hHeld => ?_)
    clear hK K
    refine norm_ (a' := ?_) ?_ ?_
    rotate_left
    ·show Act.put _ (some 93) _ = _
     simp only [Act.put, List.setIfInBounds_toArray, List.set_cons_zero, List.set_cons_succ, i64_w, i32_w]
     rfl
    refine one_ (i := 28) (N := some 95) #[true, true, true, true, true, true, true, true, true, true, true, true, true, true, true, true, true, true, true, true, true, true, true, true, true, true, true, true, true, false, false, false] rfl rfl (one_of HT_.out (by kernel_rfl)) (by decide) (fun K hK => ?_)
    refine goes_ Try.func24 (by kernel_rfl) rfl #[.agg #[.slice A4 xs.length c4, .bool off4, .int .i64 fuse4, .int .i64 nw4]] (by rfl) rfl rfl (by simp only [List.map_toArray, List.map_cons, List.map_nil]; rfl) ?_
    with_reducible refine (ref_Bad _ _ xs4 F4 B4 off4 fuse4 nw4 hS3.ref hS3.dev.ok hS3.dev.nodB).mono ?_
    rintro e w3 ⟨Aq, cq, rfl, hcq, hCq, hb3⟩
    refine ⟨_, rfl, ?_⟩
    replace hS3 := hS3.below hb3
    replace hCb := Kd.C_below hCb hb3
    refine hK.out _ _ ⟨pw_cell_below hb3 hHeld.1, pw_cell_below hb3 hHeld.2.1, pw_cell_below hb3 hHeld.2.2.1, pw_cell_below hb3 hHeld.2.2.2⟩ (fun hHeld => ?_)
    clear hK K
    refine norm_ (a' := ?_) ?_ ?_
    rotate_left
    ·show Act.put _ (some 95) _ = _
     simp only [Act.put, List.setIfInBounds_toArray, List.set_cons_zero, List.set_cons_succ, i64_w, i32_w]
     rfl
    refine one_ (i := 29) (N := some 96) #[true, true, true, true, true, true, true, true, true, true, true, true, true, true, true, true, true, true, true, true, true, true, true, true, true, true, true, true, true, true, false, false] rfl rfl (one_of HT_.out (by kernel_rfl)) (by decide) (fun K hK => ?_)
    refine goes_ Try.func21 (by kernel_rfl) rfl #[.slice Ab B4.length cb, .slice Aq B4.length cq] (by rfl) rfl rfl (by simp only [List.map_toArray, List.map_cons, List.map_nil]; rfl) ?_
    with_reducible refine (same_is _ Ab Aq cb cq B4.length (keysI B4) (keysI_len B4) hS3.dev.lenB hCb hcb hCq hcq).mono ?_
    rintro e w3 ⟨rfl, hb3⟩
    refine ⟨_, rfl, ?_⟩
    replace hS3 := hS3.below hb3
    refine hK.out _ _ ⟨pw_cell_below hb3 hHeld.1, pw_cell_below hb3 hHeld.2.1, pw_cell_below hb3 hHeld.2.2.1, pw_cell_below hb3 hHeld.2.2.2⟩ (fun hHeld => ?_)
    clear hK K
    refine norm_ (a' := ?_) ?_ ?_
    rotate_left
    ·show Act.put _ (some 96) _ = _
     simp only [Act.put, List.setIfInBounds_toArray, List.set_cons_zero, List.set_cons_succ, i64_w, i32_w]
     rfl
    refine pure_ (i := 30) (N := some 97) (v := ?_) (a' := ?_) #[true, true, true, true, true, true, true, true, true, true, true, true, true, true, true, true, true, true, true, true, true, true, true, true, true, true, true, true, true, true, true, false] rfl rfl (any_of HT_.out (by kernel_rfl)) (fun _ _ _ h => h) (Or.inl ⟨by rfl, ?_⟩) ?_ ?_
    rotate_left
    ·intro w'
     go_simp
     with_reducible rfl
    rotate_left
    ·simp only [Act.put, List.setIfInBounds_toArray, List.set_cons_zero, List.set_cons_succ, i64_w, i32_w]
     rfl
    refine pure_ (i := 31) (N := some 98) (v := ?_) (a' := ?_) #[true, true, true, true, true, true, true, true, true, true, true, true, true, true, true, true, true, true, true, true, true, true, true, true, true, true, true, true, true, true, true, true] rfl rfl (any_of HT_.out (by kernel_rfl)) (fun _ _ _ h => h) (Or.inl ⟨by rfl, ?_⟩) ?_ ?_
    rotate_left
    ·intro w'
     go_simp
     with_reducible rfl
    rotate_left
    ·simp only [Act.put, List.setIfInBounds_toArray, List.set_cons_zero, List.set_cons_succ, i64_w, i32_w]
     rfl
    refine done_ (done_of HT_.out (by kernel_rfl)) ?_
    clear hHeld hCw hCr hCb hCq
    by_cases h5 : (k : Int) % 5 = 4
    ·go_wp2_with (go_at_call 25; refine (dev_Clone_any _ i _ _ _ _ _ _ hS3.dev).mono ?_)
     rintro e w5 ⟨i5, rfl, hD5, hi5, hb5⟩
     have hS5 : PlS w w5 T i5 (.slice A4 xs.length c4) xs4 F4 B4 off4 fuse4 nw4 := ⟨hD5, hS3.ref.below hb5, Stepb hb5 hS3.bx, hS3.bl.trans (hb5.mono hS3.bl.size), fun k hk => Nat.le_trans hS3.bl.size (hi5 k hk), hS3.tl⟩
     have hxx : xs.length = xs4.length := by omega
     rw [hxx] at hS5
     clear hS3 hD5 hi5 hb5
     go_wp2
     exact ⟨⟨k + 1, i5, A4, c4, xs4, _, _, _, _, _, by omega, by simp, rfl, hxl4, hS5⟩, by simp [intOf]; omega⟩
    ·have hxx : xs.length = xs4.length := by omega
     have hS5 := hS3
     rw [hxx] at hS5
     clear hS3 hxx
     go_wp2
     exact ⟨⟨k + 1, i, A4, c4, xs4, _, _, _, _, _, by omega, by simp, rfl, hxl4, hS5⟩, by simp [intOf]; omega⟩
   ·have ek : k = l1.length := by omega
    subst ek
    obtain ⟨⟨t0, t1, t2, t3⟩, _⟩ := blk4 hS.bx
    go_wp2_with fail
    try simp only [List.append_eq, List.cons_append, List.nil_append]
    have hS3 := hS.below (below_drew1 (Below.refl wr.heap.size wr))
    clear hS
    refine start_ (n := 16) (S := fun w' => w'.cell? ⟨T, 0, none⟩ = some (.slice A xs.length c) ∧ w'.cell? ⟨T, 1, none⟩ = some (.bool off) ∧ w'.cell? ⟨T, 2, none⟩ = some (.int .i64 fuse) ∧ w'.cell? ⟨T, 3, none⟩ = some (.int .i64 nw)) (ds := []) #[false, false, false, false, false, false, false, false, false, false, false, false, false, false, false, false] (by kernel_rfl) rfl rfl ⟨t0, t1, t2, t3⟩ (fun hHeld => ?_)
    refine with_tabW devPlays.tab21 devPlays.bits21 (fun HT_ HW_ => ?_)
    generalize wr.drew = w3 at hHeld hS3 ⊢
    refine pure_ (i := 0) (N := some 107) (v := ?_) (a' := ?_) #[true, false, false, false, false, false, false, false, false, false, false, false, false, false, false, false] rfl rfl (any_of HT_.out (by kernel_rfl)) (fun _ _ _ h => h) (Or.inl ⟨by rfl, ?_⟩) ?_ ?_
    rotate_left
    ·intro w'
     go_simp
     with_reducible rfl
    rotate_left
    ·simp only [Act.put, List.setIfInBounds_toArray, List.set_cons_zero, List.set_cons_succ, i64_w, i32_w]
     rfl
    refine pure_ (i := 1) (N := some 108) (v := ?_) (a' := ?_) #[true, true, false, false, false, false, false, false, false, false, false, false, false, false, false, false] rfl rfl (any_of HT_.out (by kernel_rfl)) (fun _ _ _ h => h) (Or.inl ⟨by rfl, ?_⟩) ?_ ?_
    rotate_left
    ·intro w'
     go_simp
     with_reducible rfl
    rotate_left
    ·simp only [Act.put, List.setIfInBounds_toArray, List.set_cons_zero, List.set_cons_succ, i64_w, i32_w]
     rfl
    refine pure_ (i := 2) (N := some 109) (v := ?_) (a' := ?_) #[true, true, true, false, false, false, false, false, false, false, false, false, false, false, false, false] rfl rfl (any_of HT_.out (by kernel_rfl)) (fun _ _ _ h => h) (Or.inl ⟨by rfl, ?_⟩) ?_ ?_
    rotate_left
    ·intro w'
     go_simp
     with_reducible rfl
    rotate_left
    ·simp only [Act.put, List.setIfInBounds_toArray, List.set_cons_zero, List.set_cons_succ, i64_w, i32_w]
     rfl
    refine pure_ (i := 3) (N := some 110) (v := ?_) (a' := ?_) #[true, true, true, true, false, false, false, false, false, false, false, false, false, false, false, false] rfl rfl (any_of HT_.out (by kernel_rfl)) (fun _ _ _ h => h) (Or.inl ⟨by rfl, ?_⟩) ?_ ?_
    rotate_left
    ·intro w'
     go_simp
     with_reducible rfl
    rotate_left
    ·simp only [Act.put, List.setIfInBounds_toArray, List.set_cons_zero, List.set_cons_succ, i64_w, i32_w]
     rfl
    refine take_ (i := 5) (N := some 112) (v := ?_) (a' := ?_) #[true, true, true, true, false, true, false, false, false, false, false, false, false, false, false, false] rfl rfl (take_ofW HT_.out HW_.out (by kernel_rfl)) (fun _ _ _ h => h) (Or.inl ⟨by rfl, ?_⟩) hHeld ?_ ?_
    rotate_left
    ·rintro w' ⟨s0, s1, s2, s3⟩
     go_simp
     with_reducible rfl
    rotate_left
    ·simp only [Act.put, List.setIfInBounds_toArray, List.set_cons_zero, List.set_cons_succ, i64_w, i32_w]
     rfl
    refine one_ (i := 4) (N := some 111) #[true, true, true, true, true, true, false, false, false, false, false, false, false, false, false, false] rfl rfl (one_of HT_.out (by kernel_rfl)) (by decide) (fun K hK => ?_)
    refine goes_ Try.func26 (by kernel_rfl) rfl #[.pointer (some ⟨i.d, 0, none⟩)] (by rfl) rfl rfl (by simp only [List.map_toArray, List.map_cons, List.map_nil]; rfl) ?_
    with_reducible refine (dev_Bytes_any _ i _ _ _ _ _ _ hS3.dev).mono ?_
    rintro e w3 ⟨rfl, hb3⟩
    refine ⟨_, rfl, ?_⟩
    replace hS3 := hS3.below hb3
    refine hK.out _ _ ⟨pw_cell_below hb3 hHeld.1, pw_cell_below hb3 hHeld.2.1, pw_cell_below hb3 hHeld.2.2.1, pw_cell_below hb3 hHeld.2.2.2⟩ (fun hHeld => ?_)
    clear hK K
    refine norm_ (a' := ?_) ?_ ?_
    rotate_left
    ·show Act.put _ (some 111) _ = _
     simp only [Act.put, List.setIfInBounds_toArray, List.set_cons_zero, List.set_cons_succ, i64_w, i32_w]
     rfl
    refine one_ (i := 6) (N := some 113) #[true, true, true, true, true, true, true, false, false, false, false, false, false, false, false, false] rfl rfl (one_of HT_.out (by kernel_rfl)) (by decide) (fun K hK => ?_)
    refine goes_ Try.func27 (by kernel_rfl) rfl #[.agg #[.slice A xs.length c, .bool off, .int .i64 fuse, .int .i64 nw]] (by rfl) rfl rfl (by simp only [List.map_toArray, List.map_cons, List.map_nil]; rfl) ?_
    with_reducible refine (ref_Bytes _ _ xs F B off fuse nw hS3.ref hS3.dev.ok).mono ?_
    rintro e w3 ⟨rfl, hb3⟩
    refine ⟨_, rfl, ?_⟩
    replace hS3 := hS3.below hb3
    refine hK.out _ _ ⟨pw_cell_below hb3 hHeld.1, pw_cell_below hb3 hHeld.2.1, pw_cell_below hb3 hHeld.2.2.1, pw_cell_below hb3 hHeld.2.2.2⟩ (fun hHeld => ?_)
    clear hK K
    refine norm_ (a' := ?_) ?_ ?_
    rotate_left
    ·show Act.put _ (some 113) _ = _
     simp only [Act.put, List.setIfInBounds_toArray, List.set_cons_zero, List.set_cons_succ, i64_w, i32_w]
     rfl
    refine pure_ (i := 7) (N := some 114) (v := ?_) (a' := ?_) #[true, true, true, true, true, true, true, true, false, false, false, false, false, false, false, false] rfl rfl (any_of HT_.out (by kernel_rfl)) (fun _ _ _ h => h) (Or.inl ⟨by rfl, ?_⟩) ?_ ?_
    rotate_left
    ·intro w'
     go_simp
     with_reducible rfl
    rotate_left
    ·simp only [Act.put, List.setIfInBounds_toArray, List.set_cons_zero, List.set_cons_succ, i64_w, i32_w]
     rfl
    refine pure_ (i := 8) (N := some 115) (v := ?_) (a' := ?_) #[true, true, true, true, true, true, true, true, true, false, false, false, false, false, false, false] rfl rfl (any_of HT_.out (by kernel_rfl)) (fun _ _ _ h => h) (Or.inl ⟨by rfl, ?_⟩) ?_ ?_
    rotate_left
    ·intro w'
     go_simp
     with_reducible rfl
    rotate_left
    ·simp only [Act.put, List.setIfInBounds_toArray, List.set_cons_zero, List.set_cons_succ, i64_w, i32_w]
     rfl
    refine pure_ (i := 9) (N := some 116) (v := ?_) (a' := ?_) #[true, true, true, true, true, true, true, true, true, true, false, false, false, false, false, false] rfl rfl (any_of HT_.out (by kernel_rfl)) (fun _ _ _ h => h) (Or.inl ⟨by rfl, ?_⟩) ?_ ?_
    rotate_left
    ·intro w'
     go_simp
     with_reducible rfl
    rotate_left
    ·simp only [Act.put, List.setIfInBounds_toArray, List.set_cons_zero, List.set_cons_succ, i64_w, i32_w]
     rfl
    refine pure_ (i := 10) (N := some 117) (v := ?_) (a' := ?_) #[true, true, true, true, true, true, true, true, true, true, true, false, false, false, false, false] rfl rfl (any_of HT_.out (by kernel_rfl)) (fun _ _ _ h => h) (Or.inl ⟨by rfl, ?_⟩) ?_ ?_
    rotate_left
    ·intro w'
     go_simp
     with_reducible rfl
    rotate_left
    ·simp only [Act.put, List.setIfInBounds_toArray, List.set_cons_zero, List.set_cons_succ, i64_w, i32_w]
     rfl
    refine pure_ (i := 12) (N := some 119) (v := ?_) (a' := ?_) #[true, true, true, true, true, true, true, true, true, true, true, false, true, false, false, false] rfl rfl (any_of HT_.out (by kernel_rfl)) (fun _ _ _ h => h) (Or.inl ⟨by rfl, ?_⟩) ?_ ?_
    rotate_left
    ·intro w'
     go_simp
     with_reducible rfl
    rotate_left
    ·simp only [Act.put, List.setIfInBounds_toArray, List.set_cons_zero, List.set_cons_succ, i64_w, i32_w]
     rfl
    refine one_ (i := 11) (N := some 118) #[true, true, true, true, true, true, true, true, true, true, true, true, true, false, false, false] rfl rfl (one_of HT_.out (by kernel_rfl)) (by decide) (fun K hK => ?_)
    refine goes_ Try.func28 (by kernel_rfl) rfl #[.pointer (some ⟨i.d, 0, none⟩)] (by rfl) rfl rfl (by simp only [List.map_toArray, List.map_cons, List.map_nil]; rfl) ?_
    with_reducible refine (dev_Sectors_any _ i _ _ _ _ _ _ hS3.dev).mono ?_
    rintro e w4 ⟨rfl, rfl⟩
    refine ⟨_, rfl, ?_⟩
    refine hK.out _ _ ⟨hHeld.1, hHeld.2.1, hHeld.2.2.1, hHeld.2.2.2⟩ (fun hHeld => ?_)
    clear hK K
    refine norm_ (a' := ?_) ?_ ?_
    rotate_left
    ·show Act.put _ (some 118) _ = _
     simp only [Act.put, List.setIfInBounds_toArray, List.set_cons_zero, List.set_cons_succ, i64_w, i32_w]
     rfl
    refine pure_ (i := 13) (N := some 120) (v := ?_) (a' := ?_) #[true, true, true, true, true, true, true, true, true, true, true, true, true, true, false, false] rfl rfl (any_of HT_.out (by kernel_rfl)) (fun _ _ _ h => h) (Or.inl ⟨by rfl, ?_⟩) ?_ ?_
    rotate_left
    ·intro w'
     go_simp
     with_reducible rfl
    rotate_left
    ·simp only [Act.put, List.setIfInBounds_toArray, List.set_cons_zero, List.set_cons_succ, i64_w, i32_w]
     rfl
    refine pure_ (i := 14) (N := some 121) (v := ?_) (a' := ?_) #[true, true, true, true, true, true, true, true, true, true, true, true, true, true, true, false] rfl rfl (any_of HT_.out (by kernel_rfl)) (fun _ _ _ h => h) (Or.inl ⟨by rfl, ?_⟩) ?_ ?_
    rotate_left
    ·intro w'
     go_simp
     with_reducible rfl
    rotate_left
    ·simp only [Act.put, List.setIfInBounds_toArray, List.set_cons_zero, List.set_cons_succ, i64_w, i32_w]
     rfl
    refine pure_ (i := 15) (N := some 4) (v := ?_) (a' := ?_) #[true, true, true, true, true, true, true, true, true, true, true, true, true, true, true, true] rfl rfl (any_of HT_.out (by kernel_rfl)) (fun _ _ _ h => h) (Or.inl ⟨by rfl, ?_⟩) ?_ ?_
    rotate_left
    ·intro w'
     go_simp
     with_reducible rfl
    rotate_left
    ·simp only [Act.put, List.setIfInBounds_toArray, List.set_cons_zero, List.set_cons_succ, i64_w, i32_w]
     rfl
    refine done_ (done_of HT_.out (by kernel_rfl)) ?_
    go_wp2
    go_ret
    exact ⟨rfl, hS3.bl⟩
 ·have gn : ¬ (1 ≤ a0 ∧ a0 ≤ 32768) := by omega
  by_cases g3 : 64 < a0
  ·have d1 : decide (64 < a0) = true := decide_eq_true g3
   have d2 : decide (a0 ≤ 32768) = false := decide_eq_false (by omega)
   go_wp2_with (go_at_call 10; refine (dev_New_no w1 a0 gn).mono ?_)
   rintro e w2 ⟨rfl, hb2⟩
   go_wp2_with (go_at_call 17; refine (ref_New_no w2 a0 gn).mono ?_)
   rintro e w3 ⟨A, c, rfl, hb3⟩
   have hB3 := (hb1.trans (hb2.mono hb1.size)).trans (hb3.mono (hb1.trans (hb2.mono hb1.size)).size)
   clear hb1 hb2 hb3
   go_wp2
   go_ret
   exact ⟨rfl, hB3.alloc hB3.size _⟩
  ·have d1 : decide (64 < a0) = false := decide_eq_false g3
   go_wp2_with (go_at_call 10; refine (dev_New_no w1 a0 gn).mono ?_)
   rintro e w2 ⟨rfl, hb2⟩
   go_wp2_with (go_at_call 17; refine (ref_New_no w2 a0 gn).mono ?_)
   rintro e w3 ⟨A, c, rfl, hb3⟩
   have hB3 := (hb1.trans (hb2.mono hb1.size)).trans (hb3.mono (hb1.trans (hb2.mono hb1.size)).size)
   clear hb1 hb2 hb3
   go_wp2
   go_ret
   exact ⟨rfl, hB3.alloc hB3.size _⟩
end

end Go.Proofs.Ytkdbgdglmbnnkaa.HDQ
