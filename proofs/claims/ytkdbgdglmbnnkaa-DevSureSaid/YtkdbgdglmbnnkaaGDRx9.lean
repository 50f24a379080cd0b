/- WRITTEN BY wip/hyb.py, a program of this workplace (out of the kit's printer and this workplace's own contracts). -/
import Derived.Test.YtkdbgdglmbnnkaaGDRx0
import Derived.Test.YtkdbgdglmbnnkaaGDRx2
import Derived.Test.YtkdbgdglmbnnkaaGDRx4
import Derived.Test.YtkdbgdglmbnnkaaGDRx6
import Derived.Test.YtkdbgdglmbnnkaaGDRx7
import Derived.Test.YtkdbgdglmbnnkaaGDRx8
namespace Go.Proofs.Ytkdbgdglmbnnkaa.HDR
open Go.RowKit Go.Proofs.YtkdbgdglmbnnkaaW.PrintWords Go.Proofs.YtkdbgdglmbnnkaaW.PrintLast Go.Proofs.YtkdbgdglmbnnkaaW.PrintMore
attribute [local go_sem] max2_int min2_int max_two min_two max_three min_three max_four min_four   -- for this text's walks alone
set_option linter.unusedVariables false
set_option linter.unusedSimpArgs false

section
open Go Go.Shelf Go.Maps Go.Proofs.Ytkdbgdglmbnnkaa.Seq Go.Proofs.Ytkdbgdglmbnnkaa.MapL Go.Proofs.YtkdbgdglmbnnkaaW.PrintLast
attribute [local go_sem] Oper.semAt_some max2_int min2_int max_two min_two
section
variable {α : Type} {wr : World} {T : Nat} {t : TypeId} {L : List α} {f : α → Value}
theorem arr_cell (h : wr.heap[T]? = some (.cells (L.map f).toArray t (0, 0))) (d : α) {k : Nat} (hk : k < L.length) : wr.cell? ⟨T, k, none⟩ = some (f (L.getD k d)) ∧ wr.frozen? ⟨T, k, none⟩ = false := by
 refine ⟨?_, blk_frozen h k⟩
 rw [blk_cell h]
 simp [List.getD, hk]
theorem arr_set (h : wr.heap[T]? = some (.cells (L.map f).toArray t (0, 0))) (k : Nat) (c : α) : (wr.setCell ⟨T, k, none⟩ (f c)).heap[T]? = some (.cells ((L.set k c).map f).toArray t (0, 0)) := by
 rw [blk_set h]
 congr 2
 apply Array.ext'
 simp [List.map_set]
end
theorem getD_set {α : Type} (L : List α) (k : Nat) (c d : α) (j : Nat) (hk : k < L.length) : (L.set k c).getD j d = if k = j then c else L.getD j d := by
 rw [List.getD_eq_getElem?_getD, List.getElem?_set]
 by_cases e : k = j
 ·subst e; simp [hk]
 ·simp [e, List.getD_eq_getElem?_getD]
structure ArS (w wr : World) (i : DevIds) (T9 T10 : Nat) (xs : List ByteArray) (F : FL) (nw : Int) (Su La : List Int) : Prop where
 dev : DevAt wr i xs F [] false (-1) nw
 su : wr.heap[T9]? = some (.cells (Su.map (Value.int .u8)).toArray 29 (0, 0))
 la : wr.heap[T10]? = some (.cells (La.map (Value.int .u8)).toArray 29 (0, 0))
 bl : Below w.heap.size w wr
 lsu : Su.length = 8
 lla : La.length = 8
section
variable {w wr w' : World} {i : DevIds} {T9 T10 : Nat} {xs : List ByteArray} {F : FL} {nw : Int} {Su La : List Int}
theorem ArS.below (h : ArS w wr i T9 T10 xs F nw Su La) (hb : Below wr.heap.size wr w') : ArS w w' i T9 T10 xs F nw Su La :=
 ⟨h.dev.below hb, Stepb hb h.su, Stepb hb h.la, h.bl.trans (hb.mono h.bl.size), h.lsu, h.lla⟩
theorem ArS.step (h : ArS w wr i T9 T10 xs F nw Su La) {S : Nat → Prop} (hs : Step S wr w') (h1 : ∀ k, i.In k → ¬ S k) (h2 : ¬ S T9) (h3 : ¬ S T10) (h4 : ∀ k, S k → w.heap.size ≤ k) : ArS w w' i T9 T10 xs F nw Su La :=
 ⟨h.dev.step hs h1, hs.block h.su h2, hs.block h.la h3, h.bl.trans (hs.below h.bl.size h4), h.lsu, h.lla⟩
theorem ArS.put (h : ArS w wr i T9 T10 xs F nw Su La) {xs' : List ByteArray} {F' : FL} {nw' : Int} (hD : DevAt w' i xs' F' [] false (-1) nw') (hs : Step i.In wr w') (h2 : ¬ i.In T9) (h3 : ¬ i.In T10) (hlo : ∀ k, i.In k → w.heap.size ≤ k) : ArS w w' i T9 T10 xs' F' nw' Su La :=
 ⟨hD, hs.block h.su h2, hs.block h.la h3, h.bl.trans (hs.below h.bl.size hlo), h.lsu, h.lla⟩
theorem ArS.setSu (h : ArS w wr i T9 T10 xs F nw Su La) (k : Nat) (c : Int) (h2 : ¬ i.In T9) (hne : T9 ≠ T10) (ht : w.heap.size ≤ T9) : ArS w (wr.setCell ⟨T9, k, none⟩ (.int .u8 c)) i T9 T10 xs F nw (Su.set k c) La := by
 have hs : Step (fun q => q = T9) wr (wr.setCell ⟨T9, k, none⟩ (.int .u8 c)) := Step.setCell wr (p := ⟨T9, k, none⟩) (S := fun q => q = T9) rfl _
 exact ⟨h.dev.step hs (fun q hq e => h2 (e ▸ hq)), arr_set h.su k c, hs.block h.la (fun e => hne e.symm), h.bl.setCell (p := ⟨T9, k, none⟩) ht _, by rw [List.length_set]; exact h.lsu, h.lla⟩
theorem ArS.setLa (h : ArS w wr i T9 T10 xs F nw Su La) (k : Nat) (c : Int) (h2 : ¬ i.In T10) (hne : T9 ≠ T10) (ht : w.heap.size ≤ T10) : ArS w (wr.setCell ⟨T10, k, none⟩ (.int .u8 c)) i T9 T10 xs F nw Su (La.set k c) := by
 have hs : Step (fun q => q = T10) wr (wr.setCell ⟨T10, k, none⟩ (.int .u8 c)) := Step.setCell wr (p := ⟨T10, k, none⟩) (S := fun q => q = T10) rfl _
 exact ⟨h.dev.step hs (fun q hq e => h2 (e ▸ hq)), hs.block h.su hne, arr_set h.la k c, h.bl.setCell (p := ⟨T10, k, none⟩) ht _, h.lsu, by rw [List.length_set]; exact h.lla⟩
end
theorem C_int_step {w w' : World} {S : Nat → Prop} {A : Option Addr} {n : Nat} {xs : List Int} (h : Kd.C (Kd.int .i64) w A n xs) (hs : Step S w w') (hn : ∀ a, A = some a → ¬ S a.block) : Kd.C (Kd.int .i64) w' A n xs := by
 obtain ⟨h1, h2, h3⟩ := h
 refine ⟨h1, h2, fun hp => ?_⟩
 obtain ⟨ad, e, hx⟩ := h3 hp
 refine ⟨ad, e, fun j p hj => ?_⟩
 obtain ⟨cs, hK, hl, hc⟩ := hx j p hj
 exact ⟨cs, hK, hl, fun i u hu => hs.cell (hc i u hu) (by rw [add_block]; exact hn ad e)⟩
theorem read_plain {xs : List ByteArray} (hl : xs.length = 8) {k : Nat} (hk : k < 8) : readP xs [] [] false (k : Int) = (xs.getD k ⟨#[]⟩, 0) := by
 have hr : reachP xs.length false (k : Int) = 0 := by
  unfold reachP
  rw [if_neg (by decide), if_pos (by omega)]
 unfold readP
 rw [hr]
 rfl
theorem wait_at {F : FL} {k : Nat} (hg : (getL (k : Int) F).isSome = true) : ∀ m, k + 1 ≤ m → (waitL m F)[(waitL k F).length]? = some (k : Int) := by
 intro m hm
 induction m with
 | zero => omega
 | succ m ih =>
  rw [waitL_succ]
  by_cases e : m = k
  ·subst e
   rw [if_pos hg]
   simp
  ·have h1 := ih (by omega)
   rw [List.getElem?_append_left (List.getElem?_eq_some_iff.1 h1).1]
   exact h1
def Inv1 (F : FL) (Su : List Int) : Prop := ∀ j : Nat, j < 8 → (getL (j : Int) F).getD zeroS = fillS (Su.getD j 0)
def Inv2 (F : FL) (La : List Int) (Wo : List Bool) : Prop := ∀ j : Nat, j < 8 → Wo.getD j false = (getL (j : Int) F).isSome ∧ ∀ s, getL (j : Int) F = some s → s = fillS (La.getD j 0)
theorem Inv1.put {F : FL} {Su : List Int} (h : Inv1 F Su) (hl : Su.length = 8) {at_ : Int} (h0 : 0 ≤ at_) (h1 : at_ < 8) (c : Int) : Inv1 (putL at_ (fillS c) F) (Su.set at_.toNat c) := fun j hj => by
 rw [getL_putL, getD_set _ _ _ _ _ (by omega)]
 by_cases e : at_.toNat = j
 ·rw [if_pos (by omega), if_pos e]; rfl
 ·rw [if_neg (by omega), if_neg e]; exact h j hj
theorem Inv2.put {F : FL} {La : List Int} {Wo : List Bool} (h : Inv2 F La Wo) (hl : La.length = 8) (hw : Wo.length = 8) {at_ : Int} (h0 : 0 ≤ at_) (h1 : at_ < 8) (c : Int) : Inv2 (putL at_ (fillS c) F) (La.set at_.toNat c) (Wo.set at_.toNat true) := fun j hj => by
 rw [getL_putL, getD_set _ _ _ _ _ (by omega), getD_set _ _ _ _ _ (by omega)]
 by_cases e : at_.toNat = j
 ·have e2 : at_ = (j : Int) := by omega
  simp only [if_pos e, if_pos e2]
  exact ⟨rfl, fun s hs => (Option.some.inj hs).symm⟩
 ·have e2 : ¬ at_ = (j : Int) := by omega
  simp only [if_neg e, if_neg e2]
  exact h j hj
theorem wr_in (n : Nat) (F : FL) (nw : Int) (hn : n = 8) {at_ : Int} (h0 : 0 ≤ at_) (h1 : at_ < 8) (c : Int) : writeP n F false (-1) nw at_ (fillS c) = (putL at_ (fillS c) F, false, -1, wrap64 (nw + 1), 0) := by
 subst hn
 simp [writeP, reachP, burnP, fillS_size, h0, h1]
theorem wr_out (n : Nat) (F : FL) (nw : Int) (hn : n = 8) {at_ : Int} (h : ¬ (0 ≤ at_ ∧ at_ < 8)) (s : ByteArray) : writeP n F false (-1) nw at_ s = (F, false, -1, nw, 1) := by
 subst hn
 have h2 : ¬ (0 ≤ at_ ∧ at_ < ((8 : Nat) : Int)) := h
 have hr : reachP 8 false at_ = 1 := by
  unfold reachP
  rw [if_neg (by decide)]
  exact if_neg h2
 unfold writeP
 rw [hr]
 rfl
def devSure.T10 : Bool × List (List Nat × List Nat) := (true, [([], []), ([], []), ([1], [1]), ([], []), ([3], [3]), ([4], [4]), ([0, 2, 5, 5], [0, 2, 5]), ([6], [6])])
def devSure.B10 : List Nat := [0, 0, 2, 0, 8, 24, 63, 127]
theorem devSure.tab10 : rtab .any (opsOf Try.f3 10) = devSure.T10 := by kernel_rfl
theorem devSure.bits10 : waitsOk devSure.T10.2 devSure.B10 = true := by kernel_rfl
def devSure.T19 : Bool × List (List Nat × List Nat) := (true, [([], []), ([], []), ([1], [1]), ([], []), ([3], [3]), ([4], [4]), ([0, 2, 5, 5], [0, 2, 5]), ([6], [6])])
def devSure.B19 : List Nat := [0, 0, 2, 0, 8, 24, 63, 127]
theorem devSure.tab19 : rtab .any (opsOf Try.f3 19) = devSure.T19 := by kernel_rfl
theorem devSure.bits19 : waitsOk devSure.T19.2 devSure.B19 = true := by kernel_rfl
def devSure.T20 : Bool × List (List Nat × List Nat) := (true, [([], []), ([0], [0]), ([], []), ([2], [2]), ([], []), ([4], [4]), ([1, 0, 1, 4, 5], [1]), ([6, 5, 0, 1, 4, 5], [5, 6]), ([3, 0, 1, 2, 3, 4, 5, 6, 7], [3]), ([8, 7, 0, 1, 2, 3, 4, 5, 6, 7], [8])])
def devSure.B20 : List Nat := [0, 1, 0, 4, 0, 16, 51, 115, 255, 511]
theorem devSure.tab20 : rtab .any (opsOf Try.f3 20) = devSure.T20 := by kernel_rfl
theorem devSure.bits20 : waitsOk devSure.T20.2 devSure.B20 = true := by kernel_rfl
def caulklaw05_DevSure.Pure : Prop := True
set_option maxRecDepth 100000 in
set_option maxHeartbeats 16000000 in
theorem caulklaw05_DevSure.walk (P : caulklaw05_DevSure.Pure) (A0 : Option Addr) (c0 : Nat) (l0 : List S32) (A1 : Option Addr) (c1 : Nat) (l1 : List S32) (A2 : Option Addr) (c2 : Nat) (l2 : List Bool) (w : World) (hr0 : Kd.C k32 w A0 l0.length l0) (hc0 : l0.length ≤ c0) (hr1 : Kd.C k32 w A1 l1.length l1) (hc1 : l1.length ≤ c1) (hr2 : Kd.C Kd.bool w A2 l2.length l2) (hc2 : l2.length ≤ c2) (hw0 : (l0.length ≤ maxLen ∧ l0.length * 64 ≤ 140737488351232 ∧ ∀ z0 ∈ l0, wf32 z0)) (hw1 : (l1.length ≤ maxLen ∧ l1.length * 64 ≤ 140737488351232 ∧ ∀ z0 ∈ l1, wf32 z0)) (hw2 : (l2.length ≤ maxLen ∧ l2.length * 1 ≤ 140737488351232 ∧ ∀ z0 ∈ l2, True)) :
  Calls Try.prog 3 #[.slice A0 l0.length c0, .slice A1 l1.length c1, .slice A2 l2.length c2] w fun e w' => e = .returned (.bool true) ∧ Below w.heap.size w w' := by
 go_enter Try.func3, Try.ntmps3
 have hL := lives_any w
 go_wp2_with (go_at_call 9; refine hL.mono ?_)
 rintro e w1 ⟨rfl, hb1⟩
 clear hL
 have hN := dev_New_any w1 8 (by decide) (by decide)
 go_wp2_with (go_at_call 10; refine hN.mono ?_)
 rintro e w2 ⟨i, rfl, hD, hi, hb2⟩
 have hB2 := hb1.trans (hb2.mono hb1.size)
 have hlo : ∀ k, i.In k → w.heap.size ≤ k := fun k hk => Nat.le_trans hb1.size (hi k hk)
 clear hN hi hb1 hb2
 by_cases g0 : 40 < l0.length
 ·have d0 : decide (40 < (l0.length : Int)) = true := decide_eq_true (by omega)
  go_wp2
  go_ret
  exact ⟨rfl, hB2⟩
 by_cases g1 : 40 < l1.length
 ·have d0 : decide (40 < (l0.length : Int)) = false := decide_eq_false (by omega)
  have d1 : decide (40 < (l1.length : Int)) = true := decide_eq_true (by omega)
  go_wp2
  go_ret
  exact ⟨rfl, hB2⟩
 have d0 : decide (40 < (l0.length : Int)) = false := decide_eq_false (by omega)
 have d1 : decide (40 < (l1.length : Int)) = false := decide_eq_false (by omega)
 go_wp2_with fail
 have hilt := hD.lt
 rw [show (8 : Int).toNat = 8 from rfl] at hD
 have hxl : (List.replicate 8 zeroS).length = 8 := List.length_replicate
 have hxz : ∀ j : Nat, j < 8 → (List.replicate 8 zeroS).getD j ⟨#[]⟩ = zeroS := fun j hj => by rw [List.getD_eq_getElem?_getD, List.getElem?_replicate, if_pos hj]; rfl
 generalize List.replicate 8 zeroS = xs at hD hxl hxz
 have h9 := new1of2 w2 (.cells #[.int .u8 0, .int .u8 0, .int .u8 0, .int .u8 0, .int .u8 0, .int .u8 0, .int .u8 0, .int .u8 0] 29) (.cells #[.int .u8 0, .int .u8 0, .int .u8 0, .int .u8 0, .int .u8 0, .int .u8 0, .int .u8 0, .int .u8 0] 29)
 have h10 := new2 w2 (.cells #[.int .u8 0, .int .u8 0, .int .u8 0, .int .u8 0, .int .u8 0, .int .u8 0, .int .u8 0, .int .u8 0] 29) (.cells #[.int .u8 0, .int .u8 0, .int .u8 0, .int .u8 0, .int .u8 0, .int .u8 0, .int .u8 0, .int .u8 0] 29)
 have hb := below2 w2 (.cells #[.int .u8 0, .int .u8 0, .int .u8 0, .int .u8 0, .int .u8 0, .int .u8 0, .int .u8 0, .int .u8 0] 29) (.cells #[.int .u8 0, .int .u8 0, .int .u8 0, .int .u8 0, .int .u8 0, .int .u8 0, .int .u8 0, .int .u8 0] 29)
 have hS : ArS w ((w2.alloc (.cells #[.int .u8 0, .int .u8 0, .int .u8 0, .int .u8 0, .int .u8 0, .int .u8 0, .int .u8 0, .int .u8 0] 29)).alloc (.cells #[.int .u8 0, .int .u8 0, .int .u8 0, .int .u8 0, .int .u8 0, .int .u8 0, .int .u8 0, .int .u8 0] 29)) i w2.heap.size (w2.heap.size + 1) xs [] 0 (List.replicate 8 0) (List.replicate 8 0) := ⟨hD.below hb, h9, h10, hB2.trans (hb.mono hB2.size), rfl, rfl⟩
 have hT := hB2.size
 clear h9 h10 hb hD
 generalize (w2.alloc (.cells #[.int .u8 0, .int .u8 0, .int .u8 0, .int .u8 0, .int .u8 0, .int .u8 0, .int .u8 0, .int .u8 0] 29)).alloc (.cells #[.int .u8 0, .int .u8 0, .int .u8 0, .int .u8 0, .int .u8 0, .int .u8 0, .int .u8 0, .int .u8 0] 29) = W0 at hS ⊢
 generalize w2.heap.size = T9 at hS hT hilt ⊢
 clear hB2
 have hn9 : ¬ i.In T9 := fun h => by have := hilt _ h; omega
 have hn10 : ¬ i.In (T9 + 1) := fun h => by have := hilt _ h; omega
 have hI0 : Inv1 [] (List.replicate 8 0) := fun j hj => by
  have : (List.replicate 8 (0 : Int)).getD j 0 = 0 := by rw [List.getD_eq_getElem?_getD, List.getElem?_replicate, if_pos hj]; rfl
  rw [this]
  rfl
 generalize List.replicate 8 (0 : Int) = Z at hS hI0
 go_loopw [52] (fun t52 wr => ∃ (k : Nat) (F : FL) (nw : Int) (Su : List Int), k ≤ l0.length ∧ t52 = .int .i64 k ∧ ArS w wr i T9 (T9 + 1) xs F nw Su Z ∧ Inv1 F Su) (fun t52 _ => l0.length - (intOf t52).toNat)
 case atStart => exact ⟨0, [], 0, Z, Nat.zero_le _, rfl, hS, hI0⟩
 case round =>
  obtain ⟨k, F, nw, Su, hk, rfl, hS, hI⟩ := hrel
  clear hI0
  by_cases hlt : k < l0.length
  ·have hk1 : (k : Int) < (l0.length : Int) := by omega
   have hk0 : (0 : Int) ≤ (k : Int) := by omega
   have dk : decide ((k : Int) < (l0.length : Int)) = true := decide_eq_true hk1
   have hB := hS.bl
   have hTl := blk_lt hS.la
   obtain ⟨ad, A3, c3, ea, x0, x1, x2, x3, x4, x5, hl3, hi3⟩ := at_T32 hr0 (k : Int) (by omega) (by omega)
   cases ea
   obtain ⟨x, hx⟩ : ∃ x, x = rd_T32 l0 (k : Int) := ⟨_, rfl⟩
   rw [← hx] at x0 x1 x2 x3 x4 x5 hl3 hi3
   clear hx
   replace x0 := (hB.cell (World.block_lt_of_cell? w _ x0)).trans x0
   replace x1 := (hB.cell (World.block_lt_of_cell? w _ x1)).trans x1
   replace x2 := (hB.cell (World.block_lt_of_cell? w _ x2)).trans x2
   replace x3 := (hB.cell (World.block_lt_of_cell? w _ x3)).trans x3
   replace x4 := (hB.cell (World.block_lt_of_cell? w _ x4)).trans x4
   replace x5 := (hB.cell (World.block_lt_of_cell? w _ x5)).trans x5
   simp only [Int.toNat_natCast] at x0 x1 x2 x3 x4 x5
   have hS3 := hS.below ((Below.refl wr.heap.size wr).alloc (Nat.le_refl _) (.cells #[.int .i64 x.f0, .int .i64 x.f1, .int .u8 x.f2, .slice A3 x.f3.length c3, .int .i64 x.f4, .int .u32 x.f5] 32))
   have hxb := World.alloc_heap_new wr (.cells #[.int .i64 x.f0, .int .i64 x.f1, .int .u8 x.f2, .slice A3 x.f3.length c3, .int .i64 x.f4, .int .u32 x.f5] 32)
   have hbA : Below wr.heap.size wr (wr.alloc (.cells #[.int .i64 x.f0, .int .i64 x.f1, .int .u8 x.f2, .slice A3 x.f3.length c3, .int .i64 x.f4, .int .u32 x.f5] 32)) := (Below.refl wr.heap.size wr).alloc (Nat.le_refl _) (.cells #[.int .i64 x.f0, .int .i64 x.f1, .int .u8 x.f2, .slice A3 x.f3.length c3, .int .i64 x.f4, .int .u32 x.f5] 32)
   go_upto_region 10 with (fail)
   clear x0 x1 x2 x3 x4 x5 hl3 hi3 hS hB
   generalize wr.alloc (.cells #[.int .i64 x.f0, .int .i64 x.f1, .int .u8 x.f2, .slice A3 x.f3.length c3, .int .i64 x.f4, .int .u32 x.f5] 32) = W4 at hS3 hxb hbA ⊢
   have hxX : T9 + 1 < wr.heap.size := hTl
   clear hTl
   obtain ⟨_, a1, a2, _⟩ := blk6 hxb
   try simp only [List.append_eq, List.cons_append, List.nil_append]
   replace hS3 := hS3.below (below_drew1 (Below.refl W4.heap.size W4))
   by_cases hat : 0 ≤ x.f1 ∧ x.f1 < 8
   ·have hq := wr_in xs.length F nw hxl hat.1 hat.2 x.f2
    refine start_ (n := 8) (S := fun w' => w'.cell? ⟨wr.heap.size, 1, none⟩ = some (.int .i64 x.f1) ∧ w'.cell? ⟨wr.heap.size, 2, none⟩ = some (.int .u8 x.f2)) (ds := []) #[false, false, false, false, false, false, false, false] (by kernel_rfl) rfl rfl ⟨a1, a2⟩ (fun hHeld => ?_)
    refine with_tabW devSure.tab10 devSure.bits10 (fun HT_ HW_ => ?_)
    generalize W4.drew = w3 at hHeld hS3 ⊢
    refine pure_ (i := 0) (N := some 56) (v := ?_) (a' := ?_) #[true, false, false, false, false, false, false, false] rfl rfl (any_of HT_.out (by kernel_rfl)) (fun _ _ _ h => h) (Or.inl ⟨by rfl, ?_⟩) ?_ ?_
    rotate_left
    ·intro w'
     go_simp
     with_reducible rfl
    rotate_left
    ·simp only [Act.put, List.setIfInBounds_toArray, List.set_cons_zero, List.set_cons_succ, i64_w, i32_w]
     rfl
    refine pure_ (i := 1) (N := some 57) (v := ?_) (a' := ?_) #[true, true, false, false, false, false, false, false] rfl rfl (any_of HT_.out (by kernel_rfl)) (fun _ _ _ h => h) (Or.inl ⟨by rfl, ?_⟩) ?_ ?_
    rotate_left
    ·intro w'
     go_simp
     with_reducible rfl
    rotate_left
    ·simp only [Act.put, List.setIfInBounds_toArray, List.set_cons_zero, List.set_cons_succ, i64_w, i32_w]
     rfl
    refine pure_ (i := 3) (N := some 59) (v := ?_) (a' := ?_) #[true, true, false, true, false, false, false, false] rfl rfl (any_of HT_.out (by kernel_rfl)) (fun _ _ _ h => h) (Or.inl ⟨by rfl, ?_⟩) ?_ ?_
    rotate_left
    ·intro w'
     go_simp
     with_reducible rfl
    rotate_left
    ·simp only [Act.put, List.setIfInBounds_toArray, List.set_cons_zero, List.set_cons_succ, i64_w, i32_w]
     rfl
    refine take_ (i := 2) (N := some 58) (v := ?_) (a' := ?_) #[true, true, true, true, false, false, false, false] rfl rfl (take_ofW HT_.out HW_.out (by kernel_rfl)) (fun _ _ _ h => h) (Or.inl ⟨by rfl, ?_⟩) hHeld ?_ ?_
    rotate_left
    ·rintro w' ⟨s0, s1⟩
     go_simp
     with_reducible rfl
    rotate_left
    ·simp only [Act.put, List.setIfInBounds_toArray, List.set_cons_zero, List.set_cons_succ, i64_w, i32_w]
     rfl
    refine take_ (i := 4) (N := some 60) (v := ?_) (a' := ?_) #[true, true, true, true, true, false, false, false] rfl rfl (take_ofW HT_.out HW_.out (by kernel_rfl)) (fun _ _ _ h => h) (Or.inl ⟨by rfl, ?_⟩) hHeld ?_ ?_
    rotate_left
    ·rintro w' ⟨s0, s1⟩
     go_simp
     with_reducible rfl
    rotate_left
    ·simp only [Act.put, List.setIfInBounds_toArray, List.set_cons_zero, List.set_cons_succ, i64_w, i32_w]
     rfl
    refine one_ (i := 5) (N := some 61) #[true, true, true, true, true, true, false, false] rfl rfl (one_of HT_.out (by kernel_rfl)) (by decide) (fun K hK => ?_)
    refine goes_ Try.func12 (by kernel_rfl) rfl #[.int .u8 x.f2] (by rfl) rfl rfl (by simp only [List.map_toArray, List.map_cons, List.map_nil]; rfl) ?_
    with_reducible refine (fill_any _ x.f2).mono ?_
    rintro e w3 ⟨rfl, hb3⟩
    refine ⟨_, rfl, ?_⟩
    replace hS3 := hS3.below hb3
    refine hK.out _ _ ⟨pw_cell_below hb3 hHeld.1, pw_cell_below hb3 hHeld.2⟩ (fun hHeld => ?_)
    clear hK K
    refine norm_ (a' := ?_) ?_ ?_
    rotate_left
    ·show Act.put _ (some 61) _ = _
     simp only [Act.put, List.setIfInBounds_toArray, List.set_cons_zero, List.set_cons_succ, i64_w, i32_w]
     rfl
    refine one_ (i := 6) (N := some 62) #[true, true, true, true, true, true, true, false] rfl rfl (one_of HT_.out (by kernel_rfl)) (by decide) (fun K hK => ?_)
    refine goes_ Try.func11 (by kernel_rfl) rfl #[.pointer (some ⟨i.d, 0, none⟩), .int .i64 x.f1, .string (fillS x.f2)] (by rfl) rfl rfl (by simp only [List.map_toArray, List.map_cons, List.map_nil]; rfl) ?_
    with_reducible refine (dev_WriteR hq _ i hS3.dev).mono ?_
    rintro e w3 ⟨rfl, hD4, hs4⟩
    refine ⟨_, rfl, ?_⟩
    replace hS3 := hS3.put hD4 hs4 hn9 hn10 hlo
    clear hD4
    refine hK.out _ _ ⟨hs4.cell hHeld.1 (fun h => by have h9 := hilt _ h; dsimp only at h9; omega), hs4.cell hHeld.2 (fun h => by have h9 := hilt _ h; dsimp only at h9; omega)⟩ (fun hHeld => ?_)
    clear hK K
    refine norm_ (a' := ?_) ?_ ?_
    rotate_left
    ·show Act.put _ (some 62) _ = _
     simp only [Act.put, List.setIfInBounds_toArray, List.set_cons_zero, List.set_cons_succ, i64_w, i32_w]
     rfl
    refine pure_ (i := 7) (N := some 63) (v := ?_) (a' := ?_) #[true, true, true, true, true, true, true, true] rfl rfl (any_of HT_.out (by kernel_rfl)) (fun _ _ _ h => h) (Or.inl ⟨by rfl, ?_⟩) ?_ ?_
    rotate_left
    ·intro w'
     go_simp
     with_reducible rfl
    rotate_left
    ·simp only [Act.put, List.setIfInBounds_toArray, List.set_cons_zero, List.set_cons_succ, i64_w, i32_w]
     rfl
    refine done_ (done_of HT_.out (by kernel_rfl)) ?_
    have e1 := hHeld.1
    have e2 := hHeld.2
    have hp8 : x.f1.toNat < Su.length := by have := hS3.lsu; omega
    obtain ⟨z, q⟩ := arr_cell hS3.su 0 hp8
    have hS5 := hS3.setSu x.f1.toNat x.f2 hn9 (by omega) hT
    have hI5 := hI.put hS3.lsu hat.1 hat.2 x.f2
    obtain ⟨hat0, hat1⟩ := hat
    clear hHeld hS3 hI hq hp8
    go_wp2
    exact ⟨⟨k + 1, _, _, _, by omega, by simp, hS5, hI5⟩, by simp [intOf]; omega⟩
   ·have hq := wr_out xs.length F nw hxl hat (fillS x.f2)
    refine start_ (n := 8) (S := fun w' => w'.cell? ⟨wr.heap.size, 1, none⟩ = some (.int .i64 x.f1) ∧ w'.cell? ⟨wr.heap.size, 2, none⟩ = some (.int .u8 x.f2)) (ds := []) #[false, false, false, false, false, false, false, false] (by kernel_rfl) rfl rfl ⟨a1, a2⟩ (fun hHeld => ?_)
    refine with_tabW devSure.tab10 devSure.bits10 (fun HT_ HW_ => ?_)
    generalize W4.drew = w3 at hHeld hS3 ⊢
    refine pure_ (i := 0) (N := some 56) (v := ?_) (a' := ?_) #[true, false, false, false, false, false, false, false] rfl rfl (any_of HT_.out (by kernel_rfl)) (fun _ _ _ h => h) (Or.inl ⟨by rfl, ?_⟩) ?_ ?_
    rotate_left
    ·intro w'
     go_simp
     with_reducible rfl
    rotate_left
    ·simp only [Act.put, List.setIfInBounds_toArray, List.set_cons_zero, List.set_cons_succ, i64_w, i32_w]
     rfl
    refine pure_ (i := 1) (N := some 57) (v := ?_) (a' := ?_) #[true, true, false, false, false, false, false, false] rfl rfl (any_of HT_.out (by kernel_rfl)) (fun _ _ _ h => h) (Or.inl ⟨by rfl, ?_⟩) ?_ ?_
    rotate_left
    ·intro w'
     go_simp
     with_reducible rfl
    rotate_left
    ·simp only [Act.put, List.setIfInBounds_toArray, List.set_cons_zero, List.set_cons_succ, i64_w, i32_w]
     rfl
    refine pure_ (i := 3) (N := some 59) (v := ?_) (a' := ?_) #[true, true, false, true, false, false, false, false] rfl rfl (any_of HT_.out (by kernel_rfl)) (fun _ _ _ h => h) (Or.inl ⟨by rfl, ?_⟩) ?_ ?_
    rotate_left
    ·intro w'
     go_simp
     with_reducible rfl
    rotate_left
    ·simp only [Act.put, List.setIfInBounds_toArray, List.set_cons_zero, List.set_cons_succ, i64_w, i32_w]
     rfl
    refine take_ (i := 2) (N := some 58) (v := ?_) (a' := ?_) #[true, true, true, true, false, false, false, false] rfl rfl (take_ofW HT_.out HW_.out (by kernel_rfl)) (fun _ _ _ h => h) (Or.inl ⟨by rfl, ?_⟩) hHeld ?_ ?_
    rotate_left
    ·rintro w' ⟨s0, s1⟩
     go_simp
     with_reducible rfl
    rotate_left
    ·simp only [Act.put, List.setIfInBounds_toArray, List.set_cons_zero, List.set_cons_succ, i64_w, i32_w]
     rfl
    refine take_ (i := 4) (N := some 60) (v := ?_) (a' := ?_) #[true, true, true, true, true, false, false, false] rfl rfl (take_ofW HT_.out HW_.out (by kernel_rfl)) (fun _ _ _ h => h) (Or.inl ⟨by rfl, ?_⟩) hHeld ?_ ?_
    rotate_left
    ·rintro w' ⟨s0, s1⟩
     go_simp
     with_reducible rfl
    rotate_left
    ·simp only [Act.put, List.setIfInBounds_toArray, List.set_cons_zero, List.set_cons_succ, i64_w, i32_w]
     rfl
    refine one_ (i := 5) (N := some 61) #[true, true, true, true, true, true, false, false] rfl rfl (one_of HT_.out (by kernel_rfl)) (by decide) (fun K hK => ?_)
    refine goes_ Try.func12 (by kernel_rfl) rfl #[.int .u8 x.f2] (by rfl) rfl rfl (by simp only [List.map_toArray, List.map_cons, List.map_nil]; rfl) ?_
    with_reducible refine (fill_any _ x.f2).mono ?_
    rintro e w3 ⟨rfl, hb3⟩
    refine ⟨_, rfl, ?_⟩
    replace hS3 := hS3.below hb3
    refine hK.out _ _ ⟨pw_cell_below hb3 hHeld.1, pw_cell_below hb3 hHeld.2⟩ (fun hHeld => ?_)
    clear hK K
    refine norm_ (a' := ?_) ?_ ?_
    rotate_left
    ·show Act.put _ (some 61) _ = _
     simp only [Act.put, List.setIfInBounds_toArray, List.set_cons_zero, List.set_cons_succ, i64_w, i32_w]
     rfl
    refine one_ (i := 6) (N := some 62) #[true, true, true, true, true, true, true, false] rfl rfl (one_of HT_.out (by kernel_rfl)) (by decide) (fun K hK => ?_)
    refine goes_ Try.func11 (by kernel_rfl) rfl #[.pointer (some ⟨i.d, 0, none⟩), .int .i64 x.f1, .string (fillS x.f2)] (by rfl) rfl rfl (by simp only [List.map_toArray, List.map_cons, List.map_nil]; rfl) ?_
    with_reducible refine (dev_WriteR hq _ i hS3.dev).mono ?_
    rintro e w3 ⟨rfl, hD4, hs4⟩
    refine ⟨_, rfl, ?_⟩
    replace hS3 := hS3.put hD4 hs4 hn9 hn10 hlo
    clear hD4
    refine hK.out _ _ ⟨hs4.cell hHeld.1 (fun h => by have h9 := hilt _ h; dsimp only at h9; omega), hs4.cell hHeld.2 (fun h => by have h9 := hilt _ h; dsimp only at h9; omega)⟩ (fun hHeld => ?_)
    clear hK K
    refine norm_ (a' := ?_) ?_ ?_
    rotate_left
    ·show Act.put _ (some 62) _ = _
     simp only [Act.put, List.setIfInBounds_toArray, List.set_cons_zero, List.set_cons_succ, i64_w, i32_w]
     rfl
    refine pure_ (i := 7) (N := some 63) (v := ?_) (a' := ?_) #[true, true, true, true, true, true, true, true] rfl rfl (any_of HT_.out (by kernel_rfl)) (fun _ _ _ h => h) (Or.inl ⟨by rfl, ?_⟩) ?_ ?_
    rotate_left
    ·intro w'
     go_simp
     with_reducible rfl
    rotate_left
    ·simp only [Act.put, List.setIfInBounds_toArray, List.set_cons_zero, List.set_cons_succ, i64_w, i32_w]
     rfl
    refine done_ (done_of HT_.out (by kernel_rfl)) ?_
    clear hHeld hq hat
    go_wp2
    exact ⟨⟨k + 1, _, _, _, by omega, by simp, hS3, hI⟩, by simp [intOf]; omega⟩
  ·have ek : k = l0.length := by omega
   subst ek
   clear hlt hk
   have hfl := fl1 xs F []
   go_wp2_with (go_at_call 13; refine (dev_Flush_any _ i _ _ _ _ _ _ hS.dev).mono ?_)
   rintro e w3 ⟨x1, x2, x3, x4, x5, x6, hq, rfl, hD3, hs3⟩
   rw [hfl] at hq
   simp only [Prod.mk.injEq] at hq
   obtain ⟨rfl, rfl, rfl, rfl, rfl, rfl⟩ := hq
   have hS1 := hS.put hD3 hs3 hn9 hn10 hlo
   have hx1 : ∀ j : Nat, j < 8 → (landXs xs F).getD j ⟨#[]⟩ = fillS (Su.getD j 0) := fun j hj => by rw [landXs_getD xs F j (by omega), hxz j hj]; exact hI j hj
   have hl1 : (landXs xs F).length = 8 := by rw [landXs_len]; exact hxl
   clear hD3 hs3 hS hI hfl hxz hxl
   generalize landXs xs F = xs1 at hS1 hx1 hl1
   go_wp2_with fail
   have hzT := World.alloc_heap_new w3 (.cells #[.bool false, .bool false, .bool false, .bool false, .bool false, .bool false, .bool false, .bool false] 36)
   have hS := hS1.below ((Below.refl w3.heap.size w3).alloc (Nat.le_refl _) (.cells #[.bool false, .bool false, .bool false, .bool false, .bool false, .bool false, .bool false, .bool false] 36))
   have hTx : T9 + 1 < w3.heap.size := blk_lt hS1.la
   clear hS1
   generalize w3.alloc (.cells #[.bool false, .bool false, .bool false, .bool false, .bool false, .bool false, .bool false, .bool false] 36) = W5 at hS hzT ⊢
   generalize w3.heap.size = T13 at hzT hTx ⊢
   have hI2 : Inv2 [] Z (List.replicate 8 false) := fun j hj => by
    refine ⟨?_, fun s hs => by cases hs⟩
    rw [List.getD_eq_getElem?_getD, List.getElem?_replicate, if_pos hj]
    rfl
   have hwl : (List.replicate 8 false).length = 8 := rfl
   have hzT : W5.heap[T13]? = some (.cells ((List.replicate 8 false).map Value.bool).toArray 36 (0, 0)) := hzT
   generalize List.replicate 8 false = Wz at hI2 hzT hwl
   have hn13 : ¬ i.In T13 := fun h => by have := hilt _ h; omega
   go_loopw [75] (fun t75 wr => ∃ (k : Nat) (F : FL) (nw : Int) (La : List Int) (Wo : List Bool), k ≤ l1.length ∧ t75 = .int .i64 k ∧ ArS w wr i T9 (T9 + 1) xs1 F nw Su La ∧ wr.heap[T13]? = some (.cells (Wo.map Value.bool).toArray 36 (0, 0)) ∧ Wo.length = 8 ∧ Inv2 F La Wo) (fun t75 _ => l1.length - (intOf t75).toNat)
   case atStart => exact ⟨0, [], _, Z, Wz, Nat.zero_le _, rfl, hS, hzT, hwl, hI2⟩
   case round =>
    clear hzT hwl hI2
    obtain ⟨k, F, nw, La, Wo, hk, rfl, hS, hwo, hwl, hI⟩ := hrel
    by_cases hlt : k < l1.length
    ·have hk1 : (k : Int) < (l1.length : Int) := by omega
     have hk0 : (0 : Int) ≤ (k : Int) := by omega
     have dk : decide ((k : Int) < (l1.length : Int)) = true := decide_eq_true hk1
     have hB := hS.bl
     have hTl := blk_lt hS.la
     obtain ⟨ad, A3, c3, ea, x0, x1, x2, x3, x4, x5, hl3, hi3⟩ := at_T32 hr1 (k : Int) (by omega) (by omega)
     cases ea
     obtain ⟨x, hx⟩ : ∃ x, x = rd_T32 l1 (k : Int) := ⟨_, rfl⟩
     rw [← hx] at x0 x1 x2 x3 x4 x5 hl3 hi3
     clear hx
     replace x0 := (hB.cell (World.block_lt_of_cell? w _ x0)).trans x0
     replace x1 := (hB.cell (World.block_lt_of_cell? w _ x1)).trans x1
     replace x2 := (hB.cell (World.block_lt_of_cell? w _ x2)).trans x2
     replace x3 := (hB.cell (World.block_lt_of_cell? w _ x3)).trans x3
     replace x4 := (hB.cell (World.block_lt_of_cell? w _ x4)).trans x4
     replace x5 := (hB.cell (World.block_lt_of_cell? w _ x5)).trans x5
     simp only [Int.toNat_natCast] at x0 x1 x2 x3 x4 x5
     have hS3 := hS.below ((Below.refl wr.heap.size wr).alloc (Nat.le_refl _) (.cells #[.int .i64 x.f0, .int .i64 x.f1, .int .u8 x.f2, .slice A3 x.f3.length c3, .int .i64 x.f4, .int .u32 x.f5] 32))
     have hxb := World.alloc_heap_new wr (.cells #[.int .i64 x.f0, .int .i64 x.f1, .int .u8 x.f2, .slice A3 x.f3.length c3, .int .i64 x.f4, .int .u32 x.f5] 32)
     have hbA : Below wr.heap.size wr (wr.alloc (.cells #[.int .i64 x.f0, .int .i64 x.f1, .int .u8 x.f2, .slice A3 x.f3.length c3, .int .i64 x.f4, .int .u32 x.f5] 32)) := (Below.refl wr.heap.size wr).alloc (Nat.le_refl _) (.cells #[.int .i64 x.f0, .int .i64 x.f1, .int .u8 x.f2, .slice A3 x.f3.length c3, .int .i64 x.f4, .int .u32 x.f5] 32)
     go_upto_region 19 with (fail)
     clear x0 x1 x2 x3 x4 x5 hl3 hi3 hS hB
     generalize wr.alloc (.cells #[.int .i64 x.f0, .int .i64 x.f1, .int .u8 x.f2, .slice A3 x.f3.length c3, .int .i64 x.f4, .int .u32 x.f5] 32) = W4 at hS3 hxb hbA ⊢
     have hxX : T9 + 1 < wr.heap.size := hTl
     clear hTl
     obtain ⟨_, a1, a2, _⟩ := blk6 hxb
     try simp only [List.append_eq, List.cons_append, List.nil_append]
     replace hS3 := hS3.below (below_drew1 (Below.refl W4.heap.size W4))
     replace hwo := Stepb (below_drew1 (Below.refl W4.heap.size W4)) (Stepb hbA hwo)
     by_cases hat : 0 ≤ x.f1 ∧ x.f1 < 8
     ·have hq := wr_in xs1.length F nw hl1 hat.1 hat.2 x.f2
      refine start_ (n := 8) (S := fun w' => w'.cell? ⟨wr.heap.size, 1, none⟩ = some (.int .i64 x.f1) ∧ w'.cell? ⟨wr.heap.size, 2, none⟩ = some (.int .u8 x.f2)) (ds := []) #[false, false, false, false, false, false, false, false] (by kernel_rfl) rfl rfl ⟨a1, a2⟩ (fun hHeld => ?_)
      refine with_tabW devSure.tab19 devSure.bits19 (fun HT_ HW_ => ?_)
      generalize W4.drew = w3 at hHeld hS3 hwo ⊢
      refine pure_ (i := 0) (N := some 79) (v := ?_) (a' := ?_) #[true, false, false, false, false, false, false, false] rfl rfl (any_of HT_.out (by kernel_rfl)) (fun _ _ _ h => h) (Or.inl ⟨by rfl, ?_⟩) ?_ ?_
      rotate_left
      ·intro w'
       go_simp
       with_reducible rfl
      rotate_left
      ·simp only [Act.put, List.setIfInBounds_toArray, List.set_cons_zero, List.set_cons_succ, i64_w, i32_w]
       rfl
      refine pure_ (i := 1) (N := some 80) (v := ?_) (a' := ?_) #[true, true, false, false, false, false, false, false] rfl rfl (any_of HT_.out (by kernel_rfl)) (fun _ _ _ h => h) (Or.inl ⟨by rfl, ?_⟩) ?_ ?_
      rotate_left
      ·intro w'
       go_simp
       with_reducible rfl
      rotate_left
      ·simp only [Act.put, List.setIfInBounds_toArray, List.set_cons_zero, List.set_cons_succ, i64_w, i32_w]
       rfl
      refine pure_ (i := 3) (N := some 82) (v := ?_) (a' := ?_) #[true, true, false, true, false, false, false, false] rfl rfl (any_of HT_.out (by kernel_rfl)) (fun _ _ _ h => h) (Or.inl ⟨by rfl, ?_⟩) ?_ ?_
      rotate_left
      ·intro w'
       go_simp
       with_reducible rfl
      rotate_left
      ·simp only [Act.put, List.setIfInBounds_toArray, List.set_cons_zero, List.set_cons_succ, i64_w, i32_w]
       rfl
      refine take_ (i := 2) (N := some 81) (v := ?_) (a' := ?_) #[true, true, true, true, false, false, false, false] rfl rfl (take_ofW HT_.out HW_.out (by kernel_rfl)) (fun _ _ _ h => h) (Or.inl ⟨by rfl, ?_⟩) hHeld ?_ ?_
      rotate_left
      ·rintro w' ⟨s0, s1⟩
       go_simp
       with_reducible rfl
      rotate_left
      ·simp only [Act.put, List.setIfInBounds_toArray, List.set_cons_zero, List.set_cons_succ, i64_w, i32_w]
       rfl
      refine take_ (i := 4) (N := some 83) (v := ?_) (a' := ?_) #[true, true, true, true, true, false, false, false] rfl rfl (take_ofW HT_.out HW_.out (by kernel_rfl)) (fun _ _ _ h => h) (Or.inl ⟨by rfl, ?_⟩) hHeld ?_ ?_
      rotate_left
      ·rintro w' ⟨s0, s1⟩
       go_simp
       with_reducible rfl
      rotate_left
      ·simp only [Act.put, List.setIfInBounds_toArray, List.set_cons_zero, List.set_cons_succ, i64_w, i32_w]
       rfl
      refine one_ (i := 5) (N := some 84) #[true, true, true, true, true, true, false, false] rfl rfl (one_of HT_.out (by kernel_rfl)) (by decide) (fun K hK => ?_)
      refine goes_ Try.func12 (by kernel_rfl) rfl #[.int .u8 x.f2] (by rfl) rfl rfl (by simp only [List.map_toArray, List.map_cons, List.map_nil]; rfl) ?_
      with_reducible refine (fill_any _ x.f2).mono ?_
      rintro e w3 ⟨rfl, hb3⟩
      refine ⟨_, rfl, ?_⟩
      replace hS3 := hS3.below hb3
      replace hwo := Stepb hb3 hwo
      refine hK.out _ _ ⟨pw_cell_below hb3 hHeld.1, pw_cell_below hb3 hHeld.2⟩ (fun hHeld => ?_)
      clear hK K
      refine norm_ (a' := ?_) ?_ ?_
      rotate_left
      ·show Act.put _ (some 84) _ = _
       simp only [Act.put, List.setIfInBounds_toArray, List.set_cons_zero, List.set_cons_succ, i64_w, i32_w]
       rfl
      refine one_ (i := 6) (N := some 85) #[true, true, true, true, true, true, true, false] rfl rfl (one_of HT_.out (by kernel_rfl)) (by decide) (fun K hK => ?_)
      refine goes_ Try.func11 (by kernel_rfl) rfl #[.pointer (some ⟨i.d, 0, none⟩), .int .i64 x.f1, .string (fillS x.f2)] (by rfl) rfl rfl (by simp only [List.map_toArray, List.map_cons, List.map_nil]; rfl) ?_
      with_reducible refine (dev_WriteR hq _ i hS3.dev).mono ?_
      rintro e w3 ⟨rfl, hD4, hs4⟩
      refine ⟨_, rfl, ?_⟩
      replace hS3 := hS3.put hD4 hs4 hn9 hn10 hlo
      replace hwo := hs4.block hwo (fun h => by have := hilt _ h; omega)
      clear hD4
      refine hK.out _ _ ⟨hs4.cell hHeld.1 (fun h => by have h9 := hilt _ h; dsimp only at h9; omega), hs4.cell hHeld.2 (fun h => by have h9 := hilt _ h; dsimp only at h9; omega)⟩ (fun hHeld => ?_)
      clear hK K
      refine norm_ (a' := ?_) ?_ ?_
      rotate_left
      ·show Act.put _ (some 85) _ = _
       simp only [Act.put, List.setIfInBounds_toArray, List.set_cons_zero, List.set_cons_succ, i64_w, i32_w]
       rfl
      refine pure_ (i := 7) (N := some 86) (v := ?_) (a' := ?_) #[true, true, true, true, true, true, true, true] rfl rfl (any_of HT_.out (by kernel_rfl)) (fun _ _ _ h => h) (Or.inl ⟨by rfl, ?_⟩) ?_ ?_
      rotate_left
      ·intro w'
       go_simp
       with_reducible rfl
      rotate_left
      ·simp only [Act.put, List.setIfInBounds_toArray, List.set_cons_zero, List.set_cons_succ, i64_w, i32_w]
       rfl
      refine done_ (done_of HT_.out (by kernel_rfl)) ?_
      have e1 := hHeld.1
      have e2 := hHeld.2
      have hp10 : x.f1.toNat < La.length := by have := hS3.lla; omega
      have hp13 : x.f1.toNat < Wo.length := by omega
      have hIn := hI.put hS3.lla hwl hat.1 hat.2 x.f2
      obtain ⟨hat0, hat1⟩ := hat
      clear hHeld hI hq
      go_wp2_with fail
      try simp only [List.append_eq, List.cons_append, List.nil_append]
      replace hS3 := hS3.below (below_drew1 (Below.refl w3.heap.size w3))
      replace hwo := Stepb (below_drew1 (Below.refl w3.heap.size w3)) hwo
      refine start_ (n := 10) (S := fun w' => w'.cell? ⟨wr.heap.size, 1, none⟩ = some (.int .i64 x.f1) ∧ w'.cell? ⟨wr.heap.size, 2, none⟩ = some (.int .u8 x.f2)) (ds := [9]) #[false, false, false, false, false, false, false, false, false, false] (by kernel_rfl) rfl rfl ⟨e1, e2⟩ (fun hHeld => ?_)
      refine with_tabW devSure.tab20 devSure.bits20 (fun HT_ HW_ => ?_)
      generalize w3.drew = w3 at hHeld hS3 hwo ⊢
      refine pure_ (i := 0) (N := some 87) (v := ?_) (a' := ?_) #[true, false, false, false, false, false, false, false, false, false] rfl rfl (any_of HT_.out (by kernel_rfl)) (fun _ _ _ h => h) (Or.inl ⟨by rfl, ?_⟩) ?_ ?_
      rotate_left
      ·intro w'
       go_simp
       with_reducible rfl
      rotate_left
      ·simp only [Act.put, List.setIfInBounds_toArray, List.set_cons_zero, List.set_cons_succ, i64_w, i32_w]
       rfl
      refine pure_ (i := 2) (N := some 89) (v := ?_) (a' := ?_) #[true, false, true, false, false, false, false, false, false, false] rfl rfl (any_of HT_.out (by kernel_rfl)) (fun _ _ _ h => h) (Or.inl ⟨by rfl, ?_⟩) ?_ ?_
      rotate_left
      ·intro w'
       go_simp
       with_reducible rfl
      rotate_left
      ·simp only [Act.put, List.setIfInBounds_toArray, List.set_cons_zero, List.set_cons_succ, i64_w, i32_w]
       rfl
      refine pure_ (i := 4) (N := some 91) (v := ?_) (a' := ?_) #[true, false, true, false, true, false, false, false, false, false] rfl rfl (any_of HT_.out (by kernel_rfl)) (fun _ _ _ h => h) (Or.inl ⟨by rfl, ?_⟩) ?_ ?_
      rotate_left
      ·intro w'
       go_simp
       with_reducible rfl
      rotate_left
      ·simp only [Act.put, List.setIfInBounds_toArray, List.set_cons_zero, List.set_cons_succ, i64_w, i32_w]
       rfl
      refine take_ (i := 1) (N := some 88) (v := ?_) (a' := ?_) #[true, true, true, false, true, false, false, false, false, false] rfl rfl (take_ofW HT_.out HW_.out (by kernel_rfl)) (fun _ _ _ h => h) (Or.inl ⟨by rfl, ?_⟩) hHeld ?_ ?_
      rotate_left
      ·rintro w' ⟨s0, s1⟩
       go_simp
       with_reducible rfl
      rotate_left
      ·simp only [Act.put, List.setIfInBounds_toArray, List.set_cons_zero, List.set_cons_succ, i64_w, i32_w]
       rfl
      refine take_ (i := 3) (N := some 90) (v := ?_) (a' := ?_) #[true, true, true, true, true, false, false, false, false, false] rfl rfl (take_ofW HT_.out HW_.out (by kernel_rfl)) (fun _ _ _ h => h) (Or.inl ⟨by rfl, ?_⟩) hHeld ?_ ?_
      rotate_left
      ·rintro w' ⟨s0, s1⟩
       go_simp
       with_reducible rfl
      rotate_left
      ·simp only [Act.put, List.setIfInBounds_toArray, List.set_cons_zero, List.set_cons_succ, i64_w, i32_w]
       rfl
      refine take_ (i := 5) (N := some 92) (v := ?_) (a' := ?_) #[true, true, true, true, true, true, false, false, false, false] rfl rfl (take_ofW HT_.out HW_.out (by kernel_rfl)) (fun _ _ _ h => h) (Or.inl ⟨by rfl, ?_⟩) hHeld ?_ ?_
      rotate_left
      ·rintro w' ⟨s0, s1⟩
       go_simp
       with_reducible rfl
      rotate_left
      ·simp only [Act.put, List.setIfInBounds_toArray, List.set_cons_zero, List.set_cons_succ, i64_w, i32_w]
       rfl
      refine pure_ (i := 6) (N := some 93) (v := ?_) (a' := ?_) #[true, true, true, true, true, true, true, false, false, false] rfl rfl (any_of HT_.out (by kernel_rfl)) (fun _ _ _ h => h) (Or.inl ⟨by rfl, ?_⟩) ?_ ?_
      rotate_left
      ·intro w'
       go_simp
       with_reducible rfl
      rotate_left
      ·simp only [Act.put, List.setIfInBounds_toArray, List.set_cons_zero, List.set_cons_succ, i64_w, i32_w]
       rfl
      refine one_ (i := 7) (N := none) #[true, true, true, true, true, true, true, true, false, false] rfl rfl (one_of HT_.out (by kernel_rfl)) (by decide) (fun K hK => ?_)
      obtain ⟨z, q⟩ := arr_cell hS3.la 0 hp10
      refine skip_ (w1 := ?_) (by rfl) rfl ?_ ?_
      rotate_left
      ·go_simp
       rfl
      have hc7 : Step (fun q => q = T9 + 1) w3 (w3.setCell ⟨T9 + 1, x.f1.toNat, none⟩ (.int .u8 x.f2)) := Step.setCell w3 (p := ⟨T9 + 1, x.f1.toNat, none⟩) (S := fun q => q = T9 + 1) rfl _
      replace hS3 := hS3.setLa x.f1.toNat x.f2 hn10 (by omega) (by omega)
      replace hwo := hc7.block hwo (fun e => by omega)
      refine hK.out _ _ ⟨hc7.cell hHeld.1 (fun e => by dsimp only at e; omega), hc7.cell hHeld.2 (fun e => by dsimp only at e; omega)⟩ (fun hHeld => ?_)
      clear hK K
      refine pure_ (i := 8) (N := some 94) (v := ?_) (a' := ?_) #[true, true, true, true, true, true, true, true, true, false] rfl rfl (any_of HT_.out (by kernel_rfl)) (fun _ _ _ h => h) (Or.inl ⟨by rfl, ?_⟩) ?_ ?_
      rotate_left
      ·intro w'
       go_simp
       with_reducible rfl
      rotate_left
      ·simp only [Act.put, List.setIfInBounds_toArray, List.set_cons_zero, List.set_cons_succ, i64_w, i32_w]
       rfl
      refine last_ (i := 9) (N := none) #[true, true, true, true, true, true, true, true, true, true] rfl rfl (one_of HT_.out (by kernel_rfl)) (by decide) (fun K hK => ?_)
      obtain ⟨z2, q2⟩ := arr_cell hwo false hp13
      refine skip_ (w1 := ?_) (by rfl) rfl ?_ ?_
      rotate_left
      ·go_simp
       rfl
      refine hK.out _ _ ?_
      clear hK K
      refine done_ (done_of HT_.out (by kernel_rfl)) ?_
      have hwn := arr_set hwo x.f1.toNat true
      have hst9 := Step.setCell (w3.setCell ⟨T9 + 1, x.f1.toNat, none⟩ (.int .u8 x.f2)) (p := ⟨T13, x.f1.toNat, none⟩) (S := fun q => q = T13) rfl (.bool true)
      have hSn := hS3.step hst9 (fun q hq e => hn13 (e ▸ hq)) (by omega) (by omega) (fun q hq => by omega)
      have hwln : (Wo.set x.f1.toNat true).length = 8 := by rw [List.length_set]; exact hwl
      clear hHeld hS3 hwo hst9 hp10 hp13 e1 e2
      go_wp2
      exact ⟨⟨k + 1, _, _, _, _, by omega, by simp, hSn, hwn, hwln, hIn⟩, by simp [intOf]; omega⟩
     ·have hq := wr_out xs1.length F nw hl1 hat (fillS x.f2)
      refine start_ (n := 8) (S := fun w' => w'.cell? ⟨wr.heap.size, 1, none⟩ = some (.int .i64 x.f1) ∧ w'.cell? ⟨wr.heap.size, 2, none⟩ = some (.int .u8 x.f2)) (ds := []) #[false, false, false, false, false, false, false, false] (by kernel_rfl) rfl rfl ⟨a1, a2⟩ (fun hHeld => ?_)
      refine with_tabW devSure.tab19 devSure.bits19 (fun HT_ HW_ => ?_)
      generalize W4.drew = w3 at hHeld hS3 hwo ⊢
      refine pure_ (i := 0) (N := some 79) (v := ?_) (a' := ?_) #[true, false, false, false, false, false, false, false] rfl rfl (any_of HT_.out (by kernel_rfl)) (fun _ _ _ h => h) (Or.inl ⟨by rfl, ?_⟩) ?_ ?_
      rotate_left
      ·intro w'
       go_simp
       with_reducible rfl
      rotate_left
      ·simp only [Act.put, List.setIfInBounds_toArray, List.set_cons_zero, List.set_cons_succ, i64_w, i32_w]
       rfl
      refine pure_ (i := 1) (N := some 80) (v := ?_) (a' := ?_) #[true, true, false, false, false, false, false, false] rfl rfl (any_of HT_.out (by kernel_rfl)) (fun _ _ _ h => h) (Or.inl ⟨by rfl, ?_⟩) ?_ ?_
      rotate_left
      ·intro w'
       go_simp
       with_reducible rfl
      rotate_left
      ·simp only [Act.put, List.setIfInBounds_toArray, List.set_cons_zero, List.set_cons_succ, i64_w, i32_w]
       rfl
      refine pure_ (i := 3) (N := some 82) (v := ?_) (a' := ?_) #[true, true, false, true, false, false, false, false] rfl rfl (any_of HT_.out (by kernel_rfl)) (fun _ _ _ h => h) (Or.inl ⟨by rfl, ?_⟩) ?_ ?_
      rotate_left
      ·intro w'
       go_simp
       with_reducible rfl
      rotate_left
      ·simp only [Act.put, List.setIfInBounds_toArray, List.set_cons_zero, List.set_cons_succ, i64_w, i32_w]
       rfl
      refine take_ (i := 2) (N := some 81) (v := ?_) (a' := ?_) #[true, true, true, true, false, false, false, false] rfl rfl (take_ofW HT_.out HW_.out (by kernel_rfl)) (fun _ _ _ h => h) (Or.inl ⟨by rfl, ?_⟩) hHeld ?_ ?_
      rotate_left
      ·rintro w' ⟨s0, s1⟩
       go_simp
       with_reducible rfl
      rotate_left
      ·simp only [Act.put, List.setIfInBounds_toArray, List.set_cons_zero, List.set_cons_succ, i64_w, i32_w]
       rfl
      refine take_ (i := 4) (N := some 83) (v := ?_) (a' := ?_) #[true, true, true, true, true, false, false, false] rfl rfl (take_ofW HT_.out HW_.out (by kernel_rfl)) (fun _ _ _ h => h) (Or.inl ⟨by rfl, ?_⟩) hHeld ?_ ?_
      rotate_left
      ·rintro w' ⟨s0, s1⟩
       go_simp
       with_reducible rfl
      rotate_left
      ·simp only [Act.put, List.setIfInBounds_toArray, List.set_cons_zero, List.set_cons_succ, i64_w, i32_w]
       rfl
      refine one_ (i := 5) (N := some 84) #[true, true, true, true, true, true, false, false] rfl rfl (one_of HT_.out (by kernel_rfl)) (by decide) (fun K hK => ?_)
      refine goes_ Try.func12 (by kernel_rfl) rfl #[.int .u8 x.f2] (by rfl) rfl rfl (by simp only [List.map_toArray, List.map_cons, List.map_nil]; rfl) ?_
      with_reducible refine (fill_any _ x.f2).mono ?_
      rintro e w3 ⟨rfl, hb3⟩
      refine ⟨_, rfl, ?_⟩
      replace hS3 := hS3.below hb3
      replace hwo := Stepb hb3 hwo
      refine hK.out _ _ ⟨pw_cell_below hb3 hHeld.1, pw_cell_below hb3 hHeld.2⟩ (fun hHeld => ?_)
      clear hK K
      refine norm_ (a' := ?_) ?_ ?_
      rotate_left
      ·show Act.put _ (some 84) _ = _
       simp only [Act.put, List.setIfInBounds_toArray, List.set_cons_zero, List.set_cons_succ, i64_w, i32_w]
       rfl
      refine one_ (i := 6) (N := some 85) #[true, true, true, true, true, true, true, false] rfl rfl (one_of HT_.out (by kernel_rfl)) (by decide) (fun K hK => ?_)
      refine goes_ Try.func11 (by kernel_rfl) rfl #[.pointer (some ⟨i.d, 0, none⟩), .int .i64 x.f1, .string (fillS x.f2)] (by rfl) rfl rfl (by simp only [List.map_toArray, List.map_cons, List.map_nil]; rfl) ?_
      with_reducible refine (dev_WriteR hq _ i hS3.dev).mono ?_
      rintro e w3 ⟨rfl, hD4, hs4⟩
      refine ⟨_, rfl, ?_⟩
      replace hS3 := hS3.put hD4 hs4 hn9 hn10 hlo
      replace hwo := hs4.block hwo (fun h => by have := hilt _ h; omega)
      clear hD4
      refine hK.out _ _ ⟨hs4.cell hHeld.1 (fun h => by have h9 := hilt _ h; dsimp only at h9; omega), hs4.cell hHeld.2 (fun h => by have h9 := hilt _ h; dsimp only at h9; omega)⟩ (fun hHeld => ?_)
      clear hK K
      refine norm_ (a' := ?_) ?_ ?_
      rotate_left
      ·show Act.put _ (some 85) _ = _
       simp only [Act.put, List.setIfInBounds_toArray, List.set_cons_zero, List.set_cons_succ, i64_w, i32_w]
       rfl
      refine pure_ (i := 7) (N := some 86) (v := ?_) (a' := ?_) #[true, true, true, true, true, true, true, true] rfl rfl (any_of HT_.out (by kernel_rfl)) (fun _ _ _ h => h) (Or.inl ⟨by rfl, ?_⟩) ?_ ?_
      rotate_left
      ·intro w'
       go_simp
       with_reducible rfl
      rotate_left
      ·simp only [Act.put, List.setIfInBounds_toArray, List.set_cons_zero, List.set_cons_succ, i64_w, i32_w]
       rfl
      refine done_ (done_of HT_.out (by kernel_rfl)) ?_
      clear hHeld hq hat
      go_wp2
      exact ⟨⟨k + 1, _, _, _, _, by omega, by simp, hS3, hwo, hwl, hI⟩, by simp [intOf]; omega⟩
    ·have ek : k = l1.length := by omega
     subst ek
     clear hlt hk
     have hFo := hS.dev.ok.2.2.2.1
     rw [hl1] at hFo
     have hnF : NodupK F := hS.dev.2.2.1.nodup
     have hkw := keysI_wait (n := 8) hnF hFo
     have hkl : (keysI F).length = F.length := keysI_len F
     have hF8 : F.length ≤ 8 := by have := hS.dev.ok.2.2.2.2.2.1; omega
     go_wp2_with (go_at_call 14; refine (dev_Waiting_any _ i _ _ _ _ _ _ hS.dev).mono ?_)
     rintro e w4 ⟨Aw, cw, rfl, hcw, hCw, hb4, hAw⟩
     have hTa := blk_lt hwo
     replace hS := hS.below hb4
     replace hwo := Stepb hb4 hwo
     have hk2 := Kd.C_below hr2 hS.bl
     have hkb0 : ∀ a, A2 = some a → l2.length = 0 ∨ (a.block ≠ i.bs ∧ a.block ≠ i.bb) := fun a ha => by
      rcases Nat.eq_zero_or_pos l2.length with h0 | h0
      ·exact Or.inl h0
      ·obtain ⟨ad3, e3, hx3⟩ := Kd.at_bool hr2 0 (by omega) (by omega)
       rw [ha] at e3
       cases e3
       have hbk : a.block < w.heap.size := by have := World.block_lt_of_cell? w _ hx3; rwa [add_block] at this
       exact Or.inr ⟨fun e => by have := hlo i.bs (Or.inr (Or.inl rfl)); omega, fun e => by have := hlo i.bb (Or.inr (Or.inr (Or.inr rfl))); omega⟩
     clear hb4
     go_wp2_with (go_at_call 15; refine (dev_Crash_any2 _ i _ _ _ _ _ _ A2 c2 l2 hS.dev hk2 (by have := hw2.2.1; omega) hkb0).mono ?_)
     rintro e w5 ⟨rfl, hD5, hs5⟩
     obtain ⟨V, hV⟩ : ∃ V, V = crashV F (keysI F) l2 := ⟨_, rfl⟩
     rw [← hV] at hD5
     replace hwo := hs5.block hwo hn13
     replace hCw := C_int_step hCw hs5 (fun a ha h => by have := hilt _ h; have := hAw a ha; omega)
     replace hS := hS.put hD5 hs5 hn9 hn10 hlo
     have hx2 : ∀ j : Nat, j < 8 → (landXs xs1 V).getD j ⟨#[]⟩ = (getL (j : Int) V).getD (fillS (Su.getD j 0)) := fun j hj => by rw [landXs_getD xs1 V j (by omega), hx1 j hj]
     have hl2 : (landXs xs1 V).length = 8 := by rw [landXs_len]; exact hl1
     generalize landXs xs1 V = xs2 at hS hx2 hl2
     clear hD5 hs5 hkb0 hk2 hAw hTa hx1 hl1
     go_wp2_with fail
     go_loopw [17, 101] (fun t17 t101 wr => ∃ k : Nat, k ≤ 8 ∧ t101 = .int .i64 k ∧ t17 = .int .i64 (waitL k F).length ∧ ArS w wr i T9 (T9 + 1) xs2 [] nw Su La ∧ wr.heap[T13]? = some (.cells (Wo.map Value.bool).toArray 36 (0, 0)) ∧ Kd.C (Kd.int .i64) wr Aw F.length (keysI F)) (fun _ t101 _ => 8 - (intOf t101).toNat)
     case atStart => exact ⟨0, by omega, rfl, rfl, hS, hwo, hCw⟩
     case round =>
      clear hS hwo hCw
      obtain ⟨k, hk, rfl, rfl, hS, hwo, hCw⟩ := hrel
      by_cases hlt : k < 8
      ·have hnk : (waitL k F).length ≤ k := by unfold waitL; rw [List.length_map]; exact Nat.le_trans (List.length_filter_le _ _) (by simp)
       have hws := waitL_succ k F
       obtain ⟨hIw, hIs⟩ := hI k hlt
       obtain ⟨cs, fs⟩ := arr_cell hS.su 0 (k := k) (by have := hS.lsu; omega)
       obtain ⟨cl, fl⟩ := arr_cell hS.la 0 (k := k) (by have := hS.lla; omega)
       obtain ⟨cw_, fw_⟩ := arr_cell hwo false (k := k) (by omega)
       have hk0 : (0 : Int) ≤ (k : Int) := by omega
       have hk8 : (k : Int) < 8 := by omega
       have hxk := hx2 k hlt
       rw [hIw] at cw_
       cases hg : getL (k : Int) F with
       | none =>
        rw [hg] at cw_ hws
        have hVn : getL (k : Int) V = none := by
         rw [hV]
         refine crashV_none F _ _ ?_
         rw [hkw, waitL_mem, hg]
         simp
        rw [hVn] at hxk
        have hrp : readP xs2 [] [] false (k : Int) = (fillS (Su.getD k 0), 0) := by
         rw [read_plain hl2 hlt, hxk]; rfl
        rw [if_neg (by simp), List.append_nil] at hws
        simp only [Option.isSome_none] at cw_
        generalize Su.getD k 0 = want at cs hrp
        clear hVn hxk hIw hIs
        go_wp2_with (go_at_call 16; refine (dev_ReadR hrp _ i _ _ hS.dev).mono ?_)
        rintro e w6 ⟨rfl, hs6⟩
        replace hS := hS.step hs6 (fun _ _ h => h) (fun h => h) (fun h => h) (fun _ h => h.elim)
        replace hwo := hs6.block hwo (fun h => h)
        replace hCw := C_int_step hCw hs6 (fun _ _ h => h)
        clear hs6
        go_wp2_with (go_at_call 12; refine (fill_any _ want).mono ?_)
        rintro e w7 ⟨rfl, hb7⟩
        replace hS := hS.below hb7
        replace hwo := Stepb hb7 hwo
        replace hCw := Kd.C_below hCw hb7
        clear hb7
        go_wp2
        exact ⟨⟨k + 1, by omega, by simp, by rw [hws], hS, hwo, hCw⟩, by simp [intOf]; omega⟩
       | some s =>
        rw [hg] at cw_ hws
        simp only [Option.isSome_some] at cw_
        have hat := wait_at (F := F) (k := k) (by rw [hg]; rfl) 8 (by omega)
        rw [← hkw] at hat
        have hVg := crashV_get F (keysI F) l2 _ _ (keysI_nodup hnF) hat
        rw [← hV, hg] at hVg
        have hlen := (List.getElem?_eq_some_iff.1 hat).1
        have hws2 : (waitL (k + 1) F).length = (waitL k F).length + 1 := by rw [hws]; simp
        have hsl := hIs s hg
        generalize (waitL k F).length = nn at hat hVg hlen hws2 hnk ⊢
        rw [hkl] at hlen
        obtain ⟨adw, eaw, hxw⟩ := Kd.at_int hCw (nn : Int) (by omega) (by omega)
        have hrdw : rd (keysI F) (nn : Int) = k := by
         unfold rd
         rw [Int.toNat_natCast, List.getD_eq_getElem?_getD, hat]
         rfl
        rw [hrdw] at hxw
        subst eaw
        simp only [Int.toNat_natCast] at hxw
        have hnn0 : (0 : Int) ≤ (nn : Int) := by omega
        have hnn1 : (nn : Int) < (F.length : Int) := by omega
        have dn : decide ((F.length : Int) ≤ (nn : Int)) = false := decide_eq_false (by omega)
        clear hrdw hat hws hIw hIs
        by_cases hkk : nn < l2.length
        ·obtain ⟨adk, eak, hxb⟩ := Kd.at_bool (Kd.C_below hr2 hS.bl) (nn : Int) (by omega) (by omega)
         obtain ⟨bv, hbv⟩ : ∃ v, v = rdOf false l2 (nn : Int) := ⟨_, rfl⟩
         rw [← hbv] at hxb
         have hbk : l2.getD nn false = bv := by rw [hbv]; simp [rdOf]
         subst eak
         simp only [Int.toNat_natCast] at hxb
         have dk : decide ((nn : Int) < (l2.length : Int)) = true := decide_eq_true (by omega)
         have hkk1 : (nn : Int) < (l2.length : Int) := by omega
         clear hbv
         rw [hbk] at hVg
         cases bv
         ·rw [if_neg (by decide)] at hVg
          rw [hVg] at hxk
          have hrp : readP xs2 [] [] false (k : Int) = (fillS (Su.getD k 0), 0) := by
           rw [read_plain hl2 hlt, hxk]; rfl
          generalize Su.getD k 0 = want at cs hrp
          clear hVg hxk hsl hbk
          go_wp2_with (go_at_call 16; refine (dev_ReadR hrp _ i _ _ hS.dev).mono ?_)
          rintro e w6 ⟨rfl, hs6⟩
          replace hS := hS.step hs6 (fun _ _ h => h) (fun h => h) (fun h => h) (fun _ h => h.elim)
          replace hwo := hs6.block hwo (fun h => h)
          replace hCw := C_int_step hCw hs6 (fun _ _ h => h)
          clear hs6
          go_wp2_with (go_at_call 12; refine (fill_any _ want).mono ?_)
          rintro e w7 ⟨rfl, hb7⟩
          replace hS := hS.below hb7
          replace hwo := Stepb hb7 hwo
          replace hCw := Kd.C_below hCw hb7
          clear hb7
          go_wp2
          exact ⟨⟨k + 1, by omega, by simp, by rw [hws2]; simp, hS, hwo, hCw⟩, by simp [intOf]; omega⟩
         ·rw [if_pos rfl] at hVg
          rw [hVg] at hxk
          have hrp : readP xs2 [] [] false (k : Int) = (fillS (La.getD k 0), 0) := by
           rw [read_plain hl2 hlt, hxk]
           show (s, 0) = _
           rw [hsl]
          generalize La.getD k 0 = want at cl hrp
          clear hVg hxk hsl hbk
          go_wp2_with (go_at_call 16; refine (dev_ReadR hrp _ i _ _ hS.dev).mono ?_)
          rintro e w6 ⟨rfl, hs6⟩
          replace hS := hS.step hs6 (fun _ _ h => h) (fun h => h) (fun h => h) (fun _ h => h.elim)
          replace hwo := hs6.block hwo (fun h => h)
          replace hCw := C_int_step hCw hs6 (fun _ _ h => h)
          clear hs6
          go_wp2_with (go_at_call 12; refine (fill_any _ want).mono ?_)
          rintro e w7 ⟨rfl, hb7⟩
          replace hS := hS.below hb7
          replace hwo := Stepb hb7 hwo
          replace hCw := Kd.C_below hCw hb7
          clear hb7
          go_wp2
          exact ⟨⟨k + 1, by omega, by simp, by rw [hws2]; simp, hS, hwo, hCw⟩, by simp [intOf]; omega⟩
        ·have dk : decide ((nn : Int) < (l2.length : Int)) = false := decide_eq_false (by omega)
         have hbk : l2.getD nn false = false := by rw [List.getD_eq_getElem?_getD, List.getElem?_eq_none (by omega)]; rfl
         rw [hbk, if_neg (by decide)] at hVg
         rw [hVg] at hxk
         have hrp : readP xs2 [] [] false (k : Int) = (fillS (Su.getD k 0), 0) := by
          rw [read_plain hl2 hlt, hxk]; rfl
         generalize Su.getD k 0 = want at cs hrp
         clear hVg hxk hsl hbk
         go_wp2_with (go_at_call 16; refine (dev_ReadR hrp _ i _ _ hS.dev).mono ?_)
         rintro e w6 ⟨rfl, hs6⟩
         replace hS := hS.step hs6 (fun _ _ h => h) (fun h => h) (fun h => h) (fun _ h => h.elim)
         replace hwo := hs6.block hwo (fun h => h)
         replace hCw := C_int_step hCw hs6 (fun _ _ h => h)
         clear hs6
         go_wp2_with (go_at_call 12; refine (fill_any _ want).mono ?_)
         rintro e w7 ⟨rfl, hb7⟩
         replace hS := hS.below hb7
         replace hwo := Stepb hb7 hwo
         replace hCw := Kd.C_below hCw hb7
         clear hb7
         go_wp2
         exact ⟨⟨k + 1, by omega, by simp, by rw [hws2]; simp, hS, hwo, hCw⟩, by simp [intOf]; omega⟩
      ·have ek : k = 8 := by omega
       subst ek
       have hn8 : (waitL 8 F).length = F.length := by rw [← hkw, hkl]
       rw [hn8]
       go_wp2_with (go_at_call 14; refine (dev_Waiting_any _ i _ _ _ _ _ _ hS.dev).mono ?_)
       rintro e w6 ⟨Aq, cq, rfl, hcq, hCq, hb6, _⟩
       have hBf := hS.bl.trans (hb6.mono hS.bl.size)
       clear hb6 hCq hS hn8
       go_wp2
       go_ret
       exact ⟨rfl, hBf⟩
end

end Go.Proofs.Ytkdbgdglmbnnkaa.HDR
