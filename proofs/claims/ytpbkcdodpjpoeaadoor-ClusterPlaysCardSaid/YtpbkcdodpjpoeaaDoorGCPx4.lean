/- WRITTEN BY wip/hyb.py, a program of this workplace (out of the kit's printer and this workplace's own contracts). -/
import Derived.Test.YtpbkcdodpjpoeaaDoorGCPx0
import Derived.Test.YtpbkcdodpjpoeaaDoorGCPx2
import Derived.Test.YtpbkcdodpjpoeaaDoorGCPx3
namespace Go.Proofs.YtpbkcdodpjpoeaaDoor.HCP
open Go.RowKit Go.Proofs.YtpbkcdodpjpoeaaDoorW.PrintWords Go.Proofs.YtpbkcdodpjpoeaaDoorW.PrintLast Go.Proofs.YtpbkcdodpjpoeaaDoorW.PrintMore
attribute [local go_sem] max2_int min2_int max_two min_two max_three min_three max_four min_four   -- for this text's walks alone
set_option linter.unusedVariables false
set_option linter.unusedSimpArgs false

section
open Go Go.Shelf Go.Maps Go.Proofs.YtpbkcdodpjpoeaaDoor.Seq Go.Proofs.YtpbkcdodpjpoeaaDoor.MapL Go.Proofs.YtpbkcdodpjpoeaaDoorW.PrintLast
attribute [local go_sem] Oper.semAt_some max2_int min2_int max_two min_two
def refS (xs : List ByteArray) (F : FL) (B : BL) : List S71 := (List.range xs.length).map fun j : Nat => ⟨xs.getD j ⟨#[]⟩, (getL (j : Int) F).getD ⟨#[]⟩, (getL (j : Int) F).isSome, (getL (j : Int) B).getD false⟩
theorem refS_len (xs : List ByteArray) (F : FL) (B : BL) : (refS xs F B).length = xs.length := by simp [refS]
theorem refS_at (xs : List ByteArray) (F : FL) (B : BL) (k : Nat) (hk : k < (refS xs F B).length) : (refS xs F B)[k] = ⟨xs.getD k ⟨#[]⟩, (getL (k : Int) F).getD ⟨#[]⟩, (getL (k : Int) F).isSome, (getL (k : Int) B).getD false⟩ := by simp [refS]
theorem rd_refS (xs : List ByteArray) (F : FL) (B : BL) (at_ : Int) (h0 : 0 ≤ at_) (h1 : at_ < xs.length) : rd_T71 (refS xs F B) at_ = ⟨xs.getD at_.toNat ⟨#[]⟩, (getL at_ F).getD ⟨#[]⟩, (getL at_ F).isSome, (getL at_ B).getD false⟩ := by
 have h2 : at_.toNat < (refS xs F B).length := by rw [refS_len]; omega
 rw [rd_T71, List.getD_eq_getElem?_getD, List.getElem?_eq_getElem h2, Option.getD_some, refS_at, show ((at_.toNat : Nat) : Int) = at_ by omega]
theorem refS_ext {L : List S71} {xs : List ByteArray} {F : FL} {B : BL} (hl : L.length = xs.length) (h : ∀ k (hk : k < L.length), L[k] = ⟨xs.getD k ⟨#[]⟩, (getL (k : Int) F).getD ⟨#[]⟩, (getL (k : Int) F).isSome, (getL (k : Int) B).getD false⟩) : L = refS xs F B := by
 apply List.ext_getElem
 ·rw [hl, refS_len]
 ·intro k h1 h2
  rw [h k h1, refS_at]
theorem refS_putF (xs : List ByteArray) (F : FL) (B : BL) (at_ : Int) (s : ByteArray) (h0 : 0 ≤ at_) (h1 : at_ < xs.length) :
  (refS xs F B).set at_.toNat ⟨xs.getD at_.toNat ⟨#[]⟩, s, true, (getL at_ B).getD false⟩ = refS xs (putL at_ s F) B := by
 apply refS_ext (by rw [List.length_set, refS_len])
 intro k hk
 rw [List.length_set, refS_len] at hk
 rw [List.getElem_set]
 by_cases e : at_.toNat = k
 ·subst e
  rw [if_pos rfl, show ((at_.toNat : Nat) : Int) = at_ by omega, getL_putL, if_pos rfl]
  rfl
 ·rw [if_neg e, refS_at, getL_putL, if_neg (by omega)]
theorem refS_putB (xs : List ByteArray) (F : FL) (B : BL) (at_ : Int) (b : Bool) (h0 : 0 ≤ at_) (h1 : at_ < xs.length) :
  (refS xs F B).set at_.toNat ⟨xs.getD at_.toNat ⟨#[]⟩, (getL at_ F).getD ⟨#[]⟩, (getL at_ F).isSome, b⟩ = refS xs F (putL at_ b B) := by
 apply refS_ext (by rw [List.length_set, refS_len])
 intro k hk
 rw [List.length_set, refS_len] at hk
 rw [List.getElem_set]
 by_cases e : at_.toNat = k
 ·subst e
  rw [if_pos rfl, show ((at_.toNat : Nat) : Int) = at_ by omega, getL_putL, if_pos rfl]
  rfl
 ·rw [if_neg e, refS_at, getL_putL, if_neg (by omega)]
theorem refS_setX (xs : List ByteArray) (F : FL) (B : BL) (at_ : Int) (s : ByteArray) (h0 : 0 ≤ at_) (h1 : at_ < xs.length) :
  (refS xs F B).set at_.toNat ⟨s, (getL at_ F).getD ⟨#[]⟩, (getL at_ F).isSome, (getL at_ B).getD false⟩ = refS (xs.set at_.toNat s) F B := by
 apply refS_ext (by rw [List.length_set, refS_len, List.length_set])
 intro k hk
 rw [List.length_set, refS_len] at hk
 rw [List.getElem_set]
 by_cases e : at_.toNat = k
 ·subst e
  rw [if_pos rfl, show ((at_.toNat : Nat) : Int) = at_ by omega]
  simp [List.getD, hk]
 ·rw [if_neg e, refS_at]
  simp [List.getD, List.getElem?_set, e]
theorem R103_step {S : Nat → Prop} {w w' : World} {base : Nat} {ok ok' : Nat → Prop} {v : Value} {xs : List S71} (h : Kd.R k71 71 w base ok v xs) (hs : Step S w w') (hn : ∀ g, v.ownBlock = some g → ¬ S g) (hok : ∀ g, v.ownBlock = some g → ok' g) : Kd.R k71 71 w' base ok' v xs := by
 obtain ⟨h0, inner, ho, hr⟩ := h
 exact ⟨hok, inner, ownsRow_step hs ho hn, hr.1, fun j p hj => by have := k71_openM (hr.2 j p hj); rw [this]; exact k71_mkM _ _ _ _⟩
theorem own103 {w : World} {base : Nat} {ok : Nat → Prop} {v : Value} {xs : List S71} (h : Kd.R k71 71 w base ok v xs) {g : Nat} (hg : v.ownBlock = some g) : ∃ cur, w.heap[g]? = some (.cells cur 71 (0, 0)) := by
 obtain ⟨inner, ho⟩ := Kd.R_own h
 rcases ho.2 with ⟨rfl, _⟩ | ⟨g', cap, cur, rfl, hb, hg', _⟩
 ·simp [Value.ownBlock] at hg
 ·simp [Value.ownBlock] at hg; subst hg; exact ⟨cur, hg'⟩
theorem own103_ne {w : World} {base : Nat} {ok : Nat → Prop} {v : Value} {xs : List S71} (h : Kd.R k71 71 w base ok v xs) {q : Nat} {o : Obj} (hq : w.heap[q]? = some o) (ho : ∀ cur, o ≠ .cells cur 71 (0, 0)) : v.ownBlock ≠ some q := by
 intro e
 obtain ⟨cur, hc⟩ := own103 h e
 rw [hc] at hq
 exact ho cur (Option.some.inj hq).symm
def RefAt (w : World) (v : Value) (xs : List ByteArray) (F : FL) (B : BL) : Prop := Kd.R k71 71 w 0 (fun _ => True) v (refS xs F B)
section
variable {w w' : World} {v : Value} {xs : List ByteArray} {F : FL} {B : BL}
theorem RefAt.step {S : Nat → Prop} (h : RefAt w v xs F B) (hs : Step S w w') (hn : ∀ g, v.ownBlock = some g → ¬ S g) : RefAt w' v xs F B := R103_step h hs hn (fun _ _ => trivial)
theorem RefAt.below (h : RefAt w v xs F B) (hb : Below w.heap.size w w') : RefAt w' v xs F B := h.step (Step.of_below (S := fun _ => False) hb) (fun _ _ h => h)
theorem RefAt.reads (h : RefAt w v xs F B) : ∃ A c, v = .slice A xs.length c ∧ xs.length ≤ c ∧ Kd.C k71 w A xs.length (refS xs F B) := by
 obtain ⟨A, c, rfl, hc, hC⟩ := Kd.R_reads h
 rw [refS_len] at hC hc
 rw [refS_len]
 exact ⟨A, c, rfl, hc, hC⟩
theorem RefAt.ne (h : RefAt w v xs F B) {q : Nat} {cs : Array Value} {t : TypeId} {fr : Nat × Nat} (hq : w.heap[q]? = some (.cells cs t fr)) (ht : t ≠ 71) : v.ownBlock ≠ some q := own103_ne h hq (fun cur e => by cases e; exact ht rfl)
theorem RefAt.put (h : RefAt w v xs F B) {q : Nat} {cs : Array Value} {t : TypeId} {fr : Nat × Nat} (hq : w.heap[q]? = some (.cells cs t fr)) (ht : t ≠ 71) (j : Nat) (u : Value) : RefAt (w.setCell ⟨q, j, none⟩ u) v xs F B :=
 h.step (Step.setCell w (p := ⟨q, j, none⟩) (S := fun k => k = q) rfl u) (fun g hg e => h.ne hq ht (e ▸ hg))
end
theorem ref_has (w : World) (v : Value) (xs : List ByteArray) (F : FL) (B : BL) (off : Bool) (left nw at_ : Int) (h : RefAt w v xs F B) :
  Calls Tryd.prog 58 #[.agg #[v, .bool off, .int .i64 left, .int .i64 nw], .int .i64 at_] w fun e w' => e = .returned (.bool (decide (0 ≤ at_ ∧ at_ < xs.length))) ∧ Below w.heap.size w w' := by
 obtain ⟨A, c, rfl, hc, hC⟩ := h.reads
 have hh := caulkref05_Dev_has.calls A c (refS xs F B) off left nw at_ (decide (0 ≤ at_ ∧ at_ < xs.length)) w (by rw [refS_len]; exact hC) (by rw [refS_len]; exact hc) (by
  unfold caulkref05_Dev_has.f
  rw [refS_len]
  by_cases h0 : 0 ≤ at_
  ·rw [if_pos h0]; simp [h0]
  ·rw [if_neg h0]; simp [h0])
 rw [refS_len] at hh
 exact hh
theorem ref_with (w : World) (v : Value) (xs xs' : List ByteArray) (F F' : FL) (B B' : BL) (off : Bool) (left nw at_ : Int) (x : S71) (h : RefAt w v xs F B) (h0 : 0 ≤ at_) (h1 : at_ < xs.length) (h2 : xs.length ≤ 32768) (hx : (refS xs F B).set at_.toNat x = refS xs' F' B') :
  Calls Tryd.prog 59 #[.agg #[v, .bool off, .int .i64 left, .int .i64 nw], .int .i64 at_, .agg #[.string x.f0, .string x.f1, .bool x.f2, .bool x.f3]] w fun e w' => ∃ v', e = .returned (.agg #[v', .bool off, .int .i64 left, .int .i64 nw]) ∧ RefAt w' v' xs' F' B' ∧ Below w.heap.size w w' := by
 obtain ⟨A, c, rfl, hc, hC⟩ := h.reads
 have hh := caulkref05_Dev_with.calls A c (refS xs F B) off left nw at_ x.f0 x.f1 x.f2 x.f3 (refS xs' F' B') off left nw w (by rw [refS_len]; exact hC) (by rw [refS_len]; exact hc) (by
  unfold caulkref05_Dev_with.f
  simp only [Option.bind_some, List.nil_append, List.length_nil, refS_len]
  rw [if_pos (by omega), if_pos h0, if_pos h1]
  rw [← hx])
 rw [refS_len] at hh
 refine hh.mono ?_
 rintro e w' ⟨v, rfl, hR, hb⟩
 exact ⟨v, rfl, Kd.R_lower hR (Nat.zero_le _), hb⟩
theorem new2 (w : World) (o1 o2 : Obj) : ((w.alloc o1).alloc o2).heap[w.heap.size + 1]? = some o2 := by
 have := World.alloc_heap_new (w.alloc o1) o2
 rwa [World.size_alloc] at this
theorem new1of2 (w : World) (o1 o2 : Obj) : ((w.alloc o1).alloc o2).heap[w.heap.size]? = some o1 :=
 (Below.heap_alloc _ _ _ (by simp)).trans (World.alloc_heap_new w o1)
theorem below2 (w : World) (o1 o2 : Obj) : Below w.heap.size w ((w.alloc o1).alloc o2) := ((Below.refl _ w).alloc (Nat.le_refl _) _).alloc (by simp) _
section
variable {w : World} {g : Nat} {t : TypeId} {a b c d : Value}
theorem put4 (h : w.heap[g]? = some (.cells #[a, b, c, d] t (0, 0))) (a' b' c' d' : Value) :
  ((((w.setCell ⟨g, 0, none⟩ a').setCell ⟨g, 1, none⟩ b').setCell ⟨g, 2, none⟩ c').setCell ⟨g, 3, none⟩ d').heap[g]? = some (.cells #[a', b', c', d'] t (0, 0)) := by
 simpa using blk_set (blk_set (blk_set (blk_set h 0 a') 1 b') 2 c') 3 d'
theorem step_put4 (w : World) (g : Nat) (a' b' c' d' : Value) : Step (fun k => k = g) w ((((w.setCell ⟨g, 0, none⟩ a').setCell ⟨g, 1, none⟩ b').setCell ⟨g, 2, none⟩ c').setCell ⟨g, 3, none⟩ d') :=
 (((Step.setCell w (p := ⟨g, 0, none⟩) (S := fun q => q = g) rfl _).trans (Step.setCell _ (p := ⟨g, 1, none⟩) (S := fun q => q = g) rfl _) (fun _ h => h) (fun _ h => Or.inl h)).trans (Step.setCell _ (p := ⟨g, 2, none⟩) (S := fun q => q = g) rfl _) (fun _ h => h) (fun _ h => Or.inl h)).trans (Step.setCell _ (p := ⟨g, 3, none⟩) (S := fun q => q = g) rfl _) (fun _ h => h) (fun _ h => Or.inl h)
theorem below_put4 {w0 : World} (hb : Below w0.heap.size w0 w) (hg : w0.heap.size ≤ g) (a' b' c' d' : Value) : Below w0.heap.size w0 ((((w.setCell ⟨g, 0, none⟩ a').setCell ⟨g, 1, none⟩ b').setCell ⟨g, 2, none⟩ c').setCell ⟨g, 3, none⟩ d') :=
 hb.trans ((step_put4 w g a' b' c' d').below hb.size (fun k hk => hk ▸ hg))
theorem ref_put4 {v : Value} {xs : List ByteArray} {F : FL} {B : BL} (h : RefAt w v xs F B) {cs : Array Value} (hq : w.heap[g]? = some (.cells cs 41 (0, 0))) (a' b' c' d' : Value) : RefAt ((((w.setCell ⟨g, 0, none⟩ a').setCell ⟨g, 1, none⟩ b').setCell ⟨g, 2, none⟩ c').setCell ⟨g, 3, none⟩ d') v xs F B :=
 h.step (step_put4 w g a' b' c' d') (fun k hk e => h.ne hq (by decide) (e ▸ hk))
theorem blk4 (h : w.heap[g]? = some (.cells #[a, b, c, d] t (0, 0))) : (w.cell? ⟨g, 0, none⟩ = some a ∧ w.cell? ⟨g, 1, none⟩ = some b ∧ w.cell? ⟨g, 2, none⟩ = some c ∧ w.cell? ⟨g, 3, none⟩ = some d) ∧ w.frozen? ⟨g, 0, none⟩ = false ∧ w.frozen? ⟨g, 1, none⟩ = false ∧ w.frozen? ⟨g, 2, none⟩ = false ∧ w.frozen? ⟨g, 3, none⟩ = false := by
 refine ⟨⟨?_, ?_, ?_, ?_⟩, blk_frozen h 0, blk_frozen h 1, blk_frozen h 2, blk_frozen h 3⟩ <;> (rw [blk_cell h]; rfl)
end
theorem RefAt.C {w : World} {A : Option Addr} {n c : Nat} {xs : List ByteArray} {F : FL} {B : BL} (h : RefAt w (.slice A n c) xs F B) : n = xs.length ∧ n ≤ c ∧ Kd.C k71 w A xs.length (refS xs F B) := by
 obtain ⟨A', c', e, hc, hC⟩ := h.reads
 cases e
 exact ⟨rfl, hc, hC⟩
theorem Stepb {w w' : World} (hb : Below w.heap.size w w') {i : Nat} {o : Obj} (h : w.heap[i]? = some o) : w'.heap[i]? = some o := (Step.of_below (S := fun _ => False) hb).block h (fun h => h)
set_option maxRecDepth 100000 in
set_option maxHeartbeats 2000000 in
theorem ref_Fuse (w : World) (v : Value) (xs : List ByteArray) (F : FL) (B : BL) (off : Bool) (left nw n : Int) (h : RefAt w v xs F B) :
  Calls Tryd.prog 40 #[.agg #[v, .bool off, .int .i64 left, .int .i64 nw], .int .i64 n] w fun e w' => e = .returned (.agg #[v, .bool off, .int .i64 (mx n (-1)), .int .i64 nw]) ∧ Below w.heap.size w w' := by
 obtain ⟨A, c, rfl, hc, hC⟩ := h.reads
 go_enter Tryd.func40, Tryd.ntmps40
 by_cases hn : n < -1
 ·go_wp2
  refine bodyPost_ret (results_cell_row rfl _ _ (w.heap.size + 1) 41 _ (0, 0) _ rfl (new2 w _ _) Tryd.underlying41 rfl (by kernel_rfl)) rfl ?_
  exact ⟨by unfold mx; rw [if_pos hn], below2 w _ _⟩
 ·go_wp2
  refine bodyPost_ret (results_cell_row rfl _ _ (w.heap.size + 1) 41 _ (0, 0) _ rfl (new2 w _ _) Tryd.underlying41 rfl (by kernel_rfl)) rfl ?_
  exact ⟨by unfold mx; rw [if_neg (by omega)], below2 w _ _⟩
set_option maxRecDepth 100000 in
set_option maxHeartbeats 2000000 in
theorem ref_Write (w : World) (v : Value) (xs : List ByteArray) (F : FL) (B : BL) (off : Bool) (left nw at_ : Int) (s : ByteArray) (h : RefAt w v xs F B) (hok : DevOk xs F B left) :
  Calls Tryd.prog 55 #[.agg #[v, .bool off, .int .i64 left, .int .i64 nw], .int .i64 at_, .string s] w fun e w' => ∃ v', e = .returned (.tuple #[.agg #[v', .bool (writeP xs.length F off left nw at_ s).2.1, .int .i64 (writeP xs.length F off left nw at_ s).2.2.1, .int .i64 (writeP xs.length F off left nw at_ s).2.2.2.1], .int .i64 (writeP xs.length F off left nw at_ s).2.2.2.2]) ∧
   RefAt w' v' xs (writeP xs.length F off left nw at_ s).1 B ∧ Below w.heap.size w w' := by
 obtain ⟨A, c, rfl, hc, hC⟩ := h.reads
 obtain ⟨k1, k2, _, _, _, _, _, k3, k4⟩ := hok
 obtain ⟨F', off', l', n', why, hq⟩ : ∃ F' off' l' n' why, writeP xs.length F off left nw at_ s = (F', off', l', n', why) := ⟨_, _, _, _, _, rfl⟩
 rw [hq]
 dsimp only
 cases off
 ·have hW := ref_has ((w.alloc (.cells #[.slice A xs.length c, .bool false, .int .i64 left, .int .i64 nw] 41)).alloc (.cells #[.slice none 0 0, .bool false, .int .i64 0, .int .i64 0] 41)) _ xs F B false left nw at_ (h.below (below2 w _ _))
  have hy0 := new1of2 w (.cells #[.slice A xs.length c, .bool false, .int .i64 left, .int .i64 nw] 41) (.cells #[.slice none 0 0, .bool false, .int .i64 0, .int .i64 0] 41)
  have hy1 := new2 w (.cells #[.slice A xs.length c, .bool false, .int .i64 left, .int .i64 nw] 41) (.cells #[.slice none 0 0, .bool false, .int .i64 0, .int .i64 0] 41)
  have hb0 := below2 w (.cells #[.slice A xs.length c, .bool false, .int .i64 left, .int .i64 nw] 41) (.cells #[.slice none 0 0, .bool false, .int .i64 0, .int .i64 0] 41)
  go_enter Tryd.func55, Tryd.ntmps55
  go_wp2_with (go_at_call 58; refine hW.mono ?_)
  rintro e w1 ⟨rfl, hb1⟩
  have hx1 := Stepb hb1 hy1
  have hx0 := Stepb hb1 hy0
  have hR1 := (h.below hb0).below hb1
  have hB1 := hb0.trans (hb1.mono hb0.size)
  have hC1 := Kd.C_below hC hB1
  have hsz := blk_lt hx1
  clear hy0 hy1 hb0 hb1 hW hC
  obtain ⟨⟨c00, c01, c02, c03⟩, f00, f01, f02, f03⟩ := blk4 hx0
  obtain ⟨⟨c10, c11, c12, c13⟩, f10, f11, f12, f13⟩ := blk4 hx1
  by_cases hat : 0 ≤ at_ ∧ at_ < (xs.length : Int)
  ·rw [decide_eq_true hat]
   by_cases hs : s.size = 512
   ·have e1 : ((s.size : Int) != 512) = false := by rw [bne_eq_false_iff_eq]; omega
    by_cases hl : left = 0
    ·subst hl
     rw [show writeP xs.length F false 0 nw at_ s = (F, true, 0, nw, 12) by simp [writeP, reachP, hat, burnP, hs]] at hq
     simp only [Prod.mk.injEq] at hq
     obtain ⟨rfl, rfl, rfl, rfl, rfl⟩ := hq
     go_wp2
     have hx2 : (w1.setCell ⟨w.heap.size, 1, none⟩ (.bool true)).heap[w.heap.size + 1]? = some (.cells #[.slice none 0 0, .bool false, .int .i64 0, .int .i64 0] 41 (0, 0)) := blk_far hx1 (p := ⟨w.heap.size, 1, none⟩) (by simp) _
     refine bodyPost_ret (results_ct rfl _ _ (w.heap.size + 1) 41 _ (0, 0) _ rfl (put4 hx2 _ _ _ _) Tryd.underlying41 rfl (by kernel_rfl)) rfl ?_
     exact ⟨_, rfl, ref_put4 (hR1.put hx0 (by decide) 1 _) hx2 _ _ _ _, below_put4 (hB1.setCell (p := ⟨w.heap.size, 1, none⟩) (Nat.le_refl _) _) (by omega) _ _ _ _⟩
    ·have e2 : (left == 0) = false := by simpa using hl
     obtain ⟨ad, eA, _⟩ := at_T71 hC1 at_ hat.1 (by omega)
     subst eA
     have hrd := rd_refS xs F B at_ hat.1 hat.2
     obtain ⟨x, hx⟩ : ∃ x, x = rd_T71 (refS xs F B) at_ := ⟨_, rfl⟩
     have hset := refS_putF xs F B at_ s hat.1 hat.2
     rw [← hx] at hrd
     have hset : (refS xs F B).set at_.toNat ⟨x.f0, s, true, x.f3⟩ = refS xs (putL at_ s F) B := by rw [hrd]; exact hset
     by_cases hl1 : 0 < left
     ·have e3 : decide (0 < left) = true := decide_eq_true hl1
      rw [show writeP xs.length F false left nw at_ s = (putL at_ s F, false, left - 1, wrap64 (nw + 1), 0) by simp [writeP, reachP, hat, burnP, hs, hl, hl1]] at hq
      simp only [Prod.mk.injEq] at hq
      obtain ⟨rfl, rfl, rfl, rfl, rfl⟩ := hq
      have hR2 := (hR1.put hx0 (by decide) 2 (.int .i64 (left - 1))).put (blk_set hx0 2 (.int .i64 (left - 1))) (by decide) 3 (.int .i64 (wrap64 (nw + 1)))
      have hz2 : ((w1.setCell ⟨w.heap.size, 2, none⟩ (.int .i64 (left - 1))).setCell ⟨w.heap.size, 3, none⟩ (.int .i64 (wrap64 (nw + 1)))).heap[w.heap.size + 1]? = some (.cells #[.slice none 0 0, .bool false, .int .i64 0, .int .i64 0] 41 (0, 0)) := blk_far (blk_far hx1 (p := ⟨w.heap.size, 2, none⟩) (by simp) _) (p := ⟨w.heap.size, 3, none⟩) (by simp) _
      have hb2 : Below w.heap.size w ((w1.setCell ⟨w.heap.size, 2, none⟩ (.int .i64 (left - 1))).setCell ⟨w.heap.size, 3, none⟩ (.int .i64 (wrap64 (nw + 1)))) := (hB1.setCell (p := ⟨w.heap.size, 2, none⟩) (Nat.le_refl _) _).setCell (p := ⟨w.heap.size, 3, none⟩) (Nat.le_refl _) _
      obtain ⟨_, _, hC2⟩ := hR2.C
      obtain ⟨ad', eA, x0, x1, x2, x3⟩ := at_T71 hC2 at_ hat.1 (by omega)
      cases eA
      rw [← hx] at x0 x1 x2 x3
      have hWi := ref_with (((w1.setCell ⟨w.heap.size, 2, none⟩ (.int .i64 (left - 1))).setCell ⟨w.heap.size, 3, none⟩ (.int .i64 (wrap64 (nw + 1)))).alloc (.cells #[.string x.f0, .string s, .bool true, .bool x.f3] 71)) _ xs xs F (putL at_ s F) B B false (left - 1) (wrap64 (nw + 1)) at_ ⟨x.f0, s, true, x.f3⟩ (hR2.step (Step.alloc (fun _ => False) _ _) (fun _ _ h => h)) hat.1 hat.2 k2 hset
      have hb3 := hb2.alloc hb2.size (.cells #[.string x.f0, .string s, .bool true, .bool x.f3] 71)
      have hq0 : (((w1.setCell ⟨w.heap.size, 2, none⟩ (.int .i64 (left - 1))).setCell ⟨w.heap.size, 3, none⟩ (.int .i64 (wrap64 (nw + 1)))).alloc (.cells #[.string x.f0, .string s, .bool true, .bool x.f3] 71)).heap[w.heap.size]? = some (.cells #[.slice (some ad) xs.length c, .bool false, .int .i64 (left - 1), .int .i64 (wrap64 (nw + 1))] 41 (0, 0)) := (Step.alloc (fun _ => False) _ _).block (by simpa using blk_set (blk_set hx0 2 (.int .i64 (left - 1))) 3 (.int .i64 (wrap64 (nw + 1)))) (fun h => h)
      obtain ⟨⟨b00, b01, b02, b03⟩, _⟩ := blk4 hq0
      clear hq0
      obtain ⟨hat0, hat1⟩ := hat
      clear hx hrd hset hC1 hC2
      go_wp2_with (go_at_call 59; refine hWi.mono ?_)
      rintro e w3 ⟨v', rfl, hR3, hb4⟩
      obtain ⟨A3, c3, rfl, _⟩ := hR3.reads
      have hz3 := Stepb hb4 ((Step.alloc (fun _ => False) _ _).block hz2 (fun h => h))
      have hB3 := hb3.trans (hb4.mono hb3.size)
      clear hWi hx1 hx0 hR1 hR2 hz2 hb2 hb3 hb4 hB1
      obtain ⟨⟨d10, d11, d12, d13⟩, g10, g11, g12, g13⟩ := blk4 hz3
      go_wp2
      refine bodyPost_ret (results_ct rfl _ _ (w.heap.size + 1) 41 _ (0, 0) _ rfl (put4 hz3 _ _ _ _) Tryd.underlying41 rfl (by kernel_rfl)) rfl ?_
      exact ⟨_, rfl, ref_put4 hR3 hz3 _ _ _ _, below_put4 hB3 (by omega) _ _ _ _⟩
     ·have e3 : decide (0 < left) = false := decide_eq_false hl1
      rw [show writeP xs.length F false left nw at_ s = (putL at_ s F, false, left, wrap64 (nw + 1), 0) by simp [writeP, reachP, hat, burnP, hs, hl, hl1]] at hq
      simp only [Prod.mk.injEq] at hq
      obtain ⟨rfl, rfl, rfl, rfl, rfl⟩ := hq
      have hR2 := (hR1.put hx0 (by decide) 3 (.int .i64 (wrap64 (nw + 1))))
      have hz2 : (w1.setCell ⟨w.heap.size, 3, none⟩ (.int .i64 (wrap64 (nw + 1)))).heap[w.heap.size + 1]? = some (.cells #[.slice none 0 0, .bool false, .int .i64 0, .int .i64 0] 41 (0, 0)) := (blk_far hx1 (p := ⟨w.heap.size, 3, none⟩) (by simp) _)
      have hb2 : Below w.heap.size w (w1.setCell ⟨w.heap.size, 3, none⟩ (.int .i64 (wrap64 (nw + 1)))) := (hB1.setCell (p := ⟨w.heap.size, 3, none⟩) (Nat.le_refl _) _)
      obtain ⟨_, _, hC2⟩ := hR2.C
      obtain ⟨ad', eA, x0, x1, x2, x3⟩ := at_T71 hC2 at_ hat.1 (by omega)
      cases eA
      rw [← hx] at x0 x1 x2 x3
      have hWi := ref_with ((w1.setCell ⟨w.heap.size, 3, none⟩ (.int .i64 (wrap64 (nw + 1)))).alloc (.cells #[.string x.f0, .string s, .bool true, .bool x.f3] 71)) _ xs xs F (putL at_ s F) B B false left (wrap64 (nw + 1)) at_ ⟨x.f0, s, true, x.f3⟩ (hR2.step (Step.alloc (fun _ => False) _ _) (fun _ _ h => h)) hat.1 hat.2 k2 hset
      have hb3 := hb2.alloc hb2.size (.cells #[.string x.f0, .string s, .bool true, .bool x.f3] 71)
      have hq0 : ((w1.setCell ⟨w.heap.size, 3, none⟩ (.int .i64 (wrap64 (nw + 1)))).alloc (.cells #[.string x.f0, .string s, .bool true, .bool x.f3] 71)).heap[w.heap.size]? = some (.cells #[.slice (some ad) xs.length c, .bool false, .int .i64 left, .int .i64 (wrap64 (nw + 1))] 41 (0, 0)) := (Step.alloc (fun _ => False) _ _).block (by simpa using blk_set hx0 3 (.int .i64 (wrap64 (nw + 1)))) (fun h => h)
      obtain ⟨⟨b00, b01, b02, b03⟩, _⟩ := blk4 hq0
      clear hq0
      obtain ⟨hat0, hat1⟩ := hat
      clear hx hrd hset hC1 hC2
      go_wp2_with (go_at_call 59; refine hWi.mono ?_)
      rintro e w3 ⟨v', rfl, hR3, hb4⟩
      obtain ⟨A3, c3, rfl, _⟩ := hR3.reads
      have hz3 := Stepb hb4 ((Step.alloc (fun _ => False) _ _).block hz2 (fun h => h))
      have hB3 := hb3.trans (hb4.mono hb3.size)
      clear hWi hx1 hx0 hR1 hR2 hz2 hb2 hb3 hb4 hB1
      obtain ⟨⟨d10, d11, d12, d13⟩, g10, g11, g12, g13⟩ := blk4 hz3
      go_wp2
      refine bodyPost_ret (results_ct rfl _ _ (w.heap.size + 1) 41 _ (0, 0) _ rfl (put4 hz3 _ _ _ _) Tryd.underlying41 rfl (by kernel_rfl)) rfl ?_
      exact ⟨_, rfl, ref_put4 hR3 hz3 _ _ _ _, below_put4 hB3 (by omega) _ _ _ _⟩
   ·have e1 : ((s.size : Int) != 512) = true := by rw [bne_iff_ne]; omega
    rw [show writeP xs.length F false left nw at_ s = (F, false, left, nw, 2) by simp [writeP, reachP, hat, hs]] at hq
    simp only [Prod.mk.injEq] at hq
    obtain ⟨rfl, rfl, rfl, rfl, rfl⟩ := hq
    go_wp2
    refine bodyPost_ret (results_ct rfl _ _ (w.heap.size + 1) 41 _ (0, 0) _ rfl (put4 hx1 _ _ _ _) Tryd.underlying41 rfl (by kernel_rfl)) rfl ?_
    exact ⟨_, rfl, ref_put4 hR1 hx1 _ _ _ _, below_put4 hB1 (by omega) _ _ _ _⟩
  ·rw [decide_eq_false hat]
   rw [show writeP xs.length F false left nw at_ s = (F, false, left, nw, 1) by simp [writeP, reachP, hat]] at hq
   simp only [Prod.mk.injEq] at hq
   obtain ⟨rfl, rfl, rfl, rfl, rfl⟩ := hq
   go_wp2
   refine bodyPost_ret (results_ct rfl _ _ (w.heap.size + 1) 41 _ (0, 0) _ rfl (put4 hx1 _ _ _ _) Tryd.underlying41 rfl (by kernel_rfl)) rfl ?_
   exact ⟨_, rfl, ref_put4 hR1 hx1 _ _ _ _, below_put4 hB1 (by omega) _ _ _ _⟩
 ·rw [show writeP xs.length F true left nw at_ s = (F, true, left, nw, 12) by simp [writeP, reachP]] at hq
  simp only [Prod.mk.injEq] at hq
  obtain ⟨rfl, rfl, rfl, rfl, rfl⟩ := hq
  go_enter Tryd.func55, Tryd.ntmps55
  go_wp2
  refine bodyPost_ret (results_ct rfl _ _ (w.heap.size + 1) 41 _ (0, 0) _ rfl (new2 w _ _) Tryd.underlying41 rfl (by kernel_rfl)) rfl ?_
  exact ⟨_, rfl, h.below (below2 w _ _), below2 w _ _⟩
set_option maxRecDepth 100000 in
set_option maxHeartbeats 2000000 in
theorem ref_Erase (w : World) (v : Value) (xs : List ByteArray) (F : FL) (B : BL) (off : Bool) (left nw at_ : Int) (h : RefAt w v xs F B) (hok : DevOk xs F B left) :
  Calls Tryd.prog 34 #[.agg #[v, .bool off, .int .i64 left, .int .i64 nw], .int .i64 at_] w fun e w' => ∃ v', e = .returned (.tuple #[.agg #[v', .bool off, .int .i64 left, .int .i64 nw], .int .i64 (eraseP xs.length B at_).2]) ∧
   RefAt w' v' xs F (eraseP xs.length B at_).1 ∧ Below w.heap.size w w' := by
 obtain ⟨A, c, rfl, hc, hC⟩ := h.reads
 obtain ⟨k1, k2, _⟩ := hok
 obtain ⟨B', why, hq⟩ : ∃ B' why, eraseP xs.length B at_ = (B', why) := ⟨_, _, rfl⟩
 rw [hq]
 dsimp only
 have hW := ref_has ((w.alloc (.cells #[.slice A xs.length c, .bool off, .int .i64 left, .int .i64 nw] 41)).alloc (.cells #[.slice none 0 0, .bool false, .int .i64 0, .int .i64 0] 41)) _ xs F B off left nw at_ (h.below (below2 w _ _))
 have hy0 := new1of2 w (.cells #[.slice A xs.length c, .bool off, .int .i64 left, .int .i64 nw] 41) (.cells #[.slice none 0 0, .bool false, .int .i64 0, .int .i64 0] 41)
 have hy1 := new2 w (.cells #[.slice A xs.length c, .bool off, .int .i64 left, .int .i64 nw] 41) (.cells #[.slice none 0 0, .bool false, .int .i64 0, .int .i64 0] 41)
 have hb0 := below2 w (.cells #[.slice A xs.length c, .bool off, .int .i64 left, .int .i64 nw] 41) (.cells #[.slice none 0 0, .bool false, .int .i64 0, .int .i64 0] 41)
 go_enter Tryd.func34, Tryd.ntmps34
 go_wp2_with (go_at_call 58; refine hW.mono ?_)
 rintro e w1 ⟨rfl, hb1⟩
 have hx1 := Stepb hb1 hy1
 have hx0 := Stepb hb1 hy0
 have hR1 := (h.below hb0).below hb1
 have hB1 := hb0.trans (hb1.mono hb0.size)
 have hsz := blk_lt hx1
 clear hy0 hy1 hb0 hb1 hW hC
 obtain ⟨⟨c00, c01, c02, c03⟩, f00, f01, f02, f03⟩ := blk4 hx0
 obtain ⟨⟨c10, c11, c12, c13⟩, f10, f11, f12, f13⟩ := blk4 hx1
 by_cases hat : 0 ≤ at_ ∧ at_ < (xs.length : Int)
 ·rw [decide_eq_true hat]
  rw [show eraseP xs.length B at_ = (putL at_ true B, 0) by simp [eraseP, hat]] at hq
  simp only [Prod.mk.injEq] at hq
  obtain ⟨rfl, rfl⟩ := hq
  obtain ⟨_, _, hC1⟩ := hR1.C
  obtain ⟨ad, eA, x0, x1, x2, x3⟩ := at_T71 hC1 at_ hat.1 (by omega)
  subst eA
  have hrd := rd_refS xs F B at_ hat.1 hat.2
  obtain ⟨x, hx⟩ : ∃ x, x = rd_T71 (refS xs F B) at_ := ⟨_, rfl⟩
  have hset := refS_putB xs F B at_ true hat.1 hat.2
  rw [← hx] at hrd x0 x1 x2 x3
  have hset : (refS xs F B).set at_.toNat ⟨x.f0, x.f1, x.f2, true⟩ = refS xs F (putL at_ true B) := by rw [hrd]; exact hset
  have hWi := ref_with (w1.alloc (.cells #[.string x.f0, .string x.f1, .bool x.f2, .bool true] 71)) _ xs xs F F B (putL at_ true B) off left nw at_ ⟨x.f0, x.f1, x.f2, true⟩ (hR1.step (Step.alloc (fun _ => False) _ _) (fun _ _ h => h)) hat.1 hat.2 k2 hset
  have hb3 := hB1.alloc hB1.size (.cells #[.string x.f0, .string x.f1, .bool x.f2, .bool true] 71)
  have hq0 : (w1.alloc (.cells #[.string x.f0, .string x.f1, .bool x.f2, .bool true] 71)).heap[w.heap.size]? = some (.cells #[.slice (some ad) xs.length c, .bool off, .int .i64 left, .int .i64 nw] 41 (0, 0)) := (Step.alloc (fun _ => False) _ _).block hx0 (fun h => h)
  obtain ⟨⟨b00, b01, b02, b03⟩, _⟩ := blk4 hq0
  obtain ⟨hat0, hat1⟩ := hat
  clear hx hrd hset hC1 hq0
  go_wp2_with (go_at_call 59; refine hWi.mono ?_)
  rintro e w3 ⟨v', rfl, hR3, hb4⟩
  obtain ⟨A3, c3, rfl, _⟩ := hR3.reads
  have hz3 := Stepb hb4 ((Step.alloc (fun _ => False) _ _).block hx1 (fun h => h))
  have hB3 := hb3.trans (hb4.mono hb3.size)
  clear hWi hx1 hx0 hR1 hb3 hb4 hB1
  obtain ⟨⟨d10, d11, d12, d13⟩, g10, g11, g12, g13⟩ := blk4 hz3
  go_wp2
  refine bodyPost_ret (results_ct rfl _ _ (w.heap.size + 1) 41 _ (0, 0) _ rfl (put4 hz3 _ _ _ _) Tryd.underlying41 rfl (by kernel_rfl)) rfl ?_
  exact ⟨_, rfl, ref_put4 hR3 hz3 _ _ _ _, below_put4 hB3 (by omega) _ _ _ _⟩
 ·rw [decide_eq_false hat]
  rw [show eraseP xs.length B at_ = (B, 1) by simp [eraseP, hat]] at hq
  simp only [Prod.mk.injEq] at hq
  obtain ⟨rfl, rfl⟩ := hq
  go_wp2
  refine bodyPost_ret (results_ct rfl _ _ (w.heap.size + 1) 41 _ (0, 0) _ rfl (put4 hx1 _ _ _ _) Tryd.underlying41 rfl (by kernel_rfl)) rfl ?_
  exact ⟨_, rfl, ref_put4 hR1 hx1 _ _ _ _, below_put4 hB1 (by omega) _ _ _ _⟩
def caulkref05_landed.f (a0_0 : ByteArray) (a0_1 : ByteArray) (a0_2 : Bool) (a0_3 : Bool) : Option (ByteArray × ByteArray × Bool × Bool) := some (a0_1, (⟨#[]⟩ : ByteArray), false, false)
set_option maxHeartbeats 8000000 in
set_option maxRecDepth 100000 in
theorem caulkref05_landed.calls (a0_0 : ByteArray) (a0_1 : ByteArray) (a0_2 : Bool) (a0_3 : Bool) (r1 : ByteArray) (r2 : ByteArray) (r3 : Bool) (r4 : Bool) (w : World) (h : caulkref05_landed.f a0_0 a0_1 a0_2 a0_3 = some (r1, r2, r3, r4)) :
  Calls Tryd.prog 61 #[.agg #[.string a0_0, .string a0_1, .bool a0_2, .bool a0_3]] w fun e w' => e = .returned (.agg #[.string r1, .string r2, .bool r3, .bool r4]) ∧ Below w.heap.size w w' := by
 have hu103 := Tryd.underlying71
 have HB := Aside0.mk (Below.refl w.heap.size w)
 have H : (some (a0_1, (⟨#[]⟩ : ByteArray), false, false)) = some (r1, r2, r3, r4) := h
 clear h
 simp only [Option.some.injEq, Prod.mk.injEq] at H
 obtain ⟨rfl, rfl, rfl, rfl⟩ := H
 go_enter Tryd.func61, Tryd.ntmps61
 go_wp2_with (first | ((with_reducible refine HOpen.gate_append ?_); simp only [List.cons_append, List.nil_append]) | ((with_reducible refine HOpen.gate_append ?_); simp only [List.cons_append, List.nil_append]) | ((with_reducible refine gate_dst (N := 1) rfl ?_); refine box_event ?hg (N := 1) ?hd (cs := #[.string a0_0, .string a0_1, .bool a0_2, .bool a0_3]) (t := 71) ?hr ?_; (case hd => rfl); (case hg => rfl); (case hr => first | (go_simp; done) | (go_simp; rfl)); intro gb152 hg w2 hbox hb; have n0_ := Aside0.mk (below_step (by repeat (first | (with_reducible first | exact HB.out | apply below_alloc | apply pw_below_drewN | apply below_drew1) | exact HB.out)) hb); have n1_ := Aside0.mk (hbox); have n2_ := Aside0.mk ((by rw [hg]; exact (below_size (by repeat (first | (with_reducible first | exact HB.out | apply below_alloc | apply pw_below_drewN | apply below_drew1) | exact HB.out))) : w.heap.size ≤ gb152)); have n3_ := Aside0.mk ((by rw [hg]; exact (below_size (by repeat (first | (with_reducible first | exact HB.out | apply below_alloc | apply pw_below_drewN | apply below_drew1) | exact HB.out))) : w.heap.size ≤ gb152)); clear HB; have HB := n0_; have BK152 := n1_; have GW152 := n2_; have GE152 := n3_; clear n0_ n1_ n2_ n3_; clear hb hbox hg) | ((with_reducible refine gate_dst (N := 2) rfl ?_); refine box_event ?hg (N := 2) ?hd (cs := #[.string (⟨#[]⟩ : ByteArray), .string (⟨#[]⟩ : ByteArray), .bool false, .bool false]) (t := 71) ?hr ?_; (case hd => rfl); (case hg => rfl); (case hr => first | (go_simp; done) | (go_simp; rfl)); intro gb153 hg w3 hbox hb; have n0_ := Aside0.mk (blk_below (g := gb152) (o := .cells #[.string a0_0, .string a0_1, .bool a0_2, .bool a0_3] 71 (0, 0)) (by (with_reducible repeat (first | refine blk_drewN ?_ _ | refine blk_drew ?_ | refine blk_alloc ?_ _)); exact BK152.out) hb); have n1_ := Aside0.mk (below_step (by repeat (first | (with_reducible first | exact HB.out | apply below_alloc | apply pw_below_drewN | apply below_drew1 | refine below_set ?_ GE152.out) | exact HB.out)) hb); have n2_ := Aside0.mk (hbox); have n3_ := Aside0.mk ((by rw [hg]; exact (below_size (by repeat (first | (with_reducible first | exact HB.out | apply below_alloc | apply pw_below_drewN | apply below_drew1 | refine below_set ?_ GE152.out) | exact HB.out))) : w.heap.size ≤ gb153)); have n4_ := Aside0.mk ((by rw [hg]; exact (below_size (by repeat (first | (with_reducible first | exact HB.out | apply below_alloc | apply pw_below_drewN | apply below_drew1 | refine below_set ?_ GE152.out) | exact HB.out))) : w.heap.size ≤ gb153)); have n5_ := Aside0.mk ((by rw [hg]; exact Nat.ne_of_lt (blk_lt (g := gb152) (o := .cells #[.string a0_0, .string a0_1, .bool a0_2, .bool a0_3] 71 (0, 0)) (by (with_reducible repeat (first | refine blk_drewN ?_ _ | refine blk_drew ?_ | refine blk_alloc ?_ _)); exact BK152.out)) : gb152 ≠ gb153)); have n6_ := Aside0.mk ((by rw [hg]; exact Nat.ne_of_gt (blk_lt (g := gb152) (o := .cells #[.string a0_0, .string a0_1, .bool a0_2, .bool a0_3] 71 (0, 0)) (by (with_reducible repeat (first | refine blk_drewN ?_ _ | refine blk_drew ?_ | refine blk_alloc ?_ _)); exact BK152.out)) : gb153 ≠ gb152)); clear BK152; clear HB; have BK152 := n0_; have HB := n1_; have BK153 := n2_; have GW153 := n3_; have GE153 := n4_; have NB152_153 := n5_; have NB153_152 := n6_; clear n0_ n1_ n2_ n3_ n4_ n5_ n6_; clear hb hbox hg; have hnb4 := NB152_153.out; have hnc4 := NB153_152.out; have hcz5_0 : w3.cell? ⟨gb152, 0, none⟩ = some (.string a0_0) := (blk_cell BK152.out 0).trans rfl; have hcz5_1 : w3.cell? ⟨gb152, 1, none⟩ = some (.string a0_1) := (blk_cell BK152.out 1).trans rfl; have hcz5_2 : w3.cell? ⟨gb152, 2, none⟩ = some (.bool a0_2) := (blk_cell BK152.out 2).trans rfl; have hcz5_3 : w3.cell? ⟨gb152, 3, none⟩ = some (.bool a0_3) := (blk_cell BK152.out 3).trans rfl; have hfz5_0 := blk_frozen BK152.out 0; have hfz5_1 := blk_frozen BK152.out 1; have hfz5_2 := blk_frozen BK152.out 2; have hfz5_3 := blk_frozen BK152.out 3; have hcz6_0 : w3.cell? ⟨gb153, 0, none⟩ = some (.string (⟨#[]⟩ : ByteArray)) := (blk_cell BK153.out 0).trans rfl; have hcz6_1 : w3.cell? ⟨gb153, 1, none⟩ = some (.string (⟨#[]⟩ : ByteArray)) := (blk_cell BK153.out 1).trans rfl; have hcz6_2 : w3.cell? ⟨gb153, 2, none⟩ = some (.bool false) := (blk_cell BK153.out 2).trans rfl; have hcz6_3 : w3.cell? ⟨gb153, 3, none⟩ = some (.bool false) := (blk_cell BK153.out 3).trans rfl; have hfz6_0 := blk_frozen BK153.out 0; have hfz6_1 := blk_frozen BK153.out 1; have hfz6_2 := blk_frozen BK153.out 2; have hfz6_3 := blk_frozen BK153.out 3))
 refine bodyPost_ret (results_cell_row rfl _ _ gb153 71 #[.string a0_1, .string (⟨#[]⟩ : ByteArray), .bool false, .bool false] (0, 0) _ rfl (by (with_reducible repeat (first | refine blk_drewN ?_ _ | refine blk_drew ?_ | refine blk_alloc ?_ _)); refine blk_put (cs := #[.string a0_1, .string (⟨#[]⟩ : ByteArray), .bool false, .bool false]) ?_ 3 _ rfl; (with_reducible repeat (first | refine blk_drewN ?_ _ | refine blk_drew ?_ | refine blk_alloc ?_ _)); refine blk_put (cs := #[.string a0_1, .string (⟨#[]⟩ : ByteArray), .bool false, .bool false]) ?_ 2 _ rfl; (with_reducible repeat (first | refine blk_drewN ?_ _ | refine blk_drew ?_ | refine blk_alloc ?_ _)); refine blk_put (cs := #[.string a0_1, .string (⟨#[]⟩ : ByteArray), .bool false, .bool false]) ?_ 1 _ rfl; (with_reducible repeat (first | refine blk_drewN ?_ _ | refine blk_drew ?_ | refine blk_alloc ?_ _)); refine blk_put (cs := #[.string (⟨#[]⟩ : ByteArray), .string (⟨#[]⟩ : ByteArray), .bool false, .bool false]) ?_ 0 _ rfl; (with_reducible repeat (first | refine blk_drewN ?_ _ | refine blk_drew ?_ | refine blk_alloc ?_ _)); exact BK153.out) Tryd.underlying71 rfl (by kernel_rfl)) rfl ?_
 exact ⟨by first | rfl | (simp [errW_none, errW_some] <;> rfl) | (simp [*, errW_none, errW_some] <;> rfl), by repeat (first | (with_reducible first | exact HB.out | apply below_alloc | apply pw_below_drewN | apply below_drew1 | refine below_set ?_ GE152.out | refine below_set ?_ GE153.out) | exact HB.out)⟩



def caulkref05_Dev_Read.f (l0_0 : List (S71)) (a0_1 : Bool) (a0_2 : Int) (a0_3 : Int) (a1 : Int) : Option (ByteArray × Int) := if a0_1 = true then (some ((⟨#[]⟩ : ByteArray), 12)) else ((caulkref05_Dev_has.f l0_0 a0_1 a0_2 a0_3 a1).bind fun t205 => (if t205 = true then (if 0 ≤ a1 then (if a1 < (l0_0.length : Int) then (if (rd_T71 l0_0 a1).f2 = true then (some ((rd_T71 l0_0 a1).f1, 0)) else (if (rd_T71 l0_0 a1).f3 = true then (some ((⟨#[]⟩ : ByteArray), 9)) else (some ((rd_T71 l0_0 a1).f0, 0)))) else (none)) else (none)) else (some ((⟨#[]⟩ : ByteArray), 1))))
set_option maxHeartbeats 8000000 in
set_option maxRecDepth 100000 in
theorem caulkref05_Dev_Read.calls (A0_0 : Option Addr) (c0_0 : Nat) (l0_0 : List (S71)) (a0_1 : Bool) (a0_2 : Int) (a0_3 : Int) (a1 : Int) (r1 : ByteArray) (r2 : Int) (w : World) (hr0_0 : Kd.C k71 w A0_0 l0_0.length l0_0) (hc0_0 : l0_0.length ≤ c0_0) (h : caulkref05_Dev_Read.f l0_0 a0_1 a0_2 a0_3 a1 = some (r1, r2)) :
  Calls Tryd.prog 57 #[.agg #[.slice A0_0 l0_0.length c0_0, .bool a0_1, .int .i64 a0_2, .int .i64 a0_3], .int .i64 a1] w fun e w' => e = .returned (.tuple #[.string r1, .int .i64 r2]) ∧ Below w.heap.size w w' := by
 have hu45 := Tryd.underlying41
 have hu103 := Tryd.underlying71
 have HR0_0 := Aside0.mk hr0_0
 have HC0_0 := Aside0.mk hc0_0
 clear hr0_0 hc0_0
 have HB := Aside0.mk (Below.refl w.heap.size w)
 have H : (if a0_1 = true then (some ((⟨#[]⟩ : ByteArray), 12)) else ((caulkref05_Dev_has.f l0_0 a0_1 a0_2 a0_3 a1).bind fun t205 => (if t205 = true then (if 0 ≤ a1 then (if a1 < (l0_0.length : Int) then (if (rd_T71 l0_0 a1).f2 = true then (some ((rd_T71 l0_0 a1).f1, 0)) else (if (rd_T71 l0_0 a1).f3 = true then (some ((⟨#[]⟩ : ByteArray), 9)) else (some ((rd_T71 l0_0 a1).f0, 0)))) else (none)) else (none)) else (some ((⟨#[]⟩ : ByteArray), 1))))) = some (r1, r2) := h
 clear h
 by_cases c3 : a0_1 = true
 ·subst c3
  have H1 : (some ((⟨#[]⟩ : ByteArray), 12)) = some (r1, r2) := by rw [if_pos rfl] at H; exact H
  clear H
  have H := H1
  clear H1
  simp only [Option.some.injEq, Prod.mk.injEq] at H
  obtain ⟨rfl, rfl⟩ := H
  go_enter Tryd.func57, Tryd.ntmps57
  go_wp2_with (first | ((with_reducible refine HOpen.gate_append ?_); simp only [List.cons_append, List.nil_append]) | ((with_reducible refine HOpen.gate_append ?_); simp only [List.cons_append, List.nil_append]) | ((with_reducible refine gate_dst (N := 2) rfl ?_); refine box_event ?hg (N := 2) ?hd (cs := #[.slice A0_0 l0_0.length c0_0, .bool true, .int .i64 a0_2, .int .i64 a0_3]) (t := 41) ?hr ?_; (case hd => rfl); (case hg => rfl); (case hr => first | (go_simp; done) | (go_simp; rfl)); intro gb204 hg w4 hbox hb; have n0_ := Aside0.mk (below_step (by repeat (first | (with_reducible first | exact HB.out | apply below_alloc | apply pw_below_drewN | apply below_drew1) | exact HB.out)) hb); have n1_ := Aside0.mk (hbox); have n2_ := Aside0.mk ((by rw [hg]; exact (below_size (by repeat (first | (with_reducible first | exact HB.out | apply below_alloc | apply pw_below_drewN | apply below_drew1) | exact HB.out))) : w.heap.size ≤ gb204)); have n3_ := Aside0.mk ((by rw [hg]; exact (below_size (by repeat (first | (with_reducible first | exact HB.out | apply below_alloc | apply pw_below_drewN | apply below_drew1) | exact HB.out))) : w.heap.size ≤ gb204)); clear HB; have HB := n0_; have BK204 := n1_; have GW204 := n2_; have GE204 := n3_; clear n0_ n1_ n2_ n3_; clear hb hbox hg; have hcz5_0 : w4.cell? ⟨gb204, 0, none⟩ = some (.slice A0_0 l0_0.length c0_0) := (blk_cell BK204.out 0).trans rfl; have hcz5_1 : w4.cell? ⟨gb204, 1, none⟩ = some (.bool true) := (blk_cell BK204.out 1).trans rfl; have hcz5_2 : w4.cell? ⟨gb204, 2, none⟩ = some (.int .i64 a0_2) := (blk_cell BK204.out 2).trans rfl; have hcz5_3 : w4.cell? ⟨gb204, 3, none⟩ = some (.int .i64 a0_3) := (blk_cell BK204.out 3).trans rfl; have hfz5_0 := blk_frozen BK204.out 0; have hfz5_1 := blk_frozen BK204.out 1; have hfz5_2 := blk_frozen BK204.out 2; have hfz5_3 := blk_frozen BK204.out 3))
  go_ret2
  exact ⟨by first | rfl | (simp [errW_none, errW_some] <;> rfl) | (simp [*, errW_none, errW_some] <;> rfl), by repeat (first | (with_reducible first | exact HB.out | apply below_alloc | apply pw_below_drewN | apply below_drew1 | refine below_set ?_ GE204.out) | exact HB.out)⟩
 ·replace c3 := Bool.eq_false_iff.mpr c3
  subst c3
  have H1 : ((caulkref05_Dev_has.f l0_0 false a0_2 a0_3 a1).bind fun t205 => (if t205 = true then (if 0 ≤ a1 then (if a1 < (l0_0.length : Int) then (if (rd_T71 l0_0 a1).f2 = true then (some ((rd_T71 l0_0 a1).f1, 0)) else (if (rd_T71 l0_0 a1).f3 = true then (some ((⟨#[]⟩ : ByteArray), 9)) else (some ((rd_T71 l0_0 a1).f0, 0)))) else (none)) else (none)) else (some ((⟨#[]⟩ : ByteArray), 1)))) = some (r1, r2) := by rw [if_neg (show ¬ (false = true) by decide)] at H; exact H
  clear H
  have H := H1
  clear H1
  replace H := Option.bind_eq_some_iff.mp H
  obtain ⟨t205, A60, H⟩ := H
  replace H : (if t205 = true then (if 0 ≤ a1 then (if a1 < (l0_0.length : Int) then (if (rd_T71 l0_0 a1).f2 = true then (some ((rd_T71 l0_0 a1).f1, 0)) else (if (rd_T71 l0_0 a1).f3 = true then (some ((⟨#[]⟩ : ByteArray), 9)) else (some ((rd_T71 l0_0 a1).f0, 0)))) else (none)) else (none)) else (some ((⟨#[]⟩ : ByteArray), 1))) = some (r1, r2) := H
  have A6 := Aside0.mk A60
  clear A60
  by_cases c7 : t205 = true
  ·subst c7
   have H1 : (if 0 ≤ a1 then (if a1 < (l0_0.length : Int) then (if (rd_T71 l0_0 a1).f2 = true then (some ((rd_T71 l0_0 a1).f1, 0)) else (if (rd_T71 l0_0 a1).f3 = true then (some ((⟨#[]⟩ : ByteArray), 9)) else (some ((rd_T71 l0_0 a1).f0, 0)))) else (none)) else (none)) = some (r1, r2) := by rw [if_pos rfl] at H; exact H
   clear H
   have H := H1
   clear H1
   by_cases c8 : 0 ≤ a1
   ·rw [if_pos c8] at H
    have c8b0 : decide (0 ≤ a1) = true := decide_eq_true c8
    clear c8
    by_cases c9 : a1 < (l0_0.length : Int)
    ·rw [if_pos c9] at H
     have c9b0 : decide (a1 < (l0_0.length : Int)) = true := decide_eq_true c9
     clear c9
     obtain ⟨bq10, hbq10⟩ : ∃ b_ : Bool, b_ = ((rd_T71 l0_0 a1).f2) := ⟨_, rfl⟩
     replace H : (if bq10 = true then (some ((rd_T71 l0_0 a1).f1, 0)) else (if (rd_T71 l0_0 a1).f3 = true then (some ((⟨#[]⟩ : ByteArray), 9)) else (some ((rd_T71 l0_0 a1).f0, 0)))) = some (r1, r2) := by rw [← hbq10] at H; exact H
     have Nbq10 := Aside0.mk hbq10
     clear hbq10
     by_cases c11 : bq10 = true
     ·subst c11
      have H1 : (some ((rd_T71 l0_0 a1).f1, 0)) = some (r1, r2) := by rw [if_pos rfl] at H; exact H
      clear H
      have H := H1
      clear H1
      simp only [Option.some.injEq, Prod.mk.injEq] at H
      obtain ⟨rfl, rfl⟩ := H
      go_enter Tryd.func57, Tryd.ntmps57
      go_wp2_with (first | ((with_reducible refine HOpen.gate_append ?_); simp only [List.cons_append, List.nil_append]) | ((with_reducible refine HOpen.gate_append ?_); simp only [List.cons_append, List.nil_append]) | ((with_reducible refine gate_dst (N := 2) rfl ?_); refine box_event ?hg (N := 2) ?hd (cs := #[.slice A0_0 l0_0.length c0_0, .bool false, .int .i64 a0_2, .int .i64 a0_3]) (t := 41) ?hr ?_; (case hd => rfl); (case hg => rfl); (case hr => first | (go_simp; done) | (go_simp; rfl)); intro gb204 hg w12 hbox hb; have n0_ := Aside0.mk (below_step (by repeat (first | (with_reducible first | exact HB.out | apply below_alloc | apply pw_below_drewN | apply below_drew1) | exact HB.out)) hb); have n1_ := Aside0.mk (hbox); have n2_ := Aside0.mk ((by rw [hg]; exact (below_size (by repeat (first | (with_reducible first | exact HB.out | apply below_alloc | apply pw_below_drewN | apply below_drew1) | exact HB.out))) : w.heap.size ≤ gb204)); have n3_ := Aside0.mk ((by rw [hg]; exact (below_size (by repeat (first | (with_reducible first | exact HB.out | apply below_alloc | apply pw_below_drewN | apply below_drew1) | exact HB.out))) : w.heap.size ≤ gb204)); clear HB; have HB := n0_; have BK204 := n1_; have GW204 := n2_; have GE204 := n3_; clear n0_ n1_ n2_ n3_; clear hb hbox hg; have hcz13_0 : w12.cell? ⟨gb204, 0, none⟩ = some (.slice A0_0 l0_0.length c0_0) := (blk_cell BK204.out 0).trans rfl; have hcz13_1 : w12.cell? ⟨gb204, 1, none⟩ = some (.bool false) := (blk_cell BK204.out 1).trans rfl; have hcz13_2 : w12.cell? ⟨gb204, 2, none⟩ = some (.int .i64 a0_2) := (blk_cell BK204.out 2).trans rfl; have hcz13_3 : w12.cell? ⟨gb204, 3, none⟩ = some (.int .i64 a0_3) := (blk_cell BK204.out 3).trans rfl; have hfz13_0 := blk_frozen BK204.out 0; have hfz13_1 := blk_frozen BK204.out 1; have hfz13_2 := blk_frozen BK204.out 2; have hfz13_3 := blk_frozen BK204.out 3) | ((with_reducible refine gate_callee (f := 58) rfl ?_); refine goesL_ (some 11) rfl rfl Tryd.func58 (by kernel_rfl) rfl #[.agg #[.slice A0_0 l0_0.length c0_0, .bool false, .int .i64 a0_2, .int .i64 a0_3], .int .i64 a1] rfl (by (try simp only [List.map_toArray, List.map_cons, List.map_nil]); first | done | rfl | (simp only [List.length_drop, List.length_take]; rfl)) ?_; (with_reducible refine (caulkref05_Dev_has.calls _ _ l0_0 false a0_2 a0_3 a1 true _ ?side1 ?side2 A6.out).mono ?_); (case side1 => repeat (first | exact (Kd.C_below HR0_0.out HB.out) | (with_reducible refine Kd.C_alloc ?_ _) | (with_reducible refine Kd.C_drewN ?_ _) | (with_reducible refine Kd.C_drew ?_))); (case side2 => exact HC0_0.out); rintro e w14 ⟨rfl, hb⟩; refine ⟨_, rfl, ?_⟩; have n0_ := Aside0.mk (blk_below (g := gb204) (o := .cells #[.slice A0_0 l0_0.length c0_0, .bool false, .int .i64 a0_2, .int .i64 a0_3] 41 (0, 0)) (by (with_reducible repeat (first | refine blk_drewN ?_ _ | refine blk_drew ?_ | refine blk_alloc ?_ _)); exact BK204.out) hb); have n1_ := Aside0.mk (below_step (by repeat (first | (with_reducible first | exact HB.out | apply below_alloc | apply pw_below_drewN | apply below_drew1 | refine below_set ?_ GE204.out) | exact HB.out)) hb); clear BK204; clear HB; have BK204 := n0_; have HB := n1_; clear n0_ n1_; (try clear hb); (try clear hb2); (try clear hk); (try clear hi); have hcz15_0 : w14.cell? ⟨gb204, 0, none⟩ = some (.slice A0_0 l0_0.length c0_0) := (blk_cell BK204.out 0).trans rfl; have hcz15_1 : w14.cell? ⟨gb204, 1, none⟩ = some (.bool false) := (blk_cell BK204.out 1).trans rfl; have hcz15_2 : w14.cell? ⟨gb204, 2, none⟩ = some (.int .i64 a0_2) := (blk_cell BK204.out 2).trans rfl; have hcz15_3 : w14.cell? ⟨gb204, 3, none⟩ = some (.int .i64 a0_3) := (blk_cell BK204.out 3).trans rfl; have hfz15_0 := blk_frozen BK204.out 0; have hfz15_1 := blk_frozen BK204.out 1; have hfz15_2 := blk_frozen BK204.out 2; have hfz15_3 := blk_frozen BK204.out 3; have p206 : 0 ≤ (a1 : Int) := of_decide_eq_true (by first | (with_reducible assumption) | assumption); have q206 : a1 < (l0_0.length : Int) := of_decide_eq_true (by first | (with_reducible assumption) | assumption); obtain ⟨ad206, e206, hx206_0, hx206_1, hx206_2, hx206_3⟩ := at_T71 HR0_0.out a1 p206 q206; (try rw [← Nbq10.out] at hx206_2); (try rw [← Nbq10.out] at hx206_3); cases e206; replace hx206_0 := (HB.out.cell (World.block_lt_of_cell? w _ hx206_0)).trans hx206_0; replace hx206_1 := (HB.out.cell (World.block_lt_of_cell? w _ hx206_1)).trans hx206_1; replace hx206_2 := (HB.out.cell (World.block_lt_of_cell? w _ hx206_2)).trans hx206_2; replace hx206_3 := (HB.out.cell (World.block_lt_of_cell? w _ hx206_3)).trans hx206_3; replace p206 := eq_true p206; replace q206 := eq_true q206) | ((with_reducible refine gate_dst (N := 6) rfl ?_); refine box_event ?hg (N := 6) ?hd (cs := #[.string (⟨#[]⟩ : ByteArray), .string (⟨#[]⟩ : ByteArray), .bool false, .bool false]) (t := 71) ?hr ?_; (case hd => rfl); (case hg => rfl); (case hr => first | (go_simp; done) | (go_simp; rfl)); intro gb207 hg w16 hbox hb; have n0_ := Aside0.mk (blk_below (g := gb204) (o := .cells #[.slice (some ad206) l0_0.length c0_0, .bool false, .int .i64 a0_2, .int .i64 a0_3] 41 (0, 0)) (by (with_reducible repeat (first | refine blk_drewN ?_ _ | refine blk_drew ?_ | refine blk_alloc ?_ _)); exact BK204.out) hb); have n1_ := Aside0.mk (below_step (by repeat (first | (with_reducible first | exact HB.out | apply below_alloc | apply pw_below_drewN | apply below_drew1 | refine below_set ?_ GE204.out) | exact HB.out)) hb); have n2_ := Aside0.mk (hbox); have n3_ := Aside0.mk ((by rw [hg]; exact (below_size (by repeat (first | (with_reducible first | exact HB.out | apply below_alloc | apply pw_below_drewN | apply below_drew1 | refine below_set ?_ GE204.out) | exact HB.out))) : w.heap.size ≤ gb207)); have n4_ := Aside0.mk ((by rw [hg]; exact (below_size (by repeat (first | (with_reducible first | exact HB.out | apply below_alloc | apply pw_below_drewN | apply below_drew1 | refine below_set ?_ GE204.out) | exact HB.out))) : w.heap.size ≤ gb207)); have n5_ := Aside0.mk ((by rw [hg]; exact Nat.ne_of_lt (blk_lt (g := gb204) (o := .cells #[.slice (some ad206) l0_0.length c0_0, .bool false, .int .i64 a0_2, .int .i64 a0_3] 41 (0, 0)) (by (with_reducible repeat (first | refine blk_drewN ?_ _ | refine blk_drew ?_ | refine blk_alloc ?_ _)); exact BK204.out)) : gb204 ≠ gb207)); have n6_ := Aside0.mk ((by rw [hg]; exact Nat.ne_of_gt (blk_lt (g := gb204) (o := .cells #[.slice (some ad206) l0_0.length c0_0, .bool false, .int .i64 a0_2, .int .i64 a0_3] 41 (0, 0)) (by (with_reducible repeat (first | refine blk_drewN ?_ _ | refine blk_drew ?_ | refine blk_alloc ?_ _)); exact BK204.out)) : gb207 ≠ gb204)); clear BK204; clear HB; have BK204 := n0_; have HB := n1_; have BK207 := n2_; have GW207 := n3_; have GE207 := n4_; have NB204_207 := n5_; have NB207_204 := n6_; clear n0_ n1_ n2_ n3_ n4_ n5_ n6_; clear hb hbox hg; have hnb17 := NB207_204.out; have hnc17 := NB204_207.out; have hcz18_0 : w16.cell? ⟨gb207, 0, none⟩ = some (.string (⟨#[]⟩ : ByteArray)) := (blk_cell BK207.out 0).trans rfl; have hcz18_1 : w16.cell? ⟨gb207, 1, none⟩ = some (.string (⟨#[]⟩ : ByteArray)) := (blk_cell BK207.out 1).trans rfl; have hcz18_2 : w16.cell? ⟨gb207, 2, none⟩ = some (.bool false) := (blk_cell BK207.out 2).trans rfl; have hcz18_3 : w16.cell? ⟨gb207, 3, none⟩ = some (.bool false) := (blk_cell BK207.out 3).trans rfl; have hfz18_0 := blk_frozen BK207.out 0; have hfz18_1 := blk_frozen BK207.out 1; have hfz18_2 := blk_frozen BK207.out 2; have hfz18_3 := blk_frozen BK207.out 3))
      go_ret2
      exact ⟨by first | rfl | (simp [errW_none, errW_some] <;> rfl) | (simp [*, errW_none, errW_some] <;> rfl), by repeat (first | (with_reducible first | exact HB.out | apply below_alloc | apply pw_below_drewN | apply below_drew1 | refine below_set ?_ GE204.out | refine below_set ?_ GE207.out) | exact HB.out)⟩
     ·replace c11 := Bool.eq_false_iff.mpr c11
      subst c11
      have H1 : (if (rd_T71 l0_0 a1).f3 = true then (some ((⟨#[]⟩ : ByteArray), 9)) else (some ((rd_T71 l0_0 a1).f0, 0))) = some (r1, r2) := by rw [if_neg (show ¬ (false = true) by decide)] at H; exact H
      clear H
      have H := H1
      clear H1
      obtain ⟨bq19, hbq19⟩ : ∃ b_ : Bool, b_ = ((rd_T71 l0_0 a1).f3) := ⟨_, rfl⟩
      replace H : (if bq19 = true then (some ((⟨#[]⟩ : ByteArray), 9)) else (some ((rd_T71 l0_0 a1).f0, 0))) = some (r1, r2) := by rw [← hbq19] at H; exact H
      have Nbq19 := Aside0.mk hbq19
      clear hbq19
      by_cases c20 : bq19 = true
      ·subst c20
       have H1 : (some ((⟨#[]⟩ : ByteArray), 9)) = some (r1, r2) := by rw [if_pos rfl] at H; exact H
       clear H
       have H := H1
       clear H1
       simp only [Option.some.injEq, Prod.mk.injEq] at H
       obtain ⟨rfl, rfl⟩ := H
       go_enter Tryd.func57, Tryd.ntmps57
       go_wp2_with (first | ((with_reducible refine HOpen.gate_append ?_); simp only [List.cons_append, List.nil_append]) | ((with_reducible refine HOpen.gate_append ?_); simp only [List.cons_append, List.nil_append]) | ((with_reducible refine gate_dst (N := 2) rfl ?_); refine box_event ?hg (N := 2) ?hd (cs := #[.slice A0_0 l0_0.length c0_0, .bool false, .int .i64 a0_2, .int .i64 a0_3]) (t := 41) ?hr ?_; (case hd => rfl); (case hg => rfl); (case hr => first | (go_simp; done) | (go_simp; rfl)); intro gb204 hg w21 hbox hb; have n0_ := Aside0.mk (below_step (by repeat (first | (with_reducible first | exact HB.out | apply below_alloc | apply pw_below_drewN | apply below_drew1) | exact HB.out)) hb); have n1_ := Aside0.mk (hbox); have n2_ := Aside0.mk ((by rw [hg]; exact (below_size (by repeat (first | (with_reducible first | exact HB.out | apply below_alloc | apply pw_below_drewN | apply below_drew1) | exact HB.out))) : w.heap.size ≤ gb204)); have n3_ := Aside0.mk ((by rw [hg]; exact (below_size (by repeat (first | (with_reducible first | exact HB.out | apply below_alloc | apply pw_below_drewN | apply below_drew1) | exact HB.out))) : w.heap.size ≤ gb204)); clear HB; have HB := n0_; have BK204 := n1_; have GW204 := n2_; have GE204 := n3_; clear n0_ n1_ n2_ n3_; clear hb hbox hg; have hcz22_0 : w21.cell? ⟨gb204, 0, none⟩ = some (.slice A0_0 l0_0.length c0_0) := (blk_cell BK204.out 0).trans rfl; have hcz22_1 : w21.cell? ⟨gb204, 1, none⟩ = some (.bool false) := (blk_cell BK204.out 1).trans rfl; have hcz22_2 : w21.cell? ⟨gb204, 2, none⟩ = some (.int .i64 a0_2) := (blk_cell BK204.out 2).trans rfl; have hcz22_3 : w21.cell? ⟨gb204, 3, none⟩ = some (.int .i64 a0_3) := (blk_cell BK204.out 3).trans rfl; have hfz22_0 := blk_frozen BK204.out 0; have hfz22_1 := blk_frozen BK204.out 1; have hfz22_2 := blk_frozen BK204.out 2; have hfz22_3 := blk_frozen BK204.out 3) | ((with_reducible refine gate_callee (f := 58) rfl ?_); refine goesL_ (some 11) rfl rfl Tryd.func58 (by kernel_rfl) rfl #[.agg #[.slice A0_0 l0_0.length c0_0, .bool false, .int .i64 a0_2, .int .i64 a0_3], .int .i64 a1] rfl (by (try simp only [List.map_toArray, List.map_cons, List.map_nil]); first | done | rfl | (simp only [List.length_drop, List.length_take]; rfl)) ?_; (with_reducible refine (caulkref05_Dev_has.calls _ _ l0_0 false a0_2 a0_3 a1 true _ ?side1 ?side2 A6.out).mono ?_); (case side1 => repeat (first | exact (Kd.C_below HR0_0.out HB.out) | (with_reducible refine Kd.C_alloc ?_ _) | (with_reducible refine Kd.C_drewN ?_ _) | (with_reducible refine Kd.C_drew ?_))); (case side2 => exact HC0_0.out); rintro e w23 ⟨rfl, hb⟩; refine ⟨_, rfl, ?_⟩; have n0_ := Aside0.mk (blk_below (g := gb204) (o := .cells #[.slice A0_0 l0_0.length c0_0, .bool false, .int .i64 a0_2, .int .i64 a0_3] 41 (0, 0)) (by (with_reducible repeat (first | refine blk_drewN ?_ _ | refine blk_drew ?_ | refine blk_alloc ?_ _)); exact BK204.out) hb); have n1_ := Aside0.mk (below_step (by repeat (first | (with_reducible first | exact HB.out | apply below_alloc | apply pw_below_drewN | apply below_drew1 | refine below_set ?_ GE204.out) | exact HB.out)) hb); clear BK204; clear HB; have BK204 := n0_; have HB := n1_; clear n0_ n1_; (try clear hb); (try clear hb2); (try clear hk); (try clear hi); have hcz24_0 : w23.cell? ⟨gb204, 0, none⟩ = some (.slice A0_0 l0_0.length c0_0) := (blk_cell BK204.out 0).trans rfl; have hcz24_1 : w23.cell? ⟨gb204, 1, none⟩ = some (.bool false) := (blk_cell BK204.out 1).trans rfl; have hcz24_2 : w23.cell? ⟨gb204, 2, none⟩ = some (.int .i64 a0_2) := (blk_cell BK204.out 2).trans rfl; have hcz24_3 : w23.cell? ⟨gb204, 3, none⟩ = some (.int .i64 a0_3) := (blk_cell BK204.out 3).trans rfl; have hfz24_0 := blk_frozen BK204.out 0; have hfz24_1 := blk_frozen BK204.out 1; have hfz24_2 := blk_frozen BK204.out 2; have hfz24_3 := blk_frozen BK204.out 3; have p206 : 0 ≤ (a1 : Int) := of_decide_eq_true (by first | (with_reducible assumption) | assumption); have q206 : a1 < (l0_0.length : Int) := of_decide_eq_true (by first | (with_reducible assumption) | assumption); obtain ⟨ad206, e206, hx206_0, hx206_1, hx206_2, hx206_3⟩ := at_T71 HR0_0.out a1 p206 q206; (try rw [← Nbq10.out] at hx206_2); (try rw [← Nbq19.out] at hx206_2); (try rw [← Nbq10.out] at hx206_3); (try rw [← Nbq19.out] at hx206_3); cases e206; replace hx206_0 := (HB.out.cell (World.block_lt_of_cell? w _ hx206_0)).trans hx206_0; replace hx206_1 := (HB.out.cell (World.block_lt_of_cell? w _ hx206_1)).trans hx206_1; replace hx206_2 := (HB.out.cell (World.block_lt_of_cell? w _ hx206_2)).trans hx206_2; replace hx206_3 := (HB.out.cell (World.block_lt_of_cell? w _ hx206_3)).trans hx206_3; replace p206 := eq_true p206; replace q206 := eq_true q206) | ((with_reducible refine gate_dst (N := 6) rfl ?_); refine box_event ?hg (N := 6) ?hd (cs := #[.string (⟨#[]⟩ : ByteArray), .string (⟨#[]⟩ : ByteArray), .bool false, .bool false]) (t := 71) ?hr ?_; (case hd => rfl); (case hg => rfl); (case hr => first | (go_simp; done) | (go_simp; rfl)); intro gb207 hg w25 hbox hb; have n0_ := Aside0.mk (blk_below (g := gb204) (o := .cells #[.slice (some ad206) l0_0.length c0_0, .bool false, .int .i64 a0_2, .int .i64 a0_3] 41 (0, 0)) (by (with_reducible repeat (first | refine blk_drewN ?_ _ | refine blk_drew ?_ | refine blk_alloc ?_ _)); exact BK204.out) hb); have n1_ := Aside0.mk (below_step (by repeat (first | (with_reducible first | exact HB.out | apply below_alloc | apply pw_below_drewN | apply below_drew1 | refine below_set ?_ GE204.out) | exact HB.out)) hb); have n2_ := Aside0.mk (hbox); have n3_ := Aside0.mk ((by rw [hg]; exact (below_size (by repeat (first | (with_reducible first | exact HB.out | apply below_alloc | apply pw_below_drewN | apply below_drew1 | refine below_set ?_ GE204.out) | exact HB.out))) : w.heap.size ≤ gb207)); have n4_ := Aside0.mk ((by rw [hg]; exact (below_size (by repeat (first | (with_reducible first | exact HB.out | apply below_alloc | apply pw_below_drewN | apply below_drew1 | refine below_set ?_ GE204.out) | exact HB.out))) : w.heap.size ≤ gb207)); have n5_ := Aside0.mk ((by rw [hg]; exact Nat.ne_of_lt (blk_lt (g := gb204) (o := .cells #[.slice (some ad206) l0_0.length c0_0, .bool false, .int .i64 a0_2, .int .i64 a0_3] 41 (0, 0)) (by (with_reducible repeat (first | refine blk_drewN ?_ _ | refine blk_drew ?_ | refine blk_alloc ?_ _)); exact BK204.out)) : gb204 ≠ gb207)); have n6_ := Aside0.mk ((by rw [hg]; exact Nat.ne_of_gt (blk_lt (g := gb204) (o := .cells #[.slice (some ad206) l0_0.length c0_0, .bool false, .int .i64 a0_2, .int .i64 a0_3] 41 (0, 0)) (by (with_reducible repeat (first | refine blk_drewN ?_ _ | refine blk_drew ?_ | refine blk_alloc ?_ _)); exact BK204.out)) : gb207 ≠ gb204)); clear BK204; clear HB; have BK204 := n0_; have HB := n1_; have BK207 := n2_; have GW207 := n3_; have GE207 := n4_; have NB204_207 := n5_; have NB207_204 := n6_; clear n0_ n1_ n2_ n3_ n4_ n5_ n6_; clear hb hbox hg; have hnb26 := NB207_204.out; have hnc26 := NB204_207.out; have hcz27_0 : w25.cell? ⟨gb207, 0, none⟩ = some (.string (⟨#[]⟩ : ByteArray)) := (blk_cell BK207.out 0).trans rfl; have hcz27_1 : w25.cell? ⟨gb207, 1, none⟩ = some (.string (⟨#[]⟩ : ByteArray)) := (blk_cell BK207.out 1).trans rfl; have hcz27_2 : w25.cell? ⟨gb207, 2, none⟩ = some (.bool false) := (blk_cell BK207.out 2).trans rfl; have hcz27_3 : w25.cell? ⟨gb207, 3, none⟩ = some (.bool false) := (blk_cell BK207.out 3).trans rfl; have hfz27_0 := blk_frozen BK207.out 0; have hfz27_1 := blk_frozen BK207.out 1; have hfz27_2 := blk_frozen BK207.out 2; have hfz27_3 := blk_frozen BK207.out 3))
       go_ret2
       exact ⟨by first | rfl | (simp [errW_none, errW_some] <;> rfl) | (simp [*, errW_none, errW_some] <;> rfl), by repeat (first | (with_reducible first | exact HB.out | apply below_alloc | apply pw_below_drewN | apply below_drew1 | refine below_set ?_ GE204.out | refine below_set ?_ GE207.out) | exact HB.out)⟩
      ·replace c20 := Bool.eq_false_iff.mpr c20
       subst c20
       have H1 : (some ((rd_T71 l0_0 a1).f0, 0)) = some (r1, r2) := by rw [if_neg (show ¬ (false = true) by decide)] at H; exact H
       clear H
       have H := H1
       clear H1
       simp only [Option.some.injEq, Prod.mk.injEq] at H
       obtain ⟨rfl, rfl⟩ := H
       go_enter Tryd.func57, Tryd.ntmps57
       go_wp2_with (first | ((with_reducible refine HOpen.gate_append ?_); simp only [List.cons_append, List.nil_append]) | ((with_reducible refine HOpen.gate_append ?_); simp only [List.cons_append, List.nil_append]) | ((with_reducible refine gate_dst (N := 2) rfl ?_); refine box_event ?hg (N := 2) ?hd (cs := #[.slice A0_0 l0_0.length c0_0, .bool false, .int .i64 a0_2, .int .i64 a0_3]) (t := 41) ?hr ?_; (case hd => rfl); (case hg => rfl); (case hr => first | (go_simp; done) | (go_simp; rfl)); intro gb204 hg w28 hbox hb; have n0_ := Aside0.mk (below_step (by repeat (first | (with_reducible first | exact HB.out | apply below_alloc | apply pw_below_drewN | apply below_drew1) | exact HB.out)) hb); have n1_ := Aside0.mk (hbox); have n2_ := Aside0.mk ((by rw [hg]; exact (below_size (by repeat (first | (with_reducible first | exact HB.out | apply below_alloc | apply pw_below_drewN | apply below_drew1) | exact HB.out))) : w.heap.size ≤ gb204)); have n3_ := Aside0.mk ((by rw [hg]; exact (below_size (by repeat (first | (with_reducible first | exact HB.out | apply below_alloc | apply pw_below_drewN | apply below_drew1) | exact HB.out))) : w.heap.size ≤ gb204)); clear HB; have HB := n0_; have BK204 := n1_; have GW204 := n2_; have GE204 := n3_; clear n0_ n1_ n2_ n3_; clear hb hbox hg; have hcz29_0 : w28.cell? ⟨gb204, 0, none⟩ = some (.slice A0_0 l0_0.length c0_0) := (blk_cell BK204.out 0).trans rfl; have hcz29_1 : w28.cell? ⟨gb204, 1, none⟩ = some (.bool false) := (blk_cell BK204.out 1).trans rfl; have hcz29_2 : w28.cell? ⟨gb204, 2, none⟩ = some (.int .i64 a0_2) := (blk_cell BK204.out 2).trans rfl; have hcz29_3 : w28.cell? ⟨gb204, 3, none⟩ = some (.int .i64 a0_3) := (blk_cell BK204.out 3).trans rfl; have hfz29_0 := blk_frozen BK204.out 0; have hfz29_1 := blk_frozen BK204.out 1; have hfz29_2 := blk_frozen BK204.out 2; have hfz29_3 := blk_frozen BK204.out 3) | ((with_reducible refine gate_callee (f := 58) rfl ?_); refine goesL_ (some 11) rfl rfl Tryd.func58 (by kernel_rfl) rfl #[.agg #[.slice A0_0 l0_0.length c0_0, .bool false, .int .i64 a0_2, .int .i64 a0_3], .int .i64 a1] rfl (by (try simp only [List.map_toArray, List.map_cons, List.map_nil]); first | done | rfl | (simp only [List.length_drop, List.length_take]; rfl)) ?_; (with_reducible refine (caulkref05_Dev_has.calls _ _ l0_0 false a0_2 a0_3 a1 true _ ?side1 ?side2 A6.out).mono ?_); (case side1 => repeat (first | exact (Kd.C_below HR0_0.out HB.out) | (with_reducible refine Kd.C_alloc ?_ _) | (with_reducible refine Kd.C_drewN ?_ _) | (with_reducible refine Kd.C_drew ?_))); (case side2 => exact HC0_0.out); rintro e w30 ⟨rfl, hb⟩; refine ⟨_, rfl, ?_⟩; have n0_ := Aside0.mk (blk_below (g := gb204) (o := .cells #[.slice A0_0 l0_0.length c0_0, .bool false, .int .i64 a0_2, .int .i64 a0_3] 41 (0, 0)) (by (with_reducible repeat (first | refine blk_drewN ?_ _ | refine blk_drew ?_ | refine blk_alloc ?_ _)); exact BK204.out) hb); have n1_ := Aside0.mk (below_step (by repeat (first | (with_reducible first | exact HB.out | apply below_alloc | apply pw_below_drewN | apply below_drew1 | refine below_set ?_ GE204.out) | exact HB.out)) hb); clear BK204; clear HB; have BK204 := n0_; have HB := n1_; clear n0_ n1_; (try clear hb); (try clear hb2); (try clear hk); (try clear hi); have hcz31_0 : w30.cell? ⟨gb204, 0, none⟩ = some (.slice A0_0 l0_0.length c0_0) := (blk_cell BK204.out 0).trans rfl; have hcz31_1 : w30.cell? ⟨gb204, 1, none⟩ = some (.bool false) := (blk_cell BK204.out 1).trans rfl; have hcz31_2 : w30.cell? ⟨gb204, 2, none⟩ = some (.int .i64 a0_2) := (blk_cell BK204.out 2).trans rfl; have hcz31_3 : w30.cell? ⟨gb204, 3, none⟩ = some (.int .i64 a0_3) := (blk_cell BK204.out 3).trans rfl; have hfz31_0 := blk_frozen BK204.out 0; have hfz31_1 := blk_frozen BK204.out 1; have hfz31_2 := blk_frozen BK204.out 2; have hfz31_3 := blk_frozen BK204.out 3; have p206 : 0 ≤ (a1 : Int) := of_decide_eq_true (by first | (with_reducible assumption) | assumption); have q206 : a1 < (l0_0.length : Int) := of_decide_eq_true (by first | (with_reducible assumption) | assumption); obtain ⟨ad206, e206, hx206_0, hx206_1, hx206_2, hx206_3⟩ := at_T71 HR0_0.out a1 p206 q206; (try rw [← Nbq10.out] at hx206_2); (try rw [← Nbq19.out] at hx206_2); (try rw [← Nbq10.out] at hx206_3); (try rw [← Nbq19.out] at hx206_3); cases e206; replace hx206_0 := (HB.out.cell (World.block_lt_of_cell? w _ hx206_0)).trans hx206_0; replace hx206_1 := (HB.out.cell (World.block_lt_of_cell? w _ hx206_1)).trans hx206_1; replace hx206_2 := (HB.out.cell (World.block_lt_of_cell? w _ hx206_2)).trans hx206_2; replace hx206_3 := (HB.out.cell (World.block_lt_of_cell? w _ hx206_3)).trans hx206_3; replace p206 := eq_true p206; replace q206 := eq_true q206) | ((with_reducible refine gate_dst (N := 6) rfl ?_); refine box_event ?hg (N := 6) ?hd (cs := #[.string (⟨#[]⟩ : ByteArray), .string (⟨#[]⟩ : ByteArray), .bool false, .bool false]) (t := 71) ?hr ?_; (case hd => rfl); (case hg => rfl); (case hr => first | (go_simp; done) | (go_simp; rfl)); intro gb207 hg w32 hbox hb; have n0_ := Aside0.mk (blk_below (g := gb204) (o := .cells #[.slice (some ad206) l0_0.length c0_0, .bool false, .int .i64 a0_2, .int .i64 a0_3] 41 (0, 0)) (by (with_reducible repeat (first | refine blk_drewN ?_ _ | refine blk_drew ?_ | refine blk_alloc ?_ _)); exact BK204.out) hb); have n1_ := Aside0.mk (below_step (by repeat (first | (with_reducible first | exact HB.out | apply below_alloc | apply pw_below_drewN | apply below_drew1 | refine below_set ?_ GE204.out) | exact HB.out)) hb); have n2_ := Aside0.mk (hbox); have n3_ := Aside0.mk ((by rw [hg]; exact (below_size (by repeat (first | (with_reducible first | exact HB.out | apply below_alloc | apply pw_below_drewN | apply below_drew1 | refine below_set ?_ GE204.out) | exact HB.out))) : w.heap.size ≤ gb207)); have n4_ := Aside0.mk ((by rw [hg]; exact (below_size (by repeat (first | (with_reducible first | exact HB.out | apply below_alloc | apply pw_below_drewN | apply below_drew1 | refine below_set ?_ GE204.out) | exact HB.out))) : w.heap.size ≤ gb207)); have n5_ := Aside0.mk ((by rw [hg]; exact Nat.ne_of_lt (blk_lt (g := gb204) (o := .cells #[.slice (some ad206) l0_0.length c0_0, .bool false, .int .i64 a0_2, .int .i64 a0_3] 41 (0, 0)) (by (with_reducible repeat (first | refine blk_drewN ?_ _ | refine blk_drew ?_ | refine blk_alloc ?_ _)); exact BK204.out)) : gb204 ≠ gb207)); have n6_ := Aside0.mk ((by rw [hg]; exact Nat.ne_of_gt (blk_lt (g := gb204) (o := .cells #[.slice (some ad206) l0_0.length c0_0, .bool false, .int .i64 a0_2, .int .i64 a0_3] 41 (0, 0)) (by (with_reducible repeat (first | refine blk_drewN ?_ _ | refine blk_drew ?_ | refine blk_alloc ?_ _)); exact BK204.out)) : gb207 ≠ gb204)); clear BK204; clear HB; have BK204 := n0_; have HB := n1_; have BK207 := n2_; have GW207 := n3_; have GE207 := n4_; have NB204_207 := n5_; have NB207_204 := n6_; clear n0_ n1_ n2_ n3_ n4_ n5_ n6_; clear hb hbox hg; have hnb33 := NB207_204.out; have hnc33 := NB204_207.out; have hcz34_0 : w32.cell? ⟨gb207, 0, none⟩ = some (.string (⟨#[]⟩ : ByteArray)) := (blk_cell BK207.out 0).trans rfl; have hcz34_1 : w32.cell? ⟨gb207, 1, none⟩ = some (.string (⟨#[]⟩ : ByteArray)) := (blk_cell BK207.out 1).trans rfl; have hcz34_2 : w32.cell? ⟨gb207, 2, none⟩ = some (.bool false) := (blk_cell BK207.out 2).trans rfl; have hcz34_3 : w32.cell? ⟨gb207, 3, none⟩ = some (.bool false) := (blk_cell BK207.out 3).trans rfl; have hfz34_0 := blk_frozen BK207.out 0; have hfz34_1 := blk_frozen BK207.out 1; have hfz34_2 := blk_frozen BK207.out 2; have hfz34_3 := blk_frozen BK207.out 3))
       go_ret2
       exact ⟨by first | rfl | (simp [errW_none, errW_some] <;> rfl) | (simp [*, errW_none, errW_some] <;> rfl), by repeat (first | (with_reducible first | exact HB.out | apply below_alloc | apply pw_below_drewN | apply below_drew1 | refine below_set ?_ GE204.out | refine below_set ?_ GE207.out) | exact HB.out)⟩
    ·rw [if_neg c9] at H
     exact absurd H (by simp)
   ·rw [if_neg c8] at H
    exact absurd H (by simp)
  ·replace c7 := Bool.eq_false_iff.mpr c7
   subst c7
   have H1 : (some ((⟨#[]⟩ : ByteArray), 1)) = some (r1, r2) := by rw [if_neg (show ¬ (false = true) by decide)] at H; exact H
   clear H
   have H := H1
   clear H1
   simp only [Option.some.injEq, Prod.mk.injEq] at H
   obtain ⟨rfl, rfl⟩ := H
   go_enter Tryd.func57, Tryd.ntmps57
   go_wp2_with (first | ((with_reducible refine HOpen.gate_append ?_); simp only [List.cons_append, List.nil_append]) | ((with_reducible refine HOpen.gate_append ?_); simp only [List.cons_append, List.nil_append]) | ((with_reducible refine gate_dst (N := 2) rfl ?_); refine box_event ?hg (N := 2) ?hd (cs := #[.slice A0_0 l0_0.length c0_0, .bool false, .int .i64 a0_2, .int .i64 a0_3]) (t := 41) ?hr ?_; (case hd => rfl); (case hg => rfl); (case hr => first | (go_simp; done) | (go_simp; rfl)); intro gb204 hg w35 hbox hb; have n0_ := Aside0.mk (below_step (by repeat (first | (with_reducible first | exact HB.out | apply below_alloc | apply pw_below_drewN | apply below_drew1) | exact HB.out)) hb); have n1_ := Aside0.mk (hbox); have n2_ := Aside0.mk ((by rw [hg]; exact (below_size (by repeat (first | (with_reducible first | exact HB.out | apply below_alloc | apply pw_below_drewN | apply below_drew1) | exact HB.out))) : w.heap.size ≤ gb204)); have n3_ := Aside0.mk ((by rw [hg]; exact (below_size (by repeat (first | (with_reducible first | exact HB.out | apply below_alloc | apply pw_below_drewN | apply below_drew1) | exact HB.out))) : w.heap.size ≤ gb204)); clear HB; have HB := n0_; have BK204 := n1_; have GW204 := n2_; have GE204 := n3_; clear n0_ n1_ n2_ n3_; clear hb hbox hg; have hcz36_0 : w35.cell? ⟨gb204, 0, none⟩ = some (.slice A0_0 l0_0.length c0_0) := (blk_cell BK204.out 0).trans rfl; have hcz36_1 : w35.cell? ⟨gb204, 1, none⟩ = some (.bool false) := (blk_cell BK204.out 1).trans rfl; have hcz36_2 : w35.cell? ⟨gb204, 2, none⟩ = some (.int .i64 a0_2) := (blk_cell BK204.out 2).trans rfl; have hcz36_3 : w35.cell? ⟨gb204, 3, none⟩ = some (.int .i64 a0_3) := (blk_cell BK204.out 3).trans rfl; have hfz36_0 := blk_frozen BK204.out 0; have hfz36_1 := blk_frozen BK204.out 1; have hfz36_2 := blk_frozen BK204.out 2; have hfz36_3 := blk_frozen BK204.out 3) | ((with_reducible refine gate_callee (f := 58) rfl ?_); refine goesL_ (some 11) rfl rfl Tryd.func58 (by kernel_rfl) rfl #[.agg #[.slice A0_0 l0_0.length c0_0, .bool false, .int .i64 a0_2, .int .i64 a0_3], .int .i64 a1] rfl (by (try simp only [List.map_toArray, List.map_cons, List.map_nil]); first | done | rfl | (simp only [List.length_drop, List.length_take]; rfl)) ?_; (with_reducible refine (caulkref05_Dev_has.calls _ _ l0_0 false a0_2 a0_3 a1 false _ ?side1 ?side2 A6.out).mono ?_); (case side1 => repeat (first | exact (Kd.C_below HR0_0.out HB.out) | (with_reducible refine Kd.C_alloc ?_ _) | (with_reducible refine Kd.C_drewN ?_ _) | (with_reducible refine Kd.C_drew ?_))); (case side2 => exact HC0_0.out); rintro e w37 ⟨rfl, hb⟩; refine ⟨_, rfl, ?_⟩; have n0_ := Aside0.mk (blk_below (g := gb204) (o := .cells #[.slice A0_0 l0_0.length c0_0, .bool false, .int .i64 a0_2, .int .i64 a0_3] 41 (0, 0)) (by (with_reducible repeat (first | refine blk_drewN ?_ _ | refine blk_drew ?_ | refine blk_alloc ?_ _)); exact BK204.out) hb); have n1_ := Aside0.mk (below_step (by repeat (first | (with_reducible first | exact HB.out | apply below_alloc | apply pw_below_drewN | apply below_drew1 | refine below_set ?_ GE204.out) | exact HB.out)) hb); clear BK204; clear HB; have BK204 := n0_; have HB := n1_; clear n0_ n1_; (try clear hb); (try clear hb2); (try clear hk); (try clear hi)))
   go_ret2
   exact ⟨by first | rfl | (simp [errW_none, errW_some] <;> rfl) | (simp [*, errW_none, errW_some] <;> rfl), by repeat (first | (with_reducible first | exact HB.out | apply below_alloc | apply pw_below_drewN | apply below_drew1 | refine below_set ?_ GE204.out) | exact HB.out)⟩


def caulkref05_Dev_Waiting.l0 : Nat → List Int → List (S71) → Int → Int → Option (List Int)
 | 0, _, _, _, _ => none
 | k + 1, x3, x7, x8, x9 => if x9 < x8 then (if 0 ≤ x9 then (if x9 < (x7.length : Int) then (if (rd_T71 x7 x9).f2 = true then (if x3.length < 17592186044416 then (caulkref05_Dev_Waiting.l0 k (x3 ++ [x9]) x7 x8 (wrap64 (x9 + 1))) else (none)) else (caulkref05_Dev_Waiting.l0 k x3 x7 x8 (wrap64 (x9 + 1)))) else (none)) else (none)) else (some x3)
def caulkref05_Dev_Waiting.f (k : Nat) (l0_0 : List (S71)) (a0_1 : Bool) (a0_2 : Int) (a0_3 : Int) : Option (List Int) := caulkref05_Dev_Waiting.l0 k ([] : List Int) l0_0 (l0_0.length : Int) 0
theorem caulkref05_Dev_Waiting.mono_l : ∀ k, (∀ y0 y1 y2 y3, LeO (caulkref05_Dev_Waiting.l0 k y0 y1 y2 y3) (caulkref05_Dev_Waiting.l0 (k + 1) y0 y1 y2 y3))
 | 0 => fun _ _ _ _ r h => by simp [caulkref05_Dev_Waiting.l0] at h
 | k + 1 => by
  have ih0 := caulkref05_Dev_Waiting.mono_l k
  ·intro y0 y1 y2 y3
   unfold caulkref05_Dev_Waiting.l0
   repeat' first
   | (with_reducible exact ih0 _ _ _ _)
   | (with_reducible exact LeO.refl _)
   | (with_reducible exact LeO.none _)
   | (with_reducible refine LeO.ite ?_ ?_)
   | (with_reducible refine LeO.bind ?_ (fun _ => ?_))
   | exact ih0 _ _ _ _
   | exact LeO.none _
   | refine LeO.ite ?_ ?_
   | refine LeO.bind ?_ (fun _ => ?_)
theorem caulkref05_Dev_Waiting.mono : ∀ a0 a1 a2 a3 k, LeO (caulkref05_Dev_Waiting.f k a0 a1 a2 a3) (caulkref05_Dev_Waiting.f (k + 1) a0 a1 a2 a3) := by
 intro a0 a1 a2 a3 k
 have ih0 := caulkref05_Dev_Waiting.mono_l k
 unfold caulkref05_Dev_Waiting.f
 repeat' first
   | (with_reducible exact ih0 _ _ _ _)
   | (with_reducible exact LeO.refl _)
   | (with_reducible exact LeO.none _)
   | (with_reducible refine LeO.ite ?_ ?_)
   | (with_reducible refine LeO.bind ?_ (fun _ => ?_))
   | exact ih0 _ _ _ _
   | exact LeO.none _
   | refine LeO.ite ?_ ?_
   | refine LeO.bind ?_ (fun _ => ?_)
def caulkref05_Dev_Bad.l0 : Nat → List Int → List (S71) → Int → Int → Option (List Int)
 | 0, _, _, _, _ => none
 | k + 1, x3, x7, x8, x9 => if x9 < x8 then (if 0 ≤ x9 then (if x9 < (x7.length : Int) then (if (rd_T71 x7 x9).f3 = true then (if x3.length < 17592186044416 then (caulkref05_Dev_Bad.l0 k (x3 ++ [x9]) x7 x8 (wrap64 (x9 + 1))) else (none)) else (caulkref05_Dev_Bad.l0 k x3 x7 x8 (wrap64 (x9 + 1)))) else (none)) else (none)) else (some x3)
def caulkref05_Dev_Bad.f (k : Nat) (l0_0 : List (S71)) (a0_1 : Bool) (a0_2 : Int) (a0_3 : Int) : Option (List Int) := caulkref05_Dev_Bad.l0 k ([] : List Int) l0_0 (l0_0.length : Int) 0
theorem caulkref05_Dev_Bad.mono_l : ∀ k, (∀ y0 y1 y2 y3, LeO (caulkref05_Dev_Bad.l0 k y0 y1 y2 y3) (caulkref05_Dev_Bad.l0 (k + 1) y0 y1 y2 y3))
 | 0 => fun _ _ _ _ r h => by simp [caulkref05_Dev_Bad.l0] at h
 | k + 1 => by
  have ih0 := caulkref05_Dev_Bad.mono_l k
  ·intro y0 y1 y2 y3
   unfold caulkref05_Dev_Bad.l0
   repeat' first
   | (with_reducible exact ih0 _ _ _ _)
   | (with_reducible exact LeO.refl _)
   | (with_reducible exact LeO.none _)
   | (with_reducible refine LeO.ite ?_ ?_)
   | (with_reducible refine LeO.bind ?_ (fun _ => ?_))
   | exact ih0 _ _ _ _
   | exact LeO.none _
   | refine LeO.ite ?_ ?_
   | refine LeO.bind ?_ (fun _ => ?_)
theorem caulkref05_Dev_Bad.mono : ∀ a0 a1 a2 a3 k, LeO (caulkref05_Dev_Bad.f k a0 a1 a2 a3) (caulkref05_Dev_Bad.f (k + 1) a0 a1 a2 a3) := by
 intro a0 a1 a2 a3 k
 have ih0 := caulkref05_Dev_Bad.mono_l k
 unfold caulkref05_Dev_Bad.f
 repeat' first
   | (with_reducible exact ih0 _ _ _ _)
   | (with_reducible exact LeO.refl _)
   | (with_reducible exact LeO.none _)
   | (with_reducible refine LeO.ite ?_ ?_)
   | (with_reducible refine LeO.bind ?_ (fun _ => ?_))
   | exact ih0 _ _ _ _
   | exact LeO.none _
   | refine LeO.ite ?_ ?_
   | refine LeO.bind ?_ (fun _ => ?_)
def mixS (new old : List S71) (k : Nat) : List S71 := new.take k ++ old.drop k
section
variable {new old : List S71}
theorem mixS_zero : mixS new old 0 = old := by simp [mixS]
theorem mixS_all (hl : new.length = old.length) : mixS new old old.length = new := by unfold mixS; rw [List.drop_length, List.append_nil, ← hl, List.take_length]
theorem mixS_len (hl : new.length = old.length) {k : Nat} (hk : k ≤ old.length) : (mixS new old k).length = old.length := by simp [mixS]; omega
theorem mixS_at (hl : new.length = old.length) {k : Nat} (hk : k < old.length) : (mixS new old k)[k]? = some old[k] := by
 unfold mixS
 rw [List.getElem?_append_right (by simp; omega), List.length_take, Nat.min_eq_left (by omega), Nat.sub_self, List.getElem?_drop, Nat.add_zero, List.getElem?_eq_getElem hk]
theorem mixS_set (hl : new.length = old.length) {k : Nat} (hk : k < old.length) : (mixS new old k).set k (new[k]'(by omega)) = mixS new old (k + 1) := by
 unfold mixS
 rw [List.set_append_right _ _ (by simp; omega), List.length_take, Nat.min_eq_left (by omega), Nat.sub_self, List.drop_eq_getElem_cons hk, List.set_cons_zero, List.take_succ_eq_append_getElem (by omega : k < new.length), List.append_assoc]
 rfl
theorem mixS_keep (hl : new.length = old.length) {k : Nat} (hk : k < old.length) (h : new[k]'(by omega) = old[k]) : mixS new old k = mixS new old (k + 1) := by
 rw [← mixS_set hl hk]
 unfold mixS
 rw [List.set_append_right _ _ (by simp; omega), List.length_take, Nat.min_eq_left (by omega), Nat.sub_self, List.drop_eq_getElem_cons hk, List.set_cons_zero, h]
end
theorem addr_at (g m : Nat) : Addr.add ⟨g, 0, none⟩ m = ⟨g, m, none⟩ := by by_cases h : m = 0 <;> simp [Addr.add, h]
theorem row_put {W : World} {base : Nat} {ok : Nat → Prop} {g n cap : Nat} {xs : List S71} (h : Kd.R k71 71 W base ok (.slice (some ⟨g, 0, none⟩) n cap) xs) (k : Nat) (hk : k < n) (x : S71) :
  Kd.R k71 71 ((((W.setCell ⟨g, k * 4, none⟩ (.string x.f0)).setCell ⟨g, k * 4 + 1, none⟩ (.string x.f1)).setCell ⟨g, k * 4 + 2, none⟩ (.bool x.f2)).setCell ⟨g, k * 4 + 3, none⟩ (.bool x.f3)) base ok (.slice (some ⟨g, 0, none⟩) n cap) (xs.set k x) := by
 obtain ⟨hn, _, hC⟩ := Kd.R_reads' h
 subst hn
 obtain ⟨ad, eA, x0, x1, x2, x3⟩ := at_T71 hC (k : Int) (by omega) (by omega)
 cases eA
 have hh := Kd.R_seg h (k : Int) (by omega) (by omega) (c := [.string (rd_T71 xs k).f0, .string (rd_T71 xs k).f1, .bool (rd_T71 xs k).f2, .bool (rd_T71 xs k).f3]) (seg := [.string x.f0, .string x.f1, .bool x.f2, .bool x.f3]) (j := 0) rfl (fun j u hj => by
  have e4 : (k : Int).toNat * k71.sz = k * 4 := by rw [Int.toNat_natCast]; rfl
  rw [e4]
  simp only [Int.toNat_natCast, addr_at] at x0 x1 x2 x3
  match j, hj with
  | 0, hj => simp at hj; subst hj; exact x0
  | 1, hj => simp at hj; subst hj; exact x1
  | 2, hj => simp at hj; subst hj; exact x2
  | 3, hj => simp at hj; subst hj; exact x3
  | j + 4, hj => simp at hj) (Nat.le_refl 4) (x' := x) (k71_mkM _ _ (fun _ => False) x) (fun _ h => h.elim)
 exact hh.1
structure RunS (w wr : World) (g n cap : Nat) (off : Bool) (left nw : Int) (M : List S71) : Prop where
 len : M.length = n
 bx : wr.heap[w.heap.size]? = some (.cells #[.slice (some ⟨g, 0, none⟩) n cap, .bool off, .int .i64 left, .int .i64 nw] 41 (0, 0))
 rs : wr.heap[w.heap.size + 1]? = some (.cells #[.slice none 0 0, .bool false, .int .i64 0, .int .i64 0] 41 (0, 0))
 row : Kd.R k71 71 wr 0 (fun _ => True) (.slice (some ⟨g, 0, none⟩) n cap) M
 bl : Below w.heap.size w wr
 lo : w.heap.size ≤ g
section
variable {w wr w' : World} {g n cap : Nat} {off : Bool} {left nw : Int} {M : List S71}
theorem RunS.below (h : RunS w wr g n cap off left nw M) (hb : Below wr.heap.size wr w') : RunS w w' g n cap off left nw M :=
 ⟨h.len, Stepb hb h.bx, Stepb hb h.rs, R103_step h.row (Step.of_below (S := fun _ => False) hb) (fun _ _ h => h) (fun _ _ => trivial), h.bl.trans (hb.mono h.bl.size), h.lo⟩
theorem RunS.ne (h : RunS w wr g n cap off left nw M) : g ≠ w.heap.size ∧ g ≠ w.heap.size + 1 :=
 ⟨fun e => own103_ne h.row h.bx (fun cur e => by cases e) (by simp [Value.ownBlock, e]), fun e => own103_ne h.row h.rs (fun cur e => by cases e) (by simp [Value.ownBlock, e])⟩
theorem RunS.put (h : RunS w wr g n cap off left nw M) (k : Nat) (hk : k < n) (x : S71) : RunS w ((((wr.setCell ⟨g, k * 4, none⟩ (.string x.f0)).setCell ⟨g, k * 4 + 1, none⟩ (.string x.f1)).setCell ⟨g, k * 4 + 2, none⟩ (.bool x.f2)).setCell ⟨g, k * 4 + 3, none⟩ (.bool x.f3)) g n cap off left nw (M.set k x) := by
 obtain ⟨n1, n2⟩ := h.ne
 have hs : Step (fun q => q = g) wr ((((wr.setCell ⟨g, k * 4, none⟩ (.string x.f0)).setCell ⟨g, k * 4 + 1, none⟩ (.string x.f1)).setCell ⟨g, k * 4 + 2, none⟩ (.bool x.f2)).setCell ⟨g, k * 4 + 3, none⟩ (.bool x.f3)) :=
  (((Step.setCell wr (p := ⟨g, k * 4, none⟩) (S := fun q => q = g) rfl _).trans (Step.setCell _ (p := ⟨g, k * 4 + 1, none⟩) (S := fun q => q = g) rfl _) (fun _ h => h) (fun _ h => Or.inl h)).trans (Step.setCell _ (p := ⟨g, k * 4 + 2, none⟩) (S := fun q => q = g) rfl _) (fun _ h => h) (fun _ h => Or.inl h)).trans (Step.setCell _ (p := ⟨g, k * 4 + 3, none⟩) (S := fun q => q = g) rfl _) (fun _ h => h) (fun _ h => Or.inl h)
 exact ⟨by rw [List.length_set]; exact h.len, hs.block h.bx (fun e => n1 e.symm), hs.block h.rs (fun e => n2 e.symm), row_put h.row k hk x, h.bl.trans (hs.below h.bl.size (fun k hk => hk ▸ h.lo)), h.lo⟩
theorem RunS.cells (h : RunS w wr g n cap off left nw M) {k : Nat} {x : S71} (hx : M[k]? = some x) : (wr.cell? ⟨g, k * 4, none⟩ = some (.string x.f0) ∧ wr.cell? ⟨g, k * 4 + 1, none⟩ = some (.string x.f1) ∧ wr.cell? ⟨g, k * 4 + 2, none⟩ = some (.bool x.f2) ∧ wr.cell? ⟨g, k * 4 + 3, none⟩ = some (.bool x.f3)) ∧
  wr.frozen? ⟨g, k * 4, none⟩ = false ∧ wr.frozen? ⟨g, k * 4 + 1, none⟩ = false ∧ wr.frozen? ⟨g, k * 4 + 2, none⟩ = false ∧ wr.frozen? ⟨g, k * 4 + 3, none⟩ = false := by
 obtain ⟨hk, rfl⟩ := List.getElem?_eq_some_iff.1 hx
 obtain ⟨cur, hg⟩ := own103 h.row (g := g) (by simp [Value.ownBlock])
 have hrow := h.row
 rw [← h.len] at hrow
 obtain ⟨_, _, hC⟩ := Kd.R_reads' hrow
 obtain ⟨ad, eA, x0, x1, x2, x3⟩ := at_T71 hC (k : Int) (by omega) (by omega)
 cases eA
 have hrd : rd_T71 M (k : Int) = M[k] := by simp [rd_T71, List.getD, hk]
 simp only [Int.toNat_natCast, addr_at, hrd] at x0 x1 x2 x3
 exact ⟨⟨x0, x1, x2, x3⟩, blk_frozen hg _, blk_frozen hg _, blk_frozen hg _, blk_frozen hg _⟩
end
theorem empty_row (W : World) (base : Nat) (hb : base ≤ W.heap.size) : Kd.R k71 71 (W.alloc (.cells #[] 71)) base (fun _ => True) (.slice (some ⟨W.heap.size, 0, none⟩) 0 0) [] :=
 ⟨fun _ _ => trivial, [], World.ownsRow_lit (base := base) (e := 71) (size := k71.sz) W #[] 0 hb (by simp) (by simp), Reps.none _ _⟩
theorem getL_filter {β : Type} (x : Int) (ks : List Int) : ∀ (B : List (Int × β)), getL x (B.filter fun q => decide (q.1 ∉ ks)) = if x ∈ ks then none else getL x B
 | [] => by simp [getL]
 | p :: B => by
  have ih := getL_filter x ks B
  rw [List.filter_cons]
  by_cases h : p.1 ∈ ks
  ·rw [if_neg (by simpa using h), ih]
   by_cases hx : x ∈ ks
   ·rw [if_pos hx, if_pos hx]
   ·rw [if_neg hx, if_neg hx]
    conv => rhs; unfold getL
    rw [if_neg (fun e : p.1 = x => hx (e ▸ h))]
  ·rw [if_pos (by simpa using h)]
   unfold getL
   by_cases e : p.1 = x
   ·rw [if_pos e, if_pos e, if_neg (e ▸ h)]
   ·rw [if_neg e, if_neg e, ih]
theorem getL_landB (x : Int) (B : BL) (V : FL) : getL x (landB B V) = if (getL x V).isSome = true then none else getL x B := by
 unfold landB
 rw [getL_filter]
 cases hg : getL x V with
 | none => rw [if_neg (getL_none.1 hg), if_neg (by simp)]
 | some v => rw [if_pos (List.mem_map.2 ⟨_, getL_mem hg, rfl⟩), if_pos (by simp)]
theorem landXs_getD (xs : List ByteArray) (V : FL) (k : Nat) (hk : k < xs.length) : (landXs xs V).getD k ⟨#[]⟩ = (getL (k : Int) V).getD (xs.getD k ⟨#[]⟩) := by
 rw [List.getD_eq_getElem?_getD, List.getElem?_eq_getElem (by rw [landXs_len]; exact hk)]
 simp [landXs]
theorem refS_land (xs : List ByteArray) (B : BL) (V : FL) (k : Nat) (hk : k < (refS (landXs xs V) [] (landB B V)).length) :
  (refS (landXs xs V) [] (landB B V))[k] = ⟨(getL (k : Int) V).getD (xs.getD k ⟨#[]⟩), ⟨#[]⟩, false, if (getL (k : Int) V).isSome = true then false else (getL (k : Int) B).getD false⟩ := by
 have hk2 : k < xs.length := by rw [refS_len, landXs_len] at hk; exact hk
 rw [refS_at, landXs_getD xs V k hk2, getL_landB]
 cases (getL (k : Int) V) <;> rfl
theorem landed_any (w : World) (x : S71) : Calls Tryd.prog 61 #[.agg #[.string x.f0, .string x.f1, .bool x.f2, .bool x.f3]] w fun e w' => e = .returned (.agg #[.string x.f1, .string ⟨#[]⟩, .bool false, .bool false]) ∧ Below w.heap.size w w' := caulkref05_landed.calls x.f0 x.f1 x.f2 x.f3 _ _ _ _ w rfl
theorem flush_step (xs : List ByteArray) (F : FL) (B : BL) (k : Nat) (hk : k < (refS xs F B).length) (hk2 : k < (refS (landXs xs F) [] (landB B F)).length) :
  (((refS xs F B)[k]).f2 = true → (refS (landXs xs F) [] (landB B F))[k] = ⟨((refS xs F B)[k]).f1, ⟨#[]⟩, false, false⟩) ∧ (((refS xs F B)[k]).f2 = false → (refS (landXs xs F) [] (landB B F))[k] = (refS xs F B)[k]) := by
 rw [refS_land, refS_at]
 cases getL (k : Int) F <;> simp
end

end Go.Proofs.YtpbkcdodpjpoeaaDoor.HCP
