/- a text of this claim -/
import Derived.Test.YtmmfplogkikbjaaDoorGSFx0
import Derived.Test.YtmmfplogkikbjaaDoorGSFx8
import Derived.Test.YtmmfplogkikbjaaDoorGSFx11
import Derived.Test.YtmmfplogkikbjaaDoorGSFx17
namespace Go.Proofs.YtmmfplogkikbjaaDoor.HSF
open Go.RowKit Go.Proofs.YtmmfplogkikbjaaDoorW.PrintWords Go.Proofs.YtmmfplogkikbjaaDoorW.PrintLast Go.Proofs.YtmmfplogkikbjaaDoorW.PrintMore
attribute [local go_sem] max2_int min2_int max_two min_two max_three min_three max_four min_four
set_option linter.unusedVariables false
set_option linter.unusedSimpArgs false
section
open Go Go.Shelf Go.Maps Go.Proofs.YtmmfplogkikbjaaDoor.Seq Go.Proofs.YtmmfplogkikbjaaDoor.MapL Go.Proofs.YtmmfplogkikbjaaDoorW.PrintLast
attribute [local go_sem] Oper.semAt_some max2_int min2_int max_two min_two
theorem infoS146 : (Tryd.prog.info? 146).map (fun i => (i.zero, i.size, i.bytes)) = some (some (.agg #[(.string ⟨#[]⟩), (.string ⟨#[]⟩), (.bool false), (.bool false)]), 4, 40) := by kernel_rfl
def refS (xs : List ByteArray) (F : FL) (B : BL) : List S146 := (List.range xs.length).map fun j : Nat => ⟨xs.getD j ⟨#[]⟩, (getL (j : Int) F).getD ⟨#[]⟩, (getL (j : Int) F).isSome, (getL (j : Int) B).getD false⟩
theorem refS_len (xs : List ByteArray) (F : FL) (B : BL) : (refS xs F B).length = xs.length := by simp [refS]
theorem refS_at (xs : List ByteArray) (F : FL) (B : BL) (k : Nat) (hk : k < (refS xs F B).length) : (refS xs F B)[k] = ⟨xs.getD k ⟨#[]⟩, (getL (k : Int) F).getD ⟨#[]⟩, (getL (k : Int) F).isSome, (getL (k : Int) B).getD false⟩ := by simp [refS]
theorem rd_refS (xs : List ByteArray) (F : FL) (B : BL) (at_ : Int) (h0 : 0 ≤ at_) (h1 : at_ < xs.length) : rd_T146 (refS xs F B) at_ = ⟨xs.getD at_.toNat ⟨#[]⟩, (getL at_ F).getD ⟨#[]⟩, (getL at_ F).isSome, (getL at_ B).getD false⟩ := by
 have h2 : at_.toNat < (refS xs F B).length := by rw [refS_len]; omega
 rw [rd_T146, List.getD_eq_getElem?_getD, List.getElem?_eq_getElem h2, Option.getD_some, refS_at, show ((at_.toNat : Nat) : Int) = at_ by omega]
theorem refS_ext {L : List S146} {xs : List ByteArray} {F : FL} {B : BL} (hl : L.length = xs.length) (h : ∀ k (hk : k < L.length), L[k] = ⟨xs.getD k ⟨#[]⟩, (getL (k : Int) F).getD ⟨#[]⟩, (getL (k : Int) F).isSome, (getL (k : Int) B).getD false⟩) : L = refS xs F B := by
 apply List.ext_getElem
 ·rw [hl, refS_len]
 ·intro k h1 h2
  rw [h k h1, refS_at]
theorem refS_putF (xs : List ByteArray) (F : FL) (B : BL) (at_ : Int) (s : ByteArray) (h0 : 0 ≤ at_) (h1 : at_ < xs.length) :
  (refS xs F B).set at_.toNat ⟨xs.getD at_.toNat ⟨#[]⟩, s, true, (getL at_ B).getD false⟩ = refS xs (putL at_ s F) B := by
 apply refS_ext (by rw [List.length_set, refS_len])
 intro k hk
 rw [List.length_set, refS_len] at hk
 rw [List.getElem_set]
 by_cases e : at_.toNat = k
 ·subst e
  rw [if_pos rfl, show ((at_.toNat : Nat) : Int) = at_ by omega, getL_putL, if_pos rfl]
  rfl
 ·rw [if_neg e, refS_at, getL_putL, if_neg (by omega)]
theorem refS_putB (xs : List ByteArray) (F : FL) (B : BL) (at_ : Int) (b : Bool) (h0 : 0 ≤ at_) (h1 : at_ < xs.length) :
  (refS xs F B).set at_.toNat ⟨xs.getD at_.toNat ⟨#[]⟩, (getL at_ F).getD ⟨#[]⟩, (getL at_ F).isSome, b⟩ = refS xs F (putL at_ b B) := by
 apply refS_ext (by rw [List.length_set, refS_len])
 intro k hk
 rw [List.length_set, refS_len] at hk
 rw [List.getElem_set]
 by_cases e : at_.toNat = k
 ·subst e
  rw [if_pos rfl, show ((at_.toNat : Nat) : Int) = at_ by omega, getL_putL, if_pos rfl]
  rfl
 ·rw [if_neg e, refS_at, getL_putL, if_neg (by omega)]
theorem refS_setX (xs : List ByteArray) (F : FL) (B : BL) (at_ : Int) (s : ByteArray) (h0 : 0 ≤ at_) (h1 : at_ < xs.length) :
  (refS xs F B).set at_.toNat ⟨s, (getL at_ F).getD ⟨#[]⟩, (getL at_ F).isSome, (getL at_ B).getD false⟩ = refS (xs.set at_.toNat s) F B := by
 apply refS_ext (by rw [List.length_set, refS_len, List.length_set])
 intro k hk
 rw [List.length_set, refS_len] at hk
 rw [List.getElem_set]
 by_cases e : at_.toNat = k
 ·subst e
  rw [if_pos rfl, show ((at_.toNat : Nat) : Int) = at_ by omega]
  simp [List.getD, hk]
 ·rw [if_neg e, refS_at]
  simp [List.getD, List.getElem?_set, e]
theorem R103_step {S : Nat → Prop} {w w' : World} {base : Nat} {ok ok' : Nat → Prop} {v : Value} {xs : List S146} (h : Kd.R k146 146 w base ok v xs) (hs : Step S w w') (hn : ∀ g, v.ownBlock = some g → ¬ S g) (hok : ∀ g, v.ownBlock = some g → ok' g) : Kd.R k146 146 w' base ok' v xs := by
 obtain ⟨h0, inner, ho, hr⟩ := h
 exact ⟨hok, inner, ownsRow_step hs ho hn, hr.1, fun j p hj => by have := k146_openM (hr.2 j p hj); rw [this]; exact k146_mkM _ _ _ _⟩
theorem own103 {w : World} {base : Nat} {ok : Nat → Prop} {v : Value} {xs : List S146} (h : Kd.R k146 146 w base ok v xs) {g : Nat} (hg : v.ownBlock = some g) : ∃ cur, w.heap[g]? = some (.cells cur 146 (0, 0)) := by
 obtain ⟨inner, ho⟩ := Kd.R_own h
 rcases ho.2 with ⟨rfl, _⟩ | ⟨g', cap, cur, rfl, hb, hg', _⟩
 ·simp [Value.ownBlock] at hg
 ·simp [Value.ownBlock] at hg; subst hg; exact ⟨cur, hg'⟩
theorem own103_ne {w : World} {base : Nat} {ok : Nat → Prop} {v : Value} {xs : List S146} (h : Kd.R k146 146 w base ok v xs) {q : Nat} {o : Obj} (hq : w.heap[q]? = some o) (ho : ∀ cur, o ≠ .cells cur 146 (0, 0)) : v.ownBlock ≠ some q := by
 intro e
 obtain ⟨cur, hc⟩ := own103 h e
 rw [hc] at hq
 exact ho cur (Option.some.inj hq).symm
def RefAt (w : World) (v : Value) (xs : List ByteArray) (F : FL) (B : BL) : Prop := Kd.R k146 146 w 0 (fun _ => True) v (refS xs F B)
section
variable {w w' : World} {v : Value} {xs : List ByteArray} {F : FL} {B : BL}
theorem RefAt.step {S : Nat → Prop} (h : RefAt w v xs F B) (hs : Step S w w') (hn : ∀ g, v.ownBlock = some g → ¬ S g) : RefAt w' v xs F B := R103_step h hs hn (fun _ _ => trivial)
theorem RefAt.below (h : RefAt w v xs F B) (hb : Below w.heap.size w w') : RefAt w' v xs F B := h.step (Step.of_below (S := fun _ => False) hb) (fun _ _ h => h)
theorem RefAt.reads (h : RefAt w v xs F B) : ∃ A c, v = .slice A xs.length c ∧ xs.length ≤ c ∧ Kd.C k146 w A xs.length (refS xs F B) := by
 obtain ⟨A, c, rfl, hc, hC⟩ := Kd.R_reads h
 rw [refS_len] at hC hc
 rw [refS_len]
 exact ⟨A, c, rfl, hc, hC⟩
theorem RefAt.ne (h : RefAt w v xs F B) {q : Nat} {cs : Array Value} {t : TypeId} {fr : Nat × Nat} (hq : w.heap[q]? = some (.cells cs t fr)) (ht : t ≠ 146) : v.ownBlock ≠ some q := own103_ne h hq (fun cur e => by cases e; exact ht rfl)
theorem RefAt.put (h : RefAt w v xs F B) {q : Nat} {cs : Array Value} {t : TypeId} {fr : Nat × Nat} (hq : w.heap[q]? = some (.cells cs t fr)) (ht : t ≠ 146) (j : Nat) (u : Value) : RefAt (w.setCell ⟨q, j, none⟩ u) v xs F B :=
 h.step (Step.setCell w (p := ⟨q, j, none⟩) (S := fun k => k = q) rfl u) (fun g hg e => h.ne hq ht (e ▸ hg))
end
theorem ref_has (w : World) (v : Value) (xs : List ByteArray) (F : FL) (B : BL) (off : Bool) (left nw at_ : Int) (h : RefAt w v xs F B) :
  Calls Tryd.prog 126 #[.agg #[v, .bool off, .int .i64 left, .int .i64 nw], .int .i64 at_] w fun e w' => e = .returned (.bool (decide (0 ≤ at_ ∧ at_ < xs.length))) ∧ Below w.heap.size w w' := by
 obtain ⟨A, c, rfl, hc, hC⟩ := h.reads
 have hh := caulkref05_Dev_has.calls A c (refS xs F B) off left nw at_ (decide (0 ≤ at_ ∧ at_ < xs.length)) w (by rw [refS_len]; exact hC) (by rw [refS_len]; exact hc) (by
  unfold caulkref05_Dev_has.f
  rw [refS_len]
  by_cases h0 : 0 ≤ at_
  ·rw [if_pos h0]; simp [h0]
  ·rw [if_neg h0]; simp [h0])
 rw [refS_len] at hh
 exact hh
theorem ref_with (w : World) (v : Value) (xs xs' : List ByteArray) (F F' : FL) (B B' : BL) (off : Bool) (left nw at_ : Int) (x : S146) (h : RefAt w v xs F B) (h0 : 0 ≤ at_) (h1 : at_ < xs.length) (h2 : xs.length ≤ 32768) (hx : (refS xs F B).set at_.toNat x = refS xs' F' B') :
  Calls Tryd.prog 127 #[.agg #[v, .bool off, .int .i64 left, .int .i64 nw], .int .i64 at_, .agg #[.string x.f0, .string x.f1, .bool x.f2, .bool x.f3]] w fun e w' => ∃ v', e = .returned (.agg #[v', .bool off, .int .i64 left, .int .i64 nw]) ∧ RefAt w' v' xs' F' B' ∧ Below w.heap.size w w' := by
 obtain ⟨A, c, rfl, hc, hC⟩ := h.reads
 have hh := caulkref05_Dev_with.calls A c (refS xs F B) off left nw at_ x.f0 x.f1 x.f2 x.f3 (refS xs' F' B') off left nw w (by rw [refS_len]; exact hC) (by rw [refS_len]; exact hc) (by
  unfold caulkref05_Dev_with.f
  simp only [Option.bind_some, List.nil_append, List.length_nil, refS_len]
  rw [if_pos (by omega), if_pos h0, if_pos h1]
  rw [← hx])
 rw [refS_len] at hh
 refine hh.mono ?_
 rintro e w' ⟨v, rfl, hR, hb⟩
 exact ⟨v, rfl, Kd.R_lower hR (Nat.zero_le _), hb⟩
section
variable {w : World} {g : Nat} {t : TypeId} {a b c d : Value}
theorem ref_put4 {v : Value} {xs : List ByteArray} {F : FL} {B : BL} (h : RefAt w v xs F B) {cs : Array Value} (hq : w.heap[g]? = some (.cells cs 71 (0, 0))) (a' b' c' d' : Value) : RefAt ((((w.setCell ⟨g, 0, none⟩ a').setCell ⟨g, 1, none⟩ b').setCell ⟨g, 2, none⟩ c').setCell ⟨g, 3, none⟩ d') v xs F B :=
 h.step (step_put4 w g a' b' c' d') (fun k hk e => h.ne hq (by decide) (e ▸ hk))
end
theorem RefAt.C {w : World} {A : Option Addr} {n c : Nat} {xs : List ByteArray} {F : FL} {B : BL} (h : RefAt w (.slice A n c) xs F B) : n = xs.length ∧ n ≤ c ∧ Kd.C k146 w A xs.length (refS xs F B) := by
 obtain ⟨A', c', e, hc, hC⟩ := h.reads
 cases e
 exact ⟨rfl, hc, hC⟩
set_option maxRecDepth 100000 in
set_option maxHeartbeats 2000000 in
theorem ref_Fuse (w : World) (v : Value) (xs : List ByteArray) (F : FL) (B : BL) (off : Bool) (left nw n : Int) (h : RefAt w v xs F B) :
  Calls Tryd.prog 93 #[.agg #[v, .bool off, .int .i64 left, .int .i64 nw], .int .i64 n] w fun e w' => e = .returned (.agg #[v, .bool off, .int .i64 (mx n (-1)), .int .i64 nw]) ∧ Below w.heap.size w w' := by
 obtain ⟨A, c, rfl, hc, hC⟩ := h.reads
 go_enter Tryd.func93, Tryd.ntmps93
 by_cases hn : n < -1
 ·go_wp2
  refine bodyPost_ret (results_cell_row rfl _ _ (w.heap.size + 1) 71 _ (0, 0) _ rfl (new2 w _ _) Tryd.underlying71 rfl (by kernel_rfl)) rfl ?_
  exact ⟨by unfold mx; rw [if_pos hn], below2 w _ _⟩
 ·go_wp2
  refine bodyPost_ret (results_cell_row rfl _ _ (w.heap.size + 1) 71 _ (0, 0) _ rfl (new2 w _ _) Tryd.underlying71 rfl (by kernel_rfl)) rfl ?_
  exact ⟨by unfold mx; rw [if_neg (by omega)], below2 w _ _⟩
set_option maxRecDepth 100000 in
set_option maxHeartbeats 2000000 in
theorem ref_Write (w : World) (v : Value) (xs : List ByteArray) (F : FL) (B : BL) (off : Bool) (left nw at_ : Int) (s : ByteArray) (h : RefAt w v xs F B) (hok : DevOk xs F B left) :
  Calls Tryd.prog 88 #[.agg #[v, .bool off, .int .i64 left, .int .i64 nw], .int .i64 at_, .string s] w fun e w' => ∃ v', e = .returned (.tuple #[.agg #[v', .bool (writeP xs.length F off left nw at_ s).2.1, .int .i64 (writeP xs.length F off left nw at_ s).2.2.1, .int .i64 (writeP xs.length F off left nw at_ s).2.2.2.1], .int .i64 (writeP xs.length F off left nw at_ s).2.2.2.2]) ∧
   RefAt w' v' xs (writeP xs.length F off left nw at_ s).1 B ∧ Below w.heap.size w w' := by
 obtain ⟨A, c, rfl, hc, hC⟩ := h.reads
 obtain ⟨k1, k2, _, _, _, _, _, k3, k4⟩ := hok
 obtain ⟨F', off', l', n', why, hq⟩ : ∃ F' off' l' n' why, writeP xs.length F off left nw at_ s = (F', off', l', n', why) := ⟨_, _, _, _, _, rfl⟩
 rw [hq]
 dsimp only
 cases off
 ·have hW := ref_has ((w.alloc (.cells #[.slice A xs.length c, .bool false, .int .i64 left, .int .i64 nw] 71)).alloc (.cells #[.slice none 0 0, .bool false, .int .i64 0, .int .i64 0] 71)) _ xs F B false left nw at_ (h.below (below2 w _ _))
  have hy0 := new1of2 w (.cells #[.slice A xs.length c, .bool false, .int .i64 left, .int .i64 nw] 71) (.cells #[.slice none 0 0, .bool false, .int .i64 0, .int .i64 0] 71)
  have hy1 := new2 w (.cells #[.slice A xs.length c, .bool false, .int .i64 left, .int .i64 nw] 71) (.cells #[.slice none 0 0, .bool false, .int .i64 0, .int .i64 0] 71)
  have hb0 := below2 w (.cells #[.slice A xs.length c, .bool false, .int .i64 left, .int .i64 nw] 71) (.cells #[.slice none 0 0, .bool false, .int .i64 0, .int .i64 0] 71)
  go_enter Tryd.func88, Tryd.ntmps88
  go_wp2_with (go_at_call 126; refine hW.mono ?_)
  rintro e w1 ⟨rfl, hb1⟩
  have hx1 := Stepb hb1 hy1
  have hx0 := Stepb hb1 hy0
  have hR1 := (h.below hb0).below hb1
  have hB1 := hb0.trans (hb1.mono hb0.size)
  have hC1 := Kd.C_below hC hB1
  have hsz := blk_lt hx1
  clear hy0 hy1 hb0 hb1 hW hC
  obtain ⟨⟨c00, c01, c02, c03⟩, f00, f01, f02, f03⟩ := blk4 hx0
  obtain ⟨⟨c10, c11, c12, c13⟩, f10, f11, f12, f13⟩ := blk4 hx1
  by_cases hat : 0 ≤ at_ ∧ at_ < (xs.length : Int)
  ·rw [decide_eq_true hat]
   by_cases hs : s.size = 512
   ·have e1 : ((s.size : Int) != 512) = false := by rw [bne_eq_false_iff_eq]; omega
    by_cases hl : left = 0
    ·subst hl
     rw [show writeP xs.length F false 0 nw at_ s = (F, true, 0, nw, 12) by simp [writeP, reachP, hat, burnP, hs]] at hq
     simp only [Prod.mk.injEq] at hq
     obtain ⟨rfl, rfl, rfl, rfl, rfl⟩ := hq
     go_wp2
     have hx2 : (w1.setCell ⟨w.heap.size, 1, none⟩ (.bool true)).heap[w.heap.size + 1]? = some (.cells #[.slice none 0 0, .bool false, .int .i64 0, .int .i64 0] 71 (0, 0)) := blk_far hx1 (p := ⟨w.heap.size, 1, none⟩) (by simp) _
     refine bodyPost_ret (results_ct rfl _ _ (w.heap.size + 1) 71 _ (0, 0) _ rfl (put4 hx2 _ _ _ _) Tryd.underlying71 rfl (by kernel_rfl)) rfl ?_
     exact ⟨_, rfl, ref_put4 (hR1.put hx0 (by decide) 1 _) hx2 _ _ _ _, below_put4 (hB1.setCell (p := ⟨w.heap.size, 1, none⟩) (Nat.le_refl _) _) (by omega) _ _ _ _⟩
    ·have e2 : (left == 0) = false := by simpa using hl
     obtain ⟨ad, eA, _⟩ := at_T146 hC1 at_ hat.1 (by omega)
     subst eA
     have hrd := rd_refS xs F B at_ hat.1 hat.2
     obtain ⟨x, hx⟩ : ∃ x, x = rd_T146 (refS xs F B) at_ := ⟨_, rfl⟩
     have hset := refS_putF xs F B at_ s hat.1 hat.2
     rw [← hx] at hrd
     have hset : (refS xs F B).set at_.toNat ⟨x.f0, s, true, x.f3⟩ = refS xs (putL at_ s F) B := by rw [hrd]; exact hset
     by_cases hl1 : 0 < left
     ·have e3 : decide (0 < left) = true := decide_eq_true hl1
      rw [show writeP xs.length F false left nw at_ s = (putL at_ s F, false, left - 1, wrap64 (nw + 1), 0) by simp [writeP, reachP, hat, burnP, hs, hl, hl1]] at hq
      simp only [Prod.mk.injEq] at hq
      obtain ⟨rfl, rfl, rfl, rfl, rfl⟩ := hq
      have hR2 := (hR1.put hx0 (by decide) 2 (.int .i64 (left - 1))).put (blk_set hx0 2 (.int .i64 (left - 1))) (by decide) 3 (.int .i64 (wrap64 (nw + 1)))
      have hz2 : ((w1.setCell ⟨w.heap.size, 2, none⟩ (.int .i64 (left - 1))).setCell ⟨w.heap.size, 3, none⟩ (.int .i64 (wrap64 (nw + 1)))).heap[w.heap.size + 1]? = some (.cells #[.slice none 0 0, .bool false, .int .i64 0, .int .i64 0] 71 (0, 0)) := blk_far (blk_far hx1 (p := ⟨w.heap.size, 2, none⟩) (by simp) _) (p := ⟨w.heap.size, 3, none⟩) (by simp) _
      have hb2 : Below w.heap.size w ((w1.setCell ⟨w.heap.size, 2, none⟩ (.int .i64 (left - 1))).setCell ⟨w.heap.size, 3, none⟩ (.int .i64 (wrap64 (nw + 1)))) := (hB1.setCell (p := ⟨w.heap.size, 2, none⟩) (Nat.le_refl _) _).setCell (p := ⟨w.heap.size, 3, none⟩) (Nat.le_refl _) _
      obtain ⟨_, _, hC2⟩ := hR2.C
      obtain ⟨ad', eA, x0, x1, x2, x3⟩ := at_T146 hC2 at_ hat.1 (by omega)
      cases eA
      rw [← hx] at x0 x1 x2 x3
      have hWi := ref_with (((w1.setCell ⟨w.heap.size, 2, none⟩ (.int .i64 (left - 1))).setCell ⟨w.heap.size, 3, none⟩ (.int .i64 (wrap64 (nw + 1)))).alloc (.cells #[.string x.f0, .string s, .bool true, .bool x.f3] 146)) _ xs xs F (putL at_ s F) B B false (left - 1) (wrap64 (nw + 1)) at_ ⟨x.f0, s, true, x.f3⟩ (hR2.step (Step.alloc (fun _ => False) _ _) (fun _ _ h => h)) hat.1 hat.2 k2 hset
      have hb3 := hb2.alloc hb2.size (.cells #[.string x.f0, .string s, .bool true, .bool x.f3] 146)
      have hq0 : (((w1.setCell ⟨w.heap.size, 2, none⟩ (.int .i64 (left - 1))).setCell ⟨w.heap.size, 3, none⟩ (.int .i64 (wrap64 (nw + 1)))).alloc (.cells #[.string x.f0, .string s, .bool true, .bool x.f3] 146)).heap[w.heap.size]? = some (.cells #[.slice (some ad) xs.length c, .bool false, .int .i64 (left - 1), .int .i64 (wrap64 (nw + 1))] 71 (0, 0)) := (Step.alloc (fun _ => False) _ _).block (by simpa using blk_set (blk_set hx0 2 (.int .i64 (left - 1))) 3 (.int .i64 (wrap64 (nw + 1)))) (fun h => h)
      obtain ⟨⟨b00, b01, b02, b03⟩, _⟩ := blk4 hq0
      clear hq0
      obtain ⟨hat0, hat1⟩ := hat
      clear hx hrd hset hC1 hC2
      go_wp2_with (go_at_call 127; refine hWi.mono ?_)
      rintro e w3 ⟨v', rfl, hR3, hb4⟩
      obtain ⟨A3, c3, rfl, _⟩ := hR3.reads
      have hz3 := Stepb hb4 ((Step.alloc (fun _ => False) _ _).block hz2 (fun h => h))
      have hB3 := hb3.trans (hb4.mono hb3.size)
      clear hWi hx1 hx0 hR1 hR2 hz2 hb2 hb3 hb4 hB1
      obtain ⟨⟨d10, d11, d12, d13⟩, g10, g11, g12, g13⟩ := blk4 hz3
      go_wp2
      refine bodyPost_ret (results_ct rfl _ _ (w.heap.size + 1) 71 _ (0, 0) _ rfl (put4 hz3 _ _ _ _) Tryd.underlying71 rfl (by kernel_rfl)) rfl ?_
      exact ⟨_, rfl, ref_put4 hR3 hz3 _ _ _ _, below_put4 hB3 (by omega) _ _ _ _⟩
     ·have e3 : decide (0 < left) = false := decide_eq_false hl1
      rw [show writeP xs.length F false left nw at_ s = (putL at_ s F, false, left, wrap64 (nw + 1), 0) by simp [writeP, reachP, hat, burnP, hs, hl, hl1]] at hq
      simp only [Prod.mk.injEq] at hq
      obtain ⟨rfl, rfl, rfl, rfl, rfl⟩ := hq
      have hR2 := (hR1.put hx0 (by decide) 3 (.int .i64 (wrap64 (nw + 1))))
      have hz2 : (w1.setCell ⟨w.heap.size, 3, none⟩ (.int .i64 (wrap64 (nw + 1)))).heap[w.heap.size + 1]? = some (.cells #[.slice none 0 0, .bool false, .int .i64 0, .int .i64 0] 71 (0, 0)) := (blk_far hx1 (p := ⟨w.heap.size, 3, none⟩) (by simp) _)
      have hb2 : Below w.heap.size w (w1.setCell ⟨w.heap.size, 3, none⟩ (.int .i64 (wrap64 (nw + 1)))) := (hB1.setCell (p := ⟨w.heap.size, 3, none⟩) (Nat.le_refl _) _)
      obtain ⟨_, _, hC2⟩ := hR2.C
      obtain ⟨ad', eA, x0, x1, x2, x3⟩ := at_T146 hC2 at_ hat.1 (by omega)
      cases eA
      rw [← hx] at x0 x1 x2 x3
      have hWi := ref_with ((w1.setCell ⟨w.heap.size, 3, none⟩ (.int .i64 (wrap64 (nw + 1)))).alloc (.cells #[.string x.f0, .string s, .bool true, .bool x.f3] 146)) _ xs xs F (putL at_ s F) B B false left (wrap64 (nw + 1)) at_ ⟨x.f0, s, true, x.f3⟩ (hR2.step (Step.alloc (fun _ => False) _ _) (fun _ _ h => h)) hat.1 hat.2 k2 hset
      have hb3 := hb2.alloc hb2.size (.cells #[.string x.f0, .string s, .bool true, .bool x.f3] 146)
      have hq0 : ((w1.setCell ⟨w.heap.size, 3, none⟩ (.int .i64 (wrap64 (nw + 1)))).alloc (.cells #[.string x.f0, .string s, .bool true, .bool x.f3] 146)).heap[w.heap.size]? = some (.cells #[.slice (some ad) xs.length c, .bool false, .int .i64 left, .int .i64 (wrap64 (nw + 1))] 71 (0, 0)) := (Step.alloc (fun _ => False) _ _).block (by simpa using blk_set hx0 3 (.int .i64 (wrap64 (nw + 1)))) (fun h => h)
      obtain ⟨⟨b00, b01, b02, b03⟩, _⟩ := blk4 hq0
      clear hq0
      obtain ⟨hat0, hat1⟩ := hat
      clear hx hrd hset hC1 hC2
      go_wp2_with (go_at_call 127; refine hWi.mono ?_)
      rintro e w3 ⟨v', rfl, hR3, hb4⟩
      obtain ⟨A3, c3, rfl, _⟩ := hR3.reads
      have hz3 := Stepb hb4 ((Step.alloc (fun _ => False) _ _).block hz2 (fun h => h))
      have hB3 := hb3.trans (hb4.mono hb3.size)
      clear hWi hx1 hx0 hR1 hR2 hz2 hb2 hb3 hb4 hB1
      obtain ⟨⟨d10, d11, d12, d13⟩, g10, g11, g12, g13⟩ := blk4 hz3
      go_wp2
      refine bodyPost_ret (results_ct rfl _ _ (w.heap.size + 1) 71 _ (0, 0) _ rfl (put4 hz3 _ _ _ _) Tryd.underlying71 rfl (by kernel_rfl)) rfl ?_
      exact ⟨_, rfl, ref_put4 hR3 hz3 _ _ _ _, below_put4 hB3 (by omega) _ _ _ _⟩
   ·have e1 : ((s.size : Int) != 512) = true := by rw [bne_iff_ne]; omega
    rw [show writeP xs.length F false left nw at_ s = (F, false, left, nw, 2) by simp [writeP, reachP, hat, hs]] at hq
    simp only [Prod.mk.injEq] at hq
    obtain ⟨rfl, rfl, rfl, rfl, rfl⟩ := hq
    go_wp2
    refine bodyPost_ret (results_ct rfl _ _ (w.heap.size + 1) 71 _ (0, 0) _ rfl (put4 hx1 _ _ _ _) Tryd.underlying71 rfl (by kernel_rfl)) rfl ?_
    exact ⟨_, rfl, ref_put4 hR1 hx1 _ _ _ _, below_put4 hB1 (by omega) _ _ _ _⟩
  ·rw [decide_eq_false hat]
   rw [show writeP xs.length F false left nw at_ s = (F, false, left, nw, 1) by simp [writeP, reachP, hat]] at hq
   simp only [Prod.mk.injEq] at hq
   obtain ⟨rfl, rfl, rfl, rfl, rfl⟩ := hq
   go_wp2
   refine bodyPost_ret (results_ct rfl _ _ (w.heap.size + 1) 71 _ (0, 0) _ rfl (put4 hx1 _ _ _ _) Tryd.underlying71 rfl (by kernel_rfl)) rfl ?_
   exact ⟨_, rfl, ref_put4 hR1 hx1 _ _ _ _, below_put4 hB1 (by omega) _ _ _ _⟩
 ·rw [show writeP xs.length F true left nw at_ s = (F, true, left, nw, 12) by simp [writeP, reachP]] at hq
  simp only [Prod.mk.injEq] at hq
  obtain ⟨rfl, rfl, rfl, rfl, rfl⟩ := hq
  go_enter Tryd.func88, Tryd.ntmps88
  go_wp2
  refine bodyPost_ret (results_ct rfl _ _ (w.heap.size + 1) 71 _ (0, 0) _ rfl (new2 w _ _) Tryd.underlying71 rfl (by kernel_rfl)) rfl ?_
  exact ⟨_, rfl, h.below (below2 w _ _), below2 w _ _⟩
set_option maxRecDepth 100000 in
set_option maxHeartbeats 2000000 in
theorem ref_Erase (w : World) (v : Value) (xs : List ByteArray) (F : FL) (B : BL) (off : Bool) (left nw at_ : Int) (h : RefAt w v xs F B) (hok : DevOk xs F B left) :
  Calls Tryd.prog 89 #[.agg #[v, .bool off, .int .i64 left, .int .i64 nw], .int .i64 at_] w fun e w' => ∃ v', e = .returned (.tuple #[.agg #[v', .bool off, .int .i64 left, .int .i64 nw], .int .i64 (eraseP xs.length B at_).2]) ∧
   RefAt w' v' xs F (eraseP xs.length B at_).1 ∧ Below w.heap.size w w' := by
 obtain ⟨A, c, rfl, hc, hC⟩ := h.reads
 obtain ⟨k1, k2, _⟩ := hok
 obtain ⟨B', why, hq⟩ : ∃ B' why, eraseP xs.length B at_ = (B', why) := ⟨_, _, rfl⟩
 rw [hq]
 dsimp only
 have hW := ref_has ((w.alloc (.cells #[.slice A xs.length c, .bool off, .int .i64 left, .int .i64 nw] 71)).alloc (.cells #[.slice none 0 0, .bool false, .int .i64 0, .int .i64 0] 71)) _ xs F B off left nw at_ (h.below (below2 w _ _))
 have hy0 := new1of2 w (.cells #[.slice A xs.length c, .bool off, .int .i64 left, .int .i64 nw] 71) (.cells #[.slice none 0 0, .bool false, .int .i64 0, .int .i64 0] 71)
 have hy1 := new2 w (.cells #[.slice A xs.length c, .bool off, .int .i64 left, .int .i64 nw] 71) (.cells #[.slice none 0 0, .bool false, .int .i64 0, .int .i64 0] 71)
 have hb0 := below2 w (.cells #[.slice A xs.length c, .bool off, .int .i64 left, .int .i64 nw] 71) (.cells #[.slice none 0 0, .bool false, .int .i64 0, .int .i64 0] 71)
 go_enter Tryd.func89, Tryd.ntmps89
 go_wp2_with (go_at_call 126; refine hW.mono ?_)
 rintro e w1 ⟨rfl, hb1⟩
 have hx1 := Stepb hb1 hy1
 have hx0 := Stepb hb1 hy0
 have hR1 := (h.below hb0).below hb1
 have hB1 := hb0.trans (hb1.mono hb0.size)
 have hsz := blk_lt hx1
 clear hy0 hy1 hb0 hb1 hW hC
 obtain ⟨⟨c00, c01, c02, c03⟩, f00, f01, f02, f03⟩ := blk4 hx0
 obtain ⟨⟨c10, c11, c12, c13⟩, f10, f11, f12, f13⟩ := blk4 hx1
 by_cases hat : 0 ≤ at_ ∧ at_ < (xs.length : Int)
 ·rw [decide_eq_true hat]
  rw [show eraseP xs.length B at_ = (putL at_ true B, 0) by simp [eraseP, hat]] at hq
  simp only [Prod.mk.injEq] at hq
  obtain ⟨rfl, rfl⟩ := hq
  obtain ⟨_, _, hC1⟩ := hR1.C
  obtain ⟨ad, eA, x0, x1, x2, x3⟩ := at_T146 hC1 at_ hat.1 (by omega)
  subst eA
  have hrd := rd_refS xs F B at_ hat.1 hat.2
  obtain ⟨x, hx⟩ : ∃ x, x = rd_T146 (refS xs F B) at_ := ⟨_, rfl⟩
  have hset := refS_putB xs F B at_ true hat.1 hat.2
  rw [← hx] at hrd x0 x1 x2 x3
  have hset : (refS xs F B).set at_.toNat ⟨x.f0, x.f1, x.f2, true⟩ = refS xs F (putL at_ true B) := by rw [hrd]; exact hset
  have hWi := ref_with (w1.alloc (.cells #[.string x.f0, .string x.f1, .bool x.f2, .bool true] 146)) _ xs xs F F B (putL at_ true B) off left nw at_ ⟨x.f0, x.f1, x.f2, true⟩ (hR1.step (Step.alloc (fun _ => False) _ _) (fun _ _ h => h)) hat.1 hat.2 k2 hset
  have hb3 := hB1.alloc hB1.size (.cells #[.string x.f0, .string x.f1, .bool x.f2, .bool true] 146)
  have hq0 : (w1.alloc (.cells #[.string x.f0, .string x.f1, .bool x.f2, .bool true] 146)).heap[w.heap.size]? = some (.cells #[.slice (some ad) xs.length c, .bool off, .int .i64 left, .int .i64 nw] 71 (0, 0)) := (Step.alloc (fun _ => False) _ _).block hx0 (fun h => h)
  obtain ⟨⟨b00, b01, b02, b03⟩, _⟩ := blk4 hq0
  obtain ⟨hat0, hat1⟩ := hat
  clear hx hrd hset hC1 hq0
  go_wp2_with (go_at_call 127; refine hWi.mono ?_)
  rintro e w3 ⟨v', rfl, hR3, hb4⟩
  obtain ⟨A3, c3, rfl, _⟩ := hR3.reads
  have hz3 := Stepb hb4 ((Step.alloc (fun _ => False) _ _).block hx1 (fun h => h))
  have hB3 := hb3.trans (hb4.mono hb3.size)
  clear hWi hx1 hx0 hR1 hb3 hb4 hB1
  obtain ⟨⟨d10, d11, d12, d13⟩, g10, g11, g12, g13⟩ := blk4 hz3
  go_wp2
  refine bodyPost_ret (results_ct rfl _ _ (w.heap.size + 1) 71 _ (0, 0) _ rfl (put4 hz3 _ _ _ _) Tryd.underlying71 rfl (by kernel_rfl)) rfl ?_
  exact ⟨_, rfl, ref_put4 hR3 hz3 _ _ _ _, below_put4 hB3 (by omega) _ _ _ _⟩
 ·rw [decide_eq_false hat]
  rw [show eraseP xs.length B at_ = (B, 1) by simp [eraseP, hat]] at hq
  simp only [Prod.mk.injEq] at hq
  obtain ⟨rfl, rfl⟩ := hq
  go_wp2
  refine bodyPost_ret (results_ct rfl _ _ (w.heap.size + 1) 71 _ (0, 0) _ rfl (put4 hx1 _ _ _ _) Tryd.underlying71 rfl (by kernel_rfl)) rfl ?_
  exact ⟨_, rfl, ref_put4 hR1 hx1 _ _ _ _, below_put4 hB1 (by omega) _ _ _ _⟩
def mixS (new old : List S146) (k : Nat) : List S146 := new.take k ++ old.drop k
section
variable {new old : List S146}
theorem mixS_zero : mixS new old 0 = old := by simp [mixS]
theorem mixS_all (hl : new.length = old.length) : mixS new old old.length = new := by unfold mixS; rw [List.drop_length, List.append_nil, ← hl, List.take_length]
theorem mixS_at (hl : new.length = old.length) {k : Nat} (hk : k < old.length) : (mixS new old k)[k]? = some old[k] := by
 unfold mixS
 rw [List.getElem?_append_right (by simp; omega), List.length_take, Nat.min_eq_left (by omega), Nat.sub_self, List.getElem?_drop, Nat.add_zero, List.getElem?_eq_getElem hk]
theorem mixS_set (hl : new.length = old.length) {k : Nat} (hk : k < old.length) : (mixS new old k).set k (new[k]'(by omega)) = mixS new old (k + 1) := by
 unfold mixS
 rw [List.set_append_right _ _ (by simp; omega), List.length_take, Nat.min_eq_left (by omega), Nat.sub_self, List.drop_eq_getElem_cons hk, List.set_cons_zero, List.take_succ_eq_append_getElem (by omega : k < new.length), List.append_assoc]
 rfl
theorem mixS_keep (hl : new.length = old.length) {k : Nat} (hk : k < old.length) (h : new[k]'(by omega) = old[k]) : mixS new old k = mixS new old (k + 1) := by
 rw [← mixS_set hl hk]
 unfold mixS
 rw [List.set_append_right _ _ (by simp; omega), List.length_take, Nat.min_eq_left (by omega), Nat.sub_self, List.drop_eq_getElem_cons hk, List.set_cons_zero, h]
end
theorem addr_at (g m : Nat) : Addr.add ⟨g, 0, none⟩ m = ⟨g, m, none⟩ := by by_cases h : m = 0 <;> simp [Addr.add, h]
theorem row_put {W : World} {base : Nat} {ok : Nat → Prop} {g n cap : Nat} {xs : List S146} (h : Kd.R k146 146 W base ok (.slice (some ⟨g, 0, none⟩) n cap) xs) (k : Nat) (hk : k < n) (x : S146) :
  Kd.R k146 146 ((((W.setCell ⟨g, k * 4, none⟩ (.string x.f0)).setCell ⟨g, k * 4 + 1, none⟩ (.string x.f1)).setCell ⟨g, k * 4 + 2, none⟩ (.bool x.f2)).setCell ⟨g, k * 4 + 3, none⟩ (.bool x.f3)) base ok (.slice (some ⟨g, 0, none⟩) n cap) (xs.set k x) := by
 obtain ⟨hn, _, hC⟩ := Kd.R_reads' h
 subst hn
 obtain ⟨ad, eA, x0, x1, x2, x3⟩ := at_T146 hC (k : Int) (by omega) (by omega)
 cases eA
 have hh := Kd.R_seg h (k : Int) (by omega) (by omega) (c := [.string (rd_T146 xs k).f0, .string (rd_T146 xs k).f1, .bool (rd_T146 xs k).f2, .bool (rd_T146 xs k).f3]) (seg := [.string x.f0, .string x.f1, .bool x.f2, .bool x.f3]) (j := 0) rfl (fun j u hj => by
  have e4 : (k : Int).toNat * k146.sz = k * 4 := by rw [Int.toNat_natCast]; rfl
  rw [e4]
  simp only [Int.toNat_natCast, addr_at] at x0 x1 x2 x3
  match j, hj with
  | 0, hj => simp at hj; subst hj; exact x0
  | 1, hj => simp at hj; subst hj; exact x1
  | 2, hj => simp at hj; subst hj; exact x2
  | 3, hj => simp at hj; subst hj; exact x3
  | j + 4, hj => simp at hj) (Nat.le_refl 4) (x' := x) (k146_mkM _ _ (fun _ => False) x) (fun _ h => h.elim)
 exact hh.1
structure RunS (w wr : World) (g n cap : Nat) (off : Bool) (left nw : Int) (M : List S146) : Prop where
 len : M.length = n
 bx : wr.heap[w.heap.size]? = some (.cells #[.slice (some ⟨g, 0, none⟩) n cap, .bool off, .int .i64 left, .int .i64 nw] 71 (0, 0))
 rs : wr.heap[w.heap.size + 1]? = some (.cells #[.slice none 0 0, .bool false, .int .i64 0, .int .i64 0] 71 (0, 0))
 row : Kd.R k146 146 wr 0 (fun _ => True) (.slice (some ⟨g, 0, none⟩) n cap) M
 bl : Below w.heap.size w wr
 lo : w.heap.size ≤ g
section
variable {w wr w' : World} {g n cap : Nat} {off : Bool} {left nw : Int} {M : List S146}
theorem RunS.below (h : RunS w wr g n cap off left nw M) (hb : Below wr.heap.size wr w') : RunS w w' g n cap off left nw M :=
 ⟨h.len, Stepb hb h.bx, Stepb hb h.rs, R103_step h.row (Step.of_below (S := fun _ => False) hb) (fun _ _ h => h) (fun _ _ => trivial), h.bl.trans (hb.mono h.bl.size), h.lo⟩
theorem RunS.ne (h : RunS w wr g n cap off left nw M) : g ≠ w.heap.size ∧ g ≠ w.heap.size + 1 :=
 ⟨fun e => own103_ne h.row h.bx (fun cur e => by cases e) (by simp [Value.ownBlock, e]), fun e => own103_ne h.row h.rs (fun cur e => by cases e) (by simp [Value.ownBlock, e])⟩
theorem RunS.put (h : RunS w wr g n cap off left nw M) (k : Nat) (hk : k < n) (x : S146) : RunS w ((((wr.setCell ⟨g, k * 4, none⟩ (.string x.f0)).setCell ⟨g, k * 4 + 1, none⟩ (.string x.f1)).setCell ⟨g, k * 4 + 2, none⟩ (.bool x.f2)).setCell ⟨g, k * 4 + 3, none⟩ (.bool x.f3)) g n cap off left nw (M.set k x) := by
 obtain ⟨n1, n2⟩ := h.ne
 have hs : Step (fun q => q = g) wr ((((wr.setCell ⟨g, k * 4, none⟩ (.string x.f0)).setCell ⟨g, k * 4 + 1, none⟩ (.string x.f1)).setCell ⟨g, k * 4 + 2, none⟩ (.bool x.f2)).setCell ⟨g, k * 4 + 3, none⟩ (.bool x.f3)) :=
  (((Step.setCell wr (p := ⟨g, k * 4, none⟩) (S := fun q => q = g) rfl _).trans (Step.setCell _ (p := ⟨g, k * 4 + 1, none⟩) (S := fun q => q = g) rfl _) (fun _ h => h) (fun _ h => Or.inl h)).trans (Step.setCell _ (p := ⟨g, k * 4 + 2, none⟩) (S := fun q => q = g) rfl _) (fun _ h => h) (fun _ h => Or.inl h)).trans (Step.setCell _ (p := ⟨g, k * 4 + 3, none⟩) (S := fun q => q = g) rfl _) (fun _ h => h) (fun _ h => Or.inl h)
 exact ⟨by rw [List.length_set]; exact h.len, hs.block h.bx (fun e => n1 e.symm), hs.block h.rs (fun e => n2 e.symm), row_put h.row k hk x, h.bl.trans (hs.below h.bl.size (fun k hk => hk ▸ h.lo)), h.lo⟩
theorem RunS.cells (h : RunS w wr g n cap off left nw M) {k : Nat} {x : S146} (hx : M[k]? = some x) : (wr.cell? ⟨g, k * 4, none⟩ = some (.string x.f0) ∧ wr.cell? ⟨g, k * 4 + 1, none⟩ = some (.string x.f1) ∧ wr.cell? ⟨g, k * 4 + 2, none⟩ = some (.bool x.f2) ∧ wr.cell? ⟨g, k * 4 + 3, none⟩ = some (.bool x.f3)) ∧
  wr.frozen? ⟨g, k * 4, none⟩ = false ∧ wr.frozen? ⟨g, k * 4 + 1, none⟩ = false ∧ wr.frozen? ⟨g, k * 4 + 2, none⟩ = false ∧ wr.frozen? ⟨g, k * 4 + 3, none⟩ = false := by
 obtain ⟨hk, rfl⟩ := List.getElem?_eq_some_iff.1 hx
 obtain ⟨cur, hg⟩ := own103 h.row (g := g) (by simp [Value.ownBlock])
 have hrow := h.row
 rw [← h.len] at hrow
 obtain ⟨_, _, hC⟩ := Kd.R_reads' hrow
 obtain ⟨ad, eA, x0, x1, x2, x3⟩ := at_T146 hC (k : Int) (by omega) (by omega)
 cases eA
 have hrd : rd_T146 M (k : Int) = M[k] := by simp [rd_T146, List.getD, hk]
 simp only [Int.toNat_natCast, addr_at, hrd] at x0 x1 x2 x3
 exact ⟨⟨x0, x1, x2, x3⟩, blk_frozen hg _, blk_frozen hg _, blk_frozen hg _, blk_frozen hg _⟩
end
theorem empty_row (W : World) (base : Nat) (hb : base ≤ W.heap.size) : Kd.R k146 146 (W.alloc (.cells #[] 146)) base (fun _ => True) (.slice (some ⟨W.heap.size, 0, none⟩) 0 0) [] :=
 ⟨fun _ _ => trivial, [], World.ownsRow_lit (base := base) (e := 146) (size := k146.sz) W #[] 0 hb (by simp) (by simp), Reps.none _ _⟩
theorem getL_filter {β : Type} (x : Int) (ks : List Int) : ∀ (B : List (Int × β)), getL x (B.filter fun q => decide (q.1 ∉ ks)) = if x ∈ ks then none else getL x B
 | [] => by simp [getL]
 | p :: B => by
  have ih := getL_filter x ks B
  rw [List.filter_cons]
  by_cases h : p.1 ∈ ks
  ·rw [if_neg (by simpa using h), ih]
   by_cases hx : x ∈ ks
   ·rw [if_pos hx, if_pos hx]
   ·rw [if_neg hx, if_neg hx]
    conv => rhs; unfold getL
    rw [if_neg (fun e : p.1 = x => hx (e ▸ h))]
  ·rw [if_pos (by simpa using h)]
   unfold getL
   by_cases e : p.1 = x
   ·rw [if_pos e, if_pos e, if_neg (e ▸ h)]
   ·rw [if_neg e, if_neg e, ih]
theorem getL_landB (x : Int) (B : BL) (V : FL) : getL x (landB B V) = if (getL x V).isSome = true then none else getL x B := by
 unfold landB
 rw [getL_filter]
 cases hg : getL x V with
 | none => rw [if_neg (getL_none.1 hg), if_neg (by simp)]
 | some v => rw [if_pos (List.mem_map.2 ⟨_, getL_mem hg, rfl⟩), if_pos (by simp)]
theorem landXs_getD (xs : List ByteArray) (V : FL) (k : Nat) (hk : k < xs.length) : (landXs xs V).getD k ⟨#[]⟩ = (getL (k : Int) V).getD (xs.getD k ⟨#[]⟩) := by
 rw [List.getD_eq_getElem?_getD, List.getElem?_eq_getElem (by rw [landXs_len]; exact hk)]
 simp [landXs]
theorem refS_land (xs : List ByteArray) (B : BL) (V : FL) (k : Nat) (hk : k < (refS (landXs xs V) [] (landB B V)).length) :
  (refS (landXs xs V) [] (landB B V))[k] = ⟨(getL (k : Int) V).getD (xs.getD k ⟨#[]⟩), ⟨#[]⟩, false, if (getL (k : Int) V).isSome = true then false else (getL (k : Int) B).getD false⟩ := by
 have hk2 : k < xs.length := by rw [refS_len, landXs_len] at hk; exact hk
 rw [refS_at, landXs_getD xs V k hk2, getL_landB]
 cases (getL (k : Int) V) <;> rfl
theorem landed_any (w : World) (x : S146) : Calls Tryd.prog 128 #[.agg #[.string x.f0, .string x.f1, .bool x.f2, .bool x.f3]] w fun e w' => e = .returned (.agg #[.string x.f1, .string ⟨#[]⟩, .bool false, .bool false]) ∧ Below w.heap.size w w' := caulkref05_landed.calls x.f0 x.f1 x.f2 x.f3 _ _ _ _ w rfl
theorem flush_step (xs : List ByteArray) (F : FL) (B : BL) (k : Nat) (hk : k < (refS xs F B).length) (hk2 : k < (refS (landXs xs F) [] (landB B F)).length) :
  (((refS xs F B)[k]).f2 = true → (refS (landXs xs F) [] (landB B F))[k] = ⟨((refS xs F B)[k]).f1, ⟨#[]⟩, false, false⟩) ∧ (((refS xs F B)[k]).f2 = false → (refS (landXs xs F) [] (landB B F))[k] = (refS xs F B)[k]) := by
 rw [refS_land, refS_at]
 cases getL (k : Int) F <;> simp
theorem landed_any2 (w : World) (x : S146) (hx : x.f2 = true) : Calls Tryd.prog 128 #[.agg #[.string x.f0, .string x.f1, .bool true, .bool x.f3]] w fun e w' => e = .returned (.agg #[.string x.f1, .string ⟨#[]⟩, .bool false, .bool false]) ∧ Below w.heap.size w w' := by
 have := landed_any w x
 rwa [hx] at this
theorem mixRow {w wr : World} {g n cap : Nat} {off : Bool} {left nw : Int} {new old : List S146} {k : Nat} (_h : RunS w wr g n cap off left nw (mixS new old k)) (hk : k < n) {y : S146} {hk3 : k < new.length} (hm : (mixS new old k).set k new[k] = mixS new old (k + 1)) (hy : new[k] = y) :
  ∀ w3, RunS w w3 g n cap off left nw (mixS new old k) → RunS w ((((w3.setCell ⟨g, k * 4, none⟩ (.string y.f0)).setCell ⟨g, k * 4 + 1, none⟩ (.string y.f1)).setCell ⟨g, k * 4 + 2, none⟩ (.bool y.f2)).setCell ⟨g, k * 4 + 3, none⟩ (.bool y.f3)) g n cap off left nw (mixS new old (k + 1)) := fun w3 h3 => by
 have := h3.put k hk y
 rw [← hy, hm] at this
 rw [← hy]
 exact this
set_option maxRecDepth 100000 in
set_option maxHeartbeats 2000000 in
theorem ref_Flush (w : World) (v : Value) (xs : List ByteArray) (F : FL) (B : BL) (off : Bool) (left nw : Int) (h : RefAt w v xs F B) (hok : DevOk xs F B left) :
  Calls Tryd.prog 92 #[.agg #[v, .bool off, .int .i64 left, .int .i64 nw]] w fun e w' => ∃ v' xs' F' B' off' left' why, flushP xs F B off left = (xs', F', B', off', left', why) ∧ e = .returned (.tuple #[.agg #[v', .bool off', .int .i64 left', .int .i64 nw], .int .i64 why]) ∧
   RefAt w' v' xs' F' B' ∧ Below w.heap.size w w' := by
 obtain ⟨A, c, rfl, hc, hC⟩ := h.reads
 obtain ⟨k1, k2, _, _, _, _, _, k3, k4⟩ := hok
 obtain ⟨xs', F', B', off', left', why, hq⟩ : ∃ xs' F' B' off' left' why, flushP xs F B off left = (xs', F', B', off', left', why) := ⟨_, _, _, _, _, _, rfl⟩
 cases off
 ·by_cases hl : left = 0
  ·subst hl
   rw [show flushP xs F B false 0 = (xs, F, B, true, 0, 12) by simp [flushP, burnP]] at hq
   simp only [Prod.mk.injEq] at hq
   obtain ⟨rfl, rfl, rfl, rfl, rfl, rfl⟩ := hq
   go_enter Tryd.func92, Tryd.ntmps92
   go_wp2
   refine bodyPost_ret (results_ct rfl _ _ (w.heap.size + 1) 71 _ (0, 0) _ rfl (new2 w _ _) Tryd.underlying71 rfl (by kernel_rfl)) rfl ?_
   exact ⟨_, _, _, _, _, _, _, by simp [flushP, burnP], rfl, h.below (below2 w _ _), below2 w _ _⟩
  ·have e2 : (left == 0) = false := by simpa using hl
   rw [show flushP xs F B false left = (landXs xs F, [], landB B F, false, if 0 < left then left - 1 else left, 0) by by_cases h0 : 0 < left <;> simp [flushP, burnP, hl, h0]] at hq
   simp only [Prod.mk.injEq] at hq
   obtain ⟨rfl, rfl, rfl, rfl, rfl, rfl⟩ := hq
   have hfin : flushP xs F B false left = (landXs xs F, [], landB B F, false, if 0 < left then left - 1 else left, 0) := by by_cases h0 : 0 < left <;> simp [flushP, burnP, hl, h0]
   by_cases h0 : 0 < left
   ·have e3 : decide (0 < left) = true := decide_eq_true h0
    rw [if_pos h0] at hfin
    have hE := empty_row ((w.alloc (.cells #[.slice A xs.length c, .bool false, .int .i64 (left - 1), .int .i64 nw] 71)).alloc (.cells #[.slice none 0 0, .bool false, .int .i64 0, .int .i64 0] 71)) w.heap.size (below2 w (.cells #[.slice A xs.length c, .bool false, .int .i64 (left - 1), .int .i64 nw] 71) (.cells #[.slice none 0 0, .bool false, .int .i64 0, .int .i64 0] 71)).size
    have hb3 : Below w.heap.size w (((w.alloc (.cells #[.slice A xs.length c, .bool false, .int .i64 (left - 1), .int .i64 nw] 71)).alloc (.cells #[.slice none 0 0, .bool false, .int .i64 0, .int .i64 0] 71)).alloc (.cells #[] 146)) := (below2 w (.cells #[.slice A xs.length c, .bool false, .int .i64 (left - 1), .int .i64 nw] 71) (.cells #[.slice none 0 0, .bool false, .int .i64 0, .int .i64 0] 71)).alloc (below2 w (.cells #[.slice A xs.length c, .bool false, .int .i64 (left - 1), .int .i64 nw] 71) (.cells #[.slice none 0 0, .bool false, .int .i64 0, .int .i64 0] 71)).size _
    have hy0 : (((w.alloc (.cells #[.slice A xs.length c, .bool false, .int .i64 (left - 1), .int .i64 nw] 71)).alloc (.cells #[.slice none 0 0, .bool false, .int .i64 0, .int .i64 0] 71)).alloc (.cells #[] 146)).heap[w.heap.size]? = _ := (Step.alloc (fun _ => False) _ _).block (new1of2 w (.cells #[.slice A xs.length c, .bool false, .int .i64 (left - 1), .int .i64 nw] 71) (.cells #[.slice none 0 0, .bool false, .int .i64 0, .int .i64 0] 71)) (fun h => h)
    have hy1 : (((w.alloc (.cells #[.slice A xs.length c, .bool false, .int .i64 (left - 1), .int .i64 nw] 71)).alloc (.cells #[.slice none 0 0, .bool false, .int .i64 0, .int .i64 0] 71)).alloc (.cells #[] 146)).heap[w.heap.size + 1]? = _ := (Step.alloc (fun _ => False) _ _).block (new2 w (.cells #[.slice A xs.length c, .bool false, .int .i64 (left - 1), .int .i64 nw] 71) (.cells #[.slice none 0 0, .bool false, .int .i64 0, .int .i64 0] 71)) (fun h => h)
    have hC3 := Kd.C_below hC hb3
    rw [World.size_alloc, World.size_alloc] at hE
    go_enter Tryd.func92, Tryd.ntmps92
    go_wp2_with (at_builtin; refine Kd.R_append_rows k146 (w0 := w) w.heap.size rfl (.tmp 21) (.tmp 23) 69 146 (.agg #[(.string ⟨#[]⟩), (.string ⟨#[]⟩), (.bool false), (.bool false)]) 40 rfl Tryd.underlying69 infoS146 rfl (by decide) (by omega) _ [] (refS xs F B) _ _ _ (fun _ => True) (fun _ => False) rfl rfl hE hC3 (fun _ _ h => h) (fun _ h => h.elim) (fun _ _ => trivial) hb3 hb3.size ?aL ?_; (case aL => simp only [List.length_nil]; omega))
    intro v1 w1 hR1 hB1 hgr _
    have hx0 := blk_grown hy0 hgr (by simp [Value.ownBlock]; omega)
    have hx1 := blk_grown hy1 hgr (by simp [Value.ownBlock])
    obtain ⟨inner, hown⟩ := Kd.R_own hR1
    rw [refS_len] at hown
    obtain ⟨g, cap, rfl, hg0, hg1, _⟩ := ownsRow_form hown (by omega)
    clear hy0 hy1 hb3 hE hC3 hC hgr hown
    obtain ⟨⟨c00, c01, c02, c03⟩, f00, f01, f02, f03⟩ := blk4 hx0
    have hrs0 := RunS.mk (refS_len xs F B) (blk_set hx0 0 (.slice (some ⟨g, 0, none⟩) xs.length cap)) (blk_far hx1 (p := ⟨w.heap.size, 0, none⟩) (by simp) _) (R103_step (ok' := fun _ => True) (Kd.R_lower hR1 (Nat.zero_le _)) (Step.setCell w1 (p := ⟨w.heap.size, 0, none⟩) (S := fun k => k = w.heap.size) rfl _) (fun q hq e => own103_ne hR1 hx0 (fun cur e => by cases e) (by rw [hq, e])) (fun _ _ => trivial)) (hB1.setCell (p := ⟨w.heap.size, 0, none⟩) (Nat.le_refl _) _) hg0
    go_wp2_with fail
    clear hx0 hx1 hR1 hB1 c00 c01 c02 c03 f00 f01 f02 f03 hg1
    go_loopw [29] (fun t29 wr => ∃ k, k ≤ xs.length ∧ t29 = .int .i64 k ∧ RunS w wr g xs.length cap false (left - 1) nw (mixS (refS (landXs xs F) [] (landB B F)) (refS xs F B) k)) (fun t29 _ => xs.length - (intOf t29).toNat)
    case atStart => exact ⟨0, Nat.zero_le _, rfl, by rw [mixS_zero]; exact hrs0⟩
    case round =>
     obtain ⟨k, hk, rfl, hS⟩ := hrel
     clear hrs0
     have hnl : (refS (landXs xs F) [] (landB B F)).length = (refS xs F B).length := by rw [refS_len, refS_len, landXs_len]
     by_cases hlt : k < xs.length
     ·have hk2 : k < (refS xs F B).length := by rw [refS_len]; exact hlt
      obtain ⟨x, hx⟩ : ∃ x, (refS xs F B)[k] = x := ⟨_, rfl⟩
      have hM := mixS_at hnl hk2
      rw [hx] at hM
      obtain ⟨⟨x0, x1, x2, x3⟩, _⟩ := hS.cells hM
      have hst := flush_step xs F B k hk2 (by rw [hnl]; exact hk2)
      rw [hx] at hst
      have hm1 := mixS_set hnl hk2
      have hm2 := mixS_keep hnl hk2
      have hk0 : (0 : Int) ≤ (k : Int) := by omega
      have hk1 : (k : Int) < (xs.length : Int) := by omega
      have d1 : decide ((k : Int) < (xs.length : Int)) = true := decide_eq_true hk1
      have hSa := hS.below ((Below.refl _ _).alloc (Nat.le_refl _) (.cells #[.string x.f0, .string x.f1, .bool x.f2, .bool x.f3] 146))
      cases hw : x.f2
      ·rw [hw] at x2 hSa
       go_wp2
       rw [hm2 ((hst.2 hw).trans hx.symm)] at hSa
       exact ⟨⟨k + 1, by omega, by simp, hSa⟩, by simp [intOf]; omega⟩
      ·rw [hw] at x2 hSa
       have hmr := mixRow hS hlt hm1 (hst.1 hw)
       clear hm1 hm2 hst hS hx
       go_wp2_with fail
       have hxa := World.alloc_heap_new wr (.cells #[.string x.f0, .string x.f1, .bool true, .bool x.f3] 146)
       generalize wr.alloc (.cells #[.string x.f0, .string x.f1, .bool true, .bool x.f3] 146) = wa at hSa hxa ⊢
       clear x0 x1 x2 x3
       have hSd : RunS w wa.drew _ _ _ _ _ _ _ := hSa.below (below_drew1 (Below.refl _ _))
       have hxb : wa.drew.heap[wr.heap.size]? = some (.cells #[.string x.f0, .string x.f1, .bool true, .bool x.f3] 146 (0, 0)) := hxa
       obtain ⟨⟨b0, _⟩, _⟩ := blk4 hSd.bx
       obtain ⟨⟨y0, y1, y2, y3⟩, _⟩ := blk4 hxb
       refine start_ (n := 7) (S := fun w' => w'.cell? ⟨w.heap.size, 0, none⟩ = some (.slice (some ⟨g, 0, none⟩) xs.length cap) ∧ w'.cell? ⟨wr.heap.size, 0, none⟩ = some (.string x.f0) ∧ w'.cell? ⟨wr.heap.size, 1, none⟩ = some (.string x.f1) ∧ w'.cell? ⟨wr.heap.size, 2, none⟩ = some (.bool true) ∧ w'.cell? ⟨wr.heap.size, 3, none⟩ = some (.bool x.f3) ∧ RunS w w' g xs.length cap false (left - 1) nw (mixS (refS (landXs xs F) [] (landB B F)) (refS xs F B) k)) (ds := [6]) #[G,G,G,G,G,G,G] (by kernel_rfl) rfl rfl ⟨b0, y0, y1, y2, y3, hSd⟩ (fun hHeld => ?_)
       refine pure_ (i := 0) (N := some 36) (v := ?_) (a' := ?_) #[Y,G,G,G,G,G,G] rfl rfl (by kernel_rfl) (fun _ _ _ h => h) (Or.inl ⟨by rfl, ?_⟩) ?_ ?_;rotate_left
       ·intro w';go_simp;with_reducible rfl
       rotate_left;·simp only [Act.put, sA_];rfl
       refine pure_ (i := 2) (N := some 38) (v := ?_) (a' := ?_) #[Y,G,Y,G,G,G,G] rfl rfl (by kernel_rfl) (fun _ _ _ h => h) (Or.inl ⟨by rfl, ?_⟩) ?_ ?_;rotate_left
       ·intro w';go_simp;with_reducible rfl
       rotate_left;·simp only [Act.put, sA_];rfl
       refine take_ (i := 1) (N := some 37) (v := ?_) (a' := ?_) #[Y,Y,Y,G,G,G,G] rfl rfl (by kernel_rfl) (fun _ _ _ h => h) (Or.inl ⟨by rfl, ?_⟩) hHeld ?_ ?_;rotate_left
       ·rintro w' ⟨s0, s1, s2, s3, s4, s5⟩
        go_simp
        with_reducible rfl
       rotate_left;·simp only [Act.put, sA_];rfl
       refine take_ (i := 3) (N := some 39) (v := ?_) (a' := ?_) #[Y,Y,Y,Y,G,G,G] rfl rfl (by kernel_rfl) (fun _ _ _ h => h) (Or.inl ⟨by rfl, ?_⟩) hHeld ?_ ?_;rotate_left
       ·rintro w' ⟨s0, s1, s2, s3, s4, s5⟩
        go_simp
        with_reducible rfl
       rotate_left;·simp only [Act.put, sA_];rfl
       refine one_ (i := 4) (N := some 40) #[Y,Y,Y,Y,Y,G,G] rfl rfl (by kernel_rfl) (by decide) (fun K hK => ?_)
       refine goes_ Tryd.func128 (by kernel_rfl) rfl #[.agg #[.string x.f0, .string x.f1, .bool true, .bool x.f3]] (by rfl) rfl rfl (by simp only [List.map_toArray, List.map_cons, List.map_nil]; rfl) ?_
       with_reducible refine (landed_any2 _ x hw).mono ?_
       rintro e w3 ⟨rfl, hb3⟩
       refine ⟨_, rfl, ?_⟩
       refine hK.out _ _ ⟨pw_cell_below hb3 hHeld.1, pw_cell_below hb3 hHeld.2.1, pw_cell_below hb3 hHeld.2.2.1, pw_cell_below hb3 hHeld.2.2.2.1, pw_cell_below hb3 hHeld.2.2.2.2.1, hHeld.2.2.2.2.2.below hb3⟩ (fun hHeld => ?_)
       clear hK K
       refine norm_ (a' := ?_) ?_ ?_;rotate_left
       ·show Act.put _ (some 40) _ = _
        simp only [Act.put, sA_]
        rfl
       refine pure_ (i := 5) (N := some 41) (v := ?_) (a' := ?_) #[Y,Y,Y,Y,Y,Y,G] rfl rfl (by kernel_rfl) (fun _ _ _ h => h) (Or.inl ⟨by rfl, ?_⟩) ?_ ?_;rotate_left
       ·intro w';go_simp;with_reducible rfl
       rotate_left;·simp only [Act.put, sA_];rfl
       refine last_ (i := 6) (N := none) #[Y,Y,Y,Y,Y,Y,Y] rfl rfl (by kernel_rfl) (by decide) (fun K hK => ?_)
       obtain ⟨⟨z0, z1, z2, z3⟩, q0, q1, q2, q3⟩ := hHeld.2.2.2.2.2.cells hM
       refine skip_ (w1 := ?_) (by rfl) rfl ?_ ?_;rotate_left
       ·go_simp
        rfl
       refine hK.out _ _ ?_
       clear hK K
       refine done_ (by kernel_rfl) ?_
       have hS4 := hmr _ hHeld.2.2.2.2.2
       clear hHeld
       go_wp2
       exact ⟨⟨k + 1, by omega, by simp, hS4⟩, by simp [intOf]; omega⟩
     ·have ek : k = xs.length := by omega
      subst ek
      have hrow := hS.row
      have hma : mixS (refS (landXs xs F) [] (landB B F)) (refS xs F B) xs.length = refS (landXs xs F) [] (landB B F) := by
       have := mixS_all hnl
       rwa [refS_len] at this
      rw [hma] at hrow
      obtain ⟨⟨b0, b1, b2, b3⟩, _⟩ := blk4 hS.bx
      have hzs := hS.rs
      have hbl := hS.bl
      obtain ⟨⟨d10, d11, d12, d13⟩, g10, g11, g12, g13⟩ := blk4 hzs
      clear hma hS hnl
      go_wp2
      refine bodyPost_ret (results_ct rfl _ _ (w.heap.size + 1) 71 _ (0, 0) _ rfl (put4 hzs _ _ _ _) Tryd.underlying71 rfl (by kernel_rfl)) rfl ?_
      exact ⟨_, _, _, _, _, _, _, hfin, rfl, ref_put4 hrow hzs _ _ _ _, below_put4 hbl (by omega) _ _ _ _⟩
   ·have e3 : decide (0 < left) = false := decide_eq_false h0
    rw [if_neg h0] at hfin
    have hE := empty_row ((w.alloc (.cells #[.slice A xs.length c, .bool false, .int .i64 left, .int .i64 nw] 71)).alloc (.cells #[.slice none 0 0, .bool false, .int .i64 0, .int .i64 0] 71)) w.heap.size (below2 w (.cells #[.slice A xs.length c, .bool false, .int .i64 left, .int .i64 nw] 71) (.cells #[.slice none 0 0, .bool false, .int .i64 0, .int .i64 0] 71)).size
    have hb3 : Below w.heap.size w (((w.alloc (.cells #[.slice A xs.length c, .bool false, .int .i64 left, .int .i64 nw] 71)).alloc (.cells #[.slice none 0 0, .bool false, .int .i64 0, .int .i64 0] 71)).alloc (.cells #[] 146)) := (below2 w (.cells #[.slice A xs.length c, .bool false, .int .i64 left, .int .i64 nw] 71) (.cells #[.slice none 0 0, .bool false, .int .i64 0, .int .i64 0] 71)).alloc (below2 w (.cells #[.slice A xs.length c, .bool false, .int .i64 left, .int .i64 nw] 71) (.cells #[.slice none 0 0, .bool false, .int .i64 0, .int .i64 0] 71)).size _
    have hy0 : (((w.alloc (.cells #[.slice A xs.length c, .bool false, .int .i64 left, .int .i64 nw] 71)).alloc (.cells #[.slice none 0 0, .bool false, .int .i64 0, .int .i64 0] 71)).alloc (.cells #[] 146)).heap[w.heap.size]? = _ := (Step.alloc (fun _ => False) _ _).block (new1of2 w (.cells #[.slice A xs.length c, .bool false, .int .i64 left, .int .i64 nw] 71) (.cells #[.slice none 0 0, .bool false, .int .i64 0, .int .i64 0] 71)) (fun h => h)
    have hy1 : (((w.alloc (.cells #[.slice A xs.length c, .bool false, .int .i64 left, .int .i64 nw] 71)).alloc (.cells #[.slice none 0 0, .bool false, .int .i64 0, .int .i64 0] 71)).alloc (.cells #[] 146)).heap[w.heap.size + 1]? = _ := (Step.alloc (fun _ => False) _ _).block (new2 w (.cells #[.slice A xs.length c, .bool false, .int .i64 left, .int .i64 nw] 71) (.cells #[.slice none 0 0, .bool false, .int .i64 0, .int .i64 0] 71)) (fun h => h)
    have hC3 := Kd.C_below hC hb3
    rw [World.size_alloc, World.size_alloc] at hE
    go_enter Tryd.func92, Tryd.ntmps92
    go_wp2_with (at_builtin; refine Kd.R_append_rows k146 (w0 := w) w.heap.size rfl (.tmp 21) (.tmp 23) 69 146 (.agg #[(.string ⟨#[]⟩), (.string ⟨#[]⟩), (.bool false), (.bool false)]) 40 rfl Tryd.underlying69 infoS146 rfl (by decide) (by omega) _ [] (refS xs F B) _ _ _ (fun _ => True) (fun _ => False) rfl rfl hE hC3 (fun _ _ h => h) (fun _ h => h.elim) (fun _ _ => trivial) hb3 hb3.size ?aL ?_; (case aL => simp only [List.length_nil]; omega))
    intro v1 w1 hR1 hB1 hgr _
    have hx0 := blk_grown hy0 hgr (by simp [Value.ownBlock]; omega)
    have hx1 := blk_grown hy1 hgr (by simp [Value.ownBlock])
    obtain ⟨inner, hown⟩ := Kd.R_own hR1
    rw [refS_len] at hown
    obtain ⟨g, cap, rfl, hg0, hg1, _⟩ := ownsRow_form hown (by omega)
    clear hy0 hy1 hb3 hE hC3 hC hgr hown
    obtain ⟨⟨c00, c01, c02, c03⟩, f00, f01, f02, f03⟩ := blk4 hx0
    have hrs0 := RunS.mk (refS_len xs F B) (blk_set hx0 0 (.slice (some ⟨g, 0, none⟩) xs.length cap)) (blk_far hx1 (p := ⟨w.heap.size, 0, none⟩) (by simp) _) (R103_step (ok' := fun _ => True) (Kd.R_lower hR1 (Nat.zero_le _)) (Step.setCell w1 (p := ⟨w.heap.size, 0, none⟩) (S := fun k => k = w.heap.size) rfl _) (fun q hq e => own103_ne hR1 hx0 (fun cur e => by cases e) (by rw [hq, e])) (fun _ _ => trivial)) (hB1.setCell (p := ⟨w.heap.size, 0, none⟩) (Nat.le_refl _) _) hg0
    go_wp2_with fail
    clear hx0 hx1 hR1 hB1 c00 c01 c02 c03 f00 f01 f02 f03 hg1
    go_loopw [29] (fun t29 wr => ∃ k, k ≤ xs.length ∧ t29 = .int .i64 k ∧ RunS w wr g xs.length cap false left nw (mixS (refS (landXs xs F) [] (landB B F)) (refS xs F B) k)) (fun t29 _ => xs.length - (intOf t29).toNat)
    case atStart => exact ⟨0, Nat.zero_le _, rfl, by rw [mixS_zero]; exact hrs0⟩
    case round =>
     obtain ⟨k, hk, rfl, hS⟩ := hrel
     clear hrs0
     have hnl : (refS (landXs xs F) [] (landB B F)).length = (refS xs F B).length := by rw [refS_len, refS_len, landXs_len]
     by_cases hlt : k < xs.length
     ·have hk2 : k < (refS xs F B).length := by rw [refS_len]; exact hlt
      obtain ⟨x, hx⟩ : ∃ x, (refS xs F B)[k] = x := ⟨_, rfl⟩
      have hM := mixS_at hnl hk2
      rw [hx] at hM
      obtain ⟨⟨x0, x1, x2, x3⟩, _⟩ := hS.cells hM
      have hst := flush_step xs F B k hk2 (by rw [hnl]; exact hk2)
      rw [hx] at hst
      have hm1 := mixS_set hnl hk2
      have hm2 := mixS_keep hnl hk2
      have hk0 : (0 : Int) ≤ (k : Int) := by omega
      have hk1 : (k : Int) < (xs.length : Int) := by omega
      have d1 : decide ((k : Int) < (xs.length : Int)) = true := decide_eq_true hk1
      have hSa := hS.below ((Below.refl _ _).alloc (Nat.le_refl _) (.cells #[.string x.f0, .string x.f1, .bool x.f2, .bool x.f3] 146))
      cases hw : x.f2
      ·rw [hw] at x2 hSa
       go_wp2
       rw [hm2 ((hst.2 hw).trans hx.symm)] at hSa
       exact ⟨⟨k + 1, by omega, by simp, hSa⟩, by simp [intOf]; omega⟩
      ·rw [hw] at x2 hSa
       have hmr := mixRow hS hlt hm1 (hst.1 hw)
       clear hm1 hm2 hst hS hx
       go_wp2_with fail
       have hxa := World.alloc_heap_new wr (.cells #[.string x.f0, .string x.f1, .bool true, .bool x.f3] 146)
       generalize wr.alloc (.cells #[.string x.f0, .string x.f1, .bool true, .bool x.f3] 146) = wa at hSa hxa ⊢
       clear x0 x1 x2 x3
       have hSd : RunS w wa.drew _ _ _ _ _ _ _ := hSa.below (below_drew1 (Below.refl _ _))
       have hxb : wa.drew.heap[wr.heap.size]? = some (.cells #[.string x.f0, .string x.f1, .bool true, .bool x.f3] 146 (0, 0)) := hxa
       obtain ⟨⟨b0, _⟩, _⟩ := blk4 hSd.bx
       obtain ⟨⟨y0, y1, y2, y3⟩, _⟩ := blk4 hxb
       refine start_ (n := 7) (S := fun w' => w'.cell? ⟨w.heap.size, 0, none⟩ = some (.slice (some ⟨g, 0, none⟩) xs.length cap) ∧ w'.cell? ⟨wr.heap.size, 0, none⟩ = some (.string x.f0) ∧ w'.cell? ⟨wr.heap.size, 1, none⟩ = some (.string x.f1) ∧ w'.cell? ⟨wr.heap.size, 2, none⟩ = some (.bool true) ∧ w'.cell? ⟨wr.heap.size, 3, none⟩ = some (.bool x.f3) ∧ RunS w w' g xs.length cap false left nw (mixS (refS (landXs xs F) [] (landB B F)) (refS xs F B) k)) (ds := [6]) #[G,G,G,G,G,G,G] (by kernel_rfl) rfl rfl ⟨b0, y0, y1, y2, y3, hSd⟩ (fun hHeld => ?_)
       refine pure_ (i := 0) (N := some 36) (v := ?_) (a' := ?_) #[Y,G,G,G,G,G,G] rfl rfl (by kernel_rfl) (fun _ _ _ h => h) (Or.inl ⟨by rfl, ?_⟩) ?_ ?_;rotate_left
       ·intro w';go_simp;with_reducible rfl
       rotate_left;·simp only [Act.put, sA_];rfl
       refine pure_ (i := 2) (N := some 38) (v := ?_) (a' := ?_) #[Y,G,Y,G,G,G,G] rfl rfl (by kernel_rfl) (fun _ _ _ h => h) (Or.inl ⟨by rfl, ?_⟩) ?_ ?_;rotate_left
       ·intro w';go_simp;with_reducible rfl
       rotate_left;·simp only [Act.put, sA_];rfl
       refine take_ (i := 1) (N := some 37) (v := ?_) (a' := ?_) #[Y,Y,Y,G,G,G,G] rfl rfl (by kernel_rfl) (fun _ _ _ h => h) (Or.inl ⟨by rfl, ?_⟩) hHeld ?_ ?_;rotate_left
       ·rintro w' ⟨s0, s1, s2, s3, s4, s5⟩
        go_simp
        with_reducible rfl
       rotate_left;·simp only [Act.put, sA_];rfl
       refine take_ (i := 3) (N := some 39) (v := ?_) (a' := ?_) #[Y,Y,Y,Y,G,G,G] rfl rfl (by kernel_rfl) (fun _ _ _ h => h) (Or.inl ⟨by rfl, ?_⟩) hHeld ?_ ?_;rotate_left
       ·rintro w' ⟨s0, s1, s2, s3, s4, s5⟩
        go_simp
        with_reducible rfl
       rotate_left;·simp only [Act.put, sA_];rfl
       refine one_ (i := 4) (N := some 40) #[Y,Y,Y,Y,Y,G,G] rfl rfl (by kernel_rfl) (by decide) (fun K hK => ?_)
       refine goes_ Tryd.func128 (by kernel_rfl) rfl #[.agg #[.string x.f0, .string x.f1, .bool true, .bool x.f3]] (by rfl) rfl rfl (by simp only [List.map_toArray, List.map_cons, List.map_nil]; rfl) ?_
       with_reducible refine (landed_any2 _ x hw).mono ?_
       rintro e w3 ⟨rfl, hb3⟩
       refine ⟨_, rfl, ?_⟩
       refine hK.out _ _ ⟨pw_cell_below hb3 hHeld.1, pw_cell_below hb3 hHeld.2.1, pw_cell_below hb3 hHeld.2.2.1, pw_cell_below hb3 hHeld.2.2.2.1, pw_cell_below hb3 hHeld.2.2.2.2.1, hHeld.2.2.2.2.2.below hb3⟩ (fun hHeld => ?_)
       clear hK K
       refine norm_ (a' := ?_) ?_ ?_;rotate_left
       ·show Act.put _ (some 40) _ = _
        simp only [Act.put, sA_]
        rfl
       refine pure_ (i := 5) (N := some 41) (v := ?_) (a' := ?_) #[Y,Y,Y,Y,Y,Y,G] rfl rfl (by kernel_rfl) (fun _ _ _ h => h) (Or.inl ⟨by rfl, ?_⟩) ?_ ?_;rotate_left
       ·intro w';go_simp;with_reducible rfl
       rotate_left;·simp only [Act.put, sA_];rfl
       refine last_ (i := 6) (N := none) #[Y,Y,Y,Y,Y,Y,Y] rfl rfl (by kernel_rfl) (by decide) (fun K hK => ?_)
       obtain ⟨⟨z0, z1, z2, z3⟩, q0, q1, q2, q3⟩ := hHeld.2.2.2.2.2.cells hM
       refine skip_ (w1 := ?_) (by rfl) rfl ?_ ?_;rotate_left
       ·go_simp
        rfl
       refine hK.out _ _ ?_
       clear hK K
       refine done_ (by kernel_rfl) ?_
       have hS4 := hmr _ hHeld.2.2.2.2.2
       clear hHeld
       go_wp2
       exact ⟨⟨k + 1, by omega, by simp, hS4⟩, by simp [intOf]; omega⟩
     ·have ek : k = xs.length := by omega
      subst ek
      have hrow := hS.row
      have hma : mixS (refS (landXs xs F) [] (landB B F)) (refS xs F B) xs.length = refS (landXs xs F) [] (landB B F) := by
       have := mixS_all hnl
       rwa [refS_len] at this
      rw [hma] at hrow
      obtain ⟨⟨b0, b1, b2, b3⟩, _⟩ := blk4 hS.bx
      have hzs := hS.rs
      have hbl := hS.bl
      obtain ⟨⟨d10, d11, d12, d13⟩, g10, g11, g12, g13⟩ := blk4 hzs
      clear hma hS hnl
      go_wp2
      refine bodyPost_ret (results_ct rfl _ _ (w.heap.size + 1) 71 _ (0, 0) _ rfl (put4 hzs _ _ _ _) Tryd.underlying71 rfl (by kernel_rfl)) rfl ?_
      exact ⟨_, _, _, _, _, _, _, hfin, rfl, ref_put4 hrow hzs _ _ _ _, below_put4 hbl (by omega) _ _ _ _⟩
 ·rw [show flushP xs F B true left = (xs, F, B, true, left, 12) by simp [flushP]] at hq
  simp only [Prod.mk.injEq] at hq
  obtain ⟨rfl, rfl, rfl, rfl, rfl, rfl⟩ := hq
  go_enter Tryd.func92, Tryd.ntmps92
  go_wp2
  refine bodyPost_ret (results_ct rfl _ _ (w.heap.size + 1) 71 _ (0, 0) _ rfl (new2 w _ _) Tryd.underlying71 rfl (by kernel_rfl)) rfl ?_
  exact ⟨_, _, _, _, _, _, _, by simp [flushP], rfl, h.below (below2 w _ _), below2 w _ _⟩
set_option maxRecDepth 100000 in
set_option maxHeartbeats 4000000 in
theorem ref_Garble_no (w : World) (v : Value) (xs : List ByteArray) (F : FL) (B : BL) (off : Bool) (left nw at_ o b : Int) (h : RefAt w v xs F B) (hn : ¬ ((0 ≤ at_ ∧ at_ < xs.length) ∧ 0 ≤ o ∧ o ≤ 508)) :
  Calls Tryd.prog 90 #[.agg #[v, .bool off, .int .i64 left, .int .i64 nw], .int .i64 at_, .int .i64 o, .int .u32 b] w fun e w' => ∃ v', e = .returned (.tuple #[.agg #[v', .bool off, .int .i64 left, .int .i64 nw], .int .i64 1]) ∧ RefAt w' v' xs F B ∧ Below w.heap.size w w' := by
 obtain ⟨A, c, rfl, hc, hC⟩ := h.reads
 have hW := ref_has ((w.alloc (.cells #[.slice A xs.length c, .bool off, .int .i64 left, .int .i64 nw] 71)).alloc (.cells #[.slice none 0 0, .bool false, .int .i64 0, .int .i64 0] 71)) _ xs F B off left nw at_ (h.below (below2 w _ _))
 have hy0 := new1of2 w (.cells #[.slice A xs.length c, .bool off, .int .i64 left, .int .i64 nw] 71) (.cells #[.slice none 0 0, .bool false, .int .i64 0, .int .i64 0] 71)
 have hy1 := new2 w (.cells #[.slice A xs.length c, .bool off, .int .i64 left, .int .i64 nw] 71) (.cells #[.slice none 0 0, .bool false, .int .i64 0, .int .i64 0] 71)
 have hb0 := below2 w (.cells #[.slice A xs.length c, .bool off, .int .i64 left, .int .i64 nw] 71) (.cells #[.slice none 0 0, .bool false, .int .i64 0, .int .i64 0] 71)
 go_enter Tryd.func90, Tryd.ntmps90
 go_wp2_with (go_at_call 126; refine hW.mono ?_)
 rintro e w1 ⟨rfl, hb1⟩
 have hx1 := Stepb hb1 hy1
 have hx0 := Stepb hb1 hy0
 have hR1 := (h.below hb0).below hb1
 have hB1 := hb0.trans (hb1.mono hb0.size)
 have hsz := blk_lt hx1
 clear hy0 hy1 hb0 hb1 hW
 obtain ⟨⟨c00, c01, c02, c03⟩, f00, f01, f02, f03⟩ := blk4 hx0
 obtain ⟨⟨c10, c11, c12, c13⟩, f10, f11, f12, f13⟩ := blk4 hx1
 by_cases hat : 0 ≤ at_ ∧ at_ < (xs.length : Int)
 ·rw [decide_eq_true hat]
  by_cases h0 : o < 0
  ·have d1 : decide (o < 0) = true := decide_eq_true h0
   go_wp2
   refine bodyPost_ret (results_ct rfl _ _ (w.heap.size + 1) 71 _ (0, 0) _ rfl (put4 hx1 _ _ _ _) Tryd.underlying71 rfl (by kernel_rfl)) rfl ?_
   exact ⟨_, rfl, ref_put4 hR1 hx1 _ _ _ _, below_put4 hB1 (by omega) _ _ _ _⟩
  ·have d1 : decide (o < 0) = false := decide_eq_false h0
   have d2 : decide (508 < o) = true := decide_eq_true (by omega)
   go_wp2
   refine bodyPost_ret (results_ct rfl _ _ (w.heap.size + 1) 71 _ (0, 0) _ rfl (put4 hx1 _ _ _ _) Tryd.underlying71 rfl (by kernel_rfl)) rfl ?_
   exact ⟨_, rfl, ref_put4 hR1 hx1 _ _ _ _, below_put4 hB1 (by omega) _ _ _ _⟩
 ·rw [decide_eq_false hat]
  go_wp2
  refine bodyPost_ret (results_ct rfl _ _ (w.heap.size + 1) 71 _ (0, 0) _ rfl (put4 hx1 _ _ _ _) Tryd.underlying71 rfl (by kernel_rfl)) rfl ?_
  exact ⟨_, rfl, ref_put4 hR1 hx1 _ _ _ _, below_put4 hB1 (by omega) _ _ _ _⟩
set_option maxRecDepth 100000 in
set_option maxHeartbeats 4000000 in
theorem ref_Garble (w : World) (v : Value) (xs : List ByteArray) (F : FL) (B : BL) (off : Bool) (left nw at_ o b : Int) (h : RefAt w v xs F B) (hok : DevOk xs F B left) (h1 : 0 ≤ at_) (h2 : at_ < xs.length) (h3 : 0 ≤ o) (h4 : o ≤ 508) (h5 : 0 ≤ b) (h6 : b < 4294967296) :
  Calls Tryd.prog 90 #[.agg #[v, .bool off, .int .i64 left, .int .i64 nw], .int .i64 at_, .int .i64 o, .int .u32 b] w fun e w' => ∃ v', e = .returned (.tuple #[.agg #[v', .bool off, .int .i64 left, .int .i64 nw], .int .i64 0]) ∧
   RefAt w' v' (xs.set at_.toNat (strOfNums (grb (bytesOf (xs.getD at_.toNat ⟨#[]⟩)) o.toNat b 4))) F B ∧ Below w.heap.size w w' := by
 obtain ⟨XT, hXT⟩ : ∃ t, strOfNums (grb (bytesOf (xs.getD at_.toNat ⟨#[]⟩)) o.toNat b 4) = t := ⟨_, rfl⟩
 rw [hXT]
 obtain ⟨A, c, rfl, hc, hC⟩ := h.reads
 have hW := ref_has ((w.alloc (.cells #[.slice A xs.length c, .bool off, .int .i64 left, .int .i64 nw] 71)).alloc (.cells #[.slice none 0 0, .bool false, .int .i64 0, .int .i64 0] 71)) _ xs F B off left nw at_ (h.below (below2 w _ _))
 have hy0 := new1of2 w (.cells #[.slice A xs.length c, .bool off, .int .i64 left, .int .i64 nw] 71) (.cells #[.slice none 0 0, .bool false, .int .i64 0, .int .i64 0] 71)
 have hy1 := new2 w (.cells #[.slice A xs.length c, .bool off, .int .i64 left, .int .i64 nw] 71) (.cells #[.slice none 0 0, .bool false, .int .i64 0, .int .i64 0] 71)
 have hb0 := below2 w (.cells #[.slice A xs.length c, .bool off, .int .i64 left, .int .i64 nw] 71) (.cells #[.slice none 0 0, .bool false, .int .i64 0, .int .i64 0] 71)
 go_enter Tryd.func90, Tryd.ntmps90
 go_wp2_with (go_at_call 126; refine hW.mono ?_)
 rintro e w1 ⟨rfl, hb1⟩
 have hx1 := Stepb hb1 hy1
 have hx0 := Stepb hb1 hy0
 have hR1 := (h.below hb0).below hb1
 have hB1 := hb0.trans (hb1.mono hb0.size)
 have hsz := blk_lt hx1
 clear hy0 hy1 hb0 hb1 hW
 obtain ⟨⟨c00, c01, c02, c03⟩, f00, f01, f02, f03⟩ := blk4 hx0
 obtain ⟨⟨c10, c11, c12, c13⟩, f10, f11, f12, f13⟩ := blk4 hx1
 obtain ⟨k1, k2, hx512, _⟩ := hok
 rw [decide_eq_true (⟨h1, h2⟩ : 0 ≤ at_ ∧ at_ < (xs.length : Int))]
 have d1 : decide (o < 0) = false := decide_eq_false (by omega)
 have d2 : decide (508 < o) = false := decide_eq_false (by omega)
 obtain ⟨_, _, hC1⟩ := hR1.C
 obtain ⟨ad, eA, x0, x1, x2, x3⟩ := at_T146 hC1 at_ h1 (by omega)
 subst eA
 have hrd := rd_refS xs F B at_ h1 h2
 obtain ⟨x, hx⟩ : ∃ x, x = rd_T146 (refS xs F B) at_ := ⟨_, rfl⟩
 rw [← hx] at hrd x0 x1 x2 x3
 have hset : ∀ z, (refS xs F B).set at_.toNat ⟨z, x.f1, x.f2, x.f3⟩ = refS (xs.set at_.toNat z) F B := fun z => by rw [hrd]; exact refS_setX xs F B at_ z h1 h2
 have hf0 : xs.getD at_.toNat ⟨#[]⟩ = x.f0 := by rw [hrd]
 have hf512 : x.f0.size = 512 := by
  rw [← hf0, List.getD_eq_getElem?_getD, List.getElem?_eq_getElem (by omega : at_.toNat < xs.length)]
  exact hx512 _ (List.getElem_mem _)
 rw [hf0] at hXT
 clear hx hrd hC1 hf0 hx512 hC
 go_upto_region 4 with (fail)
 have hRx := hR1.step (Step.alloc (fun _ => False) w1 (.cells #[.string x.f0, .string x.f1, .bool x.f2, .bool x.f3] 146)) (fun _ _ h => h)
 have hbx0 : (w1.alloc (.cells #[.string x.f0, .string x.f1, .bool x.f2, .bool x.f3] 146)).heap[w.heap.size]? = _ := (Step.alloc (fun _ => False) _ _).block hx0 (fun h => h)
 have hbx1 : (w1.alloc (.cells #[.string x.f0, .string x.f1, .bool x.f2, .bool x.f3] 146)).heap[w.heap.size + 1]? = _ := (Step.alloc (fun _ => False) _ _).block hx1 (fun h => h)
 have hbxx := World.alloc_heap_new w1 (.cells #[.string x.f0, .string x.f1, .bool x.f2, .bool x.f3] 146)
 have hBx := hB1.alloc hB1.size (.cells #[.string x.f0, .string x.f1, .bool x.f2, .bool x.f3] 146)
 have hown : ∀ q, (Value.slice (some ad) xs.length c).ownBlock = some q → q < w1.heap.size := fun q hq => blk_lt (own103 hR1 hq).choose_spec
 obtain ⟨X, hX⟩ : ∃ X, X = w1.heap.size := ⟨_, rfl⟩
 rw [← hX] at hbxx hown hsz ⊢
 have hXw : w.heap.size ≤ X := by omega
 clear hX c00 c01 c02 c03 f00 f01 f02 f03 c10 c11 c12 c13 f10 f11 f12 f13 x0 x1 x2 x3 hR1 hx0 hx1
 generalize w1.alloc (.cells #[.string x.f0, .string x.f1, .bool x.f2, .bool x.f3] 146) = wx at hRx hbx0 hbx1 hbxx hBx ⊢
 clear hB1
 have hXl := blk_lt hbxx
 have hcv := Lib.run_convert_string_bytes (P := Tryd.prog) wx 9 95 5 x.f0 Tryd.underlying9 Tryd.underlying95 (by kernel_rfl)
 have hG := GAt.made wx x.f0
 have hBW := bytes_below (Below.refl wx.heap.size wx) (Nat.le_refl _) 5 x.f0
 generalize Lib.bytesWorld wx 5 x.f0 = W at hcv hG hBW
 obtain ⟨g, eg⟩ : ∃ g, g = wx.heap.size := ⟨_, rfl⟩
 rw [← eg] at hcv hG hXl
 have hsW : Step (fun _ => False) wx W := Step.of_below hBW
 have hBW2 : Below w.heap.size w W := hBx.trans (hBW.mono hBx.size)
 have hgw : wx.heap.size ≤ g := by omega
 have hgw0 : w.heap.size ≤ g := by have := hBx.size; omega
 clear eg hBW
 generalize grownCap wx x.f0.size 0 5 = cap at hcv
 obtain ⟨N, hN⟩ : ∃ N : Nat, N = x.f0.size := ⟨_, rfl⟩
 have hN5 : N = 512 := hN.trans hf512
 rw [← hN] at hcv
 have hyl : (bytesOf x.f0).length = 512 := by rw [bytesOf_length, hf512]
 obtain ⟨⟨y0, y1, y2, y3⟩, p0, p1, p2, p3⟩ := blk4 hbxx
 generalize bytesOf x.f0 = ys at hG hyl hXT
 clear hN hf512
 obtain ⟨p, hp⟩ : ∃ p : Nat, (p : Int) = o := ⟨o.toNat, by omega⟩
 subst hp
 simp only [Int.toNat_natCast] at hXT
 have hNI : (N : Int) ≤ 9223372036854775807 := by omega
 obtain ⟨hid, hidp⟩ : ∃ x : PLift (N = 512), True := ⟨⟨hN5⟩, trivial⟩
 clear hN5
 go_wp2_with fail
 have hN5 : N = 512 := hid.down
 have hgl : ∀ j, (grb ys p b j).length = 512 := fun j => by
  induction j with
  | zero => exact hyl
  | succ j ih => rw [grb, List.length_set, ih]
 go_loopw [12] (fun t12 wr => ∃ j : Nat, j ≤ 4 ∧ t12 = .int .i64 j ∧ GAt wr g (grb ys p b j) ∧ Step (fun _ => False) wx wr ∧ Below w.heap.size w wr) (fun t12 _ => 4 - (intOf t12).toNat)
 case atStart => exact ⟨0, by omega, rfl, hG, hsW, hBW2⟩
 case round =>
  obtain ⟨j, hj, rfl, hG, hst, hbl⟩ := hrel
  clear hsW hBW2
  by_cases hj4 : j < 4
  ·have hc := hG.cell (j := p + j) (by rw [hgl]; omega)
   have hf := hG.frozen (j := p + j) (by rw [hgl]; omega)
   have hS := hG.set (j := p + j) (by rw [hgl]; omega) (Go.bits .xor .u8 ((grb ys p b j).getD (p + j) 0) (b / 2 ^ (8 * j) % 256))
   have hgn : grb ys p b (j + 1) = (grb ys p b j).set (p + j) (Go.bits .xor .u8 ((grb ys p b j).getD (p + j) 0) (b / 2 ^ (8 * j) % 256)) := rfl
   rw [← hgn] at hS
   clear hgn
   generalize (grb ys p b j).getD (p + j) 0 = v at hc hS
   obtain ⟨m, hm⟩ : ∃ m : Nat, m = p + j := ⟨_, rfl⟩
   have hmi : (p : Int) + j = (m : Int) := by omega
   have hm5 : m < N := by omega
   have hmN : (m : Int) < N := by omega
   have hwm : IntKind.i64.wrap (m : Int) = (m : Int) := by rw [IntKind.wrap_i64]; omega
   have hwj : IntKind.i64.wrap (j : Int) = (j : Int) := by rw [IntKind.wrap_i64]; omega
   have hw8 : IntKind.i64.wrap (8 * (j : Int)) = 8 * (j : Int) := by rw [IntKind.wrap_i64]; omega
   rw [← hm] at hc hf hS
   clear hm
   have hgs : ∀ q, q = g → False ∨ wx.heap.size ≤ q := fun q hq => Or.inr (by omega)
   have hjs : j + 1 ≤ 4 := by omega
   have hms : 4 - (j + 1) < 4 - j := by omega
   have hc2 : wr.drew.cell? ⟨g, m, none⟩ = some (.int .u8 v) := hc
   clear h1 h2 h3 h4 hN5 hj hset hown hRx hbx0 hbx1 hbxx hBx y0 y1 y2 y3 p0 p1 p2 p3 hgw hXw hXl hsz
   go_wp2
   go_still_tail 13, (by kernel_rfl)
   change wpList _ _ _ _ _ wr.drew
   have hc3 : wr.drew.cell? ⟨g, m, none⟩ = some (.int .u8 v) := hc
   have hf3 : wr.drew.frozen? ⟨g, m, none⟩ = false := hf
   have hsd : Step (fun _ => False) wr wr.drew := Step.drew _ _
   have hS3 : GAt (wr.drew.setCell ⟨g, m, none⟩ (.int .u8 (Go.bits .xor .u8 v (b / 2 ^ (8 * j) % 256)))) g (grb ys p b (j + 1)) := hS
   generalize wr.drew = w2 at hc3 hf3 hsd hS3 ⊢
   have hs : Step (fun q => q = g) wr (w2.setCell ⟨g, m, none⟩ (.int .u8 (Go.bits .xor .u8 v (b / 2 ^ (8 * j) % 256)))) := hsd.trans (Step.setCell w2 (p := ⟨g, m, none⟩) (S := fun q => q = g) rfl _) (fun _ h => h.elim) (fun _ h => Or.inl h)
   have hbn := hbl.trans (hs.below hbl.size (fun q hq => hq ▸ hgw0))
   have hsn : Step (fun _ => False) wx _ := hst.trans hs (fun _ h => h) hgs
   go_wp2
   go_roundw
   case rel => exact ⟨j + 1, hjs, by simp, hS3, hsn, hbn⟩
   case measure => simp [intOf]; omega
  ·have ej : j = 4 := by omega
   subst ej
   have hl4 := hgl 4
   have hcvt := run_convert_bytes_arg (P := Tryd.prog) wr 95 5 Tryd.underlying95 (by kernel_rfl) g 0 N cap (grb ys p b 4) (hl4.trans hN5.symm) (fun j hj => by rw [Nat.zero_add]; exact hG.cell (by omega)) 9 Tryd.underlying9
   generalize hz : strOfNums (grb ys p b 4) = z at hcvt hXT
   subst hXT
   have hse := hset z
   have hxx := hst.block hbxx (fun h => h)
   have hxz := blk_set hxx 0 (.string z)
   obtain ⟨⟨y0, y1, y2, y3⟩, p0, p1, p2, p3⟩ := blk4 hxx
   obtain ⟨⟨b0, b1, b2, b3⟩, _⟩ := blk4 (hst.block hbx0 (fun h => h))
   have hz1 : (wr.setCell ⟨X, 0, none⟩ (.string z)).heap[w.heap.size + 1]? = _ := blk_far (hst.block hbx1 (fun h => h)) (p := ⟨X, 0, none⟩) (by show w.heap.size + 1 ≠ X; omega) _
   have hRz := (hRx.step hst (fun _ _ h => h)).step (Step.setCell wr (p := ⟨X, 0, none⟩) (S := fun q => q = X) rfl (.string z)) (fun q hq e => by have := hown q hq; omega)
   have hBz : Below w.heap.size w (wr.setCell ⟨X, 0, none⟩ (.string z)) := hbl.setCell (p := ⟨X, 0, none⟩) hXw _
   have hWi := ref_with (wr.setCell ⟨X, 0, none⟩ (.string z)) _ xs (xs.set at_.toNat z) F F B B off left nw at_ ⟨z, x.f1, x.f2, x.f3⟩ hRz h1 h2 k2 hse
   have hXne : X ≠ w.heap.size := by omega
   clear hN5 hse hset hG hst hbl hRx hbx0 hbx1 hbxx hxx hxz hRz hgl hyl hl4 hBx
   go_wp2_with (go_at_call 127; refine hWi.mono ?_)
   rintro e w3 v' rfl hR3 hb4
   have hb4 : Below (wr.setCell ⟨X, 0, none⟩ (.string z)).heap.size (wr.setCell ⟨X, 0, none⟩ (.string z)) w3 := by simpa using hb4
   obtain ⟨A3, c3, rfl, _⟩ := hR3.reads
   have hz3 := Stepb hb4 hz1
   have hB3 := hBz.trans (hb4.mono hBz.size)
   rw [List.length_set] at *
   clear hWi hz1 hb4 hBz hcvt
   obtain ⟨⟨d10, d11, d12, d13⟩, g10, g11, g12, g13⟩ := blk4 hz3
   go_wp2
   refine bodyPost_ret (results_ct rfl _ _ (w.heap.size + 1) 71 _ (0, 0) _ rfl (put4 hz3 _ _ _ _) Tryd.underlying71 rfl (by kernel_rfl)) rfl ?_
   exact ⟨_, rfl, ref_put4 hR3 hz3 _ _ _ _, below_put4 hB3 (by omega) _ _ _ _⟩
theorem str_bytes (l : List ByteArray) : strOfNums (l.flatMap bytesOf) = catS l := by
 apply ByteArray.ext
 unfold strOfNums catS bytesOf
 apply Array.ext'
 simp [List.map_flatMap, Function.comp_def]
theorem bytes_str (l : List Int) (h : ∀ x ∈ l, 0 ≤ x ∧ x < 256) : bytesOf (strOfNums l) = l := by
 unfold strOfNums bytesOf
 apply List.ext_getElem
 ·simp
 ·intro i h1 h2
  have := h l[i] (List.getElem_mem _)
  simp
  omega
def accB (xs : List ByteArray) (B : BL) (k : Nat) : List Int := ((outS xs B).take k).flatMap bytesOf
theorem accB_succ (xs : List ByteArray) (F : FL) (B : BL) (k : Nat) (hk : k < (refS xs F B).length) :
  accB xs B (k + 1) = accB xs B k ++ if ((refS xs F B)[k]).f3 = true then List.replicate 512 0 else bytesOf ((refS xs F B)[k]).f0 := by
 have hk2 : k < xs.length := by rwa [refS_len] at hk
 have hk3 : k < (outS xs B).length := by rw [outS_len]; exact hk2
 unfold accB
 rw [List.take_succ_eq_append_getElem hk3, List.flatMap_append, List.flatMap_singleton, outS_at xs B k hk2 hk3, refS_at]
 congr 1
 have e : xs[k]?.getD ⟨#[]⟩ = xs[k] := by rw [List.getElem?_eq_getElem hk2]; rfl
 cases hg : getL (k : Int) B with
 | none => simp [e]
 | some b =>
  cases b
  ·simp [e]
  ·simp only [Option.getD_some, if_true]
   exact bytes_str _ (fun x hx => by rw [List.eq_of_mem_replicate hx]; omega)
theorem accB_len (xs : List ByteArray) (B : BL) (h : ∀ x ∈ xs, x.size = 512) (k : Nat) : (accB xs B k).length ≤ 512 * k := by
 have : ∀ l : List ByteArray, (∀ x ∈ l, x.size = 512) → (l.flatMap bytesOf).length = 512 * l.length := by
  intro l hl
  induction l with
  | nil => rfl
  | cons x l ih =>
   rw [List.flatMap_cons, List.length_append, ih (fun y hy => hl y (List.mem_cons_of_mem _ hy)), bytesOf_length, hl x List.mem_cons_self, List.length_cons]
   omega
 unfold accB
 rw [this _ (fun x hx => ?_), List.length_take]
 ·exact Nat.mul_le_mul_left _ (Nat.min_le_left _ _)
 ·have hx := List.mem_of_mem_take hx
  unfold outS at hx
  obtain ⟨j, hj, rfl⟩ := List.mem_map.1 hx
  rw [List.mem_range] at hj
  split
  ·exact zeroS_size
  ·rw [List.getD_eq_getElem?_getD, List.getElem?_eq_getElem hj]
   exact h _ (List.getElem_mem _)
theorem append_512 {ops : Array Oper} {rest : List Oper} {o : Oper} {a : Act} {Q : Exit → Act → World → Prop} {w0 W : World} (hgd : o.guard = none) (s x : Operand) (ho : o.op = .call { callee := .builtin .append, args := #[s, x], argTypes := #[95, 3] }) (v : Value) (xs ys : List Int) (hs : a.eval s = v) (hx : a.eval x = .int .i64 512) (HO : Kd.R (Kd.int .u8) 5 W w0.heap.size (fun _ => True) v xs) (HB : Below w0.heap.size w0 W) (hl : xs.length ≤ 1000000000) (hy : ys = xs ++ List.replicate 512 0)
  (h : ∀ v1 w1, Kd.R (Kd.int .u8) 5 w1 w0.heap.size (fun _ => True) v1 ys → Below w0.heap.size w0 w1 → wpList Tryd.prog ops Q rest (a.put o.dst v1) w1) : wpList Tryd.prog ops Q (o :: rest) a W := by
 refine Kd.R_append_zeros (Kd.int .u8) (w0 := w0) w0.heap.size hgd s x 95 3 5 (.int .u8 0) 1 ho Tryd.underlying95 Tryd.underlying3 info5 rfl (by decide) (by decide) v xs 0 (kx := .i64) 512 (fun _ => True) hs hx rfl (fun _ _ => trivial) HO (by decide) HB HB.size (by show (xs.length + 512) * 1 ≤ _; omega) ?_
 intro v1 w1 hR hB _ _
 rw [show (512 : Int).toNat = 512 from rfl, ← hy] at hR
 exact h v1 w1 hR hB
set_option maxRecDepth 100000 in
set_option maxHeartbeats 4000000 in
theorem ref_Bytes (w : World) (v : Value) (xs : List ByteArray) (F : FL) (B : BL) (off : Bool) (left nw : Int) (h : RefAt w v xs F B) (hok : DevOk xs F B left) :
  Calls Tryd.prog 41 #[.agg #[v, .bool off, .int .i64 left, .int .i64 nw]] w fun e w' => e = .returned (.string (catS (outS xs B))) ∧ Below w.heap.size w w' := by
 obtain ⟨A, c, rfl, hc, hC⟩ := h.reads
 obtain ⟨k1, k2, hx512, _⟩ := hok
 have hbn := World.alloc_heap_new w (.cells #[.slice A xs.length c, .bool off, .int .i64 left, .int .i64 nw] 71)
 have hB0 : Below w.heap.size w (w.alloc (.cells #[.slice A xs.length c, .bool off, .int .i64 left, .int .i64 nw] 71)) := (Below.refl _ w).alloc (Nat.le_refl _) _
 go_enter Tryd.func41, Tryd.ntmps41
 go_wp2_with fail
 go_loopw [3, 9] (fun t3 t9 wr => ∃ k, k ≤ xs.length ∧ t9 = .int .i64 k ∧ Kd.R (Kd.int .u8) 5 wr w.heap.size (fun _ => True) t3 (accB xs B k) ∧ Below w.heap.size w wr) (fun _ t9 _ => xs.length - (intOf t9).toNat)
 case atStart => exact ⟨0, Nat.zero_le _, rfl, Kd.R_nil _ _ _ _ _, hB0⟩
 case round =>
  obtain ⟨k, hk, rfl, hR, hB⟩ := hrel
  clear hbn hB0
  by_cases hlt : k < xs.length
  ·have hk2 : k < (refS xs F B).length := by rw [refS_len]; exact hlt
   have hacc := (accB_succ xs F B k hk2).symm
   have hal := accB_len xs B hx512 k
   obtain ⟨ad, eA, x0, x1, x2, x3⟩ := at_T146 (Kd.C_below hC hB) (k : Int) (by omega) (by omega)
   subst eA
   have hrd : rd_T146 (refS xs F B) (k : Int) = (refS xs F B)[k] := by simp [rd_T146, List.getD, hk2]
   rw [hrd] at x0 x1 x2 x3
   have hf512 : ((refS xs F B)[k]).f0.size = 512 := by rw [refS_at]; rw [List.getD_eq_getElem?_getD, List.getElem?_eq_getElem hlt]; exact hx512 _ (List.getElem_mem _)
   generalize (refS xs F B)[k] = x at hacc x0 x1 x2 x3 hf512
   simp only [Int.toNat_natCast] at x0 x1 x2 x3
   have hk0 : (0 : Int) ≤ (k : Int) := by omega
   have hk1 : (k : Int) < (xs.length : Int) := by omega
   have d1 : decide ((k : Int) < (xs.length : Int)) = true := decide_eq_true hk1
   clear hrd hC h
   have hbx : Below wr.heap.size wr (wr.alloc (.cells #[.string x.f0, .string x.f1, .bool x.f2, .bool x.f3] 146)) := (Below.refl _ wr).alloc (Nat.le_refl _) _
   have hRa := Kd.R_below hR hbx
   have hBa := hB.trans (hbx.mono hB.size)
   cases hbad : x.f3
   ·rw [hbad] at x3 hRa hBa
    rw [if_neg (by rw [hbad]; decide)] at hacc
    obtain ⟨A3, c3, rfl⟩ := Kd.R_slice hR
    go_wp2_with (at_builtin; refine print_append_str (w0 := w) w.heap.size rfl (.tmp 17) _ 95 9 5 rfl Tryd.underlying95 Tryd.underlying9 info5 _ (accB xs B k) x.f0 rfl rfl (Kd.own_of_R hRa) hBa hBa.size (by omega) ?_)
    intro v1 w2 hR2 hB2 _
    try rw [hacc] at hR2
    clear hacc
    go_wp2
    exact ⟨⟨k + 1, by omega, by simp, Kd.R_of_own hR2 (fun _ _ => trivial), hB2⟩, by simp [intOf]; omega⟩
   ·rw [hbad] at x3 hRa hBa
    rw [if_pos hbad] at hacc
    obtain ⟨A3, c3, rfl⟩ := Kd.R_slice hR
    go_wp2_with (at_builtin; refine append_512 (w0 := w) rfl (.tmp 15) (.const (.int .i64 512)) rfl _ (accB xs B k) (accB xs B (k + 1)) rfl rfl hRa hBa (by omega) hacc.symm ?_)
    intro v1 w2 hR2 hB2
    clear hacc
    go_wp2
    exact ⟨⟨k + 1, by omega, by simp, hR2, hB2⟩, by simp [intOf]; omega⟩
  ·have ek : k = xs.length := by omega
   subst ek
   have hcv := own_string (P := Tryd.prog) (src := 95) (dst := 9) Tryd.underlying95 Tryd.underlying5 Tryd.underlying9 (Kd.own_of_R hR)
   have hfin : strOfNums (accB xs B xs.length) = catS (outS xs B) := by
    unfold accB
    rw [show xs.length = (outS xs B).length from (outS_len xs B).symm, List.take_length, str_bytes]
   rw [hfin] at hcv
   obtain ⟨A3, c3, rfl⟩ := Kd.R_slice hR
   go_wp2
   go_ret
   exact ⟨rfl, hB⟩
theorem wrapS {x : Int} (h0 : 0 ≤ x) (h1 : x < 9223372036854775808) : wrap64 x = x := by unfold wrap64; omega
theorem ref_Read (w : World) (v : Value) (xs : List ByteArray) (F : FL) (B : BL) (off : Bool) (left nw at_ : Int) (h : RefAt w v xs F B) :
  Calls Tryd.prog 95 #[.agg #[v, .bool off, .int .i64 left, .int .i64 nw], .int .i64 at_] w fun e w' => e = .returned (.tuple #[.string (readP xs F B off at_).1, .int .i64 (readP xs F B off at_).2]) ∧ Below w.heap.size w w' := by
 obtain ⟨A, c, rfl, hc, hC⟩ := h.reads
 have hh := caulkref05_Dev_Read.calls A c (refS xs F B) off left nw at_ (readP xs F B off at_).1 (readP xs F B off at_).2 w (by rw [refS_len]; exact hC) (by rw [refS_len]; exact hc) (by
  unfold caulkref05_Dev_Read.f
  cases off
  ·rw [if_neg (by decide)]
   unfold caulkref05_Dev_has.f
   rw [refS_len]
   by_cases h0 : 0 ≤ at_
   ·rw [if_pos h0]
    by_cases h1 : at_ < (xs.length : Int)
    ·have hr : reachP xs.length false at_ = 0 := by simp [reachP, h0, h1]
     rw [decide_eq_true h1, Option.bind_some, if_pos rfl, if_pos h0, if_pos h1, rd_refS xs F B at_ h0 h1]
     rw [show readP xs F B false at_ = (match getL at_ F with | some s => (s, 0) | none => match getL at_ B with | some true => (⟨#[]⟩, 9) | _ => (xs.getD at_.toNat ⟨#[]⟩, 0)) by unfold readP; rw [hr]; rfl]
     cases hg : getL at_ F with
     | some s => rfl
     | none =>
      cases hb : getL at_ B with
      | none => rfl
      | some b => cases b <;> rfl
    ·have hr : reachP xs.length false at_ = 1 := by simp [reachP, h1]
     rw [decide_eq_false h1]
     rw [show readP xs F B false at_ = (⟨#[]⟩, 1) by unfold readP; rw [hr]; rfl]
     rfl
   ·have hr : reachP xs.length false at_ = 1 := by simp [reachP, h0]
    rw [if_neg h0]
    rw [show readP xs F B false at_ = (⟨#[]⟩, 1) by unfold readP; rw [hr]; rfl]
    rfl
  ·rw [if_pos rfl]
   rfl)
 rw [refS_len] at hh
 exact hh
theorem new_run (n : Nat) (z : ByteArray) (hn : n ≤ 32768) : ∀ (d i k : Nat), i + d = n → d < k → caulkref05_New.l0 k (n : Int) z (i : Int) (List.replicate i ⟨z, ⟨#[]⟩, false, false⟩) false (-1) 0 = some (List.replicate n ⟨z, ⟨#[]⟩, false, false⟩, false, -1, 0, true)
 | 0, i, k, h, hk => by
  obtain ⟨k, rfl⟩ : ∃ m, k = m + 1 := ⟨k - 1, by omega⟩
  rw [caulkref05_New.l0, if_neg (by omega), show i = n by omega]
 | d + 1, i, k, h, hk => by
  obtain ⟨k, rfl⟩ : ∃ m, k = m + 1 := ⟨k - 1, by omega⟩
  have ih := new_run n z hn d (i + 1) k (by omega) (by omega)
  rw [List.replicate_succ'] at ih
  rw [caulkref05_New.l0, if_pos (by omega), if_pos (by rw [List.length_replicate]; omega), wrapS (by omega) (by omega)]
  exact ih
theorem refS_new (n : Nat) : List.replicate n ⟨zeroS, ⟨#[]⟩, false, false⟩ = refS (List.replicate n zeroS) [] [] := by
 apply refS_ext (by rw [List.length_replicate, List.length_replicate])
 intro k hk
 rw [List.length_replicate] at hk
 rw [List.getElem_replicate, List.getD_eq_getElem?_getD, List.getElem?_replicate, if_pos hk]
 rfl
theorem ref_New (w : World) (n : Int) (h1 : 1 ≤ n) (h2 : n ≤ 32768) :
  Calls Tryd.prog 32 #[.int .i64 n] w fun e w' => ∃ v', e = .returned (.tuple #[.agg #[v', .bool false, .int .i64 (-1), .int .i64 0], .bool true]) ∧ RefAt w' v' (List.replicate n.toNat zeroS) [] [] ∧ Below w.heap.size w w' := by
 refine (caulkref05_New.calls (n.toNat + 2) n (refS (List.replicate n.toNat zeroS) [] []) false (-1) 0 true w ?_).mono ?_
 ·unfold caulkref05_New.f
  rw [if_neg (by omega), caulkref05_New.j0, decide_eq_false (by omega : ¬ n > 32768), if_neg (by decide), if_pos (by decide)]
  have := new_run n.toNat zeroS (by omega) n.toNat 0 (n.toNat + 1) (by omega) (by omega)
  rw [show ((n.toNat : Nat) : Int) = n by omega, refS_new n.toNat] at this
  exact this
 ·rintro e w' ⟨v, rfl, hR, hb⟩
  exact ⟨v, rfl, Kd.R_lower hR (Nat.zero_le _), hb⟩
end
end Go.Proofs.YtmmfplogkikbjaaDoor.HSF
