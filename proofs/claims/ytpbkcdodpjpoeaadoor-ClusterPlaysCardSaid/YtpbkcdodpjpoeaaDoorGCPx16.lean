/- WRITTEN BY wip/hyb.py, a program of this workplace (out of the kit's printer and this workplace's own contracts). -/
import Derived.Test.YtpbkcdodpjpoeaaDoorGCPx0
import Derived.Test.YtpbkcdodpjpoeaaDoorGCPx2
import Derived.Test.YtpbkcdodpjpoeaaDoorGCPx4
import Derived.Test.YtpbkcdodpjpoeaaDoorGCPx5
import Derived.Test.YtpbkcdodpjpoeaaDoorGCPx6
import Derived.Test.YtpbkcdodpjpoeaaDoorGCPx12
import Derived.Test.YtpbkcdodpjpoeaaDoorGCPx14
import Derived.Test.YtpbkcdodpjpoeaaDoorGCPx15
namespace Go.Proofs.YtpbkcdodpjpoeaaDoor.HCP
open Go.RowKit Go.Proofs.YtpbkcdodpjpoeaaDoorW.PrintWords Go.Proofs.YtpbkcdodpjpoeaaDoorW.PrintLast Go.Proofs.YtpbkcdodpjpoeaaDoorW.PrintMore
attribute [local go_sem] max2_int min2_int max_two min_two max_three min_three max_four min_four   -- for this text's walks alone
set_option linter.unusedVariables false
set_option linter.unusedSimpArgs false

section
open Go Go.Shelf Go.Maps Go.Proofs.YtpbkcdodpjpoeaaDoor.Seq Go.Proofs.YtpbkcdodpjpoeaaDoor.MapL Go.Proofs.YtpbkcdodpjpoeaaDoorW.PrintLast
attribute [local go_sem] Oper.semAt_some max2_int min2_int max_two min_two
theorem shift_ {P : Program} {ops : Array Oper} {Q : Exit → Act → World → Prop} {md : Region.Mode} {S S' : World → Prop} {ds : List Nat} (hA : ∀ w, S' w → S w) : ∀ (fuel : Nat) {l : Array Bool} {a : Act} {w : World}, S' w → wpAnyLast P md ops Q S' [] fuel l a w → wpAnyLast P md ops Q S ds fuel l a w
 | 0, _, _, _, _, h => h
 | fuel + 1, _, _, _, h0, h => ⟨h.1, fun i hi => wpOp_mono (fun a' w' h' => ⟨fun _ _ => hA _ (h'.1 (by simp) h0), shift_ hA fuel (h'.1 (by simp) h0) h'.2⟩) (h.2 i hi)⟩
theorem u32_bounds {b : Int} (h : (Lit.int .u32 b).wf = true) : 0 ≤ b ∧ b < 4294967296 := by
 have := bounds_u32 h
 omega
structure PlS (w wr : World) (T : Nat) (g0 g1 g2 g3 : Int) (i : DevIds) (A : Option Addr) (c : Nat) (xs : List ByteArray) (F : FL) (B : BL) (off : Bool) (fuse nw : Int) : Prop where
 dev : DevAt wr i xs F B off fuse nw
 ref : RefAt wr (.slice A xs.length c) xs F B
 bx : wr.heap[T]? = some (.cells #[.pointer (some ⟨i.d, 0, none⟩), .slice A xs.length c, .bool off, .int .i64 fuse, .int .i64 nw] 46 (0, 0))
 geo : wr.heap[w.heap.size]? = some (.cells #[.int .i64 g0, .int .i64 g1, .int .i64 g2, .int .i64 g3] 23 (0, 0))
 tab : TabAt wr
 bl : Below w.heap.size w wr
 lo : ∀ k, i.In k → w.heap.size + 1 ≤ k
 tl : w.heap.size + 1 ≤ T
section
variable {w wr w' : World} {T : Nat} {g0 g1 g2 g3 : Int} {i : DevIds} {A : Option Addr} {c : Nat} {xs : List ByteArray} {F : FL} {B : BL} {off : Bool} {fuse nw : Int}
theorem PlS.below (h : PlS w wr T g0 g1 g2 g3 i A c xs F B off fuse nw) (hb : Below wr.heap.size wr w') : PlS w w' T g0 g1 g2 g3 i A c xs F B off fuse nw :=
 ⟨h.dev.below hb, h.ref.below hb, Stepb hb h.bx, Stepb hb h.geo, h.tab.below hb, h.bl.trans (hb.mono h.bl.size), h.lo, h.tl⟩
theorem PlS.next (h : PlS w wr T g0 g1 g2 g3 i A c xs F B off fuse nw) {A' : Option Addr} {c' : Nat} {xs' : List ByteArray} {F' : FL} {B' : BL} {off' : Bool} {fuse' nw' : Int} (hl : xs'.length = xs.length) (hD : DevAt w' i xs' F' B' off' fuse' nw') (hR : RefAt w' (.slice A' xs.length c') xs' F' B')
  (hx : w'.heap[T]? = some (.cells #[.pointer (some ⟨i.d, 0, none⟩), .slice A' xs.length c', .bool off', .int .i64 fuse', .int .i64 nw'] 46 (0, 0))) (hs : Step (fun k => i.In k ∨ k = T) wr w') :
  PlS w w' T g0 g1 g2 g3 i A' c' xs' F' B' off' fuse' nw' := by
 rw [← hl] at hR hx
 have hlo := h.lo
 have htl := h.tl
 refine ⟨hD, hR, hx, hs.block h.geo (fun e => ?_), h.tab.step hs (fun e => ?_), h.bl.trans (hs.below h.bl.size (fun k hk => ?_)), hlo, htl⟩
 ·rcases e with e | e
  ·have := hlo _ e; omega
  ·omega
 ·rcases e with e | e
  ·have := hlo _ e; omega
  ·omega
 ·rcases hk with hk | hk
  ·have := hlo _ hk; omega
  ·omega
end
def caulklaw08_ClusterPlays.Pure : Prop := True
set_option maxRecDepth 100000 in
set_option maxHeartbeats 16000000 in
theorem caulklaw08_ClusterPlays.walk (P : caulklaw08_ClusterPlays.Pure) (a0_0 a0_1 a0_2 a0_3 a1 : Int) (A2 : Option Addr) (c2 : Nat) (l2 : List S48) (w : World) (hT : TabAt w) (hr2 : Kd.C k48 w A2 l2.length l2) (hc2 : l2.length ≤ c2) (hw2 : (l2.length ≤ maxLen ∧ l2.length * 48 ≤ 140737488351232 ∧ ∀ z0 ∈ l2, wf48 z0)) :
  Calls Tryd.prog 4 #[.agg #[.int .i64 a0_0, .int .i64 a0_1, .int .i64 a0_2, .int .i64 a0_3], .int .i64 a1, .slice A2 l2.length c2] w fun e w' => e = .returned (.bool true) ∧ Below w.heap.size w w' := by
 have hu23 := Tryd.underlying23
 have hu41 := Tryd.underlying41
 have hb0 : Below w.heap.size w (w.alloc (.cells #[.int .i64 a0_0, .int .i64 a0_1, .int .i64 a0_2, .int .i64 a0_3] 23)) := (Below.refl _ w).alloc (Nat.le_refl _) _
 have hg0 := World.alloc_heap_new w (.cells #[.int .i64 a0_0, .int .i64 a0_1, .int .i64 a0_2, .int .i64 a0_3] 23)
 have hsz0 : w.heap.size + 1 ≤ (w.alloc (.cells #[.int .i64 a0_0, .int .i64 a0_1, .int .i64 a0_2, .int .i64 a0_3] 23)).heap.size := by simp
 have hL := lives_any (w.alloc (.cells #[.int .i64 a0_0, .int .i64 a0_1, .int .i64 a0_2, .int .i64 a0_3] 23)) (hT.below hb0) (by simp)
 go_enter Tryd.func4, Tryd.ntmps4
 go_wp2_with (go_at_call 5; with_reducible refine hL.mono ?_)
 rintro e w1 ⟨rfl, hs1⟩
 clear hL
 have hb1 : Below (w.alloc (.cells #[.int .i64 a0_0, .int .i64 a0_1, .int .i64 a0_2, .int .i64 a0_3] 23)).heap.size (w.alloc (.cells #[.int .i64 a0_0, .int .i64 a0_1, .int .i64 a0_2, .int .i64 a0_3] 23)) w1 := hs1.below (Nat.le_refl _) (fun _ h => h.elim)
 clear hs1
 generalize hW0 : w.alloc (.cells #[.int .i64 a0_0, .int .i64 a0_1, .int .i64 a0_2, .int .i64 a0_3] 23) = W0 at hb0 hg0 hsz0 hb1
 clear hW0
 have hB1 := hb0.trans (hb1.mono hb0.size)
 have hg1 := Stepb hb1 hg0
 have hz1 := Nat.le_trans hsz0 hb1.size
 clear hb0 hb1 hg0 hsz0
 by_cases g1 : a1 < 1
 ·have d1 : decide (a1 < 1) = true := decide_eq_true g1
  go_wp2
  go_ret
  exact ⟨rfl, hB1⟩
 have d1 : decide (a1 < 1) = false := decide_eq_false g1
 by_cases g2 : 128 < a1
 ·have d2 : decide (128 < a1) = true := decide_eq_true g2
  go_wp2
  go_ret
  exact ⟨rfl, hB1⟩
 have d2 : decide (128 < a1) = false := decide_eq_false g2
 by_cases g3 : 60 < l2.length
 ·have d3 : decide (60 < (l2.length : Int)) = true := decide_eq_true (by omega)
  go_wp2
  go_ret
  exact ⟨rfl, hB1⟩
 have d3 : decide (60 < (l2.length : Int)) = false := decide_eq_false (by omega)
 have hN := dev_New_any w1 a1 (by omega) (by omega)
 go_wp2_with (go_at_call 7; with_reducible refine hN.mono ?_)
 rintro e w2 ⟨i, rfl, hD0, hi0, hb2⟩
 have hN2 := ref_New w2 a1 (by omega) (by omega)
 go_wp2_with (go_at_call 13; with_reducible refine hN2.mono ?_)
 rintro e w3 ⟨v0, rfl, hR0, hb3⟩
 have hB2 := hB1.trans (hb2.mono hB1.size)
 have hB3 := hB2.trans (hb3.mono hB2.size)
 have hD3 := hD0.below hb3
 have hg3 := Stepb hb3 (Stepb hb2 hg1)
 have hz3 := Nat.le_trans hz1 (Nat.le_trans hb2.size hb3.size)
 generalize List.replicate a1.toNat zeroS = xs0 at hD3 hR0
 obtain ⟨A0, c0, rfl, _⟩ := hR0.reads
 have hlo : ∀ k, i.In k → w.heap.size + 1 ≤ k := fun k hk => Nat.le_trans hz1 (hi0 k hk)
 clear hN hN2 hb2 hb3 hD0 hi0 hB1 hB2 hg1 hz1
 go_upto_region 7 with (fail)
 have hb4 : Below w3.heap.size w3 (w3.alloc (.cells #[.slice A0 xs0.length c0, .bool false, .int .i64 (-1), .int .i64 0] 41)) := (Below.refl _ _).alloc (Nat.le_refl _) _
 have hy9 := World.alloc_heap_new w3 (.cells #[.slice A0 xs0.length c0, .bool false, .int .i64 (-1), .int .i64 0] 41)
 have hy8 := hz3
 replace hD3 := hD3.below hb4
 replace hR0 := hR0.below hb4
 replace hg3 := Stepb hb4 hg3
 replace hB3 := hB3.trans (hb4.mono hB3.size)
 replace hz3 := Nat.le_trans hz3 hb4.size
 clear hb4
 generalize w3.heap.size = g9 at hy9 hy8 ⊢
 generalize w3.alloc (.cells #[.slice A0 xs0.length c0, .bool false, .int .i64 (-1), .int .i64 0] 41) = W3 at hy9 hD3 hR0 hg3 hB3 hz3 ⊢
 obtain ⟨⟨y0, y1, y2, y3⟩, _⟩ := blk4 hy9
 go_wp2_with fail
 have hTn := World.alloc_heap_new W3 (.cells #[.pointer (some ⟨i.d, 0, none⟩), .slice A0 xs0.length c0, .bool false, .int .i64 (-1), .int .i64 0] 46)
 have hb4 : Below W3.heap.size W3 (W3.alloc (.cells #[.pointer (some ⟨i.d, 0, none⟩), .slice A0 xs0.length c0, .bool false, .int .i64 (-1), .int .i64 0] 46)) := (Below.refl _ _).alloc (Nat.le_refl _) _
 have hS : PlS w (W3.alloc (.cells #[.pointer (some ⟨i.d, 0, none⟩), .slice A0 xs0.length c0, .bool false, .int .i64 (-1), .int .i64 0] 46)) W3.heap.size a0_0 a0_1 a0_2 a0_3 i A0 c0 xs0 [] [] false (-1) 0 := ⟨hD3.below hb4, hR0.below hb4, hTn, Stepb hb4 hg3, (hT.below hB3).below hb4, hB3.trans (hb4.mono hB3.size), hlo, hz3⟩
 clear hTn hb4 hD3 hR0 hg3 hB3 hlo hz3 y0 y1 y2 y3 hy9 hy8
 generalize W3.alloc (.cells #[.pointer (some ⟨i.d, 0, none⟩), .slice A0 xs0.length c0, .bool false, .int .i64 (-1), .int .i64 0] 46) = W5 at hS ⊢
 generalize W3.heap.size = T at hS ⊢
 go_loopw [53] (fun t53 wr => ∃ (k : Nat) (A : Option Addr) (c : Nat) (xs : List ByteArray) (F : FL) (B : BL) (off : Bool) (fuse nw : Int), k ≤ l2.length ∧ t53 = .int .i64 k ∧ PlS w wr T a0_0 a0_1 a0_2 a0_3 i A c xs F B off fuse nw) (fun t53 _ => l2.length - (intOf t53).toNat)
 case atStart => exact ⟨0, A0, c0, xs0, _, _, _, _, _, Nat.zero_le _, rfl, hS⟩
 case round =>
  obtain ⟨k, A, c, xs, F, B, off, fuse, nw, hk, rfl, hS⟩ := hrel
  by_cases hlt : k < l2.length
  ·have hk1 : (k : Int) < (l2.length : Int) := by omega
   have hk0 : (0 : Int) ≤ (k : Int) := by omega
   have dk : decide ((k : Int) < (l2.length : Int)) = true := decide_eq_true hk1
   have hB := hS.bl
   obtain ⟨ad, ea, x0, x1, x2, x3, x4⟩ := at_T48 hr2 (k : Int) (by omega) (by omega)
   cases ea
   have hwf := hw2.2.2 _ (List.getElem_mem hlt)
   obtain ⟨x, hx⟩ : ∃ x, x = rd_T48 l2 (k : Int) := ⟨_, rfl⟩
   have hxd : l2[k] = x := by rw [hx]; simp [rd_T48, List.getD, hlt]
   rw [hxd] at hwf
   rw [← hx] at x0 x1 x2 x3 x4
   clear hx hxd
   replace x0 := (hB.cell (World.block_lt_of_cell? w _ x0)).trans x0
   replace x1 := (hB.cell (World.block_lt_of_cell? w _ x1)).trans x1
   replace x2 := (hB.cell (World.block_lt_of_cell? w _ x2)).trans x2
   replace x3 := (hB.cell (World.block_lt_of_cell? w _ x3)).trans x3
   replace x4 := (hB.cell (World.block_lt_of_cell? w _ x4)).trans x4
   simp only [Int.toNat_natCast] at x0 x1 x2 x3 x4
   obtain ⟨f0, f1, f2, f3, f4⟩ := hwf
   have hwn := f3
   have hby := u32_bounds f4
   clear f0 f1 f3 f4 hB
   by_cases htl : 131072 < x.f2.size
   ·have dt : decide (131072 < (x.f2.size : Int)) = true := decide_eq_true (by omega)
    go_wp2
    go_ret
    exact ⟨rfl, hS.bl.alloc hS.bl.size _⟩
   ·have dt : decide (131072 < (x.f2.size : Int)) = false := decide_eq_false (by omega)
    have htx : x.f2.size ≤ 1000000 := by omega
    go_upto_region 13 with (fail)
    have hba : Below wr.heap.size wr (wr.alloc (.cells #[.int .i64 x.f0, .int .i64 x.f1, .string x.f2, .int .i64 x.f3, .int .u32 x.f4] 48)) := (Below.refl _ _).alloc (Nat.le_refl _) _
    have hz13 := World.alloc_heap_new wr (.cells #[.int .i64 x.f0, .int .i64 x.f1, .string x.f2, .int .i64 x.f3, .int .u32 x.f4] 48)
    have hn13 : ¬ (i.In wr.heap.size ∨ wr.heap.size = T) := fun h => by
     rcases h with h | h
     ·have := hS.dev.lt _ h; omega
     ·have := blk_lt hS.bx; omega
    have hng : ¬ (i.In w.heap.size ∨ w.heap.size = T) := fun h => by
     rcases h with h | h
     ·have := hS.lo _ h; omega
     ·have := hS.tl; omega
    have hS3 := hS.below hba
    clear hba hS x0 x1 x2 x3 x4
    generalize wr.heap.size = g13 at hz13 hn13 ⊢
    generalize wr.alloc (.cells #[.int .i64 x.f0, .int .i64 x.f1, .string x.f2, .int .i64 x.f3, .int .u32 x.f4] 48) = W4 at hz13 hS3 ⊢
    obtain ⟨⟨z0, z1, z2, z3, z4⟩, _⟩ := blk5 hz13
    obtain ⟨⟨t0, t1, t2, t3, t4⟩, _⟩ := blk5 hS3.bx
    obtain ⟨⟨g0, g1, g2, g3⟩, _⟩ := blk4 hS3.geo
    go_wp2_with fail
    try simp only [List.append_eq, List.cons_append, List.nil_append]
    replace hS3 := hS3.below (below_drew1 (Below.refl W4.heap.size W4))
    clear t1 t2 t3 t4 hz13
    refine start_ (n := 31) (S := fun w' => w'.cell? ⟨w.heap.size, 0, none⟩ = some (.int .i64 a0_0) ∧ w'.cell? ⟨w.heap.size, 1, none⟩ = some (.int .i64 a0_1) ∧ w'.cell? ⟨w.heap.size, 2, none⟩ = some (.int .i64 a0_2) ∧ w'.cell? ⟨w.heap.size, 3, none⟩ = some (.int .i64 a0_3) ∧ w'.cell? ⟨g13, 0, none⟩ = some (.int .i64 x.f0) ∧ w'.cell? ⟨g13, 1, none⟩ = some (.int .i64 x.f1) ∧ w'.cell? ⟨g13, 2, none⟩ = some (.string x.f2) ∧ w'.cell? ⟨g13, 3, none⟩ = some (.int .i64 x.f3) ∧ w'.cell? ⟨g13, 4, none⟩ = some (.int .u32 x.f4) ∧ w'.cell? ⟨T, 0, none⟩ = some (.pointer (some ⟨i.d, 0, none⟩)) ∧ True ∧ True) (ds := []) #[false, false, false, false, false, false, false, false, false, false, false, false, false, false, false, false, false, false, false, false, false, false, false, false, false, false, false, false, false, false, false] (by kernel_rfl) rfl rfl ⟨g0, g1, g2, g3, z0, z1, z2, z3, z4, t0, trivial, trivial⟩ (fun hHeld => ?_)
    generalize W4.drew = w3 at hHeld hS3 ⊢
    refine pure_ (i := 0) (N := some 61) (v := ?_) (a' := ?_) #[true, false, false, false, false, false, false, false, false, false, false, false, false, false, false, false, false, false, false, false, false, false, false, false, false, false, false, false, false, false, false] rfl rfl (by kernel_rfl) (fun _ _ _ h => h) (Or.inl ⟨by rfl, ?_⟩) ?_ ?_
    rotate_left
    ·intro w'
     go_simp
     with_reducible rfl
    rotate_left
    ·simp only [Act.put, List.setIfInBounds_toArray, List.set_cons_zero, List.set_cons_succ, i64_w, i32_w]
     rfl
    refine take_ (i := 1) (N := some 62) (v := ?_) (a' := ?_) #[true, true, false, false, false, false, false, false, false, false, false, false, false, false, false, false, false, false, false, false, false, false, false, false, false, false, false, false, false, false, false] rfl rfl (by kernel_rfl) (fun _ _ _ h => h) (Or.inl ⟨by rfl, ?_⟩) hHeld ?_ ?_
    rotate_left
    ·rintro w' ⟨s0, s1, s2, s3, s4, s5, s6, s7, s8, s9, s10, s11⟩
     go_simp
     with_reducible rfl
    rotate_left
    ·simp only [Act.put, List.setIfInBounds_toArray, List.set_cons_zero, List.set_cons_succ, i64_w, i32_w]
     rfl
    refine take_ (i := 2) (N := some 63) (v := ?_) (a' := ?_) #[true, true, true, false, false, false, false, false, false, false, false, false, false, false, false, false, false, false, false, false, false, false, false, false, false, false, false, false, false, false, false] rfl rfl (by kernel_rfl) (fun _ _ _ h => h) (Or.inl ⟨by rfl, ?_⟩) hHeld ?_ ?_
    rotate_left
    ·rintro w' ⟨s0, s1, s2, s3, s4, s5, s6, s7, s8, s9, s10, s11⟩
     go_simp
     with_reducible rfl
    rotate_left
    ·simp only [Act.put, List.setIfInBounds_toArray, List.set_cons_zero, List.set_cons_succ, i64_w, i32_w]
     rfl
    refine one_ (i := 3) (N := some 64) #[true, true, true, true, false, false, false, false, false, false, false, false, false, false, false, false, false, false, false, false, false, false, false, false, false, false, false, false, false, false, false] rfl rfl (by kernel_rfl) (by decide) (fun K hK => ?_)
    refine goes_ Tryd.func14 (by kernel_rfl) rfl #[.pointer (some ⟨T, 0, none⟩), .agg #[.int .i64 a0_0, .int .i64 a0_1, .int .i64 a0_2, .int .i64 a0_3], .agg #[.int .i64 x.f0, .int .i64 x.f1, .string x.f2, .int .i64 x.f3, .int .u32 x.f4]] (by rfl) rfl rfl (by simp only [List.map_toArray, List.map_cons, List.map_nil]; rfl) ?_
    with_reducible refine (does_any _ T i A c xs F B off fuse nw a0_0 a0_1 a0_2 a0_3 x.f0 x.f1 x.f3 x.f4 x.f2 hS3.dev hS3.ref hS3.bx hS3.tab htx hwn hby.1 hby.2).mono ?_
    rintro e w3 ⟨A4, c4, xs4, F4, B4, off4, fuse4, nw4, rfl, hl4, hD4, hR4, hx4, hs4⟩
    refine ⟨_, rfl, ?_⟩
    have hS4 := hS3.next hl4 hD4 hR4 hx4 hs4
    obtain ⟨⟨v0, v1, v2, v3, v4⟩, _⟩ := blk5 hS4.bx
    refine hK.out _ _ ⟨hs4.cell hHeld.1 hng, hs4.cell hHeld.2.1 hng, hs4.cell hHeld.2.2.1 hng, hs4.cell hHeld.2.2.2.1 hng, hs4.cell hHeld.2.2.2.2.1 hn13, hs4.cell hHeld.2.2.2.2.2.1 hn13, hs4.cell hHeld.2.2.2.2.2.2.1 hn13, hs4.cell hHeld.2.2.2.2.2.2.2.1 hn13, hs4.cell hHeld.2.2.2.2.2.2.2.2.1 hn13, v0, trivial, trivial⟩ (fun hHeld => ?_)
    clear hK K
    refine shift_ (S' := fun w' => w'.cell? ⟨w.heap.size, 0, none⟩ = some (.int .i64 a0_0) ∧ w'.cell? ⟨w.heap.size, 1, none⟩ = some (.int .i64 a0_1) ∧ w'.cell? ⟨w.heap.size, 2, none⟩ = some (.int .i64 a0_2) ∧ w'.cell? ⟨w.heap.size, 3, none⟩ = some (.int .i64 a0_3) ∧ w'.cell? ⟨g13, 0, none⟩ = some (.int .i64 x.f0) ∧ w'.cell? ⟨g13, 1, none⟩ = some (.int .i64 x.f1) ∧ w'.cell? ⟨g13, 2, none⟩ = some (.string x.f2) ∧ w'.cell? ⟨g13, 3, none⟩ = some (.int .i64 x.f3) ∧ w'.cell? ⟨g13, 4, none⟩ = some (.int .u32 x.f4) ∧ w'.cell? ⟨T, 0, none⟩ = some (.pointer (some ⟨i.d, 0, none⟩)) ∧ w'.cell? ⟨T, 2, none⟩ = some (.bool off4) ∧ w'.cell? ⟨T, 4, none⟩ = some (.int .i64 nw4)) (fun w' h => ⟨h.1, h.2.1, h.2.2.1, h.2.2.2.1, h.2.2.2.2.1, h.2.2.2.2.2.1, h.2.2.2.2.2.2.1, h.2.2.2.2.2.2.2.1, h.2.2.2.2.2.2.2.2.1, h.2.2.2.2.2.2.2.2.2.1, trivial, trivial⟩) _ (⟨hHeld.1, hHeld.2.1, hHeld.2.2.1, hHeld.2.2.2.1, hHeld.2.2.2.2.1, hHeld.2.2.2.2.2.1, hHeld.2.2.2.2.2.2.1, hHeld.2.2.2.2.2.2.2.1, hHeld.2.2.2.2.2.2.2.2.1, hHeld.2.2.2.2.2.2.2.2.2.1, v2, v4⟩) ?_
    replace hHeld : w3.cell? ⟨w.heap.size, 0, none⟩ = some (.int .i64 a0_0) ∧ w3.cell? ⟨w.heap.size, 1, none⟩ = some (.int .i64 a0_1) ∧ w3.cell? ⟨w.heap.size, 2, none⟩ = some (.int .i64 a0_2) ∧ w3.cell? ⟨w.heap.size, 3, none⟩ = some (.int .i64 a0_3) ∧ w3.cell? ⟨g13, 0, none⟩ = some (.int .i64 x.f0) ∧ w3.cell? ⟨g13, 1, none⟩ = some (.int .i64 x.f1) ∧ w3.cell? ⟨g13, 2, none⟩ = some (.string x.f2) ∧ w3.cell? ⟨g13, 3, none⟩ = some (.int .i64 x.f3) ∧ w3.cell? ⟨g13, 4, none⟩ = some (.int .u32 x.f4) ∧ w3.cell? ⟨T, 0, none⟩ = some (.pointer (some ⟨i.d, 0, none⟩)) ∧ w3.cell? ⟨T, 2, none⟩ = some (.bool off4) ∧ w3.cell? ⟨T, 4, none⟩ = some (.int .i64 nw4) := ⟨hHeld.1, hHeld.2.1, hHeld.2.2.1, hHeld.2.2.2.1, hHeld.2.2.2.2.1, hHeld.2.2.2.2.2.1, hHeld.2.2.2.2.2.2.1, hHeld.2.2.2.2.2.2.2.1, hHeld.2.2.2.2.2.2.2.2.1, hHeld.2.2.2.2.2.2.2.2.2.1, v2, v4⟩
    refine norm_ (a' := ?_) ?_ ?_
    rotate_left
    ·show Act.put _ (some 64) _ = _
     simp only [Act.put, List.setIfInBounds_toArray, List.set_cons_zero, List.set_cons_succ, i64_w, i32_w]
     rfl
    refine pure_ (i := 4) (N := some 65) (v := ?_) (a' := ?_) #[true, true, true, true, true, false, false, false, false, false, false, false, false, false, false, false, false, false, false, false, false, false, false, false, false, false, false, false, false, false, false] rfl rfl (by kernel_rfl) (fun _ _ _ h => h) (Or.inl ⟨by rfl, ?_⟩) ?_ ?_
    rotate_left
    ·intro w'
     go_simp
     with_reducible rfl
    rotate_left
    ·simp only [Act.put, List.setIfInBounds_toArray, List.set_cons_zero, List.set_cons_succ, i64_w, i32_w]
     rfl
    refine pure_ (i := 5) (N := some 66) (v := ?_) (a' := ?_) #[true, true, true, true, true, true, false, false, false, false, false, false, false, false, false, false, false, false, false, false, false, false, false, false, false, false, false, false, false, false, false] rfl rfl (by kernel_rfl) (fun _ _ _ h => h) (Or.inl ⟨by rfl, ?_⟩) ?_ ?_
    rotate_left
    ·intro w'
     go_simp
     with_reducible rfl
    rotate_left
    ·simp only [Act.put, List.setIfInBounds_toArray, List.set_cons_zero, List.set_cons_succ, i64_w, i32_w]
     rfl
    refine pure_ (i := 6) (N := some 67) (v := ?_) (a' := ?_) #[true, true, true, true, true, true, true, false, false, false, false, false, false, false, false, false, false, false, false, false, false, false, false, false, false, false, false, false, false, false, false] rfl rfl (by kernel_rfl) (fun _ _ _ h => h) (Or.inl ⟨by rfl, ?_⟩) ?_ ?_
    rotate_left
    ·intro w'
     go_simp
     with_reducible rfl
    rotate_left
    ·simp only [Act.put, List.setIfInBounds_toArray, List.set_cons_zero, List.set_cons_succ, i64_w, i32_w]
     rfl
    refine pure_ (i := 7) (N := some 68) (v := ?_) (a' := ?_) #[true, true, true, true, true, true, true, true, false, false, false, false, false, false, false, false, false, false, false, false, false, false, false, false, false, false, false, false, false, false, false] rfl rfl (by kernel_rfl) (fun _ _ _ h => h) (Or.inl ⟨by rfl, ?_⟩) ?_ ?_
    rotate_left
    ·intro w'
     go_simp
     with_reducible rfl
    rotate_left
    ·simp only [Act.put, List.setIfInBounds_toArray, List.set_cons_zero, List.set_cons_succ, i64_w, i32_w]
     rfl
    refine pure_ (i := 8) (N := some 69) (v := ?_) (a' := ?_) #[true, true, true, true, true, true, true, true, true, false, false, false, false, false, false, false, false, false, false, false, false, false, false, false, false, false, false, false, false, false, false] rfl rfl (by kernel_rfl) (fun _ _ _ h => h) (Or.inl ⟨by rfl, ?_⟩) ?_ ?_
    rotate_left
    ·intro w'
     go_simp
     with_reducible rfl
    rotate_left
    ·simp only [Act.put, List.setIfInBounds_toArray, List.set_cons_zero, List.set_cons_succ, i64_w, i32_w]
     rfl
    refine pure_ (i := 11) (N := some 72) (v := ?_) (a' := ?_) #[true, true, true, true, true, true, true, true, true, false, false, true, false, false, false, false, false, false, false, false, false, false, false, false, false, false, false, false, false, false, false] rfl rfl (by kernel_rfl) (fun _ _ _ h => h) (Or.inl ⟨by rfl, ?_⟩) ?_ ?_
    rotate_left
    ·intro w'
     go_simp
     with_reducible rfl
    rotate_left
    ·simp only [Act.put, List.setIfInBounds_toArray, List.set_cons_zero, List.set_cons_succ, i64_w, i32_w]
     rfl
    refine pure_ (i := 12) (N := some 73) (v := ?_) (a' := ?_) #[true, true, true, true, true, true, true, true, true, false, false, true, true, false, false, false, false, false, false, false, false, false, false, false, false, false, false, false, false, false, false] rfl rfl (by kernel_rfl) (fun _ _ _ h => h) (Or.inl ⟨by rfl, ?_⟩) ?_ ?_
    rotate_left
    ·intro w'
     go_simp
     with_reducible rfl
    rotate_left
    ·simp only [Act.put, List.setIfInBounds_toArray, List.set_cons_zero, List.set_cons_succ, i64_w, i32_w]
     rfl
    refine pure_ (i := 13) (N := some 74) (v := ?_) (a' := ?_) #[true, true, true, true, true, true, true, true, true, false, false, true, true, true, false, false, false, false, false, false, false, false, false, false, false, false, false, false, false, false, false] rfl rfl (by kernel_rfl) (fun _ _ _ h => h) (Or.inl ⟨by rfl, ?_⟩) ?_ ?_
    rotate_left
    ·intro w'
     go_simp
     with_reducible rfl
    rotate_left
    ·simp only [Act.put, List.setIfInBounds_toArray, List.set_cons_zero, List.set_cons_succ, i64_w, i32_w]
     rfl
    refine pure_ (i := 14) (N := some 75) (v := ?_) (a' := ?_) #[true, true, true, true, true, true, true, true, true, false, false, true, true, true, true, false, false, false, false, false, false, false, false, false, false, false, false, false, false, false, false] rfl rfl (by kernel_rfl) (fun _ _ _ h => h) (Or.inl ⟨by rfl, ?_⟩) ?_ ?_
    rotate_left
    ·intro w'
     go_simp
     with_reducible rfl
    rotate_left
    ·simp only [Act.put, List.setIfInBounds_toArray, List.set_cons_zero, List.set_cons_succ, i64_w, i32_w]
     rfl
    refine take_ (i := 9) (N := some 70) (v := ?_) (a' := ?_) #[true, true, true, true, true, true, true, true, true, true, false, true, true, true, true, false, false, false, false, false, false, false, false, false, false, false, false, false, false, false, false] rfl rfl (by kernel_rfl) (fun _ _ _ h => h) (Or.inl ⟨by rfl, ?_⟩) hHeld ?_ ?_
    rotate_left
    ·rintro w' ⟨s0, s1, s2, s3, s4, s5, s6, s7, s8, s9, s10, s11⟩
     go_simp
     with_reducible rfl
    rotate_left
    ·simp only [Act.put, List.setIfInBounds_toArray, List.set_cons_zero, List.set_cons_succ, i64_w, i32_w]
     rfl
    refine take_ (i := 15) (N := some 76) (v := ?_) (a' := ?_) #[true, true, true, true, true, true, true, true, true, true, false, true, true, true, true, true, false, false, false, false, false, false, false, false, false, false, false, false, false, false, false] rfl rfl (by kernel_rfl) (fun _ _ _ h => h) (Or.inl ⟨by rfl, ?_⟩) hHeld ?_ ?_
    rotate_left
    ·rintro w' ⟨s0, s1, s2, s3, s4, s5, s6, s7, s8, s9, s10, s11⟩
     go_simp
     with_reducible rfl
    rotate_left
    ·simp only [Act.put, List.setIfInBounds_toArray, List.set_cons_zero, List.set_cons_succ, i64_w, i32_w]
     rfl
    refine one_ (i := 10) (N := some 71) #[true, true, true, true, true, true, true, true, true, true, true, true, true, true, true, true, false, false, false, false, false, false, false, false, false, false, false, false, false, false, false] rfl rfl (by kernel_rfl) (by decide) (fun K hK => ?_)
    refine goes_ Tryd.func15 (by kernel_rfl) rfl #[.pointer (some ⟨i.d, 0, none⟩)] (by rfl) rfl rfl (by simp only [List.map_toArray, List.map_cons, List.map_nil]; rfl) ?_
    with_reducible refine (dev_Down_any _ i _ _ _ _ _ _ hS4.dev).mono ?_
    rintro e w4 ⟨rfl, rfl⟩
    refine ⟨_, rfl, ?_⟩
    refine hK.out _ _ ⟨hHeld.1, hHeld.2.1, hHeld.2.2.1, hHeld.2.2.2.1, hHeld.2.2.2.2.1, hHeld.2.2.2.2.2.1, hHeld.2.2.2.2.2.2.1, hHeld.2.2.2.2.2.2.2.1, hHeld.2.2.2.2.2.2.2.2.1, hHeld.2.2.2.2.2.2.2.2.2.1, hHeld.2.2.2.2.2.2.2.2.2.2.1, hHeld.2.2.2.2.2.2.2.2.2.2.2⟩ (fun hHeld => ?_)
    clear hK K
    refine norm_ (a' := ?_) ?_ ?_
    rotate_left
    ·show Act.put _ (some 71) _ = _
     simp only [Act.put, List.setIfInBounds_toArray, List.set_cons_zero, List.set_cons_succ, i64_w, i32_w]
     rfl
    refine pure_ (i := 16) (N := some 77) (v := ?_) (a' := ?_) #[true, true, true, true, true, true, true, true, true, true, true, true, true, true, true, true, true, false, false, false, false, false, false, false, false, false, false, false, false, false, false] rfl rfl (by kernel_rfl) (fun _ _ _ h => h) (Or.inl ⟨by rfl, ?_⟩) ?_ ?_
    rotate_left
    ·intro w'
     go_simp
     with_reducible rfl
    rotate_left
    ·simp only [Act.put, List.setIfInBounds_toArray, List.set_cons_zero, List.set_cons_succ, i64_w, i32_w]
     rfl
    refine pure_ (i := 17) (N := some 78) (v := ?_) (a' := ?_) #[true, true, true, true, true, true, true, true, true, true, true, true, true, true, true, true, true, true, false, false, false, false, false, false, false, false, false, false, false, false, false] rfl rfl (by kernel_rfl) (fun _ _ _ h => h) (Or.inl ⟨by rfl, ?_⟩) ?_ ?_
    rotate_left
    ·intro w'
     go_simp
     with_reducible rfl
    rotate_left
    ·simp only [Act.put, List.setIfInBounds_toArray, List.set_cons_zero, List.set_cons_succ, i64_w, i32_w]
     rfl
    refine pure_ (i := 18) (N := some 79) (v := ?_) (a' := ?_) #[true, true, true, true, true, true, true, true, true, true, true, true, true, true, true, true, true, true, true, false, false, false, false, false, false, false, false, false, false, false, false] rfl rfl (by kernel_rfl) (fun _ _ _ h => h) (Or.inl ⟨by rfl, ?_⟩) ?_ ?_
    rotate_left
    ·intro w'
     go_simp
     with_reducible rfl
    rotate_left
    ·simp only [Act.put, List.setIfInBounds_toArray, List.set_cons_zero, List.set_cons_succ, i64_w, i32_w]
     rfl
    refine pure_ (i := 19) (N := some 80) (v := ?_) (a' := ?_) #[true, true, true, true, true, true, true, true, true, true, true, true, true, true, true, true, true, true, true, true, false, false, false, false, false, false, false, false, false, false, false] rfl rfl (by kernel_rfl) (fun _ _ _ h => h) (Or.inl ⟨by rfl, ?_⟩) ?_ ?_
    rotate_left
    ·intro w'
     go_simp
     with_reducible rfl
    rotate_left
    ·simp only [Act.put, List.setIfInBounds_toArray, List.set_cons_zero, List.set_cons_succ, i64_w, i32_w]
     rfl
    refine pure_ (i := 20) (N := some 81) (v := ?_) (a' := ?_) #[true, true, true, true, true, true, true, true, true, true, true, true, true, true, true, true, true, true, true, true, true, false, false, false, false, false, false, false, false, false, false] rfl rfl (by kernel_rfl) (fun _ _ _ h => h) (Or.inl ⟨by rfl, ?_⟩) ?_ ?_
    rotate_left
    ·intro w'
     go_simp
     with_reducible rfl
    rotate_left
    ·simp only [Act.put, List.setIfInBounds_toArray, List.set_cons_zero, List.set_cons_succ, i64_w, i32_w]
     rfl
    refine pure_ (i := 21) (N := some 82) (v := ?_) (a' := ?_) #[true, true, true, true, true, true, true, true, true, true, true, true, true, true, true, true, true, true, true, true, true, true, false, false, false, false, false, false, false, false, false] rfl rfl (by kernel_rfl) (fun _ _ _ h => h) (Or.inl ⟨by rfl, ?_⟩) ?_ ?_
    rotate_left
    ·intro w'
     go_simp
     with_reducible rfl
    rotate_left
    ·simp only [Act.put, List.setIfInBounds_toArray, List.set_cons_zero, List.set_cons_succ, i64_w, i32_w]
     rfl
    refine pure_ (i := 24) (N := some 85) (v := ?_) (a' := ?_) #[true, true, true, true, true, true, true, true, true, true, true, true, true, true, true, true, true, true, true, true, true, true, false, false, true, false, false, false, false, false, false] rfl rfl (by kernel_rfl) (fun _ _ _ h => h) (Or.inl ⟨by rfl, ?_⟩) ?_ ?_
    rotate_left
    ·intro w'
     go_simp
     with_reducible rfl
    rotate_left
    ·simp only [Act.put, List.setIfInBounds_toArray, List.set_cons_zero, List.set_cons_succ, i64_w, i32_w]
     rfl
    refine pure_ (i := 25) (N := some 86) (v := ?_) (a' := ?_) #[true, true, true, true, true, true, true, true, true, true, true, true, true, true, true, true, true, true, true, true, true, true, false, false, true, true, false, false, false, false, false] rfl rfl (by kernel_rfl) (fun _ _ _ h => h) (Or.inl ⟨by rfl, ?_⟩) ?_ ?_
    rotate_left
    ·intro w'
     go_simp
     with_reducible rfl
    rotate_left
    ·simp only [Act.put, List.setIfInBounds_toArray, List.set_cons_zero, List.set_cons_succ, i64_w, i32_w]
     rfl
    refine pure_ (i := 26) (N := some 87) (v := ?_) (a' := ?_) #[true, true, true, true, true, true, true, true, true, true, true, true, true, true, true, true, true, true, true, true, true, true, false, false, true, true, true, false, false, false, false] rfl rfl (by kernel_rfl) (fun _ _ _ h => h) (Or.inl ⟨by rfl, ?_⟩) ?_ ?_
    rotate_left
    ·intro w'
     go_simp
     with_reducible rfl
    rotate_left
    ·simp only [Act.put, List.setIfInBounds_toArray, List.set_cons_zero, List.set_cons_succ, i64_w, i32_w]
     rfl
    refine pure_ (i := 27) (N := some 88) (v := ?_) (a' := ?_) #[true, true, true, true, true, true, true, true, true, true, true, true, true, true, true, true, true, true, true, true, true, true, false, false, true, true, true, true, false, false, false] rfl rfl (by kernel_rfl) (fun _ _ _ h => h) (Or.inl ⟨by rfl, ?_⟩) ?_ ?_
    rotate_left
    ·intro w'
     go_simp
     with_reducible rfl
    rotate_left
    ·simp only [Act.put, List.setIfInBounds_toArray, List.set_cons_zero, List.set_cons_succ, i64_w, i32_w]
     rfl
    refine take_ (i := 22) (N := some 83) (v := ?_) (a' := ?_) #[true, true, true, true, true, true, true, true, true, true, true, true, true, true, true, true, true, true, true, true, true, true, true, false, true, true, true, true, false, false, false] rfl rfl (by kernel_rfl) (fun _ _ _ h => h) (Or.inl ⟨by rfl, ?_⟩) hHeld ?_ ?_
    rotate_left
    ·rintro w' ⟨s0, s1, s2, s3, s4, s5, s6, s7, s8, s9, s10, s11⟩
     go_simp
     with_reducible rfl
    rotate_left
    ·simp only [Act.put, List.setIfInBounds_toArray, List.set_cons_zero, List.set_cons_succ, i64_w, i32_w]
     rfl
    refine take_ (i := 28) (N := some 89) (v := ?_) (a' := ?_) #[true, true, true, true, true, true, true, true, true, true, true, true, true, true, true, true, true, true, true, true, true, true, true, false, true, true, true, true, true, false, false] rfl rfl (by kernel_rfl) (fun _ _ _ h => h) (Or.inl ⟨by rfl, ?_⟩) hHeld ?_ ?_
    rotate_left
    ·rintro w' ⟨s0, s1, s2, s3, s4, s5, s6, s7, s8, s9, s10, s11⟩
     go_simp
     with_reducible rfl
    rotate_left
    ·simp only [Act.put, List.setIfInBounds_toArray, List.set_cons_zero, List.set_cons_succ, i64_w, i32_w]
     rfl
    refine one_ (i := 23) (N := some 84) #[true, true, true, true, true, true, true, true, true, true, true, true, true, true, true, true, true, true, true, true, true, true, true, true, true, true, true, true, true, false, false] rfl rfl (by kernel_rfl) (by decide) (fun K hK => ?_)
    refine goes_ Tryd.func16 (by kernel_rfl) rfl #[.pointer (some ⟨i.d, 0, none⟩)] (by rfl) rfl rfl (by simp only [List.map_toArray, List.map_cons, List.map_nil]; rfl) ?_
    with_reducible refine (dev_Writes_any _ i _ _ _ _ _ _ hS4.dev).mono ?_
    rintro e w4 ⟨rfl, rfl⟩
    refine ⟨_, rfl, ?_⟩
    refine hK.out _ _ ⟨hHeld.1, hHeld.2.1, hHeld.2.2.1, hHeld.2.2.2.1, hHeld.2.2.2.2.1, hHeld.2.2.2.2.2.1, hHeld.2.2.2.2.2.2.1, hHeld.2.2.2.2.2.2.2.1, hHeld.2.2.2.2.2.2.2.2.1, hHeld.2.2.2.2.2.2.2.2.2.1, hHeld.2.2.2.2.2.2.2.2.2.2.1, hHeld.2.2.2.2.2.2.2.2.2.2.2⟩ (fun hHeld => ?_)
    clear hK K
    refine norm_ (a' := ?_) ?_ ?_
    rotate_left
    ·show Act.put _ (some 84) _ = _
     simp only [Act.put, List.setIfInBounds_toArray, List.set_cons_zero, List.set_cons_succ, i64_w, i32_w]
     rfl
    refine pure_ (i := 29) (N := some 90) (v := ?_) (a' := ?_) #[true, true, true, true, true, true, true, true, true, true, true, true, true, true, true, true, true, true, true, true, true, true, true, true, true, true, true, true, true, true, false] rfl rfl (by kernel_rfl) (fun _ _ _ h => h) (Or.inl ⟨by rfl, ?_⟩) ?_ ?_
    rotate_left
    ·intro w'
     go_simp
     with_reducible rfl
    rotate_left
    ·simp only [Act.put, List.setIfInBounds_toArray, List.set_cons_zero, List.set_cons_succ, i64_w, i32_w]
     rfl
    refine pure_ (i := 30) (N := some 91) (v := ?_) (a' := ?_) #[true, true, true, true, true, true, true, true, true, true, true, true, true, true, true, true, true, true, true, true, true, true, true, true, true, true, true, true, true, true, true] rfl rfl (by kernel_rfl) (fun _ _ _ h => h) (Or.inl ⟨by rfl, ?_⟩) ?_ ?_
    rotate_left
    ·intro w'
     go_simp
     with_reducible rfl
    rotate_left
    ·simp only [Act.put, List.setIfInBounds_toArray, List.set_cons_zero, List.set_cons_succ, i64_w, i32_w]
     rfl
    refine done_ (by kernel_rfl) ?_
    clear hHeld
    go_wp2
    exact ⟨⟨k + 1, A4, c4, xs4, _, _, _, _, _, by omega, by simp, hS4⟩, by simp [intOf]; omega⟩
  ·have ek : k = l2.length := by omega
   subst ek
   obtain ⟨⟨t0, t1, t2, t3, t4⟩, _⟩ := blk5 hS.bx
   go_wp2_with fail
   try simp only [List.append_eq, List.cons_append, List.nil_append]
   have hS3 := hS.below (below_drew1 (Below.refl wr.heap.size wr))
   clear hS
   refine start_ (n := 12) (S := fun w' => w'.cell? ⟨T, 0, none⟩ = some (.pointer (some ⟨i.d, 0, none⟩)) ∧ w'.cell? ⟨T, 1, none⟩ = some (.slice A xs.length c) ∧ w'.cell? ⟨T, 2, none⟩ = some (.bool off) ∧ w'.cell? ⟨T, 3, none⟩ = some (.int .i64 fuse) ∧ w'.cell? ⟨T, 4, none⟩ = some (.int .i64 nw)) (ds := []) #[false, false, false, false, false, false, false, false, false, false, false, false] (by kernel_rfl) rfl rfl ⟨t0, t1, t2, t3, t4⟩ (fun hHeld => ?_)
   generalize wr.drew = w3 at hHeld hS3 ⊢
   refine pure_ (i := 0) (N := some 93) (v := ?_) (a' := ?_) #[true, false, false, false, false, false, false, false, false, false, false, false] rfl rfl (by kernel_rfl) (fun _ _ _ h => h) (Or.inl ⟨by rfl, ?_⟩) ?_ ?_
   rotate_left
   ·intro w'
    go_simp
    with_reducible rfl
   rotate_left
   ·simp only [Act.put, List.setIfInBounds_toArray, List.set_cons_zero, List.set_cons_succ, i64_w, i32_w]
    rfl
   refine pure_ (i := 1) (N := some 94) (v := ?_) (a' := ?_) #[true, true, false, false, false, false, false, false, false, false, false, false] rfl rfl (by kernel_rfl) (fun _ _ _ h => h) (Or.inl ⟨by rfl, ?_⟩) ?_ ?_
   rotate_left
   ·intro w'
    go_simp
    with_reducible rfl
   rotate_left
   ·simp only [Act.put, List.setIfInBounds_toArray, List.set_cons_zero, List.set_cons_succ, i64_w, i32_w]
    rfl
   refine pure_ (i := 2) (N := some 95) (v := ?_) (a' := ?_) #[true, true, true, false, false, false, false, false, false, false, false, false] rfl rfl (by kernel_rfl) (fun _ _ _ h => h) (Or.inl ⟨by rfl, ?_⟩) ?_ ?_
   rotate_left
   ·intro w'
    go_simp
    with_reducible rfl
   rotate_left
   ·simp only [Act.put, List.setIfInBounds_toArray, List.set_cons_zero, List.set_cons_succ, i64_w, i32_w]
    rfl
   refine pure_ (i := 5) (N := some 98) (v := ?_) (a' := ?_) #[true, true, true, false, false, true, false, false, false, false, false, false] rfl rfl (by kernel_rfl) (fun _ _ _ h => h) (Or.inl ⟨by rfl, ?_⟩) ?_ ?_
   rotate_left
   ·intro w'
    go_simp
    with_reducible rfl
   rotate_left
   ·simp only [Act.put, List.setIfInBounds_toArray, List.set_cons_zero, List.set_cons_succ, i64_w, i32_w]
    rfl
   refine pure_ (i := 6) (N := some 99) (v := ?_) (a' := ?_) #[true, true, true, false, false, true, true, false, false, false, false, false] rfl rfl (by kernel_rfl) (fun _ _ _ h => h) (Or.inl ⟨by rfl, ?_⟩) ?_ ?_
   rotate_left
   ·intro w'
    go_simp
    with_reducible rfl
   rotate_left
   ·simp only [Act.put, List.setIfInBounds_toArray, List.set_cons_zero, List.set_cons_succ, i64_w, i32_w]
    rfl
   refine pure_ (i := 7) (N := some 100) (v := ?_) (a' := ?_) #[true, true, true, false, false, true, true, true, false, false, false, false] rfl rfl (by kernel_rfl) (fun _ _ _ h => h) (Or.inl ⟨by rfl, ?_⟩) ?_ ?_
   rotate_left
   ·intro w'
    go_simp
    with_reducible rfl
   rotate_left
   ·simp only [Act.put, List.setIfInBounds_toArray, List.set_cons_zero, List.set_cons_succ, i64_w, i32_w]
    rfl
   refine take_ (i := 3) (N := some 96) (v := ?_) (a' := ?_) #[true, true, true, true, false, true, true, true, false, false, false, false] rfl rfl (by kernel_rfl) (fun _ _ _ h => h) (Or.inl ⟨by rfl, ?_⟩) hHeld ?_ ?_
   rotate_left
   ·rintro w' ⟨s0, s1, s2, s3, s4⟩
    go_simp
    with_reducible rfl
   rotate_left
   ·simp only [Act.put, List.setIfInBounds_toArray, List.set_cons_zero, List.set_cons_succ, i64_w, i32_w]
    rfl
   refine take_ (i := 8) (N := some 101) (v := ?_) (a' := ?_) #[true, true, true, true, false, true, true, true, true, false, false, false] rfl rfl (by kernel_rfl) (fun _ _ _ h => h) (Or.inl ⟨by rfl, ?_⟩) hHeld ?_ ?_
   rotate_left
   ·rintro w' ⟨s0, s1, s2, s3, s4⟩
    go_simp
    with_reducible rfl
   rotate_left
   ·simp only [Act.put, List.setIfInBounds_toArray, List.set_cons_zero, List.set_cons_succ, i64_w, i32_w]
    rfl
   refine one_ (i := 4) (N := some 97) #[true, true, true, true, true, true, true, true, true, false, false, false] rfl rfl (by kernel_rfl) (by decide) (fun K hK => ?_)
   refine goes_ Tryd.func17 (by kernel_rfl) rfl #[.pointer (some ⟨i.d, 0, none⟩)] (by rfl) rfl rfl (by simp only [List.map_toArray, List.map_cons, List.map_nil]; rfl) ?_
   with_reducible refine (dev_Bytes_any _ i _ _ _ _ _ _ hS3.dev).mono ?_
   rintro e w3 ⟨rfl, hb3⟩
   refine ⟨_, rfl, ?_⟩
   replace hS3 := hS3.below hb3
   refine hK.out _ _ ⟨pw_cell_below hb3 hHeld.1, pw_cell_below hb3 hHeld.2.1, pw_cell_below hb3 hHeld.2.2.1, pw_cell_below hb3 hHeld.2.2.2.1, pw_cell_below hb3 hHeld.2.2.2.2⟩ (fun hHeld => ?_)
   clear hK K
   refine norm_ (a' := ?_) ?_ ?_
   rotate_left
   ·show Act.put _ (some 97) _ = _
    simp only [Act.put, List.setIfInBounds_toArray, List.set_cons_zero, List.set_cons_succ, i64_w, i32_w]
    rfl
   refine one_ (i := 9) (N := some 102) #[true, true, true, true, true, true, true, true, true, true, false, false] rfl rfl (by kernel_rfl) (by decide) (fun K hK => ?_)
   refine goes_ Tryd.func18 (by kernel_rfl) rfl #[.agg #[.slice A xs.length c, .bool off, .int .i64 fuse, .int .i64 nw]] (by rfl) rfl rfl (by simp only [List.map_toArray, List.map_cons, List.map_nil]; rfl) ?_
   with_reducible refine (ref_Bytes _ _ xs F B off fuse nw hS3.ref hS3.dev.ok).mono ?_
   rintro e w3 ⟨rfl, hb3⟩
   refine ⟨_, rfl, ?_⟩
   replace hS3 := hS3.below hb3
   refine hK.out _ _ ⟨pw_cell_below hb3 hHeld.1, pw_cell_below hb3 hHeld.2.1, pw_cell_below hb3 hHeld.2.2.1, pw_cell_below hb3 hHeld.2.2.2.1, pw_cell_below hb3 hHeld.2.2.2.2⟩ (fun hHeld => ?_)
   clear hK K
   refine norm_ (a' := ?_) ?_ ?_
   rotate_left
   ·show Act.put _ (some 102) _ = _
    simp only [Act.put, List.setIfInBounds_toArray, List.set_cons_zero, List.set_cons_succ, i64_w, i32_w]
    rfl
   refine pure_ (i := 10) (N := some 103) (v := ?_) (a' := ?_) #[true, true, true, true, true, true, true, true, true, true, true, false] rfl rfl (by kernel_rfl) (fun _ _ _ h => h) (Or.inl ⟨by rfl, ?_⟩) ?_ ?_
   rotate_left
   ·intro w'
    go_simp
    with_reducible rfl
   rotate_left
   ·simp only [Act.put, List.setIfInBounds_toArray, List.set_cons_zero, List.set_cons_succ, i64_w, i32_w]
    rfl
   refine pure_ (i := 11) (N := some 6) (v := ?_) (a' := ?_) #[true, true, true, true, true, true, true, true, true, true, true, true] rfl rfl (by kernel_rfl) (fun _ _ _ h => h) (Or.inl ⟨by rfl, ?_⟩) ?_ ?_
   rotate_left
   ·intro w'
    go_simp
    with_reducible rfl
   rotate_left
   ·simp only [Act.put, List.setIfInBounds_toArray, List.set_cons_zero, List.set_cons_succ, i64_w, i32_w]
    rfl
   refine done_ (by kernel_rfl) ?_
   go_wp2
   go_ret
   exact ⟨rfl, hS3.bl⟩
end

end Go.Proofs.YtpbkcdodpjpoeaaDoor.HCP
