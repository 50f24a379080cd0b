/- a text of this claim -/
import Derived.Test.YtmmfplogkikbjaaDoorGSFx0
import Derived.Test.YtmmfplogkikbjaaDoorGSFx8
import Derived.Test.YtmmfplogkikbjaaDoorGSFx11
import Derived.Test.YtmmfplogkikbjaaDoorGSFx12
import Derived.Test.YtmmfplogkikbjaaDoorGSFx15
import Derived.Test.YtmmfplogkikbjaaDoorGSFx16
import Derived.Test.YtmmfplogkikbjaaDoorGSFx18
import Derived.Test.YtmmfplogkikbjaaDoorGSFx19
import Derived.Test.YtmmfplogkikbjaaDoorGSFx20
namespace Go.Proofs.YtmmfplogkikbjaaDoor.HSF
open Go.RowKit Go.Proofs.YtmmfplogkikbjaaDoorW.PrintWords Go.Proofs.YtmmfplogkikbjaaDoorW.PrintLast Go.Proofs.YtmmfplogkikbjaaDoorW.PrintMore
attribute [local go_sem] max2_int min2_int max_two min_two max_three min_three max_four min_four
set_option linter.unusedVariables false
set_option linter.unusedSimpArgs false
section
open Go Go.Shelf Go.Maps Go.Proofs.YtmmfplogkikbjaaDoor.Seq Go.Proofs.YtmmfplogkikbjaaDoor.MapL Go.Proofs.YtmmfplogkikbjaaDoorW.PrintLast
attribute [local go_sem] Oper.semAt_some max2_int min2_int max_two min_two
def caulklaw10_SuperFinds.Pure : Prop := True
theorem devAt_nodup {w : World} {i : DevIds} {xs : List ByteArray} {F : FL} {B : BL} {off : Bool} {fuse nw : Int} (h : DevAt w i xs F B off fuse nw) : NodupK F := h.2.2.1.nodup
set_option maxRecDepth 100000 in
set_option maxHeartbeats 16000000 in
theorem caulklaw10_SuperFinds.walk (P : caulklaw10_SuperFinds.Pure) (n : Int) (A1 : Option Addr) (k1 : Nat) (l1 : List S74) (A2 : Option Addr) (k2 : Nat) (l2 : List S149) (i0 i1 i2 i3 i4 i5 i6 i7 i8 : Int) (w : World) (hT : TabAt w) (C1 : Kd.C k74 w A1 l1.length l1) (g1 : l1.length ≤ k1) (C2 : Kd.C k149 w A2 l2.length l2) (g2 : l2.length ≤ k2) (f1 : ∀ z ∈ l1, wf74 z) (f2 : ∀ z ∈ l2, wf149 z) (hw0 : 0 ≤ i8 ∧ i8 < 4294967296) :
  Calls Tryd.prog 7 #[.int .i64 n, .slice A1 l1.length k1, .slice A2 l2.length k2, .agg #[.int .i64 i0, .int .i64 i1, .int .i64 i2, .int .i64 i3, .int .i64 i4, .int .i64 i5, .int .i64 i6, .int .i64 i7, .int .u32 i8]] w fun e w' => e = .returned (.bool true) ∧ Below w.heap.size w w' := by
 have hu28 := Tryd.underlying28
 have hu71 := Tryd.underlying71
 have hu74 := Tryd.underlying74
 have hs0 : Step (fun _ => False) w (w.alloc (.cells #[.int .i64 i0, .int .i64 i1, .int .i64 i2, .int .i64 i3, .int .i64 i4, .int .i64 i5, .int .i64 i6, .int .i64 i7, .int .u32 i8] 28)) := Step.alloc _ w _
 have p0 := World.alloc_heap_new w (.cells #[.int .i64 i0, .int .i64 i1, .int .i64 i2, .int .i64 i3, .int .i64 i4, .int .i64 i5, .int .i64 i6, .int .i64 i7, .int .u32 i8] 28)
 have hLv := super_lives_any (w.alloc (.cells #[.int .i64 i0, .int .i64 i1, .int .i64 i2, .int .i64 i3, .int .i64 i4, .int .i64 i5, .int .i64 i6, .int .i64 i7, .int .u32 i8] 28)) (hT.step hs0 (fun h => h))
 by_cases hg : n < 1 ∨ 256 < n ∨ 20 < l1.length ∨ 20 < l2.length
 ·have hc : (decide (n < 1) = true) ∨ (decide (n < 1) = false ∧ decide (256 < n) = true) ∨ (decide (n < 1) = false ∧ decide (256 < n) = false ∧ decide (20 < (l1.length : Int)) = true) ∨ (decide (n < 1) = false ∧ decide (256 < n) = false ∧ decide (20 < (l1.length : Int)) = false ∧ decide (20 < (l2.length : Int)) = true) := by
   simp only [decide_eq_true_eq, decide_eq_false_iff_not]
   omega
  clear hg
  rcases hc with d1 | ⟨d1, d2⟩ | ⟨d1, d2, d3⟩ | ⟨d1, d2, d3, d4⟩
  all_goals
   go_enter Tryd.func7, Tryd.ntmps7
   try simp only [List.append_eq, List.cons_append, List.nil_append]
   go_wp2_with (go_at_call 8; with_reducible refine hLv.mono ?_)
   rintro e w1 ⟨rfl, hs1⟩
   go_wp2
   go_ret
   exact ⟨rfl, (step2 hs0 hs1).below (Nat.le_refl _) (fun _ h => h.elim)⟩
 have h1 : 1 ≤ n := by omega
 have h2 : n ≤ 256 := by omega
 have h3 : l1.length ≤ 20 := by omega
 have h4 : l2.length ≤ 20 := by omega
 have d1 : decide (n < 1) = false := decide_eq_false (by omega)
 have d2 : decide (256 < n) = false := decide_eq_false (by omega)
 have d3 : decide (20 < (l1.length : Int)) = false := decide_eq_false (by omega)
 have d4 : decide (20 < (l2.length : Int)) = false := decide_eq_false (by omega)
 have hNw := fun W => dev_New_any W n h1 (by omega)
 have hRn := fun W => ref_New W n h1 (by omega)
 clear hg
 generalize hX : List.replicate n.toNat zeroS = X0 at hNw hRn
 have hX0 : X0.length ≤ 32768 := by rw [← hX, List.length_replicate]; omega
 clear hX h1 h2
 go_enter Tryd.func7, Tryd.ntmps7
 try simp only [List.append_eq, List.cons_append, List.nil_append]
 go_wp2_with (go_at_call 8; with_reducible refine hLv.mono ?_)
 rintro e w1 ⟨rfl, hs1⟩
 have p1 := hs1.block p0 (fun h => h)
 have hs1' := step2 hs0 hs1
 clear hs0 hs1 hLv p0
 go_wp2_with (go_at_call 16; with_reducible refine (hNw _).mono ?_)
 rintro e w2 ⟨i, rfl, hD2, hlo, hb2⟩
 have p2 := Stepb hb2 p1
 have hs2 := step2 hs1' (Step.of_below (S := fun _ => False) hb2)
 have hin : ∀ k, i.In k → w.heap.size < k := fun k hk => by have := hlo k hk; have := (Array.getElem?_eq_some_iff.1 p1).1; omega
 clear hlo hb2 hs1' p1 hNw
 go_wp2_with (go_at_call 32; with_reducible refine (hRn _).mono ?_)
 rintro e w3 ⟨v3, rfl, hR3, hb3⟩
 obtain ⟨A3, c3, rfl, _⟩ := hR3.reads
 have p3 := Stepb hb3 p2
 have hD3 := hD2.below hb3
 have hs3 := step2 hs2 (Step.of_below (S := fun _ => False) hb3)
 clear hb3 p2 hD2 hs2 hRn
 have hb4 : Below w3.heap.size w3 (w3.alloc (.cells #[.slice A3 X0.length c3, .bool false, .int .i64 (-1), .int .i64 0] 71)) := (Below.refl _ _).alloc (Nat.le_refl _) _
 have q4 := World.alloc_heap_new w3 (.cells #[.slice A3 X0.length c3, .bool false, .int .i64 (-1), .int .i64 0] 71)
 have p4 := Stepb hb4 p3
 have hD4 := hD3.below hb4
 have hR4 := hR3.below hb4
 have hs4 := step2 hs3 (Step.of_below (S := fun _ => False) hb4)
 have hg11 : ∀ k, i.In k → k < w3.heap.size := fun k hk => hD3.lt k hk
 have hg12 : w.heap.size < w3.heap.size := (Array.getElem?_eq_some_iff.1 p3).1
 have hz4 : w3.heap.size < (w3.alloc (.cells #[.slice A3 X0.length c3, .bool false, .int .i64 (-1), .int .i64 0] 71)).heap.size := by simp
 clear hb4 p3 hD3 hR3 hs3
 go_upto_region 7 with (fail)
 generalize w3.heap.size = g11 at q4 hg11 hg12 hz4 ⊢
 generalize w3.alloc (.cells #[.slice A3 X0.length c3, .bool false, .int .i64 (-1), .int .i64 0] 71) = w4 at q4 p4 hD4 hR4 hs4 hz4 ⊢
 have hw4 : Step (fun k => i.In k) w w4 := hs4.mono (fun _ h => h.elim)
 clear hs4
 go_wp2
 go_loopw [68] (fun t68 wr => ∃ (j : Nat) (A : Option Addr) (c : Nat) (F : FL) (off : Bool) (fuse nw : Int), j ≤ l1.length ∧ t68 = .int .i64 j ∧ wr.heap[w.heap.size]? = some (.cells #[.int .i64 i0, .int .i64 i1, .int .i64 i2, .int .i64 i3, .int .i64 i4, .int .i64 i5, .int .i64 i6, .int .i64 i7, .int .u32 i8] 28 (0, 0)) ∧ wr.heap[g11]? = some (.cells #[.slice A X0.length c, .bool off, .int .i64 fuse, .int .i64 nw] 71 (0, 0)) ∧ DevAt wr i X0 F [] off fuse nw ∧ RefAt wr (.slice A X0.length c) X0 F [] ∧ Step (fun k => i.In k) w wr ∧ g11 < wr.heap.size) (fun t68 _ => l1.length - (intOf t68).toNat)
 case atStart => exact ⟨0, A3, c3, [], false, -1, 0, Nat.zero_le _, rfl, p4, q4, hD4, hR4, hw4, hz4⟩
 case round =>
  clear p4 q4 hD4 hR4 hw4 hz4
  obtain ⟨j, A, c, F, off, fuse, nw, hj, rfl, s0, q0, hD, hRf, hs, hsz⟩ := hrel
  have hB : Below w.heap.size w wr := hs.below (Nat.le_refl _) (fun k hk => Nat.le_of_lt (hin k hk))
  by_cases hjl : j < l1.length
  ·have hjI : (j : Int) < (l1.length : Int) := by omega
   have hj0 : (0 : Int) ≤ (j : Int) := by omega
   obtain ⟨adL, rfl, u0, u1, u2, u3, u4, u5, u6, u7, u8, u9⟩ := at_T74 (Kd.C_below C1 hB) (j : Int) (by omega) hjI
   simp only [Int.toNat_natCast] at u0 u1 u2 u3 u4 u5 u6 u7 u8 u9
   have hXm : wf74 (rd_T74 l1 (j : Int)) := by
    rw [rd_T74, Int.toNat_natCast, List.getD_eq_getElem?_getD, List.getElem?_eq_getElem hjl, Option.getD_some]
    exact f1 _ (List.getElem_mem hjl)
   generalize rd_T74 l1 (j : Int) = X at u0 u1 u2 u3 u4 u5 u6 u7 u8 u9 hXm
   have hbX : 0 ≤ X.f1.f3.f2 ∧ X.f1.f3.f2 < 4294967296 := by have := bounds_u32 hXm.2.2.2.2.2.2; omega
   clear hXm
   obtain ⟨F3, o3, l3, m3, why, hq⟩ : ∃ F3 o3 l3 m3 why, swP X0.length F off fuse nw X.f0 (bytesS X.f1.f0 X.f1.f1.f0 X.f1.f1.f1 X.f1.f1.f2 X.f1.f1.f3 X.f1.f2 X.f1.f3.f0 X.f1.f3.f1 X.f1.f3.f2) = (F3, o3, l3, m3, why) := ⟨_, _, _, _, _, rfl⟩
   have hok := hD.ok
   have hRef := fun W (hW : RefAt W (.slice A X0.length c) X0 F []) => ref10_Write_any W _ X0 F [] off fuse nw X.f0 X.f1.f0 X.f1.f1.f0 X.f1.f1.f1 X.f1.f1.f2 X.f1.f1.f3 X.f1.f2 X.f1.f3.f0 X.f1.f3.f1 X.f1.f3.f2 hbX hW hok F3 o3 l3 m3 why hq
   have hDev := fun W (hTW : TabAt W) (hW : DevAt W i X0 F [] off fuse nw) => super_Write_any W hTW i X0 F [] off fuse nw hW X.f0 X.f1.f0 X.f1.f1.f0 X.f1.f1.f1 X.f1.f1.f2 X.f1.f1.f3 X.f1.f2 X.f1.f3.f0 X.f1.f3.f1 X.f1.f3.f2 hbX F3 o3 l3 m3 why hq
   clear hq hok hbX
   have hb3 : Below wr.heap.size wr (wr.alloc (.cells #[.int .i64 X.f0, .int .i64 X.f1.f0, .int .i64 X.f1.f1.f0, .int .i64 X.f1.f1.f1, .int .i64 X.f1.f1.f2, .int .i64 X.f1.f1.f3, .int .i64 X.f1.f2, .int .i64 X.f1.f3.f0, .int .i64 X.f1.f3.f1, .int .u32 X.f1.f3.f2] 74)) := (Below.refl _ _).alloc (Nat.le_refl _) _
   have zX := World.alloc_heap_new wr (.cells #[.int .i64 X.f0, .int .i64 X.f1.f0, .int .i64 X.f1.f1.f0, .int .i64 X.f1.f1.f1, .int .i64 X.f1.f1.f2, .int .i64 X.f1.f1.f3, .int .i64 X.f1.f2, .int .i64 X.f1.f3.f0, .int .i64 X.f1.f3.f1, .int .u32 X.f1.f3.f2] 74)
   have hgx : g11 < wr.heap.size := hsz
   have hgy : ∀ k, i.In k → k < wr.heap.size := hD.lt
   replace s0 := Stepb hb3 s0
   replace q0 := Stepb hb3 q0
   replace hs := hs.trans (Step.of_below (S := fun k => i.In k) hb3) (fun _ h => h) (fun _ h => Or.inl h)
   replace hsz := Nat.lt_of_lt_of_le hsz hb3.size
   replace hD := hD.below hb3
   replace hRf := hRf.below hb3
   clear hb3 hB
   go_upto_region 12 with (fail)
   generalize wr.heap.size = gx at zX hgx hgy ⊢
   generalize wr.alloc (.cells #[.int .i64 X.f0, .int .i64 X.f1.f0, .int .i64 X.f1.f1.f0, .int .i64 X.f1.f1.f1, .int .i64 X.f1.f1.f2, .int .i64 X.f1.f1.f3, .int .i64 X.f1.f2, .int .i64 X.f1.f3.f0, .int .i64 X.f1.f3.f1, .int .u32 X.f1.f3.f2] 74) = wa at zX s0 q0 hs hsz hD hRf ⊢
   clear u0 u1 u2 u3 u4 u5 u6 u7 u8 u9
   obtain ⟨z0, z1, z2, z3, z4, z5, z6, z7, z8, z9⟩ := blk10 zX
   obtain ⟨⟨a0, a1, a2, a3⟩, e0, e1, e2, e3⟩ := blk4 q0
   go_wp2_with (go_at_call 33; with_reducible refine (hRef _ hRf).mono ?_)
   rintro e w5 ⟨A5, c5, rfl, hR5, hb5⟩
   have hb6 : Below w5.heap.size w5 (w5.alloc (.cells #[.slice A5 X0.length c5, .bool o3, .int .i64 l3, .int .i64 m3] 71)) := (Below.refl _ _).alloc (Nat.le_refl _) _
   have y6 := World.alloc_heap_new w5 (.cells #[.slice A5 X0.length c5, .bool o3, .int .i64 l3, .int .i64 m3] 71)
   have hb56 := hb5.trans (hb6.mono hb5.size)
   replace s0 := Stepb hb56 s0
   replace q0 := Stepb hb56 q0
   replace zX := Stepb hb56 zX
   replace hs := hs.trans (Step.of_below (S := fun k => i.In k) hb56) (fun _ h => h) (fun _ h => Or.inl h)
   replace hsz := Nat.lt_of_lt_of_le hsz hb56.size
   replace hD := hD.below hb56
   replace hR5 := hR5.below hb6
   clear hb5 hb6 hb56 hRf hRef z0 z1 z2 z3 z4 z5 z6 z7 z8 z9 a0 a1 a2 a3 e0 e1 e2 e3
   go_upto_region 13 with (fail)
   generalize w5.heap.size = g15 at y6 ⊢
   generalize w5.alloc (.cells #[.slice A5 X0.length c5, .bool o3, .int .i64 l3, .int .i64 m3] 71) = w6 at y6 s0 q0 zX hs hsz hD hR5 ⊢
   obtain ⟨⟨y0, y1, y2, y3⟩, _⟩ := blk4 y6
   obtain ⟨⟨a0, a1, a2, a3⟩, e0, e1, e2, e3⟩ := blk4 q0
   have hst := step_put4 w6 g11 (.slice A5 X0.length c5) (.bool o3) (.int .i64 l3) (.int .i64 m3)
   have q7 := put4 q0 (.slice A5 X0.length c5) (.bool o3) (.int .i64 l3) (.int .i64 m3)
   have s7 := hst.block s0 (fun e => by omega)
   have z7X := hst.block zX (fun e => by omega)
   have hR7 := ref_put4 hR5 q0 (.slice A5 X0.length c5) (.bool o3) (.int .i64 l3) (.int .i64 m3)
   have hs7 := hs.trans hst (fun _ h => h) (fun q hq => Or.inr (by omega))
   have hsz7 := Nat.lt_of_lt_of_le hsz hst.size
   have hD7 := hD.step hst (fun q hq e => by have := hg11 q hq; omega)
   have hT7 := hT.step hs7 (fun h => by have := hin _ h; omega)
   go_upto_region 14 with (fail)
   clear y0 y1 y2 y3 a0 a1 a2 a3 e0 e1 e2 e3 y6 s0 q0 zX hs hsz hD hR5 hst
   generalize ((((w6.setCell ⟨g11, 0, none⟩ (.slice A5 X0.length c5)).setCell ⟨g11, 1, none⟩ (.bool o3)).setCell ⟨g11, 2, none⟩ (.int .i64 l3)).setCell ⟨g11, 3, none⟩ (.int .i64 m3)) = w7 at q7 s7 z7X hR7 hs7 hsz7 hD7 hT7 ⊢
   obtain ⟨z0, z1, z2, z3, z4, z5, z6, z7, z8, z9⟩ := blk10 z7X
   go_wp2_with (go_at_call 17; with_reducible refine (hDev _ hT7 hD7).mono ?_)
   rintro e w8 ⟨rfl, hD8, hs8⟩
   have s8' := hs8.block s7 (fun h => Nat.lt_irrefl _ (hin _ h))
   have q8 := hs8.block q7 (fun h => Nat.lt_irrefl _ (hg11 _ h))
   have hR8 := hR7.step hs8 (ref_dev hR7 hD7)
   have hs9 := hs7.trans hs8 (fun _ h => h) (fun _ h => Or.inl h)
   have hsz8 := Nat.lt_of_lt_of_le hsz7 hs8.size
   clear z0 z1 z2 z3 z4 z5 z6 z7 z8 z9 z7X s7 q7 hR7 hs7 hsz7 hD7 hT7 hs8 hDev
   go_wp2
   exact ⟨⟨j + 1, A5, c5, F3, o3, l3, m3, by omega, by simp, s8', q8, hD8, hR8, hs9, hsz8⟩, by simp [intOf]; omega⟩
  ·have dj : ¬ (j : Int) < (l1.length : Int) := by omega
   have hHu := hurts_any wr i A c X0 F [] off fuse nw hD hRf A2 k2 l2 h4 g2 f2 (fun w' hw' => Kd.C_below C2 ((hs.trans hw' (fun _ h => h) (fun _ h => Or.inl h)).below (Nat.le_refl _) (fun k hk => Nat.le_of_lt (hin k hk))))
   obtain ⟨⟨a0, a1, a2, a3⟩, _⟩ := blk4 q0
   clear hjl hj
   go_wp2_with (go_at_call 34; with_reducible refine hHu.mono ?_)
   rintro e w5 ⟨A5, c5, xs, F3, B, o3, l3, rfl, hD5, hR5, hs5⟩
   have hxs : xs.length ≤ 32768 := hD5.ok.2.1
   have s5 := hs5.block s0 (fun h => Nat.lt_irrefl _ (hin _ h))
   have hs5' := hs.trans hs5 (fun _ h => h) (fun _ h => Or.inl h)
   have hsz5 := Nat.lt_of_lt_of_le hsz hs5.size
   have hb6 : Below w5.heap.size w5 (w5.alloc (.cells #[.slice A5 xs.length c5, .bool o3, .int .i64 l3, .int .i64 nw] 71)) := (Below.refl _ _).alloc (Nat.le_refl _) _
   have y6 := World.alloc_heap_new w5 (.cells #[.slice A5 xs.length c5, .bool o3, .int .i64 l3, .int .i64 nw] 71)
   have s6 := Stepb hb6 s5
   have hD6 := hD5.below hb6
   have hR6 := hR5.below hb6
   have hs6 := hs5'.trans (Step.of_below (S := fun k => i.In k) hb6) (fun _ h => h) (fun _ h => Or.inl h)
   have hg17 : ∀ k, i.In k → k < w5.heap.size := fun k hk => hD5.lt k hk
   have hg18 : w.heap.size < w5.heap.size := (Array.getElem?_eq_some_iff.1 s5).1
   clear a0 a1 a2 a3 s0 q0 hD hRf hs hsz hs5 s5 hs5' hsz5 hb6 hD5 hR5 hHu
   go_upto_region 18 with (fail)
   generalize w5.heap.size = g17 at y6 hg17 hg18 ⊢
   generalize w5.alloc (.cells #[.slice A5 xs.length c5, .bool o3, .int .i64 l3, .int .i64 nw] 71) = w6 at y6 s6 hD6 hR6 hs6 ⊢
   have hT6 := hT.step hs6 (fun h => by have := hin _ h; omega)
   have hFd := find_dev w6 hT6 i xs F3 B o3 l3 nw hD6
   go_wp2_with (go_at_call 19; with_reducible refine hFd.mono ?_)
   rintro e w7 ⟨Aa, ca, rfl, hca, hCa, hs7⟩
   have hb7 : Below w6.heap.size w6 w7 := hs7.below (Nat.le_refl _) (fun _ h => h.elim)
   replace y6 := Stepb hb7 y6
   have s7 := Stepb hb7 s6
   have hD7 := hD6.below hb7
   have hR7 := hR6.below hb7
   have hs7' := hs6.trans (Step.of_below (S := fun k => i.In k) hb7) (fun _ h => h) (fun _ h => Or.inl h)
   have hFr := find_ref i.In w7 hD7.lt _ xs F3 B o3 l3 nw hR7 hxs
   have hL := fndL_len xs F3 B o3
   clear hs7 hb7 s6 hD6 hR6 hs6 hT6 hFd
   generalize fndL xs F3 B o3 = L at hca hCa hFr hL ⊢
   generalize fndE o3 = E at hFr ⊢
   obtain ⟨⟨a0, a1, a2, a3⟩, _⟩ := blk4 y6
   go_wp2_with (go_at_call 35; with_reducible refine hFr.mono ?_)
   rintro e w8 ⟨Ab, cb, rfl, hcb, hCb, hb8⟩
   replace y6 := Stepb hb8 y6
   have s8' := Stepb hb8 s7
   have hD8 := hD7.below hb8
   have hR8 := hR7.below hb8
   have hs8 := hs7'.trans (Step.of_below (S := fun k => i.In k) hb8) (fun _ h => h) (fun _ h => Or.inl h)
   have hCa8 : ∀ w2, Step i.In w8 w2 → Kd.C k48 w2 Aa L.length L := fun w2 h => hCa w2 ((Step.of_below (S := i.In) hb8).trans h (fun _ h => h) (fun _ h => Or.inl h))
   have hT8 := hT.step hs8 (fun h => by have := hin _ h; omega)
   obtain ⟨R, hR⟩ : ∃ R, R = healS xs F3 B o3 l3 nw (bytesS i0 i1 i2 i3 i4 i5 i6 i7 i8) := ⟨_, rfl⟩
   have hM : (R.out.map cop8).length ≤ 1000 := by rw [hR]; exact healS_len
   have hHd := heal_dev w8 hT8 i xs F3 B o3 l3 nw hD8 i0 i1 i2 i3 i4 i5 i6 i7 i8 hw0 R hR
   have hok := hD8.ok
   have hnF := devAt_nodup hD8
   have hHr := fun W (hW : RefAt W (.slice A5 xs.length c5) xs F3 B) => heal_ref W _ xs F3 B o3 l3 nw i0 i1 i2 i3 i4 i5 i6 i7 i8 hw0 hW hok hnF R hR
   generalize R.out.map cop8 = M at hM hHd hHr
   clear a0 a1 a2 a3 hb8 s7 hD7 hR7 hs7' hFr hR hT8
   obtain ⟨x0, x1, x2, x3, x4, x5, x6, x7, x8⟩ := blk9 s8'
   go_wp2_with (go_at_call 36; with_reducible refine hHd.mono ?_)
   rintro e w9 ⟨Ac, cc, rfl, hcc, hCc, hD9, hs9⟩
   have s9 := hs9.block s8' (fun h => Nat.lt_irrefl _ (hin _ h))
   replace y6 := hs9.block y6 (fun h => Nat.lt_irrefl _ (hg17 _ h))
   have hR9 := hR8.step hs9 (ref_dev hR8 hD8)
   have hs9' := hs8.trans hs9 (fun _ h => h) (fun _ h => Or.inl h)
   have hCa9 := hCa8 w9 hs9
   have hCb9 := hCb w9 hs9
   clear x0 x1 x2 x3 x4 x5 x6 x7 x8 s8' hR8 hs8 hs9 hD8 hCa hCa8 hCb hHd
   obtain ⟨x0, x1, x2, x3, x4, x5, x6, x7, x8⟩ := blk9 s9
   obtain ⟨⟨a0, a1, a2, a3⟩, _⟩ := blk4 y6
   go_wp2_with (go_at_call 37; with_reducible refine (hHr _ hR9).mono ?_)
   rintro e wb ⟨Af, cf, Ae, ce, rfl, hRb, hce, hCe, hbb⟩
   have hbc : Below wb.heap.size wb (wb.alloc (.cells #[.slice Af xs.length cf, .bool R.off, .int .i64 R.fuse, .int .i64 R.nw] 71)) := (Below.refl _ _).alloc (Nat.le_refl _) _
   have tb := World.alloc_heap_new wb (.cells #[.slice Af xs.length cf, .bool R.off, .int .i64 R.fuse, .int .i64 R.nw] 71)
   have hbbc := hbb.trans (hbc.mono hbb.size)
   have hD := hD9.below hbbc
   have hRf := hRb.below hbc
   have hCa := Kd.C_below hCa9 hbbc
   have hCb := Kd.C_below hCb9 hbbc
   have hCf := Kd.C_below hCc hbbc
   have hCg := Kd.C_below hCe hbc
   have hB9 : Below w.heap.size w w9 := hs9'.below (Nat.le_refl _) (fun k hk => Nat.le_of_lt (hin k hk))
   have hB3 := hB9.trans (hbbc.mono hB9.size)
   clear hbc hbbc hD9 hRb hCa9 hCb9 hCc hCe hB9 hbb hs9' hR9 s9 y6 x0 x1 x2 x3 x4 x5 x6 x7 x8 a0 a1 a2 a3 hHr
   have hCc := hCf
   have hCe := hCg
   clear hCf hCg
   go_upto_region 24 with (fail)
   generalize wb.heap.size = g25 at tb ⊢
   generalize wb.alloc (.cells #[.slice Af xs.length cf, .bool R.off, .int .i64 R.fuse, .int .i64 R.nw] 71) = W5 at tb hD hRf hCa hCb hCc hCe hB3 ⊢
   obtain ⟨⟨t0, t1, t2, t3⟩, _⟩ := blk4 tb
   try simp only [List.append_eq, List.cons_append, List.nil_append]
   have hb3 := below_drew1 (Below.refl W5.heap.size W5)
   replace hD := hD.below hb3
   replace hRf := hRf.below hb3
   replace hCa := Kd.C_below hCa hb3
   replace hCb := Kd.C_below hCb hb3
   replace hCc := Kd.C_below hCc hb3
   replace hCe := Kd.C_below hCe hb3
   replace hB3 := hB3.trans (hb3.mono hB3.size)
   clear hb3 tb
   refine start_ (n := 33) (S := fun w' => w'.cell? ⟨g25, 0, none⟩ = some (.slice Af xs.length cf) ∧ w'.cell? ⟨g25, 1, none⟩ = some (.bool R.off) ∧ w'.cell? ⟨g25, 2, none⟩ = some (.int .i64 R.fuse) ∧ w'.cell? ⟨g25, 3, none⟩ = some (.int .i64 R.nw)) (ds := []) #[G,G,G,G,G,G,G,G,G,G,G,G,G,G,G,G,G,G,G,G,G,G,G,G,G,G,G,G,G,G,G,G,G] (by kernel_rfl) rfl rfl ⟨t0, t1, t2, t3⟩ (fun hHeld => ?_)
   generalize W5.drew = w3 at hHeld hD hRf hCa hCb hCc hCe hB3 ⊢
   refine pure_ (i := 0) (N := some 123) (v := ?_) (a' := ?_) #[Y,G,G,G,G,G,G,G,G,G,G,G,G,G,G,G,G,G,G,G,G,G,G,G,G,G,G,G,G,G,G,G,G] rfl rfl (by kernel_rfl) (fun _ _ _ h => h) (Or.inl ⟨by rfl, ?_⟩) ?_ ?_;rotate_left
   ·intro w';go_simp;with_reducible rfl
   rotate_left;·simp only [Act.put, sA_];rfl
   refine pure_ (i := 1) (N := some 124) (v := ?_) (a' := ?_) #[Y,Y,G,G,G,G,G,G,G,G,G,G,G,G,G,G,G,G,G,G,G,G,G,G,G,G,G,G,G,G,G,G,G] rfl rfl (by kernel_rfl) (fun _ _ _ h => h) (Or.inl ⟨by rfl, ?_⟩) ?_ ?_;rotate_left
   ·intro w';go_simp;with_reducible rfl
   rotate_left;·simp only [Act.put, sA_];rfl
   refine one_ (i := 2) (N := some 125) #[Y,Y,Y,G,G,G,G,G,G,G,G,G,G,G,G,G,G,G,G,G,G,G,G,G,G,G,G,G,G,G,G,G,G] rfl rfl (by kernel_rfl) (by decide) (fun K hK => ?_)
   refine goes_ Tryd.func38 (by kernel_rfl) rfl #[.slice Aa L.length ca, .slice Ab L.length cb] (by rfl) rfl rfl (by simp only [List.map_toArray, List.map_cons, List.map_nil]; rfl) ?_
   with_reducible refine (same48_any _ Aa Ab ca cb L hL hCa hca hCb hcb).mono ?_
   rintro e w3 ⟨rfl, hb3⟩
   refine ⟨_, rfl, ?_⟩
   replace hD := hD.below hb3
   replace hRf := hRf.below hb3
   replace hCa := Kd.C_below hCa hb3
   replace hCb := Kd.C_below hCb hb3
   replace hCc := Kd.C_below hCc hb3
   replace hCe := Kd.C_below hCe hb3
   replace hB3 := hB3.trans (hb3.mono hB3.size)
   refine hK.out _ _ ⟨pw_cell_below hb3 hHeld.1, pw_cell_below hb3 hHeld.2.1, pw_cell_below hb3 hHeld.2.2.1, pw_cell_below hb3 hHeld.2.2.2⟩ (fun hHeld => ?_)
   clear hK K
   refine norm_ (a' := ?_) ?_ ?_;rotate_left
   ·show Act.put _ (some 125) _ = _
    simp only [Act.put, sA_]
    rfl
   refine pure_ (i := 3) (N := some 126) (v := ?_) (a' := ?_) #[Y,Y,Y,Y,G,G,G,G,G,G,G,G,G,G,G,G,G,G,G,G,G,G,G,G,G,G,G,G,G,G,G,G,G] rfl rfl (by kernel_rfl) (fun _ _ _ h => h) (Or.inl ⟨by rfl, ?_⟩) ?_ ?_;rotate_left
   ·intro w';go_simp;with_reducible rfl
   rotate_left;·simp only [Act.put, sA_];rfl
   refine pure_ (i := 4) (N := some 127) (v := ?_) (a' := ?_) #[Y,Y,Y,Y,Y,G,G,G,G,G,G,G,G,G,G,G,G,G,G,G,G,G,G,G,G,G,G,G,G,G,G,G,G] rfl rfl (by kernel_rfl) (fun _ _ _ h => h) (Or.inl ⟨by rfl, ?_⟩) ?_ ?_;rotate_left
   ·intro w';go_simp;with_reducible rfl
   rotate_left;·simp only [Act.put, sA_];rfl
   refine pure_ (i := 5) (N := some 128) (v := ?_) (a' := ?_) #[Y,Y,Y,Y,Y,Y,G,G,G,G,G,G,G,G,G,G,G,G,G,G,G,G,G,G,G,G,G,G,G,G,G,G,G] rfl rfl (by kernel_rfl) (fun _ _ _ h => h) (Or.inl ⟨by rfl, ?_⟩) ?_ ?_;rotate_left
   ·intro w';go_simp;with_reducible rfl
   rotate_left;·simp only [Act.put, sA_];rfl
   refine pure_ (i := 6) (N := some 129) (v := ?_) (a' := ?_) #[Y,Y,Y,Y,Y,Y,Y,G,G,G,G,G,G,G,G,G,G,G,G,G,G,G,G,G,G,G,G,G,G,G,G,G,G] rfl rfl (by kernel_rfl) (fun _ _ _ h => h) (Or.inl ⟨by rfl, ?_⟩) ?_ ?_;rotate_left
   ·intro w';go_simp;with_reducible rfl
   rotate_left;·simp only [Act.put, sA_];rfl
   refine pure_ (i := 7) (N := some 130) (v := ?_) (a' := ?_) #[Y,Y,Y,Y,Y,Y,Y,Y,G,G,G,G,G,G,G,G,G,G,G,G,G,G,G,G,G,G,G,G,G,G,G,G,G] rfl rfl (by kernel_rfl) (fun _ _ _ h => h) (Or.inl ⟨by rfl, ?_⟩) ?_ ?_;rotate_left
   ·intro w';go_simp;with_reducible rfl
   rotate_left;·simp only [Act.put, sA_];rfl
   refine pure_ (i := 8) (N := some 131) (v := ?_) (a' := ?_) #[Y,Y,Y,Y,Y,Y,Y,Y,Y,G,G,G,G,G,G,G,G,G,G,G,G,G,G,G,G,G,G,G,G,G,G,G,G] rfl rfl (by kernel_rfl) (fun _ _ _ h => h) (Or.inl ⟨by rfl, ?_⟩) ?_ ?_;rotate_left
   ·intro w';go_simp;with_reducible rfl
   rotate_left;·simp only [Act.put, sA_];rfl
   refine pure_ (i := 9) (N := some 132) (v := ?_) (a' := ?_) #[Y,Y,Y,Y,Y,Y,Y,Y,Y,Y,G,G,G,G,G,G,G,G,G,G,G,G,G,G,G,G,G,G,G,G,G,G,G] rfl rfl (by kernel_rfl) (fun _ _ _ h => h) (Or.inl ⟨by rfl, ?_⟩) ?_ ?_;rotate_left
   ·intro w';go_simp;with_reducible rfl
   rotate_left;·simp only [Act.put, sA_];rfl
   refine pure_ (i := 10) (N := some 133) (v := ?_) (a' := ?_) #[Y,Y,Y,Y,Y,Y,Y,Y,Y,Y,Y,G,G,G,G,G,G,G,G,G,G,G,G,G,G,G,G,G,G,G,G,G,G] rfl rfl (by kernel_rfl) (fun _ _ _ h => h) (Or.inl ⟨by rfl, ?_⟩) ?_ ?_;rotate_left
   ·intro w';go_simp;with_reducible rfl
   rotate_left;·simp only [Act.put, sA_];rfl
   refine one_ (i := 11) (N := some 134) #[Y,Y,Y,Y,Y,Y,Y,Y,Y,Y,Y,Y,G,G,G,G,G,G,G,G,G,G,G,G,G,G,G,G,G,G,G,G,G] rfl rfl (by kernel_rfl) (by decide) (fun K hK => ?_)
   refine goes_ Tryd.func39 (by kernel_rfl) rfl #[.slice Ac M.length cc, .slice Ae M.length ce] (by rfl) rfl rfl (by simp only [List.map_toArray, List.map_cons, List.map_nil]; rfl) ?_
   with_reducible refine (same88_any _ Ac Ae cc ce M hM hCc hcc hCe hce).mono ?_
   rintro e w3 ⟨rfl, hb3⟩
   refine ⟨_, rfl, ?_⟩
   replace hD := hD.below hb3
   replace hRf := hRf.below hb3
   replace hCa := Kd.C_below hCa hb3
   replace hCb := Kd.C_below hCb hb3
   replace hCc := Kd.C_below hCc hb3
   replace hCe := Kd.C_below hCe hb3
   replace hB3 := hB3.trans (hb3.mono hB3.size)
   refine hK.out _ _ ⟨pw_cell_below hb3 hHeld.1, pw_cell_below hb3 hHeld.2.1, pw_cell_below hb3 hHeld.2.2.1, pw_cell_below hb3 hHeld.2.2.2⟩ (fun hHeld => ?_)
   clear hK K
   refine norm_ (a' := ?_) ?_ ?_;rotate_left
   ·show Act.put _ (some 134) _ = _
    simp only [Act.put, sA_]
    rfl
   refine pure_ (i := 12) (N := some 135) (v := ?_) (a' := ?_) #[Y,Y,Y,Y,Y,Y,Y,Y,Y,Y,Y,Y,Y,G,G,G,G,G,G,G,G,G,G,G,G,G,G,G,G,G,G,G,G] rfl rfl (by kernel_rfl) (fun _ _ _ h => h) (Or.inl ⟨by rfl, ?_⟩) ?_ ?_;rotate_left
   ·intro w';go_simp;with_reducible rfl
   rotate_left;·simp only [Act.put, sA_];rfl
   refine pure_ (i := 13) (N := some 136) (v := ?_) (a' := ?_) #[Y,Y,Y,Y,Y,Y,Y,Y,Y,Y,Y,Y,Y,Y,G,G,G,G,G,G,G,G,G,G,G,G,G,G,G,G,G,G,G] rfl rfl (by kernel_rfl) (fun _ _ _ h => h) (Or.inl ⟨by rfl, ?_⟩) ?_ ?_;rotate_left
   ·intro w';go_simp;with_reducible rfl
   rotate_left;·simp only [Act.put, sA_];rfl
   refine pure_ (i := 14) (N := some 137) (v := ?_) (a' := ?_) #[Y,Y,Y,Y,Y,Y,Y,Y,Y,Y,Y,Y,Y,Y,Y,G,G,G,G,G,G,G,G,G,G,G,G,G,G,G,G,G,G] rfl rfl (by kernel_rfl) (fun _ _ _ h => h) (Or.inl ⟨by rfl, ?_⟩) ?_ ?_;rotate_left
   ·intro w';go_simp;with_reducible rfl
   rotate_left;·simp only [Act.put, sA_];rfl
   refine pure_ (i := 15) (N := some 138) (v := ?_) (a' := ?_) #[Y,Y,Y,Y,Y,Y,Y,Y,Y,Y,Y,Y,Y,Y,Y,Y,G,G,G,G,G,G,G,G,G,G,G,G,G,G,G,G,G] rfl rfl (by kernel_rfl) (fun _ _ _ h => h) (Or.inl ⟨by rfl, ?_⟩) ?_ ?_;rotate_left
   ·intro w';go_simp;with_reducible rfl
   rotate_left;·simp only [Act.put, sA_];rfl
   refine pure_ (i := 16) (N := some 139) (v := ?_) (a' := ?_) #[Y,Y,Y,Y,Y,Y,Y,Y,Y,Y,Y,Y,Y,Y,Y,Y,Y,G,G,G,G,G,G,G,G,G,G,G,G,G,G,G,G] rfl rfl (by kernel_rfl) (fun _ _ _ h => h) (Or.inl ⟨by rfl, ?_⟩) ?_ ?_;rotate_left
   ·intro w';go_simp;with_reducible rfl
   rotate_left;·simp only [Act.put, sA_];rfl
   refine pure_ (i := 17) (N := some 140) (v := ?_) (a' := ?_) #[Y,Y,Y,Y,Y,Y,Y,Y,Y,Y,Y,Y,Y,Y,Y,Y,Y,Y,G,G,G,G,G,G,G,G,G,G,G,G,G,G,G] rfl rfl (by kernel_rfl) (fun _ _ _ h => h) (Or.inl ⟨by rfl, ?_⟩) ?_ ?_;rotate_left
   ·intro w';go_simp;with_reducible rfl
   rotate_left;·simp only [Act.put, sA_];rfl
   refine pure_ (i := 18) (N := some 141) (v := ?_) (a' := ?_) #[Y,Y,Y,Y,Y,Y,Y,Y,Y,Y,Y,Y,Y,Y,Y,Y,Y,Y,Y,G,G,G,G,G,G,G,G,G,G,G,G,G,G] rfl rfl (by kernel_rfl) (fun _ _ _ h => h) (Or.inl ⟨by rfl, ?_⟩) ?_ ?_;rotate_left
   ·intro w';go_simp;with_reducible rfl
   rotate_left;·simp only [Act.put, sA_];rfl
   refine pure_ (i := 19) (N := some 142) (v := ?_) (a' := ?_) #[Y,Y,Y,Y,Y,Y,Y,Y,Y,Y,Y,Y,Y,Y,Y,Y,Y,Y,Y,Y,G,G,G,G,G,G,G,G,G,G,G,G,G] rfl rfl (by kernel_rfl) (fun _ _ _ h => h) (Or.inl ⟨by rfl, ?_⟩) ?_ ?_;rotate_left
   ·intro w';go_simp;with_reducible rfl
   rotate_left;·simp only [Act.put, sA_];rfl
   refine take_ (i := 21) (N := some 144) (v := ?_) (a' := ?_) #[Y,Y,Y,Y,Y,Y,Y,Y,Y,Y,Y,Y,Y,Y,Y,Y,Y,Y,Y,Y,G,Y,G,G,G,G,G,G,G,G,G,G,G] rfl rfl (by kernel_rfl) (fun _ _ _ h => h) (Or.inl ⟨by rfl, ?_⟩) hHeld ?_ ?_;rotate_left
   ·rintro w' ⟨s0, s1, s2, s3⟩
    go_simp
    with_reducible rfl
   rotate_left;·simp only [Act.put, sA_];rfl
   refine one_ (i := 20) (N := some 143) #[Y,Y,Y,Y,Y,Y,Y,Y,Y,Y,Y,Y,Y,Y,Y,Y,Y,Y,Y,Y,Y,Y,G,G,G,G,G,G,G,G,G,G,G] rfl rfl (by kernel_rfl) (by decide) (fun K hK => ?_)
   refine goes_ Tryd.func40 (by kernel_rfl) rfl #[.pointer (some ⟨i.d, 0, none⟩)] (by rfl) rfl rfl (by simp only [List.map_toArray, List.map_cons, List.map_nil]; rfl) ?_
   with_reducible refine (dev_Bytes_any _ i xs R.F B R.off R.fuse R.nw hD).mono ?_
   rintro e w3 ⟨rfl, hb3⟩
   refine ⟨_, rfl, ?_⟩
   replace hD := hD.below hb3
   replace hRf := hRf.below hb3
   replace hCa := Kd.C_below hCa hb3
   replace hCb := Kd.C_below hCb hb3
   replace hCc := Kd.C_below hCc hb3
   replace hCe := Kd.C_below hCe hb3
   replace hB3 := hB3.trans (hb3.mono hB3.size)
   refine hK.out _ _ ⟨pw_cell_below hb3 hHeld.1, pw_cell_below hb3 hHeld.2.1, pw_cell_below hb3 hHeld.2.2.1, pw_cell_below hb3 hHeld.2.2.2⟩ (fun hHeld => ?_)
   clear hK K
   refine norm_ (a' := ?_) ?_ ?_;rotate_left
   ·show Act.put _ (some 143) _ = _
    simp only [Act.put, sA_]
    rfl
   refine one_ (i := 22) (N := some 145) #[Y,Y,Y,Y,Y,Y,Y,Y,Y,Y,Y,Y,Y,Y,Y,Y,Y,Y,Y,Y,Y,Y,Y,G,G,G,G,G,G,G,G,G,G] rfl rfl (by kernel_rfl) (by decide) (fun K hK => ?_)
   refine goes_ Tryd.func41 (by kernel_rfl) rfl #[.agg #[.slice Af xs.length cf, .bool R.off, .int .i64 R.fuse, .int .i64 R.nw]] (by rfl) rfl rfl (by simp only [List.map_toArray, List.map_cons, List.map_nil]; rfl) ?_
   with_reducible refine (ref_Bytes _ _ xs R.F B R.off R.fuse R.nw hRf hD.ok).mono ?_
   rintro e w3 ⟨rfl, hb3⟩
   refine ⟨_, rfl, ?_⟩
   replace hD := hD.below hb3
   replace hRf := hRf.below hb3
   replace hCa := Kd.C_below hCa hb3
   replace hCb := Kd.C_below hCb hb3
   replace hCc := Kd.C_below hCc hb3
   replace hCe := Kd.C_below hCe hb3
   replace hB3 := hB3.trans (hb3.mono hB3.size)
   refine hK.out _ _ ⟨pw_cell_below hb3 hHeld.1, pw_cell_below hb3 hHeld.2.1, pw_cell_below hb3 hHeld.2.2.1, pw_cell_below hb3 hHeld.2.2.2⟩ (fun hHeld => ?_)
   clear hK K
   refine norm_ (a' := ?_) ?_ ?_;rotate_left
   ·show Act.put _ (some 145) _ = _
    simp only [Act.put, sA_]
    rfl
   refine pure_ (i := 23) (N := some 146) (v := ?_) (a' := ?_) #[Y,Y,Y,Y,Y,Y,Y,Y,Y,Y,Y,Y,Y,Y,Y,Y,Y,Y,Y,Y,Y,Y,Y,Y,G,G,G,G,G,G,G,G,G] rfl rfl (by kernel_rfl) (fun _ _ _ h => h) (Or.inl ⟨by rfl, ?_⟩) ?_ ?_;rotate_left
   ·intro w';go_simp;with_reducible rfl
   rotate_left;·simp only [Act.put, sA_];rfl
   refine pure_ (i := 24) (N := some 147) (v := ?_) (a' := ?_) #[Y,Y,Y,Y,Y,Y,Y,Y,Y,Y,Y,Y,Y,Y,Y,Y,Y,Y,Y,Y,Y,Y,Y,Y,Y,G,G,G,G,G,G,G,G] rfl rfl (by kernel_rfl) (fun _ _ _ h => h) (Or.inl ⟨by rfl, ?_⟩) ?_ ?_;rotate_left
   ·intro w';go_simp;with_reducible rfl
   rotate_left;·simp only [Act.put, sA_];rfl
   refine pure_ (i := 25) (N := some 148) (v := ?_) (a' := ?_) #[Y,Y,Y,Y,Y,Y,Y,Y,Y,Y,Y,Y,Y,Y,Y,Y,Y,Y,Y,Y,Y,Y,Y,Y,Y,Y,G,G,G,G,G,G,G] rfl rfl (by kernel_rfl) (fun _ _ _ h => h) (Or.inl ⟨by rfl, ?_⟩) ?_ ?_;rotate_left
   ·intro w';go_simp;with_reducible rfl
   rotate_left;·simp only [Act.put, sA_];rfl
   refine pure_ (i := 26) (N := some 149) (v := ?_) (a' := ?_) #[Y,Y,Y,Y,Y,Y,Y,Y,Y,Y,Y,Y,Y,Y,Y,Y,Y,Y,Y,Y,Y,Y,Y,Y,Y,Y,Y,G,G,G,G,G,G] rfl rfl (by kernel_rfl) (fun _ _ _ h => h) (Or.inl ⟨by rfl, ?_⟩) ?_ ?_;rotate_left
   ·intro w';go_simp;with_reducible rfl
   rotate_left;·simp only [Act.put, sA_];rfl
   refine pure_ (i := 28) (N := some 151) (v := ?_) (a' := ?_) #[Y,Y,Y,Y,Y,Y,Y,Y,Y,Y,Y,Y,Y,Y,Y,Y,Y,Y,Y,Y,Y,Y,Y,Y,Y,Y,Y,G,Y,G,G,G,G] rfl rfl (by kernel_rfl) (fun _ _ _ h => h) (Or.inl ⟨by rfl, ?_⟩) ?_ ?_;rotate_left
   ·intro w';go_simp;with_reducible rfl
   rotate_left;·simp only [Act.put, sA_];rfl
   refine take_ (i := 29) (N := some 152) (v := ?_) (a' := ?_) #[Y,Y,Y,Y,Y,Y,Y,Y,Y,Y,Y,Y,Y,Y,Y,Y,Y,Y,Y,Y,Y,Y,Y,Y,Y,Y,Y,G,Y,Y,G,G,G] rfl rfl (by kernel_rfl) (fun _ _ _ h => h) (Or.inl ⟨by rfl, ?_⟩) hHeld ?_ ?_;rotate_left
   ·rintro w' ⟨s0, s1, s2, s3⟩
    go_simp
    with_reducible rfl
   rotate_left;·simp only [Act.put, sA_];rfl
   refine one_ (i := 27) (N := some 150) #[Y,Y,Y,Y,Y,Y,Y,Y,Y,Y,Y,Y,Y,Y,Y,Y,Y,Y,Y,Y,Y,Y,Y,Y,Y,Y,Y,Y,Y,Y,G,G,G] rfl rfl (by kernel_rfl) (by decide) (fun K hK => ?_)
   refine goes_ Tryd.func42 (by kernel_rfl) rfl #[.pointer (some ⟨i.d, 0, none⟩)] (by rfl) rfl rfl (by simp only [List.map_toArray, List.map_cons, List.map_nil]; rfl) ?_
   with_reducible refine (dev_Writes_any _ i xs R.F B R.off R.fuse R.nw hD).mono ?_
   rintro e w4 ⟨rfl, rfl⟩
   refine ⟨_, rfl, ?_⟩
   refine hK.out _ _ ⟨hHeld.1, hHeld.2.1, hHeld.2.2.1, hHeld.2.2.2⟩ (fun hHeld => ?_)
   clear hK K
   refine norm_ (a' := ?_) ?_ ?_;rotate_left
   ·show Act.put _ (some 150) _ = _
    simp only [Act.put, sA_]
    rfl
   refine pure_ (i := 30) (N := some 153) (v := ?_) (a' := ?_) #[Y,Y,Y,Y,Y,Y,Y,Y,Y,Y,Y,Y,Y,Y,Y,Y,Y,Y,Y,Y,Y,Y,Y,Y,Y,Y,Y,Y,Y,Y,Y,G,G] rfl rfl (by kernel_rfl) (fun _ _ _ h => h) (Or.inl ⟨by rfl, ?_⟩) ?_ ?_;rotate_left
   ·intro w';go_simp;with_reducible rfl
   rotate_left;·simp only [Act.put, sA_];rfl
   refine pure_ (i := 31) (N := some 154) (v := ?_) (a' := ?_) #[Y,Y,Y,Y,Y,Y,Y,Y,Y,Y,Y,Y,Y,Y,Y,Y,Y,Y,Y,Y,Y,Y,Y,Y,Y,Y,Y,Y,Y,Y,Y,Y,G] rfl rfl (by kernel_rfl) (fun _ _ _ h => h) (Or.inl ⟨by rfl, ?_⟩) ?_ ?_;rotate_left
   ·intro w';go_simp;with_reducible rfl
   rotate_left;·simp only [Act.put, sA_];rfl
   refine pure_ (i := 32) (N := some 8) (v := ?_) (a' := ?_) #[Y,Y,Y,Y,Y,Y,Y,Y,Y,Y,Y,Y,Y,Y,Y,Y,Y,Y,Y,Y,Y,Y,Y,Y,Y,Y,Y,Y,Y,Y,Y,Y,Y] rfl rfl (by kernel_rfl) (fun _ _ _ h => h) (Or.inl ⟨by rfl, ?_⟩) ?_ ?_;rotate_left
   ·intro w';go_simp;with_reducible rfl
   rotate_left;·simp only [Act.put, sA_];rfl
   refine done_ (by kernel_rfl) ?_
   clear hHeld
   go_wp2
   go_ret
   exact ⟨rfl, hB3⟩
end
end Go.Proofs.YtmmfplogkikbjaaDoor.HSF
