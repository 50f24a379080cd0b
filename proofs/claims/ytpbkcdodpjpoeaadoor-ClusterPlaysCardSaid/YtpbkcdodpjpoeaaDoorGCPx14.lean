/- WRITTEN BY wip/hyb.py, a program of this workplace (out of the kit's printer and this workplace's own contracts). -/
import Derived.Test.YtpbkcdodpjpoeaaDoorGCPx0
import Derived.Test.YtpbkcdodpjpoeaaDoorGCPx2
import Derived.Test.YtpbkcdodpjpoeaaDoorGCPx4
import Derived.Test.YtpbkcdodpjpoeaaDoorGCPx5
import Derived.Test.YtpbkcdodpjpoeaaDoorGCPx6
import Derived.Test.YtpbkcdodpjpoeaaDoorGCPx7
import Derived.Test.YtpbkcdodpjpoeaaDoorGCPx11
import Derived.Test.YtpbkcdodpjpoeaaDoorGCPx12
import Derived.Test.YtpbkcdodpjpoeaaDoorGCPx13
namespace Go.Proofs.YtpbkcdodpjpoeaaDoor.HCP
open Go.RowKit Go.Proofs.YtpbkcdodpjpoeaaDoorW.PrintWords Go.Proofs.YtpbkcdodpjpoeaaDoorW.PrintLast Go.Proofs.YtpbkcdodpjpoeaaDoorW.PrintMore
attribute [local go_sem] max2_int min2_int max_two min_two max_three min_three max_four min_four   -- for this text's walks alone
set_option linter.unusedVariables false
set_option linter.unusedSimpArgs false

section
open Go Go.Shelf Go.Maps Go.Proofs.YtpbkcdodpjpoeaaDoor.Seq Go.Proofs.YtpbkcdodpjpoeaaDoor.MapL Go.Proofs.YtpbkcdodpjpoeaaDoorW.PrintLast
attribute [local go_sem] Oper.semAt_some max2_int min2_int max_two min_two
set_option maxRecDepth 100000 in
set_option maxHeartbeats 8000000 in
theorem does_6 (w : World) (T : Nat) (i : DevIds) (A : Option Addr) (c : Nat) (xs : List ByteArray) (F : FL) (B : BL) (off : Bool) (fuse nw : Int) (sh gk gm C at_ n by_ : Int) (tx fs : ByteArray) (fy : Int) (hD : DevAt w i xs F B off fuse nw) (hR : RefAt w (.slice A xs.length c) xs F B) (hbx : w.heap[T]? = some (.cells #[.pointer (some ⟨i.d, 0, none⟩), .slice A xs.length c, .bool off, .int .i64 fuse, .int .i64 nw] 46 (0, 0)))
  (hF1 : ∀ W, Calls Tryd.prog 8 #[.agg #[.int .i64 sh, .int .i64 gk, .int .i64 gm, .int .i64 C], .string tx] W fun e w' => e = .returned (.tuple #[.string fs, .int .i64 fy]) ∧ Below W.heap.size W w')
  (hF2 : ∀ W, Calls Tryd.prog 30 #[.agg #[.int .i64 sh, .int .i64 gk, .int .i64 gm, .int .i64 C], .string tx] W fun e w' => e = .returned (.tuple #[.string fs, .int .i64 fy]) ∧ Below W.heap.size W w')
  {xs3 : List ByteArray} {F3 : FL} {B3 : BL} {o3 : Bool} {l3 m3 : Int}
  (hRef : ∀ W, RefAt W (.slice A xs.length c) xs F B → Calls Tryd.prog 40 #[.agg #[.slice A xs.length c, .bool off, .int .i64 fuse, .int .i64 nw], .int .i64 n] W fun e w' => ∃ A3 c3, e = .returned (.agg #[.slice A3 xs.length c3, .bool o3, .int .i64 l3, .int .i64 m3]) ∧ RefAt w' (.slice A3 xs.length c3) xs3 F3 B3 ∧ Below W.heap.size W w')
  (hDev : ∀ W, DevAt W i xs F B off fuse nw → Calls Tryd.prog 41 #[.pointer (some ⟨i.d, 0, none⟩), .int .i64 n] W fun e w' => e = .returned (.tuple #[]) ∧ DevAt w' i xs3 F3 B3 o3 l3 m3 ∧ Step i.In W w') :
  Calls Tryd.prog 14 #[.pointer (some ⟨T, 0, none⟩), .agg #[.int .i64 sh, .int .i64 gk, .int .i64 gm, .int .i64 C], .agg #[.int .i64 6, .int .i64 at_, .string tx, .int .i64 n, .int .u32 by_]] w fun e w' => ∃ A3 c3, e = .returned (.bool true) ∧ DevAt w' i xs3 F3 B3 o3 l3 m3 ∧ RefAt w' (.slice A3 xs.length c3) xs3 F3 B3 ∧ w'.heap[T]? = some (.cells #[.pointer (some ⟨i.d, 0, none⟩), .slice A3 xs.length c3, .bool o3, .int .i64 l3, .int .i64 m3] 46 (0, 0)) ∧ Step (fun k => i.In k ∨ k = T) w w' := by
 have hilt := hD.lt
 have hTlt := blk_lt hbx
 have hnT := dev_notT hD hbx
 have hB3 := below2 w (.cells #[.int .i64 sh, .int .i64 gk, .int .i64 gm, .int .i64 C] 23) (.cells #[.int .i64 6, .int .i64 at_, .string tx, .int .i64 n, .int .u32 by_] 48)
 have hg4 := new1of2 w (.cells #[.int .i64 sh, .int .i64 gk, .int .i64 gm, .int .i64 C] 23) (.cells #[.int .i64 6, .int .i64 at_, .string tx, .int .i64 n, .int .u32 by_] 48)
 have ha5 := new2 w (.cells #[.int .i64 sh, .int .i64 gk, .int .i64 gm, .int .i64 C] 23) (.cells #[.int .i64 6, .int .i64 at_, .string tx, .int .i64 n, .int .u32 by_] 48)
 have hsz : w.heap.size + 2 ≤ ((w.alloc (.cells #[.int .i64 sh, .int .i64 gk, .int .i64 gm, .int .i64 C] 23)).alloc (.cells #[.int .i64 6, .int .i64 at_, .string tx, .int .i64 n, .int .u32 by_] 48)).heap.size := by simp
 go_enter Tryd.func14, Tryd.ntmps14
 go_upto_region 1 with (fail)
 generalize (w.alloc (.cells #[.int .i64 sh, .int .i64 gk, .int .i64 gm, .int .i64 C] 23)).alloc (.cells #[.int .i64 6, .int .i64 at_, .string tx, .int .i64 n, .int .u32 by_] 48) = W at hB3 hg4 ha5 hsz ⊢
 have hD3 := hD.below hB3
 have hR3 := hR.below hB3
 replace hbx := Stepb hB3 hbx
 clear hD hR
 obtain ⟨⟨t0, t1, t2, t3, t4⟩, e0, e1, e2, e3, e4⟩ := blk5 hbx
 obtain ⟨⟨g0, g1, g2, g3⟩, _⟩ := blk4 hg4
 obtain ⟨⟨a0, a1, a2, a3, a4⟩, _⟩ := blk5 ha5
 go_wp2_with (first
  | (go_at_call 8; with_reducible refine (hF1 _).mono ?_; rintro e W1 ⟨rfl, hb3⟩; clear t0 t1 t2 t3 t4 e0 e1 e2 e3 e4 g0 g1 g2 g3 a0 a1 a2 a3 a4; replace hD3 := hD3.below hb3; replace hR3 := hR3.below hb3; replace hbx := Stepb hb3 hbx; replace hg4 := Stepb hb3 hg4; replace ha5 := Stepb hb3 ha5; replace hB3 := hB3.trans (hb3.mono hB3.size); replace hsz := Nat.le_trans hsz hb3.size; clear hb3; obtain ⟨⟨t0, t1, t2, t3, t4⟩, e0, e1, e2, e3, e4⟩ := blk5 hbx; obtain ⟨⟨g0, g1, g2, g3⟩, _⟩ := blk4 hg4; obtain ⟨⟨a0, a1, a2, a3, a4⟩, _⟩ := blk5 ha5)
  | (go_at_call 30; with_reducible refine (hF2 _).mono ?_; rintro e W2 ⟨rfl, hb3⟩; clear t0 t1 t2 t3 t4 e0 e1 e2 e3 e4 g0 g1 g2 g3 a0 a1 a2 a3 a4; replace hD3 := hD3.below hb3; replace hR3 := hR3.below hb3; replace hbx := Stepb hb3 hbx; replace hg4 := Stepb hb3 hg4; replace ha5 := Stepb hb3 ha5; replace hB3 := hB3.trans (hb3.mono hB3.size); replace hsz := Nat.le_trans hsz hb3.size; clear hb3; obtain ⟨⟨t0, t1, t2, t3, t4⟩, e0, e1, e2, e3, e4⟩ := blk5 hbx; obtain ⟨⟨g0, g1, g2, g3⟩, _⟩ := blk4 hg4; obtain ⟨⟨a0, a1, a2, a3, a4⟩, _⟩ := blk5 ha5))
 try simp only [List.append_eq, List.cons_append, List.nil_append]
 have hb3 := below_drew1 (Below.refl W2.heap.size W2)
 replace hD3 := hD3.below hb3
 replace hR3 := hR3.below hb3
 replace hbx := Stepb hb3 hbx
 replace hg4 := Stepb hb3 hg4
 replace ha5 := Stepb hb3 ha5
 replace hB3 := hB3.trans (hb3.mono hB3.size)
 replace hsz := Nat.le_trans hsz hb3.size
 clear hb3
 refine start_ (n := 11) (S := fun w' => w'.cell? ⟨T, 1, none⟩ = some (.slice A xs.length c) ∧ w'.cell? ⟨T, 2, none⟩ = some (.bool off) ∧ w'.cell? ⟨T, 3, none⟩ = some (.int .i64 fuse) ∧ w'.cell? ⟨T, 4, none⟩ = some (.int .i64 nw) ∧ w'.cell? ⟨w.heap.size + 1, 3, none⟩ = some (.int .i64 n)) (ds := [10]) #[false, false, false, false, false, false, false, false, false, false, false] (by kernel_rfl) rfl rfl ⟨t1, t2, t3, t4, a3⟩ (fun hHeld => ?_)
 generalize W2.drew = w3 at hHeld hD3 hR3 hbx hg4 ha5 hB3 hsz ⊢
 refine pure_ (i := 0) (N := some 231) (v := ?_) (a' := ?_) #[true, false, false, false, false, false, false, false, false, false, false] rfl rfl (by kernel_rfl) (fun _ _ _ h => h) (Or.inl ⟨by rfl, ?_⟩) ?_ ?_
 rotate_left
 ·intro w'
  go_simp
  with_reducible rfl
 rotate_left
 ·simp only [Act.put, List.setIfInBounds_toArray, List.set_cons_zero, List.set_cons_succ, i64_w, i32_w]
  rfl
 refine pure_ (i := 1) (N := some 232) (v := ?_) (a' := ?_) #[true, true, false, false, false, false, false, false, false, false, false] rfl rfl (by kernel_rfl) (fun _ _ _ h => h) (Or.inl ⟨by rfl, ?_⟩) ?_ ?_
 rotate_left
 ·intro w'
  go_simp
  with_reducible rfl
 rotate_left
 ·simp only [Act.put, List.setIfInBounds_toArray, List.set_cons_zero, List.set_cons_succ, i64_w, i32_w]
  rfl
 refine pure_ (i := 2) (N := some 233) (v := ?_) (a' := ?_) #[true, true, true, false, false, false, false, false, false, false, false] rfl rfl (by kernel_rfl) (fun _ _ _ h => h) (Or.inl ⟨by rfl, ?_⟩) ?_ ?_
 rotate_left
 ·intro w'
  go_simp
  with_reducible rfl
 rotate_left
 ·simp only [Act.put, List.setIfInBounds_toArray, List.set_cons_zero, List.set_cons_succ, i64_w, i32_w]
  rfl
 refine pure_ (i := 3) (N := some 234) (v := ?_) (a' := ?_) #[true, true, true, true, false, false, false, false, false, false, false] rfl rfl (by kernel_rfl) (fun _ _ _ h => h) (Or.inl ⟨by rfl, ?_⟩) ?_ ?_
 rotate_left
 ·intro w'
  go_simp
  with_reducible rfl
 rotate_left
 ·simp only [Act.put, List.setIfInBounds_toArray, List.set_cons_zero, List.set_cons_succ, i64_w, i32_w]
  rfl
 refine pure_ (i := 5) (N := some 236) (v := ?_) (a' := ?_) #[true, true, true, true, false, true, false, false, false, false, false] rfl rfl (by kernel_rfl) (fun _ _ _ h => h) (Or.inl ⟨by rfl, ?_⟩) ?_ ?_
 rotate_left
 ·intro w'
  go_simp
  with_reducible rfl
 rotate_left
 ·simp only [Act.put, List.setIfInBounds_toArray, List.set_cons_zero, List.set_cons_succ, i64_w, i32_w]
  rfl
 refine take_ (i := 4) (N := some 235) (v := ?_) (a' := ?_) #[true, true, true, true, true, true, false, false, false, false, false] rfl rfl (by kernel_rfl) (fun _ _ _ h => h) (Or.inl ⟨by rfl, ?_⟩) hHeld ?_ ?_
 rotate_left
 ·rintro w' ⟨s0, s1, s2, s3, s4⟩
  go_simp
  with_reducible rfl
 rotate_left
 ·simp only [Act.put, List.setIfInBounds_toArray, List.set_cons_zero, List.set_cons_succ, i64_w, i32_w]
  rfl
 refine take_ (i := 6) (N := some 237) (v := ?_) (a' := ?_) #[true, true, true, true, true, true, true, false, false, false, false] rfl rfl (by kernel_rfl) (fun _ _ _ h => h) (Or.inl ⟨by rfl, ?_⟩) hHeld ?_ ?_
 rotate_left
 ·rintro w' ⟨s0, s1, s2, s3, s4⟩
  go_simp
  with_reducible rfl
 rotate_left
 ·simp only [Act.put, List.setIfInBounds_toArray, List.set_cons_zero, List.set_cons_succ, i64_w, i32_w]
  rfl
 refine one_ (i := 7) (N := some 238) #[true, true, true, true, true, true, true, true, false, false, false] rfl rfl (by kernel_rfl) (by decide) (fun K hK => ?_)
 refine goes_ Tryd.func40 (by kernel_rfl) rfl #[.agg #[.slice A xs.length c, .bool off, .int .i64 fuse, .int .i64 nw], .int .i64 n] (by rfl) rfl rfl (by simp only [List.map_toArray, List.map_cons, List.map_nil]; rfl) ?_
 with_reducible refine (hRef _ hR3).mono ?_
 rintro e w3 ⟨A3, c3, rfl, hR4, hb3⟩
 refine ⟨_, rfl, ?_⟩
 replace hD3 := hD3.below hb3
 replace hR3 := hR4
 replace hbx := Stepb hb3 hbx
 replace hg4 := Stepb hb3 hg4
 replace ha5 := Stepb hb3 ha5
 replace hB3 := hB3.trans (hb3.mono hB3.size)
 replace hsz := Nat.le_trans hsz hb3.size
 refine hK.out _ _ ⟨pw_cell_below hb3 hHeld.1, pw_cell_below hb3 hHeld.2.1, pw_cell_below hb3 hHeld.2.2.1, pw_cell_below hb3 hHeld.2.2.2.1, pw_cell_below hb3 hHeld.2.2.2.2⟩ (fun hHeld => ?_)
 clear hK K
 refine norm_ (a' := ?_) ?_ ?_
 rotate_left
 ·show Act.put _ (some 238) _ = _
  simp only [Act.put, List.setIfInBounds_toArray, List.set_cons_zero, List.set_cons_succ, i64_w, i32_w]
  rfl
 refine pure_ (i := 8) (N := some 239) (v := ?_) (a' := ?_) #[true, true, true, true, true, true, true, true, true, false, false] rfl rfl (by kernel_rfl) (fun _ _ _ h => h) (Or.inl ⟨by rfl, ?_⟩) ?_ ?_
 rotate_left
 ·intro w'
  go_simp
  with_reducible rfl
 rotate_left
 ·simp only [Act.put, List.setIfInBounds_toArray, List.set_cons_zero, List.set_cons_succ, i64_w, i32_w]
  rfl
 refine pure_ (i := 9) (N := some 240) (v := ?_) (a' := ?_) #[true, true, true, true, true, true, true, true, true, true, false] rfl rfl (by kernel_rfl) (fun _ _ _ h => h) (Or.inl ⟨by rfl, ?_⟩) ?_ ?_
 rotate_left
 ·intro w'
  go_simp
  with_reducible rfl
 rotate_left
 ·simp only [Act.put, List.setIfInBounds_toArray, List.set_cons_zero, List.set_cons_succ, i64_w, i32_w]
  rfl
 refine last_ (i := 10) (N := none) #[true, true, true, true, true, true, true, true, true, true, true] rfl rfl (by kernel_rfl) (by decide) (fun K hK => ?_)
 obtain ⟨⟨z0, z1, z2, z3, z4⟩, q0, q1, q2, q3, q4⟩ := blk5 hbx
 refine skip_ (w1 := ?_) (by rfl) rfl ?_ ?_
 rotate_left
 ·go_simp
  rfl
 refine hK.out _ _ ?_
 clear hK K
 refine done_ (by kernel_rfl) ?_
 clear hHeld
 clear t0 t1 t2 t3 t4 e0 e1 e2 e3 e4 g0 g1 g2 g3 a0 a1 a2 a3 a4
 have hst9 := step_put5 w3 T (.slice A3 xs.length c3) (.bool o3) (.int .i64 l3) (.int .i64 m3)
 replace hD3 := hD3.step hst9 (fun k hk e => hnT (e ▸ hk))
 replace hR3 := ref_put5 hR3 hbx (.slice A3 xs.length c3) (.bool o3) (.int .i64 l3) (.int .i64 m3)
 replace hbx := put5 hbx (.slice A3 xs.length c3) (.bool o3) (.int .i64 l3) (.int .i64 m3)
 replace hg4 := hst9.block hg4 (fun e => by omega)
 replace ha5 := hst9.block ha5 (fun e => by omega)
 have hs3 : Step (fun k => i.In k ∨ k = T) w _ := (Step.of_below (S := fun k => i.In k ∨ k = T) hB3).trans hst9 (fun _ h => h) (fun k hk => Or.inl (Or.inr hk))
 replace hsz := Nat.le_trans hsz hst9.size
 clear hst9 hB3
 generalize ((((w3.setCell ⟨T, 1, none⟩ (.slice A3 xs.length c3)).setCell ⟨T, 2, none⟩ (.bool o3)).setCell ⟨T, 3, none⟩ (.int .i64 l3)).setCell ⟨T, 4, none⟩ (.int .i64 m3)) = W9 at hD3 hR3 hbx hg4 ha5 hs3 hsz ⊢
 obtain ⟨⟨t0, t1, t2, t3, t4⟩, e0, e1, e2, e3, e4⟩ := blk5 hbx
 obtain ⟨⟨g0, g1, g2, g3⟩, _⟩ := blk4 hg4
 obtain ⟨⟨a0, a1, a2, a3, a4⟩, _⟩ := blk5 ha5
 go_wp2_with fail
 try simp only [List.append_eq, List.cons_append, List.nil_append]
 have hb3 := below_drew1 (Below.refl W9.heap.size W9)
 replace hD3 := hD3.below hb3
 replace hR3 := hR3.below hb3
 replace hbx := Stepb hb3 hbx
 replace hg4 := Stepb hb3 hg4
 replace ha5 := Stepb hb3 ha5
 replace hs3 := hs3.trans (Step.of_below (S := fun k => i.In k ∨ k = T) hb3) (fun _ h => h) (fun _ h => Or.inl h)
 replace hsz := Nat.le_trans hsz hb3.size
 clear hb3
 refine start_ (n := 7) (S := fun w' => w'.cell? ⟨T, 0, none⟩ = some (.pointer (some ⟨i.d, 0, none⟩)) ∧ w'.cell? ⟨w.heap.size + 1, 3, none⟩ = some (.int .i64 n)) (ds := []) #[false, false, false, false, false, false, false] (by kernel_rfl) rfl rfl ⟨t0, a3⟩ (fun hHeld => ?_)
 generalize W9.drew = w3 at hHeld hD3 hR3 hbx hg4 ha5 hs3 hsz ⊢
 refine pure_ (i := 0) (N := some 241) (v := ?_) (a' := ?_) #[true, false, false, false, false, false, false] rfl rfl (by kernel_rfl) (fun _ _ _ h => h) (Or.inl ⟨by rfl, ?_⟩) ?_ ?_
 rotate_left
 ·intro w'
  go_simp
  with_reducible rfl
 rotate_left
 ·simp only [Act.put, List.setIfInBounds_toArray, List.set_cons_zero, List.set_cons_succ, i64_w, i32_w]
  rfl
 refine pure_ (i := 1) (N := some 242) (v := ?_) (a' := ?_) #[true, true, false, false, false, false, false] rfl rfl (by kernel_rfl) (fun _ _ _ h => h) (Or.inl ⟨by rfl, ?_⟩) ?_ ?_
 rotate_left
 ·intro w'
  go_simp
  with_reducible rfl
 rotate_left
 ·simp only [Act.put, List.setIfInBounds_toArray, List.set_cons_zero, List.set_cons_succ, i64_w, i32_w]
  rfl
 refine pure_ (i := 2) (N := some 243) (v := ?_) (a' := ?_) #[true, true, true, false, false, false, false] rfl rfl (by kernel_rfl) (fun _ _ _ h => h) (Or.inl ⟨by rfl, ?_⟩) ?_ ?_
 rotate_left
 ·intro w'
  go_simp
  with_reducible rfl
 rotate_left
 ·simp only [Act.put, List.setIfInBounds_toArray, List.set_cons_zero, List.set_cons_succ, i64_w, i32_w]
  rfl
 refine pure_ (i := 4) (N := some 245) (v := ?_) (a' := ?_) #[true, true, true, false, true, false, false] rfl rfl (by kernel_rfl) (fun _ _ _ h => h) (Or.inl ⟨by rfl, ?_⟩) ?_ ?_
 rotate_left
 ·intro w'
  go_simp
  with_reducible rfl
 rotate_left
 ·simp only [Act.put, List.setIfInBounds_toArray, List.set_cons_zero, List.set_cons_succ, i64_w, i32_w]
  rfl
 refine take_ (i := 3) (N := some 244) (v := ?_) (a' := ?_) #[true, true, true, true, true, false, false] rfl rfl (by kernel_rfl) (fun _ _ _ h => h) (Or.inl ⟨by rfl, ?_⟩) hHeld ?_ ?_
 rotate_left
 ·rintro w' ⟨s0, s1⟩
  go_simp
  with_reducible rfl
 rotate_left
 ·simp only [Act.put, List.setIfInBounds_toArray, List.set_cons_zero, List.set_cons_succ, i64_w, i32_w]
  rfl
 refine take_ (i := 5) (N := some 246) (v := ?_) (a' := ?_) #[true, true, true, true, true, true, false] rfl rfl (by kernel_rfl) (fun _ _ _ h => h) (Or.inl ⟨by rfl, ?_⟩) hHeld ?_ ?_
 rotate_left
 ·rintro w' ⟨s0, s1⟩
  go_simp
  with_reducible rfl
 rotate_left
 ·simp only [Act.put, List.setIfInBounds_toArray, List.set_cons_zero, List.set_cons_succ, i64_w, i32_w]
  rfl
 refine one_ (i := 6) (N := some 247) #[true, true, true, true, true, true, true] rfl rfl (by kernel_rfl) (by decide) (fun K hK => ?_)
 refine goes_ Tryd.func41 (by kernel_rfl) rfl #[.pointer (some ⟨i.d, 0, none⟩), .int .i64 n] (by rfl) rfl rfl (by simp only [List.map_toArray, List.map_cons, List.map_nil]; rfl) ?_
 with_reducible refine (hDev _ hD3).mono ?_
 rintro e w3 ⟨rfl, hD4, hs4⟩
 refine ⟨_, rfl, ?_⟩
 have hs4 := hs4
 replace hR3 := hR3.step hs4 (ref_dev hR3 hD3)
 replace hD3 := hD4
 replace hs3 := hs3.trans hs4 (fun _ h => h) (fun _ h => Or.inl (Or.inl h))
 replace hbx := hs4.block hbx hnT
 replace hsz := Nat.le_trans hsz hs4.size
 refine hK.out _ _ ⟨hs4.cell hHeld.1 hnT, hs4.cell hHeld.2 (fun h => by have h9 := hilt _ h; dsimp only at h9; omega)⟩ (fun hHeld => ?_)
 clear hK K
 refine norm_ (a' := ?_) ?_ ?_
 rotate_left
 ·show Act.put _ (some 247) _ = _
  simp only [Act.put, List.setIfInBounds_toArray, List.set_cons_zero, List.set_cons_succ, i64_w, i32_w]
  rfl
 refine done_ (by kernel_rfl) ?_
 clear hHeld
 go_wp2
 go_ret
 exact ⟨_, _, rfl, hD3, hR3, hbx, hs3⟩
set_option maxRecDepth 100000 in
set_option maxHeartbeats 8000000 in
theorem does_7 (w : World) (T : Nat) (i : DevIds) (A : Option Addr) (c : Nat) (xs : List ByteArray) (F : FL) (B : BL) (off : Bool) (fuse nw : Int) (sh gk gm C at_ n by_ : Int) (tx fs : ByteArray) (fy : Int) (hD : DevAt w i xs F B off fuse nw) (hR : RefAt w (.slice A xs.length c) xs F B) (hbx : w.heap[T]? = some (.cells #[.pointer (some ⟨i.d, 0, none⟩), .slice A xs.length c, .bool off, .int .i64 fuse, .int .i64 nw] 46 (0, 0)))
  (hF1 : ∀ W, Calls Tryd.prog 8 #[.agg #[.int .i64 sh, .int .i64 gk, .int .i64 gm, .int .i64 C], .string tx] W fun e w' => e = .returned (.tuple #[.string fs, .int .i64 fy]) ∧ Below W.heap.size W w')
  (hF2 : ∀ W, Calls Tryd.prog 30 #[.agg #[.int .i64 sh, .int .i64 gk, .int .i64 gm, .int .i64 C], .string tx] W fun e w' => e = .returned (.tuple #[.string fs, .int .i64 fy]) ∧ Below W.heap.size W w')
  {xs3 : List ByteArray} {F3 : FL} {B3 : BL} {o3 : Bool} {l3 m3 : Int}
  (hRef : ∀ W, RefAt W (.slice A xs.length c) xs F B → Calls Tryd.prog 42 #[.agg #[.slice A xs.length c, .bool off, .int .i64 fuse, .int .i64 nw], .slice none 0 0] W fun e w' => ∃ A3 c3, e = .returned (.agg #[.slice A3 xs.length c3, .bool o3, .int .i64 l3, .int .i64 m3]) ∧ RefAt w' (.slice A3 xs.length c3) xs3 F3 B3 ∧ Below W.heap.size W w')
  (hDev : ∀ W, DevAt W i xs F B off fuse nw → Calls Tryd.prog 43 #[.pointer (some ⟨i.d, 0, none⟩), .slice none 0 0] W fun e w' => e = .returned (.tuple #[]) ∧ DevAt w' i xs3 F3 B3 o3 l3 m3 ∧ Step i.In W w') :
  Calls Tryd.prog 14 #[.pointer (some ⟨T, 0, none⟩), .agg #[.int .i64 sh, .int .i64 gk, .int .i64 gm, .int .i64 C], .agg #[.int .i64 7, .int .i64 at_, .string tx, .int .i64 n, .int .u32 by_]] w fun e w' => ∃ A3 c3, e = .returned (.bool true) ∧ DevAt w' i xs3 F3 B3 o3 l3 m3 ∧ RefAt w' (.slice A3 xs.length c3) xs3 F3 B3 ∧ w'.heap[T]? = some (.cells #[.pointer (some ⟨i.d, 0, none⟩), .slice A3 xs.length c3, .bool o3, .int .i64 l3, .int .i64 m3] 46 (0, 0)) ∧ Step (fun k => i.In k ∨ k = T) w w' := by
 have hilt := hD.lt
 have hTlt := blk_lt hbx
 have hnT := dev_notT hD hbx
 have hB3 := below2 w (.cells #[.int .i64 sh, .int .i64 gk, .int .i64 gm, .int .i64 C] 23) (.cells #[.int .i64 7, .int .i64 at_, .string tx, .int .i64 n, .int .u32 by_] 48)
 have hg4 := new1of2 w (.cells #[.int .i64 sh, .int .i64 gk, .int .i64 gm, .int .i64 C] 23) (.cells #[.int .i64 7, .int .i64 at_, .string tx, .int .i64 n, .int .u32 by_] 48)
 have ha5 := new2 w (.cells #[.int .i64 sh, .int .i64 gk, .int .i64 gm, .int .i64 C] 23) (.cells #[.int .i64 7, .int .i64 at_, .string tx, .int .i64 n, .int .u32 by_] 48)
 have hsz : w.heap.size + 2 ≤ ((w.alloc (.cells #[.int .i64 sh, .int .i64 gk, .int .i64 gm, .int .i64 C] 23)).alloc (.cells #[.int .i64 7, .int .i64 at_, .string tx, .int .i64 n, .int .u32 by_] 48)).heap.size := by simp
 go_enter Tryd.func14, Tryd.ntmps14
 go_upto_region 1 with (fail)
 generalize (w.alloc (.cells #[.int .i64 sh, .int .i64 gk, .int .i64 gm, .int .i64 C] 23)).alloc (.cells #[.int .i64 7, .int .i64 at_, .string tx, .int .i64 n, .int .u32 by_] 48) = W at hB3 hg4 ha5 hsz ⊢
 have hD3 := hD.below hB3
 have hR3 := hR.below hB3
 replace hbx := Stepb hB3 hbx
 clear hD hR
 obtain ⟨⟨t0, t1, t2, t3, t4⟩, e0, e1, e2, e3, e4⟩ := blk5 hbx
 obtain ⟨⟨g0, g1, g2, g3⟩, _⟩ := blk4 hg4
 obtain ⟨⟨a0, a1, a2, a3, a4⟩, _⟩ := blk5 ha5
 go_wp2_with (first
  | (go_at_call 8; with_reducible refine (hF1 _).mono ?_; rintro e W1 ⟨rfl, hb3⟩; clear t0 t1 t2 t3 t4 e0 e1 e2 e3 e4 g0 g1 g2 g3 a0 a1 a2 a3 a4; replace hD3 := hD3.below hb3; replace hR3 := hR3.below hb3; replace hbx := Stepb hb3 hbx; replace hg4 := Stepb hb3 hg4; replace ha5 := Stepb hb3 ha5; replace hB3 := hB3.trans (hb3.mono hB3.size); replace hsz := Nat.le_trans hsz hb3.size; clear hb3; obtain ⟨⟨t0, t1, t2, t3, t4⟩, e0, e1, e2, e3, e4⟩ := blk5 hbx; obtain ⟨⟨g0, g1, g2, g3⟩, _⟩ := blk4 hg4; obtain ⟨⟨a0, a1, a2, a3, a4⟩, _⟩ := blk5 ha5)
  | (go_at_call 30; with_reducible refine (hF2 _).mono ?_; rintro e W2 ⟨rfl, hb3⟩; clear t0 t1 t2 t3 t4 e0 e1 e2 e3 e4 g0 g1 g2 g3 a0 a1 a2 a3 a4; replace hD3 := hD3.below hb3; replace hR3 := hR3.below hb3; replace hbx := Stepb hb3 hbx; replace hg4 := Stepb hb3 hg4; replace ha5 := Stepb hb3 ha5; replace hB3 := hB3.trans (hb3.mono hB3.size); replace hsz := Nat.le_trans hsz hb3.size; clear hb3; obtain ⟨⟨t0, t1, t2, t3, t4⟩, e0, e1, e2, e3, e4⟩ := blk5 hbx; obtain ⟨⟨g0, g1, g2, g3⟩, _⟩ := blk4 hg4; obtain ⟨⟨a0, a1, a2, a3, a4⟩, _⟩ := blk5 ha5)
  | (go_at_call 42; with_reducible refine (hRef _ hR3).mono ?_; rintro e W8 ⟨A3, c3, rfl, hR4, hb3⟩; clear t0 t1 t2 t3 t4 e0 e1 e2 e3 e4 g0 g1 g2 g3 a0 a1 a2 a3 a4; replace hD3 := hD3.below hb3; replace hR3 := hR4; replace hbx := Stepb hb3 hbx; replace hg4 := Stepb hb3 hg4; replace ha5 := Stepb hb3 ha5; replace hB3 := hB3.trans (hb3.mono hB3.size); replace hsz := Nat.le_trans hsz hb3.size; clear hb3 hR4; obtain ⟨⟨t0, t1, t2, t3, t4⟩, e0, e1, e2, e3, e4⟩ := blk5 hbx; obtain ⟨⟨g0, g1, g2, g3⟩, _⟩ := blk4 hg4; obtain ⟨⟨a0, a1, a2, a3, a4⟩, _⟩ := blk5 ha5)
  | (go_at_call 43; have hst9 := step_put5 W8 T (.slice A3 xs.length c3) (.bool o3) (.int .i64 l3) (.int .i64 m3); replace hD3 := hD3.step hst9 (fun k hk e => hnT (e ▸ hk)); replace hR3 := ref_put5 hR3 hbx (.slice A3 xs.length c3) (.bool o3) (.int .i64 l3) (.int .i64 m3); replace hbx := put5 hbx (.slice A3 xs.length c3) (.bool o3) (.int .i64 l3) (.int .i64 m3); replace hg4 := hst9.block hg4 (fun e => by omega); replace ha5 := hst9.block ha5 (fun e => by omega); have hs3 : Step (fun k => i.In k ∨ k = T) w _ := (Step.of_below (S := fun k => i.In k ∨ k = T) hB3).trans hst9 (fun _ h => h) (fun k hk => Or.inl (Or.inr hk)); replace hsz := Nat.le_trans hsz hst9.size; clear hst9 hB3; generalize ((((W8.setCell ⟨T, 1, none⟩ (.slice A3 xs.length c3)).setCell ⟨T, 2, none⟩ (.bool o3)).setCell ⟨T, 3, none⟩ (.int .i64 l3)).setCell ⟨T, 4, none⟩ (.int .i64 m3)) = W9 at hD3 hR3 hbx hg4 ha5 hs3 hsz ⊢; obtain ⟨⟨t0, t1, t2, t3, t4⟩, e0, e1, e2, e3, e4⟩ := blk5 hbx; obtain ⟨⟨g0, g1, g2, g3⟩, _⟩ := blk4 hg4; obtain ⟨⟨a0, a1, a2, a3, a4⟩, _⟩ := blk5 ha5; with_reducible refine (hDev _ hD3).mono ?_; rintro e w4 ⟨rfl, hD4, hs4⟩; have hs4 := hs4; replace hR3 := hR3.step hs4 (ref_dev hR3 hD3); replace hD3 := hD4; replace hs3 := hs3.trans hs4 (fun _ h => h) (fun _ h => Or.inl (Or.inl h)); replace hbx := hs4.block hbx hnT; replace hsz := Nat.le_trans hsz hs4.size))
 go_ret
 exact ⟨_, _, rfl, hD3, hR3, hbx, hs3⟩
set_option maxRecDepth 100000 in
set_option maxHeartbeats 8000000 in
theorem does_8 (w : World) (T : Nat) (i : DevIds) (A : Option Addr) (c : Nat) (xs : List ByteArray) (F : FL) (B : BL) (off : Bool) (fuse nw : Int) (sh gk gm C kd at_ n by_ : Int) (tx fs : ByteArray) (fy : Int) (hD : DevAt w i xs F B off fuse nw) (hR : RefAt w (.slice A xs.length c) xs F B) (hbx : w.heap[T]? = some (.cells #[.pointer (some ⟨i.d, 0, none⟩), .slice A xs.length c, .bool off, .int .i64 fuse, .int .i64 nw] 46 (0, 0)))
  (hF1 : ∀ W, Calls Tryd.prog 8 #[.agg #[.int .i64 sh, .int .i64 gk, .int .i64 gm, .int .i64 C], .string tx] W fun e w' => e = .returned (.tuple #[.string fs, .int .i64 fy]) ∧ Below W.heap.size W w')
  (hF2 : ∀ W, Calls Tryd.prog 30 #[.agg #[.int .i64 sh, .int .i64 gk, .int .i64 gm, .int .i64 C], .string tx] W fun e w' => e = .returned (.tuple #[.string fs, .int .i64 fy]) ∧ Below W.heap.size W w')
  {xs3 : List ByteArray} {F3 : FL} {B3 : BL} {o3 : Bool} {l3 m3 why : Int} (k0 : (kd == 0) = false) (k1 : (kd == 1) = false) (k2 : (kd == 2) = false) (k3 : (kd == 3) = false) (k4 : (kd == 4) = false) (k5 : (kd == 5) = false) (k6 : (kd == 6) = false) (k7 : (kd == 7) = false)
  (hRef : ∀ W, RefAt W (.slice A xs.length c) xs F B → Calls Tryd.prog 31 #[.agg #[.slice A xs.length c, .bool off, .int .i64 fuse, .int .i64 nw], .agg #[.int .i64 sh, .int .i64 gk, .int .i64 gm, .int .i64 C], .int .i64 at_, .string tx] W fun e w' => ∃ A3 c3, e = .returned (.tuple #[.agg #[.slice A3 xs.length c3, .bool o3, .int .i64 l3, .int .i64 m3], .int .i64 why]) ∧ RefAt w' (.slice A3 xs.length c3) xs3 F3 B3 ∧ Below W.heap.size W w')
  (hDev : ∀ W, DevAt W i xs F B off fuse nw → Calls Tryd.prog 10 #[.pointer (some ⟨i.d, 0, none⟩), .agg #[.int .i64 sh, .int .i64 gk, .int .i64 gm, .int .i64 C], .int .i64 at_, .string tx] W fun e w' => e = .returned (.int .i64 why) ∧ DevAt w' i xs3 F3 B3 o3 l3 m3 ∧ Step i.In W w') :
  Calls Tryd.prog 14 #[.pointer (some ⟨T, 0, none⟩), .agg #[.int .i64 sh, .int .i64 gk, .int .i64 gm, .int .i64 C], .agg #[.int .i64 kd, .int .i64 at_, .string tx, .int .i64 n, .int .u32 by_]] w fun e w' => ∃ A3 c3, e = .returned (.bool true) ∧ DevAt w' i xs3 F3 B3 o3 l3 m3 ∧ RefAt w' (.slice A3 xs.length c3) xs3 F3 B3 ∧ w'.heap[T]? = some (.cells #[.pointer (some ⟨i.d, 0, none⟩), .slice A3 xs.length c3, .bool o3, .int .i64 l3, .int .i64 m3] 46 (0, 0)) ∧ Step (fun k => i.In k ∨ k = T) w w' := by
 have hilt := hD.lt
 have hTlt := blk_lt hbx
 have hnT := dev_notT hD hbx
 have hB3 := below2 w (.cells #[.int .i64 sh, .int .i64 gk, .int .i64 gm, .int .i64 C] 23) (.cells #[.int .i64 kd, .int .i64 at_, .string tx, .int .i64 n, .int .u32 by_] 48)
 have hg4 := new1of2 w (.cells #[.int .i64 sh, .int .i64 gk, .int .i64 gm, .int .i64 C] 23) (.cells #[.int .i64 kd, .int .i64 at_, .string tx, .int .i64 n, .int .u32 by_] 48)
 have ha5 := new2 w (.cells #[.int .i64 sh, .int .i64 gk, .int .i64 gm, .int .i64 C] 23) (.cells #[.int .i64 kd, .int .i64 at_, .string tx, .int .i64 n, .int .u32 by_] 48)
 have hsz : w.heap.size + 2 ≤ ((w.alloc (.cells #[.int .i64 sh, .int .i64 gk, .int .i64 gm, .int .i64 C] 23)).alloc (.cells #[.int .i64 kd, .int .i64 at_, .string tx, .int .i64 n, .int .u32 by_] 48)).heap.size := by simp
 go_enter Tryd.func14, Tryd.ntmps14
 go_upto_region 1 with (fail)
 generalize (w.alloc (.cells #[.int .i64 sh, .int .i64 gk, .int .i64 gm, .int .i64 C] 23)).alloc (.cells #[.int .i64 kd, .int .i64 at_, .string tx, .int .i64 n, .int .u32 by_] 48) = W at hB3 hg4 ha5 hsz ⊢
 have hD3 := hD.below hB3
 have hR3 := hR.below hB3
 replace hbx := Stepb hB3 hbx
 clear hD hR
 obtain ⟨⟨t0, t1, t2, t3, t4⟩, e0, e1, e2, e3, e4⟩ := blk5 hbx
 obtain ⟨⟨g0, g1, g2, g3⟩, _⟩ := blk4 hg4
 obtain ⟨⟨a0, a1, a2, a3, a4⟩, _⟩ := blk5 ha5
 go_wp2_with (first
  | (go_at_call 8; with_reducible refine (hF1 _).mono ?_; rintro e W1 ⟨rfl, hb3⟩; clear t0 t1 t2 t3 t4 e0 e1 e2 e3 e4 g0 g1 g2 g3 a0 a1 a2 a3 a4; replace hD3 := hD3.below hb3; replace hR3 := hR3.below hb3; replace hbx := Stepb hb3 hbx; replace hg4 := Stepb hb3 hg4; replace ha5 := Stepb hb3 ha5; replace hB3 := hB3.trans (hb3.mono hB3.size); replace hsz := Nat.le_trans hsz hb3.size; clear hb3; obtain ⟨⟨t0, t1, t2, t3, t4⟩, e0, e1, e2, e3, e4⟩ := blk5 hbx; obtain ⟨⟨g0, g1, g2, g3⟩, _⟩ := blk4 hg4; obtain ⟨⟨a0, a1, a2, a3, a4⟩, _⟩ := blk5 ha5)
  | (go_at_call 30; with_reducible refine (hF2 _).mono ?_; rintro e W2 ⟨rfl, hb3⟩; clear t0 t1 t2 t3 t4 e0 e1 e2 e3 e4 g0 g1 g2 g3 a0 a1 a2 a3 a4; replace hD3 := hD3.below hb3; replace hR3 := hR3.below hb3; replace hbx := Stepb hb3 hbx; replace hg4 := Stepb hb3 hg4; replace ha5 := Stepb hb3 ha5; replace hB3 := hB3.trans (hb3.mono hB3.size); replace hsz := Nat.le_trans hsz hb3.size; clear hb3; obtain ⟨⟨t0, t1, t2, t3, t4⟩, e0, e1, e2, e3, e4⟩ := blk5 hbx; obtain ⟨⟨g0, g1, g2, g3⟩, _⟩ := blk4 hg4; obtain ⟨⟨a0, a1, a2, a3, a4⟩, _⟩ := blk5 ha5))
 try simp only [List.append_eq, List.cons_append, List.nil_append]
 have hb3 := below_drew1 (Below.refl W2.heap.size W2)
 replace hD3 := hD3.below hb3
 replace hR3 := hR3.below hb3
 replace hbx := Stepb hb3 hbx
 replace hg4 := Stepb hb3 hg4
 replace ha5 := Stepb hb3 ha5
 replace hB3 := hB3.trans (hb3.mono hB3.size)
 replace hsz := Nat.le_trans hsz hb3.size
 clear hb3
 refine start_ (n := 16) (S := fun w' => w'.cell? ⟨T, 1, none⟩ = some (.slice A xs.length c) ∧ w'.cell? ⟨T, 2, none⟩ = some (.bool off) ∧ w'.cell? ⟨T, 3, none⟩ = some (.int .i64 fuse) ∧ w'.cell? ⟨T, 4, none⟩ = some (.int .i64 nw) ∧ w'.cell? ⟨w.heap.size, 0, none⟩ = some (.int .i64 sh) ∧ w'.cell? ⟨w.heap.size, 1, none⟩ = some (.int .i64 gk) ∧ w'.cell? ⟨w.heap.size, 2, none⟩ = some (.int .i64 gm) ∧ w'.cell? ⟨w.heap.size, 3, none⟩ = some (.int .i64 C) ∧ w'.cell? ⟨w.heap.size + 1, 1, none⟩ = some (.int .i64 at_) ∧ w'.cell? ⟨w.heap.size + 1, 2, none⟩ = some (.string tx)) (ds := [14]) #[false, false, false, false, false, false, false, false, false, false, false, false, false, false, false, false] (by kernel_rfl) rfl rfl ⟨t1, t2, t3, t4, g0, g1, g2, g3, a1, a2⟩ (fun hHeld => ?_)
 generalize W2.drew = w3 at hHeld hD3 hR3 hbx hg4 ha5 hB3 hsz ⊢
 refine pure_ (i := 0) (N := some 264) (v := ?_) (a' := ?_) #[true, false, false, false, false, false, false, false, false, false, false, false, false, false, false, false] rfl rfl (by kernel_rfl) (fun _ _ _ h => h) (Or.inl ⟨by rfl, ?_⟩) ?_ ?_
 rotate_left
 ·intro w'
  go_simp
  with_reducible rfl
 rotate_left
 ·simp only [Act.put, List.setIfInBounds_toArray, List.set_cons_zero, List.set_cons_succ, i64_w, i32_w]
  rfl
 refine pure_ (i := 1) (N := some 265) (v := ?_) (a' := ?_) #[true, true, false, false, false, false, false, false, false, false, false, false, false, false, false, false] rfl rfl (by kernel_rfl) (fun _ _ _ h => h) (Or.inl ⟨by rfl, ?_⟩) ?_ ?_
 rotate_left
 ·intro w'
  go_simp
  with_reducible rfl
 rotate_left
 ·simp only [Act.put, List.setIfInBounds_toArray, List.set_cons_zero, List.set_cons_succ, i64_w, i32_w]
  rfl
 refine pure_ (i := 2) (N := some 266) (v := ?_) (a' := ?_) #[true, true, true, false, false, false, false, false, false, false, false, false, false, false, false, false] rfl rfl (by kernel_rfl) (fun _ _ _ h => h) (Or.inl ⟨by rfl, ?_⟩) ?_ ?_
 rotate_left
 ·intro w'
  go_simp
  with_reducible rfl
 rotate_left
 ·simp only [Act.put, List.setIfInBounds_toArray, List.set_cons_zero, List.set_cons_succ, i64_w, i32_w]
  rfl
 refine pure_ (i := 5) (N := some 269) (v := ?_) (a' := ?_) #[true, true, true, false, false, true, false, false, false, false, false, false, false, false, false, false] rfl rfl (by kernel_rfl) (fun _ _ _ h => h) (Or.inl ⟨by rfl, ?_⟩) ?_ ?_
 rotate_left
 ·intro w'
  go_simp
  with_reducible rfl
 rotate_left
 ·simp only [Act.put, List.setIfInBounds_toArray, List.set_cons_zero, List.set_cons_succ, i64_w, i32_w]
  rfl
 refine pure_ (i := 7) (N := some 271) (v := ?_) (a' := ?_) #[true, true, true, false, false, true, false, true, false, false, false, false, false, false, false, false] rfl rfl (by kernel_rfl) (fun _ _ _ h => h) (Or.inl ⟨by rfl, ?_⟩) ?_ ?_
 rotate_left
 ·intro w'
  go_simp
  with_reducible rfl
 rotate_left
 ·simp only [Act.put, List.setIfInBounds_toArray, List.set_cons_zero, List.set_cons_succ, i64_w, i32_w]
  rfl
 refine take_ (i := 3) (N := some 267) (v := ?_) (a' := ?_) #[true, true, true, true, false, true, false, true, false, false, false, false, false, false, false, false] rfl rfl (by kernel_rfl) (fun _ _ _ h => h) (Or.inl ⟨by rfl, ?_⟩) hHeld ?_ ?_
 rotate_left
 ·rintro w' ⟨s0, s1, s2, s3, s4, s5, s6, s7, s8, s9⟩
  go_simp
  with_reducible rfl
 rotate_left
 ·simp only [Act.put, List.setIfInBounds_toArray, List.set_cons_zero, List.set_cons_succ, i64_w, i32_w]
  rfl
 refine take_ (i := 4) (N := some 268) (v := ?_) (a' := ?_) #[true, true, true, true, true, true, false, true, false, false, false, false, false, false, false, false] rfl rfl (by kernel_rfl) (fun _ _ _ h => h) (Or.inl ⟨by rfl, ?_⟩) hHeld ?_ ?_
 rotate_left
 ·rintro w' ⟨s0, s1, s2, s3, s4, s5, s6, s7, s8, s9⟩
  go_simp
  with_reducible rfl
 rotate_left
 ·simp only [Act.put, List.setIfInBounds_toArray, List.set_cons_zero, List.set_cons_succ, i64_w, i32_w]
  rfl
 refine take_ (i := 6) (N := some 270) (v := ?_) (a' := ?_) #[true, true, true, true, true, true, true, true, false, false, false, false, false, false, false, false] rfl rfl (by kernel_rfl) (fun _ _ _ h => h) (Or.inl ⟨by rfl, ?_⟩) hHeld ?_ ?_
 rotate_left
 ·rintro w' ⟨s0, s1, s2, s3, s4, s5, s6, s7, s8, s9⟩
  go_simp
  with_reducible rfl
 rotate_left
 ·simp only [Act.put, List.setIfInBounds_toArray, List.set_cons_zero, List.set_cons_succ, i64_w, i32_w]
  rfl
 refine take_ (i := 8) (N := some 272) (v := ?_) (a' := ?_) #[true, true, true, true, true, true, true, true, true, false, false, false, false, false, false, false] rfl rfl (by kernel_rfl) (fun _ _ _ h => h) (Or.inl ⟨by rfl, ?_⟩) hHeld ?_ ?_
 rotate_left
 ·rintro w' ⟨s0, s1, s2, s3, s4, s5, s6, s7, s8, s9⟩
  go_simp
  with_reducible rfl
 rotate_left
 ·simp only [Act.put, List.setIfInBounds_toArray, List.set_cons_zero, List.set_cons_succ, i64_w, i32_w]
  rfl
 refine join_ (σ := Option Addr × Nat × Nat) 2 #[true, true, true, true, true, true, true, true, true, true, true, true, true, true, false, false] (fun s => [(273, .tuple #[.agg #[.slice s.1 xs.length s.2.1, .bool o3, .int .i64 l3, .int .i64 m3], .int .i64 why]), (263, .tuple #[.agg #[.slice s.1 xs.length s.2.1, .bool o3, .int .i64 l3, .int .i64 m3], .int .i64 why]), (274, .agg #[.slice s.1 xs.length s.2.1, .bool o3, .int .i64 l3, .int .i64 m3]), (275, .int .i64 why), (27, .pointer (some ⟨s.2.2, 0, none⟩))]) (fun s w' => (w'.cell? ⟨T, 1, none⟩ = some (.slice A xs.length c) ∧ w'.cell? ⟨T, 2, none⟩ = some (.bool off) ∧ w'.cell? ⟨T, 3, none⟩ = some (.int .i64 fuse) ∧ w'.cell? ⟨T, 4, none⟩ = some (.int .i64 nw) ∧ w'.cell? ⟨w.heap.size, 0, none⟩ = some (.int .i64 sh) ∧ w'.cell? ⟨w.heap.size, 1, none⟩ = some (.int .i64 gk) ∧ w'.cell? ⟨w.heap.size, 2, none⟩ = some (.int .i64 gm) ∧ w'.cell? ⟨w.heap.size, 3, none⟩ = some (.int .i64 C) ∧ w'.cell? ⟨w.heap.size + 1, 1, none⟩ = some (.int .i64 at_) ∧ w'.cell? ⟨w.heap.size + 1, 2, none⟩ = some (.string tx)) ∧ DevAt w' i xs F B off fuse nw ∧ RefAt w' (.slice s.1 xs.length s.2.1) xs3 F3 B3 ∧ w'.heap[T]? = some (.cells #[.pointer (some ⟨i.d, 0, none⟩), .slice A xs.length c, .bool off, .int .i64 fuse, .int .i64 nw] 46 (0, 0)) ∧ w'.heap[w.heap.size]? = some (.cells #[.int .i64 sh, .int .i64 gk, .int .i64 gm, .int .i64 C] 23 (0, 0)) ∧ w'.heap[w.heap.size + 1]? = some (.cells #[.int .i64 kd, .int .i64 at_, .string tx, .int .i64 n, .int .u32 by_] 48 (0, 0)) ∧ Below w.heap.size w w' ∧ w.heap.size + 2 ≤ w'.heap.size ∧ w'.heap[s.2.2]? = some (.cells #[.slice none 0 0, .bool false, .int .i64 0, .int .i64 0] 41 (0, 0)) ∧ w.heap.size + 2 ≤ s.2.2) ?_ ?_
 rotate_left
 ·intro hCont
  refine two_ (i := 9) (j := 13) (Ni := some 273) (Nj := some 27) #[true, true, true, true, true, true, true, true, true, true, false, false, false, false, false, false] #[true, true, true, true, true, true, true, true, true, false, false, false, false, true, false, false] rfl rfl rfl rfl (by kernel_rfl) (by decide) (by decide) (fun K hK => ?_) (fun K hK => ?_)
  ·skip
   refine goes_ Tryd.func31 (by kernel_rfl) rfl #[.agg #[.slice A xs.length c, .bool off, .int .i64 fuse, .int .i64 nw], .agg #[.int .i64 sh, .int .i64 gk, .int .i64 gm, .int .i64 C], .int .i64 at_, .string tx] (by rfl) rfl rfl (by simp only [List.map_toArray, List.map_cons, List.map_nil]; rfl) ?_
   with_reducible refine (hRef _ hR3).mono ?_
   rintro e w3 ⟨A3, c3, rfl, hR4, hb3⟩
   refine ⟨_, rfl, ?_⟩
   replace hD3 := hD3.below hb3
   replace hR3 := hR4
   replace hbx := Stepb hb3 hbx
   replace hg4 := Stepb hb3 hg4
   replace ha5 := Stepb hb3 ha5
   replace hB3 := hB3.trans (hb3.mono hB3.size)
   replace hsz := Nat.le_trans hsz hb3.size
   refine hK.out _ _ ⟨pw_cell_below hb3 hHeld.1, pw_cell_below hb3 hHeld.2.1, pw_cell_below hb3 hHeld.2.2.1, pw_cell_below hb3 hHeld.2.2.2.1, pw_cell_below hb3 hHeld.2.2.2.2.1, pw_cell_below hb3 hHeld.2.2.2.2.2.1, pw_cell_below hb3 hHeld.2.2.2.2.2.2.1, pw_cell_below hb3 hHeld.2.2.2.2.2.2.2.1, pw_cell_below hb3 hHeld.2.2.2.2.2.2.2.2.1, pw_cell_below hb3 hHeld.2.2.2.2.2.2.2.2.2⟩ (fun hHeld => ?_)
   clear hK K
   refine norm_ (a' := ?_) ?_ ?_
   rotate_left
   ·show Act.put _ (some 273) _ = _
    simp only [Act.put, List.setIfInBounds_toArray, List.set_cons_zero, List.set_cons_succ, i64_w, i32_w]
    rfl
   refine pure_ (i := 10) (N := some 263) (v := ?_) (a' := ?_) #[true, true, true, true, true, true, true, true, true, true, true, false, false, false, false, false] rfl rfl (by kernel_rfl) (fun _ _ _ h => h) (Or.inl ⟨by rfl, ?_⟩) ?_ ?_
   rotate_left
   ·intro w'
    go_simp
    with_reducible rfl
   rotate_left
   ·simp only [Act.put, List.setIfInBounds_toArray, List.set_cons_zero, List.set_cons_succ, i64_w, i32_w]
    rfl
   refine pure_ (i := 11) (N := some 274) (v := ?_) (a' := ?_) #[true, true, true, true, true, true, true, true, true, true, true, true, false, false, false, false] rfl rfl (by kernel_rfl) (fun _ _ _ h => h) (Or.inl ⟨by rfl, ?_⟩) ?_ ?_
   rotate_left
   ·intro w'
    go_simp
    with_reducible rfl
   rotate_left
   ·simp only [Act.put, List.setIfInBounds_toArray, List.set_cons_zero, List.set_cons_succ, i64_w, i32_w]
    rfl
   refine pure_ (i := 12) (N := some 275) (v := ?_) (a' := ?_) #[true, true, true, true, true, true, true, true, true, true, true, true, true, false, false, false] rfl rfl (by kernel_rfl) (fun _ _ _ h => h) (Or.inl ⟨by rfl, ?_⟩) ?_ ?_
   rotate_left
   ·intro w'
    go_simp
    with_reducible rfl
   rotate_left
   ·simp only [Act.put, List.setIfInBounds_toArray, List.set_cons_zero, List.set_cons_succ, i64_w, i32_w]
    rfl
   refine one_ (i := 13) (N := some 27) #[true, true, true, true, true, true, true, true, true, true, true, true, true, true, false, false] rfl rfl (by kernel_rfl) (by decide) (fun K hK => ?_)
   refine value_ (w1 := ?_) (v := ?_) (by rfl) rfl ?_ ?_
   rotate_left 2
   ·go_simp
    constructor
    ·rfl
    ·rfl
   have hb3 := below41 w3
   have hz8 := World.alloc_heap_new w3 (.cells #[.slice none 0 0, .bool false, .int .i64 0, .int .i64 0] 41)
   have hT8 := hsz
   generalize w3.heap.size = g8 at hz8 hT8 ⊢
   generalize w3.alloc (.cells #[.slice none 0 0, .bool false, .int .i64 0, .int .i64 0] 41) = w4 at hb3 hz8 ⊢
   replace hD3 := hD3.below hb3
   replace hR3 := hR3.below hb3
   replace hbx := Stepb hb3 hbx
   replace hg4 := Stepb hb3 hg4
   replace ha5 := Stepb hb3 ha5
   replace hB3 := hB3.trans (hb3.mono hB3.size)
   replace hsz := Nat.le_trans hsz hb3.size
   refine hK.out _ _ ⟨pw_cell_below hb3 hHeld.1, pw_cell_below hb3 hHeld.2.1, pw_cell_below hb3 hHeld.2.2.1, pw_cell_below hb3 hHeld.2.2.2.1, pw_cell_below hb3 hHeld.2.2.2.2.1, pw_cell_below hb3 hHeld.2.2.2.2.2.1, pw_cell_below hb3 hHeld.2.2.2.2.2.2.1, pw_cell_below hb3 hHeld.2.2.2.2.2.2.2.1, pw_cell_below hb3 hHeld.2.2.2.2.2.2.2.2.1, pw_cell_below hb3 hHeld.2.2.2.2.2.2.2.2.2⟩ (fun hHeld => ?_)
   clear hK K
   refine norm_ (a' := ?_) ?_ ?_
   rotate_left
   ·show Act.put _ (some 27) _ = _
    simp only [Act.put, List.setIfInBounds_toArray, List.set_cons_zero, List.set_cons_succ, i64_w, i32_w]
    rfl
   exact norm_ (by first | (simp only [putAll, Act.put, List.setIfInBounds_toArray, List.set_cons_zero, List.set_cons_succ]; done) | (simp only [putAll, Act.put, List.setIfInBounds_toArray, List.set_cons_zero, List.set_cons_succ]; rfl)) (hCont (A3, c3, g8) _ ⟨hHeld, hD3, hR3, hbx, hg4, ha5, hB3, hsz, hz8, hT8⟩)
  ·skip
   refine value_ (w1 := ?_) (v := ?_) (by rfl) rfl ?_ ?_
   rotate_left 2
   ·go_simp
    constructor
    ·rfl
    ·rfl
   have hb3 := below41 w3
   have hz8 := World.alloc_heap_new w3 (.cells #[.slice none 0 0, .bool false, .int .i64 0, .int .i64 0] 41)
   have hT8 := hsz
   generalize w3.heap.size = g8 at hz8 hT8 ⊢
   generalize w3.alloc (.cells #[.slice none 0 0, .bool false, .int .i64 0, .int .i64 0] 41) = w4 at hb3 hz8 ⊢
   replace hD3 := hD3.below hb3
   replace hR3 := hR3.below hb3
   replace hbx := Stepb hb3 hbx
   replace hg4 := Stepb hb3 hg4
   replace ha5 := Stepb hb3 ha5
   replace hB3 := hB3.trans (hb3.mono hB3.size)
   replace hsz := Nat.le_trans hsz hb3.size
   refine hK.out _ _ ⟨pw_cell_below hb3 hHeld.1, pw_cell_below hb3 hHeld.2.1, pw_cell_below hb3 hHeld.2.2.1, pw_cell_below hb3 hHeld.2.2.2.1, pw_cell_below hb3 hHeld.2.2.2.2.1, pw_cell_below hb3 hHeld.2.2.2.2.2.1, pw_cell_below hb3 hHeld.2.2.2.2.2.2.1, pw_cell_below hb3 hHeld.2.2.2.2.2.2.2.1, pw_cell_below hb3 hHeld.2.2.2.2.2.2.2.2.1, pw_cell_below hb3 hHeld.2.2.2.2.2.2.2.2.2⟩ (fun hHeld => ?_)
   clear hK K
   refine norm_ (a' := ?_) ?_ ?_
   rotate_left
   ·show Act.put _ (some 27) _ = _
    simp only [Act.put, List.setIfInBounds_toArray, List.set_cons_zero, List.set_cons_succ, i64_w, i32_w]
    rfl
   refine one_ (i := 9) (N := some 273) #[true, true, true, true, true, true, true, true, true, true, false, false, false, true, false, false] rfl rfl (by kernel_rfl) (by decide) (fun K hK => ?_)
   refine goes_ Tryd.func31 (by kernel_rfl) rfl #[.agg #[.slice A xs.length c, .bool off, .int .i64 fuse, .int .i64 nw], .agg #[.int .i64 sh, .int .i64 gk, .int .i64 gm, .int .i64 C], .int .i64 at_, .string tx] (by rfl) rfl rfl (by simp only [List.map_toArray, List.map_cons, List.map_nil]; rfl) ?_
   with_reducible refine (hRef _ hR3).mono ?_
   rintro e w3 ⟨A3, c3, rfl, hR4, hb3⟩
   refine ⟨_, rfl, ?_⟩
   replace hD3 := hD3.below hb3
   replace hR3 := hR4
   replace hbx := Stepb hb3 hbx
   replace hg4 := Stepb hb3 hg4
   replace ha5 := Stepb hb3 ha5
   replace hB3 := hB3.trans (hb3.mono hB3.size)
   replace hsz := Nat.le_trans hsz hb3.size
   replace hz8 := Stepb hb3 hz8
   refine hK.out _ _ ⟨pw_cell_below hb3 hHeld.1, pw_cell_below hb3 hHeld.2.1, pw_cell_below hb3 hHeld.2.2.1, pw_cell_below hb3 hHeld.2.2.2.1, pw_cell_below hb3 hHeld.2.2.2.2.1, pw_cell_below hb3 hHeld.2.2.2.2.2.1, pw_cell_below hb3 hHeld.2.2.2.2.2.2.1, pw_cell_below hb3 hHeld.2.2.2.2.2.2.2.1, pw_cell_below hb3 hHeld.2.2.2.2.2.2.2.2.1, pw_cell_below hb3 hHeld.2.2.2.2.2.2.2.2.2⟩ (fun hHeld => ?_)
   clear hK K
   refine norm_ (a' := ?_) ?_ ?_
   rotate_left
   ·show Act.put _ (some 273) _ = _
    simp only [Act.put, List.setIfInBounds_toArray, List.set_cons_zero, List.set_cons_succ, i64_w, i32_w]
    rfl
   refine pure_ (i := 10) (N := some 263) (v := ?_) (a' := ?_) #[true, true, true, true, true, true, true, true, true, true, true, false, false, true, false, false] rfl rfl (by kernel_rfl) (fun _ _ _ h => h) (Or.inl ⟨by rfl, ?_⟩) ?_ ?_
   rotate_left
   ·intro w'
    go_simp
    with_reducible rfl
   rotate_left
   ·simp only [Act.put, List.setIfInBounds_toArray, List.set_cons_zero, List.set_cons_succ, i64_w, i32_w]
    rfl
   refine pure_ (i := 11) (N := some 274) (v := ?_) (a' := ?_) #[true, true, true, true, true, true, true, true, true, true, true, true, false, true, false, false] rfl rfl (by kernel_rfl) (fun _ _ _ h => h) (Or.inl ⟨by rfl, ?_⟩) ?_ ?_
   rotate_left
   ·intro w'
    go_simp
    with_reducible rfl
   rotate_left
   ·simp only [Act.put, List.setIfInBounds_toArray, List.set_cons_zero, List.set_cons_succ, i64_w, i32_w]
    rfl
   refine pure_ (i := 12) (N := some 275) (v := ?_) (a' := ?_) #[true, true, true, true, true, true, true, true, true, true, true, true, true, true, false, false] rfl rfl (by kernel_rfl) (fun _ _ _ h => h) (Or.inl ⟨by rfl, ?_⟩) ?_ ?_
   rotate_left
   ·intro w'
    go_simp
    with_reducible rfl
   rotate_left
   ·simp only [Act.put, List.setIfInBounds_toArray, List.set_cons_zero, List.set_cons_succ, i64_w, i32_w]
    rfl
   exact norm_ (by first | (simp only [putAll, Act.put, List.setIfInBounds_toArray, List.set_cons_zero, List.set_cons_succ]; done) | (simp only [putAll, Act.put, List.setIfInBounds_toArray, List.set_cons_zero, List.set_cons_succ]; rfl)) (hCont (A3, c3, g8) _ ⟨hHeld, hD3, hR3, hbx, hg4, ha5, hB3, hsz, hz8, hT8⟩)
 rintro ⟨A3, c3, g8⟩ w3 ⟨hHeld, hD3, hR3, hbx, hg4, ha5, hB3, hsz, hz8, hT8⟩
 dsimp only at hR3 hz8 hT8
 refine norm_ (a' := ?_) ?_ ?_
 rotate_left
 ·simp only [putAll, Act.put, List.setIfInBounds_toArray, List.set_cons_zero, List.set_cons_succ]
  rfl
 refine last_ (i := 14) (N := none) #[true, true, true, true, true, true, true, true, true, true, true, true, true, true, true, false] rfl rfl (by kernel_rfl) (by decide) (fun K hK => ?_)
 obtain ⟨⟨z0, z1, z2, z3⟩, q0, q1, q2, q3⟩ := blk4 hz8
 refine skip_ (w1 := ?_) (by rfl) rfl ?_ ?_
 rotate_left
 ·go_simp
  rfl
 refine hK.out _ _ ?_
 clear hK K
 refine pure_ (i := 15) (N := some 28) (v := ?_) (a' := ?_) #[true, true, true, true, true, true, true, true, true, true, true, true, true, true, true, true] rfl rfl (by kernel_rfl) (fun _ _ _ h => h) (Or.inl ⟨by rfl, ?_⟩) ?_ ?_
 rotate_left
 ·intro w'
  go_simp
  with_reducible rfl
 rotate_left
 ·simp only [Act.put, List.setIfInBounds_toArray, List.set_cons_zero, List.set_cons_succ, i64_w, i32_w]
  rfl
 refine done_ (by kernel_rfl) ?_
 clear hHeld
 have hst8 := step_put4 w3 g8 (.slice A3 xs.length c3) (.bool o3) (.int .i64 l3) (.int .i64 m3)
 have hz9 := put4 hz8 (.slice A3 xs.length c3) (.bool o3) (.int .i64 l3) (.int .i64 m3)
 replace hD3 := hD3.step hst8 (fun k hk e => by have := hilt k hk; omega)
 replace hR3 := ref_put4 hR3 hz8 (.slice A3 xs.length c3) (.bool o3) (.int .i64 l3) (.int .i64 m3)
 replace hbx := hst8.block hbx (fun e => by omega)
 replace hg4 := hst8.block hg4 (fun e => by omega)
 replace ha5 := hst8.block ha5 (fun e => by omega)
 replace hB3 := below_put4 hB3 (g := g8) (by omega) (.slice A3 xs.length c3) (.bool o3) (.int .i64 l3) (.int .i64 m3)
 replace hsz := Nat.le_trans hsz hst8.size
 clear hz8 hst8
 generalize ((((w3.setCell ⟨g8, 0, none⟩ (.slice A3 xs.length c3)).setCell ⟨g8, 1, none⟩ (.bool o3)).setCell ⟨g8, 2, none⟩ (.int .i64 l3)).setCell ⟨g8, 3, none⟩ (.int .i64 m3)) = W8 at hz9 hD3 hR3 hbx hg4 ha5 hB3 hsz ⊢
 obtain ⟨⟨y0, y1, y2, y3⟩, _⟩ := blk4 hz9
 obtain ⟨⟨t0, t1, t2, t3, t4⟩, e0, e1, e2, e3, e4⟩ := blk5 hbx
 obtain ⟨⟨g0, g1, g2, g3⟩, _⟩ := blk4 hg4
 obtain ⟨⟨a0, a1, a2, a3, a4⟩, _⟩ := blk5 ha5
 go_wp2_with fail
 have hst9 := step_put5 W8 T (.slice A3 xs.length c3) (.bool o3) (.int .i64 l3) (.int .i64 m3)
 replace hD3 := hD3.step hst9 (fun k hk e => hnT (e ▸ hk))
 replace hR3 := ref_put5 hR3 hbx (.slice A3 xs.length c3) (.bool o3) (.int .i64 l3) (.int .i64 m3)
 replace hbx := put5 hbx (.slice A3 xs.length c3) (.bool o3) (.int .i64 l3) (.int .i64 m3)
 replace hg4 := hst9.block hg4 (fun e => by omega)
 replace ha5 := hst9.block ha5 (fun e => by omega)
 have hs3 : Step (fun k => i.In k ∨ k = T) w _ := (Step.of_below (S := fun k => i.In k ∨ k = T) hB3).trans hst9 (fun _ h => h) (fun k hk => Or.inl (Or.inr hk))
 replace hsz := Nat.le_trans hsz hst9.size
 clear hst9 hB3
 generalize ((((W8.setCell ⟨T, 1, none⟩ (.slice A3 xs.length c3)).setCell ⟨T, 2, none⟩ (.bool o3)).setCell ⟨T, 3, none⟩ (.int .i64 l3)).setCell ⟨T, 4, none⟩ (.int .i64 m3)) = W9 at hD3 hR3 hbx hg4 ha5 hs3 hsz ⊢
 obtain ⟨⟨t0, t1, t2, t3, t4⟩, e0, e1, e2, e3, e4⟩ := blk5 hbx
 obtain ⟨⟨g0, g1, g2, g3⟩, _⟩ := blk4 hg4
 obtain ⟨⟨a0, a1, a2, a3, a4⟩, _⟩ := blk5 ha5
 try simp only [List.append_eq, List.cons_append, List.nil_append]
 have hb3 := below_drew1 (Below.refl W9.heap.size W9)
 replace hD3 := hD3.below hb3
 replace hR3 := hR3.below hb3
 replace hbx := Stepb hb3 hbx
 replace hg4 := Stepb hb3 hg4
 replace ha5 := Stepb hb3 ha5
 replace hs3 := hs3.trans (Step.of_below (S := fun k => i.In k ∨ k = T) hb3) (fun _ h => h) (fun _ h => Or.inl h)
 replace hsz := Nat.le_trans hsz hb3.size
 clear hb3
 refine start_ (n := 13) (S := fun w' => w'.cell? ⟨T, 0, none⟩ = some (.pointer (some ⟨i.d, 0, none⟩)) ∧ w'.cell? ⟨w.heap.size, 0, none⟩ = some (.int .i64 sh) ∧ w'.cell? ⟨w.heap.size, 1, none⟩ = some (.int .i64 gk) ∧ w'.cell? ⟨w.heap.size, 2, none⟩ = some (.int .i64 gm) ∧ w'.cell? ⟨w.heap.size, 3, none⟩ = some (.int .i64 C) ∧ w'.cell? ⟨w.heap.size + 1, 1, none⟩ = some (.int .i64 at_) ∧ w'.cell? ⟨w.heap.size + 1, 2, none⟩ = some (.string tx)) (ds := []) #[false, false, false, false, false, false, false, false, false, false, false, false, false] (by kernel_rfl) rfl rfl ⟨t0, g0, g1, g2, g3, a1, a2⟩ (fun hHeld => ?_)
 generalize W9.drew = w3 at hHeld hD3 hR3 hbx hg4 ha5 hs3 hsz ⊢
 refine pure_ (i := 0) (N := some 280) (v := ?_) (a' := ?_) #[true, false, false, false, false, false, false, false, false, false, false, false, false] rfl rfl (by kernel_rfl) (fun _ _ _ h => h) (Or.inl ⟨by rfl, ?_⟩) ?_ ?_
 rotate_left
 ·intro w'
  go_simp
  with_reducible rfl
 rotate_left
 ·simp only [Act.put, List.setIfInBounds_toArray, List.set_cons_zero, List.set_cons_succ, i64_w, i32_w]
  rfl
 refine pure_ (i := 1) (N := some 281) (v := ?_) (a' := ?_) #[true, true, false, false, false, false, false, false, false, false, false, false, false] rfl rfl (by kernel_rfl) (fun _ _ _ h => h) (Or.inl ⟨by rfl, ?_⟩) ?_ ?_
 rotate_left
 ·intro w'
  go_simp
  with_reducible rfl
 rotate_left
 ·simp only [Act.put, List.setIfInBounds_toArray, List.set_cons_zero, List.set_cons_succ, i64_w, i32_w]
  rfl
 refine pure_ (i := 2) (N := some 282) (v := ?_) (a' := ?_) #[true, true, true, false, false, false, false, false, false, false, false, false, false] rfl rfl (by kernel_rfl) (fun _ _ _ h => h) (Or.inl ⟨by rfl, ?_⟩) ?_ ?_
 rotate_left
 ·intro w'
  go_simp
  with_reducible rfl
 rotate_left
 ·simp only [Act.put, List.setIfInBounds_toArray, List.set_cons_zero, List.set_cons_succ, i64_w, i32_w]
  rfl
 refine pure_ (i := 5) (N := some 285) (v := ?_) (a' := ?_) #[true, true, true, false, false, true, false, false, false, false, false, false, false] rfl rfl (by kernel_rfl) (fun _ _ _ h => h) (Or.inl ⟨by rfl, ?_⟩) ?_ ?_
 rotate_left
 ·intro w'
  go_simp
  with_reducible rfl
 rotate_left
 ·simp only [Act.put, List.setIfInBounds_toArray, List.set_cons_zero, List.set_cons_succ, i64_w, i32_w]
  rfl
 refine pure_ (i := 7) (N := some 287) (v := ?_) (a' := ?_) #[true, true, true, false, false, true, false, true, false, false, false, false, false] rfl rfl (by kernel_rfl) (fun _ _ _ h => h) (Or.inl ⟨by rfl, ?_⟩) ?_ ?_
 rotate_left
 ·intro w'
  go_simp
  with_reducible rfl
 rotate_left
 ·simp only [Act.put, List.setIfInBounds_toArray, List.set_cons_zero, List.set_cons_succ, i64_w, i32_w]
  rfl
 refine pure_ (i := 10) (N := some 290) (v := ?_) (a' := ?_) #[true, true, true, false, false, true, false, true, false, false, true, false, false] rfl rfl (by kernel_rfl) (fun _ _ _ h => h) (Or.inl ⟨by rfl, ?_⟩) ?_ ?_
 rotate_left
 ·intro w'
  go_simp
  with_reducible rfl
 rotate_left
 ·simp only [Act.put, List.setIfInBounds_toArray, List.set_cons_zero, List.set_cons_succ, i64_w, i32_w]
  rfl
 refine take_ (i := 3) (N := some 283) (v := ?_) (a' := ?_) #[true, true, true, true, false, true, false, true, false, false, true, false, false] rfl rfl (by kernel_rfl) (fun _ _ _ h => h) (Or.inl ⟨by rfl, ?_⟩) hHeld ?_ ?_
 rotate_left
 ·rintro w' ⟨s0, s1, s2, s3, s4, s5, s6⟩
  go_simp
  with_reducible rfl
 rotate_left
 ·simp only [Act.put, List.setIfInBounds_toArray, List.set_cons_zero, List.set_cons_succ, i64_w, i32_w]
  rfl
 refine take_ (i := 4) (N := some 284) (v := ?_) (a' := ?_) #[true, true, true, true, true, true, false, true, false, false, true, false, false] rfl rfl (by kernel_rfl) (fun _ _ _ h => h) (Or.inl ⟨by rfl, ?_⟩) hHeld ?_ ?_
 rotate_left
 ·rintro w' ⟨s0, s1, s2, s3, s4, s5, s6⟩
  go_simp
  with_reducible rfl
 rotate_left
 ·simp only [Act.put, List.setIfInBounds_toArray, List.set_cons_zero, List.set_cons_succ, i64_w, i32_w]
  rfl
 refine take_ (i := 6) (N := some 286) (v := ?_) (a' := ?_) #[true, true, true, true, true, true, true, true, false, false, true, false, false] rfl rfl (by kernel_rfl) (fun _ _ _ h => h) (Or.inl ⟨by rfl, ?_⟩) hHeld ?_ ?_
 rotate_left
 ·rintro w' ⟨s0, s1, s2, s3, s4, s5, s6⟩
  go_simp
  with_reducible rfl
 rotate_left
 ·simp only [Act.put, List.setIfInBounds_toArray, List.set_cons_zero, List.set_cons_succ, i64_w, i32_w]
  rfl
 refine take_ (i := 8) (N := some 288) (v := ?_) (a' := ?_) #[true, true, true, true, true, true, true, true, true, false, true, false, false] rfl rfl (by kernel_rfl) (fun _ _ _ h => h) (Or.inl ⟨by rfl, ?_⟩) hHeld ?_ ?_
 rotate_left
 ·rintro w' ⟨s0, s1, s2, s3, s4, s5, s6⟩
  go_simp
  with_reducible rfl
 rotate_left
 ·simp only [Act.put, List.setIfInBounds_toArray, List.set_cons_zero, List.set_cons_succ, i64_w, i32_w]
  rfl
 refine one_ (i := 9) (N := some 289) #[true, true, true, true, true, true, true, true, true, true, true, false, false] rfl rfl (by kernel_rfl) (by decide) (fun K hK => ?_)
 refine goes_ Tryd.func10 (by kernel_rfl) rfl #[.pointer (some ⟨i.d, 0, none⟩), .agg #[.int .i64 sh, .int .i64 gk, .int .i64 gm, .int .i64 C], .int .i64 at_, .string tx] (by rfl) rfl rfl (by simp only [List.map_toArray, List.map_cons, List.map_nil]; rfl) ?_
 with_reducible refine (hDev _ hD3).mono ?_
 rintro e w3 ⟨rfl, hD4, hs4⟩
 refine ⟨_, rfl, ?_⟩
 have hs4 := hs4
 replace hR3 := hR3.step hs4 (ref_dev hR3 hD3)
 replace hD3 := hD4
 replace hs3 := hs3.trans hs4 (fun _ h => h) (fun _ h => Or.inl (Or.inl h))
 replace hbx := hs4.block hbx hnT
 replace hsz := Nat.le_trans hsz hs4.size
 refine hK.out _ _ ⟨hs4.cell hHeld.1 hnT, hs4.cell hHeld.2.1 (fun h => by have h9 := hilt _ h; dsimp only at h9; omega), hs4.cell hHeld.2.2.1 (fun h => by have h9 := hilt _ h; dsimp only at h9; omega), hs4.cell hHeld.2.2.2.1 (fun h => by have h9 := hilt _ h; dsimp only at h9; omega), hs4.cell hHeld.2.2.2.2.1 (fun h => by have h9 := hilt _ h; dsimp only at h9; omega), hs4.cell hHeld.2.2.2.2.2.1 (fun h => by have h9 := hilt _ h; dsimp only at h9; omega), hs4.cell hHeld.2.2.2.2.2.2 (fun h => by have h9 := hilt _ h; dsimp only at h9; omega)⟩ (fun hHeld => ?_)
 clear hK K
 refine norm_ (a' := ?_) ?_ ?_
 rotate_left
 ·show Act.put _ (some 289) _ = _
  simp only [Act.put, List.setIfInBounds_toArray, List.set_cons_zero, List.set_cons_succ, i64_w, i32_w]
  rfl
 refine pure_ (i := 11) (N := some 291) (v := ?_) (a' := ?_) #[true, true, true, true, true, true, true, true, true, true, true, true, false] rfl rfl (by kernel_rfl) (fun _ _ _ h => h) (Or.inl ⟨by rfl, ?_⟩) ?_ ?_
 rotate_left
 ·intro w'
  go_simp
  with_reducible rfl
 rotate_left
 ·simp only [Act.put, List.setIfInBounds_toArray, List.set_cons_zero, List.set_cons_succ, i64_w, i32_w]
  rfl
 refine pure_ (i := 12) (N := some 6) (v := ?_) (a' := ?_) #[true, true, true, true, true, true, true, true, true, true, true, true, true] rfl rfl (by kernel_rfl) (fun _ _ _ h => h) (Or.inl ⟨by rfl, ?_⟩) ?_ ?_
 rotate_left
 ·intro w'
  go_simp
  with_reducible rfl
 rotate_left
 ·simp only [Act.put, List.setIfInBounds_toArray, List.set_cons_zero, List.set_cons_succ, i64_w, i32_w]
  rfl
 refine done_ (by kernel_rfl) ?_
 clear hHeld
 go_wp2
 go_ret
 exact ⟨_, _, rfl, hD3, hR3, hbx, hs3⟩
set_option maxRecDepth 100000 in
set_option maxHeartbeats 4000000 in
theorem dev_Garble_no (w : World) (i : DevIds) (xs : List ByteArray) (F : FL) (B : BL) (off : Bool) (fuse nw : Int) (at_ o b : Int) (h : DevAt w i xs F B off fuse nw) (hn : ¬ ((0 ≤ at_ ∧ at_ < xs.length) ∧ 0 ≤ o ∧ o ≤ 508)) :
  Calls Tryd.prog 37 #[.pointer (some ⟨i.d, 0, none⟩), .int .i64 at_, .int .i64 o, .int .u32 b] w fun e w' => e = .returned (.int .i64 1) ∧ w' = w := by
 have hH := dev_has_any w i xs F B off fuse nw at_ h
 go_enter Tryd.func37, Tryd.ntmps37
 go_wp2_with (go_at_call 60; refine hH.mono ?_)
 rintro e w1 ⟨rfl, rfl⟩
 by_cases hh : 0 ≤ at_ ∧ at_ < (xs.length : Int)
 ·have d1 : decide (0 ≤ at_ ∧ at_ < (xs.length : Int)) = true := decide_eq_true hh
  by_cases h0 : o < 0
  ·have d2 : decide (o < 0) = true := decide_eq_true h0
   rw [d1]
   go_wp2
   go_ret
   exact ⟨rfl, rfl⟩
  ·have h5 : 508 < o := by omega
   have d2 : decide (o < 0) = false := decide_eq_false h0
   have d3 : decide (508 < o) = true := decide_eq_true h5
   rw [d1]
   go_wp2
   go_ret
   exact ⟨rfl, rfl⟩
 ·have d1 : decide (0 ≤ at_ ∧ at_ < (xs.length : Int)) = false := decide_eq_false hh
  rw [d1]
  go_wp2
  go_ret
  exact ⟨rfl, rfl⟩
theorem flushP_len {xs : List ByteArray} {F : FL} {B : BL} {off : Bool} {left : Int} {xs3 : List ByteArray} {F3 : FL} {B3 : BL} {o3 : Bool} {l3 why : Int} (hq : flushP xs F B off left = (xs3, F3, B3, o3, l3, why)) : xs3.length = xs.length := by
 unfold flushP at hq
 split at hq
 ·simp only [Prod.mk.injEq] at hq; rw [← hq.1]
 ·split at hq
  ·simp only [Prod.mk.injEq] at hq; rw [← hq.1]
  ·simp only [Prod.mk.injEq] at hq; rw [← hq.1, landXs_len]
theorem ref_FlushR {xs : List ByteArray} {F : FL} {B : BL} {off : Bool} {left nw : Int} {xs3 : List ByteArray} {F3 : FL} {B3 : BL} {o3 : Bool} {l3 why : Int} (hq : flushP xs F B off left = (xs3, F3, B3, o3, l3, why)) (hl : xs3.length = xs.length) (w : World) (v : Value) (h : RefAt w v xs F B) (hok : DevOk xs F B left) :
  Calls Tryd.prog 38 #[.agg #[v, .bool off, .int .i64 left, .int .i64 nw]] w fun e w' => ∃ A3 c3, e = .returned (.tuple #[.agg #[.slice A3 xs.length c3, .bool o3, .int .i64 l3, .int .i64 nw], .int .i64 why]) ∧ RefAt w' (.slice A3 xs.length c3) xs3 F3 B3 ∧ Below w.heap.size w w' := by
 refine (ref_Flush w v xs F B off left nw h hok).mono ?_
 rintro e w' ⟨v', x1, x2, x3, x4, x5, x6, hq', rfl, hR, hb⟩
 rw [hq] at hq'
 simp only [Prod.mk.injEq] at hq'
 obtain ⟨rfl, rfl, rfl, rfl, rfl, rfl⟩ := hq'
 obtain ⟨A, c, rfl, _⟩ := hR.reads
 rw [hl] at hR ⊢
 exact ⟨A, c, rfl, hR, hb⟩
theorem dev_FlushR {xs : List ByteArray} {F : FL} {B : BL} {off : Bool} {fuse nw : Int} {xs3 : List ByteArray} {F3 : FL} {B3 : BL} {o3 : Bool} {l3 why : Int} (hq : flushP xs F B off fuse = (xs3, F3, B3, o3, l3, why)) (w : World) (i : DevIds) (h : DevAt w i xs F B off fuse nw) :
  Calls Tryd.prog 39 #[.pointer (some ⟨i.d, 0, none⟩)] w fun e w' => e = .returned (.int .i64 why) ∧ DevAt w' i xs3 F3 B3 o3 l3 nw ∧ Step i.In w w' := by
 refine (dev_Flush_any w i xs F B off fuse nw h).mono ?_
 rintro e w' ⟨x1, x2, x3, x4, x5, x6, hq', rfl, hD, hs⟩
 rw [hq] at hq'
 simp only [Prod.mk.injEq] at hq'
 obtain ⟨rfl, rfl, rfl, rfl, rfl, rfl⟩ := hq'
 exact ⟨rfl, hD, hs⟩
theorem ref_EraseR {xs : List ByteArray} {F : FL} {B : BL} {off : Bool} {left nw at_ : Int} (w : World) (v : Value) (h : RefAt w v xs F B) (hok : DevOk xs F B left) :
  Calls Tryd.prog 34 #[.agg #[v, .bool off, .int .i64 left, .int .i64 nw], .int .i64 at_] w fun e w' => ∃ A3 c3, e = .returned (.tuple #[.agg #[.slice A3 xs.length c3, .bool off, .int .i64 left, .int .i64 nw], .int .i64 (eraseP xs.length B at_).2]) ∧ RefAt w' (.slice A3 xs.length c3) xs F (eraseP xs.length B at_).1 ∧ Below w.heap.size w w' := by
 refine (ref_Erase w v xs F B off left nw at_ h hok).mono ?_
 rintro e w' ⟨v', rfl, hR, hb⟩
 obtain ⟨A, c, rfl, _⟩ := hR.reads
 exact ⟨A, c, rfl, hR, hb⟩
def garbP (xs : List ByteArray) (at_ o b : Int) : List ByteArray × Int := if (0 ≤ at_ ∧ at_ < xs.length) ∧ 0 ≤ o ∧ o ≤ 508 then (xs.set at_.toNat (strOfNums (grb (bytesOf (xs.getD at_.toNat ⟨#[]⟩)) o.toNat b 4)), 0) else (xs, 1)
theorem garbP_len {xs : List ByteArray} {at_ o b : Int} {xs3 : List ByteArray} {why : Int} (hq : garbP xs at_ o b = (xs3, why)) : xs3.length = xs.length := by
 unfold garbP at hq
 split at hq
 ·simp only [Prod.mk.injEq] at hq; rw [← hq.1, List.length_set]
 ·simp only [Prod.mk.injEq] at hq; rw [← hq.1]
theorem ref_GarbleR {xs : List ByteArray} {F : FL} {B : BL} {off : Bool} {left nw at_ o b : Int} {xs3 : List ByteArray} {why : Int} (hq : garbP xs at_ o b = (xs3, why)) (hb0 : 0 ≤ b) (hb1 : b < 4294967296) (w : World) (v : Value) (h : RefAt w v xs F B) (hok : DevOk xs F B left) :
  Calls Tryd.prog 36 #[.agg #[v, .bool off, .int .i64 left, .int .i64 nw], .int .i64 at_, .int .i64 o, .int .u32 b] w fun e w' => ∃ A3 c3, e = .returned (.tuple #[.agg #[.slice A3 xs.length c3, .bool off, .int .i64 left, .int .i64 nw], .int .i64 why]) ∧ RefAt w' (.slice A3 xs.length c3) xs3 F B ∧ Below w.heap.size w w' := by
 have hl := garbP_len hq
 by_cases hc : (0 ≤ at_ ∧ at_ < xs.length) ∧ 0 ≤ o ∧ o ≤ 508
 ·refine (ref_Garble w v xs F B off left nw at_ o b h hok hc.1.1 hc.1.2 hc.2.1 hc.2.2 hb0 hb1).mono ?_
  unfold garbP at hq
  rw [if_pos hc] at hq
  simp only [Prod.mk.injEq] at hq
  obtain ⟨rfl, rfl⟩ := hq
  rintro e w' ⟨v', rfl, hR, hb⟩
  obtain ⟨A, c, rfl, _⟩ := hR.reads
  rw [hl] at hR ⊢
  exact ⟨A, c, rfl, hR, hb⟩
 ·refine (ref_Garble_no w v xs F B off left nw at_ o b h hc).mono ?_
  unfold garbP at hq
  rw [if_neg hc] at hq
  simp only [Prod.mk.injEq] at hq
  obtain ⟨rfl, rfl⟩ := hq
  rintro e w' ⟨v', rfl, hR, hb⟩
  obtain ⟨A, c, rfl, _⟩ := hR.reads
  exact ⟨A, c, rfl, hR, hb⟩
theorem dev_GarbleR {xs : List ByteArray} {F : FL} {B : BL} {off : Bool} {fuse nw at_ o b : Int} {xs3 : List ByteArray} {why : Int} (hq : garbP xs at_ o b = (xs3, why)) (hb0 : 0 ≤ b) (hb1 : b < 4294967296) (w : World) (i : DevIds) (h : DevAt w i xs F B off fuse nw) :
  Calls Tryd.prog 37 #[.pointer (some ⟨i.d, 0, none⟩), .int .i64 at_, .int .i64 o, .int .u32 b] w fun e w' => e = .returned (.int .i64 why) ∧ DevAt w' i xs3 F B off fuse nw ∧ Step i.In w w' := by
 by_cases hc : (0 ≤ at_ ∧ at_ < xs.length) ∧ 0 ≤ o ∧ o ≤ 508
 ·unfold garbP at hq
  rw [if_pos hc] at hq
  simp only [Prod.mk.injEq] at hq
  obtain ⟨rfl, rfl⟩ := hq
  exact dev_Garble_any w i xs F B off fuse nw at_ o b h hc.1.1 hc.1.2 hc.2.1 hc.2.2 hb0 hb1
 ·unfold garbP at hq
  rw [if_neg hc] at hq
  simp only [Prod.mk.injEq] at hq
  obtain ⟨rfl, rfl⟩ := hq
  refine (dev_Garble_no w i xs F B off fuse nw at_ o b h hc).mono ?_
  rintro e w' ⟨rfl, rfl⟩
  exact ⟨rfl, h, Step.refl _ _⟩
theorem fillP_size {sh K M C : Int} {s : ByteArray} : (fillP sh K M C s).1.size ≤ 1000000 := by
 unfold fillP
 split
 ·rename_i hg
  have := nS_le hg.2.1
  split
  ·rename_i hs
   rw [fillG_size _ _ hs]
   omega
  ·exact Nat.zero_le _
 ·exact Nat.zero_le _
theorem does_any (w : World) (T : Nat) (i : DevIds) (A : Option Addr) (c : Nat) (xs : List ByteArray) (F : FL) (B : BL) (off : Bool) (fuse nw : Int) (sh gk gm C kd at_ n by_ : Int) (tx : ByteArray) (hD : DevAt w i xs F B off fuse nw) (hR : RefAt w (.slice A xs.length c) xs F B) (hbx : w.heap[T]? = some (.cells #[.pointer (some ⟨i.d, 0, none⟩), .slice A xs.length c, .bool off, .int .i64 fuse, .int .i64 nw] 46 (0, 0)))
  (hT : TabAt w) (htx : tx.size ≤ 1000000) (hn : (Lit.int .i64 n).wf = true) (hb0 : 0 ≤ by_) (hb1 : by_ < 4294967296) :
  Calls Tryd.prog 14 #[.pointer (some ⟨T, 0, none⟩), .agg #[.int .i64 sh, .int .i64 gk, .int .i64 gm, .int .i64 C], .agg #[.int .i64 kd, .int .i64 at_, .string tx, .int .i64 n, .int .u32 by_]] w fun e w' => ∃ A3 c3 xs3 F3 B3 o3 l3 m3, e = .returned (.bool true) ∧ xs3.length = xs.length ∧ DevAt w' i xs3 F3 B3 o3 l3 m3 ∧ RefAt w' (.slice A3 xs.length c3) xs3 F3 B3 ∧ w'.heap[T]? = some (.cells #[.pointer (some ⟨i.d, 0, none⟩), .slice A3 xs.length c3, .bool o3, .int .i64 l3, .int .i64 m3] 46 (0, 0)) ∧ Step (fun k => i.In k ∨ k = T) w w' := by
 have hok := hD.ok
 have hnF := hD.2.2.1.nodup
 have hF1 : ∀ W, Calls Tryd.prog 8 #[.agg #[.int .i64 sh, .int .i64 gk, .int .i64 gm, .int .i64 C], .string tx] W fun e w' => e = .returned (.tuple #[.string (fillP sh gk gm C tx).1, .int .i64 (fillP sh gk gm C tx).2]) ∧ Below W.heap.size W w' := fun W => cluster_Fill_any sh gk gm C tx W (by omega)
 have hF2 : ∀ W, Calls Tryd.prog 30 #[.agg #[.int .i64 sh, .int .i64 gk, .int .i64 gm, .int .i64 C], .string tx] W fun e w' => e = .returned (.tuple #[.string (fillP sh gk gm C tx).1, .int .i64 (fillP sh gk gm C tx).2]) ∧ Below W.heap.size W w' := fun W => ref_Fill_any sh gk gm C tx htx W
 have hfs : (fillP sh gk gm C tx).1.size ≤ 1000000 := fillP_size
 generalize (fillP sh gk gm C tx).1 = fs at hF1 hF2 hfs
 generalize (fillP sh gk gm C tx).2 = fy at hF1 hF2
 by_cases h0 : kd = 0
 ·subst h0
  obtain ⟨R, hRe⟩ : ∃ R, R = writeA xs.length ⟨F, off, fuse, nw, 0⟩ sh gk gm C at_ fs := ⟨_, rfl⟩
  refine (does_0 w T i A c xs F B off fuse nw sh gk gm C at_ n by_ tx fs fy hD hR hbx hF1 hF2 (xs3 := xs) (F3 := R.F) (B3 := B) (o3 := R.off) (l3 := R.fuse) (m3 := R.nw) (why := R.e) (fun W h => ref_Write_all W _ xs F B off fuse nw sh gk gm C at_ fs h hok hnF R hRe) (fun W h => cluster_Write_all W i xs F B off fuse nw sh gk gm C at_ fs h R hRe)).mono ?_
  rintro e w' ⟨A3, c3, rfl, h1, h2, h3, h4⟩
  exact ⟨A3, c3, _, _, _, _, _, _, rfl, rfl, h1, h2, h3, h4⟩
 by_cases h1 : kd = 1
 ·subst h1
  refine (does_1 w T i A c xs F B off fuse nw sh gk gm C at_ n by_ tx fs fy hD hR hbx hF1 hF2 (sum := sumC fs) (fun W h => crc_Sum_any fs W (hT.below h) hfs) (fun W h => ref_Read_all W _ xs F B off fuse nw fuse sh gk gm C at_ (sumC fs) h hok) (fun W hb h => (cluster_Read_all W i xs F B off fuse nw sh gk gm C at_ (sumC fs) (hT.below hb) h).mono (fun e w' hh => ⟨hh.1, hh.2.below (Nat.le_refl _) (fun _ h => h.elim)⟩))).mono ?_
  rintro e w' ⟨rfl, hb⟩
  exact ⟨A, c, _, _, _, _, _, _, rfl, rfl, hD.below hb, hR.below hb, Stepb hb hbx, Step.of_below hb⟩
 by_cases h2 : kd = 2
 ·subst h2
  refine (does_2 w T i A c xs F B off fuse nw sh gk gm C at_ n by_ tx fs fy hD hR hbx hF1 hF2 (fun W h => ref_Raw_all W _ xs F B off fuse nw fuse sh gk gm C at_ h hok) (fun W hb h => (cluster_Raw_all W i xs F B off fuse nw sh gk gm C at_ h).mono (fun e w' hh => ⟨hh.1, hh.2.below (Nat.le_refl _) (fun _ h => h.elim)⟩))).mono ?_
  rintro e w' ⟨rfl, hb⟩
  exact ⟨A, c, _, _, _, _, _, _, rfl, rfl, hD.below hb, hR.below hb, Stepb hb hbx, Step.of_below hb⟩
 by_cases h3 : kd = 3
 ·subst h3
  refine (does_3 w T i A c xs F B off fuse nw sh gk gm C at_ n by_ tx fs fy hD hR hbx hF1 hF2 (fun W h => ref_EraseR W _ h hok) (fun W h => dev_Erase_any W i xs F B off fuse nw at_ h)).mono ?_
  rintro e w' ⟨A3, c3, rfl, h1, h2, h3, h4⟩
  exact ⟨A3, c3, _, _, _, _, _, _, rfl, rfl, h1, h2, h3, h4⟩
 by_cases h4 : kd = 4
 ·subst h4
  obtain ⟨xs3, why, hq⟩ : ∃ xs3 why, garbP xs at_ n by_ = (xs3, why) := ⟨_, _, rfl⟩
  refine (does_4 w T i A c xs F B off fuse nw sh gk gm C at_ n by_ tx fs fy hD hR hbx hF1 hF2 (fun W h => ref_GarbleR hq hb0 hb1 W _ h hok) (fun W h => dev_GarbleR hq hb0 hb1 W i h)).mono ?_
  rintro e w' ⟨A3, c3, rfl, h1, h2, h3, h4⟩
  exact ⟨A3, c3, _, _, _, _, _, _, rfl, garbP_len hq, h1, h2, h3, h4⟩
 by_cases h5 : kd = 5
 ·subst h5
  obtain ⟨xs3, F3, B3, o3, l3, why, hq⟩ : ∃ xs3 F3 B3 o3 l3 why, flushP xs F B off fuse = (xs3, F3, B3, o3, l3, why) := ⟨_, _, _, _, _, _, rfl⟩
  refine (does_5 w T i A c xs F B off fuse nw sh gk gm C at_ n by_ tx fs fy hD hR hbx hF1 hF2 (fun W h => ref_FlushR hq (flushP_len hq) W _ h hok) (fun W h => dev_FlushR hq W i h)).mono ?_
  rintro e w' ⟨A3, c3, rfl, h1, h2, h3, h4⟩
  exact ⟨A3, c3, _, _, _, _, _, _, rfl, flushP_len hq, h1, h2, h3, h4⟩
 by_cases h6 : kd = 6
 ·subst h6
  refine (does_6 w T i A c xs F B off fuse nw sh gk gm C at_ n by_ tx fs fy hD hR hbx hF1 hF2 (fun W h => (ref_Fuse W _ xs F B off fuse nw n h).mono (fun e w' hh => ⟨A, c, hh.1, h.below hh.2, hh.2⟩)) (fun W h => dev_Fuse_any W i xs F B off fuse nw n h hn)).mono ?_
  rintro e w' ⟨A3, c3, rfl, h1, h2, h3, h4⟩
  exact ⟨A3, c3, _, _, _, _, _, _, rfl, rfl, h1, h2, h3, h4⟩
 by_cases h7 : kd = 7
 ·subst h7
  have hkr : ∀ W, Kd.C Kd.bool W none ([] : List Bool).length [] := fun W => ⟨rfl, by decide, fun h => absurd h (by decide)⟩
  refine (does_7 w T i A c xs F B off fuse nw sh gk gm C at_ n by_ tx fs fy hD hR hbx hF1 hF2 (xs3 := landXs xs (crashV F (keysI F) [])) (fun W h => (ref_Crash W _ xs F B off fuse nw none 0 [] h hok hnF (hkr W) (by decide)).mono (fun e w' hh => by
   obtain ⟨v', rfl, hR, hb⟩ := hh
   obtain ⟨A3, c3, rfl, _⟩ := hR.reads
   rw [landXs_len] at hR ⊢
   exact ⟨A3, c3, rfl, hR, hb⟩)) (fun W h => dev_Crash_any W i xs F B off fuse nw none 0 [] h (hkr W) (by decide) (fun a ha => by cases ha))).mono ?_
  rintro e w' ⟨A3, c3, rfl, h1, h2, h3, h4⟩
  exact ⟨A3, c3, _, _, _, _, _, _, rfl, landXs_len _ _, h1, h2, h3, h4⟩
 have hne : ∀ j : Int, kd ≠ j → (kd == j) = false := fun j h => beq_eq_false_iff_ne.2 h
 obtain ⟨R, hRe⟩ : ∃ R, R = writeA xs.length ⟨F, off, fuse, nw, 0⟩ sh gk gm C at_ tx := ⟨_, rfl⟩
 refine (does_8 w T i A c xs F B off fuse nw sh gk gm C kd at_ n by_ tx fs fy hD hR hbx hF1 hF2 (hne 0 h0) (hne 1 h1) (hne 2 h2) (hne 3 h3) (hne 4 h4) (hne 5 h5) (hne 6 h6) (hne 7 h7) (xs3 := xs) (F3 := R.F) (B3 := B) (o3 := R.off) (l3 := R.fuse) (m3 := R.nw) (why := R.e) (fun W h => ref_Write_all W _ xs F B off fuse nw sh gk gm C at_ tx h hok hnF R hRe) (fun W h => cluster_Write_all W i xs F B off fuse nw sh gk gm C at_ tx h R hRe)).mono ?_
 rintro e w' ⟨A3, c3, rfl, h1, h2, h3, h4⟩
 exact ⟨A3, c3, _, _, _, _, _, _, rfl, rfl, h1, h2, h3, h4⟩
end

end Go.Proofs.YtpbkcdodpjpoeaaDoor.HCP
