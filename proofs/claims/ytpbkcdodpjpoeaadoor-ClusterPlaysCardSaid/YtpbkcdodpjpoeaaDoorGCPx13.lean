/- WRITTEN BY wip/hyb.py, a program of this workplace (out of the kit's printer and this workplace's own contracts). -/
import Derived.Test.YtpbkcdodpjpoeaaDoorGCPx0
import Derived.Test.YtpbkcdodpjpoeaaDoorGCPx2
import Derived.Test.YtpbkcdodpjpoeaaDoorGCPx4
import Derived.Test.YtpbkcdodpjpoeaaDoorGCPx11
import Derived.Test.YtpbkcdodpjpoeaaDoorGCPx12
namespace Go.Proofs.YtpbkcdodpjpoeaaDoor.HCP
open Go.RowKit Go.Proofs.YtpbkcdodpjpoeaaDoorW.PrintWords Go.Proofs.YtpbkcdodpjpoeaaDoorW.PrintLast Go.Proofs.YtpbkcdodpjpoeaaDoorW.PrintMore
attribute [local go_sem] max2_int min2_int max_two min_two max_three min_three max_four min_four   -- for this text's walks alone
set_option linter.unusedVariables false
set_option linter.unusedSimpArgs false

section
open Go Go.Shelf Go.Maps Go.Proofs.YtpbkcdodpjpoeaaDoor.Seq Go.Proofs.YtpbkcdodpjpoeaaDoor.MapL Go.Proofs.YtpbkcdodpjpoeaaDoorW.PrintLast
attribute [local go_sem] Oper.semAt_some max2_int min2_int max_two min_two
set_option maxRecDepth 100000 in
set_option maxHeartbeats 8000000 in
theorem does_3 (w : World) (T : Nat) (i : DevIds) (A : Option Addr) (c : Nat) (xs : List ByteArray) (F : FL) (B : BL) (off : Bool) (fuse nw : Int) (sh gk gm C at_ n by_ : Int) (tx fs : ByteArray) (fy : Int) (hD : DevAt w i xs F B off fuse nw) (hR : RefAt w (.slice A xs.length c) xs F B) (hbx : w.heap[T]? = some (.cells #[.pointer (some ⟨i.d, 0, none⟩), .slice A xs.length c, .bool off, .int .i64 fuse, .int .i64 nw] 46 (0, 0)))
  (hF1 : ∀ W, Calls Tryd.prog 8 #[.agg #[.int .i64 sh, .int .i64 gk, .int .i64 gm, .int .i64 C], .string tx] W fun e w' => e = .returned (.tuple #[.string fs, .int .i64 fy]) ∧ Below W.heap.size W w')
  (hF2 : ∀ W, Calls Tryd.prog 30 #[.agg #[.int .i64 sh, .int .i64 gk, .int .i64 gm, .int .i64 C], .string tx] W fun e w' => e = .returned (.tuple #[.string fs, .int .i64 fy]) ∧ Below W.heap.size W w')
  {xs3 : List ByteArray} {F3 : FL} {B3 : BL} {o3 : Bool} {l3 m3 why : Int}
  (hRef : ∀ W, RefAt W (.slice A xs.length c) xs F B → Calls Tryd.prog 34 #[.agg #[.slice A xs.length c, .bool off, .int .i64 fuse, .int .i64 nw], .int .i64 at_] W fun e w' => ∃ A3 c3, e = .returned (.tuple #[.agg #[.slice A3 xs.length c3, .bool o3, .int .i64 l3, .int .i64 m3], .int .i64 why]) ∧ RefAt w' (.slice A3 xs.length c3) xs3 F3 B3 ∧ Below W.heap.size W w')
  (hDev : ∀ W, DevAt W i xs F B off fuse nw → Calls Tryd.prog 35 #[.pointer (some ⟨i.d, 0, none⟩), .int .i64 at_] W fun e w' => e = .returned (.int .i64 why) ∧ DevAt w' i xs3 F3 B3 o3 l3 m3 ∧ Step i.In W w') :
  Calls Tryd.prog 14 #[.pointer (some ⟨T, 0, none⟩), .agg #[.int .i64 sh, .int .i64 gk, .int .i64 gm, .int .i64 C], .agg #[.int .i64 3, .int .i64 at_, .string tx, .int .i64 n, .int .u32 by_]] w fun e w' => ∃ A3 c3, e = .returned (.bool true) ∧ DevAt w' i xs3 F3 B3 o3 l3 m3 ∧ RefAt w' (.slice A3 xs.length c3) xs3 F3 B3 ∧ w'.heap[T]? = some (.cells #[.pointer (some ⟨i.d, 0, none⟩), .slice A3 xs.length c3, .bool o3, .int .i64 l3, .int .i64 m3] 46 (0, 0)) ∧ Step (fun k => i.In k ∨ k = T) w w' := by
 have hilt := hD.lt
 have hTlt := blk_lt hbx
 have hnT := dev_notT hD hbx
 have hB3 := below2 w (.cells #[.int .i64 sh, .int .i64 gk, .int .i64 gm, .int .i64 C] 23) (.cells #[.int .i64 3, .int .i64 at_, .string tx, .int .i64 n, .int .u32 by_] 48)
 have hg4 := new1of2 w (.cells #[.int .i64 sh, .int .i64 gk, .int .i64 gm, .int .i64 C] 23) (.cells #[.int .i64 3, .int .i64 at_, .string tx, .int .i64 n, .int .u32 by_] 48)
 have ha5 := new2 w (.cells #[.int .i64 sh, .int .i64 gk, .int .i64 gm, .int .i64 C] 23) (.cells #[.int .i64 3, .int .i64 at_, .string tx, .int .i64 n, .int .u32 by_] 48)
 have hsz : w.heap.size + 2 ≤ ((w.alloc (.cells #[.int .i64 sh, .int .i64 gk, .int .i64 gm, .int .i64 C] 23)).alloc (.cells #[.int .i64 3, .int .i64 at_, .string tx, .int .i64 n, .int .u32 by_] 48)).heap.size := by simp
 go_enter Tryd.func14, Tryd.ntmps14
 go_upto_region 1 with (fail)
 generalize (w.alloc (.cells #[.int .i64 sh, .int .i64 gk, .int .i64 gm, .int .i64 C] 23)).alloc (.cells #[.int .i64 3, .int .i64 at_, .string tx, .int .i64 n, .int .u32 by_] 48) = W at hB3 hg4 ha5 hsz ⊢
 have hD3 := hD.below hB3
 have hR3 := hR.below hB3
 replace hbx := Stepb hB3 hbx
 clear hD hR
 obtain ⟨⟨t0, t1, t2, t3, t4⟩, e0, e1, e2, e3, e4⟩ := blk5 hbx
 obtain ⟨⟨g0, g1, g2, g3⟩, _⟩ := blk4 hg4
 obtain ⟨⟨a0, a1, a2, a3, a4⟩, _⟩ := blk5 ha5
 go_wp2_with (first
  | (go_at_call 8; with_reducible refine (hF1 _).mono ?_; rintro e W1 ⟨rfl, hb3⟩; clear t0 t1 t2 t3 t4 e0 e1 e2 e3 e4 g0 g1 g2 g3 a0 a1 a2 a3 a4; replace hD3 := hD3.below hb3; replace hR3 := hR3.below hb3; replace hbx := Stepb hb3 hbx; replace hg4 := Stepb hb3 hg4; replace ha5 := Stepb hb3 ha5; replace hB3 := hB3.trans (hb3.mono hB3.size); replace hsz := Nat.le_trans hsz hb3.size; clear hb3; obtain ⟨⟨t0, t1, t2, t3, t4⟩, e0, e1, e2, e3, e4⟩ := blk5 hbx; obtain ⟨⟨g0, g1, g2, g3⟩, _⟩ := blk4 hg4; obtain ⟨⟨a0, a1, a2, a3, a4⟩, _⟩ := blk5 ha5)
  | (go_at_call 30; with_reducible refine (hF2 _).mono ?_; rintro e W2 ⟨rfl, hb3⟩; clear t0 t1 t2 t3 t4 e0 e1 e2 e3 e4 g0 g1 g2 g3 a0 a1 a2 a3 a4; replace hD3 := hD3.below hb3; replace hR3 := hR3.below hb3; replace hbx := Stepb hb3 hbx; replace hg4 := Stepb hb3 hg4; replace ha5 := Stepb hb3 ha5; replace hB3 := hB3.trans (hb3.mono hB3.size); replace hsz := Nat.le_trans hsz hb3.size; clear hb3; obtain ⟨⟨t0, t1, t2, t3, t4⟩, e0, e1, e2, e3, e4⟩ := blk5 hbx; obtain ⟨⟨g0, g1, g2, g3⟩, _⟩ := blk4 hg4; obtain ⟨⟨a0, a1, a2, a3, a4⟩, _⟩ := blk5 ha5))
 try simp only [List.append_eq, List.cons_append, List.nil_append]
 have hb3 := below_drew1 (Below.refl W2.heap.size W2)
 replace hD3 := hD3.below hb3
 replace hR3 := hR3.below hb3
 replace hbx := Stepb hb3 hbx
 replace hg4 := Stepb hb3 hg4
 replace ha5 := Stepb hb3 ha5
 replace hB3 := hB3.trans (hb3.mono hB3.size)
 replace hsz := Nat.le_trans hsz hb3.size
 clear hb3
 refine start_ (n := 13) (S := fun w' => w'.cell? ⟨T, 1, none⟩ = some (.slice A xs.length c) ∧ w'.cell? ⟨T, 2, none⟩ = some (.bool off) ∧ w'.cell? ⟨T, 3, none⟩ = some (.int .i64 fuse) ∧ w'.cell? ⟨T, 4, none⟩ = some (.int .i64 nw) ∧ w'.cell? ⟨w.heap.size + 1, 1, none⟩ = some (.int .i64 at_)) (ds := [11]) #[false, false, false, false, false, false, false, false, false, false, false, false, false] (by kernel_rfl) rfl rfl ⟨t1, t2, t3, t4, a1⟩ (fun hHeld => ?_)
 generalize W2.drew = w3 at hHeld hD3 hR3 hbx hg4 ha5 hB3 hsz ⊢
 refine pure_ (i := 0) (N := some 153) (v := ?_) (a' := ?_) #[true, false, false, false, false, false, false, false, false, false, false, false, false] rfl rfl (by kernel_rfl) (fun _ _ _ h => h) (Or.inl ⟨by rfl, ?_⟩) ?_ ?_
 rotate_left
 ·intro w'
  go_simp
  with_reducible rfl
 rotate_left
 ·simp only [Act.put, List.setIfInBounds_toArray, List.set_cons_zero, List.set_cons_succ, i64_w, i32_w]
  rfl
 refine pure_ (i := 1) (N := some 154) (v := ?_) (a' := ?_) #[true, true, false, false, false, false, false, false, false, false, false, false, false] rfl rfl (by kernel_rfl) (fun _ _ _ h => h) (Or.inl ⟨by rfl, ?_⟩) ?_ ?_
 rotate_left
 ·intro w'
  go_simp
  with_reducible rfl
 rotate_left
 ·simp only [Act.put, List.setIfInBounds_toArray, List.set_cons_zero, List.set_cons_succ, i64_w, i32_w]
  rfl
 refine pure_ (i := 2) (N := some 155) (v := ?_) (a' := ?_) #[true, true, true, false, false, false, false, false, false, false, false, false, false] rfl rfl (by kernel_rfl) (fun _ _ _ h => h) (Or.inl ⟨by rfl, ?_⟩) ?_ ?_
 rotate_left
 ·intro w'
  go_simp
  with_reducible rfl
 rotate_left
 ·simp only [Act.put, List.setIfInBounds_toArray, List.set_cons_zero, List.set_cons_succ, i64_w, i32_w]
  rfl
 refine pure_ (i := 4) (N := some 157) (v := ?_) (a' := ?_) #[true, true, true, false, true, false, false, false, false, false, false, false, false] rfl rfl (by kernel_rfl) (fun _ _ _ h => h) (Or.inl ⟨by rfl, ?_⟩) ?_ ?_
 rotate_left
 ·intro w'
  go_simp
  with_reducible rfl
 rotate_left
 ·simp only [Act.put, List.setIfInBounds_toArray, List.set_cons_zero, List.set_cons_succ, i64_w, i32_w]
  rfl
 refine take_ (i := 3) (N := some 156) (v := ?_) (a' := ?_) #[true, true, true, true, true, false, false, false, false, false, false, false, false] rfl rfl (by kernel_rfl) (fun _ _ _ h => h) (Or.inl ⟨by rfl, ?_⟩) hHeld ?_ ?_
 rotate_left
 ·rintro w' ⟨s0, s1, s2, s3, s4⟩
  go_simp
  with_reducible rfl
 rotate_left
 ·simp only [Act.put, List.setIfInBounds_toArray, List.set_cons_zero, List.set_cons_succ, i64_w, i32_w]
  rfl
 refine take_ (i := 5) (N := some 158) (v := ?_) (a' := ?_) #[true, true, true, true, true, true, false, false, false, false, false, false, false] rfl rfl (by kernel_rfl) (fun _ _ _ h => h) (Or.inl ⟨by rfl, ?_⟩) hHeld ?_ ?_
 rotate_left
 ·rintro w' ⟨s0, s1, s2, s3, s4⟩
  go_simp
  with_reducible rfl
 rotate_left
 ·simp only [Act.put, List.setIfInBounds_toArray, List.set_cons_zero, List.set_cons_succ, i64_w, i32_w]
  rfl
 refine join_ (σ := Option Addr × Nat × Nat) 2 #[true, true, true, true, true, true, true, true, true, true, true, false, false] (fun s => [(159, .tuple #[.agg #[.slice s.1 xs.length s.2.1, .bool o3, .int .i64 l3, .int .i64 m3], .int .i64 why]), (152, .tuple #[.agg #[.slice s.1 xs.length s.2.1, .bool o3, .int .i64 l3, .int .i64 m3], .int .i64 why]), (160, .agg #[.slice s.1 xs.length s.2.1, .bool o3, .int .i64 l3, .int .i64 m3]), (161, .int .i64 why), (21, .pointer (some ⟨s.2.2, 0, none⟩))]) (fun s w' => (w'.cell? ⟨T, 1, none⟩ = some (.slice A xs.length c) ∧ w'.cell? ⟨T, 2, none⟩ = some (.bool off) ∧ w'.cell? ⟨T, 3, none⟩ = some (.int .i64 fuse) ∧ w'.cell? ⟨T, 4, none⟩ = some (.int .i64 nw) ∧ w'.cell? ⟨w.heap.size + 1, 1, none⟩ = some (.int .i64 at_)) ∧ DevAt w' i xs F B off fuse nw ∧ RefAt w' (.slice s.1 xs.length s.2.1) xs3 F3 B3 ∧ w'.heap[T]? = some (.cells #[.pointer (some ⟨i.d, 0, none⟩), .slice A xs.length c, .bool off, .int .i64 fuse, .int .i64 nw] 46 (0, 0)) ∧ w'.heap[w.heap.size]? = some (.cells #[.int .i64 sh, .int .i64 gk, .int .i64 gm, .int .i64 C] 23 (0, 0)) ∧ w'.heap[w.heap.size + 1]? = some (.cells #[.int .i64 3, .int .i64 at_, .string tx, .int .i64 n, .int .u32 by_] 48 (0, 0)) ∧ Below w.heap.size w w' ∧ w.heap.size + 2 ≤ w'.heap.size ∧ w'.heap[s.2.2]? = some (.cells #[.slice none 0 0, .bool false, .int .i64 0, .int .i64 0] 41 (0, 0)) ∧ w.heap.size + 2 ≤ s.2.2) ?_ ?_
 rotate_left
 ·intro hCont
  refine two_ (i := 6) (j := 10) (Ni := some 159) (Nj := some 21) #[true, true, true, true, true, true, true, false, false, false, false, false, false] #[true, true, true, true, true, true, false, false, false, false, true, false, false] rfl rfl rfl rfl (by kernel_rfl) (by decide) (by decide) (fun K hK => ?_) (fun K hK => ?_)
  ·skip
   refine goes_ Tryd.func34 (by kernel_rfl) rfl #[.agg #[.slice A xs.length c, .bool off, .int .i64 fuse, .int .i64 nw], .int .i64 at_] (by rfl) rfl rfl (by simp only [List.map_toArray, List.map_cons, List.map_nil]; rfl) ?_
   with_reducible refine (hRef _ hR3).mono ?_
   rintro e w3 ⟨A3, c3, rfl, hR4, hb3⟩
   refine ⟨_, rfl, ?_⟩
   replace hD3 := hD3.below hb3
   replace hR3 := hR4
   replace hbx := Stepb hb3 hbx
   replace hg4 := Stepb hb3 hg4
   replace ha5 := Stepb hb3 ha5
   replace hB3 := hB3.trans (hb3.mono hB3.size)
   replace hsz := Nat.le_trans hsz hb3.size
   refine hK.out _ _ ⟨pw_cell_below hb3 hHeld.1, pw_cell_below hb3 hHeld.2.1, pw_cell_below hb3 hHeld.2.2.1, pw_cell_below hb3 hHeld.2.2.2.1, pw_cell_below hb3 hHeld.2.2.2.2⟩ (fun hHeld => ?_)
   clear hK K
   refine norm_ (a' := ?_) ?_ ?_
   rotate_left
   ·show Act.put _ (some 159) _ = _
    simp only [Act.put, List.setIfInBounds_toArray, List.set_cons_zero, List.set_cons_succ, i64_w, i32_w]
    rfl
   refine pure_ (i := 7) (N := some 152) (v := ?_) (a' := ?_) #[true, true, true, true, true, true, true, true, false, false, false, false, false] rfl rfl (by kernel_rfl) (fun _ _ _ h => h) (Or.inl ⟨by rfl, ?_⟩) ?_ ?_
   rotate_left
   ·intro w'
    go_simp
    with_reducible rfl
   rotate_left
   ·simp only [Act.put, List.setIfInBounds_toArray, List.set_cons_zero, List.set_cons_succ, i64_w, i32_w]
    rfl
   refine pure_ (i := 8) (N := some 160) (v := ?_) (a' := ?_) #[true, true, true, true, true, true, true, true, true, false, false, false, false] rfl rfl (by kernel_rfl) (fun _ _ _ h => h) (Or.inl ⟨by rfl, ?_⟩) ?_ ?_
   rotate_left
   ·intro w'
    go_simp
    with_reducible rfl
   rotate_left
   ·simp only [Act.put, List.setIfInBounds_toArray, List.set_cons_zero, List.set_cons_succ, i64_w, i32_w]
    rfl
   refine pure_ (i := 9) (N := some 161) (v := ?_) (a' := ?_) #[true, true, true, true, true, true, true, true, true, true, false, false, false] rfl rfl (by kernel_rfl) (fun _ _ _ h => h) (Or.inl ⟨by rfl, ?_⟩) ?_ ?_
   rotate_left
   ·intro w'
    go_simp
    with_reducible rfl
   rotate_left
   ·simp only [Act.put, List.setIfInBounds_toArray, List.set_cons_zero, List.set_cons_succ, i64_w, i32_w]
    rfl
   refine one_ (i := 10) (N := some 21) #[true, true, true, true, true, true, true, true, true, true, true, false, false] rfl rfl (by kernel_rfl) (by decide) (fun K hK => ?_)
   refine value_ (w1 := ?_) (v := ?_) (by rfl) rfl ?_ ?_
   rotate_left 2
   ·go_simp
    constructor
    ·rfl
    ·rfl
   have hb3 := below41 w3
   have hz8 := World.alloc_heap_new w3 (.cells #[.slice none 0 0, .bool false, .int .i64 0, .int .i64 0] 41)
   have hT8 := hsz
   generalize w3.heap.size = g8 at hz8 hT8 ⊢
   generalize w3.alloc (.cells #[.slice none 0 0, .bool false, .int .i64 0, .int .i64 0] 41) = w4 at hb3 hz8 ⊢
   replace hD3 := hD3.below hb3
   replace hR3 := hR3.below hb3
   replace hbx := Stepb hb3 hbx
   replace hg4 := Stepb hb3 hg4
   replace ha5 := Stepb hb3 ha5
   replace hB3 := hB3.trans (hb3.mono hB3.size)
   replace hsz := Nat.le_trans hsz hb3.size
   refine hK.out _ _ ⟨pw_cell_below hb3 hHeld.1, pw_cell_below hb3 hHeld.2.1, pw_cell_below hb3 hHeld.2.2.1, pw_cell_below hb3 hHeld.2.2.2.1, pw_cell_below hb3 hHeld.2.2.2.2⟩ (fun hHeld => ?_)
   clear hK K
   refine norm_ (a' := ?_) ?_ ?_
   rotate_left
   ·show Act.put _ (some 21) _ = _
    simp only [Act.put, List.setIfInBounds_toArray, List.set_cons_zero, List.set_cons_succ, i64_w, i32_w]
    rfl
   exact norm_ (by first | (simp only [putAll, Act.put, List.setIfInBounds_toArray, List.set_cons_zero, List.set_cons_succ]; done) | (simp only [putAll, Act.put, List.setIfInBounds_toArray, List.set_cons_zero, List.set_cons_succ]; rfl)) (hCont (A3, c3, g8) _ ⟨hHeld, hD3, hR3, hbx, hg4, ha5, hB3, hsz, hz8, hT8⟩)
  ·skip
   refine value_ (w1 := ?_) (v := ?_) (by rfl) rfl ?_ ?_
   rotate_left 2
   ·go_simp
    constructor
    ·rfl
    ·rfl
   have hb3 := below41 w3
   have hz8 := World.alloc_heap_new w3 (.cells #[.slice none 0 0, .bool false, .int .i64 0, .int .i64 0] 41)
   have hT8 := hsz
   generalize w3.heap.size = g8 at hz8 hT8 ⊢
   generalize w3.alloc (.cells #[.slice none 0 0, .bool false, .int .i64 0, .int .i64 0] 41) = w4 at hb3 hz8 ⊢
   replace hD3 := hD3.below hb3
   replace hR3 := hR3.below hb3
   replace hbx := Stepb hb3 hbx
   replace hg4 := Stepb hb3 hg4
   replace ha5 := Stepb hb3 ha5
   replace hB3 := hB3.trans (hb3.mono hB3.size)
   replace hsz := Nat.le_trans hsz hb3.size
   refine hK.out _ _ ⟨pw_cell_below hb3 hHeld.1, pw_cell_below hb3 hHeld.2.1, pw_cell_below hb3 hHeld.2.2.1, pw_cell_below hb3 hHeld.2.2.2.1, pw_cell_below hb3 hHeld.2.2.2.2⟩ (fun hHeld => ?_)
   clear hK K
   refine norm_ (a' := ?_) ?_ ?_
   rotate_left
   ·show Act.put _ (some 21) _ = _
    simp only [Act.put, List.setIfInBounds_toArray, List.set_cons_zero, List.set_cons_succ, i64_w, i32_w]
    rfl
   refine one_ (i := 6) (N := some 159) #[true, true, true, true, true, true, true, false, false, false, true, false, false] rfl rfl (by kernel_rfl) (by decide) (fun K hK => ?_)
   refine goes_ Tryd.func34 (by kernel_rfl) rfl #[.agg #[.slice A xs.length c, .bool off, .int .i64 fuse, .int .i64 nw], .int .i64 at_] (by rfl) rfl rfl (by simp only [List.map_toArray, List.map_cons, List.map_nil]; rfl) ?_
   with_reducible refine (hRef _ hR3).mono ?_
   rintro e w3 ⟨A3, c3, rfl, hR4, hb3⟩
   refine ⟨_, rfl, ?_⟩
   replace hD3 := hD3.below hb3
   replace hR3 := hR4
   replace hbx := Stepb hb3 hbx
   replace hg4 := Stepb hb3 hg4
   replace ha5 := Stepb hb3 ha5
   replace hB3 := hB3.trans (hb3.mono hB3.size)
   replace hsz := Nat.le_trans hsz hb3.size
   replace hz8 := Stepb hb3 hz8
   refine hK.out _ _ ⟨pw_cell_below hb3 hHeld.1, pw_cell_below hb3 hHeld.2.1, pw_cell_below hb3 hHeld.2.2.1, pw_cell_below hb3 hHeld.2.2.2.1, pw_cell_below hb3 hHeld.2.2.2.2⟩ (fun hHeld => ?_)
   clear hK K
   refine norm_ (a' := ?_) ?_ ?_
   rotate_left
   ·show Act.put _ (some 159) _ = _
    simp only [Act.put, List.setIfInBounds_toArray, List.set_cons_zero, List.set_cons_succ, i64_w, i32_w]
    rfl
   refine pure_ (i := 7) (N := some 152) (v := ?_) (a' := ?_) #[true, true, true, true, true, true, true, true, false, false, true, false, false] rfl rfl (by kernel_rfl) (fun _ _ _ h => h) (Or.inl ⟨by rfl, ?_⟩) ?_ ?_
   rotate_left
   ·intro w'
    go_simp
    with_reducible rfl
   rotate_left
   ·simp only [Act.put, List.setIfInBounds_toArray, List.set_cons_zero, List.set_cons_succ, i64_w, i32_w]
    rfl
   refine pure_ (i := 8) (N := some 160) (v := ?_) (a' := ?_) #[true, true, true, true, true, true, true, true, true, false, true, false, false] rfl rfl (by kernel_rfl) (fun _ _ _ h => h) (Or.inl ⟨by rfl, ?_⟩) ?_ ?_
   rotate_left
   ·intro w'
    go_simp
    with_reducible rfl
   rotate_left
   ·simp only [Act.put, List.setIfInBounds_toArray, List.set_cons_zero, List.set_cons_succ, i64_w, i32_w]
    rfl
   refine pure_ (i := 9) (N := some 161) (v := ?_) (a' := ?_) #[true, true, true, true, true, true, true, true, true, true, true, false, false] rfl rfl (by kernel_rfl) (fun _ _ _ h => h) (Or.inl ⟨by rfl, ?_⟩) ?_ ?_
   rotate_left
   ·intro w'
    go_simp
    with_reducible rfl
   rotate_left
   ·simp only [Act.put, List.setIfInBounds_toArray, List.set_cons_zero, List.set_cons_succ, i64_w, i32_w]
    rfl
   exact norm_ (by first | (simp only [putAll, Act.put, List.setIfInBounds_toArray, List.set_cons_zero, List.set_cons_succ]; done) | (simp only [putAll, Act.put, List.setIfInBounds_toArray, List.set_cons_zero, List.set_cons_succ]; rfl)) (hCont (A3, c3, g8) _ ⟨hHeld, hD3, hR3, hbx, hg4, ha5, hB3, hsz, hz8, hT8⟩)
 rintro ⟨A3, c3, g8⟩ w3 ⟨hHeld, hD3, hR3, hbx, hg4, ha5, hB3, hsz, hz8, hT8⟩
 dsimp only at hR3 hz8 hT8
 refine norm_ (a' := ?_) ?_ ?_
 rotate_left
 ·simp only [putAll, Act.put, List.setIfInBounds_toArray, List.set_cons_zero, List.set_cons_succ]
  rfl
 refine last_ (i := 11) (N := none) #[true, true, true, true, true, true, true, true, true, true, true, true, false] rfl rfl (by kernel_rfl) (by decide) (fun K hK => ?_)
 obtain ⟨⟨z0, z1, z2, z3⟩, q0, q1, q2, q3⟩ := blk4 hz8
 refine skip_ (w1 := ?_) (by rfl) rfl ?_ ?_
 rotate_left
 ·go_simp
  rfl
 refine hK.out _ _ ?_
 clear hK K
 refine pure_ (i := 12) (N := some 22) (v := ?_) (a' := ?_) #[true, true, true, true, true, true, true, true, true, true, true, true, true] rfl rfl (by kernel_rfl) (fun _ _ _ h => h) (Or.inl ⟨by rfl, ?_⟩) ?_ ?_
 rotate_left
 ·intro w'
  go_simp
  with_reducible rfl
 rotate_left
 ·simp only [Act.put, List.setIfInBounds_toArray, List.set_cons_zero, List.set_cons_succ, i64_w, i32_w]
  rfl
 refine done_ (by kernel_rfl) ?_
 clear hHeld
 have hst8 := step_put4 w3 g8 (.slice A3 xs.length c3) (.bool o3) (.int .i64 l3) (.int .i64 m3)
 have hz9 := put4 hz8 (.slice A3 xs.length c3) (.bool o3) (.int .i64 l3) (.int .i64 m3)
 replace hD3 := hD3.step hst8 (fun k hk e => by have := hilt k hk; omega)
 replace hR3 := ref_put4 hR3 hz8 (.slice A3 xs.length c3) (.bool o3) (.int .i64 l3) (.int .i64 m3)
 replace hbx := hst8.block hbx (fun e => by omega)
 replace hg4 := hst8.block hg4 (fun e => by omega)
 replace ha5 := hst8.block ha5 (fun e => by omega)
 replace hB3 := below_put4 hB3 (g := g8) (by omega) (.slice A3 xs.length c3) (.bool o3) (.int .i64 l3) (.int .i64 m3)
 replace hsz := Nat.le_trans hsz hst8.size
 clear hz8 hst8
 generalize ((((w3.setCell ⟨g8, 0, none⟩ (.slice A3 xs.length c3)).setCell ⟨g8, 1, none⟩ (.bool o3)).setCell ⟨g8, 2, none⟩ (.int .i64 l3)).setCell ⟨g8, 3, none⟩ (.int .i64 m3)) = W8 at hz9 hD3 hR3 hbx hg4 ha5 hB3 hsz ⊢
 obtain ⟨⟨y0, y1, y2, y3⟩, _⟩ := blk4 hz9
 obtain ⟨⟨t0, t1, t2, t3, t4⟩, e0, e1, e2, e3, e4⟩ := blk5 hbx
 obtain ⟨⟨g0, g1, g2, g3⟩, _⟩ := blk4 hg4
 obtain ⟨⟨a0, a1, a2, a3, a4⟩, _⟩ := blk5 ha5
 go_wp2_with fail
 have hst9 := step_put5 W8 T (.slice A3 xs.length c3) (.bool o3) (.int .i64 l3) (.int .i64 m3)
 replace hD3 := hD3.step hst9 (fun k hk e => hnT (e ▸ hk))
 replace hR3 := ref_put5 hR3 hbx (.slice A3 xs.length c3) (.bool o3) (.int .i64 l3) (.int .i64 m3)
 replace hbx := put5 hbx (.slice A3 xs.length c3) (.bool o3) (.int .i64 l3) (.int .i64 m3)
 replace hg4 := hst9.block hg4 (fun e => by omega)
 replace ha5 := hst9.block ha5 (fun e => by omega)
 have hs3 : Step (fun k => i.In k ∨ k = T) w _ := (Step.of_below (S := fun k => i.In k ∨ k = T) hB3).trans hst9 (fun _ h => h) (fun k hk => Or.inl (Or.inr hk))
 replace hsz := Nat.le_trans hsz hst9.size
 clear hst9 hB3
 generalize ((((W8.setCell ⟨T, 1, none⟩ (.slice A3 xs.length c3)).setCell ⟨T, 2, none⟩ (.bool o3)).setCell ⟨T, 3, none⟩ (.int .i64 l3)).setCell ⟨T, 4, none⟩ (.int .i64 m3)) = W9 at hD3 hR3 hbx hg4 ha5 hs3 hsz ⊢
 obtain ⟨⟨t0, t1, t2, t3, t4⟩, e0, e1, e2, e3, e4⟩ := blk5 hbx
 obtain ⟨⟨g0, g1, g2, g3⟩, _⟩ := blk4 hg4
 obtain ⟨⟨a0, a1, a2, a3, a4⟩, _⟩ := blk5 ha5
 try simp only [List.append_eq, List.cons_append, List.nil_append]
 have hb3 := below_drew1 (Below.refl W9.heap.size W9)
 replace hD3 := hD3.below hb3
 replace hR3 := hR3.below hb3
 replace hbx := Stepb hb3 hbx
 replace hg4 := Stepb hb3 hg4
 replace ha5 := Stepb hb3 ha5
 replace hs3 := hs3.trans (Step.of_below (S := fun k => i.In k ∨ k = T) hb3) (fun _ h => h) (fun _ h => Or.inl h)
 replace hsz := Nat.le_trans hsz hb3.size
 clear hb3
 refine start_ (n := 10) (S := fun w' => w'.cell? ⟨T, 0, none⟩ = some (.pointer (some ⟨i.d, 0, none⟩)) ∧ w'.cell? ⟨w.heap.size + 1, 1, none⟩ = some (.int .i64 at_)) (ds := []) #[false, false, false, false, false, false, false, false, false, false] (by kernel_rfl) rfl rfl ⟨t0, a1⟩ (fun hHeld => ?_)
 generalize W9.drew = w3 at hHeld hD3 hR3 hbx hg4 ha5 hs3 hsz ⊢
 refine pure_ (i := 0) (N := some 166) (v := ?_) (a' := ?_) #[true, false, false, false, false, false, false, false, false, false] rfl rfl (by kernel_rfl) (fun _ _ _ h => h) (Or.inl ⟨by rfl, ?_⟩) ?_ ?_
 rotate_left
 ·intro w'
  go_simp
  with_reducible rfl
 rotate_left
 ·simp only [Act.put, List.setIfInBounds_toArray, List.set_cons_zero, List.set_cons_succ, i64_w, i32_w]
  rfl
 refine pure_ (i := 1) (N := some 167) (v := ?_) (a' := ?_) #[true, true, false, false, false, false, false, false, false, false] rfl rfl (by kernel_rfl) (fun _ _ _ h => h) (Or.inl ⟨by rfl, ?_⟩) ?_ ?_
 rotate_left
 ·intro w'
  go_simp
  with_reducible rfl
 rotate_left
 ·simp only [Act.put, List.setIfInBounds_toArray, List.set_cons_zero, List.set_cons_succ, i64_w, i32_w]
  rfl
 refine pure_ (i := 2) (N := some 168) (v := ?_) (a' := ?_) #[true, true, true, false, false, false, false, false, false, false] rfl rfl (by kernel_rfl) (fun _ _ _ h => h) (Or.inl ⟨by rfl, ?_⟩) ?_ ?_
 rotate_left
 ·intro w'
  go_simp
  with_reducible rfl
 rotate_left
 ·simp only [Act.put, List.setIfInBounds_toArray, List.set_cons_zero, List.set_cons_succ, i64_w, i32_w]
  rfl
 refine pure_ (i := 4) (N := some 170) (v := ?_) (a' := ?_) #[true, true, true, false, true, false, false, false, false, false] rfl rfl (by kernel_rfl) (fun _ _ _ h => h) (Or.inl ⟨by rfl, ?_⟩) ?_ ?_
 rotate_left
 ·intro w'
  go_simp
  with_reducible rfl
 rotate_left
 ·simp only [Act.put, List.setIfInBounds_toArray, List.set_cons_zero, List.set_cons_succ, i64_w, i32_w]
  rfl
 refine pure_ (i := 7) (N := some 173) (v := ?_) (a' := ?_) #[true, true, true, false, true, false, false, true, false, false] rfl rfl (by kernel_rfl) (fun _ _ _ h => h) (Or.inl ⟨by rfl, ?_⟩) ?_ ?_
 rotate_left
 ·intro w'
  go_simp
  with_reducible rfl
 rotate_left
 ·simp only [Act.put, List.setIfInBounds_toArray, List.set_cons_zero, List.set_cons_succ, i64_w, i32_w]
  rfl
 refine take_ (i := 3) (N := some 169) (v := ?_) (a' := ?_) #[true, true, true, true, true, false, false, true, false, false] rfl rfl (by kernel_rfl) (fun _ _ _ h => h) (Or.inl ⟨by rfl, ?_⟩) hHeld ?_ ?_
 rotate_left
 ·rintro w' ⟨s0, s1⟩
  go_simp
  with_reducible rfl
 rotate_left
 ·simp only [Act.put, List.setIfInBounds_toArray, List.set_cons_zero, List.set_cons_succ, i64_w, i32_w]
  rfl
 refine take_ (i := 5) (N := some 171) (v := ?_) (a' := ?_) #[true, true, true, true, true, true, false, true, false, false] rfl rfl (by kernel_rfl) (fun _ _ _ h => h) (Or.inl ⟨by rfl, ?_⟩) hHeld ?_ ?_
 rotate_left
 ·rintro w' ⟨s0, s1⟩
  go_simp
  with_reducible rfl
 rotate_left
 ·simp only [Act.put, List.setIfInBounds_toArray, List.set_cons_zero, List.set_cons_succ, i64_w, i32_w]
  rfl
 refine one_ (i := 6) (N := some 172) #[true, true, true, true, true, true, true, true, false, false] rfl rfl (by kernel_rfl) (by decide) (fun K hK => ?_)
 refine goes_ Tryd.func35 (by kernel_rfl) rfl #[.pointer (some ⟨i.d, 0, none⟩), .int .i64 at_] (by rfl) rfl rfl (by simp only [List.map_toArray, List.map_cons, List.map_nil]; rfl) ?_
 with_reducible refine (hDev _ hD3).mono ?_
 rintro e w3 ⟨rfl, hD4, hs4⟩
 refine ⟨_, rfl, ?_⟩
 have hs4 := hs4
 replace hR3 := hR3.step hs4 (ref_dev hR3 hD3)
 replace hD3 := hD4
 replace hs3 := hs3.trans hs4 (fun _ h => h) (fun _ h => Or.inl (Or.inl h))
 replace hbx := hs4.block hbx hnT
 replace hsz := Nat.le_trans hsz hs4.size
 refine hK.out _ _ ⟨hs4.cell hHeld.1 hnT, hs4.cell hHeld.2 (fun h => by have h9 := hilt _ h; dsimp only at h9; omega)⟩ (fun hHeld => ?_)
 clear hK K
 refine norm_ (a' := ?_) ?_ ?_
 rotate_left
 ·show Act.put _ (some 172) _ = _
  simp only [Act.put, List.setIfInBounds_toArray, List.set_cons_zero, List.set_cons_succ, i64_w, i32_w]
  rfl
 refine pure_ (i := 8) (N := some 174) (v := ?_) (a' := ?_) #[true, true, true, true, true, true, true, true, true, false] rfl rfl (by kernel_rfl) (fun _ _ _ h => h) (Or.inl ⟨by rfl, ?_⟩) ?_ ?_
 rotate_left
 ·intro w'
  go_simp
  with_reducible rfl
 rotate_left
 ·simp only [Act.put, List.setIfInBounds_toArray, List.set_cons_zero, List.set_cons_succ, i64_w, i32_w]
  rfl
 refine pure_ (i := 9) (N := some 6) (v := ?_) (a' := ?_) #[true, true, true, true, true, true, true, true, true, true] rfl rfl (by kernel_rfl) (fun _ _ _ h => h) (Or.inl ⟨by rfl, ?_⟩) ?_ ?_
 rotate_left
 ·intro w'
  go_simp
  with_reducible rfl
 rotate_left
 ·simp only [Act.put, List.setIfInBounds_toArray, List.set_cons_zero, List.set_cons_succ, i64_w, i32_w]
  rfl
 refine done_ (by kernel_rfl) ?_
 clear hHeld
 go_wp2
 go_ret
 exact ⟨_, _, rfl, hD3, hR3, hbx, hs3⟩
set_option maxRecDepth 100000 in
set_option maxHeartbeats 8000000 in
theorem does_4 (w : World) (T : Nat) (i : DevIds) (A : Option Addr) (c : Nat) (xs : List ByteArray) (F : FL) (B : BL) (off : Bool) (fuse nw : Int) (sh gk gm C at_ n by_ : Int) (tx fs : ByteArray) (fy : Int) (hD : DevAt w i xs F B off fuse nw) (hR : RefAt w (.slice A xs.length c) xs F B) (hbx : w.heap[T]? = some (.cells #[.pointer (some ⟨i.d, 0, none⟩), .slice A xs.length c, .bool off, .int .i64 fuse, .int .i64 nw] 46 (0, 0)))
  (hF1 : ∀ W, Calls Tryd.prog 8 #[.agg #[.int .i64 sh, .int .i64 gk, .int .i64 gm, .int .i64 C], .string tx] W fun e w' => e = .returned (.tuple #[.string fs, .int .i64 fy]) ∧ Below W.heap.size W w')
  (hF2 : ∀ W, Calls Tryd.prog 30 #[.agg #[.int .i64 sh, .int .i64 gk, .int .i64 gm, .int .i64 C], .string tx] W fun e w' => e = .returned (.tuple #[.string fs, .int .i64 fy]) ∧ Below W.heap.size W w')
  {xs3 : List ByteArray} {F3 : FL} {B3 : BL} {o3 : Bool} {l3 m3 why : Int}
  (hRef : ∀ W, RefAt W (.slice A xs.length c) xs F B → Calls Tryd.prog 36 #[.agg #[.slice A xs.length c, .bool off, .int .i64 fuse, .int .i64 nw], .int .i64 at_, .int .i64 n, .int .u32 by_] W fun e w' => ∃ A3 c3, e = .returned (.tuple #[.agg #[.slice A3 xs.length c3, .bool o3, .int .i64 l3, .int .i64 m3], .int .i64 why]) ∧ RefAt w' (.slice A3 xs.length c3) xs3 F3 B3 ∧ Below W.heap.size W w')
  (hDev : ∀ W, DevAt W i xs F B off fuse nw → Calls Tryd.prog 37 #[.pointer (some ⟨i.d, 0, none⟩), .int .i64 at_, .int .i64 n, .int .u32 by_] W fun e w' => e = .returned (.int .i64 why) ∧ DevAt w' i xs3 F3 B3 o3 l3 m3 ∧ Step i.In W w') :
  Calls Tryd.prog 14 #[.pointer (some ⟨T, 0, none⟩), .agg #[.int .i64 sh, .int .i64 gk, .int .i64 gm, .int .i64 C], .agg #[.int .i64 4, .int .i64 at_, .string tx, .int .i64 n, .int .u32 by_]] w fun e w' => ∃ A3 c3, e = .returned (.bool true) ∧ DevAt w' i xs3 F3 B3 o3 l3 m3 ∧ RefAt w' (.slice A3 xs.length c3) xs3 F3 B3 ∧ w'.heap[T]? = some (.cells #[.pointer (some ⟨i.d, 0, none⟩), .slice A3 xs.length c3, .bool o3, .int .i64 l3, .int .i64 m3] 46 (0, 0)) ∧ Step (fun k => i.In k ∨ k = T) w w' := by
 have hilt := hD.lt
 have hTlt := blk_lt hbx
 have hnT := dev_notT hD hbx
 have hB3 := below2 w (.cells #[.int .i64 sh, .int .i64 gk, .int .i64 gm, .int .i64 C] 23) (.cells #[.int .i64 4, .int .i64 at_, .string tx, .int .i64 n, .int .u32 by_] 48)
 have hg4 := new1of2 w (.cells #[.int .i64 sh, .int .i64 gk, .int .i64 gm, .int .i64 C] 23) (.cells #[.int .i64 4, .int .i64 at_, .string tx, .int .i64 n, .int .u32 by_] 48)
 have ha5 := new2 w (.cells #[.int .i64 sh, .int .i64 gk, .int .i64 gm, .int .i64 C] 23) (.cells #[.int .i64 4, .int .i64 at_, .string tx, .int .i64 n, .int .u32 by_] 48)
 have hsz : w.heap.size + 2 ≤ ((w.alloc (.cells #[.int .i64 sh, .int .i64 gk, .int .i64 gm, .int .i64 C] 23)).alloc (.cells #[.int .i64 4, .int .i64 at_, .string tx, .int .i64 n, .int .u32 by_] 48)).heap.size := by simp
 go_enter Tryd.func14, Tryd.ntmps14
 go_upto_region 1 with (fail)
 generalize (w.alloc (.cells #[.int .i64 sh, .int .i64 gk, .int .i64 gm, .int .i64 C] 23)).alloc (.cells #[.int .i64 4, .int .i64 at_, .string tx, .int .i64 n, .int .u32 by_] 48) = W at hB3 hg4 ha5 hsz ⊢
 have hD3 := hD.below hB3
 have hR3 := hR.below hB3
 replace hbx := Stepb hB3 hbx
 clear hD hR
 obtain ⟨⟨t0, t1, t2, t3, t4⟩, e0, e1, e2, e3, e4⟩ := blk5 hbx
 obtain ⟨⟨g0, g1, g2, g3⟩, _⟩ := blk4 hg4
 obtain ⟨⟨a0, a1, a2, a3, a4⟩, _⟩ := blk5 ha5
 go_wp2_with (first
  | (go_at_call 8; with_reducible refine (hF1 _).mono ?_; rintro e W1 ⟨rfl, hb3⟩; clear t0 t1 t2 t3 t4 e0 e1 e2 e3 e4 g0 g1 g2 g3 a0 a1 a2 a3 a4; replace hD3 := hD3.below hb3; replace hR3 := hR3.below hb3; replace hbx := Stepb hb3 hbx; replace hg4 := Stepb hb3 hg4; replace ha5 := Stepb hb3 ha5; replace hB3 := hB3.trans (hb3.mono hB3.size); replace hsz := Nat.le_trans hsz hb3.size; clear hb3; obtain ⟨⟨t0, t1, t2, t3, t4⟩, e0, e1, e2, e3, e4⟩ := blk5 hbx; obtain ⟨⟨g0, g1, g2, g3⟩, _⟩ := blk4 hg4; obtain ⟨⟨a0, a1, a2, a3, a4⟩, _⟩ := blk5 ha5)
  | (go_at_call 30; with_reducible refine (hF2 _).mono ?_; rintro e W2 ⟨rfl, hb3⟩; clear t0 t1 t2 t3 t4 e0 e1 e2 e3 e4 g0 g1 g2 g3 a0 a1 a2 a3 a4; replace hD3 := hD3.below hb3; replace hR3 := hR3.below hb3; replace hbx := Stepb hb3 hbx; replace hg4 := Stepb hb3 hg4; replace ha5 := Stepb hb3 ha5; replace hB3 := hB3.trans (hb3.mono hB3.size); replace hsz := Nat.le_trans hsz hb3.size; clear hb3; obtain ⟨⟨t0, t1, t2, t3, t4⟩, e0, e1, e2, e3, e4⟩ := blk5 hbx; obtain ⟨⟨g0, g1, g2, g3⟩, _⟩ := blk4 hg4; obtain ⟨⟨a0, a1, a2, a3, a4⟩, _⟩ := blk5 ha5))
 try simp only [List.append_eq, List.cons_append, List.nil_append]
 have hb3 := below_drew1 (Below.refl W2.heap.size W2)
 replace hD3 := hD3.below hb3
 replace hR3 := hR3.below hb3
 replace hbx := Stepb hb3 hbx
 replace hg4 := Stepb hb3 hg4
 replace ha5 := Stepb hb3 ha5
 replace hB3 := hB3.trans (hb3.mono hB3.size)
 replace hsz := Nat.le_trans hsz hb3.size
 clear hb3
 refine start_ (n := 17) (S := fun w' => w'.cell? ⟨T, 1, none⟩ = some (.slice A xs.length c) ∧ w'.cell? ⟨T, 2, none⟩ = some (.bool off) ∧ w'.cell? ⟨T, 3, none⟩ = some (.int .i64 fuse) ∧ w'.cell? ⟨T, 4, none⟩ = some (.int .i64 nw) ∧ w'.cell? ⟨w.heap.size + 1, 1, none⟩ = some (.int .i64 at_) ∧ w'.cell? ⟨w.heap.size + 1, 3, none⟩ = some (.int .i64 n) ∧ w'.cell? ⟨w.heap.size + 1, 4, none⟩ = some (.int .u32 by_)) (ds := [15]) #[false, false, false, false, false, false, false, false, false, false, false, false, false, false, false, false, false] (by kernel_rfl) rfl rfl ⟨t1, t2, t3, t4, a1, a3, a4⟩ (fun hHeld => ?_)
 generalize W2.drew = w3 at hHeld hD3 hR3 hbx hg4 ha5 hB3 hsz ⊢
 refine pure_ (i := 0) (N := some 178) (v := ?_) (a' := ?_) #[true, false, false, false, false, false, false, false, false, false, false, false, false, false, false, false, false] rfl rfl (by kernel_rfl) (fun _ _ _ h => h) (Or.inl ⟨by rfl, ?_⟩) ?_ ?_
 rotate_left
 ·intro w'
  go_simp
  with_reducible rfl
 rotate_left
 ·simp only [Act.put, List.setIfInBounds_toArray, List.set_cons_zero, List.set_cons_succ, i64_w, i32_w]
  rfl
 refine pure_ (i := 1) (N := some 179) (v := ?_) (a' := ?_) #[true, true, false, false, false, false, false, false, false, false, false, false, false, false, false, false, false] rfl rfl (by kernel_rfl) (fun _ _ _ h => h) (Or.inl ⟨by rfl, ?_⟩) ?_ ?_
 rotate_left
 ·intro w'
  go_simp
  with_reducible rfl
 rotate_left
 ·simp only [Act.put, List.setIfInBounds_toArray, List.set_cons_zero, List.set_cons_succ, i64_w, i32_w]
  rfl
 refine pure_ (i := 2) (N := some 180) (v := ?_) (a' := ?_) #[true, true, true, false, false, false, false, false, false, false, false, false, false, false, false, false, false] rfl rfl (by kernel_rfl) (fun _ _ _ h => h) (Or.inl ⟨by rfl, ?_⟩) ?_ ?_
 rotate_left
 ·intro w'
  go_simp
  with_reducible rfl
 rotate_left
 ·simp only [Act.put, List.setIfInBounds_toArray, List.set_cons_zero, List.set_cons_succ, i64_w, i32_w]
  rfl
 refine pure_ (i := 4) (N := some 182) (v := ?_) (a' := ?_) #[true, true, true, false, true, false, false, false, false, false, false, false, false, false, false, false, false] rfl rfl (by kernel_rfl) (fun _ _ _ h => h) (Or.inl ⟨by rfl, ?_⟩) ?_ ?_
 rotate_left
 ·intro w'
  go_simp
  with_reducible rfl
 rotate_left
 ·simp only [Act.put, List.setIfInBounds_toArray, List.set_cons_zero, List.set_cons_succ, i64_w, i32_w]
  rfl
 refine pure_ (i := 6) (N := some 184) (v := ?_) (a' := ?_) #[true, true, true, false, true, false, true, false, false, false, false, false, false, false, false, false, false] rfl rfl (by kernel_rfl) (fun _ _ _ h => h) (Or.inl ⟨by rfl, ?_⟩) ?_ ?_
 rotate_left
 ·intro w'
  go_simp
  with_reducible rfl
 rotate_left
 ·simp only [Act.put, List.setIfInBounds_toArray, List.set_cons_zero, List.set_cons_succ, i64_w, i32_w]
  rfl
 refine pure_ (i := 8) (N := some 186) (v := ?_) (a' := ?_) #[true, true, true, false, true, false, true, false, true, false, false, false, false, false, false, false, false] rfl rfl (by kernel_rfl) (fun _ _ _ h => h) (Or.inl ⟨by rfl, ?_⟩) ?_ ?_
 rotate_left
 ·intro w'
  go_simp
  with_reducible rfl
 rotate_left
 ·simp only [Act.put, List.setIfInBounds_toArray, List.set_cons_zero, List.set_cons_succ, i64_w, i32_w]
  rfl
 refine take_ (i := 3) (N := some 181) (v := ?_) (a' := ?_) #[true, true, true, true, true, false, true, false, true, false, false, false, false, false, false, false, false] rfl rfl (by kernel_rfl) (fun _ _ _ h => h) (Or.inl ⟨by rfl, ?_⟩) hHeld ?_ ?_
 rotate_left
 ·rintro w' ⟨s0, s1, s2, s3, s4, s5, s6⟩
  go_simp
  with_reducible rfl
 rotate_left
 ·simp only [Act.put, List.setIfInBounds_toArray, List.set_cons_zero, List.set_cons_succ, i64_w, i32_w]
  rfl
 refine take_ (i := 5) (N := some 183) (v := ?_) (a' := ?_) #[true, true, true, true, true, true, true, false, true, false, false, false, false, false, false, false, false] rfl rfl (by kernel_rfl) (fun _ _ _ h => h) (Or.inl ⟨by rfl, ?_⟩) hHeld ?_ ?_
 rotate_left
 ·rintro w' ⟨s0, s1, s2, s3, s4, s5, s6⟩
  go_simp
  with_reducible rfl
 rotate_left
 ·simp only [Act.put, List.setIfInBounds_toArray, List.set_cons_zero, List.set_cons_succ, i64_w, i32_w]
  rfl
 refine take_ (i := 7) (N := some 185) (v := ?_) (a' := ?_) #[true, true, true, true, true, true, true, true, true, false, false, false, false, false, false, false, false] rfl rfl (by kernel_rfl) (fun _ _ _ h => h) (Or.inl ⟨by rfl, ?_⟩) hHeld ?_ ?_
 rotate_left
 ·rintro w' ⟨s0, s1, s2, s3, s4, s5, s6⟩
  go_simp
  with_reducible rfl
 rotate_left
 ·simp only [Act.put, List.setIfInBounds_toArray, List.set_cons_zero, List.set_cons_succ, i64_w, i32_w]
  rfl
 refine take_ (i := 9) (N := some 187) (v := ?_) (a' := ?_) #[true, true, true, true, true, true, true, true, true, true, false, false, false, false, false, false, false] rfl rfl (by kernel_rfl) (fun _ _ _ h => h) (Or.inl ⟨by rfl, ?_⟩) hHeld ?_ ?_
 rotate_left
 ·rintro w' ⟨s0, s1, s2, s3, s4, s5, s6⟩
  go_simp
  with_reducible rfl
 rotate_left
 ·simp only [Act.put, List.setIfInBounds_toArray, List.set_cons_zero, List.set_cons_succ, i64_w, i32_w]
  rfl
 refine join_ (σ := Option Addr × Nat × Nat) 2 #[true, true, true, true, true, true, true, true, true, true, true, true, true, true, true, false, false] (fun s => [(188, .tuple #[.agg #[.slice s.1 xs.length s.2.1, .bool o3, .int .i64 l3, .int .i64 m3], .int .i64 why]), (177, .tuple #[.agg #[.slice s.1 xs.length s.2.1, .bool o3, .int .i64 l3, .int .i64 m3], .int .i64 why]), (189, .agg #[.slice s.1 xs.length s.2.1, .bool o3, .int .i64 l3, .int .i64 m3]), (190, .int .i64 why), (23, .pointer (some ⟨s.2.2, 0, none⟩))]) (fun s w' => (w'.cell? ⟨T, 1, none⟩ = some (.slice A xs.length c) ∧ w'.cell? ⟨T, 2, none⟩ = some (.bool off) ∧ w'.cell? ⟨T, 3, none⟩ = some (.int .i64 fuse) ∧ w'.cell? ⟨T, 4, none⟩ = some (.int .i64 nw) ∧ w'.cell? ⟨w.heap.size + 1, 1, none⟩ = some (.int .i64 at_) ∧ w'.cell? ⟨w.heap.size + 1, 3, none⟩ = some (.int .i64 n) ∧ w'.cell? ⟨w.heap.size + 1, 4, none⟩ = some (.int .u32 by_)) ∧ DevAt w' i xs F B off fuse nw ∧ RefAt w' (.slice s.1 xs.length s.2.1) xs3 F3 B3 ∧ w'.heap[T]? = some (.cells #[.pointer (some ⟨i.d, 0, none⟩), .slice A xs.length c, .bool off, .int .i64 fuse, .int .i64 nw] 46 (0, 0)) ∧ w'.heap[w.heap.size]? = some (.cells #[.int .i64 sh, .int .i64 gk, .int .i64 gm, .int .i64 C] 23 (0, 0)) ∧ w'.heap[w.heap.size + 1]? = some (.cells #[.int .i64 4, .int .i64 at_, .string tx, .int .i64 n, .int .u32 by_] 48 (0, 0)) ∧ Below w.heap.size w w' ∧ w.heap.size + 2 ≤ w'.heap.size ∧ w'.heap[s.2.2]? = some (.cells #[.slice none 0 0, .bool false, .int .i64 0, .int .i64 0] 41 (0, 0)) ∧ w.heap.size + 2 ≤ s.2.2) ?_ ?_
 rotate_left
 ·intro hCont
  refine two_ (i := 10) (j := 14) (Ni := some 188) (Nj := some 23) #[true, true, true, true, true, true, true, true, true, true, true, false, false, false, false, false, false] #[true, true, true, true, true, true, true, true, true, true, false, false, false, false, true, false, false] rfl rfl rfl rfl (by kernel_rfl) (by decide) (by decide) (fun K hK => ?_) (fun K hK => ?_)
  ·skip
   refine goes_ Tryd.func36 (by kernel_rfl) rfl #[.agg #[.slice A xs.length c, .bool off, .int .i64 fuse, .int .i64 nw], .int .i64 at_, .int .i64 n, .int .u32 by_] (by rfl) rfl rfl (by simp only [List.map_toArray, List.map_cons, List.map_nil]; rfl) ?_
   with_reducible refine (hRef _ hR3).mono ?_
   rintro e w3 ⟨A3, c3, rfl, hR4, hb3⟩
   refine ⟨_, rfl, ?_⟩
   replace hD3 := hD3.below hb3
   replace hR3 := hR4
   replace hbx := Stepb hb3 hbx
   replace hg4 := Stepb hb3 hg4
   replace ha5 := Stepb hb3 ha5
   replace hB3 := hB3.trans (hb3.mono hB3.size)
   replace hsz := Nat.le_trans hsz hb3.size
   refine hK.out _ _ ⟨pw_cell_below hb3 hHeld.1, pw_cell_below hb3 hHeld.2.1, pw_cell_below hb3 hHeld.2.2.1, pw_cell_below hb3 hHeld.2.2.2.1, pw_cell_below hb3 hHeld.2.2.2.2.1, pw_cell_below hb3 hHeld.2.2.2.2.2.1, pw_cell_below hb3 hHeld.2.2.2.2.2.2⟩ (fun hHeld => ?_)
   clear hK K
   refine norm_ (a' := ?_) ?_ ?_
   rotate_left
   ·show Act.put _ (some 188) _ = _
    simp only [Act.put, List.setIfInBounds_toArray, List.set_cons_zero, List.set_cons_succ, i64_w, i32_w]
    rfl
   refine pure_ (i := 11) (N := some 177) (v := ?_) (a' := ?_) #[true, true, true, true, true, true, true, true, true, true, true, true, false, false, false, false, false] rfl rfl (by kernel_rfl) (fun _ _ _ h => h) (Or.inl ⟨by rfl, ?_⟩) ?_ ?_
   rotate_left
   ·intro w'
    go_simp
    with_reducible rfl
   rotate_left
   ·simp only [Act.put, List.setIfInBounds_toArray, List.set_cons_zero, List.set_cons_succ, i64_w, i32_w]
    rfl
   refine pure_ (i := 12) (N := some 189) (v := ?_) (a' := ?_) #[true, true, true, true, true, true, true, true, true, true, true, true, true, false, false, false, false] rfl rfl (by kernel_rfl) (fun _ _ _ h => h) (Or.inl ⟨by rfl, ?_⟩) ?_ ?_
   rotate_left
   ·intro w'
    go_simp
    with_reducible rfl
   rotate_left
   ·simp only [Act.put, List.setIfInBounds_toArray, List.set_cons_zero, List.set_cons_succ, i64_w, i32_w]
    rfl
   refine pure_ (i := 13) (N := some 190) (v := ?_) (a' := ?_) #[true, true, true, true, true, true, true, true, true, true, true, true, true, true, false, false, false] rfl rfl (by kernel_rfl) (fun _ _ _ h => h) (Or.inl ⟨by rfl, ?_⟩) ?_ ?_
   rotate_left
   ·intro w'
    go_simp
    with_reducible rfl
   rotate_left
   ·simp only [Act.put, List.setIfInBounds_toArray, List.set_cons_zero, List.set_cons_succ, i64_w, i32_w]
    rfl
   refine one_ (i := 14) (N := some 23) #[true, true, true, true, true, true, true, true, true, true, true, true, true, true, true, false, false] rfl rfl (by kernel_rfl) (by decide) (fun K hK => ?_)
   refine value_ (w1 := ?_) (v := ?_) (by rfl) rfl ?_ ?_
   rotate_left 2
   ·go_simp
    constructor
    ·rfl
    ·rfl
   have hb3 := below41 w3
   have hz8 := World.alloc_heap_new w3 (.cells #[.slice none 0 0, .bool false, .int .i64 0, .int .i64 0] 41)
   have hT8 := hsz
   generalize w3.heap.size = g8 at hz8 hT8 ⊢
   generalize w3.alloc (.cells #[.slice none 0 0, .bool false, .int .i64 0, .int .i64 0] 41) = w4 at hb3 hz8 ⊢
   replace hD3 := hD3.below hb3
   replace hR3 := hR3.below hb3
   replace hbx := Stepb hb3 hbx
   replace hg4 := Stepb hb3 hg4
   replace ha5 := Stepb hb3 ha5
   replace hB3 := hB3.trans (hb3.mono hB3.size)
   replace hsz := Nat.le_trans hsz hb3.size
   refine hK.out _ _ ⟨pw_cell_below hb3 hHeld.1, pw_cell_below hb3 hHeld.2.1, pw_cell_below hb3 hHeld.2.2.1, pw_cell_below hb3 hHeld.2.2.2.1, pw_cell_below hb3 hHeld.2.2.2.2.1, pw_cell_below hb3 hHeld.2.2.2.2.2.1, pw_cell_below hb3 hHeld.2.2.2.2.2.2⟩ (fun hHeld => ?_)
   clear hK K
   refine norm_ (a' := ?_) ?_ ?_
   rotate_left
   ·show Act.put _ (some 23) _ = _
    simp only [Act.put, List.setIfInBounds_toArray, List.set_cons_zero, List.set_cons_succ, i64_w, i32_w]
    rfl
   exact norm_ (by first | (simp only [putAll, Act.put, List.setIfInBounds_toArray, List.set_cons_zero, List.set_cons_succ]; done) | (simp only [putAll, Act.put, List.setIfInBounds_toArray, List.set_cons_zero, List.set_cons_succ]; rfl)) (hCont (A3, c3, g8) _ ⟨hHeld, hD3, hR3, hbx, hg4, ha5, hB3, hsz, hz8, hT8⟩)
  ·skip
   refine value_ (w1 := ?_) (v := ?_) (by rfl) rfl ?_ ?_
   rotate_left 2
   ·go_simp
    constructor
    ·rfl
    ·rfl
   have hb3 := below41 w3
   have hz8 := World.alloc_heap_new w3 (.cells #[.slice none 0 0, .bool false, .int .i64 0, .int .i64 0] 41)
   have hT8 := hsz
   generalize w3.heap.size = g8 at hz8 hT8 ⊢
   generalize w3.alloc (.cells #[.slice none 0 0, .bool false, .int .i64 0, .int .i64 0] 41) = w4 at hb3 hz8 ⊢
   replace hD3 := hD3.below hb3
   replace hR3 := hR3.below hb3
   replace hbx := Stepb hb3 hbx
   replace hg4 := Stepb hb3 hg4
   replace ha5 := Stepb hb3 ha5
   replace hB3 := hB3.trans (hb3.mono hB3.size)
   replace hsz := Nat.le_trans hsz hb3.size
   refine hK.out _ _ ⟨pw_cell_below hb3 hHeld.1, pw_cell_below hb3 hHeld.2.1, pw_cell_below hb3 hHeld.2.2.1, pw_cell_below hb3 hHeld.2.2.2.1, pw_cell_below hb3 hHeld.2.2.2.2.1, pw_cell_below hb3 hHeld.2.2.2.2.2.1, pw_cell_below hb3 hHeld.2.2.2.2.2.2⟩ (fun hHeld => ?_)
   clear hK K
   refine norm_ (a' := ?_) ?_ ?_
   rotate_left
   ·show Act.put _ (some 23) _ = _
    simp only [Act.put, List.setIfInBounds_toArray, List.set_cons_zero, List.set_cons_succ, i64_w, i32_w]
    rfl
   refine one_ (i := 10) (N := some 188) #[true, true, true, true, true, true, true, true, true, true, true, false, false, false, true, false, false] rfl rfl (by kernel_rfl) (by decide) (fun K hK => ?_)
   refine goes_ Tryd.func36 (by kernel_rfl) rfl #[.agg #[.slice A xs.length c, .bool off, .int .i64 fuse, .int .i64 nw], .int .i64 at_, .int .i64 n, .int .u32 by_] (by rfl) rfl rfl (by simp only [List.map_toArray, List.map_cons, List.map_nil]; rfl) ?_
   with_reducible refine (hRef _ hR3).mono ?_
   rintro e w3 ⟨A3, c3, rfl, hR4, hb3⟩
   refine ⟨_, rfl, ?_⟩
   replace hD3 := hD3.below hb3
   replace hR3 := hR4
   replace hbx := Stepb hb3 hbx
   replace hg4 := Stepb hb3 hg4
   replace ha5 := Stepb hb3 ha5
   replace hB3 := hB3.trans (hb3.mono hB3.size)
   replace hsz := Nat.le_trans hsz hb3.size
   replace hz8 := Stepb hb3 hz8
   refine hK.out _ _ ⟨pw_cell_below hb3 hHeld.1, pw_cell_below hb3 hHeld.2.1, pw_cell_below hb3 hHeld.2.2.1, pw_cell_below hb3 hHeld.2.2.2.1, pw_cell_below hb3 hHeld.2.2.2.2.1, pw_cell_below hb3 hHeld.2.2.2.2.2.1, pw_cell_below hb3 hHeld.2.2.2.2.2.2⟩ (fun hHeld => ?_)
   clear hK K
   refine norm_ (a' := ?_) ?_ ?_
   rotate_left
   ·show Act.put _ (some 188) _ = _
    simp only [Act.put, List.setIfInBounds_toArray, List.set_cons_zero, List.set_cons_succ, i64_w, i32_w]
    rfl
   refine pure_ (i := 11) (N := some 177) (v := ?_) (a' := ?_) #[true, true, true, true, true, true, true, true, true, true, true, true, false, false, true, false, false] rfl rfl (by kernel_rfl) (fun _ _ _ h => h) (Or.inl ⟨by rfl, ?_⟩) ?_ ?_
   rotate_left
   ·intro w'
    go_simp
    with_reducible rfl
   rotate_left
   ·simp only [Act.put, List.setIfInBounds_toArray, List.set_cons_zero, List.set_cons_succ, i64_w, i32_w]
    rfl
   refine pure_ (i := 12) (N := some 189) (v := ?_) (a' := ?_) #[true, true, true, true, true, true, true, true, true, true, true, true, true, false, true, false, false] rfl rfl (by kernel_rfl) (fun _ _ _ h => h) (Or.inl ⟨by rfl, ?_⟩) ?_ ?_
   rotate_left
   ·intro w'
    go_simp
    with_reducible rfl
   rotate_left
   ·simp only [Act.put, List.setIfInBounds_toArray, List.set_cons_zero, List.set_cons_succ, i64_w, i32_w]
    rfl
   refine pure_ (i := 13) (N := some 190) (v := ?_) (a' := ?_) #[true, true, true, true, true, true, true, true, true, true, true, true, true, true, true, false, false] rfl rfl (by kernel_rfl) (fun _ _ _ h => h) (Or.inl ⟨by rfl, ?_⟩) ?_ ?_
   rotate_left
   ·intro w'
    go_simp
    with_reducible rfl
   rotate_left
   ·simp only [Act.put, List.setIfInBounds_toArray, List.set_cons_zero, List.set_cons_succ, i64_w, i32_w]
    rfl
   exact norm_ (by first | (simp only [putAll, Act.put, List.setIfInBounds_toArray, List.set_cons_zero, List.set_cons_succ]; done) | (simp only [putAll, Act.put, List.setIfInBounds_toArray, List.set_cons_zero, List.set_cons_succ]; rfl)) (hCont (A3, c3, g8) _ ⟨hHeld, hD3, hR3, hbx, hg4, ha5, hB3, hsz, hz8, hT8⟩)
 rintro ⟨A3, c3, g8⟩ w3 ⟨hHeld, hD3, hR3, hbx, hg4, ha5, hB3, hsz, hz8, hT8⟩
 dsimp only at hR3 hz8 hT8
 refine norm_ (a' := ?_) ?_ ?_
 rotate_left
 ·simp only [putAll, Act.put, List.setIfInBounds_toArray, List.set_cons_zero, List.set_cons_succ]
  rfl
 refine last_ (i := 15) (N := none) #[true, true, true, true, true, true, true, true, true, true, true, true, true, true, true, true, false] rfl rfl (by kernel_rfl) (by decide) (fun K hK => ?_)
 obtain ⟨⟨z0, z1, z2, z3⟩, q0, q1, q2, q3⟩ := blk4 hz8
 refine skip_ (w1 := ?_) (by rfl) rfl ?_ ?_
 rotate_left
 ·go_simp
  rfl
 refine hK.out _ _ ?_
 clear hK K
 refine pure_ (i := 16) (N := some 24) (v := ?_) (a' := ?_) #[true, true, true, true, true, true, true, true, true, true, true, true, true, true, true, true, true] rfl rfl (by kernel_rfl) (fun _ _ _ h => h) (Or.inl ⟨by rfl, ?_⟩) ?_ ?_
 rotate_left
 ·intro w'
  go_simp
  with_reducible rfl
 rotate_left
 ·simp only [Act.put, List.setIfInBounds_toArray, List.set_cons_zero, List.set_cons_succ, i64_w, i32_w]
  rfl
 refine done_ (by kernel_rfl) ?_
 clear hHeld
 have hst8 := step_put4 w3 g8 (.slice A3 xs.length c3) (.bool o3) (.int .i64 l3) (.int .i64 m3)
 have hz9 := put4 hz8 (.slice A3 xs.length c3) (.bool o3) (.int .i64 l3) (.int .i64 m3)
 replace hD3 := hD3.step hst8 (fun k hk e => by have := hilt k hk; omega)
 replace hR3 := ref_put4 hR3 hz8 (.slice A3 xs.length c3) (.bool o3) (.int .i64 l3) (.int .i64 m3)
 replace hbx := hst8.block hbx (fun e => by omega)
 replace hg4 := hst8.block hg4 (fun e => by omega)
 replace ha5 := hst8.block ha5 (fun e => by omega)
 replace hB3 := below_put4 hB3 (g := g8) (by omega) (.slice A3 xs.length c3) (.bool o3) (.int .i64 l3) (.int .i64 m3)
 replace hsz := Nat.le_trans hsz hst8.size
 clear hz8 hst8
 generalize ((((w3.setCell ⟨g8, 0, none⟩ (.slice A3 xs.length c3)).setCell ⟨g8, 1, none⟩ (.bool o3)).setCell ⟨g8, 2, none⟩ (.int .i64 l3)).setCell ⟨g8, 3, none⟩ (.int .i64 m3)) = W8 at hz9 hD3 hR3 hbx hg4 ha5 hB3 hsz ⊢
 obtain ⟨⟨y0, y1, y2, y3⟩, _⟩ := blk4 hz9
 obtain ⟨⟨t0, t1, t2, t3, t4⟩, e0, e1, e2, e3, e4⟩ := blk5 hbx
 obtain ⟨⟨g0, g1, g2, g3⟩, _⟩ := blk4 hg4
 obtain ⟨⟨a0, a1, a2, a3, a4⟩, _⟩ := blk5 ha5
 go_wp2_with fail
 have hst9 := step_put5 W8 T (.slice A3 xs.length c3) (.bool o3) (.int .i64 l3) (.int .i64 m3)
 replace hD3 := hD3.step hst9 (fun k hk e => hnT (e ▸ hk))
 replace hR3 := ref_put5 hR3 hbx (.slice A3 xs.length c3) (.bool o3) (.int .i64 l3) (.int .i64 m3)
 replace hbx := put5 hbx (.slice A3 xs.length c3) (.bool o3) (.int .i64 l3) (.int .i64 m3)
 replace hg4 := hst9.block hg4 (fun e => by omega)
 replace ha5 := hst9.block ha5 (fun e => by omega)
 have hs3 : Step (fun k => i.In k ∨ k = T) w _ := (Step.of_below (S := fun k => i.In k ∨ k = T) hB3).trans hst9 (fun _ h => h) (fun k hk => Or.inl (Or.inr hk))
 replace hsz := Nat.le_trans hsz hst9.size
 clear hst9 hB3
 generalize ((((W8.setCell ⟨T, 1, none⟩ (.slice A3 xs.length c3)).setCell ⟨T, 2, none⟩ (.bool o3)).setCell ⟨T, 3, none⟩ (.int .i64 l3)).setCell ⟨T, 4, none⟩ (.int .i64 m3)) = W9 at hD3 hR3 hbx hg4 ha5 hs3 hsz ⊢
 obtain ⟨⟨t0, t1, t2, t3, t4⟩, e0, e1, e2, e3, e4⟩ := blk5 hbx
 obtain ⟨⟨g0, g1, g2, g3⟩, _⟩ := blk4 hg4
 obtain ⟨⟨a0, a1, a2, a3, a4⟩, _⟩ := blk5 ha5
 try simp only [List.append_eq, List.cons_append, List.nil_append]
 have hb3 := below_drew1 (Below.refl W9.heap.size W9)
 replace hD3 := hD3.below hb3
 replace hR3 := hR3.below hb3
 replace hbx := Stepb hb3 hbx
 replace hg4 := Stepb hb3 hg4
 replace ha5 := Stepb hb3 ha5
 replace hs3 := hs3.trans (Step.of_below (S := fun k => i.In k ∨ k = T) hb3) (fun _ h => h) (fun _ h => Or.inl h)
 replace hsz := Nat.le_trans hsz hb3.size
 clear hb3
 refine start_ (n := 14) (S := fun w' => w'.cell? ⟨T, 0, none⟩ = some (.pointer (some ⟨i.d, 0, none⟩)) ∧ w'.cell? ⟨w.heap.size + 1, 1, none⟩ = some (.int .i64 at_) ∧ w'.cell? ⟨w.heap.size + 1, 3, none⟩ = some (.int .i64 n) ∧ w'.cell? ⟨w.heap.size + 1, 4, none⟩ = some (.int .u32 by_)) (ds := []) #[false, false, false, false, false, false, false, false, false, false, false, false, false, false] (by kernel_rfl) rfl rfl ⟨t0, a1, a3, a4⟩ (fun hHeld => ?_)
 generalize W9.drew = w3 at hHeld hD3 hR3 hbx hg4 ha5 hs3 hsz ⊢
 refine pure_ (i := 0) (N := some 195) (v := ?_) (a' := ?_) #[true, false, false, false, false, false, false, false, false, false, false, false, false, false] rfl rfl (by kernel_rfl) (fun _ _ _ h => h) (Or.inl ⟨by rfl, ?_⟩) ?_ ?_
 rotate_left
 ·intro w'
  go_simp
  with_reducible rfl
 rotate_left
 ·simp only [Act.put, List.setIfInBounds_toArray, List.set_cons_zero, List.set_cons_succ, i64_w, i32_w]
  rfl
 refine pure_ (i := 1) (N := some 196) (v := ?_) (a' := ?_) #[true, true, false, false, false, false, false, false, false, false, false, false, false, false] rfl rfl (by kernel_rfl) (fun _ _ _ h => h) (Or.inl ⟨by rfl, ?_⟩) ?_ ?_
 rotate_left
 ·intro w'
  go_simp
  with_reducible rfl
 rotate_left
 ·simp only [Act.put, List.setIfInBounds_toArray, List.set_cons_zero, List.set_cons_succ, i64_w, i32_w]
  rfl
 refine pure_ (i := 2) (N := some 197) (v := ?_) (a' := ?_) #[true, true, true, false, false, false, false, false, false, false, false, false, false, false] rfl rfl (by kernel_rfl) (fun _ _ _ h => h) (Or.inl ⟨by rfl, ?_⟩) ?_ ?_
 rotate_left
 ·intro w'
  go_simp
  with_reducible rfl
 rotate_left
 ·simp only [Act.put, List.setIfInBounds_toArray, List.set_cons_zero, List.set_cons_succ, i64_w, i32_w]
  rfl
 refine pure_ (i := 4) (N := some 199) (v := ?_) (a' := ?_) #[true, true, true, false, true, false, false, false, false, false, false, false, false, false] rfl rfl (by kernel_rfl) (fun _ _ _ h => h) (Or.inl ⟨by rfl, ?_⟩) ?_ ?_
 rotate_left
 ·intro w'
  go_simp
  with_reducible rfl
 rotate_left
 ·simp only [Act.put, List.setIfInBounds_toArray, List.set_cons_zero, List.set_cons_succ, i64_w, i32_w]
  rfl
 refine pure_ (i := 6) (N := some 201) (v := ?_) (a' := ?_) #[true, true, true, false, true, false, true, false, false, false, false, false, false, false] rfl rfl (by kernel_rfl) (fun _ _ _ h => h) (Or.inl ⟨by rfl, ?_⟩) ?_ ?_
 rotate_left
 ·intro w'
  go_simp
  with_reducible rfl
 rotate_left
 ·simp only [Act.put, List.setIfInBounds_toArray, List.set_cons_zero, List.set_cons_succ, i64_w, i32_w]
  rfl
 refine pure_ (i := 8) (N := some 203) (v := ?_) (a' := ?_) #[true, true, true, false, true, false, true, false, true, false, false, false, false, false] rfl rfl (by kernel_rfl) (fun _ _ _ h => h) (Or.inl ⟨by rfl, ?_⟩) ?_ ?_
 rotate_left
 ·intro w'
  go_simp
  with_reducible rfl
 rotate_left
 ·simp only [Act.put, List.setIfInBounds_toArray, List.set_cons_zero, List.set_cons_succ, i64_w, i32_w]
  rfl
 refine pure_ (i := 11) (N := some 206) (v := ?_) (a' := ?_) #[true, true, true, false, true, false, true, false, true, false, false, true, false, false] rfl rfl (by kernel_rfl) (fun _ _ _ h => h) (Or.inl ⟨by rfl, ?_⟩) ?_ ?_
 rotate_left
 ·intro w'
  go_simp
  with_reducible rfl
 rotate_left
 ·simp only [Act.put, List.setIfInBounds_toArray, List.set_cons_zero, List.set_cons_succ, i64_w, i32_w]
  rfl
 refine take_ (i := 3) (N := some 198) (v := ?_) (a' := ?_) #[true, true, true, true, true, false, true, false, true, false, false, true, false, false] rfl rfl (by kernel_rfl) (fun _ _ _ h => h) (Or.inl ⟨by rfl, ?_⟩) hHeld ?_ ?_
 rotate_left
 ·rintro w' ⟨s0, s1, s2, s3⟩
  go_simp
  with_reducible rfl
 rotate_left
 ·simp only [Act.put, List.setIfInBounds_toArray, List.set_cons_zero, List.set_cons_succ, i64_w, i32_w]
  rfl
 refine take_ (i := 5) (N := some 200) (v := ?_) (a' := ?_) #[true, true, true, true, true, true, true, false, true, false, false, true, false, false] rfl rfl (by kernel_rfl) (fun _ _ _ h => h) (Or.inl ⟨by rfl, ?_⟩) hHeld ?_ ?_
 rotate_left
 ·rintro w' ⟨s0, s1, s2, s3⟩
  go_simp
  with_reducible rfl
 rotate_left
 ·simp only [Act.put, List.setIfInBounds_toArray, List.set_cons_zero, List.set_cons_succ, i64_w, i32_w]
  rfl
 refine take_ (i := 7) (N := some 202) (v := ?_) (a' := ?_) #[true, true, true, true, true, true, true, true, true, false, false, true, false, false] rfl rfl (by kernel_rfl) (fun _ _ _ h => h) (Or.inl ⟨by rfl, ?_⟩) hHeld ?_ ?_
 rotate_left
 ·rintro w' ⟨s0, s1, s2, s3⟩
  go_simp
  with_reducible rfl
 rotate_left
 ·simp only [Act.put, List.setIfInBounds_toArray, List.set_cons_zero, List.set_cons_succ, i64_w, i32_w]
  rfl
 refine take_ (i := 9) (N := some 204) (v := ?_) (a' := ?_) #[true, true, true, true, true, true, true, true, true, true, false, true, false, false] rfl rfl (by kernel_rfl) (fun _ _ _ h => h) (Or.inl ⟨by rfl, ?_⟩) hHeld ?_ ?_
 rotate_left
 ·rintro w' ⟨s0, s1, s2, s3⟩
  go_simp
  with_reducible rfl
 rotate_left
 ·simp only [Act.put, List.setIfInBounds_toArray, List.set_cons_zero, List.set_cons_succ, i64_w, i32_w]
  rfl
 refine one_ (i := 10) (N := some 205) #[true, true, true, true, true, true, true, true, true, true, true, true, false, false] rfl rfl (by kernel_rfl) (by decide) (fun K hK => ?_)
 refine goes_ Tryd.func37 (by kernel_rfl) rfl #[.pointer (some ⟨i.d, 0, none⟩), .int .i64 at_, .int .i64 n, .int .u32 by_] (by rfl) rfl rfl (by simp only [List.map_toArray, List.map_cons, List.map_nil]; rfl) ?_
 with_reducible refine (hDev _ hD3).mono ?_
 rintro e w3 ⟨rfl, hD4, hs4⟩
 refine ⟨_, rfl, ?_⟩
 have hs4 := hs4
 replace hR3 := hR3.step hs4 (ref_dev hR3 hD3)
 replace hD3 := hD4
 replace hs3 := hs3.trans hs4 (fun _ h => h) (fun _ h => Or.inl (Or.inl h))
 replace hbx := hs4.block hbx hnT
 replace hsz := Nat.le_trans hsz hs4.size
 refine hK.out _ _ ⟨hs4.cell hHeld.1 hnT, hs4.cell hHeld.2.1 (fun h => by have h9 := hilt _ h; dsimp only at h9; omega), hs4.cell hHeld.2.2.1 (fun h => by have h9 := hilt _ h; dsimp only at h9; omega), hs4.cell hHeld.2.2.2 (fun h => by have h9 := hilt _ h; dsimp only at h9; omega)⟩ (fun hHeld => ?_)
 clear hK K
 refine norm_ (a' := ?_) ?_ ?_
 rotate_left
 ·show Act.put _ (some 205) _ = _
  simp only [Act.put, List.setIfInBounds_toArray, List.set_cons_zero, List.set_cons_succ, i64_w, i32_w]
  rfl
 refine pure_ (i := 12) (N := some 207) (v := ?_) (a' := ?_) #[true, true, true, true, true, true, true, true, true, true, true, true, true, false] rfl rfl (by kernel_rfl) (fun _ _ _ h => h) (Or.inl ⟨by rfl, ?_⟩) ?_ ?_
 rotate_left
 ·intro w'
  go_simp
  with_reducible rfl
 rotate_left
 ·simp only [Act.put, List.setIfInBounds_toArray, List.set_cons_zero, List.set_cons_succ, i64_w, i32_w]
  rfl
 refine pure_ (i := 13) (N := some 6) (v := ?_) (a' := ?_) #[true, true, true, true, true, true, true, true, true, true, true, true, true, true] rfl rfl (by kernel_rfl) (fun _ _ _ h => h) (Or.inl ⟨by rfl, ?_⟩) ?_ ?_
 rotate_left
 ·intro w'
  go_simp
  with_reducible rfl
 rotate_left
 ·simp only [Act.put, List.setIfInBounds_toArray, List.set_cons_zero, List.set_cons_succ, i64_w, i32_w]
  rfl
 refine done_ (by kernel_rfl) ?_
 clear hHeld
 go_wp2
 go_ret
 exact ⟨_, _, rfl, hD3, hR3, hbx, hs3⟩
set_option maxRecDepth 100000 in
set_option maxHeartbeats 8000000 in
theorem does_5 (w : World) (T : Nat) (i : DevIds) (A : Option Addr) (c : Nat) (xs : List ByteArray) (F : FL) (B : BL) (off : Bool) (fuse nw : Int) (sh gk gm C at_ n by_ : Int) (tx fs : ByteArray) (fy : Int) (hD : DevAt w i xs F B off fuse nw) (hR : RefAt w (.slice A xs.length c) xs F B) (hbx : w.heap[T]? = some (.cells #[.pointer (some ⟨i.d, 0, none⟩), .slice A xs.length c, .bool off, .int .i64 fuse, .int .i64 nw] 46 (0, 0)))
  (hF1 : ∀ W, Calls Tryd.prog 8 #[.agg #[.int .i64 sh, .int .i64 gk, .int .i64 gm, .int .i64 C], .string tx] W fun e w' => e = .returned (.tuple #[.string fs, .int .i64 fy]) ∧ Below W.heap.size W w')
  (hF2 : ∀ W, Calls Tryd.prog 30 #[.agg #[.int .i64 sh, .int .i64 gk, .int .i64 gm, .int .i64 C], .string tx] W fun e w' => e = .returned (.tuple #[.string fs, .int .i64 fy]) ∧ Below W.heap.size W w')
  {xs3 : List ByteArray} {F3 : FL} {B3 : BL} {o3 : Bool} {l3 m3 why : Int}
  (hRef : ∀ W, RefAt W (.slice A xs.length c) xs F B → Calls Tryd.prog 38 #[.agg #[.slice A xs.length c, .bool off, .int .i64 fuse, .int .i64 nw]] W fun e w' => ∃ A3 c3, e = .returned (.tuple #[.agg #[.slice A3 xs.length c3, .bool o3, .int .i64 l3, .int .i64 m3], .int .i64 why]) ∧ RefAt w' (.slice A3 xs.length c3) xs3 F3 B3 ∧ Below W.heap.size W w')
  (hDev : ∀ W, DevAt W i xs F B off fuse nw → Calls Tryd.prog 39 #[.pointer (some ⟨i.d, 0, none⟩)] W fun e w' => e = .returned (.int .i64 why) ∧ DevAt w' i xs3 F3 B3 o3 l3 m3 ∧ Step i.In W w') :
  Calls Tryd.prog 14 #[.pointer (some ⟨T, 0, none⟩), .agg #[.int .i64 sh, .int .i64 gk, .int .i64 gm, .int .i64 C], .agg #[.int .i64 5, .int .i64 at_, .string tx, .int .i64 n, .int .u32 by_]] w fun e w' => ∃ A3 c3, e = .returned (.bool true) ∧ DevAt w' i xs3 F3 B3 o3 l3 m3 ∧ RefAt w' (.slice A3 xs.length c3) xs3 F3 B3 ∧ w'.heap[T]? = some (.cells #[.pointer (some ⟨i.d, 0, none⟩), .slice A3 xs.length c3, .bool o3, .int .i64 l3, .int .i64 m3] 46 (0, 0)) ∧ Step (fun k => i.In k ∨ k = T) w w' := by
 have hilt := hD.lt
 have hTlt := blk_lt hbx
 have hnT := dev_notT hD hbx
 have hB3 := below2 w (.cells #[.int .i64 sh, .int .i64 gk, .int .i64 gm, .int .i64 C] 23) (.cells #[.int .i64 5, .int .i64 at_, .string tx, .int .i64 n, .int .u32 by_] 48)
 have hg4 := new1of2 w (.cells #[.int .i64 sh, .int .i64 gk, .int .i64 gm, .int .i64 C] 23) (.cells #[.int .i64 5, .int .i64 at_, .string tx, .int .i64 n, .int .u32 by_] 48)
 have ha5 := new2 w (.cells #[.int .i64 sh, .int .i64 gk, .int .i64 gm, .int .i64 C] 23) (.cells #[.int .i64 5, .int .i64 at_, .string tx, .int .i64 n, .int .u32 by_] 48)
 have hsz : w.heap.size + 2 ≤ ((w.alloc (.cells #[.int .i64 sh, .int .i64 gk, .int .i64 gm, .int .i64 C] 23)).alloc (.cells #[.int .i64 5, .int .i64 at_, .string tx, .int .i64 n, .int .u32 by_] 48)).heap.size := by simp
 go_enter Tryd.func14, Tryd.ntmps14
 go_upto_region 1 with (fail)
 generalize (w.alloc (.cells #[.int .i64 sh, .int .i64 gk, .int .i64 gm, .int .i64 C] 23)).alloc (.cells #[.int .i64 5, .int .i64 at_, .string tx, .int .i64 n, .int .u32 by_] 48) = W at hB3 hg4 ha5 hsz ⊢
 have hD3 := hD.below hB3
 have hR3 := hR.below hB3
 replace hbx := Stepb hB3 hbx
 clear hD hR
 obtain ⟨⟨t0, t1, t2, t3, t4⟩, e0, e1, e2, e3, e4⟩ := blk5 hbx
 obtain ⟨⟨g0, g1, g2, g3⟩, _⟩ := blk4 hg4
 obtain ⟨⟨a0, a1, a2, a3, a4⟩, _⟩ := blk5 ha5
 go_wp2_with (first
  | (go_at_call 8; with_reducible refine (hF1 _).mono ?_; rintro e W1 ⟨rfl, hb3⟩; clear t0 t1 t2 t3 t4 e0 e1 e2 e3 e4 g0 g1 g2 g3 a0 a1 a2 a3 a4; replace hD3 := hD3.below hb3; replace hR3 := hR3.below hb3; replace hbx := Stepb hb3 hbx; replace hg4 := Stepb hb3 hg4; replace ha5 := Stepb hb3 ha5; replace hB3 := hB3.trans (hb3.mono hB3.size); replace hsz := Nat.le_trans hsz hb3.size; clear hb3; obtain ⟨⟨t0, t1, t2, t3, t4⟩, e0, e1, e2, e3, e4⟩ := blk5 hbx; obtain ⟨⟨g0, g1, g2, g3⟩, _⟩ := blk4 hg4; obtain ⟨⟨a0, a1, a2, a3, a4⟩, _⟩ := blk5 ha5)
  | (go_at_call 30; with_reducible refine (hF2 _).mono ?_; rintro e W2 ⟨rfl, hb3⟩; clear t0 t1 t2 t3 t4 e0 e1 e2 e3 e4 g0 g1 g2 g3 a0 a1 a2 a3 a4; replace hD3 := hD3.below hb3; replace hR3 := hR3.below hb3; replace hbx := Stepb hb3 hbx; replace hg4 := Stepb hb3 hg4; replace ha5 := Stepb hb3 ha5; replace hB3 := hB3.trans (hb3.mono hB3.size); replace hsz := Nat.le_trans hsz hb3.size; clear hb3; obtain ⟨⟨t0, t1, t2, t3, t4⟩, e0, e1, e2, e3, e4⟩ := blk5 hbx; obtain ⟨⟨g0, g1, g2, g3⟩, _⟩ := blk4 hg4; obtain ⟨⟨a0, a1, a2, a3, a4⟩, _⟩ := blk5 ha5)
  | (go_at_call 38; with_reducible refine (hRef _ hR3).mono ?_))
 rintro e w3 ⟨A3, c3, rfl, hR4, hb3⟩
 clear t0 t1 t2 t3 t4 e0 e1 e2 e3 e4 g0 g1 g2 g3 a0 a1 a2 a3 a4
 replace hD3 := hD3.below hb3
 replace hR3 := hR4
 replace hbx := Stepb hb3 hbx
 replace hg4 := Stepb hb3 hg4
 replace ha5 := Stepb hb3 ha5
 replace hB3 := hB3.trans (hb3.mono hB3.size)
 replace hsz := Nat.le_trans hsz hb3.size
 clear hb3 hR4
 obtain ⟨⟨t0, t1, t2, t3, t4⟩, e0, e1, e2, e3, e4⟩ := blk5 hbx
 obtain ⟨⟨g0, g1, g2, g3⟩, _⟩ := blk4 hg4
 obtain ⟨⟨a0, a1, a2, a3, a4⟩, _⟩ := blk5 ha5
 go_upto_region 28 with (fail)
 have hb3 : Below w3.heap.size w3 (w3.alloc (.cells #[.slice A3 xs.length c3, .bool o3, .int .i64 l3, .int .i64 m3] 41)) := (Below.refl _ _).alloc (Nat.le_refl _) _
 have hz9 := World.alloc_heap_new w3 (.cells #[.slice A3 xs.length c3, .bool o3, .int .i64 l3, .int .i64 m3] 41)
 have hT8 := hsz
 clear t0 t1 t2 t3 t4 e0 e1 e2 e3 e4 g0 g1 g2 g3 a0 a1 a2 a3 a4
 generalize w3.heap.size = g8 at hz9 hT8 ⊢
 generalize w3.alloc (.cells #[.slice A3 xs.length c3, .bool o3, .int .i64 l3, .int .i64 m3] 41) = W8 at hb3 hz9 ⊢
 replace hD3 := hD3.below hb3
 replace hR3 := hR3.below hb3
 replace hbx := Stepb hb3 hbx
 replace hg4 := Stepb hb3 hg4
 replace ha5 := Stepb hb3 ha5
 replace hB3 := hB3.trans (hb3.mono hB3.size)
 replace hsz := Nat.le_trans hsz hb3.size
 clear hb3
 obtain ⟨⟨y0, y1, y2, y3⟩, _⟩ := blk4 hz9
 obtain ⟨⟨t0, t1, t2, t3, t4⟩, e0, e1, e2, e3, e4⟩ := blk5 hbx
 obtain ⟨⟨g0, g1, g2, g3⟩, _⟩ := blk4 hg4
 obtain ⟨⟨a0, a1, a2, a3, a4⟩, _⟩ := blk5 ha5
 go_wp2_with (first
  | (go_at_call 39; have hst9 := step_put5 W8 T (.slice A3 xs.length c3) (.bool o3) (.int .i64 l3) (.int .i64 m3); replace hD3 := hD3.step hst9 (fun k hk e => hnT (e ▸ hk)); replace hR3 := ref_put5 hR3 hbx (.slice A3 xs.length c3) (.bool o3) (.int .i64 l3) (.int .i64 m3); replace hbx := put5 hbx (.slice A3 xs.length c3) (.bool o3) (.int .i64 l3) (.int .i64 m3); replace hg4 := hst9.block hg4 (fun e => by omega); replace ha5 := hst9.block ha5 (fun e => by omega); have hs3 : Step (fun k => i.In k ∨ k = T) w _ := (Step.of_below (S := fun k => i.In k ∨ k = T) hB3).trans hst9 (fun _ h => h) (fun k hk => Or.inl (Or.inr hk)); replace hsz := Nat.le_trans hsz hst9.size; clear hst9 hB3; generalize ((((W8.setCell ⟨T, 1, none⟩ (.slice A3 xs.length c3)).setCell ⟨T, 2, none⟩ (.bool o3)).setCell ⟨T, 3, none⟩ (.int .i64 l3)).setCell ⟨T, 4, none⟩ (.int .i64 m3)) = W9 at hD3 hR3 hbx hg4 ha5 hs3 hsz ⊢; obtain ⟨⟨t0, t1, t2, t3, t4⟩, e0, e1, e2, e3, e4⟩ := blk5 hbx; obtain ⟨⟨g0, g1, g2, g3⟩, _⟩ := blk4 hg4; obtain ⟨⟨a0, a1, a2, a3, a4⟩, _⟩ := blk5 ha5; with_reducible refine (hDev _ hD3).mono ?_; rintro e w4 ⟨rfl, hD4, hs4⟩; have hs4 := hs4; replace hR3 := hR3.step hs4 (ref_dev hR3 hD3); replace hD3 := hD4; replace hs3 := hs3.trans hs4 (fun _ h => h) (fun _ h => Or.inl (Or.inl h)); replace hbx := hs4.block hbx hnT; replace hsz := Nat.le_trans hsz hs4.size))
 go_ret
 exact ⟨_, _, rfl, hD3, hR3, hbx, hs3⟩
end

end Go.Proofs.YtpbkcdodpjpoeaaDoor.HCP
