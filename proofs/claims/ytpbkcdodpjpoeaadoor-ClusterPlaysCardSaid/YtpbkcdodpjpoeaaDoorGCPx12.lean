/- WRITTEN BY wip/hyb.py, a program of this workplace (out of the kit's printer and this workplace's own contracts). -/
import Derived.Test.YtpbkcdodpjpoeaaDoorGCPx0
import Derived.Test.YtpbkcdodpjpoeaaDoorGCPx2
import Derived.Test.YtpbkcdodpjpoeaaDoorGCPx4
import Derived.Test.YtpbkcdodpjpoeaaDoorGCPx11
namespace Go.Proofs.YtpbkcdodpjpoeaaDoor.HCP
open Go.RowKit Go.Proofs.YtpbkcdodpjpoeaaDoorW.PrintWords Go.Proofs.YtpbkcdodpjpoeaaDoorW.PrintLast Go.Proofs.YtpbkcdodpjpoeaaDoorW.PrintMore
attribute [local go_sem] max2_int min2_int max_two min_two max_three min_three max_four min_four   -- for this text's walks alone
set_option linter.unusedVariables false
set_option linter.unusedSimpArgs false

section
open Go Go.Shelf Go.Maps Go.Proofs.YtpbkcdodpjpoeaaDoor.Seq Go.Proofs.YtpbkcdodpjpoeaaDoor.MapL Go.Proofs.YtpbkcdodpjpoeaaDoorW.PrintLast
attribute [local go_sem] Oper.semAt_some max2_int min2_int max_two min_two
theorem blk5 {w : World} {g : Nat} {t : TypeId} {a b c d e : Value} (h : w.heap[g]? = some (.cells #[a, b, c, d, e] t (0, 0))) : (w.cell? ⟨g, 0, none⟩ = some a ∧ w.cell? ⟨g, 1, none⟩ = some b ∧ w.cell? ⟨g, 2, none⟩ = some c ∧ w.cell? ⟨g, 3, none⟩ = some d ∧ w.cell? ⟨g, 4, none⟩ = some e) ∧ w.frozen? ⟨g, 0, none⟩ = false ∧ w.frozen? ⟨g, 1, none⟩ = false ∧ w.frozen? ⟨g, 2, none⟩ = false ∧ w.frozen? ⟨g, 3, none⟩ = false ∧ w.frozen? ⟨g, 4, none⟩ = false := by
 refine ⟨⟨?_, ?_, ?_, ?_, ?_⟩, blk_frozen h 0, blk_frozen h 1, blk_frozen h 2, blk_frozen h 3, blk_frozen h 4⟩ <;> (rw [blk_cell h]; rfl)
section
variable {w : World} {g : Nat} {t : TypeId} {p a b c d : Value}
theorem put5 (h : w.heap[g]? = some (.cells #[p, a, b, c, d] t (0, 0))) (a' b' c' d' : Value) :
  ((((w.setCell ⟨g, 1, none⟩ a').setCell ⟨g, 2, none⟩ b').setCell ⟨g, 3, none⟩ c').setCell ⟨g, 4, none⟩ d').heap[g]? = some (.cells #[p, a', b', c', d'] t (0, 0)) := by
 simpa using blk_set (blk_set (blk_set (blk_set h 1 a') 2 b') 3 c') 4 d'
theorem step_put5 (w : World) (g : Nat) (a' b' c' d' : Value) : Step (fun k => k = g) w ((((w.setCell ⟨g, 1, none⟩ a').setCell ⟨g, 2, none⟩ b').setCell ⟨g, 3, none⟩ c').setCell ⟨g, 4, none⟩ d') :=
 (((Step.setCell w (p := ⟨g, 1, none⟩) (S := fun q => q = g) rfl _).trans (Step.setCell _ (p := ⟨g, 2, none⟩) (S := fun q => q = g) rfl _) (fun _ h => h) (fun _ h => Or.inl h)).trans (Step.setCell _ (p := ⟨g, 3, none⟩) (S := fun q => q = g) rfl _) (fun _ h => h) (fun _ h => Or.inl h)).trans (Step.setCell _ (p := ⟨g, 4, none⟩) (S := fun q => q = g) rfl _) (fun _ h => h) (fun _ h => Or.inl h)
theorem ref_put5 {v : Value} {xs : List ByteArray} {F : FL} {B : BL} (h : RefAt w v xs F B) {cs : Array Value} (hq : w.heap[g]? = some (.cells cs 46 (0, 0))) (a' b' c' d' : Value) : RefAt ((((w.setCell ⟨g, 1, none⟩ a').setCell ⟨g, 2, none⟩ b').setCell ⟨g, 3, none⟩ c').setCell ⟨g, 4, none⟩ d') v xs F B :=
 h.step (step_put5 w g a' b' c' d') (fun k hk e => h.ne hq (by decide) (e ▸ hk))
end
theorem ref_dev {w : World} {i : DevIds} {v : Value} {xs xs2 : List ByteArray} {F F2 : FL} {B B2 : BL} {off : Bool} {fuse nw : Int} (hR : RefAt w v xs2 F2 B2) (hD : DevAt w i xs F B off fuse nw) : ∀ g, v.ownBlock = some g → ¬ i.In g := by
 obtain ⟨hd, hr, hf, hb, _⟩ := hD
 obtain ⟨e1, c1, m1⟩ := map_block hf
 obtain ⟨e2, c2, m2⟩ := map_block hb
 obtain ⟨cur, r⟩ := row_block hr
 rintro g hg (rfl | rfl | rfl | rfl)
 ·exact hR.ne hd (by decide) hg
 ·exact hR.ne r (by decide) hg
 ·exact own103_ne hR m1 (fun cur e => by cases e) hg
 ·exact own103_ne hR m2 (fun cur e => by cases e) hg
theorem DevAt.below {w w' : World} {i : DevIds} {xs : List ByteArray} {F : FL} {B : BL} {off : Bool} {fuse nw : Int} (h : DevAt w i xs F B off fuse nw) (hb : Below w.heap.size w w') : DevAt w' i xs F B off fuse nw := h.step (Step.of_below (S := fun _ => False) hb) (fun _ _ h => h)
theorem dev_notT {w : World} {T : Nat} {cs : Array Value} {i : DevIds} {xs : List ByteArray} {F : FL} {B : BL} {off : Bool} {fuse nw : Int} (h : DevAt w i xs F B off fuse nw) (hbx : w.heap[T]? = some (.cells cs 46 (0, 0))) : ¬ i.In T := by
 obtain ⟨hd, hr, hf, hb, _⟩ := h
 obtain ⟨e1, c1, m1⟩ := map_block hf
 obtain ⟨e2, c2, m2⟩ := map_block hb
 obtain ⟨cur, r⟩ := row_block hr
 rintro (e | e | e | e)
 ·rw [e, hd] at hbx; cases hbx
 ·rw [e, r] at hbx; cases hbx
 ·rw [e, m1] at hbx; cases hbx
 ·rw [e, m2] at hbx; cases hbx
set_option maxRecDepth 100000 in
set_option maxHeartbeats 8000000 in
theorem does_0 (w : World) (T : Nat) (i : DevIds) (A : Option Addr) (c : Nat) (xs : List ByteArray) (F : FL) (B : BL) (off : Bool) (fuse nw : Int) (sh gk gm C at_ n by_ : Int) (tx fs : ByteArray) (fy : Int) (hD : DevAt w i xs F B off fuse nw) (hR : RefAt w (.slice A xs.length c) xs F B) (hbx : w.heap[T]? = some (.cells #[.pointer (some ⟨i.d, 0, none⟩), .slice A xs.length c, .bool off, .int .i64 fuse, .int .i64 nw] 46 (0, 0)))
  (hF1 : ∀ W, Calls Tryd.prog 8 #[.agg #[.int .i64 sh, .int .i64 gk, .int .i64 gm, .int .i64 C], .string tx] W fun e w' => e = .returned (.tuple #[.string fs, .int .i64 fy]) ∧ Below W.heap.size W w')
  (hF2 : ∀ W, Calls Tryd.prog 30 #[.agg #[.int .i64 sh, .int .i64 gk, .int .i64 gm, .int .i64 C], .string tx] W fun e w' => e = .returned (.tuple #[.string fs, .int .i64 fy]) ∧ Below W.heap.size W w')
  {xs3 : List ByteArray} {F3 : FL} {B3 : BL} {o3 : Bool} {l3 m3 why : Int}
  (hRef : ∀ W, RefAt W (.slice A xs.length c) xs F B → Calls Tryd.prog 31 #[.agg #[.slice A xs.length c, .bool off, .int .i64 fuse, .int .i64 nw], .agg #[.int .i64 sh, .int .i64 gk, .int .i64 gm, .int .i64 C], .int .i64 at_, .string fs] W fun e w' => ∃ A3 c3, e = .returned (.tuple #[.agg #[.slice A3 xs.length c3, .bool o3, .int .i64 l3, .int .i64 m3], .int .i64 why]) ∧ RefAt w' (.slice A3 xs.length c3) xs3 F3 B3 ∧ Below W.heap.size W w')
  (hDev : ∀ W, DevAt W i xs F B off fuse nw → Calls Tryd.prog 10 #[.pointer (some ⟨i.d, 0, none⟩), .agg #[.int .i64 sh, .int .i64 gk, .int .i64 gm, .int .i64 C], .int .i64 at_, .string fs] W fun e w' => e = .returned (.int .i64 why) ∧ DevAt w' i xs3 F3 B3 o3 l3 m3 ∧ Step i.In W w') :
  Calls Tryd.prog 14 #[.pointer (some ⟨T, 0, none⟩), .agg #[.int .i64 sh, .int .i64 gk, .int .i64 gm, .int .i64 C], .agg #[.int .i64 0, .int .i64 at_, .string tx, .int .i64 n, .int .u32 by_]] w fun e w' => ∃ A3 c3, e = .returned (.bool true) ∧ DevAt w' i xs3 F3 B3 o3 l3 m3 ∧ RefAt w' (.slice A3 xs.length c3) xs3 F3 B3 ∧ w'.heap[T]? = some (.cells #[.pointer (some ⟨i.d, 0, none⟩), .slice A3 xs.length c3, .bool o3, .int .i64 l3, .int .i64 m3] 46 (0, 0)) ∧ Step (fun k => i.In k ∨ k = T) w w' := by
 have hilt := hD.lt
 have hTlt := blk_lt hbx
 have hnT := dev_notT hD hbx
 have hB3 := below2 w (.cells #[.int .i64 sh, .int .i64 gk, .int .i64 gm, .int .i64 C] 23) (.cells #[.int .i64 0, .int .i64 at_, .string tx, .int .i64 n, .int .u32 by_] 48)
 have hg4 := new1of2 w (.cells #[.int .i64 sh, .int .i64 gk, .int .i64 gm, .int .i64 C] 23) (.cells #[.int .i64 0, .int .i64 at_, .string tx, .int .i64 n, .int .u32 by_] 48)
 have ha5 := new2 w (.cells #[.int .i64 sh, .int .i64 gk, .int .i64 gm, .int .i64 C] 23) (.cells #[.int .i64 0, .int .i64 at_, .string tx, .int .i64 n, .int .u32 by_] 48)
 have hsz : w.heap.size + 2 ≤ ((w.alloc (.cells #[.int .i64 sh, .int .i64 gk, .int .i64 gm, .int .i64 C] 23)).alloc (.cells #[.int .i64 0, .int .i64 at_, .string tx, .int .i64 n, .int .u32 by_] 48)).heap.size := by simp
 go_enter Tryd.func14, Tryd.ntmps14
 go_upto_region 1 with (fail)
 generalize (w.alloc (.cells #[.int .i64 sh, .int .i64 gk, .int .i64 gm, .int .i64 C] 23)).alloc (.cells #[.int .i64 0, .int .i64 at_, .string tx, .int .i64 n, .int .u32 by_] 48) = W at hB3 hg4 ha5 hsz ⊢
 have hD3 := hD.below hB3
 have hR3 := hR.below hB3
 replace hbx := Stepb hB3 hbx
 clear hD hR
 obtain ⟨⟨t0, t1, t2, t3, t4⟩, e0, e1, e2, e3, e4⟩ := blk5 hbx
 obtain ⟨⟨g0, g1, g2, g3⟩, _⟩ := blk4 hg4
 obtain ⟨⟨a0, a1, a2, a3, a4⟩, _⟩ := blk5 ha5
 go_wp2_with (first
  | (go_at_call 8; with_reducible refine (hF1 _).mono ?_; rintro e W1 ⟨rfl, hb3⟩; clear t0 t1 t2 t3 t4 e0 e1 e2 e3 e4 g0 g1 g2 g3 a0 a1 a2 a3 a4; replace hD3 := hD3.below hb3; replace hR3 := hR3.below hb3; replace hbx := Stepb hb3 hbx; replace hg4 := Stepb hb3 hg4; replace ha5 := Stepb hb3 ha5; replace hB3 := hB3.trans (hb3.mono hB3.size); replace hsz := Nat.le_trans hsz hb3.size; clear hb3; obtain ⟨⟨t0, t1, t2, t3, t4⟩, e0, e1, e2, e3, e4⟩ := blk5 hbx; obtain ⟨⟨g0, g1, g2, g3⟩, _⟩ := blk4 hg4; obtain ⟨⟨a0, a1, a2, a3, a4⟩, _⟩ := blk5 ha5)
  | (go_at_call 30; with_reducible refine (hF2 _).mono ?_; rintro e W2 ⟨rfl, hb3⟩; clear t0 t1 t2 t3 t4 e0 e1 e2 e3 e4 g0 g1 g2 g3 a0 a1 a2 a3 a4; replace hD3 := hD3.below hb3; replace hR3 := hR3.below hb3; replace hbx := Stepb hb3 hbx; replace hg4 := Stepb hb3 hg4; replace ha5 := Stepb hb3 ha5; replace hB3 := hB3.trans (hb3.mono hB3.size); replace hsz := Nat.le_trans hsz hb3.size; clear hb3; obtain ⟨⟨t0, t1, t2, t3, t4⟩, e0, e1, e2, e3, e4⟩ := blk5 hbx; obtain ⟨⟨g0, g1, g2, g3⟩, _⟩ := blk4 hg4; obtain ⟨⟨a0, a1, a2, a3, a4⟩, _⟩ := blk5 ha5))
 try simp only [List.append_eq, List.cons_append, List.nil_append]
 have hb3 := below_drew1 (Below.refl W2.heap.size W2)
 replace hD3 := hD3.below hb3
 replace hR3 := hR3.below hb3
 replace hbx := Stepb hb3 hbx
 replace hg4 := Stepb hb3 hg4
 replace ha5 := Stepb hb3 ha5
 replace hB3 := hB3.trans (hb3.mono hB3.size)
 replace hsz := Nat.le_trans hsz hb3.size
 clear hb3
 refine start_ (n := 15) (S := fun w' => w'.cell? ⟨T, 1, none⟩ = some (.slice A xs.length c) ∧ w'.cell? ⟨T, 2, none⟩ = some (.bool off) ∧ w'.cell? ⟨T, 3, none⟩ = some (.int .i64 fuse) ∧ w'.cell? ⟨T, 4, none⟩ = some (.int .i64 nw) ∧ w'.cell? ⟨w.heap.size, 0, none⟩ = some (.int .i64 sh) ∧ w'.cell? ⟨w.heap.size, 1, none⟩ = some (.int .i64 gk) ∧ w'.cell? ⟨w.heap.size, 2, none⟩ = some (.int .i64 gm) ∧ w'.cell? ⟨w.heap.size, 3, none⟩ = some (.int .i64 C) ∧ w'.cell? ⟨w.heap.size + 1, 1, none⟩ = some (.int .i64 at_)) (ds := [13]) #[false, false, false, false, false, false, false, false, false, false, false, false, false, false, false] (by kernel_rfl) rfl rfl ⟨t1, t2, t3, t4, g0, g1, g2, g3, a1⟩ (fun hHeld => ?_)
 generalize W2.drew = w3 at hHeld hD3 hR3 hbx hg4 ha5 hB3 hsz ⊢
 refine pure_ (i := 0) (N := some 56) (v := ?_) (a' := ?_) #[true, false, false, false, false, false, false, false, false, false, false, false, false, false, false] rfl rfl (by kernel_rfl) (fun _ _ _ h => h) (Or.inl ⟨by rfl, ?_⟩) ?_ ?_
 rotate_left
 ·intro w'
  go_simp
  with_reducible rfl
 rotate_left
 ·simp only [Act.put, List.setIfInBounds_toArray, List.set_cons_zero, List.set_cons_succ, i64_w, i32_w]
  rfl
 refine pure_ (i := 1) (N := some 57) (v := ?_) (a' := ?_) #[true, true, false, false, false, false, false, false, false, false, false, false, false, false, false] rfl rfl (by kernel_rfl) (fun _ _ _ h => h) (Or.inl ⟨by rfl, ?_⟩) ?_ ?_
 rotate_left
 ·intro w'
  go_simp
  with_reducible rfl
 rotate_left
 ·simp only [Act.put, List.setIfInBounds_toArray, List.set_cons_zero, List.set_cons_succ, i64_w, i32_w]
  rfl
 refine pure_ (i := 2) (N := some 58) (v := ?_) (a' := ?_) #[true, true, true, false, false, false, false, false, false, false, false, false, false, false, false] rfl rfl (by kernel_rfl) (fun _ _ _ h => h) (Or.inl ⟨by rfl, ?_⟩) ?_ ?_
 rotate_left
 ·intro w'
  go_simp
  with_reducible rfl
 rotate_left
 ·simp only [Act.put, List.setIfInBounds_toArray, List.set_cons_zero, List.set_cons_succ, i64_w, i32_w]
  rfl
 refine pure_ (i := 5) (N := some 61) (v := ?_) (a' := ?_) #[true, true, true, false, false, true, false, false, false, false, false, false, false, false, false] rfl rfl (by kernel_rfl) (fun _ _ _ h => h) (Or.inl ⟨by rfl, ?_⟩) ?_ ?_
 rotate_left
 ·intro w'
  go_simp
  with_reducible rfl
 rotate_left
 ·simp only [Act.put, List.setIfInBounds_toArray, List.set_cons_zero, List.set_cons_succ, i64_w, i32_w]
  rfl
 refine pure_ (i := 7) (N := some 63) (v := ?_) (a' := ?_) #[true, true, true, false, false, true, false, true, false, false, false, false, false, false, false] rfl rfl (by kernel_rfl) (fun _ _ _ h => h) (Or.inl ⟨by rfl, ?_⟩) ?_ ?_
 rotate_left
 ·intro w'
  go_simp
  with_reducible rfl
 rotate_left
 ·simp only [Act.put, List.setIfInBounds_toArray, List.set_cons_zero, List.set_cons_succ, i64_w, i32_w]
  rfl
 refine take_ (i := 3) (N := some 59) (v := ?_) (a' := ?_) #[true, true, true, true, false, true, false, true, false, false, false, false, false, false, false] rfl rfl (by kernel_rfl) (fun _ _ _ h => h) (Or.inl ⟨by rfl, ?_⟩) hHeld ?_ ?_
 rotate_left
 ·rintro w' ⟨s0, s1, s2, s3, s4, s5, s6, s7, s8⟩
  go_simp
  with_reducible rfl
 rotate_left
 ·simp only [Act.put, List.setIfInBounds_toArray, List.set_cons_zero, List.set_cons_succ, i64_w, i32_w]
  rfl
 refine take_ (i := 4) (N := some 60) (v := ?_) (a' := ?_) #[true, true, true, true, true, true, false, true, false, false, false, false, false, false, false] rfl rfl (by kernel_rfl) (fun _ _ _ h => h) (Or.inl ⟨by rfl, ?_⟩) hHeld ?_ ?_
 rotate_left
 ·rintro w' ⟨s0, s1, s2, s3, s4, s5, s6, s7, s8⟩
  go_simp
  with_reducible rfl
 rotate_left
 ·simp only [Act.put, List.setIfInBounds_toArray, List.set_cons_zero, List.set_cons_succ, i64_w, i32_w]
  rfl
 refine take_ (i := 6) (N := some 62) (v := ?_) (a' := ?_) #[true, true, true, true, true, true, true, true, false, false, false, false, false, false, false] rfl rfl (by kernel_rfl) (fun _ _ _ h => h) (Or.inl ⟨by rfl, ?_⟩) hHeld ?_ ?_
 rotate_left
 ·rintro w' ⟨s0, s1, s2, s3, s4, s5, s6, s7, s8⟩
  go_simp
  with_reducible rfl
 rotate_left
 ·simp only [Act.put, List.setIfInBounds_toArray, List.set_cons_zero, List.set_cons_succ, i64_w, i32_w]
  rfl
 refine join_ (σ := Option Addr × Nat × Nat) 2 #[true, true, true, true, true, true, true, true, true, true, true, true, true, false, false] (fun s => [(64, .tuple #[.agg #[.slice s.1 xs.length s.2.1, .bool o3, .int .i64 l3, .int .i64 m3], .int .i64 why]), (55, .tuple #[.agg #[.slice s.1 xs.length s.2.1, .bool o3, .int .i64 l3, .int .i64 m3], .int .i64 why]), (65, .agg #[.slice s.1 xs.length s.2.1, .bool o3, .int .i64 l3, .int .i64 m3]), (66, .int .i64 why), (11, .pointer (some ⟨s.2.2, 0, none⟩))]) (fun s w' => (w'.cell? ⟨T, 1, none⟩ = some (.slice A xs.length c) ∧ w'.cell? ⟨T, 2, none⟩ = some (.bool off) ∧ w'.cell? ⟨T, 3, none⟩ = some (.int .i64 fuse) ∧ w'.cell? ⟨T, 4, none⟩ = some (.int .i64 nw) ∧ w'.cell? ⟨w.heap.size, 0, none⟩ = some (.int .i64 sh) ∧ w'.cell? ⟨w.heap.size, 1, none⟩ = some (.int .i64 gk) ∧ w'.cell? ⟨w.heap.size, 2, none⟩ = some (.int .i64 gm) ∧ w'.cell? ⟨w.heap.size, 3, none⟩ = some (.int .i64 C) ∧ w'.cell? ⟨w.heap.size + 1, 1, none⟩ = some (.int .i64 at_)) ∧ DevAt w' i xs F B off fuse nw ∧ RefAt w' (.slice s.1 xs.length s.2.1) xs3 F3 B3 ∧ w'.heap[T]? = some (.cells #[.pointer (some ⟨i.d, 0, none⟩), .slice A xs.length c, .bool off, .int .i64 fuse, .int .i64 nw] 46 (0, 0)) ∧ w'.heap[w.heap.size]? = some (.cells #[.int .i64 sh, .int .i64 gk, .int .i64 gm, .int .i64 C] 23 (0, 0)) ∧ w'.heap[w.heap.size + 1]? = some (.cells #[.int .i64 0, .int .i64 at_, .string tx, .int .i64 n, .int .u32 by_] 48 (0, 0)) ∧ Below w.heap.size w w' ∧ w.heap.size + 2 ≤ w'.heap.size ∧ w'.heap[s.2.2]? = some (.cells #[.slice none 0 0, .bool false, .int .i64 0, .int .i64 0] 41 (0, 0)) ∧ w.heap.size + 2 ≤ s.2.2) ?_ ?_
 rotate_left
 ·intro hCont
  refine two_ (i := 8) (j := 12) (Ni := some 64) (Nj := some 11) #[true, true, true, true, true, true, true, true, true, false, false, false, false, false, false] #[true, true, true, true, true, true, true, true, false, false, false, false, true, false, false] rfl rfl rfl rfl (by kernel_rfl) (by decide) (by decide) (fun K hK => ?_) (fun K hK => ?_)
  ·skip
   refine goes_ Tryd.func31 (by kernel_rfl) rfl #[.agg #[.slice A xs.length c, .bool off, .int .i64 fuse, .int .i64 nw], .agg #[.int .i64 sh, .int .i64 gk, .int .i64 gm, .int .i64 C], .int .i64 at_, .string fs] (by rfl) rfl rfl (by simp only [List.map_toArray, List.map_cons, List.map_nil]; rfl) ?_
   with_reducible refine (hRef _ hR3).mono ?_
   rintro e w3 ⟨A3, c3, rfl, hR4, hb3⟩
   refine ⟨_, rfl, ?_⟩
   replace hD3 := hD3.below hb3
   replace hR3 := hR4
   replace hbx := Stepb hb3 hbx
   replace hg4 := Stepb hb3 hg4
   replace ha5 := Stepb hb3 ha5
   replace hB3 := hB3.trans (hb3.mono hB3.size)
   replace hsz := Nat.le_trans hsz hb3.size
   refine hK.out _ _ ⟨pw_cell_below hb3 hHeld.1, pw_cell_below hb3 hHeld.2.1, pw_cell_below hb3 hHeld.2.2.1, pw_cell_below hb3 hHeld.2.2.2.1, pw_cell_below hb3 hHeld.2.2.2.2.1, pw_cell_below hb3 hHeld.2.2.2.2.2.1, pw_cell_below hb3 hHeld.2.2.2.2.2.2.1, pw_cell_below hb3 hHeld.2.2.2.2.2.2.2.1, pw_cell_below hb3 hHeld.2.2.2.2.2.2.2.2⟩ (fun hHeld => ?_)
   clear hK K
   refine norm_ (a' := ?_) ?_ ?_
   rotate_left
   ·show Act.put _ (some 64) _ = _
    simp only [Act.put, List.setIfInBounds_toArray, List.set_cons_zero, List.set_cons_succ, i64_w, i32_w]
    rfl
   refine pure_ (i := 9) (N := some 55) (v := ?_) (a' := ?_) #[true, true, true, true, true, true, true, true, true, true, false, false, false, false, false] rfl rfl (by kernel_rfl) (fun _ _ _ h => h) (Or.inl ⟨by rfl, ?_⟩) ?_ ?_
   rotate_left
   ·intro w'
    go_simp
    with_reducible rfl
   rotate_left
   ·simp only [Act.put, List.setIfInBounds_toArray, List.set_cons_zero, List.set_cons_succ, i64_w, i32_w]
    rfl
   refine pure_ (i := 10) (N := some 65) (v := ?_) (a' := ?_) #[true, true, true, true, true, true, true, true, true, true, true, false, false, false, false] rfl rfl (by kernel_rfl) (fun _ _ _ h => h) (Or.inl ⟨by rfl, ?_⟩) ?_ ?_
   rotate_left
   ·intro w'
    go_simp
    with_reducible rfl
   rotate_left
   ·simp only [Act.put, List.setIfInBounds_toArray, List.set_cons_zero, List.set_cons_succ, i64_w, i32_w]
    rfl
   refine pure_ (i := 11) (N := some 66) (v := ?_) (a' := ?_) #[true, true, true, true, true, true, true, true, true, true, true, true, false, false, false] rfl rfl (by kernel_rfl) (fun _ _ _ h => h) (Or.inl ⟨by rfl, ?_⟩) ?_ ?_
   rotate_left
   ·intro w'
    go_simp
    with_reducible rfl
   rotate_left
   ·simp only [Act.put, List.setIfInBounds_toArray, List.set_cons_zero, List.set_cons_succ, i64_w, i32_w]
    rfl
   refine one_ (i := 12) (N := some 11) #[true, true, true, true, true, true, true, true, true, true, true, true, true, false, false] rfl rfl (by kernel_rfl) (by decide) (fun K hK => ?_)
   refine value_ (w1 := ?_) (v := ?_) (by rfl) rfl ?_ ?_
   rotate_left 2
   ·go_simp
    constructor
    ·rfl
    ·rfl
   have hb3 := below41 w3
   have hz8 := World.alloc_heap_new w3 (.cells #[.slice none 0 0, .bool false, .int .i64 0, .int .i64 0] 41)
   have hT8 := hsz
   generalize w3.heap.size = g8 at hz8 hT8 ⊢
   generalize w3.alloc (.cells #[.slice none 0 0, .bool false, .int .i64 0, .int .i64 0] 41) = w4 at hb3 hz8 ⊢
   replace hD3 := hD3.below hb3
   replace hR3 := hR3.below hb3
   replace hbx := Stepb hb3 hbx
   replace hg4 := Stepb hb3 hg4
   replace ha5 := Stepb hb3 ha5
   replace hB3 := hB3.trans (hb3.mono hB3.size)
   replace hsz := Nat.le_trans hsz hb3.size
   refine hK.out _ _ ⟨pw_cell_below hb3 hHeld.1, pw_cell_below hb3 hHeld.2.1, pw_cell_below hb3 hHeld.2.2.1, pw_cell_below hb3 hHeld.2.2.2.1, pw_cell_below hb3 hHeld.2.2.2.2.1, pw_cell_below hb3 hHeld.2.2.2.2.2.1, pw_cell_below hb3 hHeld.2.2.2.2.2.2.1, pw_cell_below hb3 hHeld.2.2.2.2.2.2.2.1, pw_cell_below hb3 hHeld.2.2.2.2.2.2.2.2⟩ (fun hHeld => ?_)
   clear hK K
   refine norm_ (a' := ?_) ?_ ?_
   rotate_left
   ·show Act.put _ (some 11) _ = _
    simp only [Act.put, List.setIfInBounds_toArray, List.set_cons_zero, List.set_cons_succ, i64_w, i32_w]
    rfl
   exact norm_ (by first | (simp only [putAll, Act.put, List.setIfInBounds_toArray, List.set_cons_zero, List.set_cons_succ]; done) | (simp only [putAll, Act.put, List.setIfInBounds_toArray, List.set_cons_zero, List.set_cons_succ]; rfl)) (hCont (A3, c3, g8) _ ⟨hHeld, hD3, hR3, hbx, hg4, ha5, hB3, hsz, hz8, hT8⟩)
  ·skip
   refine value_ (w1 := ?_) (v := ?_) (by rfl) rfl ?_ ?_
   rotate_left 2
   ·go_simp
    constructor
    ·rfl
    ·rfl
   have hb3 := below41 w3
   have hz8 := World.alloc_heap_new w3 (.cells #[.slice none 0 0, .bool false, .int .i64 0, .int .i64 0] 41)
   have hT8 := hsz
   generalize w3.heap.size = g8 at hz8 hT8 ⊢
   generalize w3.alloc (.cells #[.slice none 0 0, .bool false, .int .i64 0, .int .i64 0] 41) = w4 at hb3 hz8 ⊢
   replace hD3 := hD3.below hb3
   replace hR3 := hR3.below hb3
   replace hbx := Stepb hb3 hbx
   replace hg4 := Stepb hb3 hg4
   replace ha5 := Stepb hb3 ha5
   replace hB3 := hB3.trans (hb3.mono hB3.size)
   replace hsz := Nat.le_trans hsz hb3.size
   refine hK.out _ _ ⟨pw_cell_below hb3 hHeld.1, pw_cell_below hb3 hHeld.2.1, pw_cell_below hb3 hHeld.2.2.1, pw_cell_below hb3 hHeld.2.2.2.1, pw_cell_below hb3 hHeld.2.2.2.2.1, pw_cell_below hb3 hHeld.2.2.2.2.2.1, pw_cell_below hb3 hHeld.2.2.2.2.2.2.1, pw_cell_below hb3 hHeld.2.2.2.2.2.2.2.1, pw_cell_below hb3 hHeld.2.2.2.2.2.2.2.2⟩ (fun hHeld => ?_)
   clear hK K
   refine norm_ (a' := ?_) ?_ ?_
   rotate_left
   ·show Act.put _ (some 11) _ = _
    simp only [Act.put, List.setIfInBounds_toArray, List.set_cons_zero, List.set_cons_succ, i64_w, i32_w]
    rfl
   refine one_ (i := 8) (N := some 64) #[true, true, true, true, true, true, true, true, true, false, false, false, true, false, false] rfl rfl (by kernel_rfl) (by decide) (fun K hK => ?_)
   refine goes_ Tryd.func31 (by kernel_rfl) rfl #[.agg #[.slice A xs.length c, .bool off, .int .i64 fuse, .int .i64 nw], .agg #[.int .i64 sh, .int .i64 gk, .int .i64 gm, .int .i64 C], .int .i64 at_, .string fs] (by rfl) rfl rfl (by simp only [List.map_toArray, List.map_cons, List.map_nil]; rfl) ?_
   with_reducible refine (hRef _ hR3).mono ?_
   rintro e w3 ⟨A3, c3, rfl, hR4, hb3⟩
   refine ⟨_, rfl, ?_⟩
   replace hD3 := hD3.below hb3
   replace hR3 := hR4
   replace hbx := Stepb hb3 hbx
   replace hg4 := Stepb hb3 hg4
   replace ha5 := Stepb hb3 ha5
   replace hB3 := hB3.trans (hb3.mono hB3.size)
   replace hsz := Nat.le_trans hsz hb3.size
   replace hz8 := Stepb hb3 hz8
   refine hK.out _ _ ⟨pw_cell_below hb3 hHeld.1, pw_cell_below hb3 hHeld.2.1, pw_cell_below hb3 hHeld.2.2.1, pw_cell_below hb3 hHeld.2.2.2.1, pw_cell_below hb3 hHeld.2.2.2.2.1, pw_cell_below hb3 hHeld.2.2.2.2.2.1, pw_cell_below hb3 hHeld.2.2.2.2.2.2.1, pw_cell_below hb3 hHeld.2.2.2.2.2.2.2.1, pw_cell_below hb3 hHeld.2.2.2.2.2.2.2.2⟩ (fun hHeld => ?_)
   clear hK K
   refine norm_ (a' := ?_) ?_ ?_
   rotate_left
   ·show Act.put _ (some 64) _ = _
    simp only [Act.put, List.setIfInBounds_toArray, List.set_cons_zero, List.set_cons_succ, i64_w, i32_w]
    rfl
   refine pure_ (i := 9) (N := some 55) (v := ?_) (a' := ?_) #[true, true, true, true, true, true, true, true, true, true, false, false, true, false, false] rfl rfl (by kernel_rfl) (fun _ _ _ h => h) (Or.inl ⟨by rfl, ?_⟩) ?_ ?_
   rotate_left
   ·intro w'
    go_simp
    with_reducible rfl
   rotate_left
   ·simp only [Act.put, List.setIfInBounds_toArray, List.set_cons_zero, List.set_cons_succ, i64_w, i32_w]
    rfl
   refine pure_ (i := 10) (N := some 65) (v := ?_) (a' := ?_) #[true, true, true, true, true, true, true, true, true, true, true, false, true, false, false] rfl rfl (by kernel_rfl) (fun _ _ _ h => h) (Or.inl ⟨by rfl, ?_⟩) ?_ ?_
   rotate_left
   ·intro w'
    go_simp
    with_reducible rfl
   rotate_left
   ·simp only [Act.put, List.setIfInBounds_toArray, List.set_cons_zero, List.set_cons_succ, i64_w, i32_w]
    rfl
   refine pure_ (i := 11) (N := some 66) (v := ?_) (a' := ?_) #[true, true, true, true, true, true, true, true, true, true, true, true, true, false, false] rfl rfl (by kernel_rfl) (fun _ _ _ h => h) (Or.inl ⟨by rfl, ?_⟩) ?_ ?_
   rotate_left
   ·intro w'
    go_simp
    with_reducible rfl
   rotate_left
   ·simp only [Act.put, List.setIfInBounds_toArray, List.set_cons_zero, List.set_cons_succ, i64_w, i32_w]
    rfl
   exact norm_ (by first | (simp only [putAll, Act.put, List.setIfInBounds_toArray, List.set_cons_zero, List.set_cons_succ]; done) | (simp only [putAll, Act.put, List.setIfInBounds_toArray, List.set_cons_zero, List.set_cons_succ]; rfl)) (hCont (A3, c3, g8) _ ⟨hHeld, hD3, hR3, hbx, hg4, ha5, hB3, hsz, hz8, hT8⟩)
 rintro ⟨A3, c3, g8⟩ w3 ⟨hHeld, hD3, hR3, hbx, hg4, ha5, hB3, hsz, hz8, hT8⟩
 dsimp only at hR3 hz8 hT8
 refine norm_ (a' := ?_) ?_ ?_
 rotate_left
 ·simp only [putAll, Act.put, List.setIfInBounds_toArray, List.set_cons_zero, List.set_cons_succ]
  rfl
 refine last_ (i := 13) (N := none) #[true, true, true, true, true, true, true, true, true, true, true, true, true, true, false] rfl rfl (by kernel_rfl) (by decide) (fun K hK => ?_)
 obtain ⟨⟨z0, z1, z2, z3⟩, q0, q1, q2, q3⟩ := blk4 hz8
 refine skip_ (w1 := ?_) (by rfl) rfl ?_ ?_
 rotate_left
 ·go_simp
  rfl
 refine hK.out _ _ ?_
 clear hK K
 refine pure_ (i := 14) (N := some 12) (v := ?_) (a' := ?_) #[true, true, true, true, true, true, true, true, true, true, true, true, true, true, true] rfl rfl (by kernel_rfl) (fun _ _ _ h => h) (Or.inl ⟨by rfl, ?_⟩) ?_ ?_
 rotate_left
 ·intro w'
  go_simp
  with_reducible rfl
 rotate_left
 ·simp only [Act.put, List.setIfInBounds_toArray, List.set_cons_zero, List.set_cons_succ, i64_w, i32_w]
  rfl
 refine done_ (by kernel_rfl) ?_
 clear hHeld
 have hst8 := step_put4 w3 g8 (.slice A3 xs.length c3) (.bool o3) (.int .i64 l3) (.int .i64 m3)
 have hz9 := put4 hz8 (.slice A3 xs.length c3) (.bool o3) (.int .i64 l3) (.int .i64 m3)
 replace hD3 := hD3.step hst8 (fun k hk e => by have := hilt k hk; omega)
 replace hR3 := ref_put4 hR3 hz8 (.slice A3 xs.length c3) (.bool o3) (.int .i64 l3) (.int .i64 m3)
 replace hbx := hst8.block hbx (fun e => by omega)
 replace hg4 := hst8.block hg4 (fun e => by omega)
 replace ha5 := hst8.block ha5 (fun e => by omega)
 replace hB3 := below_put4 hB3 (g := g8) (by omega) (.slice A3 xs.length c3) (.bool o3) (.int .i64 l3) (.int .i64 m3)
 replace hsz := Nat.le_trans hsz hst8.size
 clear hz8 hst8
 generalize ((((w3.setCell ⟨g8, 0, none⟩ (.slice A3 xs.length c3)).setCell ⟨g8, 1, none⟩ (.bool o3)).setCell ⟨g8, 2, none⟩ (.int .i64 l3)).setCell ⟨g8, 3, none⟩ (.int .i64 m3)) = W8 at hz9 hD3 hR3 hbx hg4 ha5 hB3 hsz ⊢
 obtain ⟨⟨y0, y1, y2, y3⟩, _⟩ := blk4 hz9
 obtain ⟨⟨t0, t1, t2, t3, t4⟩, e0, e1, e2, e3, e4⟩ := blk5 hbx
 obtain ⟨⟨g0, g1, g2, g3⟩, _⟩ := blk4 hg4
 obtain ⟨⟨a0, a1, a2, a3, a4⟩, _⟩ := blk5 ha5
 go_wp2_with fail
 have hst9 := step_put5 W8 T (.slice A3 xs.length c3) (.bool o3) (.int .i64 l3) (.int .i64 m3)
 replace hD3 := hD3.step hst9 (fun k hk e => hnT (e ▸ hk))
 replace hR3 := ref_put5 hR3 hbx (.slice A3 xs.length c3) (.bool o3) (.int .i64 l3) (.int .i64 m3)
 replace hbx := put5 hbx (.slice A3 xs.length c3) (.bool o3) (.int .i64 l3) (.int .i64 m3)
 replace hg4 := hst9.block hg4 (fun e => by omega)
 replace ha5 := hst9.block ha5 (fun e => by omega)
 have hs3 : Step (fun k => i.In k ∨ k = T) w _ := (Step.of_below (S := fun k => i.In k ∨ k = T) hB3).trans hst9 (fun _ h => h) (fun k hk => Or.inl (Or.inr hk))
 replace hsz := Nat.le_trans hsz hst9.size
 clear hst9 hB3
 generalize ((((W8.setCell ⟨T, 1, none⟩ (.slice A3 xs.length c3)).setCell ⟨T, 2, none⟩ (.bool o3)).setCell ⟨T, 3, none⟩ (.int .i64 l3)).setCell ⟨T, 4, none⟩ (.int .i64 m3)) = W9 at hD3 hR3 hbx hg4 ha5 hs3 hsz ⊢
 obtain ⟨⟨t0, t1, t2, t3, t4⟩, e0, e1, e2, e3, e4⟩ := blk5 hbx
 obtain ⟨⟨g0, g1, g2, g3⟩, _⟩ := blk4 hg4
 obtain ⟨⟨a0, a1, a2, a3, a4⟩, _⟩ := blk5 ha5
 try simp only [List.append_eq, List.cons_append, List.nil_append]
 have hb3 := below_drew1 (Below.refl W9.heap.size W9)
 replace hD3 := hD3.below hb3
 replace hR3 := hR3.below hb3
 replace hbx := Stepb hb3 hbx
 replace hg4 := Stepb hb3 hg4
 replace ha5 := Stepb hb3 ha5
 replace hs3 := hs3.trans (Step.of_below (S := fun k => i.In k ∨ k = T) hb3) (fun _ h => h) (fun _ h => Or.inl h)
 replace hsz := Nat.le_trans hsz hb3.size
 clear hb3
 refine start_ (n := 12) (S := fun w' => w'.cell? ⟨T, 0, none⟩ = some (.pointer (some ⟨i.d, 0, none⟩)) ∧ w'.cell? ⟨w.heap.size, 0, none⟩ = some (.int .i64 sh) ∧ w'.cell? ⟨w.heap.size, 1, none⟩ = some (.int .i64 gk) ∧ w'.cell? ⟨w.heap.size, 2, none⟩ = some (.int .i64 gm) ∧ w'.cell? ⟨w.heap.size, 3, none⟩ = some (.int .i64 C) ∧ w'.cell? ⟨w.heap.size + 1, 1, none⟩ = some (.int .i64 at_)) (ds := []) #[false, false, false, false, false, false, false, false, false, false, false, false] (by kernel_rfl) rfl rfl ⟨t0, g0, g1, g2, g3, a1⟩ (fun hHeld => ?_)
 generalize W9.drew = w3 at hHeld hD3 hR3 hbx hg4 ha5 hs3 hsz ⊢
 refine pure_ (i := 0) (N := some 71) (v := ?_) (a' := ?_) #[true, false, false, false, false, false, false, false, false, false, false, false] rfl rfl (by kernel_rfl) (fun _ _ _ h => h) (Or.inl ⟨by rfl, ?_⟩) ?_ ?_
 rotate_left
 ·intro w'
  go_simp
  with_reducible rfl
 rotate_left
 ·simp only [Act.put, List.setIfInBounds_toArray, List.set_cons_zero, List.set_cons_succ, i64_w, i32_w]
  rfl
 refine pure_ (i := 1) (N := some 72) (v := ?_) (a' := ?_) #[true, true, false, false, false, false, false, false, false, false, false, false] rfl rfl (by kernel_rfl) (fun _ _ _ h => h) (Or.inl ⟨by rfl, ?_⟩) ?_ ?_
 rotate_left
 ·intro w'
  go_simp
  with_reducible rfl
 rotate_left
 ·simp only [Act.put, List.setIfInBounds_toArray, List.set_cons_zero, List.set_cons_succ, i64_w, i32_w]
  rfl
 refine pure_ (i := 2) (N := some 73) (v := ?_) (a' := ?_) #[true, true, true, false, false, false, false, false, false, false, false, false] rfl rfl (by kernel_rfl) (fun _ _ _ h => h) (Or.inl ⟨by rfl, ?_⟩) ?_ ?_
 rotate_left
 ·intro w'
  go_simp
  with_reducible rfl
 rotate_left
 ·simp only [Act.put, List.setIfInBounds_toArray, List.set_cons_zero, List.set_cons_succ, i64_w, i32_w]
  rfl
 refine pure_ (i := 5) (N := some 76) (v := ?_) (a' := ?_) #[true, true, true, false, false, true, false, false, false, false, false, false] rfl rfl (by kernel_rfl) (fun _ _ _ h => h) (Or.inl ⟨by rfl, ?_⟩) ?_ ?_
 rotate_left
 ·intro w'
  go_simp
  with_reducible rfl
 rotate_left
 ·simp only [Act.put, List.setIfInBounds_toArray, List.set_cons_zero, List.set_cons_succ, i64_w, i32_w]
  rfl
 refine pure_ (i := 7) (N := some 78) (v := ?_) (a' := ?_) #[true, true, true, false, false, true, false, true, false, false, false, false] rfl rfl (by kernel_rfl) (fun _ _ _ h => h) (Or.inl ⟨by rfl, ?_⟩) ?_ ?_
 rotate_left
 ·intro w'
  go_simp
  with_reducible rfl
 rotate_left
 ·simp only [Act.put, List.setIfInBounds_toArray, List.set_cons_zero, List.set_cons_succ, i64_w, i32_w]
  rfl
 refine pure_ (i := 9) (N := some 80) (v := ?_) (a' := ?_) #[true, true, true, false, false, true, false, true, false, true, false, false] rfl rfl (by kernel_rfl) (fun _ _ _ h => h) (Or.inl ⟨by rfl, ?_⟩) ?_ ?_
 rotate_left
 ·intro w'
  go_simp
  with_reducible rfl
 rotate_left
 ·simp only [Act.put, List.setIfInBounds_toArray, List.set_cons_zero, List.set_cons_succ, i64_w, i32_w]
  rfl
 refine take_ (i := 3) (N := some 74) (v := ?_) (a' := ?_) #[true, true, true, true, false, true, false, true, false, true, false, false] rfl rfl (by kernel_rfl) (fun _ _ _ h => h) (Or.inl ⟨by rfl, ?_⟩) hHeld ?_ ?_
 rotate_left
 ·rintro w' ⟨s0, s1, s2, s3, s4, s5⟩
  go_simp
  with_reducible rfl
 rotate_left
 ·simp only [Act.put, List.setIfInBounds_toArray, List.set_cons_zero, List.set_cons_succ, i64_w, i32_w]
  rfl
 refine take_ (i := 4) (N := some 75) (v := ?_) (a' := ?_) #[true, true, true, true, true, true, false, true, false, true, false, false] rfl rfl (by kernel_rfl) (fun _ _ _ h => h) (Or.inl ⟨by rfl, ?_⟩) hHeld ?_ ?_
 rotate_left
 ·rintro w' ⟨s0, s1, s2, s3, s4, s5⟩
  go_simp
  with_reducible rfl
 rotate_left
 ·simp only [Act.put, List.setIfInBounds_toArray, List.set_cons_zero, List.set_cons_succ, i64_w, i32_w]
  rfl
 refine take_ (i := 6) (N := some 77) (v := ?_) (a' := ?_) #[true, true, true, true, true, true, true, true, false, true, false, false] rfl rfl (by kernel_rfl) (fun _ _ _ h => h) (Or.inl ⟨by rfl, ?_⟩) hHeld ?_ ?_
 rotate_left
 ·rintro w' ⟨s0, s1, s2, s3, s4, s5⟩
  go_simp
  with_reducible rfl
 rotate_left
 ·simp only [Act.put, List.setIfInBounds_toArray, List.set_cons_zero, List.set_cons_succ, i64_w, i32_w]
  rfl
 refine one_ (i := 8) (N := some 79) #[true, true, true, true, true, true, true, true, true, true, false, false] rfl rfl (by kernel_rfl) (by decide) (fun K hK => ?_)
 refine goes_ Tryd.func10 (by kernel_rfl) rfl #[.pointer (some ⟨i.d, 0, none⟩), .agg #[.int .i64 sh, .int .i64 gk, .int .i64 gm, .int .i64 C], .int .i64 at_, .string fs] (by rfl) rfl rfl (by simp only [List.map_toArray, List.map_cons, List.map_nil]; rfl) ?_
 with_reducible refine (hDev _ hD3).mono ?_
 rintro e w3 ⟨rfl, hD4, hs4⟩
 refine ⟨_, rfl, ?_⟩
 have hs4 := hs4
 replace hR3 := hR3.step hs4 (ref_dev hR3 hD3)
 replace hD3 := hD4
 replace hs3 := hs3.trans hs4 (fun _ h => h) (fun _ h => Or.inl (Or.inl h))
 replace hbx := hs4.block hbx hnT
 replace hsz := Nat.le_trans hsz hs4.size
 refine hK.out _ _ ⟨hs4.cell hHeld.1 hnT, hs4.cell hHeld.2.1 (fun h => by have h9 := hilt _ h; dsimp only at h9; omega), hs4.cell hHeld.2.2.1 (fun h => by have h9 := hilt _ h; dsimp only at h9; omega), hs4.cell hHeld.2.2.2.1 (fun h => by have h9 := hilt _ h; dsimp only at h9; omega), hs4.cell hHeld.2.2.2.2.1 (fun h => by have h9 := hilt _ h; dsimp only at h9; omega), hs4.cell hHeld.2.2.2.2.2 (fun h => by have h9 := hilt _ h; dsimp only at h9; omega)⟩ (fun hHeld => ?_)
 clear hK K
 refine norm_ (a' := ?_) ?_ ?_
 rotate_left
 ·show Act.put _ (some 79) _ = _
  simp only [Act.put, List.setIfInBounds_toArray, List.set_cons_zero, List.set_cons_succ, i64_w, i32_w]
  rfl
 refine pure_ (i := 10) (N := some 81) (v := ?_) (a' := ?_) #[true, true, true, true, true, true, true, true, true, true, true, false] rfl rfl (by kernel_rfl) (fun _ _ _ h => h) (Or.inl ⟨by rfl, ?_⟩) ?_ ?_
 rotate_left
 ·intro w'
  go_simp
  with_reducible rfl
 rotate_left
 ·simp only [Act.put, List.setIfInBounds_toArray, List.set_cons_zero, List.set_cons_succ, i64_w, i32_w]
  rfl
 refine pure_ (i := 11) (N := some 6) (v := ?_) (a' := ?_) #[true, true, true, true, true, true, true, true, true, true, true, true] rfl rfl (by kernel_rfl) (fun _ _ _ h => h) (Or.inl ⟨by rfl, ?_⟩) ?_ ?_
 rotate_left
 ·intro w'
  go_simp
  with_reducible rfl
 rotate_left
 ·simp only [Act.put, List.setIfInBounds_toArray, List.set_cons_zero, List.set_cons_succ, i64_w, i32_w]
  rfl
 refine done_ (by kernel_rfl) ?_
 clear hHeld
 go_wp2
 go_ret
 exact ⟨_, _, rfl, hD3, hR3, hbx, hs3⟩
set_option maxRecDepth 100000 in
set_option maxHeartbeats 8000000 in
theorem does_1 (w : World) (T : Nat) (i : DevIds) (A : Option Addr) (c : Nat) (xs : List ByteArray) (F : FL) (B : BL) (off : Bool) (fuse nw : Int) (sh gk gm C at_ n by_ : Int) (tx fs : ByteArray) (fy : Int) (hD : DevAt w i xs F B off fuse nw) (hR : RefAt w (.slice A xs.length c) xs F B) (hbx : w.heap[T]? = some (.cells #[.pointer (some ⟨i.d, 0, none⟩), .slice A xs.length c, .bool off, .int .i64 fuse, .int .i64 nw] 46 (0, 0)))
  (hF1 : ∀ W, Calls Tryd.prog 8 #[.agg #[.int .i64 sh, .int .i64 gk, .int .i64 gm, .int .i64 C], .string tx] W fun e w' => e = .returned (.tuple #[.string fs, .int .i64 fy]) ∧ Below W.heap.size W w')
  (hF2 : ∀ W, Calls Tryd.prog 30 #[.agg #[.int .i64 sh, .int .i64 gk, .int .i64 gm, .int .i64 C], .string tx] W fun e w' => e = .returned (.tuple #[.string fs, .int .i64 fy]) ∧ Below W.heap.size W w')
  {rs : ByteArray} {ry : Int} {sum : Int}
  (hSum : ∀ W, Below w.heap.size w W → Calls Tryd.prog 12 #[.string fs] W fun e w' => e = .returned (.int .u32 sum) ∧ Below W.heap.size W w')
  (hRef : ∀ W, RefAt W (.slice A xs.length c) xs F B → Calls Tryd.prog 32 #[.agg #[.slice A xs.length c, .bool off, .int .i64 fuse, .int .i64 nw], .agg #[.int .i64 sh, .int .i64 gk, .int .i64 gm, .int .i64 C], .int .i64 at_, .int .u32 sum] W fun e w' => e = .returned (.tuple #[.string rs, .int .i64 ry]) ∧ Below W.heap.size W w')
  (hDev : ∀ W, Below w.heap.size w W → DevAt W i xs F B off fuse nw → Calls Tryd.prog 11 #[.pointer (some ⟨i.d, 0, none⟩), .agg #[.int .i64 sh, .int .i64 gk, .int .i64 gm, .int .i64 C], .int .i64 at_, .int .u32 sum] W fun e w' => e = .returned (.tuple #[.string rs, .int .i64 ry]) ∧ Below W.heap.size W w') :
  Calls Tryd.prog 14 #[.pointer (some ⟨T, 0, none⟩), .agg #[.int .i64 sh, .int .i64 gk, .int .i64 gm, .int .i64 C], .agg #[.int .i64 1, .int .i64 at_, .string tx, .int .i64 n, .int .u32 by_]] w fun e w' => e = .returned (.bool true) ∧ Below w.heap.size w w' := by
 have hilt := hD.lt
 have hTlt := blk_lt hbx
 have hnT := dev_notT hD hbx
 have hB3 := below2 w (.cells #[.int .i64 sh, .int .i64 gk, .int .i64 gm, .int .i64 C] 23) (.cells #[.int .i64 1, .int .i64 at_, .string tx, .int .i64 n, .int .u32 by_] 48)
 have hg4 := new1of2 w (.cells #[.int .i64 sh, .int .i64 gk, .int .i64 gm, .int .i64 C] 23) (.cells #[.int .i64 1, .int .i64 at_, .string tx, .int .i64 n, .int .u32 by_] 48)
 have ha5 := new2 w (.cells #[.int .i64 sh, .int .i64 gk, .int .i64 gm, .int .i64 C] 23) (.cells #[.int .i64 1, .int .i64 at_, .string tx, .int .i64 n, .int .u32 by_] 48)
 have hsz : w.heap.size + 2 ≤ ((w.alloc (.cells #[.int .i64 sh, .int .i64 gk, .int .i64 gm, .int .i64 C] 23)).alloc (.cells #[.int .i64 1, .int .i64 at_, .string tx, .int .i64 n, .int .u32 by_] 48)).heap.size := by simp
 go_enter Tryd.func14, Tryd.ntmps14
 go_upto_region 1 with (fail)
 generalize (w.alloc (.cells #[.int .i64 sh, .int .i64 gk, .int .i64 gm, .int .i64 C] 23)).alloc (.cells #[.int .i64 1, .int .i64 at_, .string tx, .int .i64 n, .int .u32 by_] 48) = W at hB3 hg4 ha5 hsz ⊢
 have hD3 := hD.below hB3
 have hR3 := hR.below hB3
 replace hbx := Stepb hB3 hbx
 clear hD hR
 obtain ⟨⟨t0, t1, t2, t3, t4⟩, e0, e1, e2, e3, e4⟩ := blk5 hbx
 obtain ⟨⟨g0, g1, g2, g3⟩, _⟩ := blk4 hg4
 obtain ⟨⟨a0, a1, a2, a3, a4⟩, _⟩ := blk5 ha5
 go_wp2_with (first
  | (go_at_call 8; with_reducible refine (hF1 _).mono ?_; rintro e W1 ⟨rfl, hb3⟩; clear t0 t1 t2 t3 t4 e0 e1 e2 e3 e4 g0 g1 g2 g3 a0 a1 a2 a3 a4; replace hD3 := hD3.below hb3; replace hR3 := hR3.below hb3; replace hbx := Stepb hb3 hbx; replace hg4 := Stepb hb3 hg4; replace ha5 := Stepb hb3 ha5; replace hB3 := hB3.trans (hb3.mono hB3.size); replace hsz := Nat.le_trans hsz hb3.size; clear hb3; obtain ⟨⟨t0, t1, t2, t3, t4⟩, e0, e1, e2, e3, e4⟩ := blk5 hbx; obtain ⟨⟨g0, g1, g2, g3⟩, _⟩ := blk4 hg4; obtain ⟨⟨a0, a1, a2, a3, a4⟩, _⟩ := blk5 ha5)
  | (go_at_call 30; with_reducible refine (hF2 _).mono ?_; rintro e W2 ⟨rfl, hb3⟩; clear t0 t1 t2 t3 t4 e0 e1 e2 e3 e4 g0 g1 g2 g3 a0 a1 a2 a3 a4; replace hD3 := hD3.below hb3; replace hR3 := hR3.below hb3; replace hbx := Stepb hb3 hbx; replace hg4 := Stepb hb3 hg4; replace ha5 := Stepb hb3 ha5; replace hB3 := hB3.trans (hb3.mono hB3.size); replace hsz := Nat.le_trans hsz hb3.size; clear hb3; obtain ⟨⟨t0, t1, t2, t3, t4⟩, e0, e1, e2, e3, e4⟩ := blk5 hbx; obtain ⟨⟨g0, g1, g2, g3⟩, _⟩ := blk4 hg4; obtain ⟨⟨a0, a1, a2, a3, a4⟩, _⟩ := blk5 ha5))
 try simp only [List.append_eq, List.cons_append, List.nil_append]
 have hb3 := below_drew1 (Below.refl W2.heap.size W2)
 replace hD3 := hD3.below hb3
 replace hR3 := hR3.below hb3
 replace hbx := Stepb hb3 hbx
 replace hg4 := Stepb hb3 hg4
 replace ha5 := Stepb hb3 ha5
 replace hB3 := hB3.trans (hb3.mono hB3.size)
 replace hsz := Nat.le_trans hsz hb3.size
 clear hb3
 refine start_ (n := 15) (S := fun w' => w'.cell? ⟨T, 1, none⟩ = some (.slice A xs.length c) ∧ w'.cell? ⟨T, 2, none⟩ = some (.bool off) ∧ w'.cell? ⟨T, 3, none⟩ = some (.int .i64 fuse) ∧ w'.cell? ⟨T, 4, none⟩ = some (.int .i64 nw) ∧ w'.cell? ⟨w.heap.size, 0, none⟩ = some (.int .i64 sh) ∧ w'.cell? ⟨w.heap.size, 1, none⟩ = some (.int .i64 gk) ∧ w'.cell? ⟨w.heap.size, 2, none⟩ = some (.int .i64 gm) ∧ w'.cell? ⟨w.heap.size, 3, none⟩ = some (.int .i64 C) ∧ w'.cell? ⟨w.heap.size + 1, 1, none⟩ = some (.int .i64 at_)) (ds := []) #[false, false, false, false, false, false, false, false, false, false, false, false, false, false, false] (by kernel_rfl) rfl rfl ⟨t1, t2, t3, t4, g0, g1, g2, g3, a1⟩ (fun hHeld => ?_)
 generalize W2.drew = w3 at hHeld hD3 hR3 hbx hg4 ha5 hB3 hsz ⊢
 refine pure_ (i := 0) (N := some 85) (v := ?_) (a' := ?_) #[true, false, false, false, false, false, false, false, false, false, false, false, false, false, false] rfl rfl (by kernel_rfl) (fun _ _ _ h => h) (Or.inl ⟨by rfl, ?_⟩) ?_ ?_
 rotate_left
 ·intro w'
  go_simp
  with_reducible rfl
 rotate_left
 ·simp only [Act.put, List.setIfInBounds_toArray, List.set_cons_zero, List.set_cons_succ, i64_w, i32_w]
  rfl
 refine pure_ (i := 1) (N := some 86) (v := ?_) (a' := ?_) #[true, true, false, false, false, false, false, false, false, false, false, false, false, false, false] rfl rfl (by kernel_rfl) (fun _ _ _ h => h) (Or.inl ⟨by rfl, ?_⟩) ?_ ?_
 rotate_left
 ·intro w'
  go_simp
  with_reducible rfl
 rotate_left
 ·simp only [Act.put, List.setIfInBounds_toArray, List.set_cons_zero, List.set_cons_succ, i64_w, i32_w]
  rfl
 refine pure_ (i := 2) (N := some 87) (v := ?_) (a' := ?_) #[true, true, true, false, false, false, false, false, false, false, false, false, false, false, false] rfl rfl (by kernel_rfl) (fun _ _ _ h => h) (Or.inl ⟨by rfl, ?_⟩) ?_ ?_
 rotate_left
 ·intro w'
  go_simp
  with_reducible rfl
 rotate_left
 ·simp only [Act.put, List.setIfInBounds_toArray, List.set_cons_zero, List.set_cons_succ, i64_w, i32_w]
  rfl
 refine pure_ (i := 5) (N := some 90) (v := ?_) (a' := ?_) #[true, true, true, false, false, true, false, false, false, false, false, false, false, false, false] rfl rfl (by kernel_rfl) (fun _ _ _ h => h) (Or.inl ⟨by rfl, ?_⟩) ?_ ?_
 rotate_left
 ·intro w'
  go_simp
  with_reducible rfl
 rotate_left
 ·simp only [Act.put, List.setIfInBounds_toArray, List.set_cons_zero, List.set_cons_succ, i64_w, i32_w]
  rfl
 refine pure_ (i := 7) (N := some 92) (v := ?_) (a' := ?_) #[true, true, true, false, false, true, false, true, false, false, false, false, false, false, false] rfl rfl (by kernel_rfl) (fun _ _ _ h => h) (Or.inl ⟨by rfl, ?_⟩) ?_ ?_
 rotate_left
 ·intro w'
  go_simp
  with_reducible rfl
 rotate_left
 ·simp only [Act.put, List.setIfInBounds_toArray, List.set_cons_zero, List.set_cons_succ, i64_w, i32_w]
  rfl
 refine take_ (i := 3) (N := some 88) (v := ?_) (a' := ?_) #[true, true, true, true, false, true, false, true, false, false, false, false, false, false, false] rfl rfl (by kernel_rfl) (fun _ _ _ h => h) (Or.inl ⟨by rfl, ?_⟩) hHeld ?_ ?_
 rotate_left
 ·rintro w' ⟨s0, s1, s2, s3, s4, s5, s6, s7, s8⟩
  go_simp
  with_reducible rfl
 rotate_left
 ·simp only [Act.put, List.setIfInBounds_toArray, List.set_cons_zero, List.set_cons_succ, i64_w, i32_w]
  rfl
 refine take_ (i := 4) (N := some 89) (v := ?_) (a' := ?_) #[true, true, true, true, true, true, false, true, false, false, false, false, false, false, false] rfl rfl (by kernel_rfl) (fun _ _ _ h => h) (Or.inl ⟨by rfl, ?_⟩) hHeld ?_ ?_
 rotate_left
 ·rintro w' ⟨s0, s1, s2, s3, s4, s5, s6, s7, s8⟩
  go_simp
  with_reducible rfl
 rotate_left
 ·simp only [Act.put, List.setIfInBounds_toArray, List.set_cons_zero, List.set_cons_succ, i64_w, i32_w]
  rfl
 refine take_ (i := 6) (N := some 91) (v := ?_) (a' := ?_) #[true, true, true, true, true, true, true, true, false, false, false, false, false, false, false] rfl rfl (by kernel_rfl) (fun _ _ _ h => h) (Or.inl ⟨by rfl, ?_⟩) hHeld ?_ ?_
 rotate_left
 ·rintro w' ⟨s0, s1, s2, s3, s4, s5, s6, s7, s8⟩
  go_simp
  with_reducible rfl
 rotate_left
 ·simp only [Act.put, List.setIfInBounds_toArray, List.set_cons_zero, List.set_cons_succ, i64_w, i32_w]
  rfl
 refine one_ (i := 8) (N := some 93) #[true, true, true, true, true, true, true, true, true, false, false, false, false, false, false] rfl rfl (by kernel_rfl) (by decide) (fun K hK => ?_)
 refine goes_ Tryd.func12 (by kernel_rfl) rfl #[.string fs] (by rfl) rfl rfl (by simp only [List.map_toArray, List.map_cons, List.map_nil]; rfl) ?_
 with_reducible refine (hSum _ hB3).mono ?_
 rintro e w3 ⟨rfl, hb3⟩
 refine ⟨_, rfl, ?_⟩
 replace hD3 := hD3.below hb3
 replace hR3 := hR3.below hb3
 replace hbx := Stepb hb3 hbx
 replace hg4 := Stepb hb3 hg4
 replace ha5 := Stepb hb3 ha5
 replace hB3 := hB3.trans (hb3.mono hB3.size)
 replace hsz := Nat.le_trans hsz hb3.size
 refine hK.out _ _ ⟨pw_cell_below hb3 hHeld.1, pw_cell_below hb3 hHeld.2.1, pw_cell_below hb3 hHeld.2.2.1, pw_cell_below hb3 hHeld.2.2.2.1, pw_cell_below hb3 hHeld.2.2.2.2.1, pw_cell_below hb3 hHeld.2.2.2.2.2.1, pw_cell_below hb3 hHeld.2.2.2.2.2.2.1, pw_cell_below hb3 hHeld.2.2.2.2.2.2.2.1, pw_cell_below hb3 hHeld.2.2.2.2.2.2.2.2⟩ (fun hHeld => ?_)
 clear hK K
 refine norm_ (a' := ?_) ?_ ?_
 rotate_left
 ·show Act.put _ (some 93) _ = _
  simp only [Act.put, List.setIfInBounds_toArray, List.set_cons_zero, List.set_cons_succ, i64_w, i32_w]
  rfl
 refine one_ (i := 9) (N := some 94) #[true, true, true, true, true, true, true, true, true, true, false, false, false, false, false] rfl rfl (by kernel_rfl) (by decide) (fun K hK => ?_)
 refine goes_ Tryd.func32 (by kernel_rfl) rfl #[.agg #[.slice A xs.length c, .bool off, .int .i64 fuse, .int .i64 nw], .agg #[.int .i64 sh, .int .i64 gk, .int .i64 gm, .int .i64 C], .int .i64 at_, .int .u32 sum] (by rfl) rfl rfl (by simp only [List.map_toArray, List.map_cons, List.map_nil]; rfl) ?_
 with_reducible refine (hRef _ hR3).mono ?_
 rintro e w3 ⟨rfl, hb3⟩
 refine ⟨_, rfl, ?_⟩
 replace hD3 := hD3.below hb3
 replace hR3 := hR3.below hb3
 replace hbx := Stepb hb3 hbx
 replace hg4 := Stepb hb3 hg4
 replace ha5 := Stepb hb3 ha5
 replace hB3 := hB3.trans (hb3.mono hB3.size)
 replace hsz := Nat.le_trans hsz hb3.size
 refine hK.out _ _ ⟨pw_cell_below hb3 hHeld.1, pw_cell_below hb3 hHeld.2.1, pw_cell_below hb3 hHeld.2.2.1, pw_cell_below hb3 hHeld.2.2.2.1, pw_cell_below hb3 hHeld.2.2.2.2.1, pw_cell_below hb3 hHeld.2.2.2.2.2.1, pw_cell_below hb3 hHeld.2.2.2.2.2.2.1, pw_cell_below hb3 hHeld.2.2.2.2.2.2.2.1, pw_cell_below hb3 hHeld.2.2.2.2.2.2.2.2⟩ (fun hHeld => ?_)
 clear hK K
 refine norm_ (a' := ?_) ?_ ?_
 rotate_left
 ·show Act.put _ (some 94) _ = _
  simp only [Act.put, List.setIfInBounds_toArray, List.set_cons_zero, List.set_cons_succ, i64_w, i32_w]
  rfl
 refine pure_ (i := 10) (N := some 84) (v := ?_) (a' := ?_) #[true, true, true, true, true, true, true, true, true, true, true, false, false, false, false] rfl rfl (by kernel_rfl) (fun _ _ _ h => h) (Or.inl ⟨by rfl, ?_⟩) ?_ ?_
 rotate_left
 ·intro w'
  go_simp
  with_reducible rfl
 rotate_left
 ·simp only [Act.put, List.setIfInBounds_toArray, List.set_cons_zero, List.set_cons_succ, i64_w, i32_w]
  rfl
 refine pure_ (i := 11) (N := some 95) (v := ?_) (a' := ?_) #[true, true, true, true, true, true, true, true, true, true, true, true, false, false, false] rfl rfl (by kernel_rfl) (fun _ _ _ h => h) (Or.inl ⟨by rfl, ?_⟩) ?_ ?_
 rotate_left
 ·intro w'
  go_simp
  with_reducible rfl
 rotate_left
 ·simp only [Act.put, List.setIfInBounds_toArray, List.set_cons_zero, List.set_cons_succ, i64_w, i32_w]
  rfl
 refine pure_ (i := 12) (N := some 96) (v := ?_) (a' := ?_) #[true, true, true, true, true, true, true, true, true, true, true, true, true, false, false] rfl rfl (by kernel_rfl) (fun _ _ _ h => h) (Or.inl ⟨by rfl, ?_⟩) ?_ ?_
 rotate_left
 ·intro w'
  go_simp
  with_reducible rfl
 rotate_left
 ·simp only [Act.put, List.setIfInBounds_toArray, List.set_cons_zero, List.set_cons_succ, i64_w, i32_w]
  rfl
 refine pure_ (i := 13) (N := some 13) (v := ?_) (a' := ?_) #[true, true, true, true, true, true, true, true, true, true, true, true, true, true, false] rfl rfl (by kernel_rfl) (fun _ _ _ h => h) (Or.inl ⟨by rfl, ?_⟩) ?_ ?_
 rotate_left
 ·intro w'
  go_simp
  with_reducible rfl
 rotate_left
 ·simp only [Act.put, List.setIfInBounds_toArray, List.set_cons_zero, List.set_cons_succ, i64_w, i32_w]
  rfl
 refine pure_ (i := 14) (N := some 14) (v := ?_) (a' := ?_) #[true, true, true, true, true, true, true, true, true, true, true, true, true, true, true] rfl rfl (by kernel_rfl) (fun _ _ _ h => h) (Or.inl ⟨by rfl, ?_⟩) ?_ ?_
 rotate_left
 ·intro w'
  go_simp
  with_reducible rfl
 rotate_left
 ·simp only [Act.put, List.setIfInBounds_toArray, List.set_cons_zero, List.set_cons_succ, i64_w, i32_w]
  rfl
 refine done_ (by kernel_rfl) ?_
 clear hHeld
 clear t0 t1 t2 t3 t4 e0 e1 e2 e3 e4 g0 g1 g2 g3 a0 a1 a2 a3 a4
 obtain ⟨⟨t0, t1, t2, t3, t4⟩, e0, e1, e2, e3, e4⟩ := blk5 hbx
 obtain ⟨⟨g0, g1, g2, g3⟩, _⟩ := blk4 hg4
 obtain ⟨⟨a0, a1, a2, a3, a4⟩, _⟩ := blk5 ha5
 go_wp2_with fail
 try simp only [List.append_eq, List.cons_append, List.nil_append]
 have hb3 := below_drew1 (Below.refl w3.heap.size w3)
 replace hD3 := hD3.below hb3
 replace hR3 := hR3.below hb3
 replace hbx := Stepb hb3 hbx
 replace hg4 := Stepb hb3 hg4
 replace ha5 := Stepb hb3 ha5
 replace hB3 := hB3.trans (hb3.mono hB3.size)
 replace hsz := Nat.le_trans hsz hb3.size
 clear hb3
 refine start_ (n := 15) (S := fun w' => w'.cell? ⟨T, 0, none⟩ = some (.pointer (some ⟨i.d, 0, none⟩)) ∧ w'.cell? ⟨w.heap.size, 0, none⟩ = some (.int .i64 sh) ∧ w'.cell? ⟨w.heap.size, 1, none⟩ = some (.int .i64 gk) ∧ w'.cell? ⟨w.heap.size, 2, none⟩ = some (.int .i64 gm) ∧ w'.cell? ⟨w.heap.size, 3, none⟩ = some (.int .i64 C) ∧ w'.cell? ⟨w.heap.size + 1, 1, none⟩ = some (.int .i64 at_)) (ds := []) #[false, false, false, false, false, false, false, false, false, false, false, false, false, false, false] (by kernel_rfl) rfl rfl ⟨t0, g0, g1, g2, g3, a1⟩ (fun hHeld => ?_)
 generalize w3.drew = w3 at hHeld hD3 hR3 hbx hg4 ha5 hB3 hsz ⊢
 refine pure_ (i := 0) (N := some 98) (v := ?_) (a' := ?_) #[true, false, false, false, false, false, false, false, false, false, false, false, false, false, false] rfl rfl (by kernel_rfl) (fun _ _ _ h => h) (Or.inl ⟨by rfl, ?_⟩) ?_ ?_
 rotate_left
 ·intro w'
  go_simp
  with_reducible rfl
 rotate_left
 ·simp only [Act.put, List.setIfInBounds_toArray, List.set_cons_zero, List.set_cons_succ, i64_w, i32_w]
  rfl
 refine pure_ (i := 1) (N := some 99) (v := ?_) (a' := ?_) #[true, true, false, false, false, false, false, false, false, false, false, false, false, false, false] rfl rfl (by kernel_rfl) (fun _ _ _ h => h) (Or.inl ⟨by rfl, ?_⟩) ?_ ?_
 rotate_left
 ·intro w'
  go_simp
  with_reducible rfl
 rotate_left
 ·simp only [Act.put, List.setIfInBounds_toArray, List.set_cons_zero, List.set_cons_succ, i64_w, i32_w]
  rfl
 refine pure_ (i := 2) (N := some 100) (v := ?_) (a' := ?_) #[true, true, true, false, false, false, false, false, false, false, false, false, false, false, false] rfl rfl (by kernel_rfl) (fun _ _ _ h => h) (Or.inl ⟨by rfl, ?_⟩) ?_ ?_
 rotate_left
 ·intro w'
  go_simp
  with_reducible rfl
 rotate_left
 ·simp only [Act.put, List.setIfInBounds_toArray, List.set_cons_zero, List.set_cons_succ, i64_w, i32_w]
  rfl
 refine pure_ (i := 5) (N := some 103) (v := ?_) (a' := ?_) #[true, true, true, false, false, true, false, false, false, false, false, false, false, false, false] rfl rfl (by kernel_rfl) (fun _ _ _ h => h) (Or.inl ⟨by rfl, ?_⟩) ?_ ?_
 rotate_left
 ·intro w'
  go_simp
  with_reducible rfl
 rotate_left
 ·simp only [Act.put, List.setIfInBounds_toArray, List.set_cons_zero, List.set_cons_succ, i64_w, i32_w]
  rfl
 refine pure_ (i := 7) (N := some 105) (v := ?_) (a' := ?_) #[true, true, true, false, false, true, false, true, false, false, false, false, false, false, false] rfl rfl (by kernel_rfl) (fun _ _ _ h => h) (Or.inl ⟨by rfl, ?_⟩) ?_ ?_
 rotate_left
 ·intro w'
  go_simp
  with_reducible rfl
 rotate_left
 ·simp only [Act.put, List.setIfInBounds_toArray, List.set_cons_zero, List.set_cons_succ, i64_w, i32_w]
  rfl
 refine take_ (i := 3) (N := some 101) (v := ?_) (a' := ?_) #[true, true, true, true, false, true, false, true, false, false, false, false, false, false, false] rfl rfl (by kernel_rfl) (fun _ _ _ h => h) (Or.inl ⟨by rfl, ?_⟩) hHeld ?_ ?_
 rotate_left
 ·rintro w' ⟨s0, s1, s2, s3, s4, s5⟩
  go_simp
  with_reducible rfl
 rotate_left
 ·simp only [Act.put, List.setIfInBounds_toArray, List.set_cons_zero, List.set_cons_succ, i64_w, i32_w]
  rfl
 refine take_ (i := 4) (N := some 102) (v := ?_) (a' := ?_) #[true, true, true, true, true, true, false, true, false, false, false, false, false, false, false] rfl rfl (by kernel_rfl) (fun _ _ _ h => h) (Or.inl ⟨by rfl, ?_⟩) hHeld ?_ ?_
 rotate_left
 ·rintro w' ⟨s0, s1, s2, s3, s4, s5⟩
  go_simp
  with_reducible rfl
 rotate_left
 ·simp only [Act.put, List.setIfInBounds_toArray, List.set_cons_zero, List.set_cons_succ, i64_w, i32_w]
  rfl
 refine take_ (i := 6) (N := some 104) (v := ?_) (a' := ?_) #[true, true, true, true, true, true, true, true, false, false, false, false, false, false, false] rfl rfl (by kernel_rfl) (fun _ _ _ h => h) (Or.inl ⟨by rfl, ?_⟩) hHeld ?_ ?_
 rotate_left
 ·rintro w' ⟨s0, s1, s2, s3, s4, s5⟩
  go_simp
  with_reducible rfl
 rotate_left
 ·simp only [Act.put, List.setIfInBounds_toArray, List.set_cons_zero, List.set_cons_succ, i64_w, i32_w]
  rfl
 refine one_ (i := 8) (N := some 106) #[true, true, true, true, true, true, true, true, true, false, false, false, false, false, false] rfl rfl (by kernel_rfl) (by decide) (fun K hK => ?_)
 refine goes_ Tryd.func12 (by kernel_rfl) rfl #[.string fs] (by rfl) rfl rfl (by simp only [List.map_toArray, List.map_cons, List.map_nil]; rfl) ?_
 with_reducible refine (hSum _ hB3).mono ?_
 rintro e w3 ⟨rfl, hb3⟩
 refine ⟨_, rfl, ?_⟩
 replace hD3 := hD3.below hb3
 replace hR3 := hR3.below hb3
 replace hbx := Stepb hb3 hbx
 replace hg4 := Stepb hb3 hg4
 replace ha5 := Stepb hb3 ha5
 replace hB3 := hB3.trans (hb3.mono hB3.size)
 replace hsz := Nat.le_trans hsz hb3.size
 refine hK.out _ _ ⟨pw_cell_below hb3 hHeld.1, pw_cell_below hb3 hHeld.2.1, pw_cell_below hb3 hHeld.2.2.1, pw_cell_below hb3 hHeld.2.2.2.1, pw_cell_below hb3 hHeld.2.2.2.2.1, pw_cell_below hb3 hHeld.2.2.2.2.2⟩ (fun hHeld => ?_)
 clear hK K
 refine norm_ (a' := ?_) ?_ ?_
 rotate_left
 ·show Act.put _ (some 106) _ = _
  simp only [Act.put, List.setIfInBounds_toArray, List.set_cons_zero, List.set_cons_succ, i64_w, i32_w]
  rfl
 refine one_ (i := 9) (N := some 107) #[true, true, true, true, true, true, true, true, true, true, false, false, false, false, false] rfl rfl (by kernel_rfl) (by decide) (fun K hK => ?_)
 refine goes_ Tryd.func11 (by kernel_rfl) rfl #[.pointer (some ⟨i.d, 0, none⟩), .agg #[.int .i64 sh, .int .i64 gk, .int .i64 gm, .int .i64 C], .int .i64 at_, .int .u32 sum] (by rfl) rfl rfl (by simp only [List.map_toArray, List.map_cons, List.map_nil]; rfl) ?_
 with_reducible refine (hDev _ hB3 hD3).mono ?_
 rintro e w3 ⟨rfl, hb3⟩
 refine ⟨_, rfl, ?_⟩
 replace hD3 := hD3.below hb3
 replace hR3 := hR3.below hb3
 replace hbx := Stepb hb3 hbx
 replace hg4 := Stepb hb3 hg4
 replace ha5 := Stepb hb3 ha5
 replace hB3 := hB3.trans (hb3.mono hB3.size)
 replace hsz := Nat.le_trans hsz hb3.size
 refine hK.out _ _ ⟨pw_cell_below hb3 hHeld.1, pw_cell_below hb3 hHeld.2.1, pw_cell_below hb3 hHeld.2.2.1, pw_cell_below hb3 hHeld.2.2.2.1, pw_cell_below hb3 hHeld.2.2.2.2.1, pw_cell_below hb3 hHeld.2.2.2.2.2⟩ (fun hHeld => ?_)
 clear hK K
 refine norm_ (a' := ?_) ?_ ?_
 rotate_left
 ·show Act.put _ (some 107) _ = _
  simp only [Act.put, List.setIfInBounds_toArray, List.set_cons_zero, List.set_cons_succ, i64_w, i32_w]
  rfl
 refine pure_ (i := 10) (N := some 97) (v := ?_) (a' := ?_) #[true, true, true, true, true, true, true, true, true, true, true, false, false, false, false] rfl rfl (by kernel_rfl) (fun _ _ _ h => h) (Or.inl ⟨by rfl, ?_⟩) ?_ ?_
 rotate_left
 ·intro w'
  go_simp
  with_reducible rfl
 rotate_left
 ·simp only [Act.put, List.setIfInBounds_toArray, List.set_cons_zero, List.set_cons_succ, i64_w, i32_w]
  rfl
 refine pure_ (i := 11) (N := some 108) (v := ?_) (a' := ?_) #[true, true, true, true, true, true, true, true, true, true, true, true, false, false, false] rfl rfl (by kernel_rfl) (fun _ _ _ h => h) (Or.inl ⟨by rfl, ?_⟩) ?_ ?_
 rotate_left
 ·intro w'
  go_simp
  with_reducible rfl
 rotate_left
 ·simp only [Act.put, List.setIfInBounds_toArray, List.set_cons_zero, List.set_cons_succ, i64_w, i32_w]
  rfl
 refine pure_ (i := 12) (N := some 109) (v := ?_) (a' := ?_) #[true, true, true, true, true, true, true, true, true, true, true, true, true, false, false] rfl rfl (by kernel_rfl) (fun _ _ _ h => h) (Or.inl ⟨by rfl, ?_⟩) ?_ ?_
 rotate_left
 ·intro w'
  go_simp
  with_reducible rfl
 rotate_left
 ·simp only [Act.put, List.setIfInBounds_toArray, List.set_cons_zero, List.set_cons_succ, i64_w, i32_w]
  rfl
 refine pure_ (i := 13) (N := some 15) (v := ?_) (a' := ?_) #[true, true, true, true, true, true, true, true, true, true, true, true, true, true, false] rfl rfl (by kernel_rfl) (fun _ _ _ h => h) (Or.inl ⟨by rfl, ?_⟩) ?_ ?_
 rotate_left
 ·intro w'
  go_simp
  with_reducible rfl
 rotate_left
 ·simp only [Act.put, List.setIfInBounds_toArray, List.set_cons_zero, List.set_cons_succ, i64_w, i32_w]
  rfl
 refine pure_ (i := 14) (N := some 16) (v := ?_) (a' := ?_) #[true, true, true, true, true, true, true, true, true, true, true, true, true, true, true] rfl rfl (by kernel_rfl) (fun _ _ _ h => h) (Or.inl ⟨by rfl, ?_⟩) ?_ ?_
 rotate_left
 ·intro w'
  go_simp
  with_reducible rfl
 rotate_left
 ·simp only [Act.put, List.setIfInBounds_toArray, List.set_cons_zero, List.set_cons_succ, i64_w, i32_w]
  rfl
 refine done_ (by kernel_rfl) ?_
 clear hHeld
 go_wp2
 go_ret
 exact ⟨rfl, hB3⟩
set_option maxRecDepth 100000 in
set_option maxHeartbeats 8000000 in
theorem does_2 (w : World) (T : Nat) (i : DevIds) (A : Option Addr) (c : Nat) (xs : List ByteArray) (F : FL) (B : BL) (off : Bool) (fuse nw : Int) (sh gk gm C at_ n by_ : Int) (tx fs : ByteArray) (fy : Int) (hD : DevAt w i xs F B off fuse nw) (hR : RefAt w (.slice A xs.length c) xs F B) (hbx : w.heap[T]? = some (.cells #[.pointer (some ⟨i.d, 0, none⟩), .slice A xs.length c, .bool off, .int .i64 fuse, .int .i64 nw] 46 (0, 0)))
  (hF1 : ∀ W, Calls Tryd.prog 8 #[.agg #[.int .i64 sh, .int .i64 gk, .int .i64 gm, .int .i64 C], .string tx] W fun e w' => e = .returned (.tuple #[.string fs, .int .i64 fy]) ∧ Below W.heap.size W w')
  (hF2 : ∀ W, Calls Tryd.prog 30 #[.agg #[.int .i64 sh, .int .i64 gk, .int .i64 gm, .int .i64 C], .string tx] W fun e w' => e = .returned (.tuple #[.string fs, .int .i64 fy]) ∧ Below W.heap.size W w')
  {rs : ByteArray} {ry : Int}
  (hRef : ∀ W, RefAt W (.slice A xs.length c) xs F B → Calls Tryd.prog 33 #[.agg #[.slice A xs.length c, .bool off, .int .i64 fuse, .int .i64 nw], .agg #[.int .i64 sh, .int .i64 gk, .int .i64 gm, .int .i64 C], .int .i64 at_] W fun e w' => e = .returned (.tuple #[.string rs, .int .i64 ry]) ∧ Below W.heap.size W w')
  (hDev : ∀ W, Below w.heap.size w W → DevAt W i xs F B off fuse nw → Calls Tryd.prog 9 #[.pointer (some ⟨i.d, 0, none⟩), .agg #[.int .i64 sh, .int .i64 gk, .int .i64 gm, .int .i64 C], .int .i64 at_] W fun e w' => e = .returned (.tuple #[.string rs, .int .i64 ry]) ∧ Below W.heap.size W w') :
  Calls Tryd.prog 14 #[.pointer (some ⟨T, 0, none⟩), .agg #[.int .i64 sh, .int .i64 gk, .int .i64 gm, .int .i64 C], .agg #[.int .i64 2, .int .i64 at_, .string tx, .int .i64 n, .int .u32 by_]] w fun e w' => e = .returned (.bool true) ∧ Below w.heap.size w w' := by
 have hilt := hD.lt
 have hTlt := blk_lt hbx
 have hnT := dev_notT hD hbx
 have hB3 := below2 w (.cells #[.int .i64 sh, .int .i64 gk, .int .i64 gm, .int .i64 C] 23) (.cells #[.int .i64 2, .int .i64 at_, .string tx, .int .i64 n, .int .u32 by_] 48)
 have hg4 := new1of2 w (.cells #[.int .i64 sh, .int .i64 gk, .int .i64 gm, .int .i64 C] 23) (.cells #[.int .i64 2, .int .i64 at_, .string tx, .int .i64 n, .int .u32 by_] 48)
 have ha5 := new2 w (.cells #[.int .i64 sh, .int .i64 gk, .int .i64 gm, .int .i64 C] 23) (.cells #[.int .i64 2, .int .i64 at_, .string tx, .int .i64 n, .int .u32 by_] 48)
 have hsz : w.heap.size + 2 ≤ ((w.alloc (.cells #[.int .i64 sh, .int .i64 gk, .int .i64 gm, .int .i64 C] 23)).alloc (.cells #[.int .i64 2, .int .i64 at_, .string tx, .int .i64 n, .int .u32 by_] 48)).heap.size := by simp
 go_enter Tryd.func14, Tryd.ntmps14
 go_upto_region 1 with (fail)
 generalize (w.alloc (.cells #[.int .i64 sh, .int .i64 gk, .int .i64 gm, .int .i64 C] 23)).alloc (.cells #[.int .i64 2, .int .i64 at_, .string tx, .int .i64 n, .int .u32 by_] 48) = W at hB3 hg4 ha5 hsz ⊢
 have hD3 := hD.below hB3
 have hR3 := hR.below hB3
 replace hbx := Stepb hB3 hbx
 clear hD hR
 obtain ⟨⟨t0, t1, t2, t3, t4⟩, e0, e1, e2, e3, e4⟩ := blk5 hbx
 obtain ⟨⟨g0, g1, g2, g3⟩, _⟩ := blk4 hg4
 obtain ⟨⟨a0, a1, a2, a3, a4⟩, _⟩ := blk5 ha5
 go_wp2_with (first
  | (go_at_call 8; with_reducible refine (hF1 _).mono ?_; rintro e W1 ⟨rfl, hb3⟩; clear t0 t1 t2 t3 t4 e0 e1 e2 e3 e4 g0 g1 g2 g3 a0 a1 a2 a3 a4; replace hD3 := hD3.below hb3; replace hR3 := hR3.below hb3; replace hbx := Stepb hb3 hbx; replace hg4 := Stepb hb3 hg4; replace ha5 := Stepb hb3 ha5; replace hB3 := hB3.trans (hb3.mono hB3.size); replace hsz := Nat.le_trans hsz hb3.size; clear hb3; obtain ⟨⟨t0, t1, t2, t3, t4⟩, e0, e1, e2, e3, e4⟩ := blk5 hbx; obtain ⟨⟨g0, g1, g2, g3⟩, _⟩ := blk4 hg4; obtain ⟨⟨a0, a1, a2, a3, a4⟩, _⟩ := blk5 ha5)
  | (go_at_call 30; with_reducible refine (hF2 _).mono ?_; rintro e W2 ⟨rfl, hb3⟩; clear t0 t1 t2 t3 t4 e0 e1 e2 e3 e4 g0 g1 g2 g3 a0 a1 a2 a3 a4; replace hD3 := hD3.below hb3; replace hR3 := hR3.below hb3; replace hbx := Stepb hb3 hbx; replace hg4 := Stepb hb3 hg4; replace ha5 := Stepb hb3 ha5; replace hB3 := hB3.trans (hb3.mono hB3.size); replace hsz := Nat.le_trans hsz hb3.size; clear hb3; obtain ⟨⟨t0, t1, t2, t3, t4⟩, e0, e1, e2, e3, e4⟩ := blk5 hbx; obtain ⟨⟨g0, g1, g2, g3⟩, _⟩ := blk4 hg4; obtain ⟨⟨a0, a1, a2, a3, a4⟩, _⟩ := blk5 ha5))
 try simp only [List.append_eq, List.cons_append, List.nil_append]
 have hb3 := below_drew1 (Below.refl W2.heap.size W2)
 replace hD3 := hD3.below hb3
 replace hR3 := hR3.below hb3
 replace hbx := Stepb hb3 hbx
 replace hg4 := Stepb hb3 hg4
 replace ha5 := Stepb hb3 ha5
 replace hB3 := hB3.trans (hb3.mono hB3.size)
 replace hsz := Nat.le_trans hsz hb3.size
 clear hb3
 refine start_ (n := 13) (S := fun w' => w'.cell? ⟨T, 1, none⟩ = some (.slice A xs.length c) ∧ w'.cell? ⟨T, 2, none⟩ = some (.bool off) ∧ w'.cell? ⟨T, 3, none⟩ = some (.int .i64 fuse) ∧ w'.cell? ⟨T, 4, none⟩ = some (.int .i64 nw) ∧ w'.cell? ⟨w.heap.size, 0, none⟩ = some (.int .i64 sh) ∧ w'.cell? ⟨w.heap.size, 1, none⟩ = some (.int .i64 gk) ∧ w'.cell? ⟨w.heap.size, 2, none⟩ = some (.int .i64 gm) ∧ w'.cell? ⟨w.heap.size, 3, none⟩ = some (.int .i64 C) ∧ w'.cell? ⟨w.heap.size + 1, 1, none⟩ = some (.int .i64 at_)) (ds := []) #[false, false, false, false, false, false, false, false, false, false, false, false, false] (by kernel_rfl) rfl rfl ⟨t1, t2, t3, t4, g0, g1, g2, g3, a1⟩ (fun hHeld => ?_)
 generalize W2.drew = w3 at hHeld hD3 hR3 hbx hg4 ha5 hB3 hsz ⊢
 refine pure_ (i := 0) (N := some 121) (v := ?_) (a' := ?_) #[true, false, false, false, false, false, false, false, false, false, false, false, false] rfl rfl (by kernel_rfl) (fun _ _ _ h => h) (Or.inl ⟨by rfl, ?_⟩) ?_ ?_
 rotate_left
 ·intro w'
  go_simp
  with_reducible rfl
 rotate_left
 ·simp only [Act.put, List.setIfInBounds_toArray, List.set_cons_zero, List.set_cons_succ, i64_w, i32_w]
  rfl
 refine pure_ (i := 1) (N := some 122) (v := ?_) (a' := ?_) #[true, true, false, false, false, false, false, false, false, false, false, false, false] rfl rfl (by kernel_rfl) (fun _ _ _ h => h) (Or.inl ⟨by rfl, ?_⟩) ?_ ?_
 rotate_left
 ·intro w'
  go_simp
  with_reducible rfl
 rotate_left
 ·simp only [Act.put, List.setIfInBounds_toArray, List.set_cons_zero, List.set_cons_succ, i64_w, i32_w]
  rfl
 refine pure_ (i := 2) (N := some 123) (v := ?_) (a' := ?_) #[true, true, true, false, false, false, false, false, false, false, false, false, false] rfl rfl (by kernel_rfl) (fun _ _ _ h => h) (Or.inl ⟨by rfl, ?_⟩) ?_ ?_
 rotate_left
 ·intro w'
  go_simp
  with_reducible rfl
 rotate_left
 ·simp only [Act.put, List.setIfInBounds_toArray, List.set_cons_zero, List.set_cons_succ, i64_w, i32_w]
  rfl
 refine pure_ (i := 5) (N := some 126) (v := ?_) (a' := ?_) #[true, true, true, false, false, true, false, false, false, false, false, false, false] rfl rfl (by kernel_rfl) (fun _ _ _ h => h) (Or.inl ⟨by rfl, ?_⟩) ?_ ?_
 rotate_left
 ·intro w'
  go_simp
  with_reducible rfl
 rotate_left
 ·simp only [Act.put, List.setIfInBounds_toArray, List.set_cons_zero, List.set_cons_succ, i64_w, i32_w]
  rfl
 refine take_ (i := 3) (N := some 124) (v := ?_) (a' := ?_) #[true, true, true, true, false, true, false, false, false, false, false, false, false] rfl rfl (by kernel_rfl) (fun _ _ _ h => h) (Or.inl ⟨by rfl, ?_⟩) hHeld ?_ ?_
 rotate_left
 ·rintro w' ⟨s0, s1, s2, s3, s4, s5, s6, s7, s8⟩
  go_simp
  with_reducible rfl
 rotate_left
 ·simp only [Act.put, List.setIfInBounds_toArray, List.set_cons_zero, List.set_cons_succ, i64_w, i32_w]
  rfl
 refine take_ (i := 4) (N := some 125) (v := ?_) (a' := ?_) #[true, true, true, true, true, true, false, false, false, false, false, false, false] rfl rfl (by kernel_rfl) (fun _ _ _ h => h) (Or.inl ⟨by rfl, ?_⟩) hHeld ?_ ?_
 rotate_left
 ·rintro w' ⟨s0, s1, s2, s3, s4, s5, s6, s7, s8⟩
  go_simp
  with_reducible rfl
 rotate_left
 ·simp only [Act.put, List.setIfInBounds_toArray, List.set_cons_zero, List.set_cons_succ, i64_w, i32_w]
  rfl
 refine take_ (i := 6) (N := some 127) (v := ?_) (a' := ?_) #[true, true, true, true, true, true, true, false, false, false, false, false, false] rfl rfl (by kernel_rfl) (fun _ _ _ h => h) (Or.inl ⟨by rfl, ?_⟩) hHeld ?_ ?_
 rotate_left
 ·rintro w' ⟨s0, s1, s2, s3, s4, s5, s6, s7, s8⟩
  go_simp
  with_reducible rfl
 rotate_left
 ·simp only [Act.put, List.setIfInBounds_toArray, List.set_cons_zero, List.set_cons_succ, i64_w, i32_w]
  rfl
 refine one_ (i := 7) (N := some 128) #[true, true, true, true, true, true, true, true, false, false, false, false, false] rfl rfl (by kernel_rfl) (by decide) (fun K hK => ?_)
 refine goes_ Tryd.func33 (by kernel_rfl) rfl #[.agg #[.slice A xs.length c, .bool off, .int .i64 fuse, .int .i64 nw], .agg #[.int .i64 sh, .int .i64 gk, .int .i64 gm, .int .i64 C], .int .i64 at_] (by rfl) rfl rfl (by simp only [List.map_toArray, List.map_cons, List.map_nil]; rfl) ?_
 with_reducible refine (hRef _ hR3).mono ?_
 rintro e w3 ⟨rfl, hb3⟩
 refine ⟨_, rfl, ?_⟩
 replace hD3 := hD3.below hb3
 replace hR3 := hR3.below hb3
 replace hbx := Stepb hb3 hbx
 replace hg4 := Stepb hb3 hg4
 replace ha5 := Stepb hb3 ha5
 replace hB3 := hB3.trans (hb3.mono hB3.size)
 replace hsz := Nat.le_trans hsz hb3.size
 refine hK.out _ _ ⟨pw_cell_below hb3 hHeld.1, pw_cell_below hb3 hHeld.2.1, pw_cell_below hb3 hHeld.2.2.1, pw_cell_below hb3 hHeld.2.2.2.1, pw_cell_below hb3 hHeld.2.2.2.2.1, pw_cell_below hb3 hHeld.2.2.2.2.2.1, pw_cell_below hb3 hHeld.2.2.2.2.2.2.1, pw_cell_below hb3 hHeld.2.2.2.2.2.2.2.1, pw_cell_below hb3 hHeld.2.2.2.2.2.2.2.2⟩ (fun hHeld => ?_)
 clear hK K
 refine norm_ (a' := ?_) ?_ ?_
 rotate_left
 ·show Act.put _ (some 128) _ = _
  simp only [Act.put, List.setIfInBounds_toArray, List.set_cons_zero, List.set_cons_succ, i64_w, i32_w]
  rfl
 refine pure_ (i := 8) (N := some 120) (v := ?_) (a' := ?_) #[true, true, true, true, true, true, true, true, true, false, false, false, false] rfl rfl (by kernel_rfl) (fun _ _ _ h => h) (Or.inl ⟨by rfl, ?_⟩) ?_ ?_
 rotate_left
 ·intro w'
  go_simp
  with_reducible rfl
 rotate_left
 ·simp only [Act.put, List.setIfInBounds_toArray, List.set_cons_zero, List.set_cons_succ, i64_w, i32_w]
  rfl
 refine pure_ (i := 9) (N := some 129) (v := ?_) (a' := ?_) #[true, true, true, true, true, true, true, true, true, true, false, false, false] rfl rfl (by kernel_rfl) (fun _ _ _ h => h) (Or.inl ⟨by rfl, ?_⟩) ?_ ?_
 rotate_left
 ·intro w'
  go_simp
  with_reducible rfl
 rotate_left
 ·simp only [Act.put, List.setIfInBounds_toArray, List.set_cons_zero, List.set_cons_succ, i64_w, i32_w]
  rfl
 refine pure_ (i := 10) (N := some 130) (v := ?_) (a' := ?_) #[true, true, true, true, true, true, true, true, true, true, true, false, false] rfl rfl (by kernel_rfl) (fun _ _ _ h => h) (Or.inl ⟨by rfl, ?_⟩) ?_ ?_
 rotate_left
 ·intro w'
  go_simp
  with_reducible rfl
 rotate_left
 ·simp only [Act.put, List.setIfInBounds_toArray, List.set_cons_zero, List.set_cons_succ, i64_w, i32_w]
  rfl
 refine pure_ (i := 11) (N := some 17) (v := ?_) (a' := ?_) #[true, true, true, true, true, true, true, true, true, true, true, true, false] rfl rfl (by kernel_rfl) (fun _ _ _ h => h) (Or.inl ⟨by rfl, ?_⟩) ?_ ?_
 rotate_left
 ·intro w'
  go_simp
  with_reducible rfl
 rotate_left
 ·simp only [Act.put, List.setIfInBounds_toArray, List.set_cons_zero, List.set_cons_succ, i64_w, i32_w]
  rfl
 refine pure_ (i := 12) (N := some 18) (v := ?_) (a' := ?_) #[true, true, true, true, true, true, true, true, true, true, true, true, true] rfl rfl (by kernel_rfl) (fun _ _ _ h => h) (Or.inl ⟨by rfl, ?_⟩) ?_ ?_
 rotate_left
 ·intro w'
  go_simp
  with_reducible rfl
 rotate_left
 ·simp only [Act.put, List.setIfInBounds_toArray, List.set_cons_zero, List.set_cons_succ, i64_w, i32_w]
  rfl
 refine done_ (by kernel_rfl) ?_
 clear hHeld
 clear t0 t1 t2 t3 t4 e0 e1 e2 e3 e4 g0 g1 g2 g3 a0 a1 a2 a3 a4
 obtain ⟨⟨t0, t1, t2, t3, t4⟩, e0, e1, e2, e3, e4⟩ := blk5 hbx
 obtain ⟨⟨g0, g1, g2, g3⟩, _⟩ := blk4 hg4
 obtain ⟨⟨a0, a1, a2, a3, a4⟩, _⟩ := blk5 ha5
 go_wp2_with fail
 try simp only [List.append_eq, List.cons_append, List.nil_append]
 have hb3 := below_drew1 (Below.refl w3.heap.size w3)
 replace hD3 := hD3.below hb3
 replace hR3 := hR3.below hb3
 replace hbx := Stepb hb3 hbx
 replace hg4 := Stepb hb3 hg4
 replace ha5 := Stepb hb3 ha5
 replace hB3 := hB3.trans (hb3.mono hB3.size)
 replace hsz := Nat.le_trans hsz hb3.size
 clear hb3
 refine start_ (n := 13) (S := fun w' => w'.cell? ⟨T, 0, none⟩ = some (.pointer (some ⟨i.d, 0, none⟩)) ∧ w'.cell? ⟨w.heap.size, 0, none⟩ = some (.int .i64 sh) ∧ w'.cell? ⟨w.heap.size, 1, none⟩ = some (.int .i64 gk) ∧ w'.cell? ⟨w.heap.size, 2, none⟩ = some (.int .i64 gm) ∧ w'.cell? ⟨w.heap.size, 3, none⟩ = some (.int .i64 C) ∧ w'.cell? ⟨w.heap.size + 1, 1, none⟩ = some (.int .i64 at_)) (ds := []) #[false, false, false, false, false, false, false, false, false, false, false, false, false] (by kernel_rfl) rfl rfl ⟨t0, g0, g1, g2, g3, a1⟩ (fun hHeld => ?_)
 generalize w3.drew = w3 at hHeld hD3 hR3 hbx hg4 ha5 hB3 hsz ⊢
 refine pure_ (i := 0) (N := some 132) (v := ?_) (a' := ?_) #[true, false, false, false, false, false, false, false, false, false, false, false, false] rfl rfl (by kernel_rfl) (fun _ _ _ h => h) (Or.inl ⟨by rfl, ?_⟩) ?_ ?_
 rotate_left
 ·intro w'
  go_simp
  with_reducible rfl
 rotate_left
 ·simp only [Act.put, List.setIfInBounds_toArray, List.set_cons_zero, List.set_cons_succ, i64_w, i32_w]
  rfl
 refine pure_ (i := 1) (N := some 133) (v := ?_) (a' := ?_) #[true, true, false, false, false, false, false, false, false, false, false, false, false] rfl rfl (by kernel_rfl) (fun _ _ _ h => h) (Or.inl ⟨by rfl, ?_⟩) ?_ ?_
 rotate_left
 ·intro w'
  go_simp
  with_reducible rfl
 rotate_left
 ·simp only [Act.put, List.setIfInBounds_toArray, List.set_cons_zero, List.set_cons_succ, i64_w, i32_w]
  rfl
 refine pure_ (i := 2) (N := some 134) (v := ?_) (a' := ?_) #[true, true, true, false, false, false, false, false, false, false, false, false, false] rfl rfl (by kernel_rfl) (fun _ _ _ h => h) (Or.inl ⟨by rfl, ?_⟩) ?_ ?_
 rotate_left
 ·intro w'
  go_simp
  with_reducible rfl
 rotate_left
 ·simp only [Act.put, List.setIfInBounds_toArray, List.set_cons_zero, List.set_cons_succ, i64_w, i32_w]
  rfl
 refine pure_ (i := 5) (N := some 137) (v := ?_) (a' := ?_) #[true, true, true, false, false, true, false, false, false, false, false, false, false] rfl rfl (by kernel_rfl) (fun _ _ _ h => h) (Or.inl ⟨by rfl, ?_⟩) ?_ ?_
 rotate_left
 ·intro w'
  go_simp
  with_reducible rfl
 rotate_left
 ·simp only [Act.put, List.setIfInBounds_toArray, List.set_cons_zero, List.set_cons_succ, i64_w, i32_w]
  rfl
 refine take_ (i := 3) (N := some 135) (v := ?_) (a' := ?_) #[true, true, true, true, false, true, false, false, false, false, false, false, false] rfl rfl (by kernel_rfl) (fun _ _ _ h => h) (Or.inl ⟨by rfl, ?_⟩) hHeld ?_ ?_
 rotate_left
 ·rintro w' ⟨s0, s1, s2, s3, s4, s5⟩
  go_simp
  with_reducible rfl
 rotate_left
 ·simp only [Act.put, List.setIfInBounds_toArray, List.set_cons_zero, List.set_cons_succ, i64_w, i32_w]
  rfl
 refine take_ (i := 4) (N := some 136) (v := ?_) (a' := ?_) #[true, true, true, true, true, true, false, false, false, false, false, false, false] rfl rfl (by kernel_rfl) (fun _ _ _ h => h) (Or.inl ⟨by rfl, ?_⟩) hHeld ?_ ?_
 rotate_left
 ·rintro w' ⟨s0, s1, s2, s3, s4, s5⟩
  go_simp
  with_reducible rfl
 rotate_left
 ·simp only [Act.put, List.setIfInBounds_toArray, List.set_cons_zero, List.set_cons_succ, i64_w, i32_w]
  rfl
 refine take_ (i := 6) (N := some 138) (v := ?_) (a' := ?_) #[true, true, true, true, true, true, true, false, false, false, false, false, false] rfl rfl (by kernel_rfl) (fun _ _ _ h => h) (Or.inl ⟨by rfl, ?_⟩) hHeld ?_ ?_
 rotate_left
 ·rintro w' ⟨s0, s1, s2, s3, s4, s5⟩
  go_simp
  with_reducible rfl
 rotate_left
 ·simp only [Act.put, List.setIfInBounds_toArray, List.set_cons_zero, List.set_cons_succ, i64_w, i32_w]
  rfl
 refine one_ (i := 7) (N := some 139) #[true, true, true, true, true, true, true, true, false, false, false, false, false] rfl rfl (by kernel_rfl) (by decide) (fun K hK => ?_)
 refine goes_ Tryd.func9 (by kernel_rfl) rfl #[.pointer (some ⟨i.d, 0, none⟩), .agg #[.int .i64 sh, .int .i64 gk, .int .i64 gm, .int .i64 C], .int .i64 at_] (by rfl) rfl rfl (by simp only [List.map_toArray, List.map_cons, List.map_nil]; rfl) ?_
 with_reducible refine (hDev _ hB3 hD3).mono ?_
 rintro e w3 ⟨rfl, hb3⟩
 refine ⟨_, rfl, ?_⟩
 replace hD3 := hD3.below hb3
 replace hR3 := hR3.below hb3
 replace hbx := Stepb hb3 hbx
 replace hg4 := Stepb hb3 hg4
 replace ha5 := Stepb hb3 ha5
 replace hB3 := hB3.trans (hb3.mono hB3.size)
 replace hsz := Nat.le_trans hsz hb3.size
 refine hK.out _ _ ⟨pw_cell_below hb3 hHeld.1, pw_cell_below hb3 hHeld.2.1, pw_cell_below hb3 hHeld.2.2.1, pw_cell_below hb3 hHeld.2.2.2.1, pw_cell_below hb3 hHeld.2.2.2.2.1, pw_cell_below hb3 hHeld.2.2.2.2.2⟩ (fun hHeld => ?_)
 clear hK K
 refine norm_ (a' := ?_) ?_ ?_
 rotate_left
 ·show Act.put _ (some 139) _ = _
  simp only [Act.put, List.setIfInBounds_toArray, List.set_cons_zero, List.set_cons_succ, i64_w, i32_w]
  rfl
 refine pure_ (i := 8) (N := some 131) (v := ?_) (a' := ?_) #[true, true, true, true, true, true, true, true, true, false, false, false, false] rfl rfl (by kernel_rfl) (fun _ _ _ h => h) (Or.inl ⟨by rfl, ?_⟩) ?_ ?_
 rotate_left
 ·intro w'
  go_simp
  with_reducible rfl
 rotate_left
 ·simp only [Act.put, List.setIfInBounds_toArray, List.set_cons_zero, List.set_cons_succ, i64_w, i32_w]
  rfl
 refine pure_ (i := 9) (N := some 140) (v := ?_) (a' := ?_) #[true, true, true, true, true, true, true, true, true, true, false, false, false] rfl rfl (by kernel_rfl) (fun _ _ _ h => h) (Or.inl ⟨by rfl, ?_⟩) ?_ ?_
 rotate_left
 ·intro w'
  go_simp
  with_reducible rfl
 rotate_left
 ·simp only [Act.put, List.setIfInBounds_toArray, List.set_cons_zero, List.set_cons_succ, i64_w, i32_w]
  rfl
 refine pure_ (i := 10) (N := some 141) (v := ?_) (a' := ?_) #[true, true, true, true, true, true, true, true, true, true, true, false, false] rfl rfl (by kernel_rfl) (fun _ _ _ h => h) (Or.inl ⟨by rfl, ?_⟩) ?_ ?_
 rotate_left
 ·intro w'
  go_simp
  with_reducible rfl
 rotate_left
 ·simp only [Act.put, List.setIfInBounds_toArray, List.set_cons_zero, List.set_cons_succ, i64_w, i32_w]
  rfl
 refine pure_ (i := 11) (N := some 19) (v := ?_) (a' := ?_) #[true, true, true, true, true, true, true, true, true, true, true, true, false] rfl rfl (by kernel_rfl) (fun _ _ _ h => h) (Or.inl ⟨by rfl, ?_⟩) ?_ ?_
 rotate_left
 ·intro w'
  go_simp
  with_reducible rfl
 rotate_left
 ·simp only [Act.put, List.setIfInBounds_toArray, List.set_cons_zero, List.set_cons_succ, i64_w, i32_w]
  rfl
 refine pure_ (i := 12) (N := some 20) (v := ?_) (a' := ?_) #[true, true, true, true, true, true, true, true, true, true, true, true, true] rfl rfl (by kernel_rfl) (fun _ _ _ h => h) (Or.inl ⟨by rfl, ?_⟩) ?_ ?_
 rotate_left
 ·intro w'
  go_simp
  with_reducible rfl
 rotate_left
 ·simp only [Act.put, List.setIfInBounds_toArray, List.set_cons_zero, List.set_cons_succ, i64_w, i32_w]
  rfl
 refine done_ (by kernel_rfl) ?_
 clear hHeld
 go_wp2
 go_ret
 exact ⟨rfl, hB3⟩
end

end Go.Proofs.YtpbkcdodpjpoeaaDoor.HCP
