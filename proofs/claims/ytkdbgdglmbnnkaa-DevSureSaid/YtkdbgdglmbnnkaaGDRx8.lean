/- WRITTEN BY wip/hyb.py, a program of this workplace (out of the kit's printer and this workplace's own contracts). -/
import Derived.Test.YtkdbgdglmbnnkaaGDRx0
import Derived.Test.YtkdbgdglmbnnkaaGDRx2
import Derived.Test.YtkdbgdglmbnnkaaGDRx3
import Derived.Test.YtkdbgdglmbnnkaaGDRx6
import Derived.Test.YtkdbgdglmbnnkaaGDRx7
namespace Go.Proofs.Ytkdbgdglmbnnkaa.HDR
open Go.RowKit Go.Proofs.YtkdbgdglmbnnkaaW.PrintWords Go.Proofs.YtkdbgdglmbnnkaaW.PrintLast Go.Proofs.YtkdbgdglmbnnkaaW.PrintMore
attribute [local go_sem] max2_int min2_int max_two min_two max_three min_three max_four min_four   -- for this text's walks alone
set_option linter.unusedVariables false
set_option linter.unusedSimpArgs false

section
open Go Go.Shelf Go.Maps Go.Proofs.Ytkdbgdglmbnnkaa.Seq Go.Proofs.Ytkdbgdglmbnnkaa.MapL Go.Proofs.YtkdbgdglmbnnkaaW.PrintLast
attribute [local go_sem] Oper.semAt_some max2_int min2_int max_two min_two
theorem below45 (w : World) : Below w.heap.size w (w.alloc (.cells #[.slice none 0 0, .bool false, .int .i64 0, .int .i64 0] 45)) := (Below.refl _ w).alloc (Nat.le_refl _) _
theorem ref_dev {w : World} {i : DevIds} {v : Value} {xs xs2 : List ByteArray} {F F2 : FL} {B B2 : BL} {off : Bool} {fuse nw : Int} (hR : RefAt w v xs2 F2 B2) (hD : DevAt w i xs F B off fuse nw) : ∀ g, v.ownBlock = some g → ¬ i.In g := by
 obtain ⟨hd, hr, hf, hb, _⟩ := hD
 obtain ⟨e1, c1, m1⟩ := map_block hf
 obtain ⟨e2, c2, m2⟩ := map_block hb
 obtain ⟨cur, r⟩ := row_block hr
 rintro g hg (rfl | rfl | rfl | rfl)
 ·exact hR.ne hd (by decide) hg
 ·exact hR.ne r (by decide) hg
 ·exact own103_ne hR m1 (fun cur e => by cases e) hg
 ·exact own103_ne hR m2 (fun cur e => by cases e) hg
theorem ref_WriteR {xs : List ByteArray} {F : FL} {B : BL} {off : Bool} {left nw at_ : Int} {s : ByteArray} {F3 : FL} {o3 : Bool} {l3 m3 why : Int} (hq : writeP xs.length F off left nw at_ s = (F3, o3, l3, m3, why)) (w : World) (v : Value) (h : RefAt w v xs F B) (hok : DevOk xs F B left) :
  Calls Try.prog 56 #[.agg #[v, .bool off, .int .i64 left, .int .i64 nw], .int .i64 at_, .string s] w fun e w' => ∃ A3 c3, e = .returned (.tuple #[.agg #[.slice A3 xs.length c3, .bool o3, .int .i64 l3, .int .i64 m3], .int .i64 why]) ∧ RefAt w' (.slice A3 xs.length c3) xs F3 B ∧ Below w.heap.size w w' := by
 refine (ref_Write w v xs F B off left nw at_ s h hok).mono ?_
 rw [hq]
 rintro e w' ⟨v', rfl, hR, hb⟩
 obtain ⟨A, c, rfl, _⟩ := hR.reads
 exact ⟨A, c, rfl, hR, hb⟩
theorem dev_WriteR {xs : List ByteArray} {F : FL} {B : BL} {off : Bool} {fuse nw at_ : Int} {s : ByteArray} {F3 : FL} {o3 : Bool} {l3 m3 why : Int} (hq : writeP xs.length F off fuse nw at_ s = (F3, o3, l3, m3, why)) (w : World) (i : DevIds) (h : DevAt w i xs F B off fuse nw) :
  Calls Try.prog 11 #[.pointer (some ⟨i.d, 0, none⟩), .int .i64 at_, .string s] w fun e w' => e = .returned (.int .i64 why) ∧ DevAt w' i xs F3 B o3 l3 m3 ∧ Step i.In w w' := by
 have := dev_Write_any w i xs F B off fuse nw at_ s h
 rw [hq] at this
 exact this
theorem does_start (w : World) (o1 o2 o3 : Obj) : Below w.heap.size w (((w.alloc o1).alloc o2).alloc o3) ∧ (((w.alloc o1).alloc o2).alloc o3).heap[w.heap.size]? = some o1 ∧ (((w.alloc o1).alloc o2).alloc o3).heap[w.heap.size + 1]? = some o2 ∧ (((w.alloc o1).alloc o2).alloc o3).heap[w.heap.size + 1 + 1]? = some o3 ∧ w.heap.size + 3 ≤ (((w.alloc o1).alloc o2).alloc o3).heap.size := by
 have h3 := World.alloc_heap_new ((w.alloc o1).alloc o2) o3
 rw [World.size_alloc, World.size_alloc] at h3
 exact ⟨(below2 w o1 o2).alloc (below2 w o1 o2).size _, (Step.alloc (fun _ => False) _ _).block (new1of2 w o1 o2) (fun h => h), (Step.alloc (fun _ => False) _ _).block (new2 w o1 o2) (fun h => h), h3, by simp⟩
theorem blk6 {w : World} {g : Nat} {t : TypeId} {a b c d e f : Value} (h : w.heap[g]? = some (.cells #[a, b, c, d, e, f] t (0, 0))) : w.cell? ⟨g, 0, none⟩ = some a ∧ w.cell? ⟨g, 1, none⟩ = some b ∧ w.cell? ⟨g, 2, none⟩ = some c ∧ w.cell? ⟨g, 3, none⟩ = some d ∧ w.cell? ⟨g, 4, none⟩ = some e ∧ w.cell? ⟨g, 5, none⟩ = some f := by
 refine ⟨?_, ?_, ?_, ?_, ?_, ?_⟩ <;> (rw [blk_cell h]; rfl)
set_option maxRecDepth 100000 in
set_option maxHeartbeats 8000000 in
theorem does_0 (w : World) (i : DevIds) (v : Value) (xs : List ByteArray) (F : FL) (B : BL) (off : Bool) (fuse nw : Int) (kd at_ c n by_ : Int) (Ak : Option Addr) (ck : Nat) (keep : List Bool) (hD : DevAt w i xs F B off fuse nw) (hR : RefAt w v xs F B) (hkd : kd = 0) :
  Calls Try.prog 18 #[.pointer (some ⟨i.d, 0, none⟩), .agg #[v, .bool off, .int .i64 fuse, .int .i64 nw], .agg #[.int .i64 kd, .int .i64 at_, .int .u8 c, .slice Ak keep.length ck, .int .i64 n, .int .u32 by_]] w fun e w' => ∃ v' xs' F' B' off' fuse' nw', e = .returned (.tuple #[.agg #[v', .bool off', .int .i64 fuse', .int .i64 nw'], .bool true]) ∧
   DevAt w' i xs' F' B' off' fuse' nw' ∧ RefAt w' v' xs' F' B' ∧ xs'.length = xs.length ∧ Step i.In w w' := by
 subst hkd
 obtain ⟨Av, cv, rfl, _⟩ := hR.reads
 have hilt := hD.lt
 have hok := hD.ok
 have hb1 := Below.refl w.heap.size w
 have hx := does_start w (.cells #[.slice Av xs.length cv, .bool off, .int .i64 fuse, .int .i64 nw] 45) (.cells #[.int .i64 0, .int .i64 at_, .int .u8 c, .slice Ak keep.length ck, .int .i64 n, .int .u32 by_] 32) (.cells #[.slice none 0 0, .bool false, .int .i64 0, .int .i64 0] 45)
 go_enter Try.func18, Try.ntmps18
 go_upto_region 1 with (fail)
 obtain ⟨hbl, hb4, hb5, hb6, hsz⟩ := hx
 generalize ((w.alloc (.cells #[.slice Av xs.length cv, .bool off, .int .i64 fuse, .int .i64 nw] 45)).alloc (.cells #[.int .i64 0, .int .i64 at_, .int .u8 c, .slice Ak keep.length ck, .int .i64 n, .int .u32 by_] 32)).alloc (.cells #[.slice none 0 0, .bool false, .int .i64 0, .int .i64 0] 45) = W at hbl hb4 hb5 hb6 hsz ⊢
 have hD3 := hD.below hbl
 have hR3 := hR.below hbl
 have hs3 : Step i.In w W := Step.of_below hbl
 obtain ⟨⟨b40, b41, b42, b43⟩, _⟩ := blk4 hb4
 obtain ⟨a0, a1, a2, a3, a4, a5⟩ := blk6 hb5
 clear hb4 hb1 hbl hR hD a3 a4 a5
 obtain ⟨F3, o3, l3, m3, why, hq⟩ : ∃ F3 o3 l3 m3 why, writeP xs.length F off fuse nw at_ (fillS c) = (F3, o3, l3, m3, why) := ⟨_, _, _, _, _, rfl⟩
 go_wp2_with fail
 try simp only [List.append_eq, List.cons_append, List.nil_append]
 have hb3 := below_drew1 (Below.refl W.heap.size W)
 replace hD3 := hD3.below hb3
 replace hR3 := hR3.below hb3
 replace hs3 := hs3.trans (Step.of_below (S := i.In) hb3) (fun _ h => h) (fun _ h => Or.inl h)
 replace hb6 := Stepb hb3 hb6
 replace hsz := Nat.le_trans hsz hb3.size
 refine start_ (n := 13) (S := fun w' => w'.cell? ⟨w.heap.size, 0, none⟩ = some (.slice Av xs.length cv) ∧ w'.cell? ⟨w.heap.size, 1, none⟩ = some (.bool off) ∧ w'.cell? ⟨w.heap.size, 2, none⟩ = some (.int .i64 fuse) ∧ w'.cell? ⟨w.heap.size, 3, none⟩ = some (.int .i64 nw) ∧ w'.cell? ⟨w.heap.size + 1, 1, none⟩ = some (.int .i64 at_) ∧ w'.cell? ⟨w.heap.size + 1, 2, none⟩ = some (.int .u8 c)) (ds := [11]) #[false, false, false, false, false, false, false, false, false, false, false, false, false] (by kernel_rfl) rfl rfl ⟨b40, b41, b42, b43, a1, a2⟩ (fun hHeld => ?_)
 generalize W.drew = w3 at hHeld hD3 hR3 hs3 hb6 hsz ⊢
 refine pure_ (i := 1) (N := some 28) (v := ?_) (a' := ?_) #[false, true, false, false, false, false, false, false, false, false, false, false, false] rfl rfl (by kernel_rfl) (fun _ _ _ h => h) (Or.inl ⟨by rfl, ?_⟩) ?_ ?_
 rotate_left
 ·intro w'
  go_simp
  with_reducible rfl
 rotate_left
 ·simp only [Act.put, List.setIfInBounds_toArray, List.set_cons_zero, List.set_cons_succ, i64_w, i32_w]
  rfl
 refine pure_ (i := 3) (N := some 30) (v := ?_) (a' := ?_) #[false, true, false, true, false, false, false, false, false, false, false, false, false] rfl rfl (by kernel_rfl) (fun _ _ _ h => h) (Or.inl ⟨by rfl, ?_⟩) ?_ ?_
 rotate_left
 ·intro w'
  go_simp
  with_reducible rfl
 rotate_left
 ·simp only [Act.put, List.setIfInBounds_toArray, List.set_cons_zero, List.set_cons_succ, i64_w, i32_w]
  rfl
 refine take_ (i := 0) (N := some 27) (v := ?_) (a' := ?_) #[true, true, false, true, false, false, false, false, false, false, false, false, false] rfl rfl (by kernel_rfl) (fun _ _ _ h => h) (Or.inl ⟨by rfl, ?_⟩) hHeld ?_ ?_
 rotate_left
 ·rintro w' ⟨s0, s1, s2, s3, s4, s5⟩
  go_simp
  with_reducible rfl
 rotate_left
 ·simp only [Act.put, List.setIfInBounds_toArray, List.set_cons_zero, List.set_cons_succ, i64_w, i32_w]
  rfl
 refine take_ (i := 2) (N := some 29) (v := ?_) (a' := ?_) #[true, true, true, true, false, false, false, false, false, false, false, false, false] rfl rfl (by kernel_rfl) (fun _ _ _ h => h) (Or.inl ⟨by rfl, ?_⟩) hHeld ?_ ?_
 rotate_left
 ·rintro w' ⟨s0, s1, s2, s3, s4, s5⟩
  go_simp
  with_reducible rfl
 rotate_left
 ·simp only [Act.put, List.setIfInBounds_toArray, List.set_cons_zero, List.set_cons_succ, i64_w, i32_w]
  rfl
 refine take_ (i := 4) (N := some 31) (v := ?_) (a' := ?_) #[true, true, true, true, true, false, false, false, false, false, false, false, false] rfl rfl (by kernel_rfl) (fun _ _ _ h => h) (Or.inl ⟨by rfl, ?_⟩) hHeld ?_ ?_
 rotate_left
 ·rintro w' ⟨s0, s1, s2, s3, s4, s5⟩
  go_simp
  with_reducible rfl
 rotate_left
 ·simp only [Act.put, List.setIfInBounds_toArray, List.set_cons_zero, List.set_cons_succ, i64_w, i32_w]
  rfl
 refine join_ (σ := Option Addr × Nat × Nat) 2 #[true, true, true, true, true, true, true, true, true, true, true, false, false] (fun s => [(32, .string (fillS c)), (33, .tuple #[.agg #[.slice s.1 xs.length s.2.1, .bool o3, .int .i64 l3, .int .i64 m3], .int .i64 why]), (26, .tuple #[.agg #[.slice s.1 xs.length s.2.1, .bool o3, .int .i64 l3, .int .i64 m3], .int .i64 why]), (34, .agg #[.slice s.1 xs.length s.2.1, .bool o3, .int .i64 l3, .int .i64 m3]), (35, .int .i64 why), (8, .pointer (some ⟨s.2.2, 0, none⟩))]) (fun s w' => (w'.cell? ⟨w.heap.size, 0, none⟩ = some (.slice Av xs.length cv) ∧ w'.cell? ⟨w.heap.size, 1, none⟩ = some (.bool off) ∧ w'.cell? ⟨w.heap.size, 2, none⟩ = some (.int .i64 fuse) ∧ w'.cell? ⟨w.heap.size, 3, none⟩ = some (.int .i64 nw) ∧ w'.cell? ⟨w.heap.size + 1, 1, none⟩ = some (.int .i64 at_) ∧ w'.cell? ⟨w.heap.size + 1, 2, none⟩ = some (.int .u8 c)) ∧ DevAt w' i xs F B off fuse nw ∧ RefAt w' (.slice s.1 xs.length s.2.1) xs F3 B ∧ Step i.In w w' ∧ w'.heap[w.heap.size + 1 + 1]? = some (.cells #[.slice none 0 0, .bool false, .int .i64 0, .int .i64 0] 45 (0, 0)) ∧ w.heap.size + 3 ≤ w'.heap.size ∧ w'.heap[s.2.2]? = some (.cells #[.slice none 0 0, .bool false, .int .i64 0, .int .i64 0] 45 (0, 0)) ∧ w.heap.size + 3 ≤ s.2.2) ?_ ?_
 rotate_left
 ·intro hCont
  refine two_ (i := 5) (j := 10) (Ni := some 32) (Nj := some 8) #[true, true, true, true, true, true, false, false, false, false, false, false, false] #[true, true, true, true, true, false, false, false, false, false, true, false, false] rfl rfl rfl rfl (by kernel_rfl) (by decide) (by decide) (fun K hK => ?_) (fun K hK => ?_)
  ·skip
   refine goes_ Try.func12 (by kernel_rfl) rfl #[.int .u8 c] (by rfl) rfl rfl (by simp only [List.map_toArray, List.map_cons, List.map_nil]; rfl) ?_
   with_reducible refine (fill_any _ c).mono ?_
   rintro e w3 ⟨rfl, hb3⟩
   refine ⟨_, rfl, ?_⟩
   replace hD3 := hD3.below hb3
   replace hR3 := hR3.below hb3
   replace hs3 := hs3.trans (Step.of_below (S := i.In) hb3) (fun _ h => h) (fun _ h => Or.inl h)
   replace hb6 := Stepb hb3 hb6
   replace hsz := Nat.le_trans hsz hb3.size
   refine hK.out _ _ ⟨pw_cell_below hb3 hHeld.1, pw_cell_below hb3 hHeld.2.1, pw_cell_below hb3 hHeld.2.2.1, pw_cell_below hb3 hHeld.2.2.2.1, pw_cell_below hb3 hHeld.2.2.2.2.1, pw_cell_below hb3 hHeld.2.2.2.2.2⟩ (fun hHeld => ?_)
   clear hK K
   refine norm_ (a' := ?_) ?_ ?_
   rotate_left
   ·show Act.put _ (some 32) _ = _
    simp only [Act.put, List.setIfInBounds_toArray, List.set_cons_zero, List.set_cons_succ, i64_w, i32_w]
    rfl
   refine two_ (i := 6) (j := 10) (Ni := some 33) (Nj := some 8) #[true, true, true, true, true, true, true, false, false, false, false, false, false] #[true, true, true, true, true, true, false, false, false, false, true, false, false] rfl rfl rfl rfl (by kernel_rfl) (by decide) (by decide) (fun K hK => ?_) (fun K hK => ?_)
   ·skip
    refine goes_ Try.func56 (by kernel_rfl) rfl #[.agg #[.slice Av xs.length cv, .bool off, .int .i64 fuse, .int .i64 nw], .int .i64 at_, .string (fillS c)] (by rfl) rfl rfl (by simp only [List.map_toArray, List.map_cons, List.map_nil]; rfl) ?_
    with_reducible refine (ref_WriteR hq _ _ hR3 hok).mono ?_
    rintro e w3 ⟨A3, c3, rfl, hR4, hb3⟩
    refine ⟨_, rfl, ?_⟩
    replace hD3 := hD3.below hb3
    replace hR3 := hR4
    replace hs3 := hs3.trans (Step.of_below (S := i.In) hb3) (fun _ h => h) (fun _ h => Or.inl h)
    replace hb6 := Stepb hb3 hb6
    replace hsz := Nat.le_trans hsz hb3.size
    refine hK.out _ _ ⟨pw_cell_below hb3 hHeld.1, pw_cell_below hb3 hHeld.2.1, pw_cell_below hb3 hHeld.2.2.1, pw_cell_below hb3 hHeld.2.2.2.1, pw_cell_below hb3 hHeld.2.2.2.2.1, pw_cell_below hb3 hHeld.2.2.2.2.2⟩ (fun hHeld => ?_)
    clear hK K
    refine norm_ (a' := ?_) ?_ ?_
    rotate_left
    ·show Act.put _ (some 33) _ = _
     simp only [Act.put, List.setIfInBounds_toArray, List.set_cons_zero, List.set_cons_succ, i64_w, i32_w]
     rfl
    refine pure_ (i := 7) (N := some 26) (v := ?_) (a' := ?_) #[true, true, true, true, true, true, true, true, false, false, false, false, false] rfl rfl (by kernel_rfl) (fun _ _ _ h => h) (Or.inl ⟨by rfl, ?_⟩) ?_ ?_
    rotate_left
    ·intro w'
     go_simp
     with_reducible rfl
    rotate_left
    ·simp only [Act.put, List.setIfInBounds_toArray, List.set_cons_zero, List.set_cons_succ, i64_w, i32_w]
     rfl
    refine pure_ (i := 8) (N := some 34) (v := ?_) (a' := ?_) #[true, true, true, true, true, true, true, true, true, false, false, false, false] rfl rfl (by kernel_rfl) (fun _ _ _ h => h) (Or.inl ⟨by rfl, ?_⟩) ?_ ?_
    rotate_left
    ·intro w'
     go_simp
     with_reducible rfl
    rotate_left
    ·simp only [Act.put, List.setIfInBounds_toArray, List.set_cons_zero, List.set_cons_succ, i64_w, i32_w]
     rfl
    refine pure_ (i := 9) (N := some 35) (v := ?_) (a' := ?_) #[true, true, true, true, true, true, true, true, true, true, false, false, false] rfl rfl (by kernel_rfl) (fun _ _ _ h => h) (Or.inl ⟨by rfl, ?_⟩) ?_ ?_
    rotate_left
    ·intro w'
     go_simp
     with_reducible rfl
    rotate_left
    ·simp only [Act.put, List.setIfInBounds_toArray, List.set_cons_zero, List.set_cons_succ, i64_w, i32_w]
     rfl
    refine one_ (i := 10) (N := some 8) #[true, true, true, true, true, true, true, true, true, true, true, false, false] rfl rfl (by kernel_rfl) (by decide) (fun K hK => ?_)
    refine value_ (w1 := ?_) (v := ?_) (by rfl) rfl ?_ ?_
    rotate_left 2
    ·go_simp
     constructor
     ·rfl
     ·rfl
    have hb3 := below45 w3
    have hz8 := World.alloc_heap_new w3 (.cells #[.slice none 0 0, .bool false, .int .i64 0, .int .i64 0] 45)
    have hT8 := hsz
    generalize w3.heap.size = g8 at hz8 hT8 ⊢
    generalize w3.alloc (.cells #[.slice none 0 0, .bool false, .int .i64 0, .int .i64 0] 45) = w4 at hb3 hz8 ⊢
    replace hD3 := hD3.below hb3
    replace hR3 := hR3.below hb3
    replace hs3 := hs3.trans (Step.of_below (S := i.In) hb3) (fun _ h => h) (fun _ h => Or.inl h)
    replace hb6 := Stepb hb3 hb6
    replace hsz := Nat.le_trans hsz hb3.size
    refine hK.out _ _ ⟨pw_cell_below hb3 hHeld.1, pw_cell_below hb3 hHeld.2.1, pw_cell_below hb3 hHeld.2.2.1, pw_cell_below hb3 hHeld.2.2.2.1, pw_cell_below hb3 hHeld.2.2.2.2.1, pw_cell_below hb3 hHeld.2.2.2.2.2⟩ (fun hHeld => ?_)
    clear hK K
    refine norm_ (a' := ?_) ?_ ?_
    rotate_left
    ·show Act.put _ (some 8) _ = _
     simp only [Act.put, List.setIfInBounds_toArray, List.set_cons_zero, List.set_cons_succ, i64_w, i32_w]
     rfl
    exact norm_ (by first | (simp only [putAll, Act.put, List.setIfInBounds_toArray, List.set_cons_zero, List.set_cons_succ]; done) | (simp only [putAll, Act.put, List.setIfInBounds_toArray, List.set_cons_zero, List.set_cons_succ]; rfl)) (hCont (A3, c3, g8) _ ⟨hHeld, hD3, hR3, hs3, hb6, hsz, hz8, hT8⟩)
   ·skip
    refine value_ (w1 := ?_) (v := ?_) (by rfl) rfl ?_ ?_
    rotate_left 2
    ·go_simp
     constructor
     ·rfl
     ·rfl
    have hb3 := below45 w3
    have hz8 := World.alloc_heap_new w3 (.cells #[.slice none 0 0, .bool false, .int .i64 0, .int .i64 0] 45)
    have hT8 := hsz
    generalize w3.heap.size = g8 at hz8 hT8 ⊢
    generalize w3.alloc (.cells #[.slice none 0 0, .bool false, .int .i64 0, .int .i64 0] 45) = w4 at hb3 hz8 ⊢
    replace hD3 := hD3.below hb3
    replace hR3 := hR3.below hb3
    replace hs3 := hs3.trans (Step.of_below (S := i.In) hb3) (fun _ h => h) (fun _ h => Or.inl h)
    replace hb6 := Stepb hb3 hb6
    replace hsz := Nat.le_trans hsz hb3.size
    refine hK.out _ _ ⟨pw_cell_below hb3 hHeld.1, pw_cell_below hb3 hHeld.2.1, pw_cell_below hb3 hHeld.2.2.1, pw_cell_below hb3 hHeld.2.2.2.1, pw_cell_below hb3 hHeld.2.2.2.2.1, pw_cell_below hb3 hHeld.2.2.2.2.2⟩ (fun hHeld => ?_)
    clear hK K
    refine norm_ (a' := ?_) ?_ ?_
    rotate_left
    ·show Act.put _ (some 8) _ = _
     simp only [Act.put, List.setIfInBounds_toArray, List.set_cons_zero, List.set_cons_succ, i64_w, i32_w]
     rfl
    refine one_ (i := 6) (N := some 33) #[true, true, true, true, true, true, true, false, false, false, true, false, false] rfl rfl (by kernel_rfl) (by decide) (fun K hK => ?_)
    refine goes_ Try.func56 (by kernel_rfl) rfl #[.agg #[.slice Av xs.length cv, .bool off, .int .i64 fuse, .int .i64 nw], .int .i64 at_, .string (fillS c)] (by rfl) rfl rfl (by simp only [List.map_toArray, List.map_cons, List.map_nil]; rfl) ?_
    with_reducible refine (ref_WriteR hq _ _ hR3 hok).mono ?_
    rintro e w3 ⟨A3, c3, rfl, hR4, hb3⟩
    refine ⟨_, rfl, ?_⟩
    replace hD3 := hD3.below hb3
    replace hR3 := hR4
    replace hs3 := hs3.trans (Step.of_below (S := i.In) hb3) (fun _ h => h) (fun _ h => Or.inl h)
    replace hb6 := Stepb hb3 hb6
    replace hsz := Nat.le_trans hsz hb3.size
    replace hz8 := Stepb hb3 hz8
    refine hK.out _ _ ⟨pw_cell_below hb3 hHeld.1, pw_cell_below hb3 hHeld.2.1, pw_cell_below hb3 hHeld.2.2.1, pw_cell_below hb3 hHeld.2.2.2.1, pw_cell_below hb3 hHeld.2.2.2.2.1, pw_cell_below hb3 hHeld.2.2.2.2.2⟩ (fun hHeld => ?_)
    clear hK K
    refine norm_ (a' := ?_) ?_ ?_
    rotate_left
    ·show Act.put _ (some 33) _ = _
     simp only [Act.put, List.setIfInBounds_toArray, List.set_cons_zero, List.set_cons_succ, i64_w, i32_w]
     rfl
    refine pure_ (i := 7) (N := some 26) (v := ?_) (a' := ?_) #[true, true, true, true, true, true, true, true, false, false, true, false, false] rfl rfl (by kernel_rfl) (fun _ _ _ h => h) (Or.inl ⟨by rfl, ?_⟩) ?_ ?_
    rotate_left
    ·intro w'
     go_simp
     with_reducible rfl
    rotate_left
    ·simp only [Act.put, List.setIfInBounds_toArray, List.set_cons_zero, List.set_cons_succ, i64_w, i32_w]
     rfl
    refine pure_ (i := 8) (N := some 34) (v := ?_) (a' := ?_) #[true, true, true, true, true, true, true, true, true, false, true, false, false] rfl rfl (by kernel_rfl) (fun _ _ _ h => h) (Or.inl ⟨by rfl, ?_⟩) ?_ ?_
    rotate_left
    ·intro w'
     go_simp
     with_reducible rfl
    rotate_left
    ·simp only [Act.put, List.setIfInBounds_toArray, List.set_cons_zero, List.set_cons_succ, i64_w, i32_w]
     rfl
    refine pure_ (i := 9) (N := some 35) (v := ?_) (a' := ?_) #[true, true, true, true, true, true, true, true, true, true, true, false, false] rfl rfl (by kernel_rfl) (fun _ _ _ h => h) (Or.inl ⟨by rfl, ?_⟩) ?_ ?_
    rotate_left
    ·intro w'
     go_simp
     with_reducible rfl
    rotate_left
    ·simp only [Act.put, List.setIfInBounds_toArray, List.set_cons_zero, List.set_cons_succ, i64_w, i32_w]
     rfl
    exact norm_ (by first | (simp only [putAll, Act.put, List.setIfInBounds_toArray, List.set_cons_zero, List.set_cons_succ]; done) | (simp only [putAll, Act.put, List.setIfInBounds_toArray, List.set_cons_zero, List.set_cons_succ]; rfl)) (hCont (A3, c3, g8) _ ⟨hHeld, hD3, hR3, hs3, hb6, hsz, hz8, hT8⟩)
  ·skip
   refine value_ (w1 := ?_) (v := ?_) (by rfl) rfl ?_ ?_
   rotate_left 2
   ·go_simp
    constructor
    ·rfl
    ·rfl
   have hb3 := below45 w3
   have hz8 := World.alloc_heap_new w3 (.cells #[.slice none 0 0, .bool false, .int .i64 0, .int .i64 0] 45)
   have hT8 := hsz
   generalize w3.heap.size = g8 at hz8 hT8 ⊢
   generalize w3.alloc (.cells #[.slice none 0 0, .bool false, .int .i64 0, .int .i64 0] 45) = w4 at hb3 hz8 ⊢
   replace hD3 := hD3.below hb3
   replace hR3 := hR3.below hb3
   replace hs3 := hs3.trans (Step.of_below (S := i.In) hb3) (fun _ h => h) (fun _ h => Or.inl h)
   replace hb6 := Stepb hb3 hb6
   replace hsz := Nat.le_trans hsz hb3.size
   refine hK.out _ _ ⟨pw_cell_below hb3 hHeld.1, pw_cell_below hb3 hHeld.2.1, pw_cell_below hb3 hHeld.2.2.1, pw_cell_below hb3 hHeld.2.2.2.1, pw_cell_below hb3 hHeld.2.2.2.2.1, pw_cell_below hb3 hHeld.2.2.2.2.2⟩ (fun hHeld => ?_)
   clear hK K
   refine norm_ (a' := ?_) ?_ ?_
   rotate_left
   ·show Act.put _ (some 8) _ = _
    simp only [Act.put, List.setIfInBounds_toArray, List.set_cons_zero, List.set_cons_succ, i64_w, i32_w]
    rfl
   refine one_ (i := 5) (N := some 32) #[true, true, true, true, true, true, false, false, false, false, true, false, false] rfl rfl (by kernel_rfl) (by decide) (fun K hK => ?_)
   refine goes_ Try.func12 (by kernel_rfl) rfl #[.int .u8 c] (by rfl) rfl rfl (by simp only [List.map_toArray, List.map_cons, List.map_nil]; rfl) ?_
   with_reducible refine (fill_any _ c).mono ?_
   rintro e w3 ⟨rfl, hb3⟩
   refine ⟨_, rfl, ?_⟩
   replace hD3 := hD3.below hb3
   replace hR3 := hR3.below hb3
   replace hs3 := hs3.trans (Step.of_below (S := i.In) hb3) (fun _ h => h) (fun _ h => Or.inl h)
   replace hb6 := Stepb hb3 hb6
   replace hsz := Nat.le_trans hsz hb3.size
   replace hz8 := Stepb hb3 hz8
   refine hK.out _ _ ⟨pw_cell_below hb3 hHeld.1, pw_cell_below hb3 hHeld.2.1, pw_cell_below hb3 hHeld.2.2.1, pw_cell_below hb3 hHeld.2.2.2.1, pw_cell_below hb3 hHeld.2.2.2.2.1, pw_cell_below hb3 hHeld.2.2.2.2.2⟩ (fun hHeld => ?_)
   clear hK K
   refine norm_ (a' := ?_) ?_ ?_
   rotate_left
   ·show Act.put _ (some 32) _ = _
    simp only [Act.put, List.setIfInBounds_toArray, List.set_cons_zero, List.set_cons_succ, i64_w, i32_w]
    rfl
   refine one_ (i := 6) (N := some 33) #[true, true, true, true, true, true, true, false, false, false, true, false, false] rfl rfl (by kernel_rfl) (by decide) (fun K hK => ?_)
   refine goes_ Try.func56 (by kernel_rfl) rfl #[.agg #[.slice Av xs.length cv, .bool off, .int .i64 fuse, .int .i64 nw], .int .i64 at_, .string (fillS c)] (by rfl) rfl rfl (by simp only [List.map_toArray, List.map_cons, List.map_nil]; rfl) ?_
   with_reducible refine (ref_WriteR hq _ _ hR3 hok).mono ?_
   rintro e w3 ⟨A3, c3, rfl, hR4, hb3⟩
   refine ⟨_, rfl, ?_⟩
   replace hD3 := hD3.below hb3
   replace hR3 := hR4
   replace hs3 := hs3.trans (Step.of_below (S := i.In) hb3) (fun _ h => h) (fun _ h => Or.inl h)
   replace hb6 := Stepb hb3 hb6
   replace hsz := Nat.le_trans hsz hb3.size
   replace hz8 := Stepb hb3 hz8
   refine hK.out _ _ ⟨pw_cell_below hb3 hHeld.1, pw_cell_below hb3 hHeld.2.1, pw_cell_below hb3 hHeld.2.2.1, pw_cell_below hb3 hHeld.2.2.2.1, pw_cell_below hb3 hHeld.2.2.2.2.1, pw_cell_below hb3 hHeld.2.2.2.2.2⟩ (fun hHeld => ?_)
   clear hK K
   refine norm_ (a' := ?_) ?_ ?_
   rotate_left
   ·show Act.put _ (some 33) _ = _
    simp only [Act.put, List.setIfInBounds_toArray, List.set_cons_zero, List.set_cons_succ, i64_w, i32_w]
    rfl
   refine pure_ (i := 7) (N := some 26) (v := ?_) (a' := ?_) #[true, true, true, true, true, true, true, true, false, false, true, false, false] rfl rfl (by kernel_rfl) (fun _ _ _ h => h) (Or.inl ⟨by rfl, ?_⟩) ?_ ?_
   rotate_left
   ·intro w'
    go_simp
    with_reducible rfl
   rotate_left
   ·simp only [Act.put, List.setIfInBounds_toArray, List.set_cons_zero, List.set_cons_succ, i64_w, i32_w]
    rfl
   refine pure_ (i := 8) (N := some 34) (v := ?_) (a' := ?_) #[true, true, true, true, true, true, true, true, true, false, true, false, false] rfl rfl (by kernel_rfl) (fun _ _ _ h => h) (Or.inl ⟨by rfl, ?_⟩) ?_ ?_
   rotate_left
   ·intro w'
    go_simp
    with_reducible rfl
   rotate_left
   ·simp only [Act.put, List.setIfInBounds_toArray, List.set_cons_zero, List.set_cons_succ, i64_w, i32_w]
    rfl
   refine pure_ (i := 9) (N := some 35) (v := ?_) (a' := ?_) #[true, true, true, true, true, true, true, true, true, true, true, false, false] rfl rfl (by kernel_rfl) (fun _ _ _ h => h) (Or.inl ⟨by rfl, ?_⟩) ?_ ?_
   rotate_left
   ·intro w'
    go_simp
    with_reducible rfl
   rotate_left
   ·simp only [Act.put, List.setIfInBounds_toArray, List.set_cons_zero, List.set_cons_succ, i64_w, i32_w]
    rfl
   exact norm_ (by first | (simp only [putAll, Act.put, List.setIfInBounds_toArray, List.set_cons_zero, List.set_cons_succ]; done) | (simp only [putAll, Act.put, List.setIfInBounds_toArray, List.set_cons_zero, List.set_cons_succ]; rfl)) (hCont (A3, c3, g8) _ ⟨hHeld, hD3, hR3, hs3, hb6, hsz, hz8, hT8⟩)
 rintro ⟨A3, c3, g8⟩ w3 ⟨hHeld, hD3, hR3, hs3, hb6, hsz, hz8, hT8⟩
 dsimp only at hR3 hz8 hT8
 refine norm_ (a' := ?_) ?_ ?_
 rotate_left
 ·simp only [putAll, Act.put, List.setIfInBounds_toArray, List.set_cons_zero, List.set_cons_succ]
  rfl
 refine last_ (i := 11) (N := none) #[true, true, true, true, true, true, true, true, true, true, true, true, false] rfl rfl (by kernel_rfl) (by decide) (fun K hK => ?_)
 obtain ⟨⟨z0, z1, z2, z3⟩, q0, q1, q2, q3⟩ := blk4 hz8
 refine skip_ (w1 := ?_) (by rfl) rfl ?_ ?_
 rotate_left
 ·go_simp
  rfl
 refine hK.out _ _ ?_
 clear hK K
 refine pure_ (i := 12) (N := some 9) (v := ?_) (a' := ?_) #[true, true, true, true, true, true, true, true, true, true, true, true, true] rfl rfl (by kernel_rfl) (fun _ _ _ h => h) (Or.inl ⟨by rfl, ?_⟩) ?_ ?_
 rotate_left
 ·intro w'
  go_simp
  with_reducible rfl
 rotate_left
 ·simp only [Act.put, List.setIfInBounds_toArray, List.set_cons_zero, List.set_cons_succ, i64_w, i32_w]
  rfl
 refine done_ (by kernel_rfl) ?_
 have hst8 := step_put4 w3 g8 (.slice A3 xs.length c3) (.bool o3) (.int .i64 l3) (.int .i64 m3)
 have hz9 := put4 hz8 (.slice A3 xs.length c3) (.bool o3) (.int .i64 l3) (.int .i64 m3)
 have e1 := hst8.cell hHeld.2.2.2.2.1 (fun e => by simp at e; omega)
 have e2 := hst8.cell hHeld.2.2.2.2.2 (fun e => by simp at e; omega)
 replace hD3 := hD3.step hst8 (fun k hk e => by have := hilt k hk; omega)
 replace hR3 := ref_put4 hR3 hz8 (.slice A3 xs.length c3) (.bool o3) (.int .i64 l3) (.int .i64 m3)
 replace hs3 := hs3.trans hst8 (fun _ h => h) (fun k hk => Or.inr (by omega))
 replace hb6 := hst8.block hb6 (fun e => by omega)
 replace hsz := Nat.le_trans hsz hst8.size
 clear hHeld hz8 hst8
 go_wp2_with fail
 generalize ((((w3.setCell ⟨g8, 0, none⟩ (.slice A3 xs.length c3)).setCell ⟨g8, 1, none⟩ (.bool o3)).setCell ⟨g8, 2, none⟩ (.int .i64 l3)).setCell ⟨g8, 3, none⟩ (.int .i64 m3)) = W8 at hz9 e1 e2 hD3 hR3 hs3 hb6 hsz ⊢
 obtain ⟨⟨y0, y1, y2, y3⟩, _⟩ := blk4 hz9
 try simp only [List.append_eq, List.cons_append, List.nil_append]
 have hb3 := below_drew1 (Below.refl W8.heap.size W8)
 replace hD3 := hD3.below hb3
 replace hR3 := hR3.below hb3
 replace hs3 := hs3.trans (Step.of_below (S := i.In) hb3) (fun _ h => h) (fun _ h => Or.inl h)
 replace hb6 := Stepb hb3 hb6
 replace hsz := Nat.le_trans hsz hb3.size
 refine start_ (n := 12) (S := fun w' => w'.cell? ⟨g8, 0, none⟩ = some (.slice A3 xs.length c3) ∧ w'.cell? ⟨g8, 1, none⟩ = some (.bool o3) ∧ w'.cell? ⟨g8, 2, none⟩ = some (.int .i64 l3) ∧ w'.cell? ⟨g8, 3, none⟩ = some (.int .i64 m3) ∧ w'.cell? ⟨w.heap.size + 1, 1, none⟩ = some (.int .i64 at_) ∧ w'.cell? ⟨w.heap.size + 1, 2, none⟩ = some (.int .u8 c)) (ds := [10]) #[false, false, false, false, false, false, false, false, false, false, false, false] (by kernel_rfl) rfl rfl ⟨y0, y1, y2, y3, e1, e2⟩ (fun hHeld => ?_)
 refine pure_ (i := 1) (N := some 37) (v := ?_) (a' := ?_) #[false, true, false, false, false, false, false, false, false, false, false, false] rfl rfl (by kernel_rfl) (fun _ _ _ h => h) (Or.inl ⟨by rfl, ?_⟩) ?_ ?_
 rotate_left
 ·intro w'
  go_simp
  with_reducible rfl
 rotate_left
 ·simp only [Act.put, List.setIfInBounds_toArray, List.set_cons_zero, List.set_cons_succ, i64_w, i32_w]
  rfl
 refine pure_ (i := 2) (N := some 38) (v := ?_) (a' := ?_) #[false, true, true, false, false, false, false, false, false, false, false, false] rfl rfl (by kernel_rfl) (fun _ _ _ h => h) (Or.inl ⟨by rfl, ?_⟩) ?_ ?_
 rotate_left
 ·intro w'
  go_simp
  with_reducible rfl
 rotate_left
 ·simp only [Act.put, List.setIfInBounds_toArray, List.set_cons_zero, List.set_cons_succ, i64_w, i32_w]
  rfl
 refine pure_ (i := 4) (N := some 40) (v := ?_) (a' := ?_) #[false, true, true, false, true, false, false, false, false, false, false, false] rfl rfl (by kernel_rfl) (fun _ _ _ h => h) (Or.inl ⟨by rfl, ?_⟩) ?_ ?_
 rotate_left
 ·intro w'
  go_simp
  with_reducible rfl
 rotate_left
 ·simp only [Act.put, List.setIfInBounds_toArray, List.set_cons_zero, List.set_cons_succ, i64_w, i32_w]
  rfl
 refine pure_ (i := 8) (N := some 44) (v := ?_) (a' := ?_) #[false, true, true, false, true, false, false, false, true, false, false, false] rfl rfl (by kernel_rfl) (fun _ _ _ h => h) (Or.inl ⟨by rfl, ?_⟩) ?_ ?_
 rotate_left
 ·intro w'
  go_simp
  with_reducible rfl
 rotate_left
 ·simp only [Act.put, List.setIfInBounds_toArray, List.set_cons_zero, List.set_cons_succ, i64_w, i32_w]
  rfl
 refine take_ (i := 0) (N := some 36) (v := ?_) (a' := ?_) #[true, true, true, false, true, false, false, false, true, false, false, false] rfl rfl (by kernel_rfl) (fun _ _ _ h => h) (Or.inl ⟨by rfl, ?_⟩) hHeld ?_ ?_
 rotate_left
 ·rintro w' ⟨s0, s1, s2, s3, s4, s5⟩
  go_simp
  with_reducible rfl
 rotate_left
 ·simp only [Act.put, List.setIfInBounds_toArray, List.set_cons_zero, List.set_cons_succ, i64_w, i32_w]
  rfl
 refine take_ (i := 3) (N := some 39) (v := ?_) (a' := ?_) #[true, true, true, true, true, false, false, false, true, false, false, false] rfl rfl (by kernel_rfl) (fun _ _ _ h => h) (Or.inl ⟨by rfl, ?_⟩) hHeld ?_ ?_
 rotate_left
 ·rintro w' ⟨s0, s1, s2, s3, s4, s5⟩
  go_simp
  with_reducible rfl
 rotate_left
 ·simp only [Act.put, List.setIfInBounds_toArray, List.set_cons_zero, List.set_cons_succ, i64_w, i32_w]
  rfl
 refine take_ (i := 5) (N := some 41) (v := ?_) (a' := ?_) #[true, true, true, true, true, true, false, false, true, false, false, false] rfl rfl (by kernel_rfl) (fun _ _ _ h => h) (Or.inl ⟨by rfl, ?_⟩) hHeld ?_ ?_
 rotate_left
 ·rintro w' ⟨s0, s1, s2, s3, s4, s5⟩
  go_simp
  with_reducible rfl
 rotate_left
 ·simp only [Act.put, List.setIfInBounds_toArray, List.set_cons_zero, List.set_cons_succ, i64_w, i32_w]
  rfl
 refine one_ (i := 6) (N := some 42) #[true, true, true, true, true, true, true, false, true, false, false, false] rfl rfl (by kernel_rfl) (by decide) (fun K hK => ?_)
 refine goes_ Try.func12 (by kernel_rfl) rfl #[.int .u8 c] (by rfl) rfl rfl (by simp only [List.map_toArray, List.map_cons, List.map_nil]; rfl) ?_
 with_reducible refine (fill_any _ c).mono ?_
 rintro e w3 ⟨rfl, hb3⟩
 refine ⟨_, rfl, ?_⟩
 replace hD3 := hD3.below hb3
 replace hR3 := hR3.below hb3
 replace hs3 := hs3.trans (Step.of_below (S := i.In) hb3) (fun _ h => h) (fun _ h => Or.inl h)
 replace hb6 := Stepb hb3 hb6
 replace hsz := Nat.le_trans hsz hb3.size
 refine hK.out _ _ ⟨pw_cell_below hb3 hHeld.1, pw_cell_below hb3 hHeld.2.1, pw_cell_below hb3 hHeld.2.2.1, pw_cell_below hb3 hHeld.2.2.2.1, pw_cell_below hb3 hHeld.2.2.2.2.1, pw_cell_below hb3 hHeld.2.2.2.2.2⟩ (fun hHeld => ?_)
 clear hK K
 refine norm_ (a' := ?_) ?_ ?_
 rotate_left
 ·show Act.put _ (some 42) _ = _
  simp only [Act.put, List.setIfInBounds_toArray, List.set_cons_zero, List.set_cons_succ, i64_w, i32_w]
  rfl
 refine one_ (i := 7) (N := some 43) #[true, true, true, true, true, true, true, true, true, false, false, false] rfl rfl (by kernel_rfl) (by decide) (fun K hK => ?_)
 refine goes_ Try.func11 (by kernel_rfl) rfl #[.pointer (some ⟨i.d, 0, none⟩), .int .i64 at_, .string (fillS c)] (by rfl) rfl rfl (by simp only [List.map_toArray, List.map_cons, List.map_nil]; rfl) ?_
 with_reducible refine (dev_WriteR hq _ i hD3).mono ?_
 rintro e w3 ⟨rfl, hD4, hs4⟩
 refine ⟨_, rfl, ?_⟩
 have hs4 := hs4
 replace hR3 := hR3.step hs4 (ref_dev hR3 hD3)
 replace hD3 := hD4
 replace hs3 := hs3.trans hs4 (fun _ h => h) (fun _ h => Or.inl h)
 replace hb6 := hs4.block hb6 (fun h => by have := hilt _ h; omega)
 replace hsz := Nat.le_trans hsz hs4.size
 refine hK.out _ _ ⟨hs4.cell hHeld.1 (fun h => by have h9 := hilt _ h; dsimp only at h9; omega), hs4.cell hHeld.2.1 (fun h => by have h9 := hilt _ h; dsimp only at h9; omega), hs4.cell hHeld.2.2.1 (fun h => by have h9 := hilt _ h; dsimp only at h9; omega), hs4.cell hHeld.2.2.2.1 (fun h => by have h9 := hilt _ h; dsimp only at h9; omega), hs4.cell hHeld.2.2.2.2.1 (fun h => by have h9 := hilt _ h; dsimp only at h9; omega), hs4.cell hHeld.2.2.2.2.2 (fun h => by have h9 := hilt _ h; dsimp only at h9; omega)⟩ (fun hHeld => ?_)
 clear hK K
 refine norm_ (a' := ?_) ?_ ?_
 rotate_left
 ·show Act.put _ (some 43) _ = _
  simp only [Act.put, List.setIfInBounds_toArray, List.set_cons_zero, List.set_cons_succ, i64_w, i32_w]
  rfl
 refine pure_ (i := 9) (N := some 45) (v := ?_) (a' := ?_) #[true, true, true, true, true, true, true, true, true, true, false, false] rfl rfl (by kernel_rfl) (fun _ _ _ h => h) (Or.inl ⟨by rfl, ?_⟩) ?_ ?_
 rotate_left
 ·intro w'
  go_simp
  with_reducible rfl
 rotate_left
 ·simp only [Act.put, List.setIfInBounds_toArray, List.set_cons_zero, List.set_cons_succ, i64_w, i32_w]
  rfl
 refine last_ (i := 10) (N := none) #[true, true, true, true, true, true, true, true, true, true, true, false] rfl rfl (by kernel_rfl) (by decide) (fun K hK => ?_)
 obtain ⟨⟨z0, z1, z2, z3⟩, q0, q1, q2, q3⟩ := blk4 hb6
 refine skip_ (w1 := ?_) (by rfl) rfl ?_ ?_
 rotate_left
 ·go_simp
  rfl
 refine hK.out _ _ ?_
 clear hK K
 refine pure_ (i := 11) (N := some 7) (v := ?_) (a' := ?_) #[true, true, true, true, true, true, true, true, true, true, true, true] rfl rfl (by kernel_rfl) (fun _ _ _ h => h) (Or.inl ⟨by rfl, ?_⟩) ?_ ?_
 rotate_left
 ·intro w'
  go_simp
  with_reducible rfl
 rotate_left
 ·simp only [Act.put, List.setIfInBounds_toArray, List.set_cons_zero, List.set_cons_succ, i64_w, i32_w]
  rfl
 refine done_ (by kernel_rfl) ?_
 clear hHeld
 have hst9 := step_put4 w3 (w.heap.size + 1 + 1) (.slice A3 xs.length c3) (.bool o3) (.int .i64 l3) (.int .i64 m3)
 have hz9 := put4 hb6 (.slice A3 xs.length c3) (.bool o3) (.int .i64 l3) (.int .i64 m3)
 have hD9 := hD3.step hst9 (fun k hk e => by have := hilt k hk; omega)
 have hR9 := ref_put4 hR3 hb6 (.slice A3 xs.length c3) (.bool o3) (.int .i64 l3) (.int .i64 m3)
 have hs9 : Step i.In w _ := hs3.trans hst9 (fun _ h => h) (fun k hk => Or.inr (by omega))
 go_wp2
 refine bodyPost_ret (results_ct rfl _ _ (w.heap.size + 1 + 1) 45 _ (0, 0) _ rfl hz9 Try.underlying45 rfl (by kernel_rfl)) rfl ?_
 exact ⟨_, _, _, _, _, _, _, rfl, hD9, hR9, rfl, hs9⟩
theorem ref_FlushR {xs : List ByteArray} {F : FL} {B : BL} {off : Bool} {left nw : Int} {xs3 : List ByteArray} {F3 : FL} {B3 : BL} {o3 : Bool} {l3 why : Int} (hq : flushP xs F B off left = (xs3, F3, B3, o3, l3, why)) (hl : xs3.length = xs.length) (w : World) (v : Value) (h : RefAt w v xs F B) (hok : DevOk xs F B left) :
  Calls Try.prog 57 #[.agg #[v, .bool off, .int .i64 left, .int .i64 nw]] w fun e w' => ∃ A3 c3, e = .returned (.tuple #[.agg #[.slice A3 xs.length c3, .bool o3, .int .i64 l3, .int .i64 nw], .int .i64 why]) ∧ RefAt w' (.slice A3 xs.length c3) xs3 F3 B3 ∧ Below w.heap.size w w' := by
 refine (ref_Flush w v xs F B off left nw h hok).mono ?_
 rintro e w' ⟨v', x1, x2, x3, x4, x5, x6, hq', rfl, hR, hb⟩
 rw [hq] at hq'
 simp only [Prod.mk.injEq] at hq'
 obtain ⟨rfl, rfl, rfl, rfl, rfl, rfl⟩ := hq'
 obtain ⟨A, c, rfl, _⟩ := hR.reads
 rw [hl] at hR ⊢
 exact ⟨A, c, rfl, hR, hb⟩
theorem dev_FlushR {xs : List ByteArray} {F : FL} {B : BL} {off : Bool} {fuse nw : Int} {xs3 : List ByteArray} {F3 : FL} {B3 : BL} {o3 : Bool} {l3 why : Int} (hq : flushP xs F B off fuse = (xs3, F3, B3, o3, l3, why)) (w : World) (i : DevIds) (h : DevAt w i xs F B off fuse nw) :
  Calls Try.prog 13 #[.pointer (some ⟨i.d, 0, none⟩)] w fun e w' => e = .returned (.int .i64 why) ∧ DevAt w' i xs3 F3 B3 o3 l3 nw ∧ Step i.In w w' := by
 refine (dev_Flush_any w i xs F B off fuse nw h).mono ?_
 rintro e w' ⟨x1, x2, x3, x4, x5, x6, hq', rfl, hD, hs⟩
 rw [hq] at hq'
 simp only [Prod.mk.injEq] at hq'
 obtain ⟨rfl, rfl, rfl, rfl, rfl, rfl⟩ := hq'
 exact ⟨rfl, hD, hs⟩
theorem flushP_len {xs : List ByteArray} {F : FL} {B : BL} {off : Bool} {left : Int} {xs3 : List ByteArray} {F3 : FL} {B3 : BL} {o3 : Bool} {l3 why : Int} (hq : flushP xs F B off left = (xs3, F3, B3, o3, l3, why)) : xs3.length = xs.length := by
 unfold flushP at hq
 split at hq
 ·simp only [Prod.mk.injEq] at hq; rw [← hq.1]
 ·split at hq
  ·simp only [Prod.mk.injEq] at hq; rw [← hq.1]
  ·simp only [Prod.mk.injEq] at hq; rw [← hq.1, landXs_len]
theorem ref_EraseR {xs : List ByteArray} {F : FL} {B : BL} {off : Bool} {left nw at_ : Int} {B3 : BL} {why : Int} (hq : eraseP xs.length B at_ = (B3, why)) (w : World) (v : Value) (h : RefAt w v xs F B) (hok : DevOk xs F B left) :
  Calls Try.prog 60 #[.agg #[v, .bool off, .int .i64 left, .int .i64 nw], .int .i64 at_] w fun e w' => ∃ A3 c3, e = .returned (.tuple #[.agg #[.slice A3 xs.length c3, .bool off, .int .i64 left, .int .i64 nw], .int .i64 why]) ∧ RefAt w' (.slice A3 xs.length c3) xs F B3 ∧ Below w.heap.size w w' := by
 refine (ref_Erase w v xs F B off left nw at_ h hok).mono ?_
 rw [hq]
 rintro e w' ⟨v', rfl, hR, hb⟩
 obtain ⟨A, c, rfl, _⟩ := hR.reads
 exact ⟨A, c, rfl, hR, hb⟩
theorem dev_EraseR {xs : List ByteArray} {F : FL} {B : BL} {off : Bool} {fuse nw at_ : Int} {B3 : BL} {why : Int} (hq : eraseP xs.length B at_ = (B3, why)) (w : World) (i : DevIds) (h : DevAt w i xs F B off fuse nw) :
  Calls Try.prog 30 #[.pointer (some ⟨i.d, 0, none⟩), .int .i64 at_] w fun e w' => e = .returned (.int .i64 why) ∧ DevAt w' i xs F B3 off fuse nw ∧ Step i.In w w' := by
 have := dev_Erase_any w i xs F B off fuse nw at_ h
 rw [hq] at this
 exact this
def garbP (xs : List ByteArray) (at_ o b : Int) : List ByteArray × Int := if (0 ≤ at_ ∧ at_ < xs.length) ∧ 0 ≤ o ∧ o ≤ 508 then (xs.set at_.toNat (strOfNums (grb (bytesOf (xs.getD at_.toNat ⟨#[]⟩)) o.toNat b 4)), 0) else (xs, 1)
theorem garbP_len {xs : List ByteArray} {at_ o b : Int} {xs3 : List ByteArray} {why : Int} (hq : garbP xs at_ o b = (xs3, why)) : xs3.length = xs.length := by
 unfold garbP at hq
 split at hq
 ·simp only [Prod.mk.injEq] at hq; rw [← hq.1, List.length_set]
 ·simp only [Prod.mk.injEq] at hq; rw [← hq.1]
theorem ref_GarbleR {xs : List ByteArray} {F : FL} {B : BL} {off : Bool} {left nw at_ o b : Int} {xs3 : List ByteArray} {why : Int} (hq : garbP xs at_ o b = (xs3, why)) (hb0 : 0 ≤ b) (hb1 : b < 4294967296) (w : World) (v : Value) (h : RefAt w v xs F B) (hok : DevOk xs F B left) :
  Calls Try.prog 61 #[.agg #[v, .bool off, .int .i64 left, .int .i64 nw], .int .i64 at_, .int .i64 o, .int .u32 b] w fun e w' => ∃ A3 c3, e = .returned (.tuple #[.agg #[.slice A3 xs.length c3, .bool off, .int .i64 left, .int .i64 nw], .int .i64 why]) ∧ RefAt w' (.slice A3 xs.length c3) xs3 F B ∧ Below w.heap.size w w' := by
 have hl := garbP_len hq
 by_cases hc : (0 ≤ at_ ∧ at_ < xs.length) ∧ 0 ≤ o ∧ o ≤ 508
 ·refine (ref_Garble w v xs F B off left nw at_ o b h hok hc.1.1 hc.1.2 hc.2.1 hc.2.2 hb0 hb1).mono ?_
  unfold garbP at hq
  rw [if_pos hc] at hq
  simp only [Prod.mk.injEq] at hq
  obtain ⟨rfl, rfl⟩ := hq
  rintro e w' ⟨v', rfl, hR, hb⟩
  obtain ⟨A, c, rfl, _⟩ := hR.reads
  rw [hl] at hR ⊢
  exact ⟨A, c, rfl, hR, hb⟩
 ·refine (ref_Garble_no w v xs F B off left nw at_ o b h hc).mono ?_
  unfold garbP at hq
  rw [if_neg hc] at hq
  simp only [Prod.mk.injEq] at hq
  obtain ⟨rfl, rfl⟩ := hq
  rintro e w' ⟨v', rfl, hR, hb⟩
  obtain ⟨A, c, rfl, _⟩ := hR.reads
  exact ⟨A, c, rfl, hR, hb⟩
theorem dev_GarbleR {xs : List ByteArray} {F : FL} {B : BL} {off : Bool} {fuse nw at_ o b : Int} {xs3 : List ByteArray} {why : Int} (hq : garbP xs at_ o b = (xs3, why)) (hb0 : 0 ≤ b) (hb1 : b < 4294967296) (w : World) (i : DevIds) (h : DevAt w i xs F B off fuse nw) :
  Calls Try.prog 48 #[.pointer (some ⟨i.d, 0, none⟩), .int .i64 at_, .int .i64 o, .int .u32 b] w fun e w' => e = .returned (.int .i64 why) ∧ DevAt w' i xs3 F B off fuse nw ∧ Step i.In w w' := by
 by_cases hc : (0 ≤ at_ ∧ at_ < xs.length) ∧ 0 ≤ o ∧ o ≤ 508
 ·unfold garbP at hq
  rw [if_pos hc] at hq
  simp only [Prod.mk.injEq] at hq
  obtain ⟨rfl, rfl⟩ := hq
  exact dev_Garble_any w i xs F B off fuse nw at_ o b h hc.1.1 hc.1.2 hc.2.1 hc.2.2 hb0 hb1
 ·unfold garbP at hq
  rw [if_neg hc] at hq
  simp only [Prod.mk.injEq] at hq
  obtain ⟨rfl, rfl⟩ := hq
  refine (dev_Garble_no w i xs F B off fuse nw at_ o b h hc).mono ?_
  rintro e w' ⟨rfl, rfl⟩
  exact ⟨rfl, h, Step.refl _ _⟩
set_option maxRecDepth 100000 in
set_option maxHeartbeats 8000000 in
theorem does_1 (w : World) (i : DevIds) (v : Value) (xs : List ByteArray) (F : FL) (B : BL) (off : Bool) (fuse nw : Int) (kd at_ c n by_ : Int) (Ak : Option Addr) (ck : Nat) (keep : List Bool) (hD : DevAt w i xs F B off fuse nw) (hR : RefAt w v xs F B) (hkd : kd = 1) :
  Calls Try.prog 18 #[.pointer (some ⟨i.d, 0, none⟩), .agg #[v, .bool off, .int .i64 fuse, .int .i64 nw], .agg #[.int .i64 kd, .int .i64 at_, .int .u8 c, .slice Ak keep.length ck, .int .i64 n, .int .u32 by_]] w fun e w' => ∃ v' xs' F' B' off' fuse' nw', e = .returned (.tuple #[.agg #[v', .bool off', .int .i64 fuse', .int .i64 nw'], .bool true]) ∧
   DevAt w' i xs' F' B' off' fuse' nw' ∧ RefAt w' v' xs' F' B' ∧ xs'.length = xs.length ∧ Step i.In w w' := by
 subst hkd
 obtain ⟨Av, cv, rfl, _⟩ := hR.reads
 have hilt := hD.lt
 have hok := hD.ok
 have hb1 := Below.refl w.heap.size w
 have hx := does_start w (.cells #[.slice Av xs.length cv, .bool off, .int .i64 fuse, .int .i64 nw] 45) (.cells #[.int .i64 1, .int .i64 at_, .int .u8 c, .slice Ak keep.length ck, .int .i64 n, .int .u32 by_] 32) (.cells #[.slice none 0 0, .bool false, .int .i64 0, .int .i64 0] 45)
 go_enter Try.func18, Try.ntmps18
 go_upto_region 1 with (fail)
 obtain ⟨hbl, hb4, hb5, hb6, hsz⟩ := hx
 generalize ((w.alloc (.cells #[.slice Av xs.length cv, .bool off, .int .i64 fuse, .int .i64 nw] 45)).alloc (.cells #[.int .i64 1, .int .i64 at_, .int .u8 c, .slice Ak keep.length ck, .int .i64 n, .int .u32 by_] 32)).alloc (.cells #[.slice none 0 0, .bool false, .int .i64 0, .int .i64 0] 45) = W at hbl hb4 hb5 hb6 hsz ⊢
 have hD3 := hD.below hbl
 have hR3 := hR.below hbl
 have hs3 : Step i.In w W := Step.of_below hbl
 obtain ⟨⟨b40, b41, b42, b43⟩, _⟩ := blk4 hb4
 obtain ⟨a0, a1, a2, a3, a4, a5⟩ := blk6 hb5
 clear hb4 hb1 hbl hR hD a2 a3 a4 a5
 obtain ⟨xs3, F3, B3, o3, l3, why, hq⟩ : ∃ xs3 F3 B3 o3 l3 why, flushP xs F B off fuse = (xs3, F3, B3, o3, l3, why) := ⟨_, _, _, _, _, _, rfl⟩
 go_wp2_with (go_at_call 57; refine (ref_FlushR hq (flushP_len hq) _ _ hR3 hok).mono ?_)
 rintro e w3 ⟨A3, c3, rfl, hR4, hb3⟩
 replace hD3 := hD3.below hb3
 replace hR3 := hR4
 replace hs3 := hs3.trans (Step.of_below (S := i.In) hb3) (fun _ h => h) (fun _ h => Or.inl h)
 replace hb6 := Stepb hb3 hb6
 replace hsz := Nat.le_trans hsz hb3.size
 clear hR4 hb3 b40 b41 b42 b43 a1
 go_wp2_with fail
 have hb3 : Below w3.heap.size w3 (w3.alloc (.cells #[.slice A3 xs.length c3, .bool o3, .int .i64 l3, .int .i64 nw] 45)) := (Below.refl _ _).alloc (Nat.le_refl _) _
 have hz9 := World.alloc_heap_new w3 (.cells #[.slice A3 xs.length c3, .bool o3, .int .i64 l3, .int .i64 nw] 45)
 have hT8 := hsz
 generalize w3.heap.size = g8 at hz9 hT8 ⊢
 generalize w3.alloc (.cells #[.slice A3 xs.length c3, .bool o3, .int .i64 l3, .int .i64 nw] 45) = W8 at hb3 hz9  ⊢
 replace hD3 := hD3.below hb3
 replace hR3 := hR3.below hb3
 replace hs3 := hs3.trans (Step.of_below (S := i.In) hb3) (fun _ h => h) (fun _ h => Or.inl h)
 replace hb6 := Stepb hb3 hb6
 replace hsz := Nat.le_trans hsz hb3.size
 obtain ⟨⟨y0, y1, y2, y3⟩, _⟩ := blk4 hz9
 clear hb3
 try simp only [List.append_eq, List.cons_append, List.nil_append]
 have hb3 := below_drew1 (Below.refl W8.heap.size W8)
 replace hD3 := hD3.below hb3
 replace hR3 := hR3.below hb3
 replace hs3 := hs3.trans (Step.of_below (S := i.In) hb3) (fun _ h => h) (fun _ h => Or.inl h)
 replace hb6 := Stepb hb3 hb6
 replace hsz := Nat.le_trans hsz hb3.size
 refine start_ (n := 7) (S := fun w' => w'.cell? ⟨g8, 0, none⟩ = some (.slice A3 xs.length c3) ∧ w'.cell? ⟨g8, 1, none⟩ = some (.bool o3) ∧ w'.cell? ⟨g8, 2, none⟩ = some (.int .i64 l3) ∧ w'.cell? ⟨g8, 3, none⟩ = some (.int .i64 nw)) (ds := [5]) #[false, false, false, false, false, false, false] (by kernel_rfl) rfl rfl ⟨y0, y1, y2, y3⟩ (fun hHeld => ?_)
 refine pure_ (i := 1) (N := some 54) (v := ?_) (a' := ?_) #[false, true, false, false, false, false, false] rfl rfl (by kernel_rfl) (fun _ _ _ h => h) (Or.inl ⟨by rfl, ?_⟩) ?_ ?_
 rotate_left
 ·intro w'
  go_simp
  with_reducible rfl
 rotate_left
 ·simp only [Act.put, List.setIfInBounds_toArray, List.set_cons_zero, List.set_cons_succ, i64_w, i32_w]
  rfl
 refine pure_ (i := 3) (N := some 56) (v := ?_) (a' := ?_) #[false, true, false, true, false, false, false] rfl rfl (by kernel_rfl) (fun _ _ _ h => h) (Or.inl ⟨by rfl, ?_⟩) ?_ ?_
 rotate_left
 ·intro w'
  go_simp
  with_reducible rfl
 rotate_left
 ·simp only [Act.put, List.setIfInBounds_toArray, List.set_cons_zero, List.set_cons_succ, i64_w, i32_w]
  rfl
 refine take_ (i := 0) (N := some 53) (v := ?_) (a' := ?_) #[true, true, false, true, false, false, false] rfl rfl (by kernel_rfl) (fun _ _ _ h => h) (Or.inl ⟨by rfl, ?_⟩) hHeld ?_ ?_
 rotate_left
 ·rintro w' ⟨s0, s1, s2, s3⟩
  go_simp
  with_reducible rfl
 rotate_left
 ·simp only [Act.put, List.setIfInBounds_toArray, List.set_cons_zero, List.set_cons_succ, i64_w, i32_w]
  rfl
 refine one_ (i := 2) (N := some 55) #[true, true, true, true, false, false, false] rfl rfl (by kernel_rfl) (by decide) (fun K hK => ?_)
 refine goes_ Try.func13 (by kernel_rfl) rfl #[.pointer (some ⟨i.d, 0, none⟩)] (by rfl) rfl rfl (by simp only [List.map_toArray, List.map_cons, List.map_nil]; rfl) ?_
 with_reducible refine (dev_FlushR hq _ i hD3).mono ?_
 rintro e w3 ⟨rfl, hD4, hs4⟩
 refine ⟨_, rfl, ?_⟩
 have hs4 := hs4
 replace hR3 := hR3.step hs4 (ref_dev hR3 hD3)
 replace hD3 := hD4
 replace hs3 := hs3.trans hs4 (fun _ h => h) (fun _ h => Or.inl h)
 replace hb6 := hs4.block hb6 (fun h => by have := hilt _ h; omega)
 replace hsz := Nat.le_trans hsz hs4.size
 refine hK.out _ _ ⟨hs4.cell hHeld.1 (fun h => by have h9 := hilt _ h; dsimp only at h9; omega), hs4.cell hHeld.2.1 (fun h => by have h9 := hilt _ h; dsimp only at h9; omega), hs4.cell hHeld.2.2.1 (fun h => by have h9 := hilt _ h; dsimp only at h9; omega), hs4.cell hHeld.2.2.2 (fun h => by have h9 := hilt _ h; dsimp only at h9; omega)⟩ (fun hHeld => ?_)
 clear hK K
 refine norm_ (a' := ?_) ?_ ?_
 rotate_left
 ·show Act.put _ (some 55) _ = _
  simp only [Act.put, List.setIfInBounds_toArray, List.set_cons_zero, List.set_cons_succ, i64_w, i32_w]
  rfl
 refine pure_ (i := 4) (N := some 57) (v := ?_) (a' := ?_) #[true, true, true, true, true, false, false] rfl rfl (by kernel_rfl) (fun _ _ _ h => h) (Or.inl ⟨by rfl, ?_⟩) ?_ ?_
 rotate_left
 ·intro w'
  go_simp
  with_reducible rfl
 rotate_left
 ·simp only [Act.put, List.setIfInBounds_toArray, List.set_cons_zero, List.set_cons_succ, i64_w, i32_w]
  rfl
 refine last_ (i := 5) (N := none) #[true, true, true, true, true, true, false] rfl rfl (by kernel_rfl) (by decide) (fun K hK => ?_)
 obtain ⟨⟨z0, z1, z2, z3⟩, q0, q1, q2, q3⟩ := blk4 hb6
 refine skip_ (w1 := ?_) (by rfl) rfl ?_ ?_
 rotate_left
 ·go_simp
  rfl
 refine hK.out _ _ ?_
 clear hK K
 refine pure_ (i := 6) (N := some 7) (v := ?_) (a' := ?_) #[true, true, true, true, true, true, true] rfl rfl (by kernel_rfl) (fun _ _ _ h => h) (Or.inl ⟨by rfl, ?_⟩) ?_ ?_
 rotate_left
 ·intro w'
  go_simp
  with_reducible rfl
 rotate_left
 ·simp only [Act.put, List.setIfInBounds_toArray, List.set_cons_zero, List.set_cons_succ, i64_w, i32_w]
  rfl
 refine done_ (by kernel_rfl) ?_
 clear hHeld
 have hst9 := step_put4 w3 (w.heap.size + 1 + 1) (.slice A3 xs.length c3) (.bool o3) (.int .i64 l3) (.int .i64 nw)
 have hz9 := put4 hb6 (.slice A3 xs.length c3) (.bool o3) (.int .i64 l3) (.int .i64 nw)
 have hD9 := hD3.step hst9 (fun k hk e => by have := hilt k hk; omega)
 have hR9 := ref_put4 hR3 hb6 (.slice A3 xs.length c3) (.bool o3) (.int .i64 l3) (.int .i64 nw)
 have hs9 : Step i.In w _ := hs3.trans hst9 (fun _ h => h) (fun k hk => Or.inr (by omega))
 go_wp2
 refine bodyPost_ret (results_ct rfl _ _ (w.heap.size + 1 + 1) 45 _ (0, 0) _ rfl hz9 Try.underlying45 rfl (by kernel_rfl)) rfl ?_
 exact ⟨_, _, _, _, _, _, _, rfl, hD9, hR9, flushP_len hq, hs9⟩
set_option maxRecDepth 100000 in
set_option maxHeartbeats 8000000 in
theorem does_4 (w : World) (i : DevIds) (v : Value) (xs : List ByteArray) (F : FL) (B : BL) (off : Bool) (fuse nw : Int) (kd at_ c n by_ : Int) (Ak : Option Addr) (ck : Nat) (keep : List Bool) (hD : DevAt w i xs F B off fuse nw) (hR : RefAt w v xs F B) (hkd : kd = 4) :
  Calls Try.prog 18 #[.pointer (some ⟨i.d, 0, none⟩), .agg #[v, .bool off, .int .i64 fuse, .int .i64 nw], .agg #[.int .i64 kd, .int .i64 at_, .int .u8 c, .slice Ak keep.length ck, .int .i64 n, .int .u32 by_]] w fun e w' => ∃ v' xs' F' B' off' fuse' nw', e = .returned (.tuple #[.agg #[v', .bool off', .int .i64 fuse', .int .i64 nw'], .bool true]) ∧
   DevAt w' i xs' F' B' off' fuse' nw' ∧ RefAt w' v' xs' F' B' ∧ xs'.length = xs.length ∧ Step i.In w w' := by
 subst hkd
 obtain ⟨Av, cv, rfl, _⟩ := hR.reads
 have hilt := hD.lt
 have hok := hD.ok
 have hb1 := Below.refl w.heap.size w
 have hx := does_start w (.cells #[.slice Av xs.length cv, .bool off, .int .i64 fuse, .int .i64 nw] 45) (.cells #[.int .i64 4, .int .i64 at_, .int .u8 c, .slice Ak keep.length ck, .int .i64 n, .int .u32 by_] 32) (.cells #[.slice none 0 0, .bool false, .int .i64 0, .int .i64 0] 45)
 go_enter Try.func18, Try.ntmps18
 go_upto_region 1 with (fail)
 obtain ⟨hbl, hb4, hb5, hb6, hsz⟩ := hx
 generalize ((w.alloc (.cells #[.slice Av xs.length cv, .bool off, .int .i64 fuse, .int .i64 nw] 45)).alloc (.cells #[.int .i64 4, .int .i64 at_, .int .u8 c, .slice Ak keep.length ck, .int .i64 n, .int .u32 by_] 32)).alloc (.cells #[.slice none 0 0, .bool false, .int .i64 0, .int .i64 0] 45) = W at hbl hb4 hb5 hb6 hsz ⊢
 have hD3 := hD.below hbl
 have hR3 := hR.below hbl
 have hs3 : Step i.In w W := Step.of_below hbl
 obtain ⟨⟨b40, b41, b42, b43⟩, _⟩ := blk4 hb4
 obtain ⟨a0, a1, a2, a3, a4, a5⟩ := blk6 hb5
 clear hb4 hb1 hbl hR hD a2 a3 a4 a5
 obtain ⟨B3, why, hq⟩ : ∃ B3 why, eraseP xs.length B at_ = (B3, why) := ⟨_, _, rfl⟩
 go_wp2_with (go_at_call 60; refine (ref_EraseR hq _ _ hR3 hok).mono ?_)
 rintro e w3 ⟨A3, c3, rfl, hR4, hb3⟩
 replace hD3 := hD3.below hb3
 replace hR3 := hR4
 replace hs3 := hs3.trans (Step.of_below (S := i.In) hb3) (fun _ h => h) (fun _ h => Or.inl h)
 replace hb6 := Stepb hb3 hb6
 replace hsz := Nat.le_trans hsz hb3.size
 have e0 := pw_cell_below hb3 a1
 clear hR4 hb3 b40 b41 b42 b43 a1
 go_wp2_with fail
 have hb3 : Below w3.heap.size w3 (w3.alloc (.cells #[.slice A3 xs.length c3, .bool off, .int .i64 fuse, .int .i64 nw] 45)) := (Below.refl _ _).alloc (Nat.le_refl _) _
 have hz9 := World.alloc_heap_new w3 (.cells #[.slice A3 xs.length c3, .bool off, .int .i64 fuse, .int .i64 nw] 45)
 have hT8 := hsz
 replace e0 := pw_cell_below hb3 e0
 generalize w3.heap.size = g8 at hz9 hT8 ⊢
 generalize w3.alloc (.cells #[.slice A3 xs.length c3, .bool off, .int .i64 fuse, .int .i64 nw] 45) = W8 at hb3 hz9 e0 ⊢
 replace hD3 := hD3.below hb3
 replace hR3 := hR3.below hb3
 replace hs3 := hs3.trans (Step.of_below (S := i.In) hb3) (fun _ h => h) (fun _ h => Or.inl h)
 replace hb6 := Stepb hb3 hb6
 replace hsz := Nat.le_trans hsz hb3.size
 obtain ⟨⟨y0, y1, y2, y3⟩, _⟩ := blk4 hz9
 clear hb3
 try simp only [List.append_eq, List.cons_append, List.nil_append]
 have hb3 := below_drew1 (Below.refl W8.heap.size W8)
 replace hD3 := hD3.below hb3
 replace hR3 := hR3.below hb3
 replace hs3 := hs3.trans (Step.of_below (S := i.In) hb3) (fun _ h => h) (fun _ h => Or.inl h)
 replace hb6 := Stepb hb3 hb6
 replace hsz := Nat.le_trans hsz hb3.size
 refine start_ (n := 9) (S := fun w' => w'.cell? ⟨g8, 0, none⟩ = some (.slice A3 xs.length c3) ∧ w'.cell? ⟨g8, 1, none⟩ = some (.bool off) ∧ w'.cell? ⟨g8, 2, none⟩ = some (.int .i64 fuse) ∧ w'.cell? ⟨g8, 3, none⟩ = some (.int .i64 nw) ∧ w'.cell? ⟨w.heap.size + 1, 1, none⟩ = some (.int .i64 at_)) (ds := [7]) #[false, false, false, false, false, false, false, false, false] (by kernel_rfl) rfl rfl ⟨y0, y1, y2, y3, e0⟩ (fun hHeld => ?_)
 refine pure_ (i := 1) (N := some 88) (v := ?_) (a' := ?_) #[false, true, false, false, false, false, false, false, false] rfl rfl (by kernel_rfl) (fun _ _ _ h => h) (Or.inl ⟨by rfl, ?_⟩) ?_ ?_
 rotate_left
 ·intro w'
  go_simp
  with_reducible rfl
 rotate_left
 ·simp only [Act.put, List.setIfInBounds_toArray, List.set_cons_zero, List.set_cons_succ, i64_w, i32_w]
  rfl
 refine pure_ (i := 2) (N := some 89) (v := ?_) (a' := ?_) #[false, true, true, false, false, false, false, false, false] rfl rfl (by kernel_rfl) (fun _ _ _ h => h) (Or.inl ⟨by rfl, ?_⟩) ?_ ?_
 rotate_left
 ·intro w'
  go_simp
  with_reducible rfl
 rotate_left
 ·simp only [Act.put, List.setIfInBounds_toArray, List.set_cons_zero, List.set_cons_succ, i64_w, i32_w]
  rfl
 refine pure_ (i := 5) (N := some 92) (v := ?_) (a' := ?_) #[false, true, true, false, false, true, false, false, false] rfl rfl (by kernel_rfl) (fun _ _ _ h => h) (Or.inl ⟨by rfl, ?_⟩) ?_ ?_
 rotate_left
 ·intro w'
  go_simp
  with_reducible rfl
 rotate_left
 ·simp only [Act.put, List.setIfInBounds_toArray, List.set_cons_zero, List.set_cons_succ, i64_w, i32_w]
  rfl
 refine take_ (i := 0) (N := some 87) (v := ?_) (a' := ?_) #[true, true, true, false, false, true, false, false, false] rfl rfl (by kernel_rfl) (fun _ _ _ h => h) (Or.inl ⟨by rfl, ?_⟩) hHeld ?_ ?_
 rotate_left
 ·rintro w' ⟨s0, s1, s2, s3, s4⟩
  go_simp
  with_reducible rfl
 rotate_left
 ·simp only [Act.put, List.setIfInBounds_toArray, List.set_cons_zero, List.set_cons_succ, i64_w, i32_w]
  rfl
 refine take_ (i := 3) (N := some 90) (v := ?_) (a' := ?_) #[true, true, true, true, false, true, false, false, false] rfl rfl (by kernel_rfl) (fun _ _ _ h => h) (Or.inl ⟨by rfl, ?_⟩) hHeld ?_ ?_
 rotate_left
 ·rintro w' ⟨s0, s1, s2, s3, s4⟩
  go_simp
  with_reducible rfl
 rotate_left
 ·simp only [Act.put, List.setIfInBounds_toArray, List.set_cons_zero, List.set_cons_succ, i64_w, i32_w]
  rfl
 refine one_ (i := 4) (N := some 91) #[true, true, true, true, true, true, false, false, false] rfl rfl (by kernel_rfl) (by decide) (fun K hK => ?_)
 refine goes_ Try.func30 (by kernel_rfl) rfl #[.pointer (some ⟨i.d, 0, none⟩), .int .i64 at_] (by rfl) rfl rfl (by simp only [List.map_toArray, List.map_cons, List.map_nil]; rfl) ?_
 with_reducible refine (dev_EraseR hq _ i hD3).mono ?_
 rintro e w3 ⟨rfl, hD4, hs4⟩
 refine ⟨_, rfl, ?_⟩
 have hs4 := hs4
 replace hR3 := hR3.step hs4 (ref_dev hR3 hD3)
 replace hD3 := hD4
 replace hs3 := hs3.trans hs4 (fun _ h => h) (fun _ h => Or.inl h)
 replace hb6 := hs4.block hb6 (fun h => by have := hilt _ h; omega)
 replace hsz := Nat.le_trans hsz hs4.size
 refine hK.out _ _ ⟨hs4.cell hHeld.1 (fun h => by have h9 := hilt _ h; dsimp only at h9; omega), hs4.cell hHeld.2.1 (fun h => by have h9 := hilt _ h; dsimp only at h9; omega), hs4.cell hHeld.2.2.1 (fun h => by have h9 := hilt _ h; dsimp only at h9; omega), hs4.cell hHeld.2.2.2.1 (fun h => by have h9 := hilt _ h; dsimp only at h9; omega), hs4.cell hHeld.2.2.2.2 (fun h => by have h9 := hilt _ h; dsimp only at h9; omega)⟩ (fun hHeld => ?_)
 clear hK K
 refine norm_ (a' := ?_) ?_ ?_
 rotate_left
 ·show Act.put _ (some 91) _ = _
  simp only [Act.put, List.setIfInBounds_toArray, List.set_cons_zero, List.set_cons_succ, i64_w, i32_w]
  rfl
 refine pure_ (i := 6) (N := some 93) (v := ?_) (a' := ?_) #[true, true, true, true, true, true, true, false, false] rfl rfl (by kernel_rfl) (fun _ _ _ h => h) (Or.inl ⟨by rfl, ?_⟩) ?_ ?_
 rotate_left
 ·intro w'
  go_simp
  with_reducible rfl
 rotate_left
 ·simp only [Act.put, List.setIfInBounds_toArray, List.set_cons_zero, List.set_cons_succ, i64_w, i32_w]
  rfl
 refine last_ (i := 7) (N := none) #[true, true, true, true, true, true, true, true, false] rfl rfl (by kernel_rfl) (by decide) (fun K hK => ?_)
 obtain ⟨⟨z0, z1, z2, z3⟩, q0, q1, q2, q3⟩ := blk4 hb6
 refine skip_ (w1 := ?_) (by rfl) rfl ?_ ?_
 rotate_left
 ·go_simp
  rfl
 refine hK.out _ _ ?_
 clear hK K
 refine pure_ (i := 8) (N := some 7) (v := ?_) (a' := ?_) #[true, true, true, true, true, true, true, true, true] rfl rfl (by kernel_rfl) (fun _ _ _ h => h) (Or.inl ⟨by rfl, ?_⟩) ?_ ?_
 rotate_left
 ·intro w'
  go_simp
  with_reducible rfl
 rotate_left
 ·simp only [Act.put, List.setIfInBounds_toArray, List.set_cons_zero, List.set_cons_succ, i64_w, i32_w]
  rfl
 refine done_ (by kernel_rfl) ?_
 clear hHeld
 have hst9 := step_put4 w3 (w.heap.size + 1 + 1) (.slice A3 xs.length c3) (.bool off) (.int .i64 fuse) (.int .i64 nw)
 have hz9 := put4 hb6 (.slice A3 xs.length c3) (.bool off) (.int .i64 fuse) (.int .i64 nw)
 have hD9 := hD3.step hst9 (fun k hk e => by have := hilt k hk; omega)
 have hR9 := ref_put4 hR3 hb6 (.slice A3 xs.length c3) (.bool off) (.int .i64 fuse) (.int .i64 nw)
 have hs9 : Step i.In w _ := hs3.trans hst9 (fun _ h => h) (fun k hk => Or.inr (by omega))
 go_wp2
 refine bodyPost_ret (results_ct rfl _ _ (w.heap.size + 1 + 1) 45 _ (0, 0) _ rfl hz9 Try.underlying45 rfl (by kernel_rfl)) rfl ?_
 exact ⟨_, _, _, _, _, _, _, rfl, hD9, hR9, rfl, hs9⟩
set_option maxRecDepth 100000 in
set_option maxHeartbeats 8000000 in
theorem does_5 (w : World) (i : DevIds) (v : Value) (xs : List ByteArray) (F : FL) (B : BL) (off : Bool) (fuse nw : Int) (kd at_ c n by_ : Int) (Ak : Option Addr) (ck : Nat) (keep : List Bool) (hD : DevAt w i xs F B off fuse nw) (hR : RefAt w v xs F B) (hkd : kd = 5) (hb0 : 0 ≤ by_) (hb1_ : by_ < 4294967296) :
  Calls Try.prog 18 #[.pointer (some ⟨i.d, 0, none⟩), .agg #[v, .bool off, .int .i64 fuse, .int .i64 nw], .agg #[.int .i64 kd, .int .i64 at_, .int .u8 c, .slice Ak keep.length ck, .int .i64 n, .int .u32 by_]] w fun e w' => ∃ v' xs' F' B' off' fuse' nw', e = .returned (.tuple #[.agg #[v', .bool off', .int .i64 fuse', .int .i64 nw'], .bool true]) ∧
   DevAt w' i xs' F' B' off' fuse' nw' ∧ RefAt w' v' xs' F' B' ∧ xs'.length = xs.length ∧ Step i.In w w' := by
 subst hkd
 obtain ⟨Av, cv, rfl, _⟩ := hR.reads
 have hilt := hD.lt
 have hok := hD.ok
 have hb1 := Below.refl w.heap.size w
 have hx := does_start w (.cells #[.slice Av xs.length cv, .bool off, .int .i64 fuse, .int .i64 nw] 45) (.cells #[.int .i64 5, .int .i64 at_, .int .u8 c, .slice Ak keep.length ck, .int .i64 n, .int .u32 by_] 32) (.cells #[.slice none 0 0, .bool false, .int .i64 0, .int .i64 0] 45)
 go_enter Try.func18, Try.ntmps18
 go_upto_region 1 with (fail)
 obtain ⟨hbl, hb4, hb5, hb6, hsz⟩ := hx
 generalize ((w.alloc (.cells #[.slice Av xs.length cv, .bool off, .int .i64 fuse, .int .i64 nw] 45)).alloc (.cells #[.int .i64 5, .int .i64 at_, .int .u8 c, .slice Ak keep.length ck, .int .i64 n, .int .u32 by_] 32)).alloc (.cells #[.slice none 0 0, .bool false, .int .i64 0, .int .i64 0] 45) = W at hbl hb4 hb5 hb6 hsz ⊢
 have hD3 := hD.below hbl
 have hR3 := hR.below hbl
 have hs3 : Step i.In w W := Step.of_below hbl
 obtain ⟨⟨b40, b41, b42, b43⟩, _⟩ := blk4 hb4
 obtain ⟨a0, a1, a2, a3, a4, a5⟩ := blk6 hb5
 clear hb4 hb1 hbl hR hD a2 a3
 obtain ⟨xs3, why, hq⟩ : ∃ xs3 why, garbP xs at_ n by_ = (xs3, why) := ⟨_, _, rfl⟩
 go_wp2_with (go_at_call 61; refine (ref_GarbleR hq hb0 hb1_ _ _ hR3 hok).mono ?_)
 rintro e w3 ⟨A3, c3, rfl, hR4, hb3⟩
 replace hD3 := hD3.below hb3
 replace hR3 := hR4
 replace hs3 := hs3.trans (Step.of_below (S := i.In) hb3) (fun _ h => h) (fun _ h => Or.inl h)
 replace hb6 := Stepb hb3 hb6
 replace hsz := Nat.le_trans hsz hb3.size
 have e0 := pw_cell_below hb3 a1
 have e1 := pw_cell_below hb3 a4
 have e2 := pw_cell_below hb3 a5
 clear hR4 hb3 b40 b41 b42 b43 a1
 go_wp2_with fail
 have hb3 : Below w3.heap.size w3 (w3.alloc (.cells #[.slice A3 xs.length c3, .bool off, .int .i64 fuse, .int .i64 nw] 45)) := (Below.refl _ _).alloc (Nat.le_refl _) _
 have hz9 := World.alloc_heap_new w3 (.cells #[.slice A3 xs.length c3, .bool off, .int .i64 fuse, .int .i64 nw] 45)
 have hT8 := hsz
 replace e0 := pw_cell_below hb3 e0
 replace e1 := pw_cell_below hb3 e1
 replace e2 := pw_cell_below hb3 e2
 generalize w3.heap.size = g8 at hz9 hT8 ⊢
 generalize w3.alloc (.cells #[.slice A3 xs.length c3, .bool off, .int .i64 fuse, .int .i64 nw] 45) = W8 at hb3 hz9 e0 e1 e2 ⊢
 replace hD3 := hD3.below hb3
 replace hR3 := hR3.below hb3
 replace hs3 := hs3.trans (Step.of_below (S := i.In) hb3) (fun _ h => h) (fun _ h => Or.inl h)
 replace hb6 := Stepb hb3 hb6
 replace hsz := Nat.le_trans hsz hb3.size
 obtain ⟨⟨y0, y1, y2, y3⟩, _⟩ := blk4 hz9
 clear hb3
 try simp only [List.append_eq, List.cons_append, List.nil_append]
 have hb3 := below_drew1 (Below.refl W8.heap.size W8)
 replace hD3 := hD3.below hb3
 replace hR3 := hR3.below hb3
 replace hs3 := hs3.trans (Step.of_below (S := i.In) hb3) (fun _ h => h) (fun _ h => Or.inl h)
 replace hb6 := Stepb hb3 hb6
 replace hsz := Nat.le_trans hsz hb3.size
 refine start_ (n := 13) (S := fun w' => w'.cell? ⟨g8, 0, none⟩ = some (.slice A3 xs.length c3) ∧ w'.cell? ⟨g8, 1, none⟩ = some (.bool off) ∧ w'.cell? ⟨g8, 2, none⟩ = some (.int .i64 fuse) ∧ w'.cell? ⟨g8, 3, none⟩ = some (.int .i64 nw) ∧ w'.cell? ⟨w.heap.size + 1, 1, none⟩ = some (.int .i64 at_) ∧ w'.cell? ⟨w.heap.size + 1, 4, none⟩ = some (.int .i64 n) ∧ w'.cell? ⟨w.heap.size + 1, 5, none⟩ = some (.int .u32 by_)) (ds := [11]) #[false, false, false, false, false, false, false, false, false, false, false, false, false] (by kernel_rfl) rfl rfl ⟨y0, y1, y2, y3, e0, e1, e2⟩ (fun hHeld => ?_)
 refine pure_ (i := 1) (N := some 108) (v := ?_) (a' := ?_) #[false, true, false, false, false, false, false, false, false, false, false, false, false] rfl rfl (by kernel_rfl) (fun _ _ _ h => h) (Or.inl ⟨by rfl, ?_⟩) ?_ ?_
 rotate_left
 ·intro w'
  go_simp
  with_reducible rfl
 rotate_left
 ·simp only [Act.put, List.setIfInBounds_toArray, List.set_cons_zero, List.set_cons_succ, i64_w, i32_w]
  rfl
 refine pure_ (i := 2) (N := some 109) (v := ?_) (a' := ?_) #[false, true, true, false, false, false, false, false, false, false, false, false, false] rfl rfl (by kernel_rfl) (fun _ _ _ h => h) (Or.inl ⟨by rfl, ?_⟩) ?_ ?_
 rotate_left
 ·intro w'
  go_simp
  with_reducible rfl
 rotate_left
 ·simp only [Act.put, List.setIfInBounds_toArray, List.set_cons_zero, List.set_cons_succ, i64_w, i32_w]
  rfl
 refine pure_ (i := 4) (N := some 111) (v := ?_) (a' := ?_) #[false, true, true, false, true, false, false, false, false, false, false, false, false] rfl rfl (by kernel_rfl) (fun _ _ _ h => h) (Or.inl ⟨by rfl, ?_⟩) ?_ ?_
 rotate_left
 ·intro w'
  go_simp
  with_reducible rfl
 rotate_left
 ·simp only [Act.put, List.setIfInBounds_toArray, List.set_cons_zero, List.set_cons_succ, i64_w, i32_w]
  rfl
 refine pure_ (i := 6) (N := some 113) (v := ?_) (a' := ?_) #[false, true, true, false, true, false, true, false, false, false, false, false, false] rfl rfl (by kernel_rfl) (fun _ _ _ h => h) (Or.inl ⟨by rfl, ?_⟩) ?_ ?_
 rotate_left
 ·intro w'
  go_simp
  with_reducible rfl
 rotate_left
 ·simp only [Act.put, List.setIfInBounds_toArray, List.set_cons_zero, List.set_cons_succ, i64_w, i32_w]
  rfl
 refine pure_ (i := 9) (N := some 116) (v := ?_) (a' := ?_) #[false, true, true, false, true, false, true, false, false, true, false, false, false] rfl rfl (by kernel_rfl) (fun _ _ _ h => h) (Or.inl ⟨by rfl, ?_⟩) ?_ ?_
 rotate_left
 ·intro w'
  go_simp
  with_reducible rfl
 rotate_left
 ·simp only [Act.put, List.setIfInBounds_toArray, List.set_cons_zero, List.set_cons_succ, i64_w, i32_w]
  rfl
 refine take_ (i := 0) (N := some 107) (v := ?_) (a' := ?_) #[true, true, true, false, true, false, true, false, false, true, false, false, false] rfl rfl (by kernel_rfl) (fun _ _ _ h => h) (Or.inl ⟨by rfl, ?_⟩) hHeld ?_ ?_
 rotate_left
 ·rintro w' ⟨s0, s1, s2, s3, s4, s5, s6⟩
  go_simp
  with_reducible rfl
 rotate_left
 ·simp only [Act.put, List.setIfInBounds_toArray, List.set_cons_zero, List.set_cons_succ, i64_w, i32_w]
  rfl
 refine take_ (i := 3) (N := some 110) (v := ?_) (a' := ?_) #[true, true, true, true, true, false, true, false, false, true, false, false, false] rfl rfl (by kernel_rfl) (fun _ _ _ h => h) (Or.inl ⟨by rfl, ?_⟩) hHeld ?_ ?_
 rotate_left
 ·rintro w' ⟨s0, s1, s2, s3, s4, s5, s6⟩
  go_simp
  with_reducible rfl
 rotate_left
 ·simp only [Act.put, List.setIfInBounds_toArray, List.set_cons_zero, List.set_cons_succ, i64_w, i32_w]
  rfl
 refine take_ (i := 5) (N := some 112) (v := ?_) (a' := ?_) #[true, true, true, true, true, true, true, false, false, true, false, false, false] rfl rfl (by kernel_rfl) (fun _ _ _ h => h) (Or.inl ⟨by rfl, ?_⟩) hHeld ?_ ?_
 rotate_left
 ·rintro w' ⟨s0, s1, s2, s3, s4, s5, s6⟩
  go_simp
  with_reducible rfl
 rotate_left
 ·simp only [Act.put, List.setIfInBounds_toArray, List.set_cons_zero, List.set_cons_succ, i64_w, i32_w]
  rfl
 refine take_ (i := 7) (N := some 114) (v := ?_) (a' := ?_) #[true, true, true, true, true, true, true, true, false, true, false, false, false] rfl rfl (by kernel_rfl) (fun _ _ _ h => h) (Or.inl ⟨by rfl, ?_⟩) hHeld ?_ ?_
 rotate_left
 ·rintro w' ⟨s0, s1, s2, s3, s4, s5, s6⟩
  go_simp
  with_reducible rfl
 rotate_left
 ·simp only [Act.put, List.setIfInBounds_toArray, List.set_cons_zero, List.set_cons_succ, i64_w, i32_w]
  rfl
 refine one_ (i := 8) (N := some 115) #[true, true, true, true, true, true, true, true, true, true, false, false, false] rfl rfl (by kernel_rfl) (by decide) (fun K hK => ?_)
 refine goes_ Try.func48 (by kernel_rfl) rfl #[.pointer (some ⟨i.d, 0, none⟩), .int .i64 at_, .int .i64 n, .int .u32 by_] (by rfl) rfl rfl (by simp only [List.map_toArray, List.map_cons, List.map_nil]; rfl) ?_
 with_reducible refine (dev_GarbleR hq hb0 hb1_ _ i hD3).mono ?_
 rintro e w3 ⟨rfl, hD4, hs4⟩
 refine ⟨_, rfl, ?_⟩
 have hs4 := hs4
 replace hR3 := hR3.step hs4 (ref_dev hR3 hD3)
 replace hD3 := hD4
 replace hs3 := hs3.trans hs4 (fun _ h => h) (fun _ h => Or.inl h)
 replace hb6 := hs4.block hb6 (fun h => by have := hilt _ h; omega)
 replace hsz := Nat.le_trans hsz hs4.size
 refine hK.out _ _ ⟨hs4.cell hHeld.1 (fun h => by have h9 := hilt _ h; dsimp only at h9; omega), hs4.cell hHeld.2.1 (fun h => by have h9 := hilt _ h; dsimp only at h9; omega), hs4.cell hHeld.2.2.1 (fun h => by have h9 := hilt _ h; dsimp only at h9; omega), hs4.cell hHeld.2.2.2.1 (fun h => by have h9 := hilt _ h; dsimp only at h9; omega), hs4.cell hHeld.2.2.2.2.1 (fun h => by have h9 := hilt _ h; dsimp only at h9; omega), hs4.cell hHeld.2.2.2.2.2.1 (fun h => by have h9 := hilt _ h; dsimp only at h9; omega), hs4.cell hHeld.2.2.2.2.2.2 (fun h => by have h9 := hilt _ h; dsimp only at h9; omega)⟩ (fun hHeld => ?_)
 clear hK K
 refine norm_ (a' := ?_) ?_ ?_
 rotate_left
 ·show Act.put _ (some 115) _ = _
  simp only [Act.put, List.setIfInBounds_toArray, List.set_cons_zero, List.set_cons_succ, i64_w, i32_w]
  rfl
 refine pure_ (i := 10) (N := some 117) (v := ?_) (a' := ?_) #[true, true, true, true, true, true, true, true, true, true, true, false, false] rfl rfl (by kernel_rfl) (fun _ _ _ h => h) (Or.inl ⟨by rfl, ?_⟩) ?_ ?_
 rotate_left
 ·intro w'
  go_simp
  with_reducible rfl
 rotate_left
 ·simp only [Act.put, List.setIfInBounds_toArray, List.set_cons_zero, List.set_cons_succ, i64_w, i32_w]
  rfl
 refine last_ (i := 11) (N := none) #[true, true, true, true, true, true, true, true, true, true, true, true, false] rfl rfl (by kernel_rfl) (by decide) (fun K hK => ?_)
 obtain ⟨⟨z0, z1, z2, z3⟩, q0, q1, q2, q3⟩ := blk4 hb6
 refine skip_ (w1 := ?_) (by rfl) rfl ?_ ?_
 rotate_left
 ·go_simp
  rfl
 refine hK.out _ _ ?_
 clear hK K
 refine pure_ (i := 12) (N := some 7) (v := ?_) (a' := ?_) #[true, true, true, true, true, true, true, true, true, true, true, true, true] rfl rfl (by kernel_rfl) (fun _ _ _ h => h) (Or.inl ⟨by rfl, ?_⟩) ?_ ?_
 rotate_left
 ·intro w'
  go_simp
  with_reducible rfl
 rotate_left
 ·simp only [Act.put, List.setIfInBounds_toArray, List.set_cons_zero, List.set_cons_succ, i64_w, i32_w]
  rfl
 refine done_ (by kernel_rfl) ?_
 clear hHeld
 have hst9 := step_put4 w3 (w.heap.size + 1 + 1) (.slice A3 xs.length c3) (.bool off) (.int .i64 fuse) (.int .i64 nw)
 have hz9 := put4 hb6 (.slice A3 xs.length c3) (.bool off) (.int .i64 fuse) (.int .i64 nw)
 have hD9 := hD3.step hst9 (fun k hk e => by have := hilt k hk; omega)
 have hR9 := ref_put4 hR3 hb6 (.slice A3 xs.length c3) (.bool off) (.int .i64 fuse) (.int .i64 nw)
 have hs9 : Step i.In w _ := hs3.trans hst9 (fun _ h => h) (fun k hk => Or.inr (by omega))
 go_wp2
 refine bodyPost_ret (results_ct rfl _ _ (w.heap.size + 1 + 1) 45 _ (0, 0) _ rfl hz9 Try.underlying45 rfl (by kernel_rfl)) rfl ?_
 exact ⟨_, _, _, _, _, _, _, rfl, hD9, hR9, garbP_len hq, hs9⟩
set_option maxRecDepth 100000 in
set_option maxHeartbeats 8000000 in
theorem does_7 (w : World) (i : DevIds) (v : Value) (xs : List ByteArray) (F : FL) (B : BL) (off : Bool) (fuse nw : Int) (kd at_ c n by_ : Int) (Ak : Option Addr) (ck : Nat) (keep : List Bool) (hD : DevAt w i xs F B off fuse nw) (hR : RefAt w v xs F B) (k0 : (kd == 0) = false) (k1 : (kd == 1) = false) (k2 : (kd == 2) = false) (k3 : (kd == 3) = false) (k4 : (kd == 4) = false) (k5 : (kd == 5) = false) (k6 : (kd == 6) = false) :
  Calls Try.prog 18 #[.pointer (some ⟨i.d, 0, none⟩), .agg #[v, .bool off, .int .i64 fuse, .int .i64 nw], .agg #[.int .i64 kd, .int .i64 at_, .int .u8 c, .slice Ak keep.length ck, .int .i64 n, .int .u32 by_]] w fun e w' => ∃ v' xs' F' B' off' fuse' nw', e = .returned (.tuple #[.agg #[v', .bool off', .int .i64 fuse', .int .i64 nw'], .bool true]) ∧
   DevAt w' i xs' F' B' off' fuse' nw' ∧ RefAt w' v' xs' F' B' ∧ xs'.length = xs.length ∧ Step i.In w w' := by
 obtain ⟨Av, cv, rfl, _⟩ := hR.reads
 have hilt := hD.lt
 have hok := hD.ok
 have hb1 := Below.refl w.heap.size w
 have hx := does_start w (.cells #[.slice Av xs.length cv, .bool off, .int .i64 fuse, .int .i64 nw] 45) (.cells #[.int .i64 kd, .int .i64 at_, .int .u8 c, .slice Ak keep.length ck, .int .i64 n, .int .u32 by_] 32) (.cells #[.slice none 0 0, .bool false, .int .i64 0, .int .i64 0] 45)
 go_enter Try.func18, Try.ntmps18
 go_upto_region 1 with (fail)
 obtain ⟨hbl, hb4, hb5, hb6, hsz⟩ := hx
 generalize ((w.alloc (.cells #[.slice Av xs.length cv, .bool off, .int .i64 fuse, .int .i64 nw] 45)).alloc (.cells #[.int .i64 kd, .int .i64 at_, .int .u8 c, .slice Ak keep.length ck, .int .i64 n, .int .u32 by_] 32)).alloc (.cells #[.slice none 0 0, .bool false, .int .i64 0, .int .i64 0] 45) = W at hbl hb4 hb5 hb6 hsz ⊢
 have hD3 := hD.below hbl
 have hR3 := hR.below hbl
 have hs3 : Step i.In w W := Step.of_below hbl
 obtain ⟨⟨b40, b41, b42, b43⟩, _⟩ := blk4 hb4
 obtain ⟨a0, a1, a2, a3, a4, a5⟩ := blk6 hb5
 clear hb4 hb1 hbl hR hD a2 a3 a4 a5
 obtain ⟨F3, o3, l3, m3, why, hq⟩ : ∃ F3 o3 l3 m3 why, writeP xs.length F off fuse nw at_ ⟨#[97, 98]⟩ = (F3, o3, l3, m3, why) := ⟨_, _, _, _, _, rfl⟩
 go_wp2_with (go_at_call 56; refine (ref_WriteR hq _ _ hR3 hok).mono ?_)
 rintro e w3 ⟨A3, c3, rfl, hR4, hb3⟩
 replace hD3 := hD3.below hb3
 replace hR3 := hR4
 replace hs3 := hs3.trans (Step.of_below (S := i.In) hb3) (fun _ h => h) (fun _ h => Or.inl h)
 replace hb6 := Stepb hb3 hb6
 replace hsz := Nat.le_trans hsz hb3.size
 have e0 := pw_cell_below hb3 a1
 clear hR4 hb3 b40 b41 b42 b43 a1
 go_wp2_with fail
 have hb3 : Below w3.heap.size w3 (w3.alloc (.cells #[.slice A3 xs.length c3, .bool o3, .int .i64 l3, .int .i64 m3] 45)) := (Below.refl _ _).alloc (Nat.le_refl _) _
 have hz9 := World.alloc_heap_new w3 (.cells #[.slice A3 xs.length c3, .bool o3, .int .i64 l3, .int .i64 m3] 45)
 have hT8 := hsz
 replace e0 := pw_cell_below hb3 e0
 generalize w3.heap.size = g8 at hz9 hT8 ⊢
 generalize w3.alloc (.cells #[.slice A3 xs.length c3, .bool o3, .int .i64 l3, .int .i64 m3] 45) = W8 at hb3 hz9 e0 ⊢
 replace hD3 := hD3.below hb3
 replace hR3 := hR3.below hb3
 replace hs3 := hs3.trans (Step.of_below (S := i.In) hb3) (fun _ h => h) (fun _ h => Or.inl h)
 replace hb6 := Stepb hb3 hb6
 replace hsz := Nat.le_trans hsz hb3.size
 obtain ⟨⟨y0, y1, y2, y3⟩, _⟩ := blk4 hz9
 clear hb3
 try simp only [List.append_eq, List.cons_append, List.nil_append]
 have hb3 := below_drew1 (Below.refl W8.heap.size W8)
 replace hD3 := hD3.below hb3
 replace hR3 := hR3.below hb3
 replace hs3 := hs3.trans (Step.of_below (S := i.In) hb3) (fun _ h => h) (fun _ h => Or.inl h)
 replace hb6 := Stepb hb3 hb6
 replace hsz := Nat.le_trans hsz hb3.size
 refine start_ (n := 9) (S := fun w' => w'.cell? ⟨g8, 0, none⟩ = some (.slice A3 xs.length c3) ∧ w'.cell? ⟨g8, 1, none⟩ = some (.bool o3) ∧ w'.cell? ⟨g8, 2, none⟩ = some (.int .i64 l3) ∧ w'.cell? ⟨g8, 3, none⟩ = some (.int .i64 m3) ∧ w'.cell? ⟨w.heap.size + 1, 1, none⟩ = some (.int .i64 at_)) (ds := [7]) #[false, false, false, false, false, false, false, false, false] (by kernel_rfl) rfl rfl ⟨y0, y1, y2, y3, e0⟩ (fun hHeld => ?_)
 refine pure_ (i := 1) (N := some 151) (v := ?_) (a' := ?_) #[false, true, false, false, false, false, false, false, false] rfl rfl (by kernel_rfl) (fun _ _ _ h => h) (Or.inl ⟨by rfl, ?_⟩) ?_ ?_
 rotate_left
 ·intro w'
  go_simp
  with_reducible rfl
 rotate_left
 ·simp only [Act.put, List.setIfInBounds_toArray, List.set_cons_zero, List.set_cons_succ, i64_w, i32_w]
  rfl
 refine pure_ (i := 2) (N := some 152) (v := ?_) (a' := ?_) #[false, true, true, false, false, false, false, false, false] rfl rfl (by kernel_rfl) (fun _ _ _ h => h) (Or.inl ⟨by rfl, ?_⟩) ?_ ?_
 rotate_left
 ·intro w'
  go_simp
  with_reducible rfl
 rotate_left
 ·simp only [Act.put, List.setIfInBounds_toArray, List.set_cons_zero, List.set_cons_succ, i64_w, i32_w]
  rfl
 refine pure_ (i := 5) (N := some 155) (v := ?_) (a' := ?_) #[false, true, true, false, false, true, false, false, false] rfl rfl (by kernel_rfl) (fun _ _ _ h => h) (Or.inl ⟨by rfl, ?_⟩) ?_ ?_
 rotate_left
 ·intro w'
  go_simp
  with_reducible rfl
 rotate_left
 ·simp only [Act.put, List.setIfInBounds_toArray, List.set_cons_zero, List.set_cons_succ, i64_w, i32_w]
  rfl
 refine take_ (i := 0) (N := some 150) (v := ?_) (a' := ?_) #[true, true, true, false, false, true, false, false, false] rfl rfl (by kernel_rfl) (fun _ _ _ h => h) (Or.inl ⟨by rfl, ?_⟩) hHeld ?_ ?_
 rotate_left
 ·rintro w' ⟨s0, s1, s2, s3, s4⟩
  go_simp
  with_reducible rfl
 rotate_left
 ·simp only [Act.put, List.setIfInBounds_toArray, List.set_cons_zero, List.set_cons_succ, i64_w, i32_w]
  rfl
 refine take_ (i := 3) (N := some 153) (v := ?_) (a' := ?_) #[true, true, true, true, false, true, false, false, false] rfl rfl (by kernel_rfl) (fun _ _ _ h => h) (Or.inl ⟨by rfl, ?_⟩) hHeld ?_ ?_
 rotate_left
 ·rintro w' ⟨s0, s1, s2, s3, s4⟩
  go_simp
  with_reducible rfl
 rotate_left
 ·simp only [Act.put, List.setIfInBounds_toArray, List.set_cons_zero, List.set_cons_succ, i64_w, i32_w]
  rfl
 refine one_ (i := 4) (N := some 154) #[true, true, true, true, true, true, false, false, false] rfl rfl (by kernel_rfl) (by decide) (fun K hK => ?_)
 refine goes_ Try.func11 (by kernel_rfl) rfl #[.pointer (some ⟨i.d, 0, none⟩), .int .i64 at_, .string ⟨#[97, 98]⟩] (by rfl) rfl rfl (by simp only [List.map_toArray, List.map_cons, List.map_nil]; rfl) ?_
 with_reducible refine (dev_WriteR hq _ i hD3).mono ?_
 rintro e w3 ⟨rfl, hD4, hs4⟩
 refine ⟨_, rfl, ?_⟩
 have hs4 := hs4
 replace hR3 := hR3.step hs4 (ref_dev hR3 hD3)
 replace hD3 := hD4
 replace hs3 := hs3.trans hs4 (fun _ h => h) (fun _ h => Or.inl h)
 replace hb6 := hs4.block hb6 (fun h => by have := hilt _ h; omega)
 replace hsz := Nat.le_trans hsz hs4.size
 refine hK.out _ _ ⟨hs4.cell hHeld.1 (fun h => by have h9 := hilt _ h; dsimp only at h9; omega), hs4.cell hHeld.2.1 (fun h => by have h9 := hilt _ h; dsimp only at h9; omega), hs4.cell hHeld.2.2.1 (fun h => by have h9 := hilt _ h; dsimp only at h9; omega), hs4.cell hHeld.2.2.2.1 (fun h => by have h9 := hilt _ h; dsimp only at h9; omega), hs4.cell hHeld.2.2.2.2 (fun h => by have h9 := hilt _ h; dsimp only at h9; omega)⟩ (fun hHeld => ?_)
 clear hK K
 refine norm_ (a' := ?_) ?_ ?_
 rotate_left
 ·show Act.put _ (some 154) _ = _
  simp only [Act.put, List.setIfInBounds_toArray, List.set_cons_zero, List.set_cons_succ, i64_w, i32_w]
  rfl
 refine pure_ (i := 6) (N := some 156) (v := ?_) (a' := ?_) #[true, true, true, true, true, true, true, false, false] rfl rfl (by kernel_rfl) (fun _ _ _ h => h) (Or.inl ⟨by rfl, ?_⟩) ?_ ?_
 rotate_left
 ·intro w'
  go_simp
  with_reducible rfl
 rotate_left
 ·simp only [Act.put, List.setIfInBounds_toArray, List.set_cons_zero, List.set_cons_succ, i64_w, i32_w]
  rfl
 refine last_ (i := 7) (N := none) #[true, true, true, true, true, true, true, true, false] rfl rfl (by kernel_rfl) (by decide) (fun K hK => ?_)
 obtain ⟨⟨z0, z1, z2, z3⟩, q0, q1, q2, q3⟩ := blk4 hb6
 refine skip_ (w1 := ?_) (by rfl) rfl ?_ ?_
 rotate_left
 ·go_simp
  rfl
 refine hK.out _ _ ?_
 clear hK K
 refine pure_ (i := 8) (N := some 7) (v := ?_) (a' := ?_) #[true, true, true, true, true, true, true, true, true] rfl rfl (by kernel_rfl) (fun _ _ _ h => h) (Or.inl ⟨by rfl, ?_⟩) ?_ ?_
 rotate_left
 ·intro w'
  go_simp
  with_reducible rfl
 rotate_left
 ·simp only [Act.put, List.setIfInBounds_toArray, List.set_cons_zero, List.set_cons_succ, i64_w, i32_w]
  rfl
 refine done_ (by kernel_rfl) ?_
 clear hHeld
 have hst9 := step_put4 w3 (w.heap.size + 1 + 1) (.slice A3 xs.length c3) (.bool o3) (.int .i64 l3) (.int .i64 m3)
 have hz9 := put4 hb6 (.slice A3 xs.length c3) (.bool o3) (.int .i64 l3) (.int .i64 m3)
 have hD9 := hD3.step hst9 (fun k hk e => by have := hilt k hk; omega)
 have hR9 := ref_put4 hR3 hb6 (.slice A3 xs.length c3) (.bool o3) (.int .i64 l3) (.int .i64 m3)
 have hs9 : Step i.In w _ := hs3.trans hst9 (fun _ h => h) (fun k hk => Or.inr (by omega))
 go_wp2
 refine bodyPost_ret (results_ct rfl _ _ (w.heap.size + 1 + 1) 45 _ (0, 0) _ rfl hz9 Try.underlying45 rfl (by kernel_rfl)) rfl ?_
 exact ⟨_, _, _, _, _, _, _, rfl, hD9, hR9, rfl, hs9⟩
set_option maxRecDepth 100000 in
set_option maxHeartbeats 2000000 in
theorem dev_Crash_any2 (w : World) (i : DevIds) (xs : List ByteArray) (F : FL) (B : BL) (off : Bool) (fuse nw : Int) (Ak : Option Addr) (ck : Nat) (keep : List Bool) (h : DevAt w i xs F B off fuse nw) (hk : Kd.C Kd.bool w Ak keep.length keep) (hkl : keep.length ≤ 4611686018427387904) (hkb : ∀ a, Ak = some a → keep.length = 0 ∨ (a.block ≠ i.bs ∧ a.block ≠ i.bb)) :
  Calls Try.prog 15 #[.pointer (some ⟨i.d, 0, none⟩), .slice Ak keep.length ck] w fun e w' => e = .returned (.tuple #[]) ∧ DevAt w' i (landXs xs (crashV F (keysI F) keep)) [] (landB B (crashV F (keysI F) keep)) false (-1) nw ∧ Step i.In w w' := by
 have hW := dev_Waiting_any w i xs F B off fuse nw h
 have hil := keysI_len F
 obtain ⟨n1, n2, n3, n4, n5, n6⟩ := h.ne
 have hlt := h.lt
 have hF1 := h.ok.2.1
 have hF2 := h.ok.2.2.2.2.2.1
 refine (callsIn_wide (n := 4)).1 ?_
 refine callsIn_of_wp Try.func15 rfl trivial ?_ rfl
 simp only [Try.ntmps15, List.size_toArray, List.length_cons, List.length_nil, Nat.reduceAdd, Nat.reduceSub, Array.replicate_succ, Array.replicate_zero, List.push_toArray, List.append_toArray, List.nil_append, List.cons_append]
 gi_wp2
 refine ⟨trivial, ?_⟩
 gi_at_call 14
 refine (callsIn_wide.2 hW).mono ?_
 rintro e w1 ⟨A, c, rfl, hc, hC, hB1, hA⟩
 have hs1 : Step (fun _ => False) w w1 := Step.of_below hB1
 have h1 := h.step hs1 (fun _ _ h => h)
 have hk1 := Kd.C_below hk hB1
 have hws := hB1.size
 gi_wp2
 gi_loopw [9] (fun t9 wr => ∃ k : Nat, k ≤ F.length ∧ t9 = .int .i64 k ∧ DevAt wr i (landXs xs (crashV F ((keysI F).take k) keep)) F (landB B (crashV F ((keysI F).take k) keep)) off fuse nw ∧ Step (fun q => q = i.bs ∨ q = i.bb) w1 wr) (fun t9 _ => F.length - (intOf t9).toNat)
 case atStart => exact ⟨0, Nat.zero_le _, rfl, by rw [List.take_zero, crashV_nil, landXs_nil, landB_nil]; exact h1, Step.refl _ _⟩
 case round =>
  obtain ⟨k, hk9, rfl, hD, hst⟩ := hrel
  by_cases hlt9 : k < F.length
  ·have hki : k < (keysI F).length := by omega
   obtain ⟨ad, ea, hx0⟩ := Kd.at_int hC (k : Int) (by omega) (by omega)
   subst ea
   have hab := hA ad rfl
   have hbsl := hlt i.bs (Or.inr (Or.inl rfl))
   have hbbl := hlt i.bb (Or.inr (Or.inr (Or.inr rfl)))
   replace hx0 := hst.cell hx0 (fun h => by rw [add_block] at h; rcases h with h | h <;> omega)
   simp only [Int.toNat_natCast] at hx0
   obtain ⟨x, hx⟩ : ∃ v, v = rd (keysI F) (k : Int) := ⟨_, rfl⟩
   rw [← hx] at hx0
   have hxk : (keysI F)[k] = x := by rw [hx]; simp [rd, List.getD, hki]
   clear hx
   have hxF : x ∈ F.map Prod.fst := keysI_mem.1 (hxk ▸ List.getElem_mem hki)
   obtain ⟨v, hv⟩ : ∃ v, getL x F = some v := by
    cases hg : getL x F with
    | none => exact absurd hxF (getL_none.1 hg)
    | some v => exact ⟨v, rfl⟩
   have hsn := crashV_snoc F (keysI F) keep k hki
   rw [hxk, hv] at hsn
   have hF100 : (k : Int) < 40000 := by omega
   by_cases hkk : k < keep.length
   ·obtain ⟨adk, eak, hxb⟩ := Kd.at_bool hk1 (k : Int) (by omega) (by omega)
    obtain ⟨b1, b2⟩ := (hkb adk eak).resolve_left (by omega)
    subst eak
    replace hxb := hst.cell hxb (fun h => by rw [add_block] at h; rcases h with h | h; exact b1 h; exact b2 h)
    simp only [Int.toNat_natCast] at hxb
    obtain ⟨bv, hbv⟩ : ∃ v, v = rdOf false keep (k : Int) := ⟨_, rfl⟩
    rw [← hbv] at hxb
    have hbk : keep.getD k false = bv := by rw [hbv]; simp [rdOf]
    clear hbv
    rw [hbk] at hsn
    cases bv
    ·rw [if_neg (by decide), List.append_nil] at hsn
     gi_wp2
     go_roundw
     case rel => exact ⟨k + 1, by omega, by simp, by rw [hsn]; exact hD, hst⟩
     case measure => simp [intOf]; omega
    ·rw [if_pos rfl] at hsn
     have hL := dev_land_any wr i _ F _ off fuse nw x v hD hv
     have hxin := h.ok.2.2.2.1 _ (getL_mem hv)
     have hxp : x ∉ (crashV F ((keysI F).take k) keep).map Prod.fst := fun hh => by
      obtain ⟨q, hq, e⟩ := List.mem_map.1 hh
      have h1 := (crashV_keys F _ _ q hq).1
      rw [e] at h1
      obtain ⟨j, hj, ej⟩ := List.getElem_of_mem h1
      rw [List.length_take] at hj
      rw [List.getElem_take] at ej
      have := (List.getElem_inj (keysI_nodup h.2.2.1.nodup)).1 (ej.trans hxk.symm)
      omega
     gi_wp2
     refine ⟨trivial, ?_⟩
     gi_at_call 53
     refine (callsIn_wide.2 hL).mono ?_
     rintro e w3 ⟨rfl, h3, hs3⟩
     gi_wp2
     go_roundw
     case rel => exact ⟨k + 1, by omega, by simp, by rw [hsn, landXs_snoc xs _ x _ hxin.1 hxin.2.1 hxp, landB_snoc]; exact h3, hst.trans hs3 (fun _ h => h) (fun _ h => Or.inl h)⟩
     case measure => simp [intOf]; omega
   ·have hbk : keep.getD k false = false := by rw [List.getD_eq_getElem?_getD, List.getElem?_eq_none (by omega)]; rfl
    have dk : decide ((k : Int) < (keep.length : Int)) = false := decide_eq_false (by omega)
    rw [hbk, if_neg (by decide), List.append_nil] at hsn
    gi_wp2
    go_roundw
    case rel => exact ⟨k + 1, by omega, by simp, by rw [hsn]; exact hD, hst⟩
    case measure => simp [intOf]; omega
  ·have ek : k = F.length := by omega
   subst ek
   rw [List.take_of_length_le (by omega)] at hD
   obtain ⟨_, c9, _⟩ := hD.cells
   obtain ⟨w4, hrun, hm4, ht4⟩ := hD.2.2.1.clear kitS 0
   obtain ⟨h4, hs4⟩ := hD.putF hm4 ht4 (fun q hq => by cases hq)
   obtain ⟨_, _, _, c43, c44, _⟩ := h4.cells
   have f43 := h4.frozen 3
   have f44 := h4.frozen 4
   have h5 := (h4.setOff false).setFuse (-1) (by omega) (by omega)
   gi_wp2
   go_end0
   exact ⟨rfl, h5, ((hs1.trans hst (fun _ h => h.elim) (fun q hq => Or.inl (hq.elim (fun e => Or.inr (Or.inl e)) (fun e => Or.inr (Or.inr (Or.inr e)))))).trans hs4 (fun _ h => h) (fun _ h => Or.inl h)).trans ((h4.stepD 3 _).trans ((h4.setOff false).stepD 4 _) (fun _ h => h) (fun _ h => Or.inl h)) (fun _ h => h) (fun _ h => Or.inl h)⟩
theorem C_bool_step {w w' : World} {S : Nat → Prop} {A : Option Addr} {n : Nat} {xs : List Bool} (h : Kd.C Kd.bool w A n xs) (hs : Step S w w') (hn : ∀ a, A = some a → n = 0 ∨ ¬ S a.block) : Kd.C Kd.bool w' A n xs := by
 obtain ⟨h1, h2, h3⟩ := h
 refine ⟨h1, h2, fun hp => ?_⟩
 obtain ⟨ad, e, hx⟩ := h3 hp
 refine ⟨ad, e, fun j p hj => ?_⟩
 obtain ⟨cs, hK, hl, hc⟩ := hx j p hj
 exact ⟨cs, hK, hl, fun i u hu => hs.cell (hc i u hu) (by rw [add_block]; exact (hn ad e).resolve_left (by omega))⟩
theorem ref_ReadR {xs : List ByteArray} {F : FL} {B : BL} {off : Bool} {at_ : Int} {rs : ByteArray} {rn : Int} (hq : readP xs F B off at_ = (rs, rn)) (w : World) (v : Value) (left nw : Int) (h : RefAt w v xs F B) :
  Calls Try.prog 62 #[.agg #[v, .bool off, .int .i64 left, .int .i64 nw], .int .i64 at_] w fun e w' => e = .returned (.tuple #[.string rs, .int .i64 rn]) ∧ Below w.heap.size w w' := by
 have := ref_Read w v xs F B off left nw at_ h
 rw [hq] at this
 exact this
theorem dev_ReadR {xs : List ByteArray} {F : FL} {B : BL} {off : Bool} {at_ : Int} {rs : ByteArray} {rn : Int} (hq : readP xs F B off at_ = (rs, rn)) (w : World) (i : DevIds) (fuse nw : Int) (h : DevAt w i xs F B off fuse nw) :
  Calls Try.prog 16 #[.pointer (some ⟨i.d, 0, none⟩), .int .i64 at_] w fun e w' => e = .returned (.tuple #[.string rs, .int .i64 rn]) ∧ Step (fun _ => False) w w' := by
 have := dev_Read_any w i xs F B off fuse nw at_ h
 rw [hq] at this
 exact this
set_option maxRecDepth 100000 in
set_option maxHeartbeats 8000000 in
theorem does_2 (w : World) (i : DevIds) (v : Value) (xs : List ByteArray) (F : FL) (B : BL) (off : Bool) (fuse nw : Int) (kd at_ c n by_ : Int) (Ak : Option Addr) (ck : Nat) (keep : List Bool) (hD : DevAt w i xs F B off fuse nw) (hR : RefAt w v xs F B) (hkd : kd = 2) (hk : Kd.C Kd.bool w Ak keep.length keep) (hkl : keep.length ≤ 4611686018427387904) (hkb : ∀ a, Ak = some a → keep.length = 0 ∨ ¬ i.In a.block) :
  Calls Try.prog 18 #[.pointer (some ⟨i.d, 0, none⟩), .agg #[v, .bool off, .int .i64 fuse, .int .i64 nw], .agg #[.int .i64 kd, .int .i64 at_, .int .u8 c, .slice Ak keep.length ck, .int .i64 n, .int .u32 by_]] w fun e w' => ∃ v' xs' F' B' off' fuse' nw', e = .returned (.tuple #[.agg #[v', .bool off', .int .i64 fuse', .int .i64 nw'], .bool true]) ∧
   DevAt w' i xs' F' B' off' fuse' nw' ∧ RefAt w' v' xs' F' B' ∧ xs'.length = xs.length ∧ Step i.In w w' := by
 subst hkd
 obtain ⟨Av, cv, rfl, _⟩ := hR.reads
 have hilt := hD.lt
 have hok := hD.ok
 have hb1 := Below.refl w.heap.size w
 have hx := does_start w (.cells #[.slice Av xs.length cv, .bool off, .int .i64 fuse, .int .i64 nw] 45) (.cells #[.int .i64 2, .int .i64 at_, .int .u8 c, .slice Ak keep.length ck, .int .i64 n, .int .u32 by_] 32) (.cells #[.slice none 0 0, .bool false, .int .i64 0, .int .i64 0] 45)
 go_enter Try.func18, Try.ntmps18
 go_upto_region 1 with (fail)
 obtain ⟨hbl, hb4, hb5, hb6, hsz⟩ := hx
 generalize ((w.alloc (.cells #[.slice Av xs.length cv, .bool off, .int .i64 fuse, .int .i64 nw] 45)).alloc (.cells #[.int .i64 2, .int .i64 at_, .int .u8 c, .slice Ak keep.length ck, .int .i64 n, .int .u32 by_] 32)).alloc (.cells #[.slice none 0 0, .bool false, .int .i64 0, .int .i64 0] 45) = W at hbl hb4 hb5 hb6 hsz ⊢
 have hD3 := hD.below hbl
 have hR3 := hR.below hbl
 have hs3 : Step i.In w W := Step.of_below hbl
 obtain ⟨⟨b40, b41, b42, b43⟩, _⟩ := blk4 hb4
 obtain ⟨a0, a1, a2, a3, a4, a5⟩ := blk6 hb5
 have hk3 := Kd.C_below hk hbl
 have hnF := hD3.2.2.1.nodup
 clear hb4 hb1 hR hD
 go_wp2_with (go_at_call 15; refine (dev_Crash_any2 _ i _ _ _ _ _ _ Ak ck keep hD3 hk3 hkl (fun a ha => (hkb a ha).imp id (fun h => ⟨fun e => h (Or.inr (Or.inl e)), fun e => h (Or.inr (Or.inr (Or.inr e)))⟩))).mono ?_)
 rintro e w3 ⟨rfl, hD4, hs4⟩
 have hs4 := hs4
 replace hR3 := hR3.step hs4 (ref_dev hR3 hD3)
 replace hD3 := hD4
 replace hs3 := hs3.trans hs4 (fun _ h => h) (fun _ h => Or.inl h)
 replace hb6 := hs4.block hb6 (fun h => by have := hilt _ h; omega)
 replace hsz := Nat.le_trans hsz hs4.size
 replace b40 := hs4.cell b40 (fun h => by have h9 := hilt _ h; dsimp only at h9; omega)
 replace b41 := hs4.cell b41 (fun h => by have h9 := hilt _ h; dsimp only at h9; omega)
 replace b42 := hs4.cell b42 (fun h => by have h9 := hilt _ h; dsimp only at h9; omega)
 replace b43 := hs4.cell b43 (fun h => by have h9 := hilt _ h; dsimp only at h9; omega)
 replace a3 := hs4.cell a3 (fun h => by have h9 := hilt _ h; dsimp only at h9; omega)
 replace hk3 := C_bool_step hk3 hs4 hkb
 clear hs4 hD4
 go_wp2_with (go_at_call 58; refine (ref_Crash _ _ xs F B off fuse nw Ak ck keep hR3 hok hnF hk3 hkl).mono ?_)
 rintro e w4 ⟨v4, rfl, hR4, hb3⟩
 obtain ⟨V, hV⟩ : ∃ V, V = crashV F (keysI F) keep := ⟨_, rfl⟩
 rw [← hV] at hR4 hD3
 obtain ⟨A3, c3, rfl, _⟩ := hR4.reads
 rw [landXs_len] at hR4 ⊢
 replace hD3 := hD3.below hb3
 replace hR3 := hR4
 replace hs3 := hs3.trans (Step.of_below (S := i.In) hb3) (fun _ h => h) (fun _ h => Or.inl h)
 replace hb6 := Stepb hb3 hb6
 replace hsz := Nat.le_trans hsz hb3.size
 clear hk3 hb3 hR4 hbl b40 b41 b42 b43 a0 a1 a2 a3 a4 a5 hV
 obtain ⟨⟨z0, z1, z2, z3⟩, q0, q1, q2, q3⟩ := blk4 hb6
 have hst9 := step_put4 w4 (w.heap.size + 1 + 1) (.slice A3 xs.length c3) (.bool false) (.int .i64 (-1)) (.int .i64 nw)
 have hz9 := put4 hb6 (.slice A3 xs.length c3) (.bool false) (.int .i64 (-1)) (.int .i64 nw)
 have hD9 := hD3.step hst9 (fun k hk e => by have := hilt k hk; omega)
 have hR9 := ref_put4 hR3 hb6 (.slice A3 xs.length c3) (.bool false) (.int .i64 (-1)) (.int .i64 nw)
 have hs9 : Step i.In w _ := hs3.trans hst9 (fun _ h => h) (fun k hk => Or.inr (by omega))
 go_wp2
 refine bodyPost_ret (results_ct rfl _ _ (w.heap.size + 1 + 1) 45 _ (0, 0) _ rfl hz9 Try.underlying45 rfl (by kernel_rfl)) rfl ?_
 exact ⟨_, _, _, _, _, _, _, rfl, hD9, hR9, landXs_len _ _, hs9⟩
set_option maxRecDepth 100000 in
set_option maxHeartbeats 8000000 in
theorem does_3 (w : World) (i : DevIds) (v : Value) (xs : List ByteArray) (F : FL) (B : BL) (off : Bool) (fuse nw : Int) (kd at_ c n by_ : Int) (Ak : Option Addr) (ck : Nat) (keep : List Bool) (hD : DevAt w i xs F B off fuse nw) (hR : RefAt w v xs F B) (hkd : kd = 3) (hn : (Lit.int .i64 n).wf = true) :
  Calls Try.prog 18 #[.pointer (some ⟨i.d, 0, none⟩), .agg #[v, .bool off, .int .i64 fuse, .int .i64 nw], .agg #[.int .i64 kd, .int .i64 at_, .int .u8 c, .slice Ak keep.length ck, .int .i64 n, .int .u32 by_]] w fun e w' => ∃ v' xs' F' B' off' fuse' nw', e = .returned (.tuple #[.agg #[v', .bool off', .int .i64 fuse', .int .i64 nw'], .bool true]) ∧
   DevAt w' i xs' F' B' off' fuse' nw' ∧ RefAt w' v' xs' F' B' ∧ xs'.length = xs.length ∧ Step i.In w w' := by
 subst hkd
 obtain ⟨Av, cv, rfl, _⟩ := hR.reads
 have hilt := hD.lt
 have hok := hD.ok
 have hb1 := Below.refl w.heap.size w
 have hx := does_start w (.cells #[.slice Av xs.length cv, .bool off, .int .i64 fuse, .int .i64 nw] 45) (.cells #[.int .i64 3, .int .i64 at_, .int .u8 c, .slice Ak keep.length ck, .int .i64 n, .int .u32 by_] 32) (.cells #[.slice none 0 0, .bool false, .int .i64 0, .int .i64 0] 45)
 go_enter Try.func18, Try.ntmps18
 go_upto_region 1 with (fail)
 obtain ⟨hbl, hb4, hb5, hb6, hsz⟩ := hx
 generalize ((w.alloc (.cells #[.slice Av xs.length cv, .bool off, .int .i64 fuse, .int .i64 nw] 45)).alloc (.cells #[.int .i64 3, .int .i64 at_, .int .u8 c, .slice Ak keep.length ck, .int .i64 n, .int .u32 by_] 32)).alloc (.cells #[.slice none 0 0, .bool false, .int .i64 0, .int .i64 0] 45) = W at hbl hb4 hb5 hb6 hsz ⊢
 have hD3 := hD.below hbl
 have hR3 := hR.below hbl
 have hs3 : Step i.In w W := Step.of_below hbl
 obtain ⟨⟨b40, b41, b42, b43⟩, _⟩ := blk4 hb4
 obtain ⟨a0, a1, a2, a3, a4, a5⟩ := blk6 hb5
 clear hb4 hb1 hR hD
 go_wp2_with (go_at_call 47; refine (dev_Fuse_any _ i _ _ _ _ _ _ n hD3 hn).mono ?_)
 rintro e w3 ⟨rfl, hD4, hs4⟩
 have hs4 := hs4
 replace hR3 := hR3.step hs4 (ref_dev hR3 hD3)
 replace hD3 := hD4
 replace hs3 := hs3.trans hs4 (fun _ h => h) (fun _ h => Or.inl h)
 replace hb6 := hs4.block hb6 (fun h => by have := hilt _ h; omega)
 replace hsz := Nat.le_trans hsz hs4.size
 replace b40 := hs4.cell b40 (fun h => by have h9 := hilt _ h; dsimp only at h9; omega)
 replace b41 := hs4.cell b41 (fun h => by have h9 := hilt _ h; dsimp only at h9; omega)
 replace b42 := hs4.cell b42 (fun h => by have h9 := hilt _ h; dsimp only at h9; omega)
 replace b43 := hs4.cell b43 (fun h => by have h9 := hilt _ h; dsimp only at h9; omega)
 replace a4 := hs4.cell a4 (fun h => by have h9 := hilt _ h; dsimp only at h9; omega)
 clear hs4 hD4
 go_wp2_with (go_at_call 59; refine (ref_Fuse _ _ xs F B off fuse nw n hR3).mono ?_)
 rintro e w4 ⟨rfl, hb3⟩
 replace hD3 := hD3.below hb3
 replace hR3 := hR3.below hb3
 replace hs3 := hs3.trans (Step.of_below (S := i.In) hb3) (fun _ h => h) (fun _ h => Or.inl h)
 replace hb6 := Stepb hb3 hb6
 replace hsz := Nat.le_trans hsz hb3.size
 clear hb3 hbl b40 b41 b42 b43 a0 a1 a2 a3 a4 a5
 obtain ⟨⟨z0, z1, z2, z3⟩, q0, q1, q2, q3⟩ := blk4 hb6
 have hst9 := step_put4 w4 (w.heap.size + 1 + 1) (.slice Av xs.length cv) (.bool off) (.int .i64 (mx n (-1))) (.int .i64 nw)
 have hz9 := put4 hb6 (.slice Av xs.length cv) (.bool off) (.int .i64 (mx n (-1))) (.int .i64 nw)
 have hD9 := hD3.step hst9 (fun k hk e => by have := hilt k hk; omega)
 have hR9 := ref_put4 hR3 hb6 (.slice Av xs.length cv) (.bool off) (.int .i64 (mx n (-1))) (.int .i64 nw)
 have hs9 : Step i.In w _ := hs3.trans hst9 (fun _ h => h) (fun k hk => Or.inr (by omega))
 go_wp2
 refine bodyPost_ret (results_ct rfl _ _ (w.heap.size + 1 + 1) 45 _ (0, 0) _ rfl hz9 Try.underlying45 rfl (by kernel_rfl)) rfl ?_
 exact ⟨_, _, _, _, _, _, _, rfl, hD9, hR9, rfl, hs9⟩
set_option maxRecDepth 100000 in
set_option maxHeartbeats 8000000 in
theorem does_6 (w : World) (i : DevIds) (v : Value) (xs : List ByteArray) (F : FL) (B : BL) (off : Bool) (fuse nw : Int) (kd at_ c n by_ : Int) (Ak : Option Addr) (ck : Nat) (keep : List Bool) (hD : DevAt w i xs F B off fuse nw) (hR : RefAt w v xs F B) (hkd : kd = 6) :
  Calls Try.prog 18 #[.pointer (some ⟨i.d, 0, none⟩), .agg #[v, .bool off, .int .i64 fuse, .int .i64 nw], .agg #[.int .i64 kd, .int .i64 at_, .int .u8 c, .slice Ak keep.length ck, .int .i64 n, .int .u32 by_]] w fun e w' => ∃ v' xs' F' B' off' fuse' nw', e = .returned (.tuple #[.agg #[v', .bool off', .int .i64 fuse', .int .i64 nw'], .bool true]) ∧
   DevAt w' i xs' F' B' off' fuse' nw' ∧ RefAt w' v' xs' F' B' ∧ xs'.length = xs.length ∧ Step i.In w w' := by
 subst hkd
 obtain ⟨Av, cv, rfl, _⟩ := hR.reads
 have hilt := hD.lt
 have hok := hD.ok
 have hb1 := Below.refl w.heap.size w
 have hx := does_start w (.cells #[.slice Av xs.length cv, .bool off, .int .i64 fuse, .int .i64 nw] 45) (.cells #[.int .i64 6, .int .i64 at_, .int .u8 c, .slice Ak keep.length ck, .int .i64 n, .int .u32 by_] 32) (.cells #[.slice none 0 0, .bool false, .int .i64 0, .int .i64 0] 45)
 go_enter Try.func18, Try.ntmps18
 go_upto_region 1 with (fail)
 obtain ⟨hbl, hb4, hb5, hb6, hsz⟩ := hx
 generalize ((w.alloc (.cells #[.slice Av xs.length cv, .bool off, .int .i64 fuse, .int .i64 nw] 45)).alloc (.cells #[.int .i64 6, .int .i64 at_, .int .u8 c, .slice Ak keep.length ck, .int .i64 n, .int .u32 by_] 32)).alloc (.cells #[.slice none 0 0, .bool false, .int .i64 0, .int .i64 0] 45) = W at hbl hb4 hb5 hb6 hsz ⊢
 have hD3 := hD.below hbl
 have hR3 := hR.below hbl
 have hs3 : Step i.In w W := Step.of_below hbl
 obtain ⟨⟨b40, b41, b42, b43⟩, _⟩ := blk4 hb4
 obtain ⟨a0, a1, a2, a3, a4, a5⟩ := blk6 hb5
 clear hb4 hb1 hR hD
 obtain ⟨rs, rn, hrp⟩ : ∃ rs rn, readP xs F B off at_ = (rs, rn) := ⟨_, _, rfl⟩
 go_wp2_with (go_at_call 62; refine (ref_ReadR hrp _ _ fuse nw hR3).mono ?_)
 rintro e w3 ⟨rfl, hb3⟩
 replace hD3 := hD3.below hb3
 replace hR3 := hR3.below hb3
 replace hs3 := hs3.trans (Step.of_below (S := i.In) hb3) (fun _ h => h) (fun _ h => Or.inl h)
 replace hb6 := Stepb hb3 hb6
 replace hsz := Nat.le_trans hsz hb3.size
 replace b40 := pw_cell_below hb3 b40
 replace b41 := pw_cell_below hb3 b41
 replace b42 := pw_cell_below hb3 b42
 replace b43 := pw_cell_below hb3 b43
 replace a1 := pw_cell_below hb3 a1
 clear hb3
 go_wp2_with (go_at_call 16; refine (dev_ReadR hrp _ i _ _ hD3).mono ?_)
 rintro e w4 ⟨rfl, hs4⟩
 replace hR3 := hR3.step hs4 (fun _ _ h => h)
 replace hD3 := hD3.step hs4 (fun _ _ h => h)
 replace hs3 := hs3.trans hs4 (fun _ h => h) (fun _ h => h.elim)
 replace hb6 := hs4.block hb6 (fun h => h)
 replace b40 := hs4.cell b40 (fun h => h)
 replace b41 := hs4.cell b41 (fun h => h)
 replace b42 := hs4.cell b42 (fun h => h)
 replace b43 := hs4.cell b43 (fun h => h)
 clear hs4 hbl a0 a1 a2 a3 a4 a5
 obtain ⟨⟨z0, z1, z2, z3⟩, q0, q1, q2, q3⟩ := blk4 hb6
 have hst9 := step_put4 w4 (w.heap.size + 1 + 1) (.slice Av xs.length cv) (.bool off) (.int .i64 fuse) (.int .i64 nw)
 have hz9 := put4 hb6 (.slice Av xs.length cv) (.bool off) (.int .i64 fuse) (.int .i64 nw)
 have hD9 := hD3.step hst9 (fun k hk e => by have := hilt k hk; omega)
 have hR9 := ref_put4 hR3 hb6 (.slice Av xs.length cv) (.bool off) (.int .i64 fuse) (.int .i64 nw)
 have hs9 : Step i.In w _ := hs3.trans hst9 (fun _ h => h) (fun k hk => Or.inr (by omega))
 go_wp2
 refine bodyPost_ret (results_ct rfl _ _ (w.heap.size + 1 + 1) 45 _ (0, 0) _ rfl hz9 Try.underlying45 rfl (by kernel_rfl)) rfl ?_
 exact ⟨_, _, _, _, _, _, _, rfl, hD9, hR9, rfl, hs9⟩
end

end Go.Proofs.Ytkdbgdglmbnnkaa.HDR
