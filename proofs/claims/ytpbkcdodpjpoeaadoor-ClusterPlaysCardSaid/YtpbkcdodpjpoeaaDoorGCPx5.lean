/- WRITTEN BY wip/hyb.py, a program of this workplace (out of the kit's printer and this workplace's own contracts). -/
import Derived.Test.YtpbkcdodpjpoeaaDoorGCPx0
import Derived.Test.YtpbkcdodpjpoeaaDoorGCPx1
import Derived.Test.YtpbkcdodpjpoeaaDoorGCPx2
import Derived.Test.YtpbkcdodpjpoeaaDoorGCPx3
import Derived.Test.YtpbkcdodpjpoeaaDoorGCPx4
namespace Go.Proofs.YtpbkcdodpjpoeaaDoor.HCP
open Go.RowKit Go.Proofs.YtpbkcdodpjpoeaaDoorW.PrintWords Go.Proofs.YtpbkcdodpjpoeaaDoorW.PrintLast Go.Proofs.YtpbkcdodpjpoeaaDoorW.PrintMore
attribute [local go_sem] max2_int min2_int max_two min_two max_three min_three max_four min_four   -- for this text's walks alone
set_option linter.unusedVariables false
set_option linter.unusedSimpArgs false

section
open Go Go.Shelf Go.Maps Go.Proofs.YtpbkcdodpjpoeaaDoor.Seq Go.Proofs.YtpbkcdodpjpoeaaDoor.MapL Go.Proofs.YtpbkcdodpjpoeaaDoorW.PrintLast
attribute [local go_sem] Oper.semAt_some max2_int min2_int max_two min_two
theorem landed_any2 (w : World) (x : S71) (hx : x.f2 = true) : Calls Tryd.prog 61 #[.agg #[.string x.f0, .string x.f1, .bool true, .bool x.f3]] w fun e w' => e = .returned (.agg #[.string x.f1, .string ⟨#[]⟩, .bool false, .bool false]) ∧ Below w.heap.size w w' := by
 have := landed_any w x
 rwa [hx] at this
theorem mixRow {w wr : World} {g n cap : Nat} {off : Bool} {left nw : Int} {new old : List S71} {k : Nat} (_h : RunS w wr g n cap off left nw (mixS new old k)) (hk : k < n) {y : S71} {hk3 : k < new.length} (hm : (mixS new old k).set k new[k] = mixS new old (k + 1)) (hy : new[k] = y) :
  ∀ w3, RunS w w3 g n cap off left nw (mixS new old k) → RunS w ((((w3.setCell ⟨g, k * 4, none⟩ (.string y.f0)).setCell ⟨g, k * 4 + 1, none⟩ (.string y.f1)).setCell ⟨g, k * 4 + 2, none⟩ (.bool y.f2)).setCell ⟨g, k * 4 + 3, none⟩ (.bool y.f3)) g n cap off left nw (mixS new old (k + 1)) := fun w3 h3 => by
 have := h3.put k hk y
 rw [← hy, hm] at this
 rw [← hy]
 exact this
set_option maxRecDepth 100000 in
set_option maxHeartbeats 2000000 in
theorem ref_Flush (w : World) (v : Value) (xs : List ByteArray) (F : FL) (B : BL) (off : Bool) (left nw : Int) (h : RefAt w v xs F B) (hok : DevOk xs F B left) :
  Calls Tryd.prog 38 #[.agg #[v, .bool off, .int .i64 left, .int .i64 nw]] w fun e w' => ∃ v' xs' F' B' off' left' why, flushP xs F B off left = (xs', F', B', off', left', why) ∧ e = .returned (.tuple #[.agg #[v', .bool off', .int .i64 left', .int .i64 nw], .int .i64 why]) ∧
   RefAt w' v' xs' F' B' ∧ Below w.heap.size w w' := by
 obtain ⟨A, c, rfl, hc, hC⟩ := h.reads
 obtain ⟨k1, k2, _, _, _, _, _, k3, k4⟩ := hok
 obtain ⟨xs', F', B', off', left', why, hq⟩ : ∃ xs' F' B' off' left' why, flushP xs F B off left = (xs', F', B', off', left', why) := ⟨_, _, _, _, _, _, rfl⟩
 cases off
 ·by_cases hl : left = 0
  ·subst hl
   rw [show flushP xs F B false 0 = (xs, F, B, true, 0, 12) by simp [flushP, burnP]] at hq
   simp only [Prod.mk.injEq] at hq
   obtain ⟨rfl, rfl, rfl, rfl, rfl, rfl⟩ := hq
   go_enter Tryd.func38, Tryd.ntmps38
   go_wp2
   refine bodyPost_ret (results_ct rfl _ _ (w.heap.size + 1) 41 _ (0, 0) _ rfl (new2 w _ _) Tryd.underlying41 rfl (by kernel_rfl)) rfl ?_
   exact ⟨_, _, _, _, _, _, _, by simp [flushP, burnP], rfl, h.below (below2 w _ _), below2 w _ _⟩
  ·have e2 : (left == 0) = false := by simpa using hl
   rw [show flushP xs F B false left = (landXs xs F, [], landB B F, false, if 0 < left then left - 1 else left, 0) by by_cases h0 : 0 < left <;> simp [flushP, burnP, hl, h0]] at hq
   simp only [Prod.mk.injEq] at hq
   obtain ⟨rfl, rfl, rfl, rfl, rfl, rfl⟩ := hq
   have hfin : flushP xs F B false left = (landXs xs F, [], landB B F, false, if 0 < left then left - 1 else left, 0) := by by_cases h0 : 0 < left <;> simp [flushP, burnP, hl, h0]
   by_cases h0 : 0 < left
   ·have e3 : decide (0 < left) = true := decide_eq_true h0
    rw [if_pos h0] at hfin
    have hE := empty_row ((w.alloc (.cells #[.slice A xs.length c, .bool false, .int .i64 (left - 1), .int .i64 nw] 41)).alloc (.cells #[.slice none 0 0, .bool false, .int .i64 0, .int .i64 0] 41)) w.heap.size (below2 w (.cells #[.slice A xs.length c, .bool false, .int .i64 (left - 1), .int .i64 nw] 41) (.cells #[.slice none 0 0, .bool false, .int .i64 0, .int .i64 0] 41)).size
    have hb3 : Below w.heap.size w (((w.alloc (.cells #[.slice A xs.length c, .bool false, .int .i64 (left - 1), .int .i64 nw] 41)).alloc (.cells #[.slice none 0 0, .bool false, .int .i64 0, .int .i64 0] 41)).alloc (.cells #[] 71)) := (below2 w (.cells #[.slice A xs.length c, .bool false, .int .i64 (left - 1), .int .i64 nw] 41) (.cells #[.slice none 0 0, .bool false, .int .i64 0, .int .i64 0] 41)).alloc (below2 w (.cells #[.slice A xs.length c, .bool false, .int .i64 (left - 1), .int .i64 nw] 41) (.cells #[.slice none 0 0, .bool false, .int .i64 0, .int .i64 0] 41)).size _
    have hy0 : (((w.alloc (.cells #[.slice A xs.length c, .bool false, .int .i64 (left - 1), .int .i64 nw] 41)).alloc (.cells #[.slice none 0 0, .bool false, .int .i64 0, .int .i64 0] 41)).alloc (.cells #[] 71)).heap[w.heap.size]? = _ := (Step.alloc (fun _ => False) _ _).block (new1of2 w (.cells #[.slice A xs.length c, .bool false, .int .i64 (left - 1), .int .i64 nw] 41) (.cells #[.slice none 0 0, .bool false, .int .i64 0, .int .i64 0] 41)) (fun h => h)
    have hy1 : (((w.alloc (.cells #[.slice A xs.length c, .bool false, .int .i64 (left - 1), .int .i64 nw] 41)).alloc (.cells #[.slice none 0 0, .bool false, .int .i64 0, .int .i64 0] 41)).alloc (.cells #[] 71)).heap[w.heap.size + 1]? = _ := (Step.alloc (fun _ => False) _ _).block (new2 w (.cells #[.slice A xs.length c, .bool false, .int .i64 (left - 1), .int .i64 nw] 41) (.cells #[.slice none 0 0, .bool false, .int .i64 0, .int .i64 0] 41)) (fun h => h)
    have hC3 := Kd.C_below hC hb3
    rw [World.size_alloc, World.size_alloc] at hE
    go_enter Tryd.func38, Tryd.ntmps38
    go_wp2_with (at_builtin; refine Kd.R_append_rows k71 (w0 := w) w.heap.size rfl (.tmp 21) (.tmp 23) 39 71 (.agg #[(.string ⟨#[]⟩), (.string ⟨#[]⟩), (.bool false), (.bool false)]) 40 rfl Tryd.underlying39 info71 rfl (by decide) (by omega) _ [] (refS xs F B) _ _ _ (fun _ => True) (fun _ => False) rfl rfl hE hC3 (fun _ _ h => h) (fun _ h => h.elim) (fun _ _ => trivial) hb3 hb3.size ?aL ?_; (case aL => simp only [List.length_nil]; omega))
    intro v1 w1 hR1 hB1 hgr _
    have hx0 := blk_grown hy0 hgr (by simp [Value.ownBlock]; omega)
    have hx1 := blk_grown hy1 hgr (by simp [Value.ownBlock])
    obtain ⟨inner, hown⟩ := Kd.R_own hR1
    rw [refS_len] at hown
    obtain ⟨g, cap, rfl, hg0, hg1, _⟩ := ownsRow_form hown (by omega)
    clear hy0 hy1 hb3 hE hC3 hC hgr hown
    obtain ⟨⟨c00, c01, c02, c03⟩, f00, f01, f02, f03⟩ := blk4 hx0
    have hrs0 := RunS.mk (refS_len xs F B) (blk_set hx0 0 (.slice (some ⟨g, 0, none⟩) xs.length cap)) (blk_far hx1 (p := ⟨w.heap.size, 0, none⟩) (by simp) _) (R103_step (ok' := fun _ => True) (Kd.R_lower hR1 (Nat.zero_le _)) (Step.setCell w1 (p := ⟨w.heap.size, 0, none⟩) (S := fun k => k = w.heap.size) rfl _) (fun q hq e => own103_ne hR1 hx0 (fun cur e => by cases e) (by rw [hq, e])) (fun _ _ => trivial)) (hB1.setCell (p := ⟨w.heap.size, 0, none⟩) (Nat.le_refl _) _) hg0
    go_wp2_with fail
    clear hx0 hx1 hR1 hB1 c00 c01 c02 c03 f00 f01 f02 f03 hg1
    go_loopw [29] (fun t29 wr => ∃ k, k ≤ xs.length ∧ t29 = .int .i64 k ∧ RunS w wr g xs.length cap false (left - 1) nw (mixS (refS (landXs xs F) [] (landB B F)) (refS xs F B) k)) (fun t29 _ => xs.length - (intOf t29).toNat)
    case atStart => exact ⟨0, Nat.zero_le _, rfl, by rw [mixS_zero]; exact hrs0⟩
    case round =>
     obtain ⟨k, hk, rfl, hS⟩ := hrel
     clear hrs0
     have hnl : (refS (landXs xs F) [] (landB B F)).length = (refS xs F B).length := by rw [refS_len, refS_len, landXs_len]
     by_cases hlt : k < xs.length
     ·have hk2 : k < (refS xs F B).length := by rw [refS_len]; exact hlt
      obtain ⟨x, hx⟩ : ∃ x, (refS xs F B)[k] = x := ⟨_, rfl⟩
      have hM := mixS_at hnl hk2
      rw [hx] at hM
      obtain ⟨⟨x0, x1, x2, x3⟩, _⟩ := hS.cells hM
      have hst := flush_step xs F B k hk2 (by rw [hnl]; exact hk2)
      rw [hx] at hst
      have hm1 := mixS_set hnl hk2
      have hm2 := mixS_keep hnl hk2
      have hk0 : (0 : Int) ≤ (k : Int) := by omega
      have hk1 : (k : Int) < (xs.length : Int) := by omega
      have d1 : decide ((k : Int) < (xs.length : Int)) = true := decide_eq_true hk1
      have hSa := hS.below ((Below.refl _ _).alloc (Nat.le_refl _) (.cells #[.string x.f0, .string x.f1, .bool x.f2, .bool x.f3] 71))
      cases hw : x.f2
      ·rw [hw] at x2 hSa
       go_wp2
       rw [hm2 ((hst.2 hw).trans hx.symm)] at hSa
       exact ⟨⟨k + 1, by omega, by simp, hSa⟩, by simp [intOf]; omega⟩
      ·rw [hw] at x2 hSa
       have hmr := mixRow hS hlt hm1 (hst.1 hw)
       clear hm1 hm2 hst hS hx
       go_wp2_with fail
       have hxa := World.alloc_heap_new wr (.cells #[.string x.f0, .string x.f1, .bool true, .bool x.f3] 71)
       generalize wr.alloc (.cells #[.string x.f0, .string x.f1, .bool true, .bool x.f3] 71) = wa at hSa hxa ⊢
       clear x0 x1 x2 x3
       have hSd : RunS w wa.drew _ _ _ _ _ _ _ := hSa.below (below_drew1 (Below.refl _ _))
       have hxb : wa.drew.heap[wr.heap.size]? = some (.cells #[.string x.f0, .string x.f1, .bool true, .bool x.f3] 71 (0, 0)) := hxa
       obtain ⟨⟨b0, _⟩, _⟩ := blk4 hSd.bx
       obtain ⟨⟨y0, y1, y2, y3⟩, _⟩ := blk4 hxb
       refine start_ (n := 7) (S := fun w' => w'.cell? ⟨w.heap.size, 0, none⟩ = some (.slice (some ⟨g, 0, none⟩) xs.length cap) ∧ w'.cell? ⟨wr.heap.size, 0, none⟩ = some (.string x.f0) ∧ w'.cell? ⟨wr.heap.size, 1, none⟩ = some (.string x.f1) ∧ w'.cell? ⟨wr.heap.size, 2, none⟩ = some (.bool true) ∧ w'.cell? ⟨wr.heap.size, 3, none⟩ = some (.bool x.f3) ∧ RunS w w' g xs.length cap false (left - 1) nw (mixS (refS (landXs xs F) [] (landB B F)) (refS xs F B) k)) (ds := [6]) #[false, false, false, false, false, false, false] (by kernel_rfl) rfl rfl ⟨b0, y0, y1, y2, y3, hSd⟩ (fun hHeld => ?_)
       refine pure_ (i := 0) (N := some 36) (v := ?_) (a' := ?_) #[true, false, false, false, false, false, false] rfl rfl (by kernel_rfl) (fun _ _ _ h => h) (Or.inl ⟨by rfl, ?_⟩) ?_ ?_
       rotate_left
       ·intro w'
        go_simp
        with_reducible rfl
       rotate_left
       ·simp only [Act.put, List.setIfInBounds_toArray, List.set_cons_zero, List.set_cons_succ, i64_w, i32_w]
        rfl
       refine pure_ (i := 2) (N := some 38) (v := ?_) (a' := ?_) #[true, false, true, false, false, false, false] rfl rfl (by kernel_rfl) (fun _ _ _ h => h) (Or.inl ⟨by rfl, ?_⟩) ?_ ?_
       rotate_left
       ·intro w'
        go_simp
        with_reducible rfl
       rotate_left
       ·simp only [Act.put, List.setIfInBounds_toArray, List.set_cons_zero, List.set_cons_succ, i64_w, i32_w]
        rfl
       refine take_ (i := 1) (N := some 37) (v := ?_) (a' := ?_) #[true, true, true, false, false, false, false] rfl rfl (by kernel_rfl) (fun _ _ _ h => h) (Or.inl ⟨by rfl, ?_⟩) hHeld ?_ ?_
       rotate_left
       ·rintro w' ⟨s0, s1, s2, s3, s4, s5⟩
        go_simp
        with_reducible rfl
       rotate_left
       ·simp only [Act.put, List.setIfInBounds_toArray, List.set_cons_zero, List.set_cons_succ, i64_w, i32_w]
        rfl
       refine take_ (i := 3) (N := some 39) (v := ?_) (a' := ?_) #[true, true, true, true, false, false, false] rfl rfl (by kernel_rfl) (fun _ _ _ h => h) (Or.inl ⟨by rfl, ?_⟩) hHeld ?_ ?_
       rotate_left
       ·rintro w' ⟨s0, s1, s2, s3, s4, s5⟩
        go_simp
        with_reducible rfl
       rotate_left
       ·simp only [Act.put, List.setIfInBounds_toArray, List.set_cons_zero, List.set_cons_succ, i64_w, i32_w]
        rfl
       refine one_ (i := 4) (N := some 40) #[true, true, true, true, true, false, false] rfl rfl (by kernel_rfl) (by decide) (fun K hK => ?_)
       refine goes_ Tryd.func61 (by kernel_rfl) rfl #[.agg #[.string x.f0, .string x.f1, .bool true, .bool x.f3]] (by rfl) rfl rfl (by simp only [List.map_toArray, List.map_cons, List.map_nil]; rfl) ?_
       with_reducible refine (landed_any2 _ x hw).mono ?_
       rintro e w3 ⟨rfl, hb3⟩
       refine ⟨_, rfl, ?_⟩
       refine hK.out _ _ ⟨pw_cell_below hb3 hHeld.1, pw_cell_below hb3 hHeld.2.1, pw_cell_below hb3 hHeld.2.2.1, pw_cell_below hb3 hHeld.2.2.2.1, pw_cell_below hb3 hHeld.2.2.2.2.1, hHeld.2.2.2.2.2.below hb3⟩ (fun hHeld => ?_)
       clear hK K
       refine norm_ (a' := ?_) ?_ ?_
       rotate_left
       ·show Act.put _ (some 40) _ = _
        simp only [Act.put, List.setIfInBounds_toArray, List.set_cons_zero, List.set_cons_succ, i64_w, i32_w]
        rfl
       refine pure_ (i := 5) (N := some 41) (v := ?_) (a' := ?_) #[true, true, true, true, true, true, false] rfl rfl (by kernel_rfl) (fun _ _ _ h => h) (Or.inl ⟨by rfl, ?_⟩) ?_ ?_
       rotate_left
       ·intro w'
        go_simp
        with_reducible rfl
       rotate_left
       ·simp only [Act.put, List.setIfInBounds_toArray, List.set_cons_zero, List.set_cons_succ, i64_w, i32_w]
        rfl
       refine last_ (i := 6) (N := none) #[true, true, true, true, true, true, true] rfl rfl (by kernel_rfl) (by decide) (fun K hK => ?_)
       obtain ⟨⟨z0, z1, z2, z3⟩, q0, q1, q2, q3⟩ := hHeld.2.2.2.2.2.cells hM
       refine skip_ (w1 := ?_) (by rfl) rfl ?_ ?_
       rotate_left
       ·go_simp
        rfl
       refine hK.out _ _ ?_
       clear hK K
       refine done_ (by kernel_rfl) ?_
       have hS4 := hmr _ hHeld.2.2.2.2.2
       clear hHeld
       go_wp2
       exact ⟨⟨k + 1, by omega, by simp, hS4⟩, by simp [intOf]; omega⟩
     ·have ek : k = xs.length := by omega
      subst ek
      have hrow := hS.row
      have hma : mixS (refS (landXs xs F) [] (landB B F)) (refS xs F B) xs.length = refS (landXs xs F) [] (landB B F) := by
       have := mixS_all hnl
       rwa [refS_len] at this
      rw [hma] at hrow
      obtain ⟨⟨b0, b1, b2, b3⟩, _⟩ := blk4 hS.bx
      have hzs := hS.rs
      have hbl := hS.bl
      obtain ⟨⟨d10, d11, d12, d13⟩, g10, g11, g12, g13⟩ := blk4 hzs
      clear hma hS hnl
      go_wp2
      refine bodyPost_ret (results_ct rfl _ _ (w.heap.size + 1) 41 _ (0, 0) _ rfl (put4 hzs _ _ _ _) Tryd.underlying41 rfl (by kernel_rfl)) rfl ?_
      exact ⟨_, _, _, _, _, _, _, hfin, rfl, ref_put4 hrow hzs _ _ _ _, below_put4 hbl (by omega) _ _ _ _⟩
   ·have e3 : decide (0 < left) = false := decide_eq_false h0
    rw [if_neg h0] at hfin
    have hE := empty_row ((w.alloc (.cells #[.slice A xs.length c, .bool false, .int .i64 left, .int .i64 nw] 41)).alloc (.cells #[.slice none 0 0, .bool false, .int .i64 0, .int .i64 0] 41)) w.heap.size (below2 w (.cells #[.slice A xs.length c, .bool false, .int .i64 left, .int .i64 nw] 41) (.cells #[.slice none 0 0, .bool false, .int .i64 0, .int .i64 0] 41)).size
    have hb3 : Below w.heap.size w (((w.alloc (.cells #[.slice A xs.length c, .bool false, .int .i64 left, .int .i64 nw] 41)).alloc (.cells #[.slice none 0 0, .bool false, .int .i64 0, .int .i64 0] 41)).alloc (.cells #[] 71)) := (below2 w (.cells #[.slice A xs.length c, .bool false, .int .i64 left, .int .i64 nw] 41) (.cells #[.slice none 0 0, .bool false, .int .i64 0, .int .i64 0] 41)).alloc (below2 w (.cells #[.slice A xs.length c, .bool false, .int .i64 left, .int .i64 nw] 41) (.cells #[.slice none 0 0, .bool false, .int .i64 0, .int .i64 0] 41)).size _
    have hy0 : (((w.alloc (.cells #[.slice A xs.length c, .bool false, .int .i64 left, .int .i64 nw] 41)).alloc (.cells #[.slice none 0 0, .bool false, .int .i64 0, .int .i64 0] 41)).alloc (.cells #[] 71)).heap[w.heap.size]? = _ := (Step.alloc (fun _ => False) _ _).block (new1of2 w (.cells #[.slice A xs.length c, .bool false, .int .i64 left, .int .i64 nw] 41) (.cells #[.slice none 0 0, .bool false, .int .i64 0, .int .i64 0] 41)) (fun h => h)
    have hy1 : (((w.alloc (.cells #[.slice A xs.length c, .bool false, .int .i64 left, .int .i64 nw] 41)).alloc (.cells #[.slice none 0 0, .bool false, .int .i64 0, .int .i64 0] 41)).alloc (.cells #[] 71)).heap[w.heap.size + 1]? = _ := (Step.alloc (fun _ => False) _ _).block (new2 w (.cells #[.slice A xs.length c, .bool false, .int .i64 left, .int .i64 nw] 41) (.cells #[.slice none 0 0, .bool false, .int .i64 0, .int .i64 0] 41)) (fun h => h)
    have hC3 := Kd.C_below hC hb3
    rw [World.size_alloc, World.size_alloc] at hE
    go_enter Tryd.func38, Tryd.ntmps38
    go_wp2_with (at_builtin; refine Kd.R_append_rows k71 (w0 := w) w.heap.size rfl (.tmp 21) (.tmp 23) 39 71 (.agg #[(.string ⟨#[]⟩), (.string ⟨#[]⟩), (.bool false), (.bool false)]) 40 rfl Tryd.underlying39 info71 rfl (by decide) (by omega) _ [] (refS xs F B) _ _ _ (fun _ => True) (fun _ => False) rfl rfl hE hC3 (fun _ _ h => h) (fun _ h => h.elim) (fun _ _ => trivial) hb3 hb3.size ?aL ?_; (case aL => simp only [List.length_nil]; omega))
    intro v1 w1 hR1 hB1 hgr _
    have hx0 := blk_grown hy0 hgr (by simp [Value.ownBlock]; omega)
    have hx1 := blk_grown hy1 hgr (by simp [Value.ownBlock])
    obtain ⟨inner, hown⟩ := Kd.R_own hR1
    rw [refS_len] at hown
    obtain ⟨g, cap, rfl, hg0, hg1, _⟩ := ownsRow_form hown (by omega)
    clear hy0 hy1 hb3 hE hC3 hC hgr hown
    obtain ⟨⟨c00, c01, c02, c03⟩, f00, f01, f02, f03⟩ := blk4 hx0
    have hrs0 := RunS.mk (refS_len xs F B) (blk_set hx0 0 (.slice (some ⟨g, 0, none⟩) xs.length cap)) (blk_far hx1 (p := ⟨w.heap.size, 0, none⟩) (by simp) _) (R103_step (ok' := fun _ => True) (Kd.R_lower hR1 (Nat.zero_le _)) (Step.setCell w1 (p := ⟨w.heap.size, 0, none⟩) (S := fun k => k = w.heap.size) rfl _) (fun q hq e => own103_ne hR1 hx0 (fun cur e => by cases e) (by rw [hq, e])) (fun _ _ => trivial)) (hB1.setCell (p := ⟨w.heap.size, 0, none⟩) (Nat.le_refl _) _) hg0
    go_wp2_with fail
    clear hx0 hx1 hR1 hB1 c00 c01 c02 c03 f00 f01 f02 f03 hg1
    go_loopw [29] (fun t29 wr => ∃ k, k ≤ xs.length ∧ t29 = .int .i64 k ∧ RunS w wr g xs.length cap false left nw (mixS (refS (landXs xs F) [] (landB B F)) (refS xs F B) k)) (fun t29 _ => xs.length - (intOf t29).toNat)
    case atStart => exact ⟨0, Nat.zero_le _, rfl, by rw [mixS_zero]; exact hrs0⟩
    case round =>
     obtain ⟨k, hk, rfl, hS⟩ := hrel
     clear hrs0
     have hnl : (refS (landXs xs F) [] (landB B F)).length = (refS xs F B).length := by rw [refS_len, refS_len, landXs_len]
     by_cases hlt : k < xs.length
     ·have hk2 : k < (refS xs F B).length := by rw [refS_len]; exact hlt
      obtain ⟨x, hx⟩ : ∃ x, (refS xs F B)[k] = x := ⟨_, rfl⟩
      have hM := mixS_at hnl hk2
      rw [hx] at hM
      obtain ⟨⟨x0, x1, x2, x3⟩, _⟩ := hS.cells hM
      have hst := flush_step xs F B k hk2 (by rw [hnl]; exact hk2)
      rw [hx] at hst
      have hm1 := mixS_set hnl hk2
      have hm2 := mixS_keep hnl hk2
      have hk0 : (0 : Int) ≤ (k : Int) := by omega
      have hk1 : (k : Int) < (xs.length : Int) := by omega
      have d1 : decide ((k : Int) < (xs.length : Int)) = true := decide_eq_true hk1
      have hSa := hS.below ((Below.refl _ _).alloc (Nat.le_refl _) (.cells #[.string x.f0, .string x.f1, .bool x.f2, .bool x.f3] 71))
      cases hw : x.f2
      ·rw [hw] at x2 hSa
       go_wp2
       rw [hm2 ((hst.2 hw).trans hx.symm)] at hSa
       exact ⟨⟨k + 1, by omega, by simp, hSa⟩, by simp [intOf]; omega⟩
      ·rw [hw] at x2 hSa
       have hmr := mixRow hS hlt hm1 (hst.1 hw)
       clear hm1 hm2 hst hS hx
       go_wp2_with fail
       have hxa := World.alloc_heap_new wr (.cells #[.string x.f0, .string x.f1, .bool true, .bool x.f3] 71)
       generalize wr.alloc (.cells #[.string x.f0, .string x.f1, .bool true, .bool x.f3] 71) = wa at hSa hxa ⊢
       clear x0 x1 x2 x3
       have hSd : RunS w wa.drew _ _ _ _ _ _ _ := hSa.below (below_drew1 (Below.refl _ _))
       have hxb : wa.drew.heap[wr.heap.size]? = some (.cells #[.string x.f0, .string x.f1, .bool true, .bool x.f3] 71 (0, 0)) := hxa
       obtain ⟨⟨b0, _⟩, _⟩ := blk4 hSd.bx
       obtain ⟨⟨y0, y1, y2, y3⟩, _⟩ := blk4 hxb
       refine start_ (n := 7) (S := fun w' => w'.cell? ⟨w.heap.size, 0, none⟩ = some (.slice (some ⟨g, 0, none⟩) xs.length cap) ∧ w'.cell? ⟨wr.heap.size, 0, none⟩ = some (.string x.f0) ∧ w'.cell? ⟨wr.heap.size, 1, none⟩ = some (.string x.f1) ∧ w'.cell? ⟨wr.heap.size, 2, none⟩ = some (.bool true) ∧ w'.cell? ⟨wr.heap.size, 3, none⟩ = some (.bool x.f3) ∧ RunS w w' g xs.length cap false left nw (mixS (refS (landXs xs F) [] (landB B F)) (refS xs F B) k)) (ds := [6]) #[false, false, false, false, false, false, false] (by kernel_rfl) rfl rfl ⟨b0, y0, y1, y2, y3, hSd⟩ (fun hHeld => ?_)
       refine pure_ (i := 0) (N := some 36) (v := ?_) (a' := ?_) #[true, false, false, false, false, false, false] rfl rfl (by kernel_rfl) (fun _ _ _ h => h) (Or.inl ⟨by rfl, ?_⟩) ?_ ?_
       rotate_left
       ·intro w'
        go_simp
        with_reducible rfl
       rotate_left
       ·simp only [Act.put, List.setIfInBounds_toArray, List.set_cons_zero, List.set_cons_succ, i64_w, i32_w]
        rfl
       refine pure_ (i := 2) (N := some 38) (v := ?_) (a' := ?_) #[true, false, true, false, false, false, false] rfl rfl (by kernel_rfl) (fun _ _ _ h => h) (Or.inl ⟨by rfl, ?_⟩) ?_ ?_
       rotate_left
       ·intro w'
        go_simp
        with_reducible rfl
       rotate_left
       ·simp only [Act.put, List.setIfInBounds_toArray, List.set_cons_zero, List.set_cons_succ, i64_w, i32_w]
        rfl
       refine take_ (i := 1) (N := some 37) (v := ?_) (a' := ?_) #[true, true, true, false, false, false, false] rfl rfl (by kernel_rfl) (fun _ _ _ h => h) (Or.inl ⟨by rfl, ?_⟩) hHeld ?_ ?_
       rotate_left
       ·rintro w' ⟨s0, s1, s2, s3, s4, s5⟩
        go_simp
        with_reducible rfl
       rotate_left
       ·simp only [Act.put, List.setIfInBounds_toArray, List.set_cons_zero, List.set_cons_succ, i64_w, i32_w]
        rfl
       refine take_ (i := 3) (N := some 39) (v := ?_) (a' := ?_) #[true, true, true, true, false, false, false] rfl rfl (by kernel_rfl) (fun _ _ _ h => h) (Or.inl ⟨by rfl, ?_⟩) hHeld ?_ ?_
       rotate_left
       ·rintro w' ⟨s0, s1, s2, s3, s4, s5⟩
        go_simp
        with_reducible rfl
       rotate_left
       ·simp only [Act.put, List.setIfInBounds_toArray, List.set_cons_zero, List.set_cons_succ, i64_w, i32_w]
        rfl
       refine one_ (i := 4) (N := some 40) #[true, true, true, true, true, false, false] rfl rfl (by kernel_rfl) (by decide) (fun K hK => ?_)
       refine goes_ Tryd.func61 (by kernel_rfl) rfl #[.agg #[.string x.f0, .string x.f1, .bool true, .bool x.f3]] (by rfl) rfl rfl (by simp only [List.map_toArray, List.map_cons, List.map_nil]; rfl) ?_
       with_reducible refine (landed_any2 _ x hw).mono ?_
       rintro e w3 ⟨rfl, hb3⟩
       refine ⟨_, rfl, ?_⟩
       refine hK.out _ _ ⟨pw_cell_below hb3 hHeld.1, pw_cell_below hb3 hHeld.2.1, pw_cell_below hb3 hHeld.2.2.1, pw_cell_below hb3 hHeld.2.2.2.1, pw_cell_below hb3 hHeld.2.2.2.2.1, hHeld.2.2.2.2.2.below hb3⟩ (fun hHeld => ?_)
       clear hK K
       refine norm_ (a' := ?_) ?_ ?_
       rotate_left
       ·show Act.put _ (some 40) _ = _
        simp only [Act.put, List.setIfInBounds_toArray, List.set_cons_zero, List.set_cons_succ, i64_w, i32_w]
        rfl
       refine pure_ (i := 5) (N := some 41) (v := ?_) (a' := ?_) #[true, true, true, true, true, true, false] rfl rfl (by kernel_rfl) (fun _ _ _ h => h) (Or.inl ⟨by rfl, ?_⟩) ?_ ?_
       rotate_left
       ·intro w'
        go_simp
        with_reducible rfl
       rotate_left
       ·simp only [Act.put, List.setIfInBounds_toArray, List.set_cons_zero, List.set_cons_succ, i64_w, i32_w]
        rfl
       refine last_ (i := 6) (N := none) #[true, true, true, true, true, true, true] rfl rfl (by kernel_rfl) (by decide) (fun K hK => ?_)
       obtain ⟨⟨z0, z1, z2, z3⟩, q0, q1, q2, q3⟩ := hHeld.2.2.2.2.2.cells hM
       refine skip_ (w1 := ?_) (by rfl) rfl ?_ ?_
       rotate_left
       ·go_simp
        rfl
       refine hK.out _ _ ?_
       clear hK K
       refine done_ (by kernel_rfl) ?_
       have hS4 := hmr _ hHeld.2.2.2.2.2
       clear hHeld
       go_wp2
       exact ⟨⟨k + 1, by omega, by simp, hS4⟩, by simp [intOf]; omega⟩
     ·have ek : k = xs.length := by omega
      subst ek
      have hrow := hS.row
      have hma : mixS (refS (landXs xs F) [] (landB B F)) (refS xs F B) xs.length = refS (landXs xs F) [] (landB B F) := by
       have := mixS_all hnl
       rwa [refS_len] at this
      rw [hma] at hrow
      obtain ⟨⟨b0, b1, b2, b3⟩, _⟩ := blk4 hS.bx
      have hzs := hS.rs
      have hbl := hS.bl
      obtain ⟨⟨d10, d11, d12, d13⟩, g10, g11, g12, g13⟩ := blk4 hzs
      clear hma hS hnl
      go_wp2
      refine bodyPost_ret (results_ct rfl _ _ (w.heap.size + 1) 41 _ (0, 0) _ rfl (put4 hzs _ _ _ _) Tryd.underlying41 rfl (by kernel_rfl)) rfl ?_
      exact ⟨_, _, _, _, _, _, _, hfin, rfl, ref_put4 hrow hzs _ _ _ _, below_put4 hbl (by omega) _ _ _ _⟩
 ·rw [show flushP xs F B true left = (xs, F, B, true, left, 12) by simp [flushP]] at hq
  simp only [Prod.mk.injEq] at hq
  obtain ⟨rfl, rfl, rfl, rfl, rfl, rfl⟩ := hq
  go_enter Tryd.func38, Tryd.ntmps38
  go_wp2
  refine bodyPost_ret (results_ct rfl _ _ (w.heap.size + 1) 41 _ (0, 0) _ rfl (new2 w _ _) Tryd.underlying41 rfl (by kernel_rfl)) rfl ?_
  exact ⟨_, _, _, _, _, _, _, by simp [flushP], rfl, h.below (below2 w _ _), below2 w _ _⟩
def waitL (n : Nat) (F : FL) : List Int := ((List.range n).filter fun j : Nat => (getL (j : Int) F).isSome).map fun j : Nat => (j : Int)
theorem waitL_succ (n : Nat) (F : FL) : waitL (n + 1) F = waitL n F ++ if (getL (n : Int) F).isSome = true then [(n : Int)] else [] := by
 unfold waitL
 rw [List.range_succ, List.filter_append, List.map_append]
 cases hg : getL (n : Int) F <;> simp [hg, List.filter_cons]
theorem waitL_mem {n : Nat} {F : FL} {x : Int} : x ∈ waitL n F ↔ 0 ≤ x ∧ x < n ∧ (getL x F).isSome = true := by
 unfold waitL
 simp only [List.mem_map, List.mem_filter, List.mem_range]
 constructor
 ·rintro ⟨j, ⟨h1, h2⟩, rfl⟩; exact ⟨by omega, by omega, h2⟩
 ·rintro ⟨h0, h1, h2⟩; exact ⟨x.toNat, ⟨by omega, by rw [show ((x.toNat : Nat) : Int) = x by omega]; exact h2⟩, by omega⟩
theorem waitL_sorted (n : Nat) (F : FL) : (waitL n F).Pairwise (· < ·) := by
 unfold waitL
 rw [List.pairwise_map]
 refine (List.Pairwise.filter _ List.pairwise_lt_range).imp (fun h => by omega)
theorem keys_is {β : Type} {F : List (Int × β)} {L : List Int} (hn : NodupK F) (hs : L.Pairwise (· < ·)) (hm : ∀ x, x ∈ L ↔ (getL x F).isSome = true) : keysI F = L := by
 refine List.Perm.eq_of_pairwise (le := (· ≤ ·)) (fun a b _ _ h1 h2 => Int.le_antisymm h1 h2) (sortI_sorted _) (hs.imp (fun h => by omega)) ((sortI_perm _).trans ((List.perm_ext_iff_of_nodup hn (hs.imp (fun h => by omega))).2 (fun x => ?_)))
 rw [hm]
 constructor
 ·intro h
  cases hg : getL x F with
  | none => exact absurd h (getL_none.1 hg)
  | some v => rfl
 ·intro h
  obtain ⟨v, hv⟩ := Option.isSome_iff_exists.1 h
  exact List.mem_map.2 ⟨_, getL_mem hv, rfl⟩
theorem keysI_wait {n : Nat} {F : FL} (hn : NodupK F) (hF : ∀ q ∈ F, 0 ≤ q.1 ∧ q.1 < (n : Int) ∧ q.2.size = 512) : keysI F = waitL n F :=
 keys_is hn (waitL_sorted n F) (fun x => by
  rw [waitL_mem]
  constructor
  ·exact fun h => h.2.2
  ·intro h
   obtain ⟨v, hv⟩ := Option.isSome_iff_exists.1 h
   have := hF _ (getL_mem hv)
   exact ⟨this.1, this.2.1, h⟩)
theorem getL_append {x : Int} {β : Type} : ∀ (L M : List (Int × β)), getL x (L ++ M) = match getL x L with | some v => some v | none => getL x M
 | [], M => by simp [getL]
 | p :: L, M => by
  rw [List.cons_append, getL, getL]
  by_cases e : p.1 = x
  ·rw [if_pos e, if_pos e]
  ·rw [if_neg e, if_neg e]; exact getL_append L M
theorem crashV_none (F : FL) (ids : List Int) (keep : List Bool) {x : Int} (hx : x ∉ ids) : getL x (crashV F ids keep) = none :=
 getL_none.2 (fun h => by
  obtain ⟨q, hq, e⟩ := List.mem_map.1 h
  exact hx (e ▸ (crashV_keys F ids keep q hq).1))
theorem crashV_get (F : FL) : ∀ (ids : List Int) (keep : List Bool) (n : Nat) (x : Int), ids.Nodup → ids[n]? = some x → getL x (crashV F ids keep) = if keep.getD n false = true then some ((getL x F).getD ⟨#[]⟩) else none
 | [], keep, n, x, _, h => by simp at h
 | y :: ids, [], n, x, _, h => by simp [crashV, getL]
 | y :: ids, b :: keep, 0, x, hn, h => by
  simp at h
  subst h
  rw [crashV, getL_append]
  cases b
  ·simp [getL, crashV_none F ids keep (List.nodup_cons.1 hn).1]
  ·simp [getL]
 | y :: ids, b :: keep, n + 1, x, hn, h => by
  have hx : x ∈ ids := List.mem_of_getElem? (by simpa using h)
  have hxy : y ≠ x := fun e => (List.nodup_cons.1 hn).1 (e ▸ hx)
  have ih := crashV_get F ids keep n x (List.nodup_cons.1 hn).2 (by simpa using h)
  rw [crashV, getL_append, List.getD_cons_succ, ← ih]
  cases b
  ·simp [getL]
  ·simp [getL, hxy]
theorem crash_step {xs : List ByteArray} {F : FL} {B : BL} {keep : List Bool} {V : FL} (hV : V = crashV F (keysI F) keep) (hn : NodupK F) (hF : ∀ q ∈ F, 0 ≤ q.1 ∧ q.1 < (xs.length : Int) ∧ q.2.size = 512) (k : Nat) (hk : k < (refS xs F B).length) (hk2 : k < (refS (landXs xs V) [] (landB B V)).length) :
  (((refS xs F B)[k]).f2 = false → (refS (landXs xs V) [] (landB B V))[k] = (refS xs F B)[k] ∧ waitL (k + 1) F = waitL k F) ∧
  (((refS xs F B)[k]).f2 = true → (waitL (k + 1) F).length = (waitL k F).length + 1 ∧ (keep.getD (waitL k F).length false = true → (refS (landXs xs V) [] (landB B V))[k] = ⟨((refS xs F B)[k]).f1, ⟨#[]⟩, false, false⟩) ∧
   (keep.getD (waitL k F).length false = false → (refS (landXs xs V) [] (landB B V))[k] = ⟨((refS xs F B)[k]).f0, ⟨#[]⟩, false, ((refS xs F B)[k]).f3⟩)) := by
 have hk3 : k < xs.length := by rwa [refS_len] at hk
 have hw := keysI_wait hn hF
 rw [refS_land, refS_at, waitL_succ]
 cases hg : getL (k : Int) F with
 | none =>
  have hv : getL (k : Int) V = none := by
   rw [hV]
   refine crashV_none F _ _ ?_
   rw [hw, waitL_mem, hg]
   simp
  rw [hv]
  simp
 | some s =>
  simp only [Option.isSome_some, Option.getD_some, if_true]
  refine ⟨fun h => (by cases h), fun _ => ?_⟩
  have hat : (keysI F)[(waitL k F).length]? = some (k : Int) := by
   rw [hw]
   have : ∀ m, k + 1 ≤ m → (waitL m F)[(waitL k F).length]? = some (k : Int) := by
    intro m hm
    induction m with
    | zero => omega
    | succ m ih =>
     rw [waitL_succ]
     by_cases e : m = k
     ·subst e
      rw [hg]
      simp
     ·have h1 := ih (by omega)
      rw [List.getElem?_append_left (List.getElem?_eq_some_iff.1 h1).1]
      exact h1
   exact this xs.length (by omega)
  have hv := crashV_get F (keysI F) keep _ _ (keysI_nodup hn) hat
  rw [← hV, hg] at hv
  refine ⟨by simp, fun h => ?_, fun h => ?_⟩
  ·rw [if_pos h] at hv
   rw [hv]
   simp
  ·rw [if_neg (by rw [h]; decide)] at hv
   rw [hv]
   simp
theorem step4 (w : World) (g k : Nat) (a' b' c' d' : Value) : Step (fun q => q = g) w ((((w.setCell ⟨g, k * 4, none⟩ a').setCell ⟨g, k * 4 + 1, none⟩ b').setCell ⟨g, k * 4 + 2, none⟩ c').setCell ⟨g, k * 4 + 3, none⟩ d') :=
 (((Step.setCell w (p := ⟨g, k * 4, none⟩) (S := fun q => q = g) rfl _).trans (Step.setCell _ (p := ⟨g, k * 4 + 1, none⟩) (S := fun q => q = g) rfl _) (fun _ h => h) (fun _ h => Or.inl h)).trans (Step.setCell _ (p := ⟨g, k * 4 + 2, none⟩) (S := fun q => q = g) rfl _) (fun _ h => h) (fun _ h => Or.inl h)).trans (Step.setCell _ (p := ⟨g, k * 4 + 3, none⟩) (S := fun q => q = g) rfl _) (fun _ h => h) (fun _ h => Or.inl h)
set_option maxRecDepth 100000 in
set_option maxHeartbeats 8000000 in
theorem ref_Crash (w : World) (v : Value) (xs : List ByteArray) (F : FL) (B : BL) (off : Bool) (left nw : Int) (Ak : Option Addr) (ck : Nat) (keep : List Bool) (h : RefAt w v xs F B) (hok : DevOk xs F B left) (hn : NodupK F) (hkr : Kd.C Kd.bool w Ak keep.length keep) (hkl : keep.length ≤ 4611686018427387904) :
  Calls Tryd.prog 42 #[.agg #[v, .bool off, .int .i64 left, .int .i64 nw], .slice Ak keep.length ck] w fun e w' => ∃ v', e = .returned (.agg #[v', .bool false, .int .i64 (-1), .int .i64 nw]) ∧
   RefAt w' v' (landXs xs (crashV F (keysI F) keep)) [] (landB B (crashV F (keysI F) keep)) ∧ Below w.heap.size w w' := by
 obtain ⟨A, c, rfl, hc, hC⟩ := h.reads
 obtain ⟨k1, k2, _, hF, _, _, _, k3, k4⟩ := hok
 obtain ⟨V, hV⟩ : ∃ V, V = crashV F (keysI F) keep := ⟨_, rfl⟩
 rw [← hV]
 have hE := empty_row ((w.alloc (.cells #[.slice A xs.length c, .bool off, .int .i64 left, .int .i64 nw] 41)).alloc (.cells #[.slice none 0 0, .bool false, .int .i64 0, .int .i64 0] 41)) w.heap.size (below2 w (.cells #[.slice A xs.length c, .bool off, .int .i64 left, .int .i64 nw] 41) (.cells #[.slice none 0 0, .bool false, .int .i64 0, .int .i64 0] 41)).size
 have hb3 : Below w.heap.size w (((w.alloc (.cells #[.slice A xs.length c, .bool off, .int .i64 left, .int .i64 nw] 41)).alloc (.cells #[.slice none 0 0, .bool false, .int .i64 0, .int .i64 0] 41)).alloc (.cells #[] 71)) := (below2 w (.cells #[.slice A xs.length c, .bool off, .int .i64 left, .int .i64 nw] 41) (.cells #[.slice none 0 0, .bool false, .int .i64 0, .int .i64 0] 41)).alloc (below2 w (.cells #[.slice A xs.length c, .bool off, .int .i64 left, .int .i64 nw] 41) (.cells #[.slice none 0 0, .bool false, .int .i64 0, .int .i64 0] 41)).size _
 have hy0 : (((w.alloc (.cells #[.slice A xs.length c, .bool off, .int .i64 left, .int .i64 nw] 41)).alloc (.cells #[.slice none 0 0, .bool false, .int .i64 0, .int .i64 0] 41)).alloc (.cells #[] 71)).heap[w.heap.size]? = _ := (Step.alloc (fun _ => False) _ _).block (new1of2 w (.cells #[.slice A xs.length c, .bool off, .int .i64 left, .int .i64 nw] 41) (.cells #[.slice none 0 0, .bool false, .int .i64 0, .int .i64 0] 41)) (fun h => h)
 have hy1 : (((w.alloc (.cells #[.slice A xs.length c, .bool off, .int .i64 left, .int .i64 nw] 41)).alloc (.cells #[.slice none 0 0, .bool false, .int .i64 0, .int .i64 0] 41)).alloc (.cells #[] 71)).heap[w.heap.size + 1]? = _ := (Step.alloc (fun _ => False) _ _).block (new2 w (.cells #[.slice A xs.length c, .bool off, .int .i64 left, .int .i64 nw] 41) (.cells #[.slice none 0 0, .bool false, .int .i64 0, .int .i64 0] 41)) (fun h => h)
 have hC3 := Kd.C_below hC hb3
 rw [World.size_alloc, World.size_alloc] at hE
 go_enter Tryd.func42, Tryd.ntmps42
 go_wp2_with (at_builtin; refine Kd.R_append_rows k71 (w0 := w) w.heap.size rfl (.tmp 8) (.tmp 10) 39 71 (.agg #[(.string ⟨#[]⟩), (.string ⟨#[]⟩), (.bool false), (.bool false)]) 40 rfl Tryd.underlying39 info71 rfl (by decide) (by omega) _ [] (refS xs F B) _ _ _ (fun _ => True) (fun _ => False) rfl rfl hE hC3 (fun _ _ h => h) (fun _ h => h.elim) (fun _ _ => trivial) hb3 hb3.size ?aL ?_; (case aL => simp only [List.length_nil]; omega))
 intro v1 w1 hR1 hB1 hgr _
 have hx0 := blk_grown hy0 hgr (by simp [Value.ownBlock]; omega)
 have hx1 := blk_grown hy1 hgr (by simp [Value.ownBlock])
 obtain ⟨inner, hown⟩ := Kd.R_own hR1
 rw [refS_len] at hown
 obtain ⟨g, cap, rfl, hg0, hg1, _⟩ := ownsRow_form hown (by omega)
 clear hy0 hy1 hb3 hE hC3 hC hgr hown
 obtain ⟨⟨c00, c01, c02, c03⟩, f00, f01, f02, f03⟩ := blk4 hx0
 have hrs0 := RunS.mk (refS_len xs F B) (blk_set hx0 0 (.slice (some ⟨g, 0, none⟩) xs.length cap)) (blk_far hx1 (p := ⟨w.heap.size, 0, none⟩) (by simp) _) (R103_step (ok' := fun _ => True) (Kd.R_lower hR1 (Nat.zero_le _)) (Step.setCell w1 (p := ⟨w.heap.size, 0, none⟩) (S := fun k => k = w.heap.size) rfl _) (fun q hq e => own103_ne hR1 hx0 (fun cur e => by cases e) (by rw [hq, e])) (fun _ _ => trivial)) (hB1.setCell (p := ⟨w.heap.size, 0, none⟩) (Nat.le_refl _) _) hg0
 go_wp2_with fail
 clear hx0 hx1 hR1 hB1 c00 c01 c02 c03 f00 f01 f02 f03 hg1
 go_loopw [5, 16] (fun t5 t16 wr => ∃ k, k ≤ xs.length ∧ t16 = .int .i64 k ∧ t5 = .int .i64 (waitL k F).length ∧ RunS w wr g xs.length cap off left nw (mixS (refS (landXs xs V) [] (landB B V)) (refS xs F B) k)) (fun _ t16 _ => xs.length - (intOf t16).toNat)
 case atStart => exact ⟨0, Nat.zero_le _, rfl, rfl, by rw [mixS_zero]; exact hrs0⟩
 case round =>
  obtain ⟨k, hk, rfl, rfl, hS⟩ := hrel
  clear hrs0
  have hnl : (refS (landXs xs V) [] (landB B V)).length = (refS xs F B).length := by rw [refS_len, refS_len, landXs_len]
  by_cases hlt : k < xs.length
  ·have hk2 : k < (refS xs F B).length := by rw [refS_len]; exact hlt
   obtain ⟨x, hx⟩ : ∃ x, (refS xs F B)[k] = x := ⟨_, rfl⟩
   have hM := mixS_at hnl hk2
   rw [hx] at hM
   obtain ⟨⟨x0, x1, x2, x3⟩, _⟩ := hS.cells hM
   obtain ⟨hst1, hst2⟩ := crash_step (B := B) hV hn hF k hk2 (by rw [hnl]; exact hk2)
   rw [hx] at hst1 hst2
   have hm1 := mixS_set hnl hk2
   have hm2 := mixS_keep hnl hk2
   have hnk : (waitL k F).length ≤ k := by unfold waitL; rw [List.length_map]; exact Nat.le_trans (List.length_filter_le _ _) (by simp)
   have hk0 : (0 : Int) ≤ (k : Int) := by omega
   have hk1 : (k : Int) < (xs.length : Int) := by omega
   have d1 : decide ((k : Int) < (xs.length : Int)) = true := decide_eq_true hk1
   have hSa := hS.below ((Below.refl _ _).alloc (Nat.le_refl _) (.cells #[.string x.f0, .string x.f1, .bool x.f2, .bool x.f3] 71))
   have hgw : g < wr.heap.size := blk_lt (own103 hS.row (by simp [Value.ownBlock])).choose_spec
   cases hw : x.f2
   ·rw [hw] at x2 hSa
    go_wp2
    rw [hm2 ((hst1 hw).1.trans hx.symm)] at hSa
    exact ⟨⟨k + 1, by omega, by simp, by rw [(hst1 hw).2], hSa⟩, by simp [intOf]; omega⟩
   ·rw [hw] at x2 hSa
    obtain ⟨hl1, hy1, hy2⟩ := hst2 hw
    clear hm2 hst1 hst2
    generalize hnn : (waitL k F).length = nn at *
    have hxa := World.alloc_heap_new wr (.cells #[.string x.f0, .string x.f1, .bool true, .bool x.f3] 71)
    obtain ⟨⟨b0, _⟩, _⟩ := blk4 hSa.bx
    obtain ⟨⟨z0, z1, z2, z3⟩, q0, q1, q2, q3⟩ := hSa.cells hM
    obtain ⟨⟨y0, y1, y2, y3⟩, _⟩ := blk4 hxa
    go_upto_region 8 with (fail)
    have hS7 := (hS.put k hlt ⟨x.f0, ⟨#[]⟩, false, x.f3⟩).below ((Below.refl _ _).alloc (Nat.le_refl _) (.cells #[.string x.f0, .string x.f1, .bool true, .bool x.f3] 71))
    have hx7 := World.alloc_heap_new ((((wr.setCell ⟨g, k * 4, none⟩ (.string x.f0)).setCell ⟨g, k * 4 + 1, none⟩ (.string ⟨#[]⟩)).setCell ⟨g, k * 4 + 2, none⟩ (.bool false)).setCell ⟨g, k * 4 + 3, none⟩ (.bool x.f3)) (.cells #[.string x.f0, .string x.f1, .bool true, .bool x.f3] 71)
    rw [show ((((wr.setCell ⟨g, k * 4, none⟩ (.string x.f0)).setCell ⟨g, k * 4 + 1, none⟩ (.string ⟨#[]⟩)).setCell ⟨g, k * 4 + 2, none⟩ (.bool false)).setCell ⟨g, k * 4 + 3, none⟩ (.bool x.f3)).heap.size = wr.heap.size by simp] at hx7
    generalize ((((wr.setCell ⟨g, k * 4, none⟩ (.string x.f0)).setCell ⟨g, k * 4 + 1, none⟩ (.string ⟨#[]⟩)).setCell ⟨g, k * 4 + 2, none⟩ (.bool false)).setCell ⟨g, k * 4 + 3, none⟩ (.bool x.f3)).alloc (.cells #[.string x.f0, .string x.f1, .bool true, .bool x.f3] 71) = w7 at hS7 hx7 ⊢
    clear x0 x1 x2 x3 b0 z0 z1 z2 z3 q0 q1 q2 q3 y0 y1 y2 y3 hS hSa hxa
    have hm3 : ∀ y : S71, ((mixS (refS (landXs xs V) [] (landB B V)) (refS xs F B) k).set k ⟨x.f0, ⟨#[]⟩, false, x.f3⟩).set k y = (mixS (refS (landXs xs V) [] (landB B V)) (refS xs F B) k).set k y := fun y => List.set_set ..
    by_cases hkk : nn < keep.length
    ·obtain ⟨adk, eak, hxb⟩ := Kd.at_bool (Kd.C_below hkr hS7.bl) (nn : Int) (by omega) (by omega)
     subst eak
     simp only [Int.toNat_natCast] at hxb
     obtain ⟨bv, hbv⟩ : ∃ v, v = rdOf false keep (nn : Int) := ⟨_, rfl⟩
     rw [← hbv] at hxb
     have hbk : keep.getD nn false = bv := by rw [hbv]; simp [rdOf]
     have d2 : decide ((nn : Int) < (keep.length : Int)) = true := decide_eq_true (by omega)
     clear hbv
     cases bv
     ·go_wp2
      rw [← hy2 hbk, hm1] at hS7
      exact ⟨⟨k + 1, by omega, by simp, by rw [hl1]; simp, hS7⟩, by simp [intOf]; omega⟩
     ·have hy := hy1 hbk
      have hM7 : ((mixS (refS (landXs xs V) [] (landB B V)) (refS xs F B) k).set k ⟨x.f0, ⟨#[]⟩, false, x.f3⟩)[k]? = some ⟨x.f0, ⟨#[]⟩, false, x.f3⟩ := by rw [List.getElem?_set_self (by rw [mixS_len hnl (by omega)]; exact hk2)]
      go_wp2_with fail
      have hSd : RunS w w7.drew _ _ _ _ _ _ _ := hS7.below (below_drew1 (Below.refl _ _))
      have hxb7 : w7.drew.heap[wr.heap.size]? = some (.cells #[.string x.f0, .string x.f1, .bool true, .bool x.f3] 71 (0, 0)) := hx7
      clear hxb
      obtain ⟨⟨b0, _⟩, _⟩ := blk4 hSd.bx
      obtain ⟨⟨y0, y1, y2, y3⟩, _⟩ := blk4 hxb7
      clear hS7 hx7 hM hx
      refine start_ (n := 7) (S := fun w' => w'.cell? ⟨w.heap.size, 0, none⟩ = some (.slice (some ⟨g, 0, none⟩) xs.length cap) ∧ w'.cell? ⟨wr.heap.size, 0, none⟩ = some (.string x.f0) ∧ w'.cell? ⟨wr.heap.size, 1, none⟩ = some (.string x.f1) ∧ w'.cell? ⟨wr.heap.size, 2, none⟩ = some (.bool true) ∧ w'.cell? ⟨wr.heap.size, 3, none⟩ = some (.bool x.f3) ∧ RunS w w' g xs.length cap off left nw ((mixS (refS (landXs xs V) [] (landB B V)) (refS xs F B) k).set k ⟨x.f0, ⟨#[]⟩, false, x.f3⟩)) (ds := [6]) #[false, false, false, false, false, false, false] (by kernel_rfl) rfl rfl ⟨b0, y0, y1, y2, y3, hSd⟩ (fun hHeld => ?_)
      refine pure_ (i := 0) (N := some 43) (v := ?_) (a' := ?_) #[true, false, false, false, false, false, false] rfl rfl (by kernel_rfl) (fun _ _ _ h => h) (Or.inl ⟨by rfl, ?_⟩) ?_ ?_
      rotate_left
      ·intro w'
       go_simp
       with_reducible rfl
      rotate_left
      ·simp only [Act.put, List.setIfInBounds_toArray, List.set_cons_zero, List.set_cons_succ, i64_w, i32_w]
       rfl
      refine pure_ (i := 2) (N := some 45) (v := ?_) (a' := ?_) #[true, false, true, false, false, false, false] rfl rfl (by kernel_rfl) (fun _ _ _ h => h) (Or.inl ⟨by rfl, ?_⟩) ?_ ?_
      rotate_left
      ·intro w'
       go_simp
       with_reducible rfl
      rotate_left
      ·simp only [Act.put, List.setIfInBounds_toArray, List.set_cons_zero, List.set_cons_succ, i64_w, i32_w]
       rfl
      refine take_ (i := 1) (N := some 44) (v := ?_) (a' := ?_) #[true, true, true, false, false, false, false] rfl rfl (by kernel_rfl) (fun _ _ _ h => h) (Or.inl ⟨by rfl, ?_⟩) hHeld ?_ ?_
      rotate_left
      ·rintro w' ⟨s0, s1, s2, s3, s4, s5⟩
       go_simp
       with_reducible rfl
      rotate_left
      ·simp only [Act.put, List.setIfInBounds_toArray, List.set_cons_zero, List.set_cons_succ, i64_w, i32_w]
       rfl
      refine take_ (i := 3) (N := some 46) (v := ?_) (a' := ?_) #[true, true, true, true, false, false, false] rfl rfl (by kernel_rfl) (fun _ _ _ h => h) (Or.inl ⟨by rfl, ?_⟩) hHeld ?_ ?_
      rotate_left
      ·rintro w' ⟨s0, s1, s2, s3, s4, s5⟩
       go_simp
       with_reducible rfl
      rotate_left
      ·simp only [Act.put, List.setIfInBounds_toArray, List.set_cons_zero, List.set_cons_succ, i64_w, i32_w]
       rfl
      refine one_ (i := 4) (N := some 47) #[true, true, true, true, true, false, false] rfl rfl (by kernel_rfl) (by decide) (fun K hK => ?_)
      refine goes_ Tryd.func61 (by kernel_rfl) rfl #[.agg #[.string x.f0, .string x.f1, .bool true, .bool x.f3]] (by rfl) rfl rfl (by simp only [List.map_toArray, List.map_cons, List.map_nil]; rfl) ?_
      with_reducible refine (landed_any2 _ x hw).mono ?_
      rintro e w3 ⟨rfl, hb3⟩
      refine ⟨_, rfl, ?_⟩
      refine hK.out _ _ ⟨pw_cell_below hb3 hHeld.1, pw_cell_below hb3 hHeld.2.1, pw_cell_below hb3 hHeld.2.2.1, pw_cell_below hb3 hHeld.2.2.2.1, pw_cell_below hb3 hHeld.2.2.2.2.1, hHeld.2.2.2.2.2.below hb3⟩ (fun hHeld => ?_)
      clear hK K
      refine norm_ (a' := ?_) ?_ ?_
      rotate_left
      ·show Act.put _ (some 47) _ = _
       simp only [Act.put, List.setIfInBounds_toArray, List.set_cons_zero, List.set_cons_succ, i64_w, i32_w]
       rfl
      refine pure_ (i := 5) (N := some 48) (v := ?_) (a' := ?_) #[true, true, true, true, true, true, false] rfl rfl (by kernel_rfl) (fun _ _ _ h => h) (Or.inl ⟨by rfl, ?_⟩) ?_ ?_
      rotate_left
      ·intro w'
       go_simp
       with_reducible rfl
      rotate_left
      ·simp only [Act.put, List.setIfInBounds_toArray, List.set_cons_zero, List.set_cons_succ, i64_w, i32_w]
       rfl
      refine last_ (i := 6) (N := none) #[true, true, true, true, true, true, true] rfl rfl (by kernel_rfl) (by decide) (fun K hK => ?_)
      obtain ⟨⟨z0, z1, z2, z3⟩, q0, q1, q2, q3⟩ := hHeld.2.2.2.2.2.cells hM7
      refine skip_ (w1 := ?_) (by rfl) rfl ?_ ?_
      rotate_left
      ·go_simp
       rfl
      refine hK.out _ _ ?_
      clear hK K
      refine done_ (by kernel_rfl) ?_
      have hS9 := hHeld.2.2.2.2.2.put k hlt ⟨x.f1, ⟨#[]⟩, false, false⟩
      rw [hm3, ← hy, hm1] at hS9
      clear hHeld hSd hxb7
      go_wp2
      rw [hy] at hS9
      exact ⟨⟨k + 1, by omega, by simp, by rw [hl1]; simp, hS9⟩, by simp [intOf]; omega⟩
    ·have d2 : decide ((nn : Int) < (keep.length : Int)) = false := decide_eq_false (by omega)
     have hbk : keep.getD nn false = false := by rw [List.getD_eq_getElem?_getD, List.getElem?_eq_none (by omega)]; rfl
     go_wp2
     rw [← hy2 hbk, hm1] at hS7
     exact ⟨⟨k + 1, by omega, by simp, by rw [hl1]; simp, hS7⟩, by simp [intOf]; omega⟩
  ·have ek : k = xs.length := by omega
   subst ek
   have hrow := hS.row
   have hma : mixS (refS (landXs xs V) [] (landB B V)) (refS xs F B) xs.length = (refS (landXs xs V) [] (landB B V)) := by
    have := mixS_all hnl
    rwa [refS_len] at this
   rw [hma] at hrow
   obtain ⟨⟨b0, b1, b2, b3⟩, p0, p1, p2, p3⟩ := blk4 hS.bx
   have hbx := hS.bx
   have hzs := hS.rs
   have hbl := hS.bl
   obtain ⟨⟨d10, d11, d12, d13⟩, g10, g11, g12, g13⟩ := blk4 hzs
   clear hma hS hnl
   go_wp2
   have hz2 : ((wr.setCell ⟨w.heap.size, 1, none⟩ (.bool false)).setCell ⟨w.heap.size, 2, none⟩ (.int .i64 (-1))).heap[w.heap.size + 1]? = _ := blk_far (blk_far hzs (p := ⟨w.heap.size, 1, none⟩) (by simp) _) (p := ⟨w.heap.size, 2, none⟩) (by simp) _
   refine bodyPost_ret (results_cell_row rfl _ _ (w.heap.size + 1) 41 _ (0, 0) _ rfl (put4 hz2 _ _ _ _) Tryd.underlying41 rfl (by kernel_rfl)) rfl ?_
   have hrf : RefAt wr (.slice (some ⟨g, 0, none⟩) xs.length cap) (landXs xs V) [] (landB B V) := hrow
   have hr2 := (hrf.put hbx (by decide) 1 (.bool false)).put (blk_set hbx 1 (.bool false)) (by decide) 2 (.int .i64 (-1))
   have hb2 : Below w.heap.size w ((wr.setCell ⟨w.heap.size, 1, none⟩ (.bool false)).setCell ⟨w.heap.size, 2, none⟩ (.int .i64 (-1))) := (hbl.setCell (p := ⟨w.heap.size, 1, none⟩) (Nat.le_refl _) _).setCell (p := ⟨w.heap.size, 2, none⟩) (Nat.le_refl _) _
   have hr3 := ref_put4 hr2 hz2 (.slice (some ⟨g, 0, none⟩) xs.length cap) (.bool false) (.int .i64 (-1)) (.int .i64 nw)
   have hb4 := below_put4 hb2 (g := w.heap.size + 1) (by omega) (.slice (some ⟨g, 0, none⟩) xs.length cap) (.bool false) (.int .i64 (-1)) (.int .i64 nw)
   exact ⟨_, rfl, hr3, hb4⟩
set_option maxRecDepth 100000 in
set_option maxHeartbeats 4000000 in
theorem ref_Garble_no (w : World) (v : Value) (xs : List ByteArray) (F : FL) (B : BL) (off : Bool) (left nw at_ o b : Int) (h : RefAt w v xs F B) (hn : ¬ ((0 ≤ at_ ∧ at_ < xs.length) ∧ 0 ≤ o ∧ o ≤ 508)) :
  Calls Tryd.prog 36 #[.agg #[v, .bool off, .int .i64 left, .int .i64 nw], .int .i64 at_, .int .i64 o, .int .u32 b] w fun e w' => ∃ v', e = .returned (.tuple #[.agg #[v', .bool off, .int .i64 left, .int .i64 nw], .int .i64 1]) ∧ RefAt w' v' xs F B ∧ Below w.heap.size w w' := by
 obtain ⟨A, c, rfl, hc, hC⟩ := h.reads
 have hW := ref_has ((w.alloc (.cells #[.slice A xs.length c, .bool off, .int .i64 left, .int .i64 nw] 41)).alloc (.cells #[.slice none 0 0, .bool false, .int .i64 0, .int .i64 0] 41)) _ xs F B off left nw at_ (h.below (below2 w _ _))
 have hy0 := new1of2 w (.cells #[.slice A xs.length c, .bool off, .int .i64 left, .int .i64 nw] 41) (.cells #[.slice none 0 0, .bool false, .int .i64 0, .int .i64 0] 41)
 have hy1 := new2 w (.cells #[.slice A xs.length c, .bool off, .int .i64 left, .int .i64 nw] 41) (.cells #[.slice none 0 0, .bool false, .int .i64 0, .int .i64 0] 41)
 have hb0 := below2 w (.cells #[.slice A xs.length c, .bool off, .int .i64 left, .int .i64 nw] 41) (.cells #[.slice none 0 0, .bool false, .int .i64 0, .int .i64 0] 41)
 go_enter Tryd.func36, Tryd.ntmps36
 go_wp2_with (go_at_call 58; refine hW.mono ?_)
 rintro e w1 ⟨rfl, hb1⟩
 have hx1 := Stepb hb1 hy1
 have hx0 := Stepb hb1 hy0
 have hR1 := (h.below hb0).below hb1
 have hB1 := hb0.trans (hb1.mono hb0.size)
 have hsz := blk_lt hx1
 clear hy0 hy1 hb0 hb1 hW
 obtain ⟨⟨c00, c01, c02, c03⟩, f00, f01, f02, f03⟩ := blk4 hx0
 obtain ⟨⟨c10, c11, c12, c13⟩, f10, f11, f12, f13⟩ := blk4 hx1
 by_cases hat : 0 ≤ at_ ∧ at_ < (xs.length : Int)
 ·rw [decide_eq_true hat]
  by_cases h0 : o < 0
  ·have d1 : decide (o < 0) = true := decide_eq_true h0
   go_wp2
   refine bodyPost_ret (results_ct rfl _ _ (w.heap.size + 1) 41 _ (0, 0) _ rfl (put4 hx1 _ _ _ _) Tryd.underlying41 rfl (by kernel_rfl)) rfl ?_
   exact ⟨_, rfl, ref_put4 hR1 hx1 _ _ _ _, below_put4 hB1 (by omega) _ _ _ _⟩
  ·have d1 : decide (o < 0) = false := decide_eq_false h0
   have d2 : decide (508 < o) = true := decide_eq_true (by omega)
   go_wp2
   refine bodyPost_ret (results_ct rfl _ _ (w.heap.size + 1) 41 _ (0, 0) _ rfl (put4 hx1 _ _ _ _) Tryd.underlying41 rfl (by kernel_rfl)) rfl ?_
   exact ⟨_, rfl, ref_put4 hR1 hx1 _ _ _ _, below_put4 hB1 (by omega) _ _ _ _⟩
 ·rw [decide_eq_false hat]
  go_wp2
  refine bodyPost_ret (results_ct rfl _ _ (w.heap.size + 1) 41 _ (0, 0) _ rfl (put4 hx1 _ _ _ _) Tryd.underlying41 rfl (by kernel_rfl)) rfl ?_
  exact ⟨_, rfl, ref_put4 hR1 hx1 _ _ _ _, below_put4 hB1 (by omega) _ _ _ _⟩
set_option maxRecDepth 100000 in
set_option maxHeartbeats 4000000 in
theorem ref_Garble (w : World) (v : Value) (xs : List ByteArray) (F : FL) (B : BL) (off : Bool) (left nw at_ o b : Int) (h : RefAt w v xs F B) (hok : DevOk xs F B left) (h1 : 0 ≤ at_) (h2 : at_ < xs.length) (h3 : 0 ≤ o) (h4 : o ≤ 508) (h5 : 0 ≤ b) (h6 : b < 4294967296) :
  Calls Tryd.prog 36 #[.agg #[v, .bool off, .int .i64 left, .int .i64 nw], .int .i64 at_, .int .i64 o, .int .u32 b] w fun e w' => ∃ v', e = .returned (.tuple #[.agg #[v', .bool off, .int .i64 left, .int .i64 nw], .int .i64 0]) ∧
   RefAt w' v' (xs.set at_.toNat (strOfNums (grb (bytesOf (xs.getD at_.toNat ⟨#[]⟩)) o.toNat b 4))) F B ∧ Below w.heap.size w w' := by
 obtain ⟨XT, hXT⟩ : ∃ t, strOfNums (grb (bytesOf (xs.getD at_.toNat ⟨#[]⟩)) o.toNat b 4) = t := ⟨_, rfl⟩
 rw [hXT]
 obtain ⟨A, c, rfl, hc, hC⟩ := h.reads
 have hW := ref_has ((w.alloc (.cells #[.slice A xs.length c, .bool off, .int .i64 left, .int .i64 nw] 41)).alloc (.cells #[.slice none 0 0, .bool false, .int .i64 0, .int .i64 0] 41)) _ xs F B off left nw at_ (h.below (below2 w _ _))
 have hy0 := new1of2 w (.cells #[.slice A xs.length c, .bool off, .int .i64 left, .int .i64 nw] 41) (.cells #[.slice none 0 0, .bool false, .int .i64 0, .int .i64 0] 41)
 have hy1 := new2 w (.cells #[.slice A xs.length c, .bool off, .int .i64 left, .int .i64 nw] 41) (.cells #[.slice none 0 0, .bool false, .int .i64 0, .int .i64 0] 41)
 have hb0 := below2 w (.cells #[.slice A xs.length c, .bool off, .int .i64 left, .int .i64 nw] 41) (.cells #[.slice none 0 0, .bool false, .int .i64 0, .int .i64 0] 41)
 go_enter Tryd.func36, Tryd.ntmps36
 go_wp2_with (go_at_call 58; refine hW.mono ?_)
 rintro e w1 ⟨rfl, hb1⟩
 have hx1 := Stepb hb1 hy1
 have hx0 := Stepb hb1 hy0
 have hR1 := (h.below hb0).below hb1
 have hB1 := hb0.trans (hb1.mono hb0.size)
 have hsz := blk_lt hx1
 clear hy0 hy1 hb0 hb1 hW
 obtain ⟨⟨c00, c01, c02, c03⟩, f00, f01, f02, f03⟩ := blk4 hx0
 obtain ⟨⟨c10, c11, c12, c13⟩, f10, f11, f12, f13⟩ := blk4 hx1
 obtain ⟨k1, k2, hx512, _⟩ := hok
 rw [decide_eq_true (⟨h1, h2⟩ : 0 ≤ at_ ∧ at_ < (xs.length : Int))]
 have d1 : decide (o < 0) = false := decide_eq_false (by omega)
 have d2 : decide (508 < o) = false := decide_eq_false (by omega)
 obtain ⟨_, _, hC1⟩ := hR1.C
 obtain ⟨ad, eA, x0, x1, x2, x3⟩ := at_T71 hC1 at_ h1 (by omega)
 subst eA
 have hrd := rd_refS xs F B at_ h1 h2
 obtain ⟨x, hx⟩ : ∃ x, x = rd_T71 (refS xs F B) at_ := ⟨_, rfl⟩
 rw [← hx] at hrd x0 x1 x2 x3
 have hset : ∀ z, (refS xs F B).set at_.toNat ⟨z, x.f1, x.f2, x.f3⟩ = refS (xs.set at_.toNat z) F B := fun z => by rw [hrd]; exact refS_setX xs F B at_ z h1 h2
 have hf0 : xs.getD at_.toNat ⟨#[]⟩ = x.f0 := by rw [hrd]
 have hf512 : x.f0.size = 512 := by
  rw [← hf0, List.getD_eq_getElem?_getD, List.getElem?_eq_getElem (by omega : at_.toNat < xs.length)]
  exact hx512 _ (List.getElem_mem _)
 rw [hf0] at hXT
 clear hx hrd hC1 hf0 hx512 hC
 go_upto_region 4 with (fail)
 have hRx := hR1.step (Step.alloc (fun _ => False) w1 (.cells #[.string x.f0, .string x.f1, .bool x.f2, .bool x.f3] 71)) (fun _ _ h => h)
 have hbx0 : (w1.alloc (.cells #[.string x.f0, .string x.f1, .bool x.f2, .bool x.f3] 71)).heap[w.heap.size]? = _ := (Step.alloc (fun _ => False) _ _).block hx0 (fun h => h)
 have hbx1 : (w1.alloc (.cells #[.string x.f0, .string x.f1, .bool x.f2, .bool x.f3] 71)).heap[w.heap.size + 1]? = _ := (Step.alloc (fun _ => False) _ _).block hx1 (fun h => h)
 have hbxx := World.alloc_heap_new w1 (.cells #[.string x.f0, .string x.f1, .bool x.f2, .bool x.f3] 71)
 have hBx := hB1.alloc hB1.size (.cells #[.string x.f0, .string x.f1, .bool x.f2, .bool x.f3] 71)
 have hown : ∀ q, (Value.slice (some ad) xs.length c).ownBlock = some q → q < w1.heap.size := fun q hq => blk_lt (own103 hR1 hq).choose_spec
 obtain ⟨X, hX⟩ : ∃ X, X = w1.heap.size := ⟨_, rfl⟩
 rw [← hX] at hbxx hown hsz ⊢
 have hXw : w.heap.size ≤ X := by omega
 clear hX c00 c01 c02 c03 f00 f01 f02 f03 c10 c11 c12 c13 f10 f11 f12 f13 x0 x1 x2 x3 hR1 hx0 hx1
 generalize w1.alloc (.cells #[.string x.f0, .string x.f1, .bool x.f2, .bool x.f3] 71) = wx at hRx hbx0 hbx1 hbxx hBx ⊢
 clear hB1
 have hXl := blk_lt hbxx
 have hcv := Lib.run_convert_string_bytes (P := Tryd.prog) wx 9 59 5 x.f0 Tryd.underlying9 Tryd.underlying59 (by kernel_rfl)
 have hG := GAt.made wx x.f0
 have hBW := bytes_below (Below.refl wx.heap.size wx) (Nat.le_refl _) 5 x.f0
 generalize Lib.bytesWorld wx 5 x.f0 = W at hcv hG hBW
 obtain ⟨g, eg⟩ : ∃ g, g = wx.heap.size := ⟨_, rfl⟩
 rw [← eg] at hcv hG hXl
 have hsW : Step (fun _ => False) wx W := Step.of_below hBW
 have hBW2 : Below w.heap.size w W := hBx.trans (hBW.mono hBx.size)
 have hgw : wx.heap.size ≤ g := by omega
 have hgw0 : w.heap.size ≤ g := by have := hBx.size; omega
 clear eg hBW
 generalize grownCap wx x.f0.size 0 5 = cap at hcv
 obtain ⟨N, hN⟩ : ∃ N : Nat, N = x.f0.size := ⟨_, rfl⟩
 have hN5 : N = 512 := hN.trans hf512
 rw [← hN] at hcv
 have hyl : (bytesOf x.f0).length = 512 := by rw [bytesOf_length, hf512]
 obtain ⟨⟨y0, y1, y2, y3⟩, p0, p1, p2, p3⟩ := blk4 hbxx
 generalize bytesOf x.f0 = ys at hG hyl hXT
 clear hN hf512
 obtain ⟨p, hp⟩ : ∃ p : Nat, (p : Int) = o := ⟨o.toNat, by omega⟩
 subst hp
 simp only [Int.toNat_natCast] at hXT
 have hNI : (N : Int) ≤ 9223372036854775807 := by omega
 obtain ⟨hid, hidp⟩ : ∃ x : PLift (N = 512), True := ⟨⟨hN5⟩, trivial⟩
 clear hN5
 go_wp2_with fail
 have hN5 : N = 512 := hid.down
 have hgl : ∀ j, (grb ys p b j).length = 512 := fun j => by
  induction j with
  | zero => exact hyl
  | succ j ih => rw [grb, List.length_set, ih]
 go_loopw [12] (fun t12 wr => ∃ j : Nat, j ≤ 4 ∧ t12 = .int .i64 j ∧ GAt wr g (grb ys p b j) ∧ Step (fun _ => False) wx wr ∧ Below w.heap.size w wr) (fun t12 _ => 4 - (intOf t12).toNat)
 case atStart => exact ⟨0, by omega, rfl, hG, hsW, hBW2⟩
 case round =>
  obtain ⟨j, hj, rfl, hG, hst, hbl⟩ := hrel
  clear hsW hBW2
  by_cases hj4 : j < 4
  ·have hc := hG.cell (j := p + j) (by rw [hgl]; omega)
   have hf := hG.frozen (j := p + j) (by rw [hgl]; omega)
   have hS := hG.set (j := p + j) (by rw [hgl]; omega) (Go.bits .xor .u8 ((grb ys p b j).getD (p + j) 0) (b / 2 ^ (8 * j) % 256))
   have hgn : grb ys p b (j + 1) = (grb ys p b j).set (p + j) (Go.bits .xor .u8 ((grb ys p b j).getD (p + j) 0) (b / 2 ^ (8 * j) % 256)) := rfl
   rw [← hgn] at hS
   clear hgn
   generalize (grb ys p b j).getD (p + j) 0 = v at hc hS
   obtain ⟨m, hm⟩ : ∃ m : Nat, m = p + j := ⟨_, rfl⟩
   have hmi : (p : Int) + j = (m : Int) := by omega
   have hm5 : m < N := by omega
   have hmN : (m : Int) < N := by omega
   have hwm : IntKind.i64.wrap (m : Int) = (m : Int) := by rw [IntKind.wrap_i64]; omega
   have hwj : IntKind.i64.wrap (j : Int) = (j : Int) := by rw [IntKind.wrap_i64]; omega
   have hw8 : IntKind.i64.wrap (8 * (j : Int)) = 8 * (j : Int) := by rw [IntKind.wrap_i64]; omega
   rw [← hm] at hc hf hS
   clear hm
   have hgs : ∀ q, q = g → False ∨ wx.heap.size ≤ q := fun q hq => Or.inr (by omega)
   have hjs : j + 1 ≤ 4 := by omega
   have hms : 4 - (j + 1) < 4 - j := by omega
   have hc2 : wr.drew.cell? ⟨g, m, none⟩ = some (.int .u8 v) := hc
   clear h1 h2 h3 h4 hN5 hj hset hown hRx hbx0 hbx1 hbxx hBx y0 y1 y2 y3 p0 p1 p2 p3 hgw hXw hXl hsz
   go_wp2
   go_still_tail 13, (by kernel_rfl)
   change wpList _ _ _ _ _ wr.drew
   have hc3 : wr.drew.cell? ⟨g, m, none⟩ = some (.int .u8 v) := hc
   have hf3 : wr.drew.frozen? ⟨g, m, none⟩ = false := hf
   have hsd : Step (fun _ => False) wr wr.drew := Step.drew _ _
   have hS3 : GAt (wr.drew.setCell ⟨g, m, none⟩ (.int .u8 (Go.bits .xor .u8 v (b / 2 ^ (8 * j) % 256)))) g (grb ys p b (j + 1)) := hS
   generalize wr.drew = w2 at hc3 hf3 hsd hS3 ⊢
   have hs : Step (fun q => q = g) wr (w2.setCell ⟨g, m, none⟩ (.int .u8 (Go.bits .xor .u8 v (b / 2 ^ (8 * j) % 256)))) := hsd.trans (Step.setCell w2 (p := ⟨g, m, none⟩) (S := fun q => q = g) rfl _) (fun _ h => h.elim) (fun _ h => Or.inl h)
   have hbn := hbl.trans (hs.below hbl.size (fun q hq => hq ▸ hgw0))
   have hsn : Step (fun _ => False) wx _ := hst.trans hs (fun _ h => h) hgs
   go_wp2
   go_roundw
   case rel => exact ⟨j + 1, hjs, by simp, hS3, hsn, hbn⟩
   case measure => simp [intOf]; omega
  ·have ej : j = 4 := by omega
   subst ej
   have hl4 := hgl 4
   have hcvt := run_convert_bytes_arg (P := Tryd.prog) wr 59 5 Tryd.underlying59 (by kernel_rfl) g 0 N cap (grb ys p b 4) (hl4.trans hN5.symm) (fun j hj => by rw [Nat.zero_add]; exact hG.cell (by omega)) 9 Tryd.underlying9
   generalize hz : strOfNums (grb ys p b 4) = z at hcvt hXT
   subst hXT
   have hse := hset z
   have hxx := hst.block hbxx (fun h => h)
   have hxz := blk_set hxx 0 (.string z)
   obtain ⟨⟨y0, y1, y2, y3⟩, p0, p1, p2, p3⟩ := blk4 hxx
   obtain ⟨⟨b0, b1, b2, b3⟩, _⟩ := blk4 (hst.block hbx0 (fun h => h))
   have hz1 : (wr.setCell ⟨X, 0, none⟩ (.string z)).heap[w.heap.size + 1]? = _ := blk_far (hst.block hbx1 (fun h => h)) (p := ⟨X, 0, none⟩) (by show w.heap.size + 1 ≠ X; omega) _
   have hRz := (hRx.step hst (fun _ _ h => h)).step (Step.setCell wr (p := ⟨X, 0, none⟩) (S := fun q => q = X) rfl (.string z)) (fun q hq e => by have := hown q hq; omega)
   have hBz : Below w.heap.size w (wr.setCell ⟨X, 0, none⟩ (.string z)) := hbl.setCell (p := ⟨X, 0, none⟩) hXw _
   have hWi := ref_with (wr.setCell ⟨X, 0, none⟩ (.string z)) _ xs (xs.set at_.toNat z) F F B B off left nw at_ ⟨z, x.f1, x.f2, x.f3⟩ hRz h1 h2 k2 hse
   have hXne : X ≠ w.heap.size := by omega
   clear hN5 hse hset hG hst hbl hRx hbx0 hbx1 hbxx hxx hxz hRz hgl hyl hl4 hBx
   go_wp2_with (go_at_call 59; refine hWi.mono ?_)
   rintro e w3 v' rfl hR3 hb4
   have hb4 : Below (wr.setCell ⟨X, 0, none⟩ (.string z)).heap.size (wr.setCell ⟨X, 0, none⟩ (.string z)) w3 := by simpa using hb4
   obtain ⟨A3, c3, rfl, _⟩ := hR3.reads
   have hz3 := Stepb hb4 hz1
   have hB3 := hBz.trans (hb4.mono hBz.size)
   rw [List.length_set] at *
   clear hWi hz1 hb4 hBz hcvt
   obtain ⟨⟨d10, d11, d12, d13⟩, g10, g11, g12, g13⟩ := blk4 hz3
   go_wp2
   refine bodyPost_ret (results_ct rfl _ _ (w.heap.size + 1) 41 _ (0, 0) _ rfl (put4 hz3 _ _ _ _) Tryd.underlying41 rfl (by kernel_rfl)) rfl ?_
   exact ⟨_, rfl, ref_put4 hR3 hz3 _ _ _ _, below_put4 hB3 (by omega) _ _ _ _⟩
theorem str_bytes (l : List ByteArray) : strOfNums (l.flatMap bytesOf) = catS l := by
 apply ByteArray.ext
 unfold strOfNums catS bytesOf
 apply Array.ext'
 simp [List.map_flatMap, Function.comp_def]
theorem bytes_str (l : List Int) (h : ∀ x ∈ l, 0 ≤ x ∧ x < 256) : bytesOf (strOfNums l) = l := by
 unfold strOfNums bytesOf
 apply List.ext_getElem
 ·simp
 ·intro i h1 h2
  have := h l[i] (List.getElem_mem _)
  simp
  omega
def accB (xs : List ByteArray) (B : BL) (k : Nat) : List Int := ((outS xs B).take k).flatMap bytesOf
theorem accB_succ (xs : List ByteArray) (F : FL) (B : BL) (k : Nat) (hk : k < (refS xs F B).length) :
  accB xs B (k + 1) = accB xs B k ++ if ((refS xs F B)[k]).f3 = true then List.replicate 512 0 else bytesOf ((refS xs F B)[k]).f0 := by
 have hk2 : k < xs.length := by rwa [refS_len] at hk
 have hk3 : k < (outS xs B).length := by rw [outS_len]; exact hk2
 unfold accB
 rw [List.take_succ_eq_append_getElem hk3, List.flatMap_append, List.flatMap_singleton, outS_at xs B k hk2 hk3, refS_at]
 congr 1
 have e : xs[k]?.getD ⟨#[]⟩ = xs[k] := by rw [List.getElem?_eq_getElem hk2]; rfl
 cases hg : getL (k : Int) B with
 | none => simp [e]
 | some b =>
  cases b
  ·simp [e]
  ·simp only [Option.getD_some, if_true]
   exact bytes_str _ (fun x hx => by rw [List.eq_of_mem_replicate hx]; omega)
theorem accB_len (xs : List ByteArray) (B : BL) (h : ∀ x ∈ xs, x.size = 512) (k : Nat) : (accB xs B k).length ≤ 512 * k := by
 have : ∀ l : List ByteArray, (∀ x ∈ l, x.size = 512) → (l.flatMap bytesOf).length = 512 * l.length := by
  intro l hl
  induction l with
  | nil => rfl
  | cons x l ih =>
   rw [List.flatMap_cons, List.length_append, ih (fun y hy => hl y (List.mem_cons_of_mem _ hy)), bytesOf_length, hl x List.mem_cons_self, List.length_cons]
   omega
 unfold accB
 rw [this _ (fun x hx => ?_), List.length_take]
 ·exact Nat.mul_le_mul_left _ (Nat.min_le_left _ _)
 ·have hx := List.mem_of_mem_take hx
  unfold outS at hx
  obtain ⟨j, hj, rfl⟩ := List.mem_map.1 hx
  rw [List.mem_range] at hj
  split
  ·exact zeroS_size
  ·rw [List.getD_eq_getElem?_getD, List.getElem?_eq_getElem hj]
   exact h _ (List.getElem_mem _)
theorem append_512 {ops : Array Oper} {rest : List Oper} {o : Oper} {a : Act} {Q : Exit → Act → World → Prop} {w0 W : World} (hgd : o.guard = none) (s x : Operand) (ho : o.op = .call { callee := .builtin .append, args := #[s, x], argTypes := #[59, 3] }) (v : Value) (xs ys : List Int) (hs : a.eval s = v) (hx : a.eval x = .int .i64 512) (HO : Kd.R (Kd.int .u8) 5 W w0.heap.size (fun _ => True) v xs) (HB : Below w0.heap.size w0 W) (hl : xs.length ≤ 1000000000) (hy : ys = xs ++ List.replicate 512 0)
  (h : ∀ v1 w1, Kd.R (Kd.int .u8) 5 w1 w0.heap.size (fun _ => True) v1 ys → Below w0.heap.size w0 w1 → wpList Tryd.prog ops Q rest (a.put o.dst v1) w1) : wpList Tryd.prog ops Q (o :: rest) a W := by
 refine Kd.R_append_zeros (Kd.int .u8) (w0 := w0) w0.heap.size hgd s x 59 3 5 (.int .u8 0) 1 ho Tryd.underlying59 Tryd.underlying3 info5 rfl (by decide) (by decide) v xs 0 (kx := .i64) 512 (fun _ => True) hs hx rfl (fun _ _ => trivial) HO (by decide) HB HB.size (by show (xs.length + 512) * 1 ≤ _; omega) ?_
 intro v1 w1 hR hB _ _
 rw [show (512 : Int).toNat = 512 from rfl, ← hy] at hR
 exact h v1 w1 hR hB
set_option maxRecDepth 100000 in
set_option maxHeartbeats 4000000 in
theorem ref_Bytes (w : World) (v : Value) (xs : List ByteArray) (F : FL) (B : BL) (off : Bool) (left nw : Int) (h : RefAt w v xs F B) (hok : DevOk xs F B left) :
  Calls Tryd.prog 18 #[.agg #[v, .bool off, .int .i64 left, .int .i64 nw]] w fun e w' => e = .returned (.string (catS (outS xs B))) ∧ Below w.heap.size w w' := by
 obtain ⟨A, c, rfl, hc, hC⟩ := h.reads
 obtain ⟨k1, k2, hx512, _⟩ := hok
 have hbn := World.alloc_heap_new w (.cells #[.slice A xs.length c, .bool off, .int .i64 left, .int .i64 nw] 41)
 have hB0 : Below w.heap.size w (w.alloc (.cells #[.slice A xs.length c, .bool off, .int .i64 left, .int .i64 nw] 41)) := (Below.refl _ w).alloc (Nat.le_refl _) _
 go_enter Tryd.func18, Tryd.ntmps18
 go_wp2_with fail
 go_loopw [3, 9] (fun t3 t9 wr => ∃ k, k ≤ xs.length ∧ t9 = .int .i64 k ∧ Kd.R (Kd.int .u8) 5 wr w.heap.size (fun _ => True) t3 (accB xs B k) ∧ Below w.heap.size w wr) (fun _ t9 _ => xs.length - (intOf t9).toNat)
 case atStart => exact ⟨0, Nat.zero_le _, rfl, Kd.R_nil _ _ _ _ _, hB0⟩
 case round =>
  obtain ⟨k, hk, rfl, hR, hB⟩ := hrel
  clear hbn hB0
  by_cases hlt : k < xs.length
  ·have hk2 : k < (refS xs F B).length := by rw [refS_len]; exact hlt
   have hacc := (accB_succ xs F B k hk2).symm
   have hal := accB_len xs B hx512 k
   obtain ⟨ad, eA, x0, x1, x2, x3⟩ := at_T71 (Kd.C_below hC hB) (k : Int) (by omega) (by omega)
   subst eA
   have hrd : rd_T71 (refS xs F B) (k : Int) = (refS xs F B)[k] := by simp [rd_T71, List.getD, hk2]
   rw [hrd] at x0 x1 x2 x3
   have hf512 : ((refS xs F B)[k]).f0.size = 512 := by rw [refS_at]; rw [List.getD_eq_getElem?_getD, List.getElem?_eq_getElem hlt]; exact hx512 _ (List.getElem_mem _)
   generalize (refS xs F B)[k] = x at hacc x0 x1 x2 x3 hf512
   simp only [Int.toNat_natCast] at x0 x1 x2 x3
   have hk0 : (0 : Int) ≤ (k : Int) := by omega
   have hk1 : (k : Int) < (xs.length : Int) := by omega
   have d1 : decide ((k : Int) < (xs.length : Int)) = true := decide_eq_true hk1
   clear hrd hC h
   have hbx : Below wr.heap.size wr (wr.alloc (.cells #[.string x.f0, .string x.f1, .bool x.f2, .bool x.f3] 71)) := (Below.refl _ wr).alloc (Nat.le_refl _) _
   have hRa := Kd.R_below hR hbx
   have hBa := hB.trans (hbx.mono hB.size)
   cases hbad : x.f3
   ·rw [hbad] at x3 hRa hBa
    rw [if_neg (by rw [hbad]; decide)] at hacc
    obtain ⟨A3, c3, rfl⟩ := Kd.R_slice hR
    go_wp2_with (at_builtin; refine print_append_str (w0 := w) w.heap.size rfl (.tmp 17) _ 59 9 5 rfl Tryd.underlying59 Tryd.underlying9 info5 _ (accB xs B k) x.f0 rfl rfl (Kd.own_of_R hRa) hBa hBa.size (by omega) ?_)
    intro v1 w2 hR2 hB2 _
    try rw [hacc] at hR2
    clear hacc
    go_wp2
    exact ⟨⟨k + 1, by omega, by simp, Kd.R_of_own hR2 (fun _ _ => trivial), hB2⟩, by simp [intOf]; omega⟩
   ·rw [hbad] at x3 hRa hBa
    rw [if_pos hbad] at hacc
    obtain ⟨A3, c3, rfl⟩ := Kd.R_slice hR
    go_wp2_with (at_builtin; refine append_512 (w0 := w) rfl (.tmp 15) (.const (.int .i64 512)) rfl _ (accB xs B k) (accB xs B (k + 1)) rfl rfl hRa hBa (by omega) hacc.symm ?_)
    intro v1 w2 hR2 hB2
    clear hacc
    go_wp2
    exact ⟨⟨k + 1, by omega, by simp, hR2, hB2⟩, by simp [intOf]; omega⟩
  ·have ek : k = xs.length := by omega
   subst ek
   have hcv := own_string (P := Tryd.prog) (src := 59) (dst := 9) Tryd.underlying59 Tryd.underlying5 Tryd.underlying9 (Kd.own_of_R hR)
   have hfin : strOfNums (accB xs B xs.length) = catS (outS xs B) := by
    unfold accB
    rw [show xs.length = (outS xs B).length from (outS_len xs B).symm, List.take_length, str_bytes]
   rw [hfin] at hcv
   obtain ⟨A3, c3, rfl⟩ := Kd.R_slice hR
   go_wp2
   go_ret
   exact ⟨rfl, hB⟩
theorem wrapS {x : Int} (h0 : 0 ≤ x) (h1 : x < 9223372036854775808) : wrap64 x = x := by unfold wrap64; omega
theorem ref_Read (w : World) (v : Value) (xs : List ByteArray) (F : FL) (B : BL) (off : Bool) (left nw at_ : Int) (h : RefAt w v xs F B) :
  Calls Tryd.prog 57 #[.agg #[v, .bool off, .int .i64 left, .int .i64 nw], .int .i64 at_] w fun e w' => e = .returned (.tuple #[.string (readP xs F B off at_).1, .int .i64 (readP xs F B off at_).2]) ∧ Below w.heap.size w w' := by
 obtain ⟨A, c, rfl, hc, hC⟩ := h.reads
 have hh := caulkref05_Dev_Read.calls A c (refS xs F B) off left nw at_ (readP xs F B off at_).1 (readP xs F B off at_).2 w (by rw [refS_len]; exact hC) (by rw [refS_len]; exact hc) (by
  unfold caulkref05_Dev_Read.f
  cases off
  ·rw [if_neg (by decide)]
   unfold caulkref05_Dev_has.f
   rw [refS_len]
   by_cases h0 : 0 ≤ at_
   ·rw [if_pos h0]
    by_cases h1 : at_ < (xs.length : Int)
    ·have hr : reachP xs.length false at_ = 0 := by simp [reachP, h0, h1]
     rw [decide_eq_true h1, Option.bind_some, if_pos rfl, if_pos h0, if_pos h1, rd_refS xs F B at_ h0 h1]
     rw [show readP xs F B false at_ = (match getL at_ F with | some s => (s, 0) | none => match getL at_ B with | some true => (⟨#[]⟩, 9) | _ => (xs.getD at_.toNat ⟨#[]⟩, 0)) by unfold readP; rw [hr]; rfl]
     cases hg : getL at_ F with
     | some s => rfl
     | none =>
      cases hb : getL at_ B with
      | none => rfl
      | some b => cases b <;> rfl
    ·have hr : reachP xs.length false at_ = 1 := by simp [reachP, h1]
     rw [decide_eq_false h1]
     rw [show readP xs F B false at_ = (⟨#[]⟩, 1) by unfold readP; rw [hr]; rfl]
     rfl
   ·have hr : reachP xs.length false at_ = 1 := by simp [reachP, h0]
    rw [if_neg h0]
    rw [show readP xs F B false at_ = (⟨#[]⟩, 1) by unfold readP; rw [hr]; rfl]
    rfl
  ·rw [if_pos rfl]
   rfl)
 rw [refS_len] at hh
 exact hh
theorem wait_run (xs : List ByteArray) (F : FL) (B : BL) (hx : xs.length ≤ 32768) : ∀ (d i k : Nat), i + d = xs.length → d < k → caulkref05_Dev_Waiting.l0 k (waitL i F) (refS xs F B) (xs.length : Int) (i : Int) = some (waitL xs.length F)
 | 0, i, k, h, hk => by
  obtain ⟨k, rfl⟩ : ∃ m, k = m + 1 := ⟨k - 1, by omega⟩
  rw [caulkref05_Dev_Waiting.l0, if_neg (by omega), show i = xs.length by omega]
 | d + 1, i, k, h, hk => by
  obtain ⟨k, rfl⟩ : ∃ m, k = m + 1 := ⟨k - 1, by omega⟩
  have ih := wait_run xs F B hx d (i + 1) k (by omega) (by omega)
  have hl : (waitL i F).length ≤ i := by unfold waitL; rw [List.length_map]; exact Nat.le_trans (List.length_filter_le _ _) (by simp)
  rw [waitL_succ] at ih
  rw [caulkref05_Dev_Waiting.l0, if_pos (by omega), if_pos (by omega), if_pos (by rw [refS_len]; omega), rd_refS xs F B i (by omega) (by omega), wrapS (by omega) (by omega)]
  dsimp only
  cases hg : (getL (i : Int) F).isSome
  ·rw [if_neg (by decide)]
   rw [hg, if_neg (by decide), List.append_nil] at ih
   exact ih
  ·rw [if_pos rfl, if_pos (by omega)]
   rw [hg, if_pos rfl] at ih
   exact ih
def badL (n : Nat) (B : BL) : List Int := ((List.range n).filter fun j : Nat => (getL (j : Int) B).getD false).map fun j : Nat => (j : Int)
theorem badL_succ (n : Nat) (B : BL) : badL (n + 1) B = badL n B ++ if (getL (n : Int) B).getD false = true then [(n : Int)] else [] := by
 unfold badL
 rw [List.range_succ, List.filter_append, List.map_append]
 cases hg : (getL (n : Int) B).getD false <;> simp [hg, List.filter_cons]
theorem keysI_bad {n : Nat} {B : BL} (hn : NodupK B) (hB : ∀ q ∈ B, 0 ≤ q.1 ∧ q.1 < (n : Int) ∧ q.2 = true) : keysI B = badL n B :=
 keys_is hn (by
  unfold badL
  rw [List.pairwise_map]
  exact (List.Pairwise.filter _ List.pairwise_lt_range).imp (fun h => by omega)) (fun x => by
  unfold badL
  simp only [List.mem_map, List.mem_filter, List.mem_range]
  constructor
  ·rintro ⟨j, ⟨h1, h2⟩, rfl⟩
   cases hg : getL (j : Int) B with
   | none => rw [hg] at h2; cases h2
   | some b => rfl
  ·intro h
   obtain ⟨v, hv⟩ := Option.isSome_iff_exists.1 h
   have := hB _ (getL_mem hv)
   simp only at this
   refine ⟨x.toNat, ⟨by omega, ?_⟩, by omega⟩
   rw [show ((x.toNat : Nat) : Int) = x by omega, hv, this.2.2]
   rfl)
theorem bad_run (xs : List ByteArray) (F : FL) (B : BL) (hx : xs.length ≤ 32768) : ∀ (d i k : Nat), i + d = xs.length → d < k → caulkref05_Dev_Bad.l0 k (badL i B) (refS xs F B) (xs.length : Int) (i : Int) = some (badL xs.length B)
 | 0, i, k, h, hk => by
  obtain ⟨k, rfl⟩ : ∃ m, k = m + 1 := ⟨k - 1, by omega⟩
  rw [caulkref05_Dev_Bad.l0, if_neg (by omega), show i = xs.length by omega]
 | d + 1, i, k, h, hk => by
  obtain ⟨k, rfl⟩ : ∃ m, k = m + 1 := ⟨k - 1, by omega⟩
  have ih := bad_run xs F B hx d (i + 1) k (by omega) (by omega)
  have hl : (badL i B).length ≤ i := by unfold badL; rw [List.length_map]; exact Nat.le_trans (List.length_filter_le _ _) (by simp)
  rw [badL_succ] at ih
  rw [caulkref05_Dev_Bad.l0, if_pos (by omega), if_pos (by omega), if_pos (by rw [refS_len]; omega), rd_refS xs F B i (by omega) (by omega), wrapS (by omega) (by omega)]
  dsimp only
  cases hg : (getL (i : Int) B).getD false
  ·rw [if_neg (by decide)]
   rw [hg, if_neg (by decide), List.append_nil] at ih
   exact ih
  ·rw [if_pos rfl, if_pos (by omega)]
   rw [hg, if_pos rfl] at ih
   exact ih
theorem new_run (n : Nat) (z : ByteArray) (hn : n ≤ 32768) : ∀ (d i k : Nat), i + d = n → d < k → caulkref05_New.l0 k (n : Int) z (i : Int) (List.replicate i ⟨z, ⟨#[]⟩, false, false⟩) false (-1) 0 = some (List.replicate n ⟨z, ⟨#[]⟩, false, false⟩, false, -1, 0, true)
 | 0, i, k, h, hk => by
  obtain ⟨k, rfl⟩ : ∃ m, k = m + 1 := ⟨k - 1, by omega⟩
  rw [caulkref05_New.l0, if_neg (by omega), show i = n by omega]
 | d + 1, i, k, h, hk => by
  obtain ⟨k, rfl⟩ : ∃ m, k = m + 1 := ⟨k - 1, by omega⟩
  have ih := new_run n z hn d (i + 1) k (by omega) (by omega)
  rw [List.replicate_succ'] at ih
  rw [caulkref05_New.l0, if_pos (by omega), if_pos (by rw [List.length_replicate]; omega), wrapS (by omega) (by omega)]
  exact ih
theorem refS_new (n : Nat) : List.replicate n ⟨zeroS, ⟨#[]⟩, false, false⟩ = refS (List.replicate n zeroS) [] [] := by
 apply refS_ext (by rw [List.length_replicate, List.length_replicate])
 intro k hk
 rw [List.length_replicate] at hk
 rw [List.getElem_replicate, List.getD_eq_getElem?_getD, List.getElem?_replicate, if_pos hk]
 rfl
theorem ref_New (w : World) (n : Int) (h1 : 1 ≤ n) (h2 : n ≤ 32768) :
  Calls Tryd.prog 13 #[.int .i64 n] w fun e w' => ∃ v', e = .returned (.tuple #[.agg #[v', .bool false, .int .i64 (-1), .int .i64 0], .bool true]) ∧ RefAt w' v' (List.replicate n.toNat zeroS) [] [] ∧ Below w.heap.size w w' := by
 refine (caulkref05_New.calls (n.toNat + 2) n (refS (List.replicate n.toNat zeroS) [] []) false (-1) 0 true w ?_).mono ?_
 ·unfold caulkref05_New.f
  rw [if_neg (by omega), caulkref05_New.j0, decide_eq_false (by omega : ¬ n > 32768), if_neg (by decide), if_pos (by decide)]
  have := new_run n.toNat zeroS (by omega) n.toNat 0 (n.toNat + 1) (by omega) (by omega)
  rw [show ((n.toNat : Nat) : Int) = n by omega, refS_new n.toNat] at this
  exact this
 ·rintro e w' ⟨v, rfl, hR, hb⟩
  exact ⟨v, rfl, Kd.R_lower hR (Nat.zero_le _), hb⟩
theorem ref_New_no (w : World) (n : Int) (h : ¬ (1 ≤ n ∧ n ≤ 32768)) :
  Calls Tryd.prog 13 #[.int .i64 n] w fun e w' => ∃ A c, e = .returned (.tuple #[.agg #[.slice A 0 c, .bool false, .int .i64 0, .int .i64 0], .bool false]) ∧ Below w.heap.size w w' := by
 refine (caulkref05_New.calls 1 n [] false 0 0 false w ?_).mono ?_
 ·unfold caulkref05_New.f
  by_cases h1 : n < 1
  ·rw [if_pos h1, caulkref05_New.j0, if_pos rfl]
  ·rw [if_neg h1, caulkref05_New.j0, decide_eq_true (by omega : n > 32768), if_pos rfl]
 ·rintro e w' ⟨v, rfl, hR, hb⟩
  obtain ⟨A, c, rfl⟩ := Kd.R_slice hR
  exact ⟨A, c, rfl, hb⟩
end

end Go.Proofs.YtpbkcdodpjpoeaaDoor.HCP
