/- WRITTEN BY wip/hyb.py, a program of this workplace (out of the kit's printer and this workplace's own contracts). -/
import Derived.Test.YtgahpdoiddhdaaaGPoolx0
import Derived.Test.YtgahpdoiddhdaaaGPoolx1
namespace Go.Proofs.Ytgahpdoiddhdaaa.HPool
open Go.RowKit Go.Proofs.YtgahpdoiddhdaaaW.PrintWords Go.Proofs.YtgahpdoiddhdaaaW.PrintLast Go.Proofs.YtgahpdoiddhdaaaW.PrintMore
attribute [local go_sem] max2_int min2_int max_two min_two max_three min_three max_four min_four   -- for this text's walks alone
set_option linter.unusedVariables false
set_option linter.unusedSimpArgs false

section
open Go Go.Shelf Go.Maps Go.Proofs.Ytgahpdoiddhdaaa.Seq Go.Proofs.Ytgahpdoiddhdaaa.MapL Go.Proofs.YtgahpdoiddhdaaaW.PrintLast
attribute [local go_sem] Oper.semAt_some max2_int min2_int max_two min_two
theorem info5P : (Try.prog.info? 5).map (fun i => (i.zero, i.size, i.bytes)) = some (some (.int .u8 0), 1, 1) := by kernel_rfl
theorem make_conv (W : World) : ∃ o s, s.size = 65537 ∧ (Instr.makeSlice 119 (.int .i64 65537) (.int .i64 65537)).run Try.prog W = .ok (.slice (some ⟨W.heap.size, 0, none⟩) 65537 65537) (W.alloc o) ∧
  (convert 119 9 (.slice (some ⟨W.heap.size, 0, none⟩) 65537 65537)).run Try.prog (W.alloc o) = .ok (.string s) (W.alloc o) := by
 obtain ⟨i, hi, hz⟩ := Option.map_eq_some_iff.1 info5P
 simp only [Prod.mk.injEq] at hz
 obtain ⟨hz0, hz1, hz2⟩ := hz
 obtain ⟨N, hN⟩ : ∃ N : Nat, N = 65537 := ⟨_, rfl⟩
 have hr := run_make (P := Try.prog) W 119 5 i _ Try.underlying119 hi hz0 .i64 .i64 N N (by omega) (Int.le_refl _) (by rw [hz2]; omega) (by omega)
 simp only [Int.toNat_natCast, hz1, Nat.mul_one] at hr
 have hc := run_convert_bytes_arg (P := Try.prog) (W.alloc (.cells (madeCells (Value.int .u8 0).cells N) 5)) 119 5 Try.underlying119 (by kernel_rfl) W.heap.size 0 N N (List.replicate N 0) (by simp) (fun j hj => by
  have hn := World.alloc_heap_new W (.cells (madeCells (Value.int .u8 0).cells N) 5)
  have : (madeCells (Value.int .u8 0).cells N)[j]? = some (.int .u8 0) := by
   rw [madeCells]
   simp [hj, Value.cells, Nat.mod_one]
  simp only [World.cell?, hn, Nat.zero_add]
  rw [this]
  simp [List.getD, hj]) 9 Try.underlying9
 refine ⟨_, _, ?_, by rw [hN] at hr; exact hr, by rw [hN] at hc; exact hc⟩
 rw [strOfNums_size, List.length_replicate]
theorem PoolAt.below {w w' : World} {p b : Nat} {last : Int} {L : List (Int × ByteArray)} (h : PoolAt w p b last L) (hb : Below w.heap.size w w') : PoolAt w' p b last L :=
 h.step (Step.of_below (S := fun _ => False) hb) (fun h => h) (fun h => h)
theorem drawn_step {w w' : World} (S : Nat → Prop) (h : Drawn0 w w') : Step S w w' := by
 obtain ⟨n, rfl⟩ := h
 exact ⟨pw_below_drewN (Below.refl _ _) n, fun _ _ _ => rfl⟩
theorem C_litI {W : World} {g : Nat} {xs : List Int} {cs : Array Value} {t : TypeId} {fr : Nat × Nat} (h : W.heap[g]? = some (.cells cs t fr)) (hc : cs.toList = xs.map (Value.int .i64)) (hl : xs.length ≤ 9223372036854775807) : Kd.C (Kd.int .i64) W (some ⟨g, 0, none⟩) xs.length xs :=
 ⟨rfl, hl, fun _ => ⟨_, rfl, fun j p hj => ⟨[.int .i64 p], rfl, rfl, fun i u hu => by
  have hi : i = 0 := by have := (List.getElem?_eq_some_iff.1 hu).1; simpa using this
  subst hi
  simp at hu
  subst hu
  have h2 : cs[j]? = some (.int .i64 p) := by rw [← Array.getElem?_toList, hc, List.getElem?_map, hj]; rfl
  show W.cell? (Addr.add ⟨g, 0, none⟩ (j * 1 + 0)) = _
  by_cases hj0 : j = 0
  ·subst hj0; simp [Addr.add, World.cell?, h]; exact h2
  ·simp [Addr.add, World.cell?, h, hj0]; exact h2⟩⟩⟩
abbrev sA : ByteArray := ⟨#[97]⟩
abbrev sBC : ByteArray := ⟨#[98, 99]⟩
abbrev s0 : ByteArray := ⟨#[]⟩
theorem sA_is : (⟨#[97]⟩ : ByteArray) = sA := rfl
theorem sBC_is : (⟨#[98, 99]⟩ : ByteArray) = sBC := rfl
theorem s0_is : (⟨#[]⟩ : ByteArray) = s0 := rfl
theorem add1 : addP 0 [] sA = (1, [(1, sA)], 1, 0) := rfl
theorem add2 : addP 1 [(1, sA)] sBC = (2, [(1, sA), (2, sBC)], 2, 0) := rfl
theorem keep3 : keepP [(1, sA), (2, sBC)] [2] = [(2, sBC)] := rfl
theorem add4 : addP 2 [(2, sBC)] s0 = (3, [(2, sBC), (3, s0)], 3, 0) := rfl
theorem get5 : getP [(2, sBC), (3, s0)] 2 = (sBC, 0) := rfl
theorem get6 : getP [(2, sBC), (3, s0)] 1 = (ByteArray.empty, 3) := rfl
theorem add7 (s : ByteArray) (h : s.size = 65537) : addP 3 [(2, sBC), (3, s0)] s = (3, [(2, sBC), (3, s0)], 0, 7) := by unfold addP; rw [if_pos (by omega)]
set_option maxRecDepth 100000 in
set_option maxHeartbeats 2000000 in
theorem lives17_any (w : World) : Calls Try.prog 32 #[] w fun e w' => e = .returned (.bool true) ∧ Below w.heap.size w w' := by
 refine (callsIn_wide (n := 4)).1 ?_
 refine callsIn_of_wp_marks Try.func32 rfl trivial ?_ rfl
 simp only [Try.ntmps32, List.size_toArray, List.length_cons, List.length_nil, Nat.reduceAdd, Nat.reduceSub, Array.replicate_succ, Array.replicate_zero, List.push_toArray, List.append_toArray, List.nil_append, List.cons_append]

 gi_wp2
 refine ⟨trivial, ?_⟩
 gi_at_call 33
 refine (callsIn_wide.2 (pool_New_any _)).mono ?_
 rintro e w1 ⟨p, b, rfl, h1, hp1, hb1, hB1⟩
 have A1 := pool_Add_any w1 p b 0 [] sA h1 (by decide)
 rw [add1] at A1
 gi_wp2
 refine ⟨trivial, ?_⟩
 gi_at_call 34
 refine (callsIn_wide.2 A1).mono ?_
 rintro e w2 ⟨rfl, h2, hs2⟩
 have A2 := pool_Add_any w2 p b 1 [(1, sA)] sBC h2 (by decide)
 rw [add2] at A2
 gi_wp2
 refine ⟨trivial, ?_⟩
 gi_at_call 34
 refine (callsIn_wide.2 A2).mono ?_
 rintro e w3 ⟨rfl, h3, hs3⟩
 have A3 := pool_Keep_any (w3.alloc (.cells #[.int .i64 2] 3)) p b 2 [(1, sA), (2, sBC)] (some ⟨w3.heap.size, 0, none⟩) 1 [2] (h3.step (Step.alloc (fun _ => False) _ _) (fun h => h) (fun h => h)) (C_litI (World.alloc_heap_new w3 _) rfl (by decide)) (by decide) (by decide)
 rw [keep3] at A3
 gi_wp2
 refine ⟨trivial, ?_⟩
 gi_at_call 35
 refine (callsIn_wide.2 A3).mono ?_
 rintro e w4 ⟨rfl, h4, hs4⟩
 have A4 := pool_Add_any w4 p b 2 [(2, sBC)] s0 h4 (by decide)
 rw [add4] at A4
 gi_wp2
 refine ⟨trivial, ?_⟩
 gi_at_call 34
 refine (callsIn_wide.2 A4).mono ?_
 rintro e w5 ⟨rfl, h5, hs5⟩
 have A5 := pool_Get_any w5 p b 3 [(2, sBC), (3, s0)] 2 h5 (by decide)
 rw [get5] at A5
 gi_wp2
 refine ⟨trivial, ?_⟩
 gi_at_call 37
 refine (callsIn_wide.2 A5).mono ?_
 rintro e w6 ⟨rfl, hs6⟩
 have h6 := h5.step hs6 (fun h => h) (fun h => h)
 have A6 := pool_Get_any w6 p b 3 [(2, sBC), (3, s0)] 1 h6 (by decide)
 rw [get6] at A6
 gi_wp2
 refine ⟨trivial, ?_⟩
 gi_at_call 37
 refine (callsIn_wide.2 A6).mono ?_
 rintro e w7 ⟨rfl, hs7⟩
 obtain ⟨o7, s7, hsz7, hmk7, hcv7⟩ := make_conv w7
 have A7 := pool_Add_any (w7.alloc o7) p b 3 [(2, sBC), (3, s0)] s7 (h6.step (hs7.trans (Step.alloc (fun _ => False) _ _) (fun _ h => h) (fun _ h => Or.inl h)) (fun h => h) (fun h => h)) (by rw [hsz7]; decide)
 rw [add7 s7 hsz7] at A7
 gi_wp2
 refine ⟨trivial, ?_⟩
 gi_at_call 34
 refine (callsIn_wide.2 A7).mono ?_
 rintro e w8 ⟨rfl, h8, hs8⟩
 have A8 := pool_Ids_any w8 p b 3 _ h8
 gi_wp2
 refine ⟨trivial, ?_⟩
 gi_at_call 36
 refine (callsIn_wide.2 A8).mono ?_
 rintro e w9 ⟨v9, rfl, hR9, hB9⟩
 obtain ⟨A9, c9, rfl, hc9, hC9⟩ := Kd.R_reads hR9
 have h9 := h8.below hB9
 have A10 := caulkref05_Same.calls 5 A9 c9 [2, 3] (some ⟨w9.heap.size, 0, none⟩) 2 [2, 3] true (w9.alloc (.cells #[.int .i64 2, .int .i64 3] 3)) (Kd.C_alloc hC9 _) hc9 (C_litI (World.alloc_heap_new w9 _) rfl (by decide)) (by decide) (by kernel_rfl)
 gi_wp2
 refine ⟨trivial, ?_⟩
 gi_at_call 42
 refine (callsIn_wide.2 A10).mono ?_
 rintro e w10 ⟨rfl, hD10⟩
 have hs10 : Step (fun _ => False) w9 w10 := (Step.alloc (fun _ => False) _ _).trans (drawn_step (fun _ => False) hD10) (fun _ h => h) (fun _ h => h.elim)
 have h10 := h9.step hs10 (fun h => h) (fun h => h)
 have A11 := pool_Bytes_any w10 p b 3 _ h10
 gi_wp2
 refine ⟨trivial, ?_⟩
 gi_at_call 44
 refine (callsIn_wide.2 A11).mono ?_
 rintro e w11 ⟨rfl, hB11⟩
 have hz : ((sizeP [(2, sBC), (3, s0)] : Nat) : Int) = 2 := rfl
 rw [hz]
 gi_wp2
 refine ⟨_, results_tmp rfl _ _ _, rfl, ?_⟩
 have hT : ∀ {A B C : World}, Below w.heap.size w A → Step (fun k => k = p ∨ k = b) A B → Below w.heap.size w B := fun h hs => h.trans (hs.below h.size (fun k hk => by rcases hk with rfl | rfl <;> omega))
 have hF : ∀ {A B C : World}, Below w.heap.size w A → Step (fun _ => False) A B → Below w.heap.size w B := fun h hs => h.trans (hs.below h.size (fun k hk => hk.elim))
 have B3 := hT (C := w) (hT (C := w) hB1 hs2) hs3
 have B4 := hT (C := w) (B3.alloc B3.size _) hs4
 have B7 := hF (C := w) (hF (C := w) (hT (C := w) B4 hs5) hs6) hs7
 have B8 := hT (C := w) (B7.alloc B7.size _) hs8
 have B9 := B8.trans (hB9.mono B8.size)
 have B10 := hF (C := w) B9 hs10
 exact B10.trans (hB11.mono B10.size)
end

section
open Go Go.Shelf Go.Maps Go.Proofs.Ytgahpdoiddhdaaa.Seq Go.Proofs.Ytgahpdoiddhdaaa.MapL Go.Proofs.YtgahpdoiddhdaaaW.PrintLast
attribute [local go_sem] Oper.semAt_some max2_int min2_int max_two min_two
theorem info9P : (Try.prog.info? 9).map (fun i => (i.zero, i.size, i.bytes)) = some (some (.string ⟨#[]⟩), 1, 16) := by kernel_rfl
def TextsAt (w : World) (base : Nat) (v : Value) (tx : List ByteArray) : Prop := w.ownsRow base 9 1 v tx.length (tx.map Value.string)
theorem TextsAt.ne {w : World} {base : Nat} {v : Value} {tx : List ByteArray} {p b : Nat} {last : Int} {L : List (Int × ByteArray)} (h : TextsAt w base v tx) (hp : PoolAt w p b last L) : v.ownBlock ≠ some p ∧ v.ownBlock ≠ some b := by
 rcases h.2 with ⟨rfl, _⟩ | ⟨g, cap, cur, rfl, _, hg, _⟩
 ·simp [Value.ownBlock]
 ·constructor
  ·intro e; simp [Value.ownBlock] at e; subst e; rw [hp.1] at hg; cases hg
  ·intro e; simp [Value.ownBlock] at e; subst e
   obtain ⟨D, ⟨es, clock, h2, _⟩, _⟩ := hp.2.1
   rw [h2] at hg; cases hg
def AgainAt (w wr : World) (p b k : Nat) (last : Int) (v : Value) : Prop :=
 ∃ (L : List (Int × ByteArray)) (tx : List ByteArray), PoolAt wr p b last L ∧ TextsAt wr w.heap.size v tx ∧ (tx.length : Int) = last + 1 ∧ last ≤ k ∧ (∀ q ∈ L, tx[q.1.toNat]? = some q.2) ∧ Below w.heap.size w wr
def caulklaw17_PoolAgain.Pure : Prop := True
set_option maxRecDepth 100000 in
set_option maxHeartbeats 2000000 in
theorem caulklaw17_PoolAgain.walk (P : caulklaw17_PoolAgain.Pure) (A0 : Option Addr) (c0 : Nat) (l0 : List S62) (w : World) (hr0 : Kd.C k62 w A0 l0.length l0) (hc0 : l0.length ≤ c0) (hw0 : (l0.length ≤ maxLen ∧ l0.length * 56 ≤ 140737488351232 ∧ ∀ z0 ∈ l0, wf62 z0)) :
  Calls Try.prog 8 #[.slice A0 l0.length c0] w fun e w' => e = .returned (.bool true) ∧ Below w.heap.size w w' := by
 refine (callsIn_wide (n := 4)).1 ?_
 refine callsIn_of_wp_marks Try.func8 rfl trivial ?_ rfl
 simp only [Try.ntmps8, List.size_toArray, List.length_cons, List.length_nil, Nat.reduceAdd, Nat.reduceSub, Array.replicate_succ, Array.replicate_zero, List.push_toArray, List.append_toArray, List.nil_append, List.cons_append]
 gi_wp2
 refine ⟨trivial, ?_⟩
 gi_at_call 32
 refine (callsIn_wide.2 (lives17_any w)).mono ?_
 rintro e w1 ⟨rfl, hB1⟩
 gi_wp2
 refine ⟨trivial, ?_⟩
 gi_at_call 33
 refine (callsIn_wide.2 (pool_New_any w1)).mono ?_
 rintro e w2 ⟨p, b, rfl, h2, hp2, hb2, hB2⟩
 have hB3 : Below w.heap.size w w2 := hB1.trans (hB2.mono hB1.size)
 have hws1 := hB1.size
 by_cases hlen : 100 < l0.length
 ·have d1 : decide (100 < (l0.length : Int)) = true := decide_eq_true (by omega)
  gi_wp2
  exact ⟨_, results_tmp rfl _ _ _, rfl, hB3⟩
 ·have d1 : decide (100 < (l0.length : Int)) = false := decide_eq_false (by omega)
  gi_wp2
  have hpw : w.heap.size ≤ p := by omega
  have hbw : w.heap.size ≤ b := by omega
  have hA : AgainAt w (w2.alloc (.cells #[.string ⟨#[]⟩] 9)) p b 0 0 (.slice (some ⟨w2.heap.size, 0, none⟩) 1 1) := by
   refine ⟨[], [⟨#[]⟩], h2.step (Step.alloc (fun _ => False) _ _) (fun h => h) (fun h => h), ⟨rfl, Or.inr ⟨w2.heap.size, 1, #[.string ⟨#[]⟩], rfl, hB3.size, World.alloc_heap_new w2 _, Nat.le_refl _, by unfold maxLen; omega, rfl, rfl⟩⟩, rfl, Int.le_refl _, by simp, hB3.alloc hB3.size _⟩
  gi_loopw [4, 5, 29] (fun t4 t5 t29 wr => ∃ (k : Nat) (last : Int), k ≤ l0.length ∧ t29 = .int .i64 k ∧ t4 = .int .i64 last ∧ AgainAt w wr p b k last t5) (fun _ _ t29 _ => l0.length - (intOf t29).toNat)
  case atStart => exact ⟨0, 0, Nat.zero_le _, rfl, rfl, hA⟩
  case round =>
   obtain ⟨k, last, hk, rfl, rfl, L, tx, hP, hT, htl, hlk, hLt, hB⟩ := hrel
   have hwrs := hB.size
   have hl0 := hP.2.2.1
   by_cases hlt : k < l0.length
   ·obtain ⟨ad, A3, c3, ea, x0, x1, x2, x3, hl3, hi3⟩ := at_T62 hr0 (k : Int) (by omega) (by omega)
    cases ea
    have hwf := hw0.2.2 _ (List.getElem_mem hlt)
    obtain ⟨x, hx⟩ : ∃ x, x = rd_T62 l0 (k : Int) := ⟨_, rfl⟩
    have hxd : l0[k] = x := by rw [hx]; simp [rd_T62, List.getD, hlt]
    rw [hxd] at hwf
    rw [← hx] at x0 x1 x2 x3 hl3 hi3
    clear hx hxd
    replace x0 := (hB.cell (World.block_lt_of_cell? w _ x0)).trans x0
    replace x1 := (hB.cell (World.block_lt_of_cell? w _ x1)).trans x1
    replace x2 := (hB.cell (World.block_lt_of_cell? w _ x2)).trans x2
    replace x3 := (hB.cell (World.block_lt_of_cell? w _ x3)).trans x3
    simp only [Int.toNat_natCast] at x0 x1 x2 x3
    have hk100 : (k : Int) < 100 := by omega
    by_cases hk0 : x.f0 = 0
    ·have e0 : (x.f0 == 0) = true := by simpa using hk0
     have hps : p < wr.heap.size := (Array.getElem?_eq_some_iff.1 hP.1).1
     have hbs := hP.2.1.lt
     obtain ⟨hTp, hTb⟩ := hT.ne hP
     have hTlt : ∀ g, u5.ownBlock = some g → w.heap.size ≤ g ∧ g < wr.heap.size := fun g hg => by
      rcases hT.2 with ⟨rfl, _⟩ | ⟨g', cap, cur, rfl, hb, hg', _⟩
      ·simp [Value.ownBlock] at hg
      ·simp [Value.ownBlock] at hg; subst hg; exact ⟨hb, (Array.getElem?_eq_some_iff.1 hg').1⟩
     obtain ⟨Wa, hWa⟩ : ∃ Wa, Wa = wr.alloc (.cells #[.int .i64 0, .string x.f1, .int .i64 x.f2, .slice A3 x.f3.length c3] 62) := ⟨_, rfl⟩
     have hsa : Step (fun _ => False) wr Wa := by rw [hWa]; exact Step.alloc _ _ _
     have hba : Wa.heap[wr.heap.size]? = some (.cells #[.int .i64 0, .string x.f1, .int .i64 x.f2, .slice A3 x.f3.length c3] 62 (0, 0)) := by rw [hWa]; exact World.alloc_heap_new wr _
     have hza : Wa.heap.size = wr.heap.size + 1 := by rw [hWa]; simp
     have hBa : Below w.heap.size w Wa := by rw [hWa]; exact hB.alloc hB.size _
     have hPa := hP.step hsa (fun h => h) (fun h => h)
     have hAdd := pool_Add_any Wa p b last L x.f1 hPa (by have := hwf.2.1; unfold maxLen; omega)
     by_cases hsz : 65536 < x.f1.size
     ·have ea : addP last L x.f1 = (last, L, 0, 7) := by unfold addP; rw [if_pos hsz]
      rw [ea] at hAdd
      gi_wp2
      refine ⟨trivial, ?_⟩
      gi_at_call 34
      rw [← hWa]
      refine (callsIn_wide.2 hAdd).mono ?_
      rintro e w4 ⟨rfl, h4, hs4⟩
      gi_wp2
      go_roundw
      case rel => exact ⟨k + 1, last, by omega, by simp, rfl, L, tx, h4, ownsRow_step hs4 (ownsRow_step hsa hT (fun _ _ h => h)) (fun g hg h => h.elim (fun e => hTp (by rw [hg, e])) (fun e => hTb (by rw [hg, e]))), htl, by omega, hLt, hBa.trans (hs4.below hBa.size (fun q hq => by rcases hq with rfl | rfl <;> omega))⟩
      case measure => simp [intOf]; omega
     ·have ea : addP last L x.f1 = (last + 1, L ++ [(last + 1, x.f1)], last + 1, 0) := by unfold addP; rw [if_neg hsz, if_neg (by omega)]
      rw [ea] at hAdd
      gi_wp2
      refine ⟨trivial, ?_⟩
      gi_at_call 34
      rw [← hWa]
      refine (callsIn_wide.2 hAdd).mono ?_
      rintro e w4 ⟨rfl, h4, hs4⟩
      have hT4 : TextsAt w4 w.heap.size u5 tx := ownsRow_step hs4 (ownsRow_step hsa hT (fun _ _ h => h)) (fun g hg h => h.elim (fun e => hTp (by rw [hg, e])) (fun e => hTb (by rw [hg, e])))
      have hb4 : w4.heap[wr.heap.size]? = some (.cells #[.int .i64 0, .string x.f1, .int .i64 x.f2, .slice A3 x.f3.length c3] 62 (0, 0)) := hs4.block hba (by omega)
      have c41 : ∀ o, (w4.alloc o).cell? ⟨wr.heap.size, 1, none⟩ = some (.string x.f1) := fun o => by
       have : (w4.alloc o).heap[wr.heap.size]? = _ := (Below.heap_alloc w4 o _ (Array.getElem?_eq_some_iff.1 hb4).1).trans hb4
       simp [World.cell?, this]
      have c40 : w4.cell? ⟨wr.heap.size, 1, none⟩ = some (.string x.f1) := by simp [World.cell?, hb4]
      have hB4 : Below w.heap.size w w4 := hBa.trans (hs4.below hBa.size (fun q hq => by rcases hq with rfl | rfl <;> omega))
      have hcell := World.news_of_block (cs := #[.string x.f1]) (t := 9) (fr := (0, 0)) (World.alloc_heap_new w4 (.cells #[.string x.f1] 9))
      have hz4 : w.heap.size ≤ (w4.alloc (.cells #[.string x.f1] 9)).heap.size := by have := hB4.size; simp; omega
      obtain ⟨A5, n5, c5, rfl⟩ : ∃ A n c, u5 = .slice A n c := by
       rcases hT4.2 with ⟨rfl, _⟩ | ⟨g, cap, cur, rfl, _⟩
       ·exact ⟨_, _, _, rfl⟩
       ·exact ⟨_, _, _, rfl⟩
      have htx : tx.length ≤ 101 := by omega
      gi_wp2_with (gi_at_builtin; refine wpListIn_append_at _ rfl _ _ 59 rfl w.heap.size 9 (.string ⟨#[]⟩) 1 16 Try.underlying59 info9P rfl (by decide) (.slice A5 n5 c5) tx.length (tx.map Value.string) rfl (hT4.alloc _) ⟨w4.heap.size, 0, none⟩ 1 1 [.string x.f1] rfl rfl (by simpa using hcell) (by simp [Value.oneCell']) (by unfold maxLen; omega) (by omega) hz4 ?_; intro v6 w6 hown6 hg6 _ hat6)
      have hs6 : Step (fun q => (Value.slice A5 n5 c5).ownBlock = some q) w4 w6 := (Step.alloc (fun q => (Value.slice A5 n5 c5).ownBlock = some q) w4 _).trans (Step.grown hg6 (S := fun q => (Value.slice A5 n5 c5).ownBlock = some q) (fun q hq => hq)) (fun _ h => h) (fun _ h => Or.inl h)
      have h6 := h4.step hs6 (fun h => hTp h) (fun h => hTb h)
      have hT6 : TextsAt w6 w.heap.size v6 (tx ++ [x.f1]) := by
       show w6.ownsRow w.heap.size 9 1 v6 (tx ++ [x.f1]).length ((tx ++ [x.f1]).map Value.string)
       rw [List.length_append, List.length_singleton, List.map_append]
       exact hown6
      go_roundw
      case rel =>
       refine ⟨k + 1, last + 1, by omega, by simp, rfl, L ++ [(last + 1, x.f1)], tx ++ [x.f1], h6, hT6, by simp; omega, by omega, fun q hq => ?_, hB4.trans (hs6.below hB4.size (fun q hq => (hTlt q hq).1))⟩
       rcases List.mem_append.1 hq with hq | hq
       ·have h1 := hLt q hq
        rw [List.getElem?_append_left (List.getElem?_eq_some_iff.1 h1).1]; exact h1
       ·rw [List.mem_singleton] at hq
        subst hq
        have e1 : (last + 1).toNat = tx.length := by omega
        simp [e1]
      case measure => simp [intOf]; omega
    ·by_cases hk2 : x.f0 = 2
     ·have e0 : (x.f0 == 0) = false := by simpa using hk0
      have e2 : (x.f0 == 2) = true := by simpa using hk2
      have hps : p < wr.heap.size := (Array.getElem?_eq_some_iff.1 hP.1).1
      have hbs := hP.2.1.lt
      obtain ⟨hTp, hTb⟩ := hT.ne hP
      obtain ⟨Wa, hWa⟩ : ∃ Wa, Wa = wr.alloc (.cells #[.int .i64 2, .string x.f1, .int .i64 x.f2, .slice A3 x.f3.length c3] 62) := ⟨_, rfl⟩
      have hsa : Step (fun _ => False) wr Wa := by rw [hWa]; exact Step.alloc _ _ _
      have hBa : Below w.heap.size w Wa := by rw [hWa]; exact hB.alloc hB.size _
      have hPa := hP.step hsa (fun h => h) (fun h => h)
      have hK := pool_Keep_any Wa p b last L A3 c3 x.f3 hPa (Kd.C_below hi3 hBa) (by have := hwf.2.2.2.1; have := hwf.2.2.2.2.1; omega) hwf.2.2.2.2.2
      gi_wp2
      refine ⟨trivial, ?_⟩
      gi_at_call 35
      rw [← hWa]
      refine (callsIn_wide.2 hK).mono ?_
      rintro e w4 ⟨rfl, h4, hs4⟩
      gi_wp2
      go_roundw
      case rel => exact ⟨k + 1, last, by omega, by simp, rfl, keepP L x.f3, tx, h4, ownsRow_step hs4 (ownsRow_step hsa hT (fun _ _ h => h)) (fun g hg h => h.elim (fun e => hTp (by rw [hg, e])) (fun e => hTb (by rw [hg, e]))), htl, by omega, fun q hq => hLt q (List.mem_filter.1 hq).1, hBa.trans (hs4.below hBa.size (fun q hq => by rcases hq with rfl | rfl <;> omega))⟩
      case measure => simp [intOf]; omega
     ·have e0 : (x.f0 == 0) = false := by simpa using hk0
      have e2 : (x.f0 == 2) = false := by simpa using hk2
      gi_wp2
      go_roundw
      case rel => exact ⟨k + 1, last, by omega, by simp, rfl, L, tx, hP.step (Step.alloc (fun _ => False) _ _) (fun h => h) (fun h => h), ownsRow_step (Step.alloc (fun _ => False) _ _) hT (fun _ _ h => h), htl, by omega, hLt, hB.alloc hB.size _⟩
      case measure => simp [intOf]; omega
   ·obtain rfl : k = l0.length := by omega
    have hl1 := hP.2.2.2.2.1
    have hI := pool_Ids_any wr p b last L hP
    gi_wp2
    refine ⟨trivial, ?_⟩
    gi_at_call 36
    refine (callsIn_wide.2 hI).mono ?_
    rintro e w9 ⟨v9, rfl, hR9, hB9⟩
    obtain ⟨A9, c9, rfl, hc9, hC9⟩ := Kd.R_reads hR9
    have hP9 := hP.below hB9
    have hT9 : TextsAt w9 w.heap.size u5 tx := ownsRow_step (Step.of_below (S := fun _ => False) hB9) hT (fun _ _ h => h)
    have hBw9 : Below w.heap.size w w9 := hB.trans (hB9.mono hwrs)
    obtain ⟨g, cap, rfl, hgw, hg9, htx⟩ := ownsRow_form hT9 (by omega)
    have hcap : tx.length ≤ cap := by
     rcases hT9.2 with ⟨h0, _⟩ | ⟨g', cap', cur, e, _, _, h1, _⟩
     ·cases h0
     ·cases e; exact h1
    rw [List.length_map] at hC9 hc9
    gi_wp2
    gi_loopw [66] (fun t66 wr2 => ∃ j : Nat, j ≤ L.length ∧ t66 = .int .i64 j ∧ Step (fun _ => False) w9 wr2) (fun t66 _ => L.length - (intOf t66).toNat)
    case atStart => exact ⟨0, Nat.zero_le _, rfl, Step.refl _ _⟩
    case round =>
     obtain ⟨j, hj, rfl, hs9⟩ := hrel
     by_cases hjl : j < L.length
     ·obtain ⟨ad, ea, hx0⟩ := Kd.at_int hC9 (j : Int) (by omega) (by omega)
      cases ea
      replace hx0 := hs9.cell hx0 (fun h => h)
      simp only [Int.toNat_natCast] at hx0
      obtain ⟨id, hid⟩ : ∃ v, v = rd (L.map Prod.fst) (j : Int) := ⟨_, rfl⟩
      rw [← hid] at hx0
      have hid2 : (L[j]).1 = id := by rw [hid]; simp [rd, List.getD, hjl]
      clear hid
      obtain ⟨s, hs⟩ : ∃ s, s = (L[j]).2 := ⟨_, rfl⟩
      have hmem : (id, s) ∈ L := by rw [← hid2, hs]; exact List.getElem_mem hjl
      clear hid2 hs
      have hP10 := hP9.step hs9 (fun h => h) (fun h => h)
      obtain ⟨q1, q2, q3⟩ := hP.2.2.2.2.2.1 _ hmem
      have hgt := getL_of_mem hP.2.1.nodup hmem
      have hG := pool_Get_any wr p b last L id hP10 (wf_of (by omega) (by omega))
      have eg : getP L id = (s, 0) := by unfold getP; rw [hgt]
      rw [eg] at hG
      have e1 : decide (id < 1) = false := decide_eq_false (by omega)
      have e2 : decide (last < id) = false := decide_eq_false (by omega)
      have hj100 : (j : Int) < 200 := by omega
      gi_wp2
      refine ⟨trivial, ?_⟩
      gi_at_call 37
      refine (callsIn_wide.2 hG).mono ?_
      rintro e w11 ⟨rfl, hs11⟩
      have hs12 := hs9.trans hs11 (fun _ h => h) (fun _ h => h.elim)
      have hT11 : TextsAt w11 w.heap.size (.slice (some ⟨g, 0, none⟩) tx.length cap) tx := ownsRow_step hs12 hT9 (fun _ _ h => h)
      have hcs : w11.cell? ⟨g, id.toNat, none⟩ = some (.string s) := ownsRow_cell hT11 (by rw [List.getElem?_map, hLt _ hmem]; rfl)
      have hi0 : 0 ≤ id := by omega
      have hi1 : id < (tx.length : Int) := by omega
      gi_wp2
      go_roundw
      case rel => exact ⟨j + 1, by omega, by simp, hs12⟩
      case measure => simp [intOf]; omega
     ·obtain rfl : j = L.length := by omega
      have hP10 := hP9.step hs9 (fun h => h) (fun h => h)
      have hI2 := pool_Ids_any wr p b last L hP10
      gi_wp2
      refine ⟨trivial, ?_⟩
      gi_at_call 36
      refine (callsIn_wide.2 hI2).mono ?_
      rintro e w12 ⟨v12, rfl, hR12, hB12⟩
      obtain ⟨A12, c12, rfl, hc12, hC12⟩ := Kd.R_reads hR12
      rw [List.length_map] at hC12 hc12 ⊢
      have e3 : decide ((L.length : Int) ≤ last) = true := decide_eq_true (by omega)
      gi_wp2
      refine ⟨_, results_tmp rfl _ _ _, rfl, ?_⟩
      have hBw10 := hBw9.trans (hs9.below hBw9.size (fun _ h => h.elim))
      exact hBw10.trans (hB12.mono hBw10.size)
end

end Go.Proofs.Ytgahpdoiddhdaaa.HPool
