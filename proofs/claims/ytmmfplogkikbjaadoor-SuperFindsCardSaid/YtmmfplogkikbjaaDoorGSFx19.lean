/- a text of this claim -/
import Derived.Test.YtmmfplogkikbjaaDoorGSFx0
import Derived.Test.YtmmfplogkikbjaaDoorGSFx8
import Derived.Test.YtmmfplogkikbjaaDoorGSFx11
import Derived.Test.YtmmfplogkikbjaaDoorGSFx12
import Derived.Test.YtmmfplogkikbjaaDoorGSFx13
import Derived.Test.YtmmfplogkikbjaaDoorGSFx15
import Derived.Test.YtmmfplogkikbjaaDoorGSFx16
import Derived.Test.YtmmfplogkikbjaaDoorGSFx17
import Derived.Test.YtmmfplogkikbjaaDoorGSFx18
namespace Go.Proofs.YtmmfplogkikbjaaDoor.HSF
open Go.RowKit Go.Proofs.YtmmfplogkikbjaaDoorW.PrintWords Go.Proofs.YtmmfplogkikbjaaDoorW.PrintLast Go.Proofs.YtmmfplogkikbjaaDoorW.PrintMore
attribute [local go_sem] max2_int min2_int max_two min_two max_three min_three max_four min_four
set_option linter.unusedVariables false
set_option linter.unusedSimpArgs false
section
open Go Go.Shelf Go.Maps Go.Proofs.YtmmfplogkikbjaaDoor.Seq Go.Proofs.YtmmfplogkikbjaaDoor.MapL Go.Proofs.YtmmfplogkikbjaaDoorW.PrintLast
attribute [local go_sem] Oper.semAt_some max2_int min2_int max_two min_two
theorem ref_Sectors_f (q : Nat) (sh K M C : Int) : caulkref06_Sectors.f (q + 10) sh K M C = some (sectorsP sh K M C) := by
 unfold caulkref06_Sectors.f
 rw [ref_Check_is]
 by_cases h : GeoOk sh K M C
 ·have hb := h.2.2.2.2.2.2.2.2
  have h0 : 0 ≤ C * (nS sh : Int) := Int.mul_nonneg (by have := h.2.2.2.2.2.2.1; omega) (Int.natCast_nonneg _)
  rw [← nS_int] at hb
  rw [if_pos h, Option.bind_some, if_pos rfl, each_is q sh K M C h.1 h.2.1, Option.bind_some, sectorsP, if_pos h, wrap64_id (by omega) (by omega)]
 ·rw [if_neg h, Option.bind_some, if_neg (by decide), sectorsP, if_neg h]
theorem ref_Sectors_any (w : World) (sh K M C : Int) : Calls Tryd.prog 15 #[.agg #[.int .i64 sh, .int .i64 K, .int .i64 M, .int .i64 C]] w fun e w' => e = .returned (.int .i64 (sectorsP sh K M C)) ∧ Below w.heap.size w w' :=
 caulkref06_Sectors.calls 10 sh K M C _ w (ref_Sectors_f 0 sh K M C)
theorem start3 (w : World) (o1 o2 o3 : Obj) : Below w.heap.size w (((w.alloc o1).alloc o2).alloc o3) ∧ (((w.alloc o1).alloc o2).alloc o3).heap[w.heap.size]? = some o1 ∧ (((w.alloc o1).alloc o2).alloc o3).heap[w.heap.size + 1]? = some o2 ∧ (((w.alloc o1).alloc o2).alloc o3).heap[w.heap.size + 1 + 1]? = some o3 ∧ w.heap.size + 3 ≤ (((w.alloc o1).alloc o2).alloc o3).heap.size := by
 have h3 := World.alloc_heap_new ((w.alloc o1).alloc o2) o3
 rw [World.size_alloc, World.size_alloc] at h3
 exact ⟨(below2 w o1 o2).alloc (below2 w o1 o2).size _, (Step.alloc (fun _ => False) _ _).block (new1of2 w o1 o2) (fun h => h), (Step.alloc (fun _ => False) _ _).block (new2 w o1 o2) (fun h => h), h3, by simp⟩
set_option maxRecDepth 100000 in
set_option maxHeartbeats 4000000 in
theorem ref10_Write_any (w : World) (v : Value) (xs : List ByteArray) (F : FL) (B : BL) (off : Bool) (left nw slot g sh k m c l a b s : Int) (hs : 0 ≤ s ∧ s < 4294967296) (h : RefAt w v xs F B) (hok : DevOk xs F B left)
  (F3 : FL) (o3 : Bool) (l3 m3 why : Int) (hq : swP xs.length F off left nw slot (bytesS g sh k m c l a b s) = (F3, o3, l3, m3, why)) :
  Calls Tryd.prog 33 #[.agg #[v, .bool off, .int .i64 left, .int .i64 nw], .int .i64 slot, .agg #[.int .i64 g, .int .i64 sh, .int .i64 k, .int .i64 m, .int .i64 c, .int .i64 l, .int .i64 a, .int .i64 b, .int .u32 s]] w fun e w' => ∃ A3 c3, e = .returned (.tuple #[.agg #[.slice A3 xs.length c3, .bool o3, .int .i64 l3, .int .i64 m3], .int .i64 why]) ∧ RefAt w' (.slice A3 xs.length c3) xs F3 B ∧ Below w.heap.size w w' := by
 have hu28 := Tryd.underlying28
 have hu71 := Tryd.underlying71
 obtain ⟨A, cp, rfl, _⟩ := h.reads
 obtain ⟨hB0, p0, p1, p2, hsz0⟩ := start3 w (.cells #[.slice A xs.length cp, .bool off, .int .i64 left, .int .i64 nw] 71) (.cells #[.int .i64 g, .int .i64 sh, .int .i64 k, .int .i64 m, .int .i64 c, .int .i64 l, .int .i64 a, .int .i64 b, .int .u32 s] 28) (.cells #[.slice none 0 0, .bool false, .int .i64 0, .int .i64 0] 71)
 have hBy := fun W => ref10_Bytes_any W g sh k m c l a b s hs
 generalize bytesS g sh k m c l a b s = bb at hq hBy
 obtain ⟨bt_, bn⟩ := bb
 dsimp only at hBy
 unfold swP at hq
 dsimp only at hq
 by_cases h1 : slot < 0 ∨ 2 ≤ slot
 ·have d1 : (slot != 0) = true := by simp; omega
  have d2 : (slot != 1) = true := by simp; omega
  rw [if_pos h1] at hq
  simp only [Prod.mk.injEq] at hq
  obtain ⟨rfl, rfl, rfl, rfl, rfl⟩ := hq
  obtain ⟨⟨a0, a1, a2, a3⟩, _⟩ := blk4 p0
  obtain ⟨⟨b0, b1, b2, b3⟩, q0, q1, q2, q3⟩ := blk4 p2
  go_enter Tryd.func33, Tryd.ntmps33
  go_upto_region 1 with (fail)
  generalize (((w.alloc (.cells #[.slice A xs.length cp, .bool off, .int .i64 left, .int .i64 nw] 71)).alloc (.cells #[.int .i64 g, .int .i64 sh, .int .i64 k, .int .i64 m, .int .i64 c, .int .i64 l, .int .i64 a, .int .i64 b, .int .u32 s] 28)).alloc (.cells #[.slice none 0 0, .bool false, .int .i64 0, .int .i64 0] 71)) = w0 at *
  go_wp2
  refine bodyPost_ret (results_ct rfl _ _ (w.heap.size + 1 + 1) 71 _ (0, 0) _ rfl (put4 p2 _ _ _ _) Tryd.underlying71 rfl (by kernel_rfl)) rfl ?_
  exact ⟨_, _, rfl, ref_put4 (h.below hB0) p2 _ _ _ _, below_put4 hB0 (by omega) _ _ _ _⟩
 rw [if_neg h1] at hq
 have hsl : slot = 0 ∨ slot = 1 := by omega
 have hWr := fun W (hW : RefAt W (.slice A xs.length cp) xs F B) => ref_Write W _ xs F B off left nw slot bt_ hW hok
 generalize hwp : writeP xs.length F off left nw slot bt_ = q at hq hWr
 obtain ⟨Fq, oq, lq, mq, wq⟩ := q
 dsimp only at hWr
 clear hwp hok h1
 by_cases hb : bn = 0
 ·rw [if_neg (by simpa using hb)] at hq
  simp only [Prod.mk.injEq] at hq
  obtain ⟨rfl, rfl, rfl, rfl, rfl⟩ := hq
  subst hb
  rcases hsl with rfl | rfl
  all_goals
   obtain ⟨⟨a0, a1, a2, a3⟩, _⟩ := blk4 p0
   obtain ⟨x0, x1, x2, x3, x4, x5, x6, x7, x8⟩ := blk9 p1
   go_enter Tryd.func33, Tryd.ntmps33
   go_wp2_with (go_at_call 10; with_reducible refine (hBy _).mono ?_)
   rintro e w1 ⟨rfl, hb1⟩
   have hB1 := hB0.trans (hb1.mono hB0.size)
   have r0 := Stepb hb1 p0
   have r2 := Stepb hb1 p2
   have hR1 := h.below hB1
   clear a0 a1 a2 a3 x0 x1 x2 x3 x4 x5 x6 x7 x8 hBy
   obtain ⟨⟨a0, a1, a2, a3⟩, _⟩ := blk4 r0
   go_wp2_with (go_at_call 88; with_reducible refine (hWr _ hR1).mono ?_)
   rintro e w2 ⟨v', rfl, hR2, hb2⟩
   obtain ⟨A3, c3, rfl, _⟩ := hR2.reads
   have hB2 := hB1.trans (hb2.mono hB1.size)
   have s2 := Stepb hb2 r2
   obtain ⟨⟨b0, b1, b2, b3⟩, q0, q1, q2, q3⟩ := blk4 s2
   clear a0 a1 a2 a3
   go_wp2
   refine bodyPost_ret (results_ct rfl _ _ (w.heap.size + 1 + 1) 71 _ (0, 0) _ rfl (put4 s2 _ _ _ _) Tryd.underlying71 rfl (by kernel_rfl)) rfl ?_
   exact ⟨_, _, rfl, ref_put4 hR2 s2 _ _ _ _, below_put4 hB2 (by omega) _ _ _ _⟩
 ·have d3 : (bn != 0) = true := by simpa using hb
  rw [if_pos hb] at hq
  simp only [Prod.mk.injEq] at hq
  obtain ⟨rfl, rfl, rfl, rfl, rfl⟩ := hq
  clear hb
  rcases hsl with rfl | rfl
  all_goals
   obtain ⟨x0, x1, x2, x3, x4, x5, x6, x7, x8⟩ := blk9 p1
   go_enter Tryd.func33, Tryd.ntmps33
   go_wp2_with (go_at_call 10; with_reducible refine (hBy _).mono ?_)
   rintro e w1 ⟨rfl, hb1⟩
   have hB1 := hB0.trans (hb1.mono hB0.size)
   have r0 := Stepb hb1 p0
   have r2 := Stepb hb1 p2
   have hR1 := h.below hB1
   clear x0 x1 x2 x3 x4 x5 x6 x7 x8 hBy
   obtain ⟨⟨a0, a1, a2, a3⟩, _⟩ := blk4 r0
   obtain ⟨⟨b0, b1, b2, b3⟩, q0, q1, q2, q3⟩ := blk4 r2
   go_wp2
   refine bodyPost_ret (results_ct rfl _ _ (w.heap.size + 1 + 1) 71 _ (0, 0) _ rfl (put4 r2 _ _ _ _) Tryd.underlying71 rfl (by kernel_rfl)) rfl ?_
   exact ⟨_, _, rfl, ref_put4 hR1 r2 _ _ _ _, below_put4 hB1 (by omega) _ _ _ _⟩
def sl48 (xs : List ByteArray) (F : FL) (B : BL) (j : Nat) : S48 := ⟨(j : Int), ⟨wrap64 (vP (rdT xs F B false j) 0), ⟨wrap64 (vP (rdT xs F B false j) 1), wrap64 (vP (rdT xs F B false j) 2), wrap64 (vP (rdT xs F B false j) 3), wrap64 (vP (rdT xs F B false j) 5)⟩, wrap64 (vP (rdT xs F B false j) 6), ⟨pP (rdT xs F B false j) 0, pP (rdT xs F B false j) 1, pP (rdT xs F B false j) 2⟩⟩⟩
def keepG (g : Int) (y : S48) : Bool := decide (g ≤ y.f1.f0)
def insG (x : S48) (out : List S48) : List S48 := out.takeWhile (keepG x.f1.f0) ++ x :: out.dropWhile (keepG x.f1.f0)
def fitG (n : Nat) (x : S48) : Bool := decide (sectorsP x.f1.f1.f0 x.f1.f1.f1 x.f1.f1.f2 x.f1.f1.f3 ≤ (n : Int))
def oneG (n : Nat) (out : List S48) (x : S48) : List S48 := if fitG n x = true then insG x out else out
def allG (n : Nat) (l : List S48) : List S48 := l.foldl (oneG n) []
theorem allG_snoc (n : Nat) (l : List S48) (x : S48) : allG n (l ++ [x]) = oneG n (allG n l) x := by
 unfold allG
 rw [List.foldl_append, List.foldl_cons, List.foldl_nil]
theorem insG_len (x : S48) (out : List S48) : (insG x out).length = out.length + 1 := by
 have h := congrArg List.length (List.takeWhile_append_dropWhile (p := keepG x.f1.f0) (l := out))
 rw [List.length_append] at h
 rw [insG, List.length_append, List.length_cons]
 omega
theorem foldG_len (n : Nat) : ∀ (l acc : List S48), (l.foldl (oneG n) acc).length ≤ acc.length + l.length
 | [], acc => by simp
 | x :: l, acc => by
  have h := foldG_len n l (oneG n acc x)
  have h2 : (oneG n acc x).length ≤ acc.length + 1 := by
   unfold oneG
   split
   ·rw [insG_len]; omega
   ·omega
  rw [List.foldl_cons, List.length_cons]
  omega
theorem allG_len (n : Nat) (l : List S48) : (allG n l).length ≤ l.length := by
 have h := foldG_len n l []
 simpa [allG] using h
theorem insG_at (x : S48) : ∀ (out : List S48) (q : Nat), q ≤ out.length → (∀ i (h : i < out.length), i < q → x.f1.f0 ≤ out[i].f1.f0) → (∀ h : q < out.length, out[q].f1.f0 < x.f1.f0) → out.take q ++ x :: out.drop q = insG x out
 | [], q, hq, _, _ => by
  have : q = 0 := by simpa using hq
  subst this
  rfl
 | y :: out, 0, _, _, h2 => by
  have hk : keepG x.f1.f0 y = false := decide_eq_false (by have h3 := h2 (by simp); simp only [List.getElem_cons_zero] at h3; omega)
  rw [insG, List.takeWhile_cons, List.dropWhile_cons, hk]
  rfl
 | y :: out, q + 1, hq, h1, h2 => by
  have hk : keepG x.f1.f0 y = true := decide_eq_true (h1 0 (by simp) (by omega))
  have ih := insG_at x out q (by simpa using hq) (fun i h hi => h1 (i + 1) (by simpa using h) (by omega)) (fun h => h2 (by simpa using h))
  rw [insG] at ih
  rw [insG, List.takeWhile_cons, List.dropWhile_cons, hk, List.take_succ_cons, List.drop_succ_cons]
  show y :: (_ ++ x :: _) = y :: (_ ++ x :: _)
  rw [ih, if_pos rfl]
theorem sl48_fit (xs : List ByteArray) (F : FL) (B : BL) (j : Nat) : fitG xs.length (sl48 xs F B j) = slotFits xs F B false j := rfl
theorem sl48_gen (xs : List ByteArray) (F : FL) (B : BL) (j : Nat) : (sl48 xs F B j).f1.f0 = genS xs F B false j := rfl
theorem allG_find (xs : List ByteArray) (F : FL) (B : BL) : ∀ l : List Nat, l.length ≤ 2 → allG xs.length (l.map (sl48 xs F B)) = (srtS xs F B false (l.filter (slotFits xs F B false))).map (sl48 xs F B)
 | [], _ => rfl
 | [x], _ => by
  show oneG _ [] _ = _
  rw [oneG, sl48_fit, List.filter_cons]
  cases slotFits xs F B false x <;> rfl
 | [x, y], _ => by
  show oneG _ (oneG _ [] _) _ = _
  rw [oneG, oneG, sl48_fit, sl48_fit, List.filter_cons, List.filter_cons]
  cases hx : slotFits xs F B false x
  ·cases hy : slotFits xs F B false y <;> rfl
  ·cases hy : slotFits xs F B false y
   ·rfl
   ·show insG (sl48 xs F B y) [sl48 xs F B x] = (if genS xs F B false x < genS xs F B false y then [y, x] else [x, y]).map (sl48 xs F B)
    by_cases hg : genS xs F B false x < genS xs F B false y
    ·have hk : keepG (sl48 xs F B y).f1.f0 (sl48 xs F B x) = false := decide_eq_false (by rw [sl48_gen, sl48_gen]; omega)
     rw [if_pos hg, insG, List.takeWhile_cons, List.dropWhile_cons, hk]
     rfl
    ·have hk : keepG (sl48 xs F B y).f1.f0 (sl48 xs F B x) = true := decide_eq_true (by rw [sl48_gen, sl48_gen]; omega)
     rw [if_neg hg, insG, List.takeWhile_cons, List.dropWhile_cons, hk]
     rfl
 | _ :: _ :: _ :: _, h => by simp at h
theorem empty48 (W : World) (base : Nat) (hb : base ≤ W.heap.size) : Kd.R k48 48 (W.alloc (.cells #[] 48)) base (fun _ => True) (.slice (some ⟨W.heap.size, 0, none⟩) 0 0) [] :=
 ⟨fun _ _ => trivial, [], World.ownsRow_lit (base := base) (e := 48) (size := k48.sz) W #[] 0 hb (by simp) (by simp), Reps.none _ _⟩
set_option maxRecDepth 100000 in
set_option maxHeartbeats 16000000 in
theorem ref10_Find_any (w : World) (v : Value) (xs : List ByteArray) (F : FL) (B : BL) (left nw : Int) (h : RefAt w v xs F B) (hx : xs.length ≤ 32768) :
  Calls Tryd.prog 35 #[.agg #[v, .bool false, .int .i64 left, .int .i64 nw]] w fun e w' => ∃ v', e = .returned (.tuple #[v', .int .i64 0]) ∧ Kd.R k48 48 w' w.heap.size (fun _ => True) v' ((srtS xs F B false (fndS xs F B false)).map (sl48 xs F B)) ∧ Below w.heap.size w w' := by
 have hu28 := Tryd.underlying28
 have hu71 := Tryd.underlying71
 have hu48 := Tryd.underlying48
 have hu23 := Tryd.underlying23
 obtain ⟨A, cp, rfl, hcp, _⟩ := h.reads
 have hres : allG xs.length ((stL xs F B false 2).map (sl48 xs F B)) = (srtS xs F B false (fndS xs F B false)).map (sl48 xs F B) := allG_find xs F B (stL xs F B false 2) (stL_len xs F B false 2)
 have hb0 : Below w.heap.size w (w.alloc (.cells #[.slice A xs.length cp, .bool false, .int .i64 left, .int .i64 nw] 71)) := (Below.refl _ _).alloc (Nat.le_refl _) _
 have p0 := World.alloc_heap_new w (.cells #[.slice A xs.length cp, .bool false, .int .i64 left, .int .i64 nw] 71)
 go_enter Tryd.func35, Tryd.ntmps35
 go_upto_region 1 with (fail)
 generalize w.alloc (.cells #[.slice A xs.length cp, .bool false, .int .i64 left, .int .i64 nw] 71) = W0 at hb0 p0 ⊢
 obtain ⟨⟨a0, a1, a2, a3⟩, _⟩ := blk4 p0
 go_wp2
 go_loopw [4, 5] (fun t4 t5 wr => ∃ (k : Nat) (v4 : Value), v4 = t4 ∧ k ≤ 2 ∧ t5 = .int .i64 k ∧ Kd.R k48 48 wr w.heap.size (fun _ => True) t4 ((stL xs F B false k).map (sl48 xs F B)) ∧ wr.heap[w.heap.size]? = some (.cells #[.slice A xs.length cp, .bool false, .int .i64 left, .int .i64 nw] 71 (0, 0)) ∧ Below w.heap.size w wr) (fun t4 t5 _ => 2 - (intOf t5).toNat)
 case atStart => exact ⟨0, _, rfl, by omega, rfl, Kd.R_nil _ _ _ _ _, p0, hb0⟩
 case round =>
  clear a0 a1 a2 a3 p0 hb0
  obtain ⟨k, v4, rfl, hk, rfl, hR4, p1, hB1⟩ := hrel
  obtain ⟨⟨a0, a1, a2, a3⟩, _⟩ := blk4 p1
  by_cases hk2 : k < 2
  ·have hkI : (k : Int) < 2 := by omega
   have hRd := ref_Read wr _ xs F B false left nw (k : Int) (h.below hB1)
   have hL : (stL xs F B false k).length ≤ k := stL_len xs F B false k
   have hsk : stL xs F B false (k + 1) = stL xs F B false k ++ if IsS (rdT xs F B false k) then [k] else [] := rfl
   have hs8 : sl48 xs F B k = ⟨(k : Int), ⟨wrap64 (vP (rdT xs F B false k) 0), ⟨wrap64 (vP (rdT xs F B false k) 1), wrap64 (vP (rdT xs F B false k) 2), wrap64 (vP (rdT xs F B false k) 3), wrap64 (vP (rdT xs F B false k) 5)⟩, wrap64 (vP (rdT xs F B false k) 6), ⟨pP (rdT xs F B false k) 0, pP (rdT xs F B false k) 1, pP (rdT xs F B false k) 2⟩⟩⟩ := rfl
   have hrt : (readP xs F B false (k : Int)).1 = rdT xs F B false k := rfl
   rw [hrt] at hRd
   have hPr := fun W => ref10_Parse_any W (rdT xs F B false k)
   generalize rdT xs F B false k = rt at hRd hPr hsk hs8
   generalize (readP xs F B false (k : Int)).2 = rn at hRd
   clear hrt
   go_wp2_with (go_at_call 95; with_reducible refine hRd.mono ?_)
   rintro e w2 ⟨rfl, hb2⟩
   have p2 := Stepb hb2 p1
   have hR42 := Kd.R_below hR4 hb2
   have hB2 := hB1.trans (hb2.mono hB1.size)
   clear a0 a1 a2 a3 hRd hb2 p1 hR4 hB1
   by_cases hi : IsS rt
   ·rw [show parseR rt = (supV rt, 0) from if_pos hi] at hPr
    rw [if_pos hi] at hsk
    unfold supV at hPr
    generalize wrap64 (vP rt 0) = v0 at *
    generalize wrap64 (vP rt 1) = v1 at *
    generalize wrap64 (vP rt 2) = v2 at *
    generalize wrap64 (vP rt 3) = v3 at *
    generalize wrap64 (vP rt 5) = v5 at *
    generalize wrap64 (vP rt 6) = v6 at *
    generalize pP rt 0 = q0 at *
    generalize pP rt 1 = q1 at *
    generalize pP rt 2 = q2 at *
    go_wp2_with (go_at_call 12; with_reducible refine (hPr _).mono ?_)
    rintro e w3 ⟨rfl, hb3⟩
    have p3 := Stepb hb3 p2
    have hR43 := Kd.R_below hR42 hb3
    have hB3 := hB2.trans (hb3.mono hB2.size)
    clear hPr hb3 p2 hR42 hB2
    have hb4 : Below w3.heap.size w3 (w3.alloc (.cells #[.int .i64 v0, .int .i64 v1, .int .i64 v2, .int .i64 v3, .int .i64 v5, .int .i64 v6, .int .i64 q0, .int .i64 q1, .int .u32 q2] 28)) := (Below.refl _ _).alloc (Nat.le_refl _) _
    have y4 := World.alloc_heap_new w3 (.cells #[.int .i64 v0, .int .i64 v1, .int .i64 v2, .int .i64 v3, .int .i64 v5, .int .i64 v6, .int .i64 q0, .int .i64 q1, .int .u32 q2] 28)
    have p4 := Stepb hb4 p3
    have hR44 := Kd.R_below hR43 hb4
    have hB4 := hB3.trans (hb4.mono hB3.size)
    clear hb4 p3 hR43 hB3
    go_upto_region 9 with (fail)
    generalize w3.heap.size = g8 at y4 ⊢
    generalize w3.alloc (.cells #[.int .i64 v0, .int .i64 v1, .int .i64 v2, .int .i64 v3, .int .i64 v5, .int .i64 v6, .int .i64 q0, .int .i64 q1, .int .u32 q2] 28) = w4 at y4 p4 hR44 hB4 ⊢
    obtain ⟨y0, y1, y2, y3, y4', y5, y6, y7, y8⟩ := blk9 y4
    go_wp2_with (at_builtin; refine Kd.R_append k48 (w0 := w) w.heap.size rfl (.tmp 34) (.tmp 38) 43 48 (.agg #[(.int .i64 0), (.int .i64 0), (.int .i64 0), (.int .i64 0), (.int .i64 0), (.int .i64 0), (.int .i64 0), (.int .i64 0), (.int .i64 0), (.int .u32 0)]) 80 rfl Tryd.underlying43 infoS48 rfl (by decide) (by omega) _ ((stL xs F B false k).map (sl48 xs F B)) (⟨(k : Int), ⟨v0, ⟨v1, v2, v3, v5⟩, v6, ⟨q0, q1, q2⟩⟩⟩ : S48) [.int .i64 (k : Int), .int .i64 v0, .int .i64 v1, .int .i64 v2, .int .i64 v3, .int .i64 v5, .int .i64 v6, .int .i64 q0, .int .i64 q1, .int .u32 q2] (fun _ => True) (fun _ => False) rfl rfl (k48_mkM _ _ _ (⟨(k : Int), ⟨v0, ⟨v1, v2, v3, v5⟩, v6, ⟨q0, q1, q2⟩⟩⟩ : S48)) (fun _ hk => hk.elim) (fun _ _ => trivial) hR44 hB4 hB4.size ?aL ?_; (case aL => rw [List.length_map]; omega); intro v' w5 hR5 hB5 hg5 _)
    have p5 := (Step.grown hg5 (S := fun q => v4.ownBlock = some q) (fun q hq => hq)).block p4 (fun e => Kd.R_ne hR44 p4 (by decide) e.symm)
    rw [← hs8] at hR5
    go_wp2
    refine ⟨⟨k + 1, _, rfl, by omega, by simp, ?_, p5, hB5⟩, by simp [intOf]; omega⟩
    rw [hsk, List.map_append]
    exact hR5
   ·rw [show parseR rt = (zeroV, 6) from if_neg hi] at hPr
    rw [if_neg hi, List.append_nil] at hsk
    unfold zeroV at hPr
    go_wp2_with (go_at_call 12; with_reducible refine (hPr _).mono ?_)
    rintro e w3 ⟨rfl, hb3⟩
    have p3 := Stepb hb3 p2
    have hR43 := Kd.R_below hR42 hb3
    have hB3 := hB2.trans (hb3.mono hB2.size)
    have hb4 : Below w3.heap.size w3 (w3.alloc (.cells #[.int .i64 0, .int .i64 0, .int .i64 0, .int .i64 0, .int .i64 0, .int .i64 0, .int .i64 0, .int .i64 0, .int .u32 0] 28)) := (Below.refl _ _).alloc (Nat.le_refl _) _
    have p4 := Stepb hb4 p3
    have hR44 := Kd.R_below hR43 hb4
    have hB4 := hB3.trans (hb4.mono hB3.size)
    go_wp2
    exact ⟨⟨k + 1, _, rfl, by omega, by simp, by rw [hsk]; exact hR44, p4, hB4⟩, by simp [intOf]; omega⟩
  ·have dk : ¬ (k : Int) < 2 := by omega
   have hR4 : Kd.R k48 48 wr w.heap.size (fun _ => True) v4 ((stL xs F B false 2).map (sl48 xs F B)) := by
    have ek : k = 2 := by omega
    rw [ek] at hR4
    exact hR4
   clear hk2 hk
   have hlen : ((stL xs F B false 2).map (sl48 xs F B)).length ≤ 2 := by rw [List.length_map]; exact stL_len xs F B false 2
   generalize (stL xs F B false 2).map (sl48 xs F B) = L at hR4 hlen hres
   obtain ⟨A4, c4, rfl, hc4, hC4⟩ := Kd.R_reads hR4
   generalize wr = wr1 at hR4 p1 hB1 hC4 a0 a1 a2 a3 ⊢
   go_wp2
   go_loopw [10, 42] (fun t10 t42 wq => ∃ (j : Nat) (vo : Value), vo = t10 ∧ j ≤ L.length ∧ t42 = .int .i64 j ∧ Kd.R k48 48 wq wr1.heap.size (fun _ => True) t10 (allG xs.length (L.take j)) ∧ Below wr1.heap.size wr1 wq) (fun t10 t42 _ => L.length - (intOf t42).toNat)
   case atStart => exact ⟨0, _, rfl, by omega, rfl, Kd.R_nil _ _ _ _ _, Below.refl _ _⟩
   case round =>
    obtain ⟨j, vo, rfl, hj, rfl, hRo, hBq⟩ := hrel
    generalize wr = wq at hRo hBq ⊢
    by_cases hjl : j < L.length
    ·have hjI : (j : Int) < (L.length : Int) := by omega
     obtain ⟨adL, rfl, u0, u1, u2, u3, u4, u5, u6, u7, u8, u9⟩ := at_T48 (Kd.C_below hC4 hBq) (j : Int) (by omega) hjI
     simp only [Int.toNat_natCast] at u0 u1 u2 u3 u4 u5 u6 u7 u8 u9
     have hX : rd_T48 L (j : Int) = L[j] := by rw [rd_T48, Int.toNat_natCast, List.getD_eq_getElem?_getD, List.getElem?_eq_getElem hjl, Option.getD_some]
     have htk : allG xs.length (L.take (j + 1)) = oneG xs.length (allG xs.length (L.take j)) (rd_T48 L (j : Int)) := by rw [List.take_succ_eq_append_getElem hjl, allG_snoc, hX]
     have hal : (allG xs.length (L.take j)).length ≤ 1 := by
      have h1 := allG_len xs.length (L.take j)
      rw [List.length_take] at h1
      omega
     generalize rd_T48 L (j : Int) = X at u0 u1 u2 u3 u4 u5 u6 u7 u8 u9 htk
     generalize allG xs.length (L.take j) = out at hRo htk hal
     clear hX
     have hbA : Below wq.heap.size wq (wq.alloc (.cells #[.int .i64 X.f0, .int .i64 X.f1.f0, .int .i64 X.f1.f1.f0, .int .i64 X.f1.f1.f1, .int .i64 X.f1.f1.f2, .int .i64 X.f1.f1.f3, .int .i64 X.f1.f2, .int .i64 X.f1.f3.f0, .int .i64 X.f1.f3.f1, .int .u32 X.f1.f3.f2] 48)) := (Below.refl _ _).alloc (Nat.le_refl _) _
     have z0 := World.alloc_heap_new wq (.cells #[.int .i64 X.f0, .int .i64 X.f1.f0, .int .i64 X.f1.f1.f0, .int .i64 X.f1.f1.f1, .int .i64 X.f1.f1.f2, .int .i64 X.f1.f1.f3, .int .i64 X.f1.f2, .int .i64 X.f1.f3.f0, .int .i64 X.f1.f3.f1, .int .u32 X.f1.f3.f2] 48)
     have p2 := Stepb (hBq.trans (hbA.mono hBq.size)) p1
     go_upto_region 15 with (fail)
     generalize wq.heap.size = gb at z0 ⊢
     generalize hwa : wq.alloc (.cells #[.int .i64 X.f0, .int .i64 X.f1.f0, .int .i64 X.f1.f1.f0, .int .i64 X.f1.f1.f1, .int .i64 X.f1.f1.f2, .int .i64 X.f1.f1.f3, .int .i64 X.f1.f2, .int .i64 X.f1.f3.f0, .int .i64 X.f1.f3.f1, .int .u32 X.f1.f3.f2] 48) = wa at z0 hbA p2 ⊢
     clear hwa u0 u1 u2 u3 u4 u5 u6 u7 u8 u9 a0 a1 a2 a3
     obtain ⟨⟨a0, a1, a2, a3⟩, _⟩ := blk4 p2
     obtain ⟨z0', z1, z2, z3, z4, z5, z6', z7', z8', z9⟩ := blk10 z0
     try simp only [List.append_eq, List.cons_append, List.nil_append]
     have hB3 : Below wa.heap.size wa wa.drew := below_drew1 (Below.refl wa.heap.size wa)
     refine start_ (n := 8) (S := fun w' => w'.cell? ⟨gb, 2, none⟩ = some (.int .i64 X.f1.f1.f0) ∧ w'.cell? ⟨gb, 3, none⟩ = some (.int .i64 X.f1.f1.f1) ∧ w'.cell? ⟨gb, 4, none⟩ = some (.int .i64 X.f1.f1.f2) ∧ w'.cell? ⟨gb, 5, none⟩ = some (.int .i64 X.f1.f1.f3) ∧ w'.cell? ⟨w.heap.size, 0, none⟩ = some (.slice A xs.length cp)) (ds := []) #[G,G,G,G,G,G,G,G] (by kernel_rfl) rfl rfl ⟨z2, z3, z4, z5, a0⟩ (fun hHeld => ?_)
     generalize wa.drew = w3 at hHeld hB3 ⊢
     refine pure_ (i := 0) (N := some 46) (v := ?_) (a' := ?_) #[Y,G,G,G,G,G,G,G] rfl rfl (by kernel_rfl) (fun _ _ _ h => h) (Or.inl ⟨by rfl, ?_⟩) ?_ ?_;rotate_left
     ·intro w';go_simp;with_reducible rfl
     rotate_left;·simp only [Act.put, sA_];rfl
     refine pure_ (i := 1) (N := some 47) (v := ?_) (a' := ?_) #[Y,Y,G,G,G,G,G,G] rfl rfl (by kernel_rfl) (fun _ _ _ h => h) (Or.inl ⟨by rfl, ?_⟩) ?_ ?_;rotate_left
     ·intro w';go_simp;with_reducible rfl
     rotate_left;·simp only [Act.put, sA_];rfl
     refine pure_ (i := 4) (N := some 50) (v := ?_) (a' := ?_) #[Y,Y,G,G,Y,G,G,G] rfl rfl (by kernel_rfl) (fun _ _ _ h => h) (Or.inl ⟨by rfl, ?_⟩) ?_ ?_;rotate_left
     ·intro w';go_simp;with_reducible rfl
     rotate_left;·simp only [Act.put, sA_];rfl
     refine take_ (i := 2) (N := some 48) (v := ?_) (a' := ?_) #[Y,Y,Y,G,Y,G,G,G] rfl rfl (by kernel_rfl) (fun _ _ _ h => h) (Or.inl ⟨by rfl, ?_⟩) hHeld ?_ ?_;rotate_left
     ·rintro w' ⟨s0, s1, s2, s3, s4⟩
      go_simp
      with_reducible rfl
     rotate_left;·simp only [Act.put, sA_];rfl
     refine take_ (i := 5) (N := some 51) (v := ?_) (a' := ?_) #[Y,Y,Y,G,Y,Y,G,G] rfl rfl (by kernel_rfl) (fun _ _ _ h => h) (Or.inl ⟨by rfl, ?_⟩) hHeld ?_ ?_;rotate_left
     ·rintro w' ⟨s0, s1, s2, s3, s4⟩
      go_simp
      with_reducible rfl
     rotate_left;·simp only [Act.put, sA_];rfl
     refine pure_ (i := 6) (N := some 52) (v := ?_) (a' := ?_) #[Y,Y,Y,G,Y,Y,Y,G] rfl rfl (by kernel_rfl) (fun _ _ _ h => h) (Or.inl ⟨by rfl, ?_⟩) ?_ ?_;rotate_left
     ·intro w';go_simp;with_reducible rfl
     rotate_left;·simp only [Act.put, sA_];rfl
     refine one_ (i := 3) (N := some 49) #[Y,Y,Y,Y,Y,Y,Y,G] rfl rfl (by kernel_rfl) (by decide) (fun K hK => ?_)
     refine goes_ Tryd.func15 (by kernel_rfl) rfl #[.agg #[.int .i64 X.f1.f1.f0, .int .i64 X.f1.f1.f1, .int .i64 X.f1.f1.f2, .int .i64 X.f1.f1.f3]] (by rfl) rfl rfl (by simp only [List.map_toArray, List.map_cons, List.map_nil]; rfl) ?_
     with_reducible refine (ref_Sectors_any _ _ _ _ _).mono ?_
     rintro e w3 ⟨rfl, hb3⟩
     refine ⟨_, rfl, ?_⟩
     replace hB3 := hB3.trans (hb3.mono hB3.size)
     refine hK.out _ _ ⟨pw_cell_below hb3 hHeld.1, pw_cell_below hb3 hHeld.2.1, pw_cell_below hb3 hHeld.2.2.1, pw_cell_below hb3 hHeld.2.2.2.1, pw_cell_below hb3 hHeld.2.2.2.2⟩ (fun hHeld => ?_)
     clear hK K
     refine norm_ (a' := ?_) ?_ ?_;rotate_left
     ·show Act.put _ (some 49) _ = _
      simp only [Act.put, sA_]
      rfl
     refine pure_ (i := 7) (N := some 53) (v := ?_) (a' := ?_) #[Y,Y,Y,Y,Y,Y,Y,Y] rfl rfl (by kernel_rfl) (fun _ _ _ h => h) (Or.inl ⟨by rfl, ?_⟩) ?_ ?_;rotate_left
     ·intro w';go_simp;with_reducible rfl
     rotate_left;·simp only [Act.put, sA_];rfl
     refine done_ (by kernel_rfl) ?_

     have hBr5 := hBq.trans ((hbA.trans (hB3.mono hbA.size)).mono hBq.size)
     have hR5 := Kd.R_below hRo (hbA.trans (hB3.mono hbA.size))
     have z5b := Stepb hB3 z0
     clear hHeld z0' z1 z2 z3 z4 z5 z6' z7' z8' z9 a0 a1 a2 a3 hB3 hbA z0 p2 hRo
     have hfd : fitG xs.length X = decide (sectorsP X.f1.f1.f0 X.f1.f1.f1 X.f1.f1.f2 X.f1.f1.f3 ≤ (xs.length : Int)) := rfl
     by_cases hfit : fitG xs.length X = true
     case neg =>
      rw [Bool.not_eq_true] at hfit
      have d1 : decide ((xs.length : Int) < sectorsP X.f1.f1.f0 X.f1.f1.f1 X.f1.f1.f2 X.f1.f1.f3) = true := by
       rw [hfd] at hfit
       have := of_decide_eq_false hfit
       exact decide_eq_true (by omega)
      clear hfd
      rw [d1]
      go_wp2
      refine ⟨⟨j + 1, _, rfl, by omega, by simp, ?_, hBr5⟩, by simp [intOf]; omega⟩
      rw [htk, oneG, if_neg (by rw [hfit]; decide)]
      exact hR5
     have d1 : decide ((xs.length : Int) < sectorsP X.f1.f1.f0 X.f1.f1.f1 X.f1.f1.f2 X.f1.f1.f3) = false := by
      rw [hfd] at hfit
      have := of_decide_eq_true hfit
      exact decide_eq_false (by omega)
     clear hfd
     rw [d1]
     obtain ⟨Ao, co, rfl, hco, _⟩ := Kd.R_reads hR5
     go_wp2
     generalize w3 = W5 at hBr5 hR5 z5b ⊢
     go_loopw [13] (fun t13 wz => ∃ q : Nat, t13 = .int .i64 q ∧ q ≤ out.length ∧ (∀ i (h : i < out.length), i < q → X.f1.f0 ≤ out[i].f1.f0) ∧ Below W5.heap.size W5 wz) (fun t13 _ => out.length - (intOf t13).toNat)
     case atStart => exact ⟨0, rfl, Nat.zero_le _, fun _ _ h => absurd h (Nat.not_lt_zero _), Below.refl _ _⟩
     case round =>
      obtain ⟨q, rfl, hqle, hgt, hBz⟩ := hrel
      generalize wr = wz at hBz ⊢
      have hRz := Kd.R_below hR5 hBz
      have z6 := Stepb hBz z5b
      have hBr6 := hBr5.trans (hBz.mono hBr5.size)
      obtain ⟨z0, z1, z2, z3, z4, z5, z6', z7', z8', z9⟩ := blk10 z6
      by_cases hq : q < out.length
      ·obtain ⟨adO, rfl, u0, u1, u2, u3, u4, u5, u6, u7, u8, u9⟩ := at_T48 (Kd.R_reads' hRz).2.2 (q : Int) (by omega) (by omega)
       simp only [Int.toNat_natCast] at u0 u1 u2 u3 u4 u5 u6 u7 u8 u9
       have hX : rd_T48 out (q : Int) = out[q] := by rw [rd_T48, Int.toNat_natCast, List.getD_eq_getElem?_getD, List.getElem?_eq_getElem hq, Option.getD_some]
       rw [hX] at u1
       have dq : decide ((q : Int) < (out.length : Int)) = true := decide_eq_true (by omega)
       have dq2 : (q : Int) < (out.length : Int) := by omega
       have dq0 : (0 : Int) ≤ (q : Int) := by omega
       by_cases hg : X.f1.f0 ≤ out[q].f1.f0
       ·have dg : decide (X.f1.f0 ≤ out[q].f1.f0) = true := decide_eq_true hg
        clear u0 u2 u3 u4 u5 u6 u7 u8 u9 hX
        go_wp2_with fail
        try simp only [List.append_eq, List.cons_append, List.nil_append]
        go_quiet (fail)
        go_wp2
        refine ⟨⟨q + 1, by simp, by omega, fun i h hi => ?_, pw_below_drewN hBz _⟩, by simp [intOf]; omega⟩
        by_cases e : i = q
        ·subst e; exact hg
        ·exact hgt i h (by omega)
       ·have dg : decide (X.f1.f0 ≤ out[q].f1.f0) = false := decide_eq_false hg
        have hstop : ∀ h : q < out.length, out[q].f1.f0 < X.f1.f0 := fun _ => Int.lt_of_not_ge hg
        clear u0 u2 u3 u4 u5 u6 u7 u8 u9 hX
        go_wp2_with fail
        try simp only [List.append_eq, List.cons_append, List.nil_append]
        go_quiet (fail)
        go_upto_region 19 with (fail)
        clear u1 dq dq2 dq0 dg z0 z1 z2 z3 z4 z5 z6' z7' z8' z9
        have hB6 : Below wz.heap.size wz (wz.drewN nq) := pw_below_drewN (Below.refl _ _) _
        replace hRz := Kd.R_below hRz hB6
        replace z6 := Stepb hB6 z6
        replace hBr6 := hBr6.trans (hB6.mono hBr6.size)
        clear hB6 hBz
        generalize wz.drewN nq = W6 at hRz z6 hBr6 ⊢
        have hE := empty48 W6 W6.heap.size (Nat.le_refl _)
        have hbE : Below W6.heap.size W6 (W6.alloc (.cells #[] 48)) := (Below.refl _ _).alloc (Nat.le_refl _) _
        have hC6 := Kd.C_below (Kd.C_take (m := q) (Kd.R_reads' hRz).2.2 hqle) hbE
        have hl6 : (out.take q).length = q := by rw [List.length_take]; omega
        rw [hl6] at hC6
        have hcut : ∀ W : World, (Instr.slice 43 (.slice (some adO) out.length co) none (some (.int .i64 (q : Int))) none).run Tryd.prog W = .ok (.slice (some adO) q co) W := by
         intro W
         obtain ⟨i0, hi0, _, hsz0, _⟩ := info_parts infoS48
         have := cut_to (P := Tryd.prog) 43 48 .i64 Tryd.underlying43 hi0 (some adO) out.length co (q : Int) (by omega) (by omega) hco W
         rw [Int.toNat_natCast] at this
         exact this
        have hfrom : ∀ W : World, (Instr.slice 43 (.slice (some adO) out.length co) (some (.int .i64 (q : Int))) none none).run Tryd.prog W = .ok (.slice (if co = q then (some adO) else (some adO).map (·.add (q * 10))) (out.length - q) (co - q)) W := by
         intro W
         obtain ⟨i0, hi0, _, hsz0, _⟩ := info_parts infoS48
         have := cut_from (P := Tryd.prog) 43 48 .i64 Tryd.underlying43 hi0 10 hsz0 (some adO) out.length co (q : Int) (by omega) (by omega) W
         rw [Int.toNat_natCast] at this
         exact this
        have hcD := Kd.C_drop (m := q) (c := co) (Kd.R_reads' hRz).2.2 hqle hco
        have hlD : (out.drop q).length = out.length - q := List.length_drop
        rw [hlD] at hcD
        have hfin := insG_at X out q hqle hgt hstop
        obtain ⟨Ad, hAd⟩ : ∃ Ad, Ad = (if co = q then (some adO) else (some adO).map (·.add (q * 10))) := ⟨_, rfl⟩
        replace hcD : Kd.C k48 W6 Ad (out.length - q) (out.drop q) := by rw [hAd]; exact hcD
        rw [← hAd] at hfrom
        clear hAd
        go_wp2_with (at_builtin; refine Kd.R_append_rows k48 (w0 := W6) W6.heap.size rfl (.tmp 72) (.tmp 75) 43 48 (.agg #[(.int .i64 0), (.int .i64 0), (.int .i64 0), (.int .i64 0), (.int .i64 0), (.int .i64 0), (.int .i64 0), (.int .i64 0), (.int .i64 0), (.int .u32 0)]) 80 rfl Tryd.underlying43 infoS48 rfl (by decide) (by omega) _ [] (out.take q) _ _ _ (fun _ => True) (fun _ => False) rfl rfl hE hC6 (fun _ _ h => h) (fun _ h => h.elim) (fun _ _ => trivial) hbE hbE.size ?aL ?_; (case aL => simp only [List.length_nil]; omega))
        rintro y1 w7 hR7 hB7 - -
        try rw [List.nil_append] at hR7
        have z7 := Stepb hB7 z6
        have hcD0 := hcD
        clear hE hbE hC6 hcut hcD
        obtain ⟨s0, s1, s2, s3, s4, s5, s6, s7, s8, s9⟩ := blk10 z7
        go_wp2_with (at_builtin; refine Kd.R_append k48 (w0 := W6) W6.heap.size rfl (.tmp 77) (.tmp 79) 43 48 (.agg #[(.int .i64 0), (.int .i64 0), (.int .i64 0), (.int .i64 0), (.int .i64 0), (.int .i64 0), (.int .i64 0), (.int .i64 0), (.int .i64 0), (.int .u32 0)]) 80 rfl Tryd.underlying43 infoS48 rfl (by decide) (by omega) _ (out.take q) X [.int .i64 X.f0, .int .i64 X.f1.f0, .int .i64 X.f1.f1.f0, .int .i64 X.f1.f1.f1, .int .i64 X.f1.f1.f2, .int .i64 X.f1.f1.f3, .int .i64 X.f1.f2, .int .i64 X.f1.f3.f0, .int .i64 X.f1.f3.f1, .int .u32 X.f1.f3.f2] (fun _ => True) (fun _ => False) rfl rfl (k48_mkM _ _ _ X) (fun _ hk => hk.elim) (fun _ _ => trivial) hR7 hB7 hB7.size ?aL ?_; (case aL => rw [hl6]; omega))
        rintro y2 w8 hR8 hB8 - -
        have hcD8 := Kd.C_below hcD0 hB8
        go_wp2_with (at_builtin; refine Kd.R_append_rows k48 (w0 := W6) W6.heap.size rfl (.tmp 81) (.tmp 84) 43 48 (.agg #[(.int .i64 0), (.int .i64 0), (.int .i64 0), (.int .i64 0), (.int .i64 0), (.int .i64 0), (.int .i64 0), (.int .i64 0), (.int .i64 0), (.int .u32 0)]) 80 rfl Tryd.underlying43 infoS48 rfl (by decide) (by omega) _ (out.take q ++ [X]) (out.drop q) _ _ _ (fun _ => True) (fun _ => False) rfl rfl hR8 hcD8 (fun _ _ h => h) (fun _ h => h.elim) (fun _ _ => trivial) hB8 hB8.size ?aL ?_; (case aL => rw [List.length_append, hl6, List.length_singleton]; omega))
        rintro y3 w9 hR9 hB9 - -
        go_wp2
        go_roundw
        case rel =>
         refine ⟨j + 1, _, rfl, by omega, by simp, ?_, hBr6.trans (hB9.mono hBr6.size)⟩
         rw [htk, oneG, if_pos hfit]
         exact Kd.R_lower hR9 hBr6.size
        case measure => simp [intOf]; omega
      ·have dq : decide ((q : Int) < (out.length : Int)) = false := decide_eq_false (by omega)
       have hstop : ∀ h : q < out.length, out[q].f1.f0 < X.f1.f0 := fun h => absurd h hq
       go_wp2_with fail
       try simp only [List.append_eq, List.cons_append, List.nil_append]
       go_quiet (fail)
       go_upto_region 19 with (fail)
       clear dq z0 z1 z2 z3 z4 z5 z6' z7' z8' z9
       have hB6 : Below wz.heap.size wz (wz.drewN nq) := pw_below_drewN (Below.refl _ _) _
       replace hRz := Kd.R_below hRz hB6
       replace z6 := Stepb hB6 z6
       replace hBr6 := hBr6.trans (hB6.mono hBr6.size)
       clear hB6 hBz
       generalize wz.drewN nq = W6 at hRz z6 hBr6 ⊢
       have hE := empty48 W6 W6.heap.size (Nat.le_refl _)
       have hbE : Below W6.heap.size W6 (W6.alloc (.cells #[] 48)) := (Below.refl _ _).alloc (Nat.le_refl _) _
       have hC6 := Kd.C_below (Kd.C_take (m := q) (Kd.R_reads' hRz).2.2 hqle) hbE
       have hl6 : (out.take q).length = q := by rw [List.length_take]; omega
       rw [hl6] at hC6
       have hcut : ∀ W : World, (Instr.slice 43 (.slice Ao out.length co) none (some (.int .i64 (q : Int))) none).run Tryd.prog W = .ok (.slice Ao q co) W := by
        intro W
        obtain ⟨i0, hi0, _, hsz0, _⟩ := info_parts infoS48
        have := cut_to (P := Tryd.prog) 43 48 .i64 Tryd.underlying43 hi0 Ao out.length co (q : Int) (by omega) (by omega) hco W
        rw [Int.toNat_natCast] at this
        exact this
       have hfrom : ∀ W : World, (Instr.slice 43 (.slice Ao out.length co) (some (.int .i64 (q : Int))) none none).run Tryd.prog W = .ok (.slice (if co = q then Ao else Ao.map (·.add (q * 10))) (out.length - q) (co - q)) W := by
        intro W
        obtain ⟨i0, hi0, _, hsz0, _⟩ := info_parts infoS48
        have := cut_from (P := Tryd.prog) 43 48 .i64 Tryd.underlying43 hi0 10 hsz0 Ao out.length co (q : Int) (by omega) (by omega) W
        rw [Int.toNat_natCast] at this
        exact this
       have hcD := Kd.C_drop (m := q) (c := co) (Kd.R_reads' hRz).2.2 hqle hco
       have hlD : (out.drop q).length = out.length - q := List.length_drop
       rw [hlD] at hcD
       have hfin := insG_at X out q hqle hgt hstop
       obtain ⟨Ad, hAd⟩ : ∃ Ad, Ad = (if co = q then Ao else Ao.map (·.add (q * 10))) := ⟨_, rfl⟩
       replace hcD : Kd.C k48 W6 Ad (out.length - q) (out.drop q) := by rw [hAd]; exact hcD
       rw [← hAd] at hfrom
       clear hAd
       go_wp2_with (at_builtin; refine Kd.R_append_rows k48 (w0 := W6) W6.heap.size rfl (.tmp 72) (.tmp 75) 43 48 (.agg #[(.int .i64 0), (.int .i64 0), (.int .i64 0), (.int .i64 0), (.int .i64 0), (.int .i64 0), (.int .i64 0), (.int .i64 0), (.int .i64 0), (.int .u32 0)]) 80 rfl Tryd.underlying43 infoS48 rfl (by decide) (by omega) _ [] (out.take q) _ _ _ (fun _ => True) (fun _ => False) rfl rfl hE hC6 (fun _ _ h => h) (fun _ h => h.elim) (fun _ _ => trivial) hbE hbE.size ?aL ?_; (case aL => simp only [List.length_nil]; omega))
       rintro y1 w7 hR7 hB7 - -
       try rw [List.nil_append] at hR7
       have z7 := Stepb hB7 z6
       have hcD0 := hcD
       clear hE hbE hC6 hcut hcD
       obtain ⟨s0, s1, s2, s3, s4, s5, s6, s7, s8, s9⟩ := blk10 z7
       go_wp2_with (at_builtin; refine Kd.R_append k48 (w0 := W6) W6.heap.size rfl (.tmp 77) (.tmp 79) 43 48 (.agg #[(.int .i64 0), (.int .i64 0), (.int .i64 0), (.int .i64 0), (.int .i64 0), (.int .i64 0), (.int .i64 0), (.int .i64 0), (.int .i64 0), (.int .u32 0)]) 80 rfl Tryd.underlying43 infoS48 rfl (by decide) (by omega) _ (out.take q) X [.int .i64 X.f0, .int .i64 X.f1.f0, .int .i64 X.f1.f1.f0, .int .i64 X.f1.f1.f1, .int .i64 X.f1.f1.f2, .int .i64 X.f1.f1.f3, .int .i64 X.f1.f2, .int .i64 X.f1.f3.f0, .int .i64 X.f1.f3.f1, .int .u32 X.f1.f3.f2] (fun _ => True) (fun _ => False) rfl rfl (k48_mkM _ _ _ X) (fun _ hk => hk.elim) (fun _ _ => trivial) hR7 hB7 hB7.size ?aL ?_; (case aL => rw [hl6]; omega))
       rintro y2 w8 hR8 hB8 - -
       have hcD8 := Kd.C_below hcD0 hB8
       go_wp2_with (at_builtin; refine Kd.R_append_rows k48 (w0 := W6) W6.heap.size rfl (.tmp 81) (.tmp 84) 43 48 (.agg #[(.int .i64 0), (.int .i64 0), (.int .i64 0), (.int .i64 0), (.int .i64 0), (.int .i64 0), (.int .i64 0), (.int .i64 0), (.int .i64 0), (.int .u32 0)]) 80 rfl Tryd.underlying43 infoS48 rfl (by decide) (by omega) _ (out.take q ++ [X]) (out.drop q) _ _ _ (fun _ => True) (fun _ => False) rfl rfl hR8 hcD8 (fun _ _ h => h) (fun _ h => h.elim) (fun _ _ => trivial) hB8 hB8.size ?aL ?_; (case aL => rw [List.length_append, hl6, List.length_singleton]; omega))
       rintro y3 w9 hR9 hB9 - -
       go_wp2
       go_roundw
       case rel =>
        refine ⟨j + 1, _, rfl, by omega, by simp, ?_, hBr6.trans (hB9.mono hBr6.size)⟩
        rw [htk, oneG, if_pos hfit]
        exact Kd.R_lower hR9 hBr6.size
       case measure => simp [intOf]; omega
    ·have ej : j = L.length := by omega
     subst ej
     rw [List.take_length] at hRo
     go_wp2
     go_ret2
     rw [← hres]
     exact ⟨_, rfl, Kd.R_lower hRo hB1.size, hB1.trans (hBq.mono hB1.size)⟩
theorem burn_fuse {off : Bool} {fuse : Int} (h : -1 ≤ fuse) (h2 : fuse ≤ 9223372036854775807) : -1 ≤ (burnP off fuse).2.1 ∧ (burnP off fuse).2.1 ≤ 9223372036854775807 := by
 unfold burnP
 split
 ·exact ⟨by show (-1 : Int) ≤ 0; omega, by show (0 : Int) ≤ 9223372036854775807; omega⟩
 ·split
  ·exact ⟨by show (-1 : Int) ≤ fuse - 1; omega, by show fuse - 1 ≤ (9223372036854775807 : Int); omega⟩
  ·exact ⟨h, h2⟩
theorem writeP_ok {xs : List ByteArray} {F : FL} {B : BL} {off : Bool} {fuse nw at_ : Int} {s : ByteArray} (h : DevOk xs F B fuse) (hn : NodupK F) :
  DevOk xs (writeP xs.length F off fuse nw at_ s).1 B (writeP xs.length F off fuse nw at_ s).2.2.1 ∧ NodupK (writeP xs.length F off fuse nw at_ s).1 := by
 obtain ⟨o1, o2, o3, o4, o5, o6, o7, o8, o9⟩ := h
 have hb := burn_fuse (off := off) o8 o9
 unfold writeP
 by_cases h0 : reachP xs.length off at_ ≠ 0
 ·rw [if_pos h0]; exact ⟨⟨o1, o2, o3, o4, o5, o6, o7, o8, o9⟩, hn⟩
 rw [if_neg h0]
 obtain ⟨_, p1, p2⟩ := reach_ok (by simpa using h0)
 by_cases h1 : s.size ≠ 512
 ·rw [if_pos h1]; exact ⟨⟨o1, o2, o3, o4, o5, o6, o7, o8, o9⟩, hn⟩
 rw [if_neg h1]
 by_cases h2 : (burnP off fuse).2.2 ≠ 0
 ·rw [if_pos h2]; exact ⟨⟨o1, o2, o3, o4, o5, o6, o7, hb⟩, hn⟩
 rw [if_neg h2]
 have hF : ∀ q ∈ putL at_ s F, 0 ≤ q.1 ∧ q.1 < (xs.length : Int) ∧ q.2.size = 512 := fun q hq => by
  rcases mem_putL hq with rfl | hq
  ·exact ⟨p1, p2, by show s.size = 512; omega⟩
  ·exact o4 q hq
 exact ⟨⟨o1, o2, o3, hF, o5, keys_below (putL_nodup hn) (fun q hq => ⟨(hF q hq).1, (hF q hq).2.1⟩), o7, hb⟩, putL_nodup hn⟩
def cop8 (k : Nat) : S88 := ⟨(k : Int), true⟩
theorem R_far4 {w : World} {base : Nat} {ok : Nat → Prop} {v : Value} {xs : List S88} (h : Kd.R k88 88 w base ok v xs) {g : Nat} (hg : ∀ k, ok k → k ≠ g) (a b c d : Value) : Kd.R k88 88 ((((w.setCell ⟨g, 0, none⟩ a).setCell ⟨g, 1, none⟩ b).setCell ⟨g, 2, none⟩ c).setCell ⟨g, 3, none⟩ d) base ok v xs :=
 Kd.R_far (p := ⟨g, 3, none⟩) (Kd.R_far (p := ⟨g, 2, none⟩) (Kd.R_far (p := ⟨g, 1, none⟩) (Kd.R_far (p := ⟨g, 0, none⟩) h hg a) hg b) hg c) hg d
set_option maxRecDepth 100000 in
set_option maxHeartbeats 16000000 in
theorem ref10_Heal_any (w : World) (v : Value) (xs : List ByteArray) (F : FL) (B : BL) (off : Bool) (left nw g sh k m c l a b s : Int) (hs : 0 ≤ s ∧ s < 4294967296) (h : RefAt w v xs F B) (hok : DevOk xs F B left) (hnF : NodupK F) (R : HlS) (hR : R = healS xs F B off left nw (bytesS g sh k m c l a b s)) :
  Calls Tryd.prog 37 #[.agg #[v, .bool off, .int .i64 left, .int .i64 nw], .agg #[.int .i64 g, .int .i64 sh, .int .i64 k, .int .i64 m, .int .i64 c, .int .i64 l, .int .i64 a, .int .i64 b, .int .u32 s]] w fun e w' => ∃ A3 c3 v', e = .returned (.tuple #[.agg #[.slice A3 xs.length c3, .bool R.off, .int .i64 R.fuse, .int .i64 R.nw], v', .int .i64 R.e]) ∧ RefAt w' (.slice A3 xs.length c3) xs R.F B ∧ Kd.R k88 88 w' w.heap.size (fun _ => True) v' (R.out.map cop8) ∧ Below w.heap.size w w' := by
 have hu28 := Tryd.underlying28
 have hu71 := Tryd.underlying71
 have hu88 := Tryd.underlying88
 obtain ⟨A, cp, rfl, _⟩ := h.reads
 obtain ⟨hB0, p0, p1, p2, hsz0⟩ := start3 w (.cells #[.slice A xs.length cp, .bool off, .int .i64 left, .int .i64 nw] 71) (.cells #[.int .i64 g, .int .i64 sh, .int .i64 k, .int .i64 m, .int .i64 c, .int .i64 l, .int .i64 a, .int .i64 b, .int .u32 s] 28) (.cells #[.slice none 0 0, .bool false, .int .i64 0, .int .i64 0] 71)
 have hBy := fun W => ref10_Bytes_any W g sh k m c l a b s hs
 generalize bytesS g sh k m c l a b s = bb at hR hBy
 obtain ⟨bt_, bn⟩ := bb
 dsimp only at hBy
 unfold healS at hR
 dsimp only at hR
 obtain ⟨x0, x1, x2, x3, x4, x5, x6, x7, x8⟩ := blk9 p1
 go_enter Tryd.func37, Tryd.ntmps37
 go_wp2_with (go_at_call 10; with_reducible refine (hBy _).mono ?_)
 rintro e w1 ⟨rfl, hb1⟩
 have hB1 := hB0.trans (hb1.mono hB0.size)
 have r0 := Stepb hb1 p0
 have r2 := Stepb hb1 p2
 have hsz1 := Nat.le_trans hsz0 hb1.size
 clear x0 x1 x2 x3 x4 x5 x6 x7 x8 hBy p0 p1 p2 hb1 hB0 hsz0
 by_cases hb : bn = 0
 case neg =>
  have d3 : (bn != 0) = true := by simpa using hb
  rw [if_pos (by simpa using hb)] at hR
  subst hR
  dsimp only
  obtain ⟨⟨a0, a1, a2, a3⟩, _⟩ := blk4 r0
  obtain ⟨⟨b0, b1, b2, b3⟩, q0, q1, q2, q3⟩ := blk4 r2
  go_wp2
  refine bodyPost_ret (results_ctt rfl _ _ (w.heap.size + 1 + 1) 71 _ (0, 0) _ rfl (put4 r2 _ _ _ _) Tryd.underlying71 rfl (by kernel_rfl)) rfl ?_
  exact ⟨_, _, _, rfl, ref_put4 (h.below hB1) r2 _ _ _ _, Kd.R_nil _ _ _ _ _, below_put4 hB1 (by omega) _ _ _ _⟩
 have d3 : (bn != 0) = false := by simpa using hb
 rw [if_neg (by simpa using hb)] at hR
 clear hb
 go_wp2
 go_loopw [9, 10] (fun t9 t10 wr => ∃ (j : Nat) (r : HlS) (A : Option Addr) (cq : Nat) (v9 : Value), v9 = t9 ∧ j ≤ 2 ∧ t10 = .int .i64 j ∧ r = hlK xs B bt_ ⟨F, off, left, nw, [], 0⟩ j ∧ r.e = 0 ∧ wr.heap[w.heap.size]? = some (.cells #[.slice A xs.length cq, .bool r.off, .int .i64 r.fuse, .int .i64 r.nw] 71 (0, 0)) ∧ wr.heap[w.heap.size + 1 + 1]? = some (.cells #[.slice none 0 0, .bool false, .int .i64 0, .int .i64 0] 71 (0, 0)) ∧ RefAt wr (.slice A xs.length cq) xs r.F B ∧ DevOk xs r.F B r.fuse ∧ NodupK r.F ∧ Kd.R k88 88 wr w.heap.size (fun q => w.heap.size + 3 ≤ q) t9 (r.out.map cop8) ∧ Below w.heap.size w wr ∧ w.heap.size + 3 ≤ wr.heap.size) (fun t9 t10 _ => 2 - (intOf t10).toNat)
 case atStart => exact ⟨0, _, A, cp, _, rfl, by omega, rfl, rfl, rfl, r0, r2, h.below hB1, hok, hnF, Kd.R_nil _ _ _ _ _, hB1, hsz1⟩
 case round =>
  clear r0 r2 hB1 hsz1 h hok hnF
  obtain ⟨j, r, A, cq, v9, rfl, hj, rfl, hrk, hre, s0, s2, hRf, hok, hnF, hR9, hBr, hsz⟩ := hrel
  obtain ⟨⟨a0, a1, a2, a3⟩, g0, g1, g2, g3⟩ := blk4 s0
  by_cases hj2 : j < 2
  ·have hjI : (j : Int) < 2 := by omega
   have hk1 : hlK xs B bt_ ⟨F, off, left, nw, [], 0⟩ (j + 1) = healOne xs B bt_ j r := by rw [hlK, ← hrk, if_pos hre]
   have hol : r.out.length ≤ 2 := by have := hlK_out (xs := xs) (B := B) (t := bt_) (F := F) (off := off) (fuse := left) (nw := nw) j; rw [← hrk] at this; omega
   have hRd := ref_Read wr _ xs r.F B r.off r.fuse r.nw (j : Int) hRf
   have hWr := fun W (hW : RefAt W (.slice A xs.length cq) xs r.F B) => ref_Write W _ xs r.F B r.off r.fuse r.nw (j : Int) bt_ hW hok
   have hokw := writeP_ok (off := r.off) (nw := r.nw) (at_ := (j : Int)) (s := bt_) hok hnF
   unfold healOne at hk1
   generalize readP xs r.F B r.off (j : Int) = rp at hRd hk1
   obtain ⟨rs, rn⟩ := rp
   generalize writeP xs.length r.F r.off r.fuse r.nw (j : Int) bt_ = q at hWr hk1 hokw
   obtain ⟨F3, o3, l3, m3, why⟩ := q
   dsimp only at hRd hWr hk1 hokw
   clear hrk
   go_wp2_with (go_at_call 95; with_reducible refine hRd.mono ?_)
   rintro e w2 ⟨rfl, hb2⟩
   replace s0 := Stepb hb2 s0
   replace s2 := Stepb hb2 s2
   replace hRf := hRf.below hb2
   replace hR9 := Kd.R_below hR9 hb2
   replace hBr := hBr.trans (hb2.mono hBr.size)
   replace hsz := Nat.le_trans hsz hb2.size
   clear hb2 hRd a0 a1 a2 a3 g0 g1 g2 g3
   by_cases hsame : rn = 0 ∧ rs.toList = bt_.toList
   ·have e1 : (rn == 0) = true := by simpa using hsame.1
    have e2 : (rs.toList == bt_.toList) = true := by simpa using hsame.2
    rw [if_pos hsame] at hk1
    clear hsame
    go_wp2
    exact ⟨⟨j + 1, r, A, cq, _, rfl, by omega, by simp, hk1.symm, hre, s0, s2, hRf, hok, hnF, hR9, hBr, hsz⟩, by simp [intOf]; omega⟩
   ·rw [if_neg hsame] at hk1
    have hcase : (∃ _ : (rn == 0) = true, (rs.toList == bt_.toList) = false) ∨ (rn == 0) = false := by
     by_cases h0 : rn = 0
     ·exact Or.inl ⟨by simpa using h0, beq_eq_false_iff_ne.2 (fun e => hsame ⟨h0, e⟩)⟩
     ·exact Or.inr (by simpa using h0)
    clear hsame
    obtain ⟨⟨a0, a1, a2, a3⟩, g0, g1, g2, g3⟩ := blk4 s0
    rcases hcase with ⟨e1, e2⟩ | e1
    all_goals
     go_wp2_with (go_at_call 88; with_reducible refine (hWr _ hRf).mono ?_)
     rintro e w3 ⟨v3, rfl, hR3, hb3⟩
     obtain ⟨A3, c3, rfl, _⟩ := hR3.reads
     replace s0 := Stepb hb3 s0
     replace s2 := Stepb hb3 s2
     replace hR9 := Kd.R_below hR9 hb3
     replace hBr := hBr.trans (hb3.mono hBr.size)
     replace hsz := Nat.le_trans hsz hb3.size
     clear hb3 hWr a0 a1 a2 a3 g0 g1 g2 g3
     have hb4 : Below w3.heap.size w3 (w3.alloc (.cells #[.slice A3 xs.length c3, .bool o3, .int .i64 l3, .int .i64 m3] 71)) := (Below.refl _ _).alloc (Nat.le_refl _) _
     have z4 := World.alloc_heap_new w3 (.cells #[.slice A3 xs.length c3, .bool o3, .int .i64 l3, .int .i64 m3] 71)
     replace s0 := Stepb hb4 s0
     replace s2 := Stepb hb4 s2
     replace hR9 := Kd.R_below hR9 hb4
     replace hR3 := hR3.below hb4
     replace hBr := hBr.trans (hb4.mono hBr.size)
     replace hsz := Nat.le_trans hsz hb4.size
     clear hb4
     go_upto_region 12 with (fail)
     generalize w3.heap.size = g14 at z4 ⊢
     generalize w3.alloc (.cells #[.slice A3 xs.length c3, .bool o3, .int .i64 l3, .int .i64 m3] 71) = w4 at z4 s0 s2 hR9 hR3 hBr hsz ⊢
     obtain ⟨⟨z0, z1, z2, z3⟩, _⟩ := blk4 z4
     obtain ⟨⟨a0, a1, a2, a3⟩, g0, g1, g2, g3⟩ := blk4 s0
     have hst := step_put4 w4 w.heap.size (.slice A3 xs.length c3) (.bool o3) (.int .i64 l3) (.int .i64 m3)
     have u0 := put4 s0 (.slice A3 xs.length c3) (.bool o3) (.int .i64 l3) (.int .i64 m3)
     have u2 := hst.block s2 (fun e => by omega)
     have hRb := ref_put4 hR3 s0 (.slice A3 xs.length c3) (.bool o3) (.int .i64 l3) (.int .i64 m3)
     have hBb := below_put4 hBr (g := w.heap.size) (Nat.le_refl _) (.slice A3 xs.length c3) (.bool o3) (.int .i64 l3) (.int .i64 m3)
     have hzb := Nat.le_trans hsz hst.size
     have hR9b := R_far4 hR9 (g := w.heap.size) (fun k hk => by omega) (.slice A3 xs.length c3) (.bool o3) (.int .i64 l3) (.int .i64 m3)
     clear hst s0 s2 hR9 hR3 hBr hsz
     go_upto_region 13 with (fail)
     clear z0 z1 z2 z3 a0 a1 a2 a3 g0 g1 g2 g3 z4
     generalize ((((w4.setCell ⟨w.heap.size, 0, none⟩ (.slice A3 xs.length c3)).setCell ⟨w.heap.size, 1, none⟩ (.bool o3)).setCell ⟨w.heap.size, 2, none⟩ (.int .i64 l3)).setCell ⟨w.heap.size, 3, none⟩ (.int .i64 m3)) = w5 at u0 u2 hRb hBb hzb hR9b ⊢
     by_cases hw : why = 0
     ·have e5 : (why != 0) = false := by simpa using hw
      rw [if_neg (by simpa using hw)] at hk1
      clear hw
      go_wp2_with (at_builtin; refine Kd.R_append k88 (w0 := w) w.heap.size rfl (.tmp 55) (.tmp 58) 63 88 (.agg #[(.int .i64 0), (.bool false)]) 16 rfl Tryd.underlying63 infoS88 rfl (by decide) (by omega) _ (r.out.map cop8) (⟨(j : Int), true⟩ : S88) [.int .i64 (j : Int), .bool true] (fun q => w.heap.size + 3 ≤ q) (fun _ => False) rfl rfl (k88_mkM _ _ _ (⟨(j : Int), true⟩ : S88)) (fun _ hk => hk.elim) (fun q hq => by omega) hR9b hBb hBb.size ?aL ?_; (case aL => rw [List.length_map]; omega); intro v' w6 hR6 hB6 hg6 _)
      have hs6 := Step.grown hg6 (S := fun q => v9.ownBlock = some q) (fun q hq => hq)
      have u0' := hs6.block u0 (fun e => Kd.R_ne hR9b u0 (by decide) e.symm)
      have u2' := hs6.block u2 (fun e => Kd.R_ne hR9b u2 (by decide) e.symm)
      have hRe := hRb.step hs6 (fun q hq e => by
       obtain ⟨cur, hc⟩ := own103 hRb hq
       exact Kd.R_ne hR9b hc (by decide) e.symm)
      have hz6 := Nat.le_trans hzb hs6.size
      go_wp2
      refine ⟨⟨j + 1, ⟨F3, o3, l3, m3, r.out ++ [j], 0⟩, A3, c3, _, rfl, by omega, by simp, hk1.symm, rfl, u0', u2', hRe, hokw.1, hokw.2, ?_, hB6, hz6⟩, by simp [intOf]; omega⟩
      rw [List.map_append]
      exact hR6
     ·have e5 : (why != 0) = true := by simpa using hw
      rw [if_pos (by simpa using hw)] at hk1
      have hst := hlK_stop (k := j + 1) (xs := xs) (B := B) (t := bt_) (r := ⟨F, off, left, nw, [], 0⟩) (by rw [hk1]; exact hw) 2 (by omega)
      have hRr : R = ⟨F3, o3, l3, m3, [], why⟩ := hR.trans (hst.trans hk1)
      clear hst hk1 hR hw
      obtain ⟨⟨a0, a1, a2, a3⟩, _⟩ := blk4 u0
      obtain ⟨⟨b0, b1, b2, b3⟩, q0, q1, q2, q3⟩ := blk4 u2
      go_wp2
      refine bodyPost_ret (results_ctt rfl _ _ (w.heap.size + 1 + 1) 71 _ (0, 0) _ rfl (put4 u2 _ _ _ _) Tryd.underlying71 rfl (by kernel_rfl)) rfl ?_
      rw [hRr]
      exact ⟨_, _, _, rfl, ref_put4 hRb u2 _ _ _ _, Kd.R_nil _ _ _ _ _, below_put4 hBb (by omega) _ _ _ _⟩
  ·have dk : ¬ (j : Int) < 2 := by omega
   have hRr : R = r := by
    have ej : j = 2 := by omega
    rw [ej] at hrk
    exact hR.trans hrk.symm
   obtain ⟨⟨b0, b1, b2, b3⟩, q0, q1, q2, q3⟩ := blk4 s2
   clear hrk hR hj2 hj
   go_wp2
   refine bodyPost_ret (results_ctt rfl _ _ (w.heap.size + 1 + 1) 71 _ (0, 0) _ rfl (put4 s2 _ _ _ _) Tryd.underlying71 rfl (by kernel_rfl)) rfl ?_
   try rw [hRr]
   try rw [hre]
   exact ⟨_, _, _, rfl, ref_put4 hRf s2 _ _ _ _, Kd.R_mono (R_far4 hR9 (fun k hk => by omega) _ _ _ _) (fun _ _ => trivial), below_put4 hBr (by omega) _ _ _ _⟩
end
end Go.Proofs.YtmmfplogkikbjaaDoor.HSF
