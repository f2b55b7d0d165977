/- A cell is read: the walk of rest.cell. -/
import Derived.Test.YtbkcoddcgfclaaaDecU
import Derived.Test.YtbkcoddcgfclaaaPutW
set_option linter.unusedSimpArgs false
set_option linter.unusedVariables false
namespace Go.Proofs.Ytbkcoddcgfclaaa.SP
open Go.Proofs.Ytbkcoddcgfclaaa.MSlot Go.RowKit Go.Proofs.Ytbkcoddcgfclaaa.Ext Go.Proofs.Ytbkcoddcgfclaaa.MSd Go.Proofs.YtbkcoddcgfclaaaW.PrintWords Go.Proofs.YtbkcoddcgfclaaaW.PrintLast Go.Proofs.YtbkcoddcgfclaaaW.PrintMore

/-- The reader, as it lies in memory. -/
structure RA (w0 w W : World) (g : Nat) (s : RS) : Prop where
  i : IsS74 w0 W g (ofL s.l) s.b
  b : Below w0.heap.size w0 W
  k : KeepBut w W g none
theorem RA.alloc {w0 w W : World} {g : Nat} {s : RS} (h : RA w0 w W g s) (o : Obj) : RA w0 w (W.alloc o) g s := ⟨h.i.alloc o, below_alloc h.b o, keep_alloc h.k o⟩
theorem RA.below {w0 w W W' : World} {g : Nat} {s : RS} (h : RA w0 w W g s) (hb : Below W.heap.size W W') : RA w0 w W' g s := ⟨h.i.below hb, below_then h.b h.b.size hb, h.k.trans (KeepBut.of_below hb g none) (.inl rfl)⟩
theorem RA.far {w0 w W : World} {g : Nat} {s : RS} (h : RA w0 w W g s) {b : Nat} (hb : b ≠ g) (hn : w.heap.size ≤ b) (j : Nat) (v : Value) (hw : w0.heap.size ≤ b) : RA w0 w (W.setCell ⟨b, j, none⟩ v) g s := by
  refine ⟨⟨(Below.heap_setCell _ _ _ _ (by show g ≠ b; omega)).trans h.i.1, h.i.2⟩, h.b.setCell hw v, ⟨by simpa [World.setCell] using h.k.1, fun k hk hkg hr => ?_⟩⟩
  exact (Below.heap_setCell _ _ _ _ (by show k ≠ b; omega)).trans (h.k.2 k hk hkg hr)
theorem RA.step {w0 w W W' : World} {g : Nat} {s t : RS} (h : RA w0 w W g s) (hi : IsS74 w0 W' g (ofL t.l) t.b) (hb : Below w0.heap.size w0 W') (hk : KeepBut W W' g none) : RA w0 w W' g t := ⟨hi, hb, h.k.trans hk (.inl rfl)⟩
theorem rText_l (s : RS) : (rText s).2.l.length ≤ s.l.length := Nat.le_trans (rTake_l _ _) (rTake_l _ _)
theorem text_call {w0 w W : World} {g : Nat} {s : RS} (h : RA w0 w W g s) (hl : s.l.length ≤ 1000000) (t : List UInt8) (u : RS) (hr : rText s = (t, u)) :
    Calls Try.prog 43 #[.pointer (some ⟨g, 0, none⟩)] W fun e W' => e = .returned (.string (ofL t)) ∧ RA w0 w W' g u ∧ KeepBut W W' g none := by
  refine (slot_rest_text.calls g _ _ _ _ _ w0 W h.i h.b (text_eqR s hl)).mono ?_
  rintro e W' ⟨rfl, h1, h2, h3⟩
  rw [hr] at h1 ⊢
  exact ⟨rfl, h.step h1 h2 h3, h3⟩
theorem byte_call {w0 w W : World} {g : Nat} {s : RS} (h : RA w0 w W g s) (hl : s.l.length ≤ 1000000) (t : Nat) (u : RS) (hr : rByte s = (t, u)) :
    Calls Try.prog 40 #[.pointer (some ⟨g, 0, none⟩)] W fun e W' => e = .returned (.int .i64 (t : Int)) ∧ RA w0 w W' g u ∧ KeepBut W W' g none := by
  refine (slot_rest_byte.calls g _ _ _ _ _ w0 W h.i h.b (byte_eq s hl)).mono ?_
  rintro e W' ⟨rfl, h1, h2, h3⟩
  rw [hr] at h1 ⊢
  exact ⟨rfl, h.step h1 h2 h3, h3⟩
theorem four_call {w0 w W : World} {g : Nat} {s : RS} (h : RA w0 w W g s) (hl : s.l.length ≤ 1000000) (t : Nat) (u : RS) (hr : rFour s = (t, u)) :
    Calls Try.prog 41 #[.pointer (some ⟨g, 0, none⟩)] W fun e W' => e = .returned (.int .i64 (t : Int)) ∧ RA w0 w W' g u ∧ KeepBut W W' g none := by
  refine (slot_rest_four.calls g _ _ _ _ _ w0 W h.i h.b (fourR_eq s hl)).mono ?_
  rintro e W' ⟨rfl, h1, h2, h3⟩
  rw [hr] at h1 ⊢
  exact ⟨rfl, h.step h1 h2 h3, h3⟩
theorem RA.put {w0 w W : World} {g : Nat} {s : RS} (h : RA w0 w W g s) (b : Bool) : RA w0 w (W.setCell ⟨g, 1, none⟩ (.bool b)) g ⟨s.l, b⟩ :=
  ⟨⟨blk_put h.i.1 1 (.bool b) rfl, h.i.2⟩, h.b.setCell h.i.2 _, h.k.set_ 1 _⟩
set_option maxHeartbeats 4000000 in
set_option maxRecDepth 100000 in
theorem cell_call {w0 w0' w : World} {g : Nat} {s : RS} (hA : RA w0 w0' w g s) (hl : s.l.length ≤ 1000000) (c : S43) (u : RS) (hr : rCell s = (c, u)) :
    Calls Try.prog 42 #[.pointer (some ⟨g, 0, none⟩)] w fun e W' => e = .returned (.agg #[.string c.f0, .string c.f1, .int .i64 c.f2, .int .i64 c.f3]) ∧ RA w0 w0' W' g u ∧ KeepBut w W' g none := by
  have hgs : g < w.heap.size := blk_lt hA.i.1
  have hgb : w0.heap.size ≤ g := hA.i.2
  have HA := Lib.hid hA
  have HA0 : Hid (RA w0 w (w.alloc (.cells #[.string ⟨#[]⟩, .string ⟨#[]⟩, .int .i64 0, .int .i64 0] 43)) g s) := Lib.hid ((⟨hA.i, hA.b, KeepBut.refl w g none⟩ : RA w0 w w g s).alloc _)
  have HZ0 : Hid ((w.alloc (.cells #[.string ⟨#[]⟩, .string ⟨#[]⟩, .int .i64 0, .int .i64 0] 43)).heap[w.heap.size]? = some (.cells #[.string ⟨#[]⟩, .string ⟨#[]⟩, .int .i64 0, .int .i64 0] 43 (0, 0))) := Lib.hid (heap_alloc_new _ _)
  obtain ⟨t1, s1, e1⟩ : ∃ t1 s1, rText s = (t1, s1) := ⟨_, _, rfl⟩
  obtain ⟨k, s2, e2⟩ : ∃ k s2, rByte s1 = (k, s2) := ⟨_, _, rfl⟩
  have E1 := Lib.hid e1
  have E2 := Lib.hid e2
  have HR := Lib.hid hr
  have HL := Lib.hid hl
  have L1 := Lib.hid (show s1.l.length ≤ 1000000 by have := rText_l s; rw [e1] at this; exact Nat.le_trans this hl)
  have L2 := Lib.hid (show s2.l.length ≤ 1000000 by have := rTake_l 1 s1; have h2 : (rByte s1).2.l.length ≤ s1.l.length := this; rw [e2] at h2; exact Nat.le_trans h2 L1.out)
  have hrest : ∀ W' : World, RA w0 w W' g u → RA w0 w0' W' g u := fun W' h => ⟨h.i, h.b, HA.out.k.trans h.k (.inl rfl)⟩
  have HF := Lib.hid hrest
  clear hA e1 e2 hr hl hrest
  go_enter Try.func42, Try.ntmps42
  go_upto_region 2 with (first
    | (go_at_call 43
       (with_reducible refine (text_call HA0.out HL.out t1 s1 E1.out).mono ?_)
       rintro e w1 ⟨rfl, ha1, hk1⟩
       have HA1 := Lib.hid ha1
       have HZ1 := Lib.hid (hk1.blk HZ0.out (by omega) (by simp))
       clear ha1 hk1))
  have HA2 := Lib.hid (HA1.out.alloc (.cells #[.string (ofL t1), .string ⟨#[]⟩, .int .i64 0, .int .i64 0] 43))
  have HZ2 := Lib.hid (blk_alloc HZ1.out (.cells #[.string (ofL t1), .string ⟨#[]⟩, .int .i64 0, .int .i64 0] 43))
  have HX2 : Hid ((w1.alloc (.cells #[.string (ofL t1), .string ⟨#[]⟩, .int .i64 0, .int .i64 0] 43)).heap[w1.heap.size]? = some (.cells #[.string (ofL t1), .string ⟨#[]⟩, .int .i64 0, .int .i64 0] 43 (0, 0))) := Lib.hid (heap_alloc_new _ _)
  have hz1 := blk_lt HZ1.out
  clear HA1 HZ1 HA0 HZ0
  generalize w1.alloc (.cells #[.string (ofL t1), .string ⟨#[]⟩, .int .i64 0, .int .i64 0] 43) = w2 at HA2 HZ2 HX2 ⊢
  generalize w1.heap.size = gx at HX2 hz1 ⊢
  by_cases k0 : k = 0
  · subst k0
    have hc := HR.out
    rw [rCell_0 (by rw [E1.out]; simp only; rw [E2.out])] at hc
    rw [E1.out] at hc
    simp only at hc
    rw [E2.out] at hc
    simp only at hc
    obtain ⟨t2, s3, e3⟩ : ∃ t2 s3, rText s2 = (t2, s3) := ⟨_, _, rfl⟩
    rw [e3] at hc
    simp only [Prod.mk.injEq] at hc
    obtain ⟨rfl, rfl⟩ := hc
    have E3 := Lib.hid e3
    clear HR e3
    go_upto_region 5 with (first
      | (go_at_call 40
         (with_reducible refine (byte_call HA2.out L1.out 0 s2 E2.out).mono ?_)
         rintro e w3 ⟨rfl, ha, hk⟩
         have HA3 := Lib.hid ha
         have HZ3 := Lib.hid (hk.blk HZ2.out (by omega) (by simp))
         have HX3 := Lib.hid (hk.blk HX2.out (by omega) (by simp))
         clear ha hk))
    go_upto_region 10 with (first
      | (go_at_call 43
         (with_reducible refine (text_call HA3.out L2.out t2 s3 E3.out).mono ?_)
         rintro e w4 ⟨rfl, ha, hk⟩
         have HA4 := Lib.hid ha
         have HZ4 := Lib.hid (hk.blk HZ3.out (by omega) (by simp))
         have HX4 := Lib.hid (hk.blk HX3.out (by omega) (by simp))
         clear ha hk
         have x0 := (blk_cell HX4.out 0).trans rfl
         have x1 := (blk_cell HX4.out 1).trans rfl
         have x2 := (blk_cell HX4.out 2).trans rfl
         have x3 := (blk_cell HX4.out 3).trans rfl
         have fx := blk_frozen HX4.out 1))
    have HA5 := Lib.hid (RA.far HA4.out (b := gx) (by omega) (by omega) 1 (.string (ofL t2)) (by omega))
    have HZ5 : Hid ((w4.setCell ⟨gx, 1, none⟩ (.string (ofL t2))).heap[w.heap.size]? = some (.cells #[.string ⟨#[]⟩, .string ⟨#[]⟩, .int .i64 0, .int .i64 0] 43 (0, 0))) := Lib.hid ((Below.heap_setCell _ _ _ _ (by show _ ≠ gx; omega)).trans HZ4.out)
    have HX5 := Lib.hid (blk_put HX4.out 1 (.string (ofL t2)) rfl)
    clear HA4 HZ4 HX4 x0 x1 x2 x3 fx
    generalize w4.setCell ⟨gx, 1, none⟩ (.string (ofL t2)) = w5 at HA5 HZ5 HX5 ⊢
    have zx0 := (blk_cell HX5.out 0).trans rfl
    have zx1 := (blk_cell HX5.out 1).trans rfl
    have zx2 := (blk_cell HX5.out 2).trans rfl
    have zx3 := (blk_cell HX5.out 3).trans rfl
    have zz0 := (blk_cell HZ5.out 0).trans rfl
    have zz1 := (blk_cell HZ5.out 1).trans rfl
    have zz2 := (blk_cell HZ5.out 2).trans rfl
    have zz3 := (blk_cell HZ5.out 3).trans rfl
    have ff0 := blk_frozen HZ5.out 0
    have ff1 := blk_frozen HZ5.out 1
    have ff2 := blk_frozen HZ5.out 2
    have ff3 := blk_frozen HZ5.out 3
    go_wp2
    have q0 := blk_put HZ5.out 0 (.string (ofL t1)) rfl
    have q1 := blk_put q0 1 (.string (ofL t2)) rfl
    have q2 := blk_put q1 2 (.int .i64 0) rfl
    have q3 := blk_put q2 3 (.int .i64 0) rfl
    refine bodyPost_ret (results_cell_row rfl _ _ (w.heap.size) 43 #[.string (ofL t1), .string (ofL t2), .int .i64 0, .int .i64 0] (0, 0) _ rfl q3 Try.underlying43 rfl (by kernel_rfl)) rfl ?_
    have hfin := RA.far (RA.far (RA.far (RA.far HA5.out (b := w.heap.size) (by omega) (Nat.le_refl _) 0 (.string (ofL t1)) (by omega)) (b := w.heap.size) (by omega) (Nat.le_refl _) 1 (.string (ofL t2)) (by omega)) (b := w.heap.size) (by omega) (Nat.le_refl _) 2 (.int .i64 0) (by omega)) (b := w.heap.size) (by omega) (Nat.le_refl _) 3 (.int .i64 0) (by omega)
    exact ⟨rfl, HF.out _ hfin, hfin.k⟩
  by_cases k1 : k = 1
  · subst k1
    have hc := HR.out
    rw [rCell_1 (by rw [E1.out]; simp only; rw [E2.out])] at hc
    rw [E1.out] at hc
    simp only at hc
    rw [E2.out] at hc
    simp only at hc
    obtain ⟨n1, s3, e3⟩ : ∃ t2 s3, rFour s2 = (t2, s3) := ⟨_, _, rfl⟩
    rw [e3] at hc
    simp only at hc
    obtain ⟨n2, s4, e4⟩ : ∃ t2 s5, rFour s3 = (t2, s5) := ⟨_, _, rfl⟩
    rw [e4] at hc
    simp only [Prod.mk.injEq] at hc
    obtain ⟨rfl, rfl⟩ := hc
    have E3 := Lib.hid e3
    have E4 := Lib.hid e4
    have L3 := Lib.hid (show s3.l.length ≤ 1000000 by have h2 : (rFour s2).2.l.length ≤ s2.l.length := rTake_l 4 s2; rw [e3] at h2; exact Nat.le_trans h2 L2.out)
    have N2 := Lib.hid (show n2 < 4294967296 by have h2 : (rFour s3).1 < 4294967296 := four4_lt _; rw [e4] at h2; exact h2)
    clear HR e3 e4
    go_upto_region 7 with (first
      | (go_at_call 40
         (with_reducible refine (byte_call HA2.out L1.out 1 s2 E2.out).mono ?_)
         rintro e w3 ⟨rfl, ha, hk⟩
         have HA3 := Lib.hid ha
         have HZ3 := Lib.hid (hk.blk HZ2.out (by omega) (by simp))
         have HX3 := Lib.hid (hk.blk HX2.out (by omega) (by simp))
         clear ha hk))
    go_upto_region 8 with (first
      | (go_at_call 41
         (with_reducible refine (four_call HA3.out L2.out n1 s3 E3.out).mono ?_)
         rintro e w4 ⟨rfl, ha, hk⟩
         have HA4 := Lib.hid ha
         have HZ4 := Lib.hid (hk.blk HZ3.out (by omega) (by simp))
         have HX4 := Lib.hid (hk.blk HX3.out (by omega) (by simp))
         clear ha hk
         have x0 := (blk_cell HX4.out 0).trans rfl
         have x1 := (blk_cell HX4.out 1).trans rfl
         have x2 := (blk_cell HX4.out 2).trans rfl
         have x3 := (blk_cell HX4.out 3).trans rfl
         have fx := blk_frozen HX4.out 3))
    have HA5 := Lib.hid (RA.far HA4.out (b := gx) (by omega) (by omega) 3 (.int .i64 (n1 : Int)) (by omega))
    have HZ5 : Hid ((w4.setCell ⟨gx, 3, none⟩ (.int .i64 (n1 : Int))).heap[w.heap.size]? = some (.cells #[.string ⟨#[]⟩, .string ⟨#[]⟩, .int .i64 0, .int .i64 0] 43 (0, 0))) := Lib.hid ((Below.heap_setCell _ _ _ _ (by show _ ≠ gx; omega)).trans HZ4.out)
    have HX5 := Lib.hid (blk_put HX4.out 3 (.int .i64 (n1 : Int)) rfl)
    clear HA4 HZ4 HX4 x0 x1 x2 x3 fx
    generalize w4.setCell ⟨gx, 3, none⟩ (.int .i64 (n1 : Int)) = w5 at HA5 HZ5 HX5 ⊢
    go_upto_region 9 with (first
      | (go_at_call 41
         (with_reducible refine (four_call HA5.out L3.out n2 s4 E4.out).mono ?_)
         rintro e w6 ⟨rfl, ha, hk⟩
         have HA6 := Lib.hid ha
         have HZ6 := Lib.hid (hk.blk HZ5.out (by omega) (by simp))
         have HX6 := Lib.hid (hk.blk HX5.out (by omega) (by simp))
         clear ha hk
         have x0 := (blk_cell HX6.out 0).trans rfl
         have x1 := (blk_cell HX6.out 1).trans rfl
         have x2 := (blk_cell HX6.out 2).trans rfl
         have x3 := (blk_cell HX6.out 3).trans rfl
         have fx := blk_frozen HX6.out 2))
    have HA7 := Lib.hid (RA.far HA6.out (b := gx) (by omega) (by omega) 2 (.int .i64 (n2 : Int)) (by omega))
    have HZ7 : Hid ((w6.setCell ⟨gx, 2, none⟩ (.int .i64 (n2 : Int))).heap[w.heap.size]? = some (.cells #[.string ⟨#[]⟩, .string ⟨#[]⟩, .int .i64 0, .int .i64 0] 43 (0, 0))) := Lib.hid ((Below.heap_setCell _ _ _ _ (by show _ ≠ gx; omega)).trans HZ6.out)
    have HX7 := Lib.hid (blk_put HX6.out 2 (.int .i64 (n2 : Int)) rfl)
    clear HA6 HZ6 HX6 x0 x1 x2 x3 fx
    generalize w6.setCell ⟨gx, 2, none⟩ (.int .i64 (n2 : Int)) = w7 at HA7 HZ7 HX7 ⊢
    obtain ⟨l4, b4⟩ := s4
    cases b4
    · by_cases hn : n2 = 0
      · subst hn
        have hn0 : (((0 : Nat) : Int) == 0) = true := rfl
        have y0 := (blk_cell HA7.out.i.1 0).trans rfl
        have y1 := (blk_cell HA7.out.i.1 1).trans rfl
        have fy := blk_frozen HA7.out.i.1 1
        have x0 := (blk_cell HX7.out 0).trans rfl
        have x1 := (blk_cell HX7.out 1).trans rfl
        have x2 := (blk_cell HX7.out 2).trans rfl
        have x3 := (blk_cell HX7.out 3).trans rfl
        go_upto_region 10 with fail
        have HA8 := Lib.hid (RA.put HA7.out true)
        have HZ8 : Hid ((w7.setCell ⟨g, 1, none⟩ (.bool true)).heap[w.heap.size]? = some (.cells #[.string ⟨#[]⟩, .string ⟨#[]⟩, .int .i64 0, .int .i64 0] 43 (0, 0))) := Lib.hid ((Below.heap_setCell _ _ _ _ (by show _ ≠ g; omega)).trans HZ7.out)
        have HX8 : Hid ((w7.setCell ⟨g, 1, none⟩ (.bool true)).heap[gx]? = some (.cells #[.string (ofL t1), .string ⟨#[]⟩, .int .i64 ((0 : Nat) : Int), .int .i64 (n1 : Int)] 43 (0, 0))) := Lib.hid ((Below.heap_setCell _ _ _ _ (by show _ ≠ g; omega)).trans HX7.out)
        clear HA7 HZ7 HX7 y0 y1 fy x0 x1 x2 x3
        generalize w7.setCell ⟨g, 1, none⟩ (.bool true) = w8 at HA8 HZ8 HX8 ⊢
        have zx0 := (blk_cell HX8.out 0).trans rfl
        have zx1 := (blk_cell HX8.out 1).trans rfl
        have zx2 := (blk_cell HX8.out 2).trans rfl
        have zx3 := (blk_cell HX8.out 3).trans rfl
        have zz0 := (blk_cell HZ8.out 0).trans rfl
        have zz1 := (blk_cell HZ8.out 1).trans rfl
        have zz2 := (blk_cell HZ8.out 2).trans rfl
        have zz3 := (blk_cell HZ8.out 3).trans rfl
        have ff0 := blk_frozen HZ8.out 0
        have ff1 := blk_frozen HZ8.out 1
        have ff2 := blk_frozen HZ8.out 2
        have ff3 := blk_frozen HZ8.out 3
        go_wp2
        have q0 := blk_put HZ8.out 0 (.string (ofL t1)) rfl
        have q1 := blk_put q0 1 (.string ⟨#[]⟩) rfl
        have q2 := blk_put q1 2 (.int .i64 ((0 : Nat) : Int)) rfl
        have q3 := blk_put q2 3 (.int .i64 (n1 : Int)) rfl
        refine bodyPost_ret (results_cell_row rfl _ _ (w.heap.size) 43 #[.string (ofL t1), .string ⟨#[]⟩, .int .i64 ((0 : Nat) : Int), .int .i64 (n1 : Int)] (0, 0) _ rfl q3 Try.underlying43 rfl (by kernel_rfl)) rfl ?_
        have hfin := RA.far (RA.far (RA.far (RA.far HA8.out (b := w.heap.size) (by omega) (Nat.le_refl _) 0 (.string (ofL t1)) (by omega)) (b := w.heap.size) (by omega) (Nat.le_refl _) 1 (.string ⟨#[]⟩) (by omega)) (b := w.heap.size) (by omega) (Nat.le_refl _) 2 (.int .i64 ((0 : Nat) : Int)) (by omega)) (b := w.heap.size) (by omega) (Nat.le_refl _) 3 (.int .i64 (n1 : Int)) (by omega)
        exact ⟨rfl, HF.out _ hfin, hfin.k⟩
      · have hn0 : ((n2 : Int) == 0) = false := beq_eq_false_iff_ne.2 (by omega)
        have hn1 : (n2 == 0) = false := beq_eq_false_iff_ne.2 hn
        rw [hn1] at HF
        have HN1 := Lib.hid hn1
        clear hn hn1
        have y0 := (blk_cell HA7.out.i.1 0).trans rfl
        have y1 := (blk_cell HA7.out.i.1 1).trans rfl
        have fy := blk_frozen HA7.out.i.1 1
        have x0 := (blk_cell HX7.out 0).trans rfl
        have x1 := (blk_cell HX7.out 1).trans rfl
        have x2 := (blk_cell HX7.out 2).trans rfl
        have x3 := (blk_cell HX7.out 3).trans rfl
        go_upto_region 10 with fail
        have HA8 := Lib.hid (RA.put HA7.out false)
        have HZ8 : Hid ((w7.setCell ⟨g, 1, none⟩ (.bool false)).heap[w.heap.size]? = some (.cells #[.string ⟨#[]⟩, .string ⟨#[]⟩, .int .i64 0, .int .i64 0] 43 (0, 0))) := Lib.hid ((Below.heap_setCell _ _ _ _ (by show _ ≠ g; omega)).trans HZ7.out)
        have HX8 : Hid ((w7.setCell ⟨g, 1, none⟩ (.bool false)).heap[gx]? = some (.cells #[.string (ofL t1), .string ⟨#[]⟩, .int .i64 (n2 : Int), .int .i64 (n1 : Int)] 43 (0, 0))) := Lib.hid ((Below.heap_setCell _ _ _ _ (by show _ ≠ g; omega)).trans HX7.out)
        clear HA7 HZ7 HX7 y0 y1 fy x0 x1 x2 x3
        generalize w7.setCell ⟨g, 1, none⟩ (.bool false) = w8 at HA8 HZ8 HX8 ⊢
        have zx0 := (blk_cell HX8.out 0).trans rfl
        have zx1 := (blk_cell HX8.out 1).trans rfl
        have zx2 := (blk_cell HX8.out 2).trans rfl
        have zx3 := (blk_cell HX8.out 3).trans rfl
        have zz0 := (blk_cell HZ8.out 0).trans rfl
        have zz1 := (blk_cell HZ8.out 1).trans rfl
        have zz2 := (blk_cell HZ8.out 2).trans rfl
        have zz3 := (blk_cell HZ8.out 3).trans rfl
        have ff0 := blk_frozen HZ8.out 0
        have ff1 := blk_frozen HZ8.out 1
        have ff2 := blk_frozen HZ8.out 2
        have ff3 := blk_frozen HZ8.out 3
        go_wp2
        have q0 := blk_put HZ8.out 0 (.string (ofL t1)) rfl
        have q1 := blk_put q0 1 (.string ⟨#[]⟩) rfl
        have q2 := blk_put q1 2 (.int .i64 (n2 : Int)) rfl
        have q3 := blk_put q2 3 (.int .i64 (n1 : Int)) rfl
        refine bodyPost_ret (results_cell_row rfl _ _ (w.heap.size) 43 #[.string (ofL t1), .string ⟨#[]⟩, .int .i64 (n2 : Int), .int .i64 (n1 : Int)] (0, 0) _ rfl q3 Try.underlying43 rfl (by kernel_rfl)) rfl ?_
        have hfin := RA.far (RA.far (RA.far (RA.far HA8.out (b := w.heap.size) (by omega) (Nat.le_refl _) 0 (.string (ofL t1)) (by omega)) (b := w.heap.size) (by omega) (Nat.le_refl _) 1 (.string ⟨#[]⟩) (by omega)) (b := w.heap.size) (by omega) (Nat.le_refl _) 2 (.int .i64 (n2 : Int)) (by omega)) (b := w.heap.size) (by omega) (Nat.le_refl _) 3 (.int .i64 (n1 : Int)) (by omega)
        refine ⟨rfl, ?_, hfin.k⟩
        rw [HN1.out]
        exact HF.out _ hfin
    · have y0 := (blk_cell HA7.out.i.1 0).trans rfl
      have y1 := (blk_cell HA7.out.i.1 1).trans rfl
      have fy := blk_frozen HA7.out.i.1 1
      have x0 := (blk_cell HX7.out 0).trans rfl
      have x1 := (blk_cell HX7.out 1).trans rfl
      have x2 := (blk_cell HX7.out 2).trans rfl
      have x3 := (blk_cell HX7.out 3).trans rfl
      go_upto_region 10 with fail
      have HA8 := Lib.hid (RA.put HA7.out true)
      have HZ8 : Hid ((w7.setCell ⟨g, 1, none⟩ (.bool true)).heap[w.heap.size]? = some (.cells #[.string ⟨#[]⟩, .string ⟨#[]⟩, .int .i64 0, .int .i64 0] 43 (0, 0))) := Lib.hid ((Below.heap_setCell _ _ _ _ (by show _ ≠ g; omega)).trans HZ7.out)
      have HX8 : Hid ((w7.setCell ⟨g, 1, none⟩ (.bool true)).heap[gx]? = some (.cells #[.string (ofL t1), .string ⟨#[]⟩, .int .i64 (n2 : Int), .int .i64 (n1 : Int)] 43 (0, 0))) := Lib.hid ((Below.heap_setCell _ _ _ _ (by show _ ≠ g; omega)).trans HX7.out)
      clear HA7 HZ7 HX7 y0 y1 fy x0 x1 x2 x3
      generalize w7.setCell ⟨g, 1, none⟩ (.bool true) = w8 at HA8 HZ8 HX8 ⊢
      have zx0 := (blk_cell HX8.out 0).trans rfl
      have zx1 := (blk_cell HX8.out 1).trans rfl
      have zx2 := (blk_cell HX8.out 2).trans rfl
      have zx3 := (blk_cell HX8.out 3).trans rfl
      have zz0 := (blk_cell HZ8.out 0).trans rfl
      have zz1 := (blk_cell HZ8.out 1).trans rfl
      have zz2 := (blk_cell HZ8.out 2).trans rfl
      have zz3 := (blk_cell HZ8.out 3).trans rfl
      have ff0 := blk_frozen HZ8.out 0
      have ff1 := blk_frozen HZ8.out 1
      have ff2 := blk_frozen HZ8.out 2
      have ff3 := blk_frozen HZ8.out 3
      go_wp2
      have q0 := blk_put HZ8.out 0 (.string (ofL t1)) rfl
      have q1 := blk_put q0 1 (.string ⟨#[]⟩) rfl
      have q2 := blk_put q1 2 (.int .i64 (n2 : Int)) rfl
      have q3 := blk_put q2 3 (.int .i64 (n1 : Int)) rfl
      refine bodyPost_ret (results_cell_row rfl _ _ (w.heap.size) 43 #[.string (ofL t1), .string ⟨#[]⟩, .int .i64 (n2 : Int), .int .i64 (n1 : Int)] (0, 0) _ rfl q3 Try.underlying43 rfl (by kernel_rfl)) rfl ?_
      have hfin := RA.far (RA.far (RA.far (RA.far HA8.out (b := w.heap.size) (by omega) (Nat.le_refl _) 0 (.string (ofL t1)) (by omega)) (b := w.heap.size) (by omega) (Nat.le_refl _) 1 (.string ⟨#[]⟩) (by omega)) (b := w.heap.size) (by omega) (Nat.le_refl _) 2 (.int .i64 (n2 : Int)) (by omega)) (b := w.heap.size) (by omega) (Nat.le_refl _) 3 (.int .i64 (n1 : Int)) (by omega)
      exact ⟨rfl, HF.out _ hfin, hfin.k⟩
  · have hc := HR.out
    rw [rCell_2 (by rw [E1.out]; simp only; rw [E2.out]; exact k0) (by rw [E1.out]; simp only; rw [E2.out]; exact k1)] at hc
    rw [E1.out] at hc
    simp only at hc
    rw [E2.out] at hc
    simp only [Prod.mk.injEq] at hc
    obtain ⟨rfl, rfl⟩ := hc
    have hk0 : ((k : Int) == 0) = false := beq_eq_false_iff_ne.2 (by omega)
    have hk1 : ((k : Int) == 1) = false := beq_eq_false_iff_ne.2 (by omega)
    clear HR k0 k1
    go_upto_region 3 with (first
      | (go_at_call 40
         (with_reducible refine (byte_call HA2.out L1.out k s2 E2.out).mono ?_)
         rintro e w3 ⟨rfl, ha, hk⟩
         have HA3 := Lib.hid ha
         have HZ3 := Lib.hid (hk.blk HZ2.out (by omega) (by simp))
         have HX3 := Lib.hid (hk.blk HX2.out (by omega) (by simp))
         clear ha hk))
    have y0 := (blk_cell HA3.out.i.1 0).trans rfl
    have y1 := (blk_cell HA3.out.i.1 1).trans rfl
    have fy := blk_frozen HA3.out.i.1 1
    go_upto_region 10 with fail
    have HA8 := Lib.hid (RA.put HA3.out true)
    have HZ8 : Hid ((w3.setCell ⟨g, 1, none⟩ (.bool true)).heap[w.heap.size]? = some (.cells #[.string ⟨#[]⟩, .string ⟨#[]⟩, .int .i64 0, .int .i64 0] 43 (0, 0))) := Lib.hid ((Below.heap_setCell _ _ _ _ (by show _ ≠ g; omega)).trans HZ3.out)
    have HX8 : Hid ((w3.setCell ⟨g, 1, none⟩ (.bool true)).heap[gx]? = some (.cells #[.string (ofL t1), .string ⟨#[]⟩, .int .i64 0, .int .i64 0] 43 (0, 0))) := Lib.hid ((Below.heap_setCell _ _ _ _ (by show _ ≠ g; omega)).trans HX3.out)
    clear HA3 HZ3 HX3 y0 y1 fy 
    generalize w3.setCell ⟨g, 1, none⟩ (.bool true) = w8 at HA8 HZ8 HX8 ⊢
    have zx0 := (blk_cell HX8.out 0).trans rfl
    have zx1 := (blk_cell HX8.out 1).trans rfl
    have zx2 := (blk_cell HX8.out 2).trans rfl
    have zx3 := (blk_cell HX8.out 3).trans rfl
    have zz0 := (blk_cell HZ8.out 0).trans rfl
    have zz1 := (blk_cell HZ8.out 1).trans rfl
    have zz2 := (blk_cell HZ8.out 2).trans rfl
    have zz3 := (blk_cell HZ8.out 3).trans rfl
    have ff0 := blk_frozen HZ8.out 0
    have ff1 := blk_frozen HZ8.out 1
    have ff2 := blk_frozen HZ8.out 2
    have ff3 := blk_frozen HZ8.out 3
    go_wp2
    have q0 := blk_put HZ8.out 0 (.string (ofL t1)) rfl
    have q1 := blk_put q0 1 (.string ⟨#[]⟩) rfl
    have q2 := blk_put q1 2 (.int .i64 0) rfl
    have q3 := blk_put q2 3 (.int .i64 0) rfl
    refine bodyPost_ret (results_cell_row rfl _ _ (w.heap.size) 43 #[.string (ofL t1), .string ⟨#[]⟩, .int .i64 0, .int .i64 0] (0, 0) _ rfl q3 Try.underlying43 rfl (by kernel_rfl)) rfl ?_
    have hfin := RA.far (RA.far (RA.far (RA.far HA8.out (b := w.heap.size) (by omega) (Nat.le_refl _) 0 (.string (ofL t1)) (by omega)) (b := w.heap.size) (by omega) (Nat.le_refl _) 1 (.string ⟨#[]⟩) (by omega)) (b := w.heap.size) (by omega) (Nat.le_refl _) 2 (.int .i64 0) (by omega)) (b := w.heap.size) (by omega) (Nat.le_refl _) 3 (.int .i64 0) (by omega)
    exact ⟨rfl, HF.out _ hfin, hfin.k⟩
end Go.Proofs.Ytbkcoddcgfclaaa.SP
