/- The law SlotPuts' walk. -/
import Derived.Test.YtbkcoddcgfclaaaNVput
import Derived.Deep.QuietTactic
import Derived.BigQuiet
import Derived.IntWalk
set_option linter.unusedSimpArgs false
set_option linter.unusedVariables false
namespace Go.Proofs.Ytbkcoddcgfclaaa.SP
open Go.RowKit Go.Proofs.Ytbkcoddcgfclaaa.MSlot Go.Proofs.Ytbkcoddcgfclaaa.Ext Go.Proofs.YtbkcoddcgfclaaaW.PrintWords Go.Proofs.YtbkcoddcgfclaaaW.PrintLast Go.Proofs.YtbkcoddcgfclaaaW.PrintMore

set_option maxHeartbeats 4000000 in
set_option maxRecDepth 100000 in
theorem puts_walk (hworks : ∀ W : World, Calls Try.prog 14 #[] W fun e w' => e = .returned (.bool true) ∧ Below W.heap.size W w') (n : NV) (c : S43) (w : World) (hn : n.ok w) :
    Calls Try.prog 6 #[.agg #[.bool n.leaf, .slice n.A1 n.xs.length n.c1, .slice n.A2 n.ks.length n.c2, .slice n.A3 n.ds.length n.c3], .agg #[.string c.f0, .string c.f1, .int .i64 c.f2, .int .i64 c.f3]] w fun e w' => e = .returned (.bool true) ∧ Below w.heap.size w w' := by
  have HN := Lib.hid hn
  have HV := Lib.hid hworks
  have HJ0 := Lib.hid (J2.mk0 w (.cells #[.bool n.leaf, .slice n.A1 n.xs.length n.c1, .slice n.A2 n.ks.length n.c2, .slice n.A3 n.ds.length n.c3] 26) (.cells #[.string c.f0, .string c.f1, .int .i64 c.f2, .int .i64 c.f3] 43))
  have HN0 := Lib.hid (NV.ok_below HN.out HJ0.out.2.2.1)
  clear hn hworks
  go_enter Try.func6, Try.ntmps6
  go_upto_region 2 with (first
    | (go_at_call 8
       (with_reducible refine (nv_few HN0.out).mono ?_)
       rintro e w1 ⟨m, rfl, HM1, hm, hb1⟩
       have HM := Lib.hid hm
       have HJ1 := Lib.hid (HJ0.out.below hb1)
       have bx0 := (blk_cell HJ1.out.1 0).trans rfl
       have bx1 := (blk_cell HJ1.out.1 1).trans rfl
       have bx2 := (blk_cell HJ1.out.1 2).trans rfl
       have bx3 := (blk_cell HJ1.out.1 3).trans rfl
       have fx0 := blk_frozen HJ1.out.1 0
       have fx1 := blk_frozen HJ1.out.1 1
       have fx2 := blk_frozen HJ1.out.1 2
       have fx3 := blk_frozen HJ1.out.1 3
       clear hm hb1))
  have HX2 : Hid ((put4 w1 w.heap.size m).heap[w.heap.size + 1]? = some (.cells #[.string c.f0, .string c.f1, .int .i64 c.f2, .int .i64 c.f3] 43 (0, 0))) := Lib.hid ((put4_ne (by omega)).trans HJ1.out.2.1)
  change Code.wp _ _ _ _ (put4 w1 w.heap.size m)
  clear bx0 bx1 bx2 bx3 fx0 fx1 fx2 fx3 HJ0
  have cx0 := (blk_cell HX2.out 0).trans rfl; have cx1 := (blk_cell HX2.out 1).trans rfl; have cx2 := (blk_cell HX2.out 2).trans rfl; have cx3 := (blk_cell HX2.out 3).trans rfl
  have ex0 := blk_frozen HX2.out 0
  go_upto_region 3 with fail
  obtain ⟨cc, h0, h1, h2, h3⟩ : ∃ cc : S43, c.f0.extract 0 (min (c.f0.size : Int) 170).toNat = cc.f0 ∧ c.f1 = cc.f1 ∧ c.f2 = cc.f2 ∧ c.f3 = cc.f3 := ⟨⟨_, _, _, _⟩, rfl, rfl, rfl, rfl⟩
  have HA3 : Hid (m.at ((put4 w1 w.heap.size m).setCell ⟨w.heap.size + 1, 0, none⟩ (.string cc.f0)) w.heap.size) := Lib.hid ⟨(Below.heap_setCell _ _ _ _ (by show _ ≠ w.heap.size + 1; omega)).trans (put4_at HJ1.out.1), HM.out _ (fun k hk => (Below.heap_setCell _ _ _ _ (by simp at hk; show _ ≠ w.heap.size + 1; omega)).trans (put4_ne (by simp at hk; omega)))⟩
  have HC3 : Hid (((put4 w1 w.heap.size m).setCell ⟨w.heap.size + 1, 0, none⟩ (.string cc.f0)).heap[w.heap.size + 1]? = some (.cells #[.string cc.f0, .string cc.f1, .int .i64 cc.f2, .int .i64 cc.f3] 43 (0, 0))) := Lib.hid (by have := blk_put HX2.out 0 (.string cc.f0) rfl; rw [h1, h2, h3] at this; exact this)
  have HB3 : Hid (Below w.heap.size w ((put4 w1 w.heap.size m).setCell ⟨w.heap.size + 1, 0, none⟩ (.string cc.f0))) := Lib.hid ((put4_below (Nat.le_refl _) HJ1.out.2.2.1).setCell (by show _ ≤ w.heap.size + 1; omega) _)
  rw [h0]
  clear h0 h1 h2 h3 HJ1 HM HX2 cx0 cx1 cx2 cx3 ex0
  generalize (put4 w1 w.heap.size m).setCell ⟨w.heap.size + 1, 0, none⟩ (.string cc.f0) = w3 at HA3 HB3 HC3 ⊢
  have hsm := Lib.hid (show small m.xs m.ks = true from HM1.out.2.1 ▸ HM1.out.2.2.1 ▸ few_small n.xs n.ks)
  have hsd := Lib.hid (show m.ds.length ≤ 1000 by rw [HM1.out.2.2.2, List.length_take]; omega)
  have hmm := Lib.hid (show mild m.xs m.ks m.ds = true from mild_small hsm.out (by have := hsd.out; omega))
  have hmn := Lib.hid (show m.xs.length ≤ 1000 from (small_of hsm.out).1)
  clear hsm hsd
  cases hlf : m.leaf
  · have bx0 : w3.cell? ⟨w.heap.size, 0, none⟩ = some (.bool false) := by have := (blk_cell HA3.out.1 0).trans rfl; rw [hlf] at this; exact this
    clear hlf
    go_wp2_with (first | (go_at_call 14; (with_reducible refine (HV.out _).mono ?_); rintro e w9 ⟨rfl, hb9⟩; have HB9 := Lib.hid (below_then HB3.out HB3.out.size hb9); clear hb9))
    go_ret
    exact ⟨rfl, HB9.out⟩
  have HLF := Lib.hid hlf
  clear hlf
  have HT3 := Lib.hid (NV.at_T HLF.out HA3.out)
  have HO3 := Lib.hid (show m.ok w3 from HT3.out.2)
  clear HA3
  have bx0 := (blk_cell HT3.out.1 0).trans rfl; have bx1 := (blk_cell HT3.out.1 1).trans rfl; have bx2 := (blk_cell HT3.out.1 2).trans rfl; have bx3 := (blk_cell HT3.out.1 3).trans rfl
  cases hck : checkB true m.xs m.ks m.ds
  · have HR : Hid ((if checkB true m.xs m.ks m.ds = true then 0 else 2 : Int) = 2) := Lib.hid (by rw [hck]; rfl)
    clear hck
    go_wp2_with (first
      | (go_at_call 15
         (with_reducible refine (nv_checksT HO3.out HLF.out hmm.out 2 HR.out).mono ?_)
         rintro e w4 ⟨rfl, hb4⟩
         have HB4 := Lib.hid (below_then HB3.out HB3.out.size hb4)
         clear hb4)
      | (go_at_call 14; (with_reducible refine (HV.out _).mono ?_); rintro e w9 ⟨rfl, hb9⟩; have HB9 := Lib.hid (below_then HB4.out HB4.out.size hb9); clear hb9))
    go_ret
    exact ⟨rfl, HB9.out⟩
  have HK := Lib.hid hck
  have HR : Hid ((if checkB true m.xs m.ks m.ds = true then 0 else 2 : Int) = 0) := Lib.hid (by rw [hck]; rfl)
  have HRise := Lib.hid (rise_adj (check_parts hck).2.2.2.1)
  clear hck
  obtain ⟨A, M, B, q1, q2, q3, q4, q5, q6, q7, q8, q9, q10⟩ := put_parts m.xs cc HRise.out
  have Q1 := Lib.hid q1
  have Q2 := Lib.hid q2
  have Q3 := Lib.hid q3
  have Q4 := Lib.hid q4
  have Q6 := Lib.hid q6
  have Q7 := Lib.hid q7
  have Q8 := Lib.hid q8
  have Q9 := Lib.hid q9
  have Q10 := Lib.hid q10
  clear q1 q2 q3 q4 q5 q6 q7 q8 q9 q10
  have HMl := Lib.hid (show A.length + M.length + B.length = m.xs.length by rw [Q1.out]; simp; omega)
  have cx0 := (blk_cell HC3.out 0).trans rfl; have cx1 := (blk_cell HC3.out 1).trans rfl; have cx2 := (blk_cell HC3.out 2).trans rfl; have cx3 := (blk_cell HC3.out 3).trans rfl
  go_upto_region 6 with (first
    | (go_at_call 15
       (with_reducible refine (nv_checksT HO3.out HLF.out hmm.out 0 HR.out).mono ?_)
       rintro e w4 ⟨rfl, hb4⟩
       have HT4 := Lib.hid (NV.atT_below HT3.out hb4)
       have HO4 := Lib.hid (show m.ok w4 from HT4.out.2)
       have HC4 := Lib.hid (blk_below HC3.out hb4)
       have HB4 := Lib.hid (below_then HB3.out HB3.out.size hb4)
       clear hb4 bx0 bx1 bx2 bx3 cx0 cx1 cx2 cx3
       have bx0 := (blk_cell HT4.out.1 0).trans rfl; have bx1 := (blk_cell HT4.out.1 1).trans rfl; have bx2 := (blk_cell HT4.out.1 2).trans rfl; have bx3 := (blk_cell HT4.out.1 3).trans rfl; have cx0 := (blk_cell HC4.out 0).trans rfl; have cx1 := (blk_cell HC4.out 1).trans rfl; have cx2 := (blk_cell HC4.out 2).trans rfl; have cx3 := (blk_cell HC4.out 3).trans rfl)
    | (go_at_call 18
       (with_reducible refine (nv_putT cc HO4.out HLF.out HRise.out (by have := hmn.out; omega)).mono ?_)
       rintro e w5 ⟨m2, rfl, HM2, ho5, hb5⟩
       have HO5 := Lib.hid ho5
       have HT5 := Lib.hid (NV.atT_below HT4.out hb5)
       have HC5 := Lib.hid (blk_below HC4.out hb5)
       have HB5 := Lib.hid (below_then HB4.out HB4.out.size hb5)
       clear hb5 ho5 bx0 bx1 bx2 bx3 cx0 cx1 cx2 cx3))
  have HE2 := Lib.hid (show m2.xs = A ++ cc :: B from HM2.out.2.1.trans Q2.out)
  have HRi2 := Lib.hid (show Rise m2.xs by rw [HM2.out.2.1]; exact Q6.out)
  have HP2 := Lib.hid (show posK m2.xs cc.f0 = A.length by rw [HM2.out.2.1]; exact Q7.out)
  have HH2 := Lib.hid (show hasK m2.xs cc.f0 = true by rw [HM2.out.2.1]; exact Q8.out)
  have HN2 := Lib.hid (show m2.xs.length = A.length + B.length + 1 by rw [HE2.out]; simp; omega)
  have HM6 : Hid (m2.atT (w5.alloc (.cells #[.bool true, .slice m2.A1 m2.xs.length m2.c1, .slice m2.A2 m2.ks.length m2.c2, .slice m2.A3 m2.ds.length m2.c3] 26)) w5.heap.size) := Lib.hid ⟨heap_alloc_new _ _, NV.ok_below HO5.out (below_alloc (Below.refl _ _) _)⟩
  have HT6 := Lib.hid (NV.atT_below HT5.out (below_alloc (Below.refl _ _) (.cells #[.bool true, .slice m2.A1 m2.xs.length m2.c1, .slice m2.A2 m2.ks.length m2.c2, .slice m2.A3 m2.ds.length m2.c3] 26)))
  have HC6 := Lib.hid (blk_below HC5.out (below_alloc (Below.refl _ _) (.cells #[.bool true, .slice m2.A1 m2.xs.length m2.c1, .slice m2.A2 m2.ks.length m2.c2, .slice m2.A3 m2.ds.length m2.c3] 26)))
  have HB6 := Lib.hid (below_then HB5.out HB5.out.size (below_alloc (Below.refl _ _) (.cells #[.bool true, .slice m2.A1 m2.xs.length m2.c1, .slice m2.A2 m2.ks.length m2.c2, .slice m2.A3 m2.ds.length m2.c3] 26)))
  clear HT5 HC5 HB5 HO5
  generalize w5.alloc (.cells #[.bool true, .slice m2.A1 m2.xs.length m2.c1, .slice m2.A2 m2.ks.length m2.c2, .slice m2.A3 m2.ds.length m2.c3] 26) = w6 at HM6 HT6 HC6 HB6 ⊢
  generalize w5.heap.size = g5 at HM6 ⊢
  have HO6 := Lib.hid (show m2.ok w6 from HM6.out.2)
  have mx0 := (blk_cell HM6.out.1 0).trans rfl; have mx1 := (blk_cell HM6.out.1 1).trans rfl; have mx2 := (blk_cell HM6.out.1 2).trans rfl; have mx3 := (blk_cell HM6.out.1 3).trans rfl; have cx0 := (blk_cell HC6.out 0).trans rfl; have cx1 := (blk_cell HC6.out 1).trans rfl; have cx2 := (blk_cell HC6.out 2).trans rfl; have cx3 := (blk_cell HC6.out 3).trans rfl
  go_upto_region 7 with (first
    | (go_at_call 19
       (with_reducible refine (nv_findT cc.f0 HO6.out HM2.out.1 HRi2.out (by have := HN2.out; have := HMl.out; have := hmn.out; omega) A.length true HP2.out HH2.out).mono ?_)
       rintro e w7 ⟨rfl, hb7⟩
       have HM7 := Lib.hid (NV.atT_below HM6.out hb7)
       have HT7 := Lib.hid (NV.atT_below HT6.out hb7)
       have HC7 := Lib.hid (blk_below HC6.out hb7)
       have HB7 := Lib.hid (below_then HB6.out HB6.out.size hb7)
       clear hb7 mx0 mx1 mx2 mx3 cx0 cx1 cx2 cx3
       have mx0 := (blk_cell HM7.out.1 0).trans rfl; have mx1 := (blk_cell HM7.out.1 1).trans rfl; have mx2 := (blk_cell HM7.out.1 2).trans rfl; have mx3 := (blk_cell HM7.out.1 3).trans rfl; have cx0 := (blk_cell HC7.out 0).trans rfl; have cx1 := (blk_cell HC7.out 1).trans rfl; have cx2 := (blk_cell HC7.out 2).trans rfl; have cx3 := (blk_cell HC7.out 3).trans rfl))
  have hrd : rd_T43 m2.xs (A.length : Int) = cc := by
    rw [rd_at _ A.length (by rw [HN2.out]; omega)]
    have := HE2.out
    simp [this]
  obtain ⟨ad, he, x0, x1, x2, x3⟩ := at_T43 HM7.out.2.r1 (A.length : Int) (by omega) (by have := HN2.out; omega)
  rw [hrd] at x0 x1 x2 x3
  simp only [Int.toNat_natCast] at x0 x1 x2 x3
  have hi0 : (0 : Int) ≤ (A.length : Int) := by omega
  have hi1 : (A.length : Int) < (m2.xs.length : Int) := by have := HN2.out; omega
  clear hrd HM6 HT6 HC6 HB6 HO6
  go_quiet (fail)
  have HM8 := Lib.hid (NV.atT_below HM7.out (pw_below_drewN (Below.refl _ _) nq))
  have HT8 := Lib.hid (NV.atT_below HT7.out (pw_below_drewN (Below.refl _ _) nq))
  have HC8 := Lib.hid (blk_below HC7.out (pw_below_drewN (Below.refl _ _) nq))
  have HB8 := Lib.hid (below_then HB7.out HB7.out.size (pw_below_drewN (Below.refl _ _) nq))
  clear HM7 HT7 HC7 HB7 he x0 x1 x2 x3 mx0 mx1 mx2 mx3 cx0 cx1 cx2 cx3 hi0 hi1
  generalize w7.drewN nq = w8 at HM8 HT8 HC8 HB8 ⊢
  have HO8 := Lib.hid (show m2.ok w8 from HM8.out.2)
  have mx0 := (blk_cell HM8.out.1 0).trans rfl; have mx1 := (blk_cell HM8.out.1 1).trans rfl; have mx2 := (blk_cell HM8.out.1 2).trans rfl; have mx3 := (blk_cell HM8.out.1 3).trans rfl; have cx0 := (blk_cell HC8.out 0).trans rfl; have cx1 := (blk_cell HC8.out 1).trans rfl; have cx2 := (blk_cell HC8.out 2).trans rfl; have cx3 := (blk_cell HC8.out 3).trans rfl
  go_upto_region 10 with (first
    | (go_at_call 20
       (with_reducible refine (nv_cutT A.length HO8.out HM2.out.1 (by have := HN2.out; omega) (by have := HN2.out; have := HMl.out; have := hmn.out; omega)).mono ?_)
       rintro e w9 ⟨o, rfl, HO, ho9, hb9⟩
       have HO9 := Lib.hid ho9
       have HM9 := Lib.hid (NV.atT_below HM8.out hb9)
       have HT9 := Lib.hid (NV.atT_below HT8.out hb9)
       have HC9 := Lib.hid (blk_below HC8.out hb9)
       have HB9 := Lib.hid (below_then HB8.out HB8.out.size hb9)
       clear ho9 hb9 mx0 mx1 mx2 mx3 cx0 cx1 cx2 cx3))
  have HEo := Lib.hid (show o.xs = A ++ B by rw [HO.out.2.1, HE2.out]; simp)
  have HNo := Lib.hid (show o.xs.length = A.length + B.length by rw [HEo.out]; simp)
  have HG10 : Hid (o.atT (w9.alloc (.cells #[.bool true, .slice o.A1 o.xs.length o.c1, .slice o.A2 o.ks.length o.c2, .slice o.A3 o.ds.length o.c3] 26)) w9.heap.size) := Lib.hid ⟨heap_alloc_new _ _, NV.ok_below HO9.out (below_alloc (Below.refl _ _) _)⟩
  have HM10 := Lib.hid (NV.atT_below HM9.out (below_alloc (Below.refl _ _) (.cells #[.bool true, .slice o.A1 o.xs.length o.c1, .slice o.A2 o.ks.length o.c2, .slice o.A3 o.ds.length o.c3] 26)))
  have HT10 := Lib.hid (NV.atT_below HT9.out (below_alloc (Below.refl _ _) (.cells #[.bool true, .slice o.A1 o.xs.length o.c1, .slice o.A2 o.ks.length o.c2, .slice o.A3 o.ds.length o.c3] 26)))
  have HC10 := Lib.hid (blk_below HC9.out (below_alloc (Below.refl _ _) (.cells #[.bool true, .slice o.A1 o.xs.length o.c1, .slice o.A2 o.ks.length o.c2, .slice o.A3 o.ds.length o.c3] 26)))
  have HB10 := Lib.hid (below_then HB9.out HB9.out.size (below_alloc (Below.refl _ _) (.cells #[.bool true, .slice o.A1 o.xs.length o.c1, .slice o.A2 o.ks.length o.c2, .slice o.A3 o.ds.length o.c3] 26)))
  clear HM9 HT9 HC9 HB9 HO9 HM8 HT8 HC8 HB8 HO8
  generalize w9.alloc (.cells #[.bool true, .slice o.A1 o.xs.length o.c1, .slice o.A2 o.ks.length o.c2, .slice o.A3 o.ds.length o.c3] 26) = w10 at HG10 HM10 HT10 HC10 HB10 ⊢
  generalize w9.heap.size = g9 at HG10 ⊢
  have HOo := Lib.hid (show o.ok w10 from HG10.out.2)
  have HOm := Lib.hid (show m.ok w10 from HT10.out.2)
  have HPo : Hid (posK o.xs cc.f0 = posK o.xs cc.f0) := Lib.hid rfl
  have HHo := Lib.hid (show hasK o.xs cc.f0 = false by rw [HEo.out]; exact Q10.out)
  have HRo := Lib.hid (show Rise o.xs by rw [HEo.out]; exact Q9.out)
  obtain ⟨hd, hhd⟩ : ∃ b, b = hasK m.xs cc.f0 := ⟨_, rfl⟩
  have HHD := Lib.hid hhd
  clear hhd
  have ox0 := (blk_cell HG10.out.1 0).trans rfl; have ox1 := (blk_cell HG10.out.1 1).trans rfl; have ox2 := (blk_cell HG10.out.1 2).trans rfl; have ox3 := (blk_cell HG10.out.1 3).trans rfl; have cx0 := (blk_cell HC10.out 0).trans rfl; have cx1 := (blk_cell HC10.out 1).trans rfl; have cx2 := (blk_cell HC10.out 2).trans rfl; have cx3 := (blk_cell HC10.out 3).trans rfl
  go_upto_region 14 with (first
    | (go_at_call 19
       (with_reducible refine (nv_findT cc.f0 HOo.out HO.out.1 HRo.out (by have := HNo.out; have := HMl.out; have := hmn.out; omega) _ false HPo.out HHo.out).mono ?_)
       rintro e w11 ⟨rfl, hb11⟩
       have HG11 := Lib.hid (NV.atT_below HG10.out hb11)
       have HM11 := Lib.hid (NV.atT_below HM10.out hb11)
       have HT11 := Lib.hid (NV.atT_below HT10.out hb11)
       have HO11 := Lib.hid (show m.ok w11 from HT11.out.2)
       have HC11 := Lib.hid (blk_below HC10.out hb11)
       have HB11 := Lib.hid (below_then HB10.out HB10.out.size hb11)
       clear hb11 ox0 ox1 ox2 ox3 cx0 cx1 cx2 cx3
       have tx0 := (blk_cell HT11.out.1 0).trans rfl; have tx1 := (blk_cell HT11.out.1 1).trans rfl; have tx2 := (blk_cell HT11.out.1 2).trans rfl; have tx3 := (blk_cell HT11.out.1 3).trans rfl; have cx0 := (blk_cell HC11.out 0).trans rfl; have cx1 := (blk_cell HC11.out 1).trans rfl; have cx2 := (blk_cell HC11.out 2).trans rfl; have cx3 := (blk_cell HC11.out 3).trans rfl)
    | (go_at_call 19
       (with_reducible refine (nv_findT cc.f0 HO11.out HLF.out HRise.out (by have := hmn.out; omega) _ hd rfl HHD.out.symm).mono ?_)
       rintro e w12 ⟨rfl, hb12⟩
       have HG12 := Lib.hid (NV.atT_below HG11.out hb12)
       have HM12 := Lib.hid (NV.atT_below HM11.out hb12)
       have HT12 := Lib.hid (NV.atT_below HT11.out hb12)
       have HB12 := Lib.hid (below_then HB11.out HB11.out.size hb12)
       clear hb12 tx0 tx1 tx2 tx3 cx0 cx1 cx2 cx3
       have tx0 := (blk_cell HT12.out.1 0).trans rfl; have tx1 := (blk_cell HT12.out.1 1).trans rfl; have tx2 := (blk_cell HT12.out.1 2).trans rfl; have tx3 := (blk_cell HT12.out.1 3).trans rfl; have ox0 := (blk_cell HG12.out.1 0).trans rfl; have ox1 := (blk_cell HG12.out.1 1).trans rfl; have ox2 := (blk_cell HG12.out.1 2).trans rfl; have ox3 := (blk_cell HG12.out.1 3).trans rfl; have mx0 := (blk_cell HM12.out.1 0).trans rfl; have mx1 := (blk_cell HM12.out.1 1).trans rfl; have mx2 := (blk_cell HM12.out.1 2).trans rfl; have mx3 := (blk_cell HM12.out.1 3).trans rfl))
  have hx : m.xs.length ≤ 1000 := hmn.out
  cases hd
  · have hM : M.length = 0 := by have := Q4.out; rw [← HHD.out, if_neg (by decide)] at this; exact this
    have hlen : (m2.xs.length : Int) = (m.xs.length : Int) + 1 := by have := HN2.out; have := HMl.out; omega
    have HS1 := Lib.hid (show o.xs = m.xs by rw [HEo.out, Q1.out, List.eq_nil_of_length_eq_zero hM]; simp)
    have HS2 := Lib.hid (show o.ks = m.ks from HO.out.2.2.1.trans HM2.out.2.2.1)
    have HS3 := Lib.hid (show o.ds = m.ds from HO.out.2.2.2.trans HM2.out.2.2.2)
    have HOo12 := Lib.hid (show o.ok w12 from HG12.out.2)
    have HOm12 := Lib.hid (show m.ok w12 from HT12.out.2)
    have hw1 : IntKind.i64.wrap ((m.xs.length : Int) + 1) = (m.xs.length : Int) + 1 := IntWalk.i64_in _ (by omega)
    have hw2 : wrap64 ((m.xs.length : Int) + 1) = (m.xs.length : Int) + 1 := (i64_w _).symm.trans hw1
    clear hM hx
    go_wp2_with (first
      | (go_at_call 13
         (with_reducible refine (nv_sameT HOo12.out HOm12.out HO.out.1 HS1.out HS2.out HS3.out HLF.out HK.out).mono ?_)
         rintro e w13 ⟨rfl, hb13⟩
         have HM13 := Lib.hid (NV.atT_below HM12.out hb13)
         have HT13 := Lib.hid (NV.atT_below HT12.out hb13)
         have HB13 := Lib.hid (below_then HB12.out HB12.out.size hb13)
         clear hb13 tx0 tx1 tx2 tx3 ox0 ox1 ox2 ox3 mx0 mx1 mx2 mx3
         have tx0 := (blk_cell HT13.out.1 0).trans rfl; have tx1 := (blk_cell HT13.out.1 1).trans rfl; have tx2 := (blk_cell HT13.out.1 2).trans rfl; have tx3 := (blk_cell HT13.out.1 3).trans rfl; have mx0 := (blk_cell HM13.out.1 0).trans rfl; have mx1 := (blk_cell HM13.out.1 1).trans rfl; have mx2 := (blk_cell HM13.out.1 2).trans rfl; have mx3 := (blk_cell HM13.out.1 3).trans rfl)
      | (go_at_call 14; (with_reducible refine (HV.out _).mono ?_); rintro e w9 ⟨rfl, hb9⟩; have HB9 := Lib.hid (below_then HB13.out HB13.out.size hb9); clear hb9))
    go_ret
    exact ⟨rfl, HB9.out⟩
  · have hM : M.length = 1 := by have := Q4.out; rw [← HHD.out, if_pos rfl] at this; exact this
    have hlen : (m2.xs.length : Int) = (m.xs.length : Int) := by have := HN2.out; have := HMl.out; omega
    have hw1 : IntKind.i64.wrap ((m.xs.length : Int) - 1) = (o.xs.length : Int) := (IntWalk.i64_in _ (by omega)).trans (by have := HNo.out; have := HMl.out; omega)
    have hw2 : wrap64 ((m.xs.length : Int) - 1) = (o.xs.length : Int) := (i64_w _).symm.trans hw1
    clear hM hx
    go_wp2_with (first | (go_at_call 14; (with_reducible refine (HV.out _).mono ?_); rintro e w9 ⟨rfl, hb9⟩; have HB9 := Lib.hid (below_then HB12.out HB12.out.size hb9); clear hb9))
    go_ret
    exact ⟨rfl, HB9.out⟩
end Go.Proofs.Ytbkcoddcgfclaaa.SP
