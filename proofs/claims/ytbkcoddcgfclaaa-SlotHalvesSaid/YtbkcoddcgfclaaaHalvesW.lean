/- The law SlotHalves' walk. -/
import Derived.Test.YtbkcoddcgfclaaaNVput
import Derived.Test.YtbkcoddcgfclaaaSlotBest
import Derived.IntWalk
set_option linter.unusedSimpArgs false
set_option linter.unusedVariables false
namespace Go.Proofs.Ytbkcoddcgfclaaa.SP
open Go.RowKit Go.Proofs.Ytbkcoddcgfclaaa.MSlot Go.Proofs.Ytbkcoddcgfclaaa.Ext Go.Proofs.YtbkcoddcgfclaaaW.PrintWords Go.Proofs.YtbkcoddcgfclaaaW.PrintLast Go.Proofs.YtbkcoddcgfclaaaW.PrintMore

theorem small_check {leaf : Bool} {xs : List S43} {ks : List ByteArray} {ds : List Int} (h : checkB leaf xs ks ds = true) : small xs ks = true := by
  obtain ⟨h1, h2, h3, h4, h5, h6⟩ := check_parts h
  unfold small
  simp only [Bool.and_eq_true, decide_eq_true_eq, List.all_eq_true]
  refine ⟨⟨⟨by omega, by omega⟩, fun c hc => ?_⟩, fun k hk => ?_⟩
  · have := cellB_size (adjC_all xs none h4 c hc)
    omega
  · have := keyB_size (adjK_all ks none h5 k hk)
    omega
theorem leaf_nil {xs : List S43} {ks : List ByteArray} {ds : List Int} (h : checkB true xs ks ds = true) : ks = [] ∧ ds = [] := by
  obtain ⟨h1, h2, h3, h4, h5, h6⟩ := check_parts h
  unfold shapeB at h3
  simp only [if_true, Bool.and_eq_true, decide_eq_true_eq] at h3
  exact ⟨List.eq_nil_of_length_eq_zero h3.1, List.eq_nil_of_length_eq_zero h3.2⟩
theorem nv_sizeT {v : NV} {W : World} (h : v.ok W) (hl : v.leaf = true) (hc : checkB true v.xs v.ks v.ds = true) (s : Nat) (hs : sizeN true v.xs v.ks = s) : Calls Try.prog 16 #[v.valT] W fun e w' => e = .returned (.int .i64 (s : Int)) ∧ Below W.heap.size W w' := by
  have := nv_size h (by rw [hl]; exact hc)
  rw [hl, hs] at this
  exact this
theorem nv_splitH {v : NV} {w : World} (h : v.ok w) (hl : v.leaf = true) (hk : v.ks = []) (hd : v.ds = []) (hc : checkB true v.xs [] [] = true) (c : Nat) (hb : bestP true v.xs [] [] = c) (h2 : 2 ≤ v.xs.length) :
    Calls Try.prog 9 #[v.valT] w fun e w' => ∃ (l r : NV) (key : ByteArray), e = .returned (.tuple #[l.valT, r.valT, .string key, .int .i64 0]) ∧ Hid (l.leaf = true ∧ l.xs = v.xs.take c ∧ l.ks = [] ∧ l.ds = []) ∧ Hid (r.leaf = true ∧ r.xs = v.xs.drop c ∧ r.ks = [] ∧ r.ds = []) ∧ l.ok w' ∧ r.ok w' ∧ Below w.heap.size w w' := by
  have hf := split_best true v.xs [] [] (small_check hc) hc (by unfold gapP allP; simp; omega) (allP true v.xs [] + 3) (Nat.le_refl _)
  unfold splitAt partP gapP allP at hf
  simp only [if_true, List.drop_zero, List.take_length, Nat.add_zero, hb] at hf
  have hS := MSb.slot_Split.calls _ true v.A1 v.c1 v.xs v.A2 v.c2 [] v.A3 v.c3 [] _ _ _ _ _ _ _ _ _ _ w h.r1 h.l1 (by have := h.r2; rw [hk] at this; exact this) (by simp) (by have := h.r3; rw [hd] at this; exact this) (by simp) hf
  have e : v.valT = .agg #[.bool true, .slice v.A1 v.xs.length v.c1, .slice v.A2 ([] : List ByteArray).length v.c2, .slice v.A3 ([] : List Int).length v.c3] := by unfold NV.valT; rw [hk, hd]
  rw [e]
  refine hS.mono ?_
  rintro e w' ⟨v1, v2, v3, v5, v6, v7, rfl, q1, q2, q3, q5, q6, q7, hb'⟩
  obtain ⟨l, m1, m2, m3, m4, rfl, rfl, rfl, hm⟩ := NV.of_R (leaf := true) q1 q2 q3
  obtain ⟨r, n1, n2, n3, n4, rfl, rfl, rfl, hn⟩ := NV.of_R (leaf := true) q5 q6 q7
  exact ⟨l, r, _, rfl, Lib.hid ⟨m1, m2, m3, m4⟩, Lib.hid ⟨n1, n2, n3, n4⟩, hm, hn, hb'⟩
theorem enc_ok {xs : List S43} (h : checkB true xs [] [] = true) (hs : sizeN true xs [] ≤ 500) : ∃ t, encodeN true xs [] [] = (t, 0) := by
  unfold encodeN
  rw [if_pos h, if_neg (by omega)]
  exact ⟨_, rfl⟩
/-- What Encode says of a node that may be looked at: one of three. -/
theorem enc_says (leaf : Bool) (xs : List S43) (ks : List ByteArray) (ds : List Int) : ∃ t r, encodeN leaf xs ks ds = (t, r) ∧ ((r = 0 ∧ checkB leaf xs ks ds = true ∧ sizeN leaf xs ks ≤ 500) ∨ r = 2 ∨ r = 3) := by
  unfold encodeN
  by_cases h : checkB leaf xs ks ds = true
  · rw [if_pos h]
    by_cases h2 : 500 < sizeN leaf xs ks
    · rw [if_pos h2]; exact ⟨_, _, rfl, .inr (.inr rfl)⟩
    · rw [if_neg h2]; exact ⟨_, _, rfl, .inl ⟨rfl, h, by omega⟩⟩
  · rw [if_neg h]; exact ⟨_, _, rfl, .inr (.inl rfl)⟩
set_option maxHeartbeats 4000000 in
set_option maxRecDepth 100000 in
theorem halves_walk (hworks : ∀ W : World, Calls Try.prog 14 #[] W fun e w' => e = .returned (.bool true) ∧ Below W.heap.size W w') (n : NV) (c : S43) (w : World) (hn : n.ok w) (hc0 : c.f0.size ≤ 140737488351232) (hc1 : c.f1.size ≤ 140737488351232) :
    Calls Try.prog 5 #[.agg #[.bool n.leaf, .slice n.A1 n.xs.length n.c1, .slice n.A2 n.ks.length n.c2, .slice n.A3 n.ds.length n.c3], .agg #[.string c.f0, .string c.f1, .int .i64 c.f2, .int .i64 c.f3]] w fun e w' => e = .returned (.bool true) ∧ Below w.heap.size w w' := by
  have HN := Lib.hid hn
  have HV := Lib.hid hworks
  have HC0 := Lib.hid hc0
  have HC1 := Lib.hid hc1
  have HJ0 := Lib.hid (J2.mk0 w (.cells #[.bool n.leaf, .slice n.A1 n.xs.length n.c1, .slice n.A2 n.ks.length n.c2, .slice n.A3 n.ds.length n.c3] 26) (.cells #[.string c.f0, .string c.f1, .int .i64 c.f2, .int .i64 c.f3] 43))
  have HN0 := Lib.hid (NV.ok_below HN.out HJ0.out.2.2.1)
  clear hn hworks hc0 hc1
  go_enter Try.func5, Try.ntmps5
  go_upto_region 2 with (first
    | (go_at_call 8
       (with_reducible refine (nv_few HN0.out).mono ?_)
       rintro e w1 ⟨m, rfl, HM1, hm, hb1⟩
       have HM := Lib.hid hm
       have HJ1 := Lib.hid (HJ0.out.below hb1)
       have bx0 := (blk_cell HJ1.out.1 0).trans rfl
       have bx1 := (blk_cell HJ1.out.1 1).trans rfl
       have bx2 := (blk_cell HJ1.out.1 2).trans rfl
       have bx3 := (blk_cell HJ1.out.1 3).trans rfl
       have fx0 := blk_frozen HJ1.out.1 0
       have fx1 := blk_frozen HJ1.out.1 1
       have fx2 := blk_frozen HJ1.out.1 2
       have fx3 := blk_frozen HJ1.out.1 3
       clear hm hb1))
  have HA3 : Hid (m.at (put4 w1 w.heap.size m) w.heap.size) := Lib.hid ⟨put4_at HJ1.out.1, HM.out _ (fun k hk => put4_ne (by simp at hk; omega))⟩
  have HC3 : Hid ((put4 w1 w.heap.size m).heap[w.heap.size + 1]? = some (.cells #[.string c.f0, .string c.f1, .int .i64 c.f2, .int .i64 c.f3] 43 (0, 0))) := Lib.hid ((put4_ne (by omega)).trans HJ1.out.2.1)
  have HB3 : Hid (Below w.heap.size w (put4 w1 w.heap.size m)) := Lib.hid (put4_below (Nat.le_refl _) HJ1.out.2.2.1)
  change Code.wp _ _ _ _ (put4 w1 w.heap.size m)
  clear bx0 bx1 bx2 bx3 fx0 fx1 fx2 fx3 HJ0 HJ1 HM
  generalize put4 w1 w.heap.size m = w3 at HA3 HC3 HB3 ⊢
  have hsm := Lib.hid (show small m.xs m.ks = true from HM1.out.2.1 ▸ HM1.out.2.2.1 ▸ few_small n.xs n.ks)
  have hsd := Lib.hid (show m.ds.length ≤ 1000 by rw [HM1.out.2.2.2, List.length_take]; omega)
  have hmm := Lib.hid (show mild m.xs m.ks m.ds = true from mild_small hsm.out (by have := hsd.out; omega))
  have hmn := Lib.hid (show m.xs.length ≤ 20 by rw [HM1.out.2.1]; unfold fewC; simp; omega)
  have HO3 := Lib.hid (show m.ok w3 from HA3.out.2)
  clear hsm hsd
  obtain ⟨t, r, henc, hr⟩ := enc_says m.leaf m.xs m.ks m.ds
  have HEN := Lib.hid (show Calls Try.prog 17 #[.agg #[.bool m.leaf, .slice m.A1 m.xs.length m.c1, .slice m.A2 m.ks.length m.c2, .slice m.A3 m.ds.length m.c3]] w3 fun e w' => e = .returned (.tuple #[.string t, .int .i64 r]) ∧ Below w3.heap.size w3 w' by have := nv_encode HO3.out hmm.out; rw [henc] at this; exact this)
  have bx0 := (blk_cell HA3.out.1 0).trans rfl; have bx1 := (blk_cell HA3.out.1 1).trans rfl; have bx2 := (blk_cell HA3.out.1 2).trans rfl; have bx3 := (blk_cell HA3.out.1 3).trans rfl
  go_upto_region 3 with (first
    | (go_at_call 17
       (with_reducible refine HEN.out.mono ?_)
       rintro e w4 ⟨rfl, hb4⟩
       have HA4 := Lib.hid (NV.at_below HA3.out hb4)
       have HC4 := Lib.hid (blk_below HC3.out hb4)
       have HB4 := Lib.hid (below_then HB3.out HB3.out.size hb4)
       clear hb4 bx0 bx1 bx2 bx3))
  clear HEN HA3 HC3 HB3 HO3
  rcases hr with ⟨rfl, hck, hsz⟩ | rfl | rfl
  rotate_left
  · go_wp2_with (first | (go_at_call 14; (with_reducible refine (HV.out _).mono ?_); rintro e w9 ⟨rfl, hb9⟩; have HB9 := Lib.hid (below_then HB4.out HB4.out.size hb9); clear hb9))
    go_ret
    exact ⟨rfl, HB9.out⟩
  · go_wp2_with (first | (go_at_call 14; (with_reducible refine (HV.out _).mono ?_); rintro e w9 ⟨rfl, hb9⟩; have HB9 := Lib.hid (below_then HB4.out HB4.out.size hb9); clear hb9))
    go_ret
    exact ⟨rfl, HB9.out⟩
  have HCK := Lib.hid hck
  have HSZ := Lib.hid hsz
  have HE0 := Lib.hid henc
  clear hck hsz henc
  cases hlf : m.leaf
  · have bx0 : w4.cell? ⟨w.heap.size, 0, none⟩ = some (.bool false) := by have := (blk_cell HA4.out.1 0).trans rfl; rw [hlf] at this; exact this
    clear hlf
    go_wp2_with (first | (go_at_call 14; (with_reducible refine (HV.out _).mono ?_); rintro e w9 ⟨rfl, hb9⟩; have HB9 := Lib.hid (below_then HB4.out HB4.out.size hb9); clear hb9))
    go_ret
    exact ⟨rfl, HB9.out⟩
  have HLF := Lib.hid hlf
  clear hlf
  have HK := Lib.hid (show checkB true m.xs m.ks m.ds = true by have := HCK.out; rw [HLF.out] at this; exact this)
  have HS := Lib.hid (show sizeN true m.xs m.ks ≤ 500 by have := HSZ.out; rw [HLF.out] at this; exact this)
  have HT4 := Lib.hid (NV.at_T HLF.out HA4.out)
  clear HCK HSZ HA4 HE0
  have HO4 := Lib.hid (show m.ok w4 from HT4.out.2)
  have HRise := Lib.hid (rise_adj (check_parts HK.out).2.2.2.1)
  have HNil := Lib.hid (leaf_nil HK.out)
  obtain ⟨A, M, B, q1, q2, q3, q4, q5, q6, q7, q8, q9, q10⟩ := put_parts m.xs c HRise.out
  have Q1 := Lib.hid q1
  have Q2 := Lib.hid q2
  clear q1 q2 q3 q4 q5 q6 q7 q8 q9 q10
  have bx0 := (blk_cell HT4.out.1 0).trans rfl; have bx1 := (blk_cell HT4.out.1 1).trans rfl; have bx2 := (blk_cell HT4.out.1 2).trans rfl; have bx3 := (blk_cell HT4.out.1 3).trans rfl; have cx0 := (blk_cell HC4.out 0).trans rfl; have cx1 := (blk_cell HC4.out 1).trans rfl; have cx2 := (blk_cell HC4.out 2).trans rfl; have cx3 := (blk_cell HC4.out 3).trans rfl
  go_upto_region 6 with (first
    | (go_at_call 18
       (with_reducible refine (nv_putT c HO4.out HLF.out HRise.out (by have := hmn.out; omega)).mono ?_)
       rintro e w5 ⟨m2, rfl, HM2, ho5, hb5⟩
       have HO5 := Lib.hid ho5
       have HB5 := Lib.hid (below_then HB4.out HB4.out.size hb5)
       clear hb5 ho5 bx0 bx1 bx2 bx3 cx0 cx1 cx2 cx3))
  have HE2 := Lib.hid (show m2.xs = A ++ c :: B from HM2.out.2.1.trans Q2.out)
  have HKs := Lib.hid (show m2.ks = [] from HM2.out.2.2.1.trans HNil.out.1)
  have HDs := Lib.hid (show m2.ds = [] from HM2.out.2.2.2.trans HNil.out.2)
  have HM6 : Hid (m2.atT (w5.alloc (.cells #[.bool true, .slice m2.A1 m2.xs.length m2.c1, .slice m2.A2 m2.ks.length m2.c2, .slice m2.A3 m2.ds.length m2.c3] 26)) w5.heap.size) := Lib.hid ⟨heap_alloc_new _ _, NV.ok_below HO5.out (below_alloc (Below.refl _ _) _)⟩
  have HB6 := Lib.hid (below_then HB5.out HB5.out.size (below_alloc (Below.refl _ _) (.cells #[.bool true, .slice m2.A1 m2.xs.length m2.c1, .slice m2.A2 m2.ks.length m2.c2, .slice m2.A3 m2.ds.length m2.c3] 26)))
  clear HT4 HC4 HB4 HO4 HB5 HO5
  generalize w5.alloc (.cells #[.bool true, .slice m2.A1 m2.xs.length m2.c1, .slice m2.A2 m2.ks.length m2.c2, .slice m2.A3 m2.ds.length m2.c3] 26) = w6 at HM6 HB6 ⊢
  generalize w5.heap.size = g5 at HM6 ⊢
  have HO6 := Lib.hid (show m2.ok w6 from HM6.out.2)
  have hmild := Lib.hid (show mild m2.xs m2.ks m2.ds = true by
    rw [HE2.out, HKs.out, HDs.out]
    have h1 : A.length + M.length + B.length ≤ 20 := by have := hmn.out; rw [Q1.out] at this; simp at this; omega
    have hz : ∀ x ∈ m.xs, x.f0.size ≤ 140 ∧ x.f1.size ≤ 157 := fun x hx => by have := cellB_size (adjC_all m.xs none (check_parts HK.out).2.2.2.1 x hx); omega
    unfold mild
    simp only [Bool.and_eq_true, decide_eq_true_eq, List.all_eq_true]
    refine ⟨⟨⟨by simp; omega, by simp⟩, by simp⟩, fun x hx => ?_⟩
    rcases List.mem_append.1 hx with hx | hx
    · have := hz x (by rw [Q1.out]; simp [hx]); omega
    · rcases List.mem_cons.1 hx with rfl | hx
      · have := HC0.out; have := HC1.out; omega
      · have := hz x (by rw [Q1.out]; simp [hx]); omega)
  have mx0 := (blk_cell HM6.out.1 0).trans rfl; have mx1 := (blk_cell HM6.out.1 1).trans rfl; have mx2 := (blk_cell HM6.out.1 2).trans rfl; have mx3 := (blk_cell HM6.out.1 3).trans rfl
  cases hc2 : checkB true m2.xs m2.ks m2.ds
  · have HR : Hid ((if checkB true m2.xs m2.ks m2.ds = true then 0 else 2 : Int) = 2) := Lib.hid (by rw [hc2]; rfl)
    clear hc2
    go_wp2_with (first
      | (go_at_call 15
         (with_reducible refine (nv_checksT HO6.out HM2.out.1 hmild.out 2 HR.out).mono ?_)
         rintro e w7 ⟨rfl, hb7⟩
         have HB7 := Lib.hid (below_then HB6.out HB6.out.size hb7)
         clear hb7)
      | (go_at_call 14; (with_reducible refine (HV.out _).mono ?_); rintro e w9 ⟨rfl, hb9⟩; have HB9 := Lib.hid (below_then HB7.out HB7.out.size hb9); clear hb9))
    go_ret
    exact ⟨rfl, HB9.out⟩
  have HC2 := Lib.hid hc2
  have HR : Hid ((if checkB true m2.xs m2.ks m2.ds = true then 0 else 2 : Int) = 0) := Lib.hid (by rw [hc2]; rfl)
  have HC20 := Lib.hid (show checkB true m2.xs [] [] = true by have h := HC2.out; rw [HKs.out, HDs.out] at h; exact h)
  clear hc2
  obtain ⟨sz, hsz⟩ : ∃ s, sizeN true m2.xs m2.ks = s := ⟨_, rfl⟩
  have HSz := Lib.hid hsz
  clear hsz
  go_upto_region 8 with (first
    | (go_at_call 15
       (with_reducible refine (nv_checksT HO6.out HM2.out.1 hmild.out 0 HR.out).mono ?_)
       rintro e w7 ⟨rfl, hb7⟩
       have HB7 := Lib.hid (below_then HB6.out HB6.out.size hb7)
       have HM7 := Lib.hid (NV.atT_below HM6.out hb7)
       have HO7 := Lib.hid (show m2.ok w7 from HM7.out.2)
       clear hb7 mx0 mx1 mx2 mx3
       have mx0 := (blk_cell HM7.out.1 0).trans rfl; have mx1 := (blk_cell HM7.out.1 1).trans rfl; have mx2 := (blk_cell HM7.out.1 2).trans rfl; have mx3 := (blk_cell HM7.out.1 3).trans rfl))
  by_cases hle : sz ≤ 500
  · have hle2 : (sz : Int) ≤ 500 := by omega
    obtain ⟨t2, ht2⟩ := enc_ok HC20.out (by rw [HKs.out] at HSz; rw [HSz.out]; exact hle)
    have HE2' := Lib.hid (show encodeN true m2.xs m2.ks m2.ds = (t2, 0) by rw [HKs.out, HDs.out]; exact ht2)
    clear ht2 hle
    go_wp2_with (first
      | (go_at_call 16
         (with_reducible refine (nv_sizeT HO7.out HM2.out.1 HC2.out sz HSz.out).mono ?_)
         rintro e w8 ⟨rfl, hb8⟩
         have HB8 := Lib.hid (below_then HB7.out HB7.out.size hb8)
         have HM8 := Lib.hid (NV.atT_below HM7.out hb8)
         have HO8 := Lib.hid (show m2.ok w8 from HM8.out.2)
         clear hb8 mx0 mx1 mx2 mx3
         have mx0 := (blk_cell HM8.out.1 0).trans rfl; have mx1 := (blk_cell HM8.out.1 1).trans rfl; have mx2 := (blk_cell HM8.out.1 2).trans rfl; have mx3 := (blk_cell HM8.out.1 3).trans rfl)
      | (go_at_call 17
         (with_reducible refine (nv_encodeT HO8.out HM2.out.1 hmild.out t2 0 HE2'.out).mono ?_)
         rintro e w10 ⟨rfl, hb10⟩
         have HB10 := Lib.hid (below_then HB8.out HB8.out.size hb10)
         clear hb10)
      | (go_at_call 14; (with_reducible refine (HV.out _).mono ?_); rintro e w9 ⟨rfl, hb9⟩; have HB9 := Lib.hid (below_then HB10.out HB10.out.size hb9); clear hb9))
    go_ret
    exact ⟨rfl, HB9.out⟩
  · have hle2 : ¬ (sz : Int) ≤ 500 := by omega
    have hsum : 498 < sumC m2.xs ∧ sumC m2.xs ≤ 658 := by
      have h1 := HSz.out
      rw [HKs.out] at h1
      have h2 := HS.out
      rw [HNil.out.1, Q1.out] at h2
      have hc := (cellB_size (adjC_all m2.xs none (check_parts HC20.out).2.2.2.1 c (by rw [HE2.out]; simp))).2.2.2
      have h3 : sumC m2.xs = sumC A + lenC c + sumC B := by rw [HE2.out, sumC_app]; unfold sumC; simp; omega
      have h4 : sumC (A ++ M ++ B) = sumC A + sumC M + sumC B := by rw [sumC_app, sumC_app]
      unfold sizeN at h1 h2
      simp only [sumK, List.map_nil, List.sum_nil, if_true] at h1 h2
      omega
    obtain ⟨k, k1, k2, k3, k4, k5, k6⟩ := halves m2.xs HC20.out hsum.1 hsum.2
    have HW := Lib.hid (whole_leaf HC20.out k k1 k2)
    have K3 := Lib.hid k3
    have K4 := Lib.hid k4
    obtain ⟨tl, htl⟩ := enc_ok HW.out.cl k5
    obtain ⟨tr, htr⟩ := enc_ok HW.out.cr k6
    have HTl := Lib.hid htl
    have HTr := Lib.hid htr
    have HCl := Lib.hid HW.out.cl
    have HCr := Lib.hid HW.out.cr
    clear hsum k3 k4 k5 k6 htl htr hle k1 k2
    go_upto_region 12 with (first
      | (go_at_call 16
         (with_reducible refine (nv_sizeT HO7.out HM2.out.1 HC2.out sz HSz.out).mono ?_)
         rintro e w8 ⟨rfl, hb8⟩
         have HB8 := Lib.hid (below_then HB7.out HB7.out.size hb8)
         have HM8 := Lib.hid (NV.atT_below HM7.out hb8)
         have HO8 := Lib.hid (show m2.ok w8 from HM8.out.2)
         clear hb8 mx0 mx1 mx2 mx3
         have mx0 := (blk_cell HM8.out.1 0).trans rfl; have mx1 := (blk_cell HM8.out.1 1).trans rfl; have mx2 := (blk_cell HM8.out.1 2).trans rfl; have mx3 := (blk_cell HM8.out.1 3).trans rfl)
      | (go_at_call 9
         (with_reducible refine (nv_splitH HO8.out HM2.out.1 HKs.out HDs.out HC20.out k K3.out K4.out).mono ?_)
         rintro e w10 ⟨l, r, key, rfl, HLl, HRr, hl, hr, hb10⟩
         have HLo := Lib.hid hl
         have HRo := Lib.hid hr
         have HB10 := Lib.hid (below_then HB8.out HB8.out.size hb10)
         clear hb10 hl hr mx0 mx1 mx2 mx3))
    have HX11 : Hid (l.atT ((w10.alloc (.cells #[.bool true, .slice l.A1 l.xs.length l.c1, .slice l.A2 l.ks.length l.c2, .slice l.A3 l.ds.length l.c3] 26)).alloc (.cells #[.bool true, .slice r.A1 r.xs.length r.c1, .slice r.A2 r.ks.length r.c2, .slice r.A3 r.ds.length r.c3] 26)) w10.heap.size) := Lib.hid ⟨blk_alloc (heap_alloc_new _ _) _, NV.ok_below HLo.out (below_alloc (below_alloc (Below.refl _ _) _) _)⟩
    have HY11 : Hid (r.atT ((w10.alloc (.cells #[.bool true, .slice l.A1 l.xs.length l.c1, .slice l.A2 l.ks.length l.c2, .slice l.A3 l.ds.length l.c3] 26)).alloc (.cells #[.bool true, .slice r.A1 r.xs.length r.c1, .slice r.A2 r.ks.length r.c2, .slice r.A3 r.ds.length r.c3] 26)) (w10.heap.size + 1)) := Lib.hid ⟨Ext.blk_newg (by simp), NV.ok_below HRo.out (below_alloc (below_alloc (Below.refl _ _) _) _)⟩
    have HB11 := Lib.hid (below_alloc (below_alloc HB10.out (.cells #[.bool true, .slice l.A1 l.xs.length l.c1, .slice l.A2 l.ks.length l.c2, .slice l.A3 l.ds.length l.c3] 26)) (.cells #[.bool true, .slice r.A1 r.xs.length r.c1, .slice r.A2 r.ks.length r.c2, .slice r.A3 r.ds.length r.c3] 26))
    clear HLo HRo HB10
    generalize (w10.alloc (.cells #[.bool true, .slice l.A1 l.xs.length l.c1, .slice l.A2 l.ks.length l.c2, .slice l.A3 l.ds.length l.c3] 26)).alloc (.cells #[.bool true, .slice r.A1 r.xs.length r.c1, .slice r.A2 r.ks.length r.c2, .slice r.A3 r.ds.length r.c3] 26) = w11 at HX11 HY11 HB11 ⊢
    generalize w10.heap.size = gl at HX11 HY11 ⊢
    have HLo := Lib.hid (show l.ok w11 from HX11.out.2)
    have HEl := Lib.hid (show encodeN true l.xs l.ks l.ds = (tl, 0) by rw [HLl.out.2.1, HLl.out.2.2.1, HLl.out.2.2.2]; exact HTl.out)
    have HEr := Lib.hid (show encodeN true r.xs r.ks r.ds = (tr, 0) by rw [HRr.out.2.1, HRr.out.2.2.1, HRr.out.2.2.2]; exact HTr.out)
    have HMl := Lib.hid (show mild l.xs l.ks l.ds = true by rw [HLl.out.2.1, HLl.out.2.2.1, HLl.out.2.2.2]; exact mild_check HCl.out)
    have HMr := Lib.hid (show mild r.xs r.ks r.ds = true by rw [HRr.out.2.1, HRr.out.2.2.1, HRr.out.2.2.2]; exact mild_check HCr.out)
    have lx0 := (blk_cell HX11.out.1 0).trans rfl; have lx1 := (blk_cell HX11.out.1 1).trans rfl; have lx2 := (blk_cell HX11.out.1 2).trans rfl; have lx3 := (blk_cell HX11.out.1 3).trans rfl
    go_wp2_with (first
      | (go_at_call 17
         (with_reducible refine (nv_encodeT HLo.out HLl.out.1 HMl.out tl 0 HEl.out).mono ?_)
         rintro e w12 ⟨rfl, hb12⟩
         have HB12 := Lib.hid (below_then HB11.out HB11.out.size hb12)
         have HY12 := Lib.hid (NV.atT_below HY11.out hb12)
         have HRo := Lib.hid (show r.ok w12 from HY12.out.2)
         clear hb12 lx0 lx1 lx2 lx3
         have rx0 := (blk_cell HY12.out.1 0).trans rfl; have rx1 := (blk_cell HY12.out.1 1).trans rfl; have rx2 := (blk_cell HY12.out.1 2).trans rfl; have rx3 := (blk_cell HY12.out.1 3).trans rfl)
      | (go_at_call 17
         (with_reducible refine (nv_encodeT HRo.out HRr.out.1 HMr.out tr 0 HEr.out).mono ?_)
         rintro e w13 ⟨rfl, hb13⟩
         have HB13 := Lib.hid (below_then HB12.out HB12.out.size hb13)
         clear hb13 rx0 rx1 rx2 rx3)
      | (go_at_call 14; (with_reducible refine (HV.out _).mono ?_); rintro e w9 ⟨rfl, hb9⟩; have HB9 := Lib.hid (below_then HB13.out HB13.out.size hb9); clear hb9))
    go_ret
    exact ⟨rfl, HB9.out⟩
end Go.Proofs.Ytbkcoddcgfclaaa.SP
