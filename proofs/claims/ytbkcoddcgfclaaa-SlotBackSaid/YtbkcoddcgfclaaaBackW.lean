/- The law SlotBack's walk. -/
import Derived.Test.YtbkcoddcgfclaaaDecW
import Derived.Test.YtbkcoddcgfclaaaSlotSize
import Derived.IntWalk
set_option linter.unusedSimpArgs false
set_option linter.unusedVariables false
namespace Go.Proofs.Ytbkcoddcgfclaaa.SP
open Go.Proofs.Ytbkcoddcgfclaaa.MSlot Go.RowKit Go.Proofs.Ytbkcoddcgfclaaa.Ext Go.Proofs.YtbkcoddcgfclaaaW.PrintWords Go.Proofs.YtbkcoddcgfclaaaW.PrintLast Go.Proofs.YtbkcoddcgfclaaaW.PrintMore

theorem encB_len : ∀ (keys : List ByteArray) (kids : List Int), kids.length = keys.length → (encB keys kids).length = sumK keys
  | [], [], _ => rfl
  | [], _ :: _, h => by simp at h
  | _ :: _, [], h => by simp at h
  | k :: keys, n :: kids, h => by
    have ih := encB_len keys kids (by simpa using h)
    unfold sumK at ih ⊢
    rw [encB, List.length_append, List.length_append, textL_len, fourL_len, ih]
    simp
    omega
theorem flat_encC : ∀ (cells : List S43), (cells.flatMap encC).length = sumC cells
  | [] => rfl
  | c :: cells => by
    have ih := flat_encC cells
    unfold sumC at ih ⊢
    rw [List.flatMap_cons, List.length_append, encC_len, ih]
    simp
theorem encU_len {leaf : Bool} {cells : List S43} {keys : List ByteArray} {kids : List Int} (h : checkB leaf cells keys kids = true) : (encU leaf cells keys kids).length = sizeN leaf cells keys := by
  obtain ⟨n1, n2, n3, n4, n5, n6⟩ := check_parts h
  unfold shapeB at n3
  unfold encU encN sizeN
  rw [List.length_map]
  cases leaf
  · simp only [Bool.false_eq_true, if_false, Bool.and_eq_true, decide_eq_true_eq] at n3 ⊢
    obtain ⟨m1, m2⟩ := n3
    have hc := List.eq_nil_of_length_eq_zero m1
    rw [List.length_append, List.length_append, fourL_len, encB_len _ _ (by rw [List.length_drop]; omega), hc]
    simp [sumC]
    try omega
  · simp only [if_true, Bool.and_eq_true, decide_eq_true_eq] at n3 ⊢
    have hk := List.eq_nil_of_length_eq_zero n3.1
    rw [List.length_append, flat_encC, hk]
    simp [sumK]
    try omega
/-- What Encode says: refused for one of two reasons, or the bytes. -/
theorem enc_says2 (leaf : Bool) (xs : List S43) (ks : List ByteArray) (ds : List Int) : (checkB leaf xs ks ds = false ∧ encodeN leaf xs ks ds = (⟨#[]⟩, 2)) ∨ (checkB leaf xs ks ds = true ∧ 500 < sizeN leaf xs ks ∧ encodeN leaf xs ks ds = (⟨#[]⟩, 3)) ∨ (checkB leaf xs ks ds = true ∧ sizeN leaf xs ks ≤ 500 ∧ encodeN leaf xs ks ds = (ofL (encU leaf xs ks ds), 0)) := by
  unfold encodeN
  by_cases h : checkB leaf xs ks ds = true
  · rw [if_pos h]
    by_cases h2 : 500 < sizeN leaf xs ks
    · rw [if_pos h2]; exact .inr (.inl ⟨h, h2, rfl⟩)
    · rw [if_neg h2]; exact .inr (.inr ⟨h, by omega, rfl⟩)
  · rw [if_neg h]; exact .inl ⟨by simpa using h, rfl⟩
def DecSays (l : List UInt8) (m : NV) (r : Int) : Prop := (r = 0 ∧ l.length ≤ 500 ∧ (decN l).good = true ∧ m.leaf = (decN l).leaf ∧ m.xs = (decN l).xs ∧ m.ks = (decN l).ks ∧ m.ds = (decN l).ds) ∨ (r = 5 ∧ ¬ (l.length ≤ 500 ∧ (decN l).good = true))
theorem dec_back {leaf : Bool} {xs : List S43} {ks : List ByteArray} {ds : List Int} (hc : checkB leaf xs ks ds = true) (hs : (encU leaf xs ks ds).length ≤ 500) {d : NV} {r : Int} (h : DecSays (encU leaf xs ks ds) d r) : r = 0 ∧ d.leaf = leaf ∧ d.xs = xs ∧ d.ks = ks ∧ d.ds = ds := by
  obtain ⟨g1, g2⟩ := good_enc hc
  rcases h with ⟨h1, _, _, h4, h5, h6, h7⟩ | ⟨_, h⟩
  · rw [g2] at h4 h5 h6 h7
    refine ⟨h1, h4.trans ?_, h5, h6, h7⟩
    unfold DN.leaf
    cases leaf <;> rfl
  · exact absurd ⟨hs, g1⟩ h
theorem dec_fail {l : List UInt8} (hg : (decN l).good = false) {d : NV} {r : Int} (h : DecSays l d r) : r = 5 := by
  rcases h with ⟨_, _, h, _⟩ | ⟨h, _⟩
  · rw [hg] at h; cases h
  · exact h
/-- Decode, in a law: what it says of the bytes, and that it is told by DecSays. -/
theorem decode_says (l : List UInt8) (w : World) (hl : l.length ≤ 1000000) : Calls Try.prog 21 #[.string (ofL l)] w fun e w' => ∃ (m : NV) (r : Int), e = .returned (.tuple #[m.val, .int .i64 r]) ∧ m.ok w' ∧ Below w.heap.size w w' ∧ DecSays l m r := decode_call l w hl
/-- Where the law cuts. -/
def cutAt (ct S : Int) : Int := Int.tmod (Int.tmod ct S + S) S
theorem cut_rng (ct S : Int) (h : 0 < S) (h5 : S ≤ 500) : -S < Int.tmod ct S ∧ Int.tmod ct S < S ∧ 0 ≤ cutAt ct S ∧ cutAt ct S < S := by
  have h1 : Int.tmod ct S < S := Int.tmod_lt_of_pos _ h
  have h2 : -S < Int.tmod ct S := by
    rcases Int.le_total 0 ct with h0 | h0
    · have := Int.tmod_nonneg S h0; omega
    · have h3 := Int.tmod_lt_of_pos (-ct) h
      rw [Int.neg_tmod] at h3
      omega
  refine ⟨h2, h1, Int.tmod_nonneg S (by omega), Int.tmod_lt_of_pos _ h⟩
set_option maxHeartbeats 4000000 in
set_option maxRecDepth 100000 in
theorem back_walk (hworks : ∀ W : World, Calls Try.prog 14 #[] W fun e w' => e = .returned (.bool true) ∧ Below W.heap.size W w') (n : NV) (ct : Int) (w : World) (hn : n.ok w) (hc0 : -9223372036854775808 ≤ ct) (hc1 : ct ≤ 9223372036854775807) :
    Calls Try.prog 7 #[.agg #[.bool n.leaf, .slice n.A1 n.xs.length n.c1, .slice n.A2 n.ks.length n.c2, .slice n.A3 n.ds.length n.c3], .int .i64 ct] w fun e w' => e = .returned (.bool true) ∧ Below w.heap.size w w' := by
  have HN := Lib.hid hn
  have HV := Lib.hid hworks
  have HN0 := Lib.hid (NV.ok_below HN.out (below_alloc (Below.refl w.heap.size w) (.cells #[.bool n.leaf, .slice n.A1 n.xs.length n.c1, .slice n.A2 n.ks.length n.c2, .slice n.A3 n.ds.length n.c3] 26)))
  have HX0 := Lib.hid (heap_alloc_new w (.cells #[.bool n.leaf, .slice n.A1 n.xs.length n.c1, .slice n.A2 n.ks.length n.c2, .slice n.A3 n.ds.length n.c3] 26))
  have HB0 := Lib.hid (below_alloc (Below.refl w.heap.size w) (.cells #[.bool n.leaf, .slice n.A1 n.xs.length n.c1, .slice n.A2 n.ks.length n.c2, .slice n.A3 n.ds.length n.c3] 26))
  clear hn hworks
  go_enter Try.func7, Try.ntmps7
  go_upto_region 2 with (first
    | (go_at_call 8
       (with_reducible refine (nv_few HN0.out).mono ?_)
       rintro e w1 ⟨m, rfl, HM1, hm, hb1⟩
       have HM := Lib.hid hm
       have HX1 := Lib.hid (blk_below HX0.out hb1)
       have HB1 := Lib.hid (below_then HB0.out HB0.out.size hb1)
       have bx0 := (blk_cell HX1.out 0).trans rfl
       have bx1 := (blk_cell HX1.out 1).trans rfl
       have bx2 := (blk_cell HX1.out 2).trans rfl
       have bx3 := (blk_cell HX1.out 3).trans rfl
       have fx0 := blk_frozen HX1.out 0
       have fx1 := blk_frozen HX1.out 1
       have fx2 := blk_frozen HX1.out 2
       have fx3 := blk_frozen HX1.out 3
       clear hm hb1))
  have HA3 : Hid (m.at (put4 w1 w.heap.size m) w.heap.size) := Lib.hid ⟨put4_at HX1.out, HM.out _ (fun k hk => put4_ne (by simp at hk; omega))⟩
  have HB3 : Hid (Below w.heap.size w (put4 w1 w.heap.size m)) := Lib.hid (put4_below (Nat.le_refl _) HB1.out)
  change Code.wp _ _ _ _ (put4 w1 w.heap.size m)
  clear bx0 bx1 bx2 bx3 fx0 fx1 fx2 fx3 HX0 HX1 HM HN0 HB0 HB1
  generalize put4 w1 w.heap.size m = w3 at HA3 HB3 ⊢
  have hsm := Lib.hid (show small m.xs m.ks = true from HM1.out.2.1 ▸ HM1.out.2.2.1 ▸ few_small n.xs n.ks)
  have hsd := Lib.hid (show m.ds.length ≤ 1000 by rw [HM1.out.2.2.2, List.length_take]; omega)
  have hmm := Lib.hid (show mild m.xs m.ks m.ds = true from mild_small hsm.out (by have := hsd.out; omega))
  have HO3 := Lib.hid (show m.ok w3 from HA3.out.2)
  clear hsm hsd HM1
  have bx0 := (blk_cell HA3.out.1 0).trans rfl; have bx1 := (blk_cell HA3.out.1 1).trans rfl; have bx2 := (blk_cell HA3.out.1 2).trans rfl; have bx3 := (blk_cell HA3.out.1 3).trans rfl
  rcases enc_says2 m.leaf m.xs m.ks m.ds with ⟨hck, henc⟩ | ⟨hck, hsz, henc⟩ | ⟨hck, hsz, henc⟩
  · have HEN := Lib.hid (show Calls Try.prog 17 #[.agg #[.bool m.leaf, .slice m.A1 m.xs.length m.c1, .slice m.A2 m.ks.length m.c2, .slice m.A3 m.ds.length m.c3]] w3 fun e w' => e = .returned (.tuple #[.string ⟨#[]⟩, .int .i64 2]) ∧ Below w3.heap.size w3 w' by have := nv_encode HO3.out hmm.out; rw [henc] at this; exact this)
    have HCK := Lib.hid (show (if checkB m.leaf m.xs m.ks m.ds = true then 0 else 2 : Int) = 2 by rw [hck]; rfl)
    clear hck henc
    go_wp2_with (first
      | (go_at_call 17
         (with_reducible refine HEN.out.mono ?_)
         rintro e w4 ⟨rfl, hb4⟩
         have HA4 := Lib.hid (NV.at_below HA3.out hb4)
         have HO4 := Lib.hid (show m.ok w4 from HA4.out.2)
         have HB4 := Lib.hid (below_then HB3.out HB3.out.size hb4)
         clear hb4 bx0 bx1 bx2 bx3
         have bx0 := (blk_cell HA4.out.1 0).trans rfl; have bx1 := (blk_cell HA4.out.1 1).trans rfl; have bx2 := (blk_cell HA4.out.1 2).trans rfl; have bx3 := (blk_cell HA4.out.1 3).trans rfl)
      | (go_at_call 15
         (with_reducible refine (nv_checks HO4.out hmm.out 2 HCK.out).mono ?_)
         rintro e w5 ⟨rfl, hb5⟩
         have HB5 := Lib.hid (below_then HB4.out HB4.out.size hb5)
         clear hb5)
      | (go_at_call 14; (with_reducible refine (HV.out _).mono ?_); rintro e w9 ⟨rfl, hb9⟩; have HB9 := Lib.hid (below_then HB5.out HB5.out.size hb9); clear hb9))
    go_ret
    exact ⟨rfl, HB9.out⟩
  · have HEN := Lib.hid (show Calls Try.prog 17 #[.agg #[.bool m.leaf, .slice m.A1 m.xs.length m.c1, .slice m.A2 m.ks.length m.c2, .slice m.A3 m.ds.length m.c3]] w3 fun e w' => e = .returned (.tuple #[.string ⟨#[]⟩, .int .i64 3]) ∧ Below w3.heap.size w3 w' by have := nv_encode HO3.out hmm.out; rw [henc] at this; exact this)
    have HCK := Lib.hid (show (if checkB m.leaf m.xs m.ks m.ds = true then 0 else 2 : Int) = 0 by rw [hck]; rfl)
    have HC := Lib.hid hck
    have hszi : 500 < (sizeN m.leaf m.xs m.ks : Int) := by omega
    have hszn : (sizeN m.leaf m.xs m.ks : Int) > 500 := by omega
    clear hck henc hsz
    go_wp2_with (first
      | (go_at_call 17
         (with_reducible refine HEN.out.mono ?_)
         rintro e w4 ⟨rfl, hb4⟩
         have HA4 := Lib.hid (NV.at_below HA3.out hb4)
         have HO4 := Lib.hid (show m.ok w4 from HA4.out.2)
         have HB4 := Lib.hid (below_then HB3.out HB3.out.size hb4)
         clear hb4 bx0 bx1 bx2 bx3
         have bx0 := (blk_cell HA4.out.1 0).trans rfl; have bx1 := (blk_cell HA4.out.1 1).trans rfl; have bx2 := (blk_cell HA4.out.1 2).trans rfl; have bx3 := (blk_cell HA4.out.1 3).trans rfl)
      | (go_at_call 15
         (with_reducible refine (nv_checks HO4.out hmm.out 0 HCK.out).mono ?_)
         rintro e w5 ⟨rfl, hb5⟩
         have HA5 := Lib.hid (NV.at_below HA4.out hb5)
         have HO5 := Lib.hid (show m.ok w5 from HA5.out.2)
         have HB5 := Lib.hid (below_then HB4.out HB4.out.size hb5)
         clear hb5 bx0 bx1 bx2 bx3
         have bx0 := (blk_cell HA5.out.1 0).trans rfl; have bx1 := (blk_cell HA5.out.1 1).trans rfl; have bx2 := (blk_cell HA5.out.1 2).trans rfl; have bx3 := (blk_cell HA5.out.1 3).trans rfl)
      | (go_at_call 16
         (with_reducible refine (nv_size HO5.out HC.out).mono ?_)
         rintro e w6 ⟨rfl, hb6⟩
         have HB6 := Lib.hid (below_then HB5.out HB5.out.size hb6)
         clear hb6)
      | (go_at_call 14; (with_reducible refine (HV.out _).mono ?_); rintro e w9 ⟨rfl, hb9⟩; have HB9 := Lib.hid (below_then HB6.out HB6.out.size hb9); clear hb9))
    go_ret
    exact ⟨rfl, HB9.out⟩
  · have HEN := Lib.hid (show Calls Try.prog 17 #[.agg #[.bool m.leaf, .slice m.A1 m.xs.length m.c1, .slice m.A2 m.ks.length m.c2, .slice m.A3 m.ds.length m.c3]] w3 fun e w' => e = .returned (.tuple #[.string (ofL (encU m.leaf m.xs m.ks m.ds)), .int .i64 0]) ∧ Below w3.heap.size w3 w' by have := nv_encode HO3.out hmm.out; rw [henc] at this; exact this)
    have HC := Lib.hid hck
    obtain ⟨L, hL⟩ : ∃ L, L = encU m.leaf m.xs m.ks m.ds := ⟨_, rfl⟩
    rw [← hL] at HEN
    have HL := Lib.hid hL
    have HSZ := Lib.hid (show L.length = sizeN m.leaf m.xs m.ks by rw [hL]; exact encU_len hck)
    have HL5 := Lib.hid (show L.length ≤ 500 by rw [HSZ.out]; exact hsz)
    have HL2 := Lib.hid (show 2 ≤ L.length by rw [HSZ.out]; unfold sizeN; omega)
    clear hck hsz henc hL
    have hz0 : (((ofL L).size : Int) == 0) = false := by rw [ofL_size]; exact beq_eq_false_iff_ne.2 (by have := HL2.out; omega)
    go_upto_region 7 with (first
      | (go_at_call 17
         (with_reducible refine HEN.out.mono ?_)
         rintro e w4 ⟨rfl, hb4⟩
         have HA4 := Lib.hid (NV.at_below HA3.out hb4)
         have HB4 := Lib.hid (below_then HB3.out HB3.out.size hb4)
         clear hb4 bx0 bx1 bx2 bx3))
    clear HEN HA3 HB3 HO3
    go_upto_region 8 with (first
      | (go_at_call 21
         (with_reducible refine (decode_says L _ (by have := HL5.out; omega)).mono ?_)
         rintro e w5 ⟨d, r, rfl, hd, hb5, hr⟩
         have hr2 := dec_back HC.out (by rw [← HL.out]; exact HL5.out) (show DecSays (encU m.leaf m.xs m.ks m.ds) d r by rw [← HL.out]; exact hr)
         obtain ⟨rfl, hr3⟩ := hr2
         have HDo := Lib.hid hd
         have HDe := Lib.hid hr3
         have HA5 := Lib.hid (NV.at_below HA4.out hb5)
         have HB5 := Lib.hid (below_then HB4.out HB4.out.size hb5)
         clear hd hr hr3 hb5))
    have HD6 : Hid (d.at (w5.alloc (.cells #[.bool d.leaf, .slice d.A1 d.xs.length d.c1, .slice d.A2 d.ks.length d.c2, .slice d.A3 d.ds.length d.c3] 26)) w5.heap.size) := Lib.hid ⟨heap_alloc_new _ _, NV.ok_below HDo.out (below_alloc (Below.refl _ _) _)⟩
    have HA6 := Lib.hid (NV.at_below HA5.out (below_alloc (Below.refl _ _) (.cells #[.bool d.leaf, .slice d.A1 d.xs.length d.c1, .slice d.A2 d.ks.length d.c2, .slice d.A3 d.ds.length d.c3] 26)))
    have HB6 := Lib.hid (below_alloc HB5.out (.cells #[.bool d.leaf, .slice d.A1 d.xs.length d.c1, .slice d.A2 d.ks.length d.c2, .slice d.A3 d.ds.length d.c3] 26))
    clear HA4 HB4 HA5 HB5 HDo
    generalize w5.alloc (.cells #[.bool d.leaf, .slice d.A1 d.xs.length d.c1, .slice d.A2 d.ks.length d.c2, .slice d.A3 d.ds.length d.c3] 26) = w6 at HD6 HA6 HB6 ⊢
    generalize w5.heap.size = g7 at HD6 ⊢
    obtain ⟨S, hS⟩ : ∃ S : Int, S = ((ofL L).size : Int) := ⟨_, rfl⟩
    have hSL : S = (L.length : Int) := hS.trans (by rw [ofL_size])
    have h0 : 0 < S := by have := HL2.out; omega
    have h5 : S ≤ 500 := by have := HL5.out; omega
    obtain ⟨r1, r2, r3, r4⟩ := cut_rng ct S h0 h5
    obtain ⟨q, hq⟩ : ∃ q : Nat, cutAt ct S = (q : Int) := ⟨(cutAt ct S).toNat, by omega⟩
    have Hq := Lib.hid (show q < L.length by omega)
    have hS0 : (S == 0) = false := beq_eq_false_iff_ne.2 (by omega)
    have hS1 : ¬ S = 0 := by omega
    have hq0 : (0 : Int) ≤ (q : Int) := by omega
    have hqs : (q : Int) ≤ S := by omega
    have hb1 : -9223372036854775808 ≤ Int.tmod ct S ∧ Int.tmod ct S ≤ 9223372036854775807 := by omega
    have hb2 : -9223372036854775808 ≤ Int.tmod ct S + S ∧ Int.tmod ct S + S ≤ 9223372036854775807 := by omega
    have hb3 : -9223372036854775808 ≤ (q : Int) ∧ (q : Int) ≤ 9223372036854775807 := by omega
    have hA1 : IntKind.i64.wrap (Int.tmod ct S) = Int.tmod ct S := IntWalk.i64_in _ hb1
    have hA2 : IntKind.i64.wrap (Int.tmod ct S + S) = Int.tmod ct S + S := IntWalk.i64_in _ hb2
    have hA3 : Int.tmod (Int.tmod ct S + S) S = (q : Int) := hq
    have hA4 : IntKind.i64.wrap (q : Int) = (q : Int) := IntWalk.i64_in _ hb3
    have hA5 : wrap64 (Int.tmod ct S) = Int.tmod ct S := (i64_w _).symm.trans hA1
    have hA6 : wrap64 (Int.tmod ct S + S) = Int.tmod ct S + S := (i64_w _).symm.trans hA2
    have hA7 : wrap64 (q : Int) = (q : Int) := (i64_w _).symm.trans hA4
    clear hq hSL r1 r2 r3 r4 h0 h5 hb1 hb2 hb3
    subst hS
    have hex : (ofL L).extract 0 q = ofL (L.take q) := ofL_take L q
    have HSZn := Lib.hid (show (sizeN m.leaf m.xs m.ks : Int) = ((ofL L).size : Int) by rw [ofL_size, HSZ.out])
    have HLt := Lib.hid (show (decN (L.take q)).good = false by have := bad_less HC.out q (by rw [← HL.out]; exact Hq.out); rw [← HL.out] at this; exact this)
    go_upto_region 9 with (first
      | (go_at_call 21
         (with_reducible refine (decode_says (L.take q) _ (by have := HL5.out; simp; omega)).mono ?_)
         rintro e w7 ⟨d2, r, rfl, hd, hb7, hr⟩
         obtain rfl := dec_fail HLt.out hr
         have HD7 := Lib.hid (NV.at_below HD6.out hb7)
         have HA7 := Lib.hid (NV.at_below HA6.out hb7)
         have HB7 := Lib.hid (below_then HB6.out HB6.out.size hb7)
         clear hd hr hb7))
    have HD8 := Lib.hid (NV.at_below HD7.out (below_alloc (Below.refl _ _) (.cells #[.bool d2.leaf, .slice d2.A1 d2.xs.length d2.c1, .slice d2.A2 d2.ks.length d2.c2, .slice d2.A3 d2.ds.length d2.c3] 26)))
    have HA8 := Lib.hid (NV.at_below HA7.out (below_alloc (Below.refl _ _) (.cells #[.bool d2.leaf, .slice d2.A1 d2.xs.length d2.c1, .slice d2.A2 d2.ks.length d2.c2, .slice d2.A3 d2.ds.length d2.c3] 26)))
    have HB8 := Lib.hid (below_alloc HB7.out (.cells #[.bool d2.leaf, .slice d2.A1 d2.xs.length d2.c1, .slice d2.A2 d2.ks.length d2.c2, .slice d2.A3 d2.ds.length d2.c3] 26))
    clear HD7 HA7 HB7 HD6 HA6 HB6 hA1 hA2 hA3 hA4 hA5 hA6 hA7 hS0 hS1 hq0 hqs hex HLt
    generalize w7.alloc (.cells #[.bool d2.leaf, .slice d2.A1 d2.xs.length d2.c1, .slice d2.A2 d2.ks.length d2.c2, .slice d2.A3 d2.ds.length d2.c3] 26) = w8 at HD8 HA8 HB8 ⊢
    generalize w7.heap.size = g9
    have HLm := Lib.hid (show (decN (L ++ [0])).good = false by have := bad_more HC.out [0] (by simp); rw [← HL.out] at this; exact this)
    have happ : ofL L ++ (⟨#[0]⟩ : ByteArray) = ofL (L ++ [0]) := by
      have h : (ofL L ++ (⟨#[0]⟩ : ByteArray)).data.toList = L ++ [0] := by simp [ofL]
      rw [← ofL_data (ofL L ++ (⟨#[0]⟩ : ByteArray)), h]
    have hsum : ¬ (9223372036854775807 < (ofL L).size + 1) := by rw [ofL_size]; have := HL5.out; omega
    go_upto_region 10 with (first
      | (go_at_call 21
         (with_reducible refine (decode_says (L ++ [0]) _ (by have := HL5.out; simp; omega)).mono ?_)
         rintro e w9 ⟨d3, r, rfl, hd, hb9, hr⟩
         obtain rfl := dec_fail HLm.out hr
         have HD9 := Lib.hid (NV.at_below HD8.out hb9)
         have HA9 := Lib.hid (NV.at_below HA8.out hb9)
         have HB9 := Lib.hid (below_then HB8.out HB8.out.size hb9)
         clear hd hr hb9))
    have HD10 := Lib.hid (NV.at_below HD9.out (below_alloc (Below.refl _ _) (.cells #[.bool d3.leaf, .slice d3.A1 d3.xs.length d3.c1, .slice d3.A2 d3.ks.length d3.c2, .slice d3.A3 d3.ds.length d3.c3] 26)))
    have HA10 := Lib.hid (NV.at_below HA9.out (below_alloc (Below.refl _ _) (.cells #[.bool d3.leaf, .slice d3.A1 d3.xs.length d3.c1, .slice d3.A2 d3.ks.length d3.c2, .slice d3.A3 d3.ds.length d3.c3] 26)))
    have HB10 := Lib.hid (below_alloc HB9.out (.cells #[.bool d3.leaf, .slice d3.A1 d3.xs.length d3.c1, .slice d3.A2 d3.ks.length d3.c2, .slice d3.A3 d3.ds.length d3.c3] 26))
    clear HD8 HA8 HB8 HD9 HA9 HB9 happ hsum HLm
    generalize w9.alloc (.cells #[.bool d3.leaf, .slice d3.A1 d3.xs.length d3.c1, .slice d3.A2 d3.ks.length d3.c2, .slice d3.A3 d3.ds.length d3.c3] 26) = w10 at HD10 HA10 HB10 ⊢
    generalize w9.heap.size = g11
    have HOm := Lib.hid (show m.ok w10 from HA10.out.2)
    have HOd := Lib.hid (show d.ok w10 from HD10.out.2)
    have HCd := Lib.hid (show checkB d.leaf d.xs d.ks d.ds = true by rw [HDe.out.1, HDe.out.2.1, HDe.out.2.2.1, HDe.out.2.2.2]; exact HC.out)
    have hsz := HSZn.out
    have bx0 := (blk_cell HA10.out.1 0).trans rfl; have bx1 := (blk_cell HA10.out.1 1).trans rfl; have bx2 := (blk_cell HA10.out.1 2).trans rfl; have bx3 := (blk_cell HA10.out.1 3).trans rfl; have dx0 := (blk_cell HD10.out.1 0).trans rfl; have dx1 := (blk_cell HD10.out.1 1).trans rfl; have dx2 := (blk_cell HD10.out.1 2).trans rfl; have dx3 := (blk_cell HD10.out.1 3).trans rfl
    go_wp2_with (first
      | (go_at_call 13
         (with_reducible refine (nv_same HOm.out HOd.out HDe.out.1.symm HDe.out.2.1.symm HDe.out.2.2.1.symm HDe.out.2.2.2.symm HCd.out).mono ?_)
         rintro e w11 ⟨rfl, hb11⟩
         have HA11 := Lib.hid (NV.at_below HA10.out hb11)
         have HO11 := Lib.hid (show m.ok w11 from HA11.out.2)
         have HB11 := Lib.hid (below_then HB10.out HB10.out.size hb11)
         clear hb11 bx0 bx1 bx2 bx3 dx0 dx1 dx2 dx3
         have bx0 := (blk_cell HA11.out.1 0).trans rfl; have bx1 := (blk_cell HA11.out.1 1).trans rfl; have bx2 := (blk_cell HA11.out.1 2).trans rfl; have bx3 := (blk_cell HA11.out.1 3).trans rfl)
      | (go_at_call 16
         (with_reducible refine (nv_size HO11.out HC.out).mono ?_)
         rintro e w12 ⟨rfl, hb12⟩
         have HB12 := Lib.hid (below_then HB11.out HB11.out.size hb12)
         clear hb12)
      | (go_at_call 14; (with_reducible refine (HV.out _).mono ?_); rintro e w9 ⟨rfl, hb9⟩; have HB9 := Lib.hid (below_then HB12.out HB12.out.size hb9); clear hb9))
    go_ret
    exact ⟨rfl, HB9.out⟩
end Go.Proofs.Ytbkcoddcgfclaaa.SP
