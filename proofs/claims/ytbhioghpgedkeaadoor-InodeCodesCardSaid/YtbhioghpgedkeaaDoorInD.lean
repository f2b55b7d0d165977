/- Contracts of the document's side, and of what tells. -/
import Derived.Test.YtbhioghpgedkeaaDoorInC
set_option linter.unusedSimpArgs false
set_option linter.unusedVariables false
namespace Go.Proofs.YtbhioghpgedkeaaDoor.IN
open Go.RowKit Go.Proofs.YtbhioghpgedkeaaDoor.MIt Go.Proofs.YtbhioghpgedkeaaDoorW.PrintWords Go.Proofs.YtbhioghpgedkeaaDoorW.PrintLast Go.Proofs.YtbhioghpgedkeaaDoorW.PrintMore

theorem st_call (x : Int) (b : Bool) (w : World) (hb : stB x = b) : Calls Tryd.prog 46 #[.int .i64 x] w fun e w' => e = .returned (.bool b) ∧ Drawn0 w w' := by
  unfold stB at hb
  cases h : decide (0 ≤ x)
  · rw [h] at hb
    subst hb
    go_enter Tryd.func46, Tryd.ntmps46
    go_wp2
    go_ret
    exact ⟨rfl, by repeat (first | exact Drawn0.refl _ | apply Drawn0.step)⟩
  · rw [h] at hb
    simp only [Bool.true_and] at hb
    go_enter Tryd.func46, Tryd.ntmps46
    go_wp2
    go_ret
    exact ⟨by first | rfl | (rw [← hb]; rfl), by repeat (first | exact Drawn0.refl _ | apply Drawn0.step)⟩
set_option maxHeartbeats 4000000 in
set_option maxRecDepth 100000 in
theorem rcheck_call (n : IV) (hn : n.s.length = 32) (w : World) : Calls Tryd.prog 28 #[.agg (ic n).toArray] w fun e w' => e = .returned (.int .i64 (code n)) ∧ Below w.heap.size w w' := by
  have hq := dir_eq n hn
  unfold dirL at hq
  have HL := Lib.hid hn
  clear hn
  cases h1 : (n.k == 1)
  rotate_left
  · have hk : (n.k == 2) = false := by rw [beq_iff_eq] at h1; rw [h1]; rfl
    cases hd : decide (n = dirI)
    · rw [hd] at hq
      have hf : code n = 2 := by unfold code okB fileB; rw [hd, hk]; rfl
      rw [hf]
      go_enter Tryd.func28, Tryd.ntmps28
      go_upto_region 1 with (first | ((with_reducible refine gate_dst (N := 1) rfl ?_); refine box_event ?hg (N := 1) ?hd (cs := (ic n).toArray) (t := 24) ?hr ?_; (case hd => rfl); (case hg => rfl); (case hr => first | (go_simp; done) | (go_simp; rfl)); intro g hg_ w1 hbox_ hb_; have HB := Lib.hid hbox_; have HBb := Lib.hid hb_; have HBg := Lib.hid hg_; clear hbox_ hb_ hg_))
      have c0 := isI.k HB.out
      go_wp2_with (first | ((with_reducible refine gate_dst (N := 6) rfl ?_); (try (refine gate_guard (by rfl) ?_; dsimp only)); refine wpList_load_row rfl 24 (.tmp 1) rfl g (by rfl) 24 (ic n).toArray (0, 0) _ HB.out Tryd.underlying24 rfl (by rw [List.size_toArray, ic_len HL.out]; kernel_rfl) ?_))
      go_ret
      exact ⟨rfl, HBb.out⟩
    · rw [hd] at hq
      have hf : code n = 0 := by unfold code okB; rw [hd]; rfl
      rw [hf]
      go_enter Tryd.func28, Tryd.ntmps28
      go_upto_region 1 with (first | ((with_reducible refine gate_dst (N := 1) rfl ?_); refine box_event ?hg (N := 1) ?hd (cs := (ic n).toArray) (t := 24) ?hr ?_; (case hd => rfl); (case hg => rfl); (case hr => first | (go_simp; done) | (go_simp; rfl)); intro g hg_ w1 hbox_ hb_; have HB := Lib.hid hbox_; have HBb := Lib.hid hb_; have HBg := Lib.hid hg_; clear hbox_ hb_ hg_))
      have c0 := isI.k HB.out
      go_wp2_with (first | ((with_reducible refine gate_dst (N := 6) rfl ?_); (try (refine gate_guard (by rfl) ?_; dsimp only)); refine wpList_load_row rfl 24 (.tmp 1) rfl g (by rfl) 24 (ic n).toArray (0, 0) _ HB.out Tryd.underlying24 rfl (by rw [List.size_toArray, ic_len HL.out]; kernel_rfl) ?_))
      go_ret
      exact ⟨rfl, HBb.out⟩
  have hd : decide (n = dirI) = false := by
    rw [decide_eq_false_iff_not]
    rintro rfl
    exact absurd h1 (by decide)
  clear hq
  have hc : code n = if fileB n = true then 0 else 2 := by unfold code okB; rw [hd]; rfl
  unfold fileB szB at hc
  cases hk : (n.k == 2)
  · have hf : code n = 2 := by rw [hc, hk]; rfl
    have hk' : (n.k != 2) = true := by unfold bne; rw [hk]; rfl
    rw [hf]
    clear hc hf hd
    go_enter Tryd.func28, Tryd.ntmps28
    go_upto_region 1 with (first | ((with_reducible refine gate_dst (N := 1) rfl ?_); refine box_event ?hg (N := 1) ?hd (cs := (ic n).toArray) (t := 24) ?hr ?_; (case hd => rfl); (case hg => rfl); (case hr => first | (go_simp; done) | (go_simp; rfl)); intro g hg_ w1 hbox_ hb_; have HB := Lib.hid hbox_; have HBb := Lib.hid hb_; have HBg := Lib.hid hg_; clear hbox_ hb_ hg_))
    have c0 := isI.k HB.out
    have c1 := isI.sz HB.out
    have c3 := isI.c HB.out HL.out
    have c4 := isI.v HB.out HL.out
    have c5 := isI.o HB.out HL.out
    go_wp2_with (first | (go_at_call 46; (with_reducible refine (st_call n.c _ _ S0.out).mono ?_); rintro e w0_ ⟨rfl, ⟨nd0, rfl⟩⟩) | (go_at_call 46; (with_reducible refine (st_call n.v _ _ S1.out).mono ?_); rintro e w1_ ⟨rfl, ⟨nd1, rfl⟩⟩) | (go_at_call 46; (with_reducible refine (st_call n.o _ _ S2.out).mono ?_); rintro e w2_ ⟨rfl, ⟨nd2, rfl⟩⟩))
    go_ret
    exact ⟨rfl, by repeat (first | (with_reducible first | exact HBb.out | apply below_alloc | apply pw_below_drewN | apply below_drew1) | exact HBb.out)⟩
  have hk' : (n.k != 2) = false := by unfold bne; rw [hk]; rfl
  cases z0 : decide (n.sz < 0)
  rotate_left
  · have hf : code n = 2 := by rw [hc, hk, show decide (0 ≤ n.sz) = false by simp at z0 ⊢; omega]; rfl
    rw [hf]
    clear hc hf hd
    go_enter Tryd.func28, Tryd.ntmps28
    go_upto_region 1 with (first | ((with_reducible refine gate_dst (N := 1) rfl ?_); refine box_event ?hg (N := 1) ?hd (cs := (ic n).toArray) (t := 24) ?hr ?_; (case hd => rfl); (case hg => rfl); (case hr => first | (go_simp; done) | (go_simp; rfl)); intro g hg_ w1 hbox_ hb_; have HB := Lib.hid hbox_; have HBb := Lib.hid hb_; have HBg := Lib.hid hg_; clear hbox_ hb_ hg_))
    have c0 := isI.k HB.out
    have c1 := isI.sz HB.out
    have c3 := isI.c HB.out HL.out
    have c4 := isI.v HB.out HL.out
    have c5 := isI.o HB.out HL.out
    go_wp2_with (first | (go_at_call 46; (with_reducible refine (st_call n.c _ _ S0.out).mono ?_); rintro e w0_ ⟨rfl, ⟨nd0, rfl⟩⟩) | (go_at_call 46; (with_reducible refine (st_call n.v _ _ S1.out).mono ?_); rintro e w1_ ⟨rfl, ⟨nd1, rfl⟩⟩) | (go_at_call 46; (with_reducible refine (st_call n.o _ _ S2.out).mono ?_); rintro e w2_ ⟨rfl, ⟨nd2, rfl⟩⟩))
    go_ret
    exact ⟨rfl, by repeat (first | (with_reducible first | exact HBb.out | apply below_alloc | apply pw_below_drewN | apply below_drew1) | exact HBb.out)⟩
  have z0' : decide (0 ≤ n.sz) = true := by simp at z0 ⊢; omega
  cases z1 : decide (4096 < n.sz)
  rotate_left
  · have hf : code n = 2 := by rw [hc, hk, show decide (n.sz ≤ 4096) = false by simp at z1 ⊢; omega]; simp
    rw [hf]
    clear hc hf hd
    go_enter Tryd.func28, Tryd.ntmps28
    go_upto_region 1 with (first | ((with_reducible refine gate_dst (N := 1) rfl ?_); refine box_event ?hg (N := 1) ?hd (cs := (ic n).toArray) (t := 24) ?hr ?_; (case hd => rfl); (case hg => rfl); (case hr => first | (go_simp; done) | (go_simp; rfl)); intro g hg_ w1 hbox_ hb_; have HB := Lib.hid hbox_; have HBb := Lib.hid hb_; have HBg := Lib.hid hg_; clear hbox_ hb_ hg_))
    have c0 := isI.k HB.out
    have c1 := isI.sz HB.out
    have c3 := isI.c HB.out HL.out
    have c4 := isI.v HB.out HL.out
    have c5 := isI.o HB.out HL.out
    go_wp2_with (first | (go_at_call 46; (with_reducible refine (st_call n.c _ _ S0.out).mono ?_); rintro e w0_ ⟨rfl, ⟨nd0, rfl⟩⟩) | (go_at_call 46; (with_reducible refine (st_call n.v _ _ S1.out).mono ?_); rintro e w1_ ⟨rfl, ⟨nd1, rfl⟩⟩) | (go_at_call 46; (with_reducible refine (st_call n.o _ _ S2.out).mono ?_); rintro e w2_ ⟨rfl, ⟨nd2, rfl⟩⟩))
    go_ret
    exact ⟨rfl, by repeat (first | (with_reducible first | exact HBb.out | apply below_alloc | apply pw_below_drewN | apply below_drew1) | exact HBb.out)⟩
  have z1' : decide (n.sz ≤ 4096) = true := by simp at z1 ⊢; omega
  rw [hk, z0', z1'] at hc
  simp only [beq_self_eq_true, Bool.true_and, Bool.and_true] at hc
  cases t0 : stB n.c
  · have hf : code n = 2 := by rw [hc, t0]; rfl
    have S0 := Lib.hid t0
    clear t0
    rw [hf]
    clear hc hf hd
    go_enter Tryd.func28, Tryd.ntmps28
    go_upto_region 1 with (first | ((with_reducible refine gate_dst (N := 1) rfl ?_); refine box_event ?hg (N := 1) ?hd (cs := (ic n).toArray) (t := 24) ?hr ?_; (case hd => rfl); (case hg => rfl); (case hr => first | (go_simp; done) | (go_simp; rfl)); intro g hg_ w1 hbox_ hb_; have HB := Lib.hid hbox_; have HBb := Lib.hid hb_; have HBg := Lib.hid hg_; clear hbox_ hb_ hg_))
    have c0 := isI.k HB.out
    have c1 := isI.sz HB.out
    have c3 := isI.c HB.out HL.out
    have c4 := isI.v HB.out HL.out
    have c5 := isI.o HB.out HL.out
    go_wp2_with (first | (go_at_call 46; (with_reducible refine (st_call n.c _ _ S0.out).mono ?_); rintro e w0_ ⟨rfl, ⟨nd0, rfl⟩⟩) | (go_at_call 46; (with_reducible refine (st_call n.v _ _ S1.out).mono ?_); rintro e w1_ ⟨rfl, ⟨nd1, rfl⟩⟩) | (go_at_call 46; (with_reducible refine (st_call n.o _ _ S2.out).mono ?_); rintro e w2_ ⟨rfl, ⟨nd2, rfl⟩⟩))
    go_ret
    exact ⟨rfl, by repeat (first | (with_reducible first | exact HBb.out | apply below_alloc | apply pw_below_drewN | apply below_drew1) | exact HBb.out)⟩
  rw [t0] at hc
  have S0 := Lib.hid t0
  cases t1 : stB n.v
  · have hf : code n = 2 := by rw [hc, t1]; rfl
    have S1 := Lib.hid t1
    clear t0 t1
    rw [hf]
    clear hc hf hd
    go_enter Tryd.func28, Tryd.ntmps28
    go_upto_region 1 with (first | ((with_reducible refine gate_dst (N := 1) rfl ?_); refine box_event ?hg (N := 1) ?hd (cs := (ic n).toArray) (t := 24) ?hr ?_; (case hd => rfl); (case hg => rfl); (case hr => first | (go_simp; done) | (go_simp; rfl)); intro g hg_ w1 hbox_ hb_; have HB := Lib.hid hbox_; have HBb := Lib.hid hb_; have HBg := Lib.hid hg_; clear hbox_ hb_ hg_))
    have c0 := isI.k HB.out
    have c1 := isI.sz HB.out
    have c3 := isI.c HB.out HL.out
    have c4 := isI.v HB.out HL.out
    have c5 := isI.o HB.out HL.out
    go_wp2_with (first | (go_at_call 46; (with_reducible refine (st_call n.c _ _ S0.out).mono ?_); rintro e w0_ ⟨rfl, ⟨nd0, rfl⟩⟩) | (go_at_call 46; (with_reducible refine (st_call n.v _ _ S1.out).mono ?_); rintro e w1_ ⟨rfl, ⟨nd1, rfl⟩⟩) | (go_at_call 46; (with_reducible refine (st_call n.o _ _ S2.out).mono ?_); rintro e w2_ ⟨rfl, ⟨nd2, rfl⟩⟩))
    go_ret
    exact ⟨rfl, by repeat (first | (with_reducible first | exact HBb.out | apply below_alloc | apply pw_below_drewN | apply below_drew1) | exact HBb.out)⟩
  rw [t1] at hc
  have S1 := Lib.hid t1
  cases t2 : stB n.o
  · have hf : code n = 2 := by rw [hc, t2]; rfl
    have S2 := Lib.hid t2
    clear t0 t1 t2
    rw [hf]
    clear hc hf hd
    go_enter Tryd.func28, Tryd.ntmps28
    go_upto_region 1 with (first | ((with_reducible refine gate_dst (N := 1) rfl ?_); refine box_event ?hg (N := 1) ?hd (cs := (ic n).toArray) (t := 24) ?hr ?_; (case hd => rfl); (case hg => rfl); (case hr => first | (go_simp; done) | (go_simp; rfl)); intro g hg_ w1 hbox_ hb_; have HB := Lib.hid hbox_; have HBb := Lib.hid hb_; have HBg := Lib.hid hg_; clear hbox_ hb_ hg_))
    have c0 := isI.k HB.out
    have c1 := isI.sz HB.out
    have c3 := isI.c HB.out HL.out
    have c4 := isI.v HB.out HL.out
    have c5 := isI.o HB.out HL.out
    go_wp2_with (first | (go_at_call 46; (with_reducible refine (st_call n.c _ _ S0.out).mono ?_); rintro e w0_ ⟨rfl, ⟨nd0, rfl⟩⟩) | (go_at_call 46; (with_reducible refine (st_call n.v _ _ S1.out).mono ?_); rintro e w1_ ⟨rfl, ⟨nd1, rfl⟩⟩) | (go_at_call 46; (with_reducible refine (st_call n.o _ _ S2.out).mono ?_); rintro e w2_ ⟨rfl, ⟨nd2, rfl⟩⟩))
    go_ret
    exact ⟨rfl, by repeat (first | (with_reducible first | exact HBb.out | apply below_alloc | apply pw_below_drewN | apply below_drew1) | exact HBb.out)⟩
  rw [t2] at hc
  have S2 := Lib.hid t2
  have b0 := stB_le t0
  have b1 := stB_le t1
  clear t0 t1 t2
  simp only [Bool.true_and] at hc
  cases e0 : (n.c == 0)
  · have hf : code n = 0 := by rw [hc, if_pos]; rw [decide_eq_true_eq]; simp at e0; omega
    clear b0 b1
    rw [hf]
    clear hc hf hd
    go_enter Tryd.func28, Tryd.ntmps28
    go_upto_region 1 with (first | ((with_reducible refine gate_dst (N := 1) rfl ?_); refine box_event ?hg (N := 1) ?hd (cs := (ic n).toArray) (t := 24) ?hr ?_; (case hd => rfl); (case hg => rfl); (case hr => first | (go_simp; done) | (go_simp; rfl)); intro g hg_ w1 hbox_ hb_; have HB := Lib.hid hbox_; have HBb := Lib.hid hb_; have HBg := Lib.hid hg_; clear hbox_ hb_ hg_))
    have c0 := isI.k HB.out
    have c1 := isI.sz HB.out
    have c3 := isI.c HB.out HL.out
    have c4 := isI.v HB.out HL.out
    have c5 := isI.o HB.out HL.out
    go_wp2_with (first | (go_at_call 46; (with_reducible refine (st_call n.c _ _ S0.out).mono ?_); rintro e w0_ ⟨rfl, ⟨nd0, rfl⟩⟩) | (go_at_call 46; (with_reducible refine (st_call n.v _ _ S1.out).mono ?_); rintro e w1_ ⟨rfl, ⟨nd1, rfl⟩⟩) | (go_at_call 46; (with_reducible refine (st_call n.o _ _ S2.out).mono ?_); rintro e w2_ ⟨rfl, ⟨nd2, rfl⟩⟩))
    go_ret
    exact ⟨rfl, by repeat (first | (with_reducible first | exact HBb.out | apply below_alloc | apply pw_below_drewN | apply below_drew1) | exact HBb.out)⟩
  cases e1 : (n.v == 0)
  · have hf : code n = 0 := by rw [hc, if_pos]; rw [decide_eq_true_eq]; simp at e1; omega
    clear b0 b1
    rw [hf]
    clear hc hf hd
    go_enter Tryd.func28, Tryd.ntmps28
    go_upto_region 1 with (first | ((with_reducible refine gate_dst (N := 1) rfl ?_); refine box_event ?hg (N := 1) ?hd (cs := (ic n).toArray) (t := 24) ?hr ?_; (case hd => rfl); (case hg => rfl); (case hr => first | (go_simp; done) | (go_simp; rfl)); intro g hg_ w1 hbox_ hb_; have HB := Lib.hid hbox_; have HBb := Lib.hid hb_; have HBg := Lib.hid hg_; clear hbox_ hb_ hg_))
    have c0 := isI.k HB.out
    have c1 := isI.sz HB.out
    have c3 := isI.c HB.out HL.out
    have c4 := isI.v HB.out HL.out
    have c5 := isI.o HB.out HL.out
    go_wp2_with (first | (go_at_call 46; (with_reducible refine (st_call n.c _ _ S0.out).mono ?_); rintro e w0_ ⟨rfl, ⟨nd0, rfl⟩⟩) | (go_at_call 46; (with_reducible refine (st_call n.v _ _ S1.out).mono ?_); rintro e w1_ ⟨rfl, ⟨nd1, rfl⟩⟩) | (go_at_call 46; (with_reducible refine (st_call n.o _ _ S2.out).mono ?_); rintro e w2_ ⟨rfl, ⟨nd2, rfl⟩⟩))
    go_ret
    exact ⟨rfl, by repeat (first | (with_reducible first | exact HBb.out | apply below_alloc | apply pw_below_drewN | apply below_drew1) | exact HBb.out)⟩
  · have hf : code n = 2 := by rw [hc, if_neg]; rw [decide_eq_true_eq]; simp at e0 e1; omega
    clear b0 b1
    rw [hf]
    clear hc hf hd
    go_enter Tryd.func28, Tryd.ntmps28
    go_upto_region 1 with (first | ((with_reducible refine gate_dst (N := 1) rfl ?_); refine box_event ?hg (N := 1) ?hd (cs := (ic n).toArray) (t := 24) ?hr ?_; (case hd => rfl); (case hg => rfl); (case hr => first | (go_simp; done) | (go_simp; rfl)); intro g hg_ w1 hbox_ hb_; have HB := Lib.hid hbox_; have HBb := Lib.hid hb_; have HBg := Lib.hid hg_; clear hbox_ hb_ hg_))
    have c0 := isI.k HB.out
    have c1 := isI.sz HB.out
    have c3 := isI.c HB.out HL.out
    have c4 := isI.v HB.out HL.out
    have c5 := isI.o HB.out HL.out
    go_wp2_with (first | (go_at_call 46; (with_reducible refine (st_call n.c _ _ S0.out).mono ?_); rintro e w0_ ⟨rfl, ⟨nd0, rfl⟩⟩) | (go_at_call 46; (with_reducible refine (st_call n.v _ _ S1.out).mono ?_); rintro e w1_ ⟨rfl, ⟨nd1, rfl⟩⟩) | (go_at_call 46; (with_reducible refine (st_call n.o _ _ S2.out).mono ?_); rintro e w2_ ⟨rfl, ⟨nd2, rfl⟩⟩))
    go_ret
    exact ⟨rfl, by repeat (first | (with_reducible first | exact HBb.out | apply below_alloc | apply pw_below_drewN | apply below_drew1) | exact HBb.out)⟩
end Go.Proofs.YtbhioghpgedkeaaDoor.IN
