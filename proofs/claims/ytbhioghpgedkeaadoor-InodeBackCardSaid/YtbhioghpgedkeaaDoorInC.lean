/- Contracts of what tells of inodes. -/
import Derived.Test.YtbhioghpgedkeaaDoorInB
set_option linter.unusedSimpArgs false
set_option linter.unusedVariables false
namespace Go.Proofs.YtbhioghpgedkeaaDoor.IN
open Go.RowKit Go.Proofs.YtbhioghpgedkeaaDoor.MIt Go.Proofs.YtbhioghpgedkeaaDoorW.PrintWords Go.Proofs.YtbhioghpgedkeaaDoorW.PrintLast Go.Proofs.YtbhioghpgedkeaaDoorW.PrintMore

def szB (x : Int) : Bool := decide (0 ≤ x) && decide (x ≤ 4096)
def stB (x : Int) : Bool := decide (0 ≤ x) && decide (x ≤ 1099511627776)
def fileB (n : IV) : Bool := n.k == 2 && (szB n.sz && ((stB n.c && (stB n.v && stB n.o)) && decide (n.c + n.v > 0)))
def okB (n : IV) : Bool := decide (n = dirI) || fileB n
def code (n : IV) : Int := if okB n = true then 0 else 2
theorem w64 {x : Int} (h0 : -9223372036854775808 ≤ x) (h1 : x ≤ 9223372036854775807) : wrap64 x = x := by unfold wrap64; omega
theorem size_f (x : Int) : inode_size.f x = some (szB x) := by
  unfold inode_size.f szB
  split <;> rename_i h <;> simp [h]
theorem stamp_f (a b c : Int) : inode_stamp.f 4 [a, b, c] = some (stB a && (stB b && stB c)) := by
  have e0 : rd [a, b, c] 0 = a := rfl
  have e1 : rd [a, b, c] 1 = b := rfl
  have e2 : rd [a, b, c] 2 = c := rfl
  have w1 : wrap64 (0 + 1) = 1 := by decide +kernel
  have w2 : wrap64 (1 + 1) = 2 := by decide +kernel
  have w3 : wrap64 (2 + 1) = 3 := by decide +kernel
  have h0 : ∀ x : Int, stB x = (if x < 0 then false else if x > 1099511627776 then false else true) := by
    intro x
    unfold stB
    by_cases p : x < 0
    · rw [if_pos p]; simp; omega
    · rw [if_neg p]
      by_cases q : x > 1099511627776
      · rw [if_pos q]; simp; omega
      · rw [if_neg q]; simp; omega
  unfold inode_stamp.f
  simp only [inode_stamp.l0, e0, e1, e2, w1, w2, w3, List.length_cons, List.length_nil, h0]
  simp only [show ((0 : Int) < ((0 + 1 + 1 + 1 : Nat) : Int)) from by decide, show ((1 : Int) < ((0 + 1 + 1 + 1 : Nat) : Int)) from by decide, show ((2 : Int) < ((0 + 1 + 1 + 1 : Nat) : Int)) from by decide, show ¬ ((3 : Int) < ((0 + 1 + 1 + 1 : Nat) : Int)) from by decide, show (0 : Int) ≤ 0 from by decide, show (0 : Int) ≤ 1 from by decide, show (0 : Int) ≤ 2 from by decide, if_true, if_false]
  repeat' split
  all_goals rfl
set_option maxRecDepth 100000 in
def dirL : List Value := .int .i64 1 :: .int .i64 0 :: .int .u8 0 :: .int .u8 0 :: .int .u8 0 :: .int .u8 0 :: .int .u8 0 :: .int .u8 0 :: .int .u8 0 :: .int .u8 0 :: .int .u8 0 :: .int .u8 0 :: .int .u8 0 :: .int .u8 0 :: .int .u8 0 :: .int .u8 0 :: .int .u8 0 :: .int .u8 0 :: .int .u8 0 :: .int .u8 0 :: .int .u8 0 :: .int .u8 0 :: .int .u8 0 :: .int .u8 0 :: .int .u8 0 :: .int .u8 0 :: .int .u8 0 :: .int .u8 0 :: .int .u8 0 :: .int .u8 0 :: .int .u8 0 :: .int .u8 0 :: .int .u8 0 :: .int .u8 0 :: .int .i64 0 :: .int .i64 0 :: [.int .i64 0]
theorem dirL_eq : ic dirI = dirL := by kernel_rfl
theorem dir_eq (n : IV) (hn : n.s.length = 32) (W : World) : (Op.equalIn 10000 24 (.agg (ic n).toArray) (.agg dirL.toArray)).run Tryd.prog W = .ok (decide (n = dirI)) W := by
  rw [← dirL_eq]
  exact eq24 9997 W hn dir_len
theorem below_box {w w1 w' : World} (h : Below w.heap.size w w1) (h2 : Below w1.heap.size w1 w') : Below w.heap.size w w' := below_then h h.size h2
theorem stB_le {x : Int} (h : stB x = true) : 0 ≤ x ∧ x ≤ 1099511627776 := by
  unfold stB at h
  simpa using h
theorem dir_k {n : IV} (h : decide (n = dirI) = true) : (n.k == 2) = false := by
  rw [decide_eq_true_eq] at h
  rw [h]
  rfl
set_option maxHeartbeats 4000000 in
set_option maxRecDepth 100000 in
theorem check_call (n : IV) (hn : n.s.length = 32) (w : World) : Calls Tryd.prog 17 #[.agg (ic n).toArray] w fun e w' => e = .returned (.int .i64 (code n)) ∧ Below w.heap.size w w' := by
  have hq := dir_eq n hn
  unfold dirL at hq
  have HL := Lib.hid hn
  clear hn
  cases hd : decide (n = dirI)
  · rw [hd] at hq
    cases hk : (n.k == 2)
    · have hf : code n = 2 := by unfold code okB fileB; rw [hd, hk]; rfl
      rw [hf]
      go_enter Tryd.func17, Tryd.ntmps17
      go_upto_region 2 with (first | ((with_reducible refine gate_dst (N := 1) rfl ?_); refine box_event ?hg (N := 1) ?hd (cs := (ic n).toArray) (t := 24) ?hr ?_; (case hd => rfl); (case hg => rfl); (case hr => first | (go_simp; done) | (go_simp; rfl)); intro g hg_ w1 hbox_ hb_; have HB := Lib.hid hbox_; have HBb := Lib.hid hb_; have HBg := Lib.hid hg_; clear hbox_ hb_ hg_) | ((with_reducible refine gate_dst (N := 5) rfl ?_); (try (refine gate_guard (by rfl) ?_; dsimp only)); refine wpList_load_row rfl 24 (.tmp 1) rfl g (by rfl) 24 (ic n).toArray (0, 0) _ HB.out Tryd.underlying24 rfl (by rw [List.size_toArray, ic_len HL.out]; kernel_rfl) ?_))
      have c0 := isI.k HB.out
      clear hq
      go_wp2
      go_ret
      exact ⟨rfl, HBb.out⟩
    cases hz : szB n.sz
    · have hf : code n = 2 := by unfold code okB fileB; rw [hd, hk, hz]; rfl
      rw [hf]
      go_enter Tryd.func17, Tryd.ntmps17
      go_upto_region 2 with (first | ((with_reducible refine gate_dst (N := 1) rfl ?_); refine box_event ?hg (N := 1) ?hd (cs := (ic n).toArray) (t := 24) ?hr ?_; (case hd => rfl); (case hg => rfl); (case hr => first | (go_simp; done) | (go_simp; rfl)); intro g hg_ w1 hbox_ hb_; have HB := Lib.hid hbox_; have HBb := Lib.hid hb_; have HBg := Lib.hid hg_; clear hbox_ hb_ hg_) | ((with_reducible refine gate_dst (N := 5) rfl ?_); (try (refine gate_guard (by rfl) ?_; dsimp only)); refine wpList_load_row rfl 24 (.tmp 1) rfl g (by rfl) 24 (ic n).toArray (0, 0) _ HB.out Tryd.underlying24 rfl (by rw [List.size_toArray, ic_len HL.out]; kernel_rfl) ?_))
      have c0 := isI.k HB.out
      have c1 := isI.sz HB.out
      have HS := Lib.hid (show inode_size.f n.sz = some false by rw [size_f, hz])
      clear hq hz
      go_wp2_with (first | (go_at_call 42; (with_reducible refine (inode_size.calls n.sz false _ HS.out).mono ?_); rintro e w2 ⟨rfl, ⟨nd, rfl⟩⟩))
      go_ret
      exact ⟨rfl, by repeat (first | (with_reducible first | exact HBb.out | apply below_alloc | apply pw_below_drewN | apply below_drew1) | exact HBb.out)⟩
    cases ht : (stB n.c && (stB n.v && stB n.o))
    · have hf : code n = 2 := by unfold code okB fileB; rw [hd, hk, hz, ht]; rfl
      rw [hf]
      go_enter Tryd.func17, Tryd.ntmps17
      go_upto_region 2 with (first | ((with_reducible refine gate_dst (N := 1) rfl ?_); refine box_event ?hg (N := 1) ?hd (cs := (ic n).toArray) (t := 24) ?hr ?_; (case hd => rfl); (case hg => rfl); (case hr => first | (go_simp; done) | (go_simp; rfl)); intro g hg_ w1 hbox_ hb_; have HB := Lib.hid hbox_; have HBb := Lib.hid hb_; have HBg := Lib.hid hg_; clear hbox_ hb_ hg_) | ((with_reducible refine gate_dst (N := 5) rfl ?_); (try (refine gate_guard (by rfl) ?_; dsimp only)); refine wpList_load_row rfl 24 (.tmp 1) rfl g (by rfl) 24 (ic n).toArray (0, 0) _ HB.out Tryd.underlying24 rfl (by rw [List.size_toArray, ic_len HL.out]; kernel_rfl) ?_))
      have c0 := isI.k HB.out
      have c1 := isI.sz HB.out
      have c3 := isI.c HB.out HL.out
      have c4 := isI.v HB.out HL.out
      have c5 := isI.o HB.out HL.out
      have HS := Lib.hid (show inode_size.f n.sz = some true by rw [size_f, hz])
      obtain ⟨ys, Ny0⟩ : ∃ ys, ys = ([n.c, n.v, n.o] : List Int) := ⟨_, rfl⟩
      have Ny := Lib.hid Ny0
      have HT := Lib.hid (show inode_stamp.f 4 ys = some false by rw [Ny0, stamp_f, ht])
      clear Ny0
      clear hq hz ht
      go_wp2_with (first | (go_at_call 42; (with_reducible refine (inode_size.calls n.sz true _ HS.out).mono ?_); rintro e w2 ⟨rfl, ⟨nd, rfl⟩⟩) | ((with_reducible refine gate_dst (N := 23) rfl ?_); (try (refine gate_guard (by rfl) ?_; dsimp only)); refine Kd.R_lit (Kd.int .i64) _ 3 ?hg (N := 23) ?hd (xs := ([n.c, n.v, n.o] : List Int)) (inner := [.int .i64 n.c, .int .i64 n.v, .int .i64 n.o]) (ok := fun _ => True) (okp := fun _ => True) ?hr ?hp (fun _ hk => hk) trivial (Below.refl _ _) (Nat.le_refl _) (by simp) ?_; (case hd => rfl); (case hg => rfl); (case hr => first | (go_simp; done) | (go_simp; rfl)); (case hp => exact (Reps.one (show Kd.M (Kd.int .i64) _ _ _ n.c [.int .i64 n.c] from rfl) (Reps.one (show Kd.M (Kd.int .i64) _ _ _ n.v [.int .i64 n.v] from rfl) (Reps.one (show Kd.M (Kd.int .i64) _ _ _ n.o [.int .i64 n.o] from rfl) (Reps.none _ _))))); intro vs w10 ho11 hb hg_ hnew_; clear hg_ hnew_; rw [← Ny.out] at ho11; have HO := Lib.hid ho11; have HC := Lib.hid (blk_below (g := g) (o := .cells (ic n).toArray 24 (0, 0)) (by (with_reducible repeat (first | refine blk_drewN ?_ _ | refine blk_drew ?_ | refine blk_alloc ?_ _)); exact HB.out) hb); have HX := Lib.hid (below_step (by repeat (first | (with_reducible first | exact HBb.out | apply below_alloc | apply pw_below_drewN | apply below_drew1) | exact HBb.out)) hb); clear hb ho11; obtain ⟨Ao12, co12, eo12⟩ := Kd.R_slice HO.out; subst eo12) | (go_at_call 43; (with_reducible refine (inode_stamp.calls 4 _ _ ys false _ ?side1 ?side2 HT.out).mono ?_); (case side1 => exact (Kd.R_reads' HO.out).2.2); (case side2 => exact (Kd.R_reads' HO.out).2.1); rintro e w' ⟨rfl, ⟨nd2, rfl⟩⟩))
      go_ret
      exact ⟨rfl, by repeat (first | (with_reducible first | exact HX.out | apply below_alloc | apply pw_below_drewN | apply below_drew1) | exact HX.out)⟩
    have hw : wrap64 (n.c + n.v) = n.c + n.v := by
      simp only [Bool.and_eq_true] at ht
      have := stB_le ht.1
      have := stB_le ht.2.1
      exact w64 (by omega) (by omega)
    cases hp : decide (0 < n.c + n.v)
    · have hf : code n = 2 := by unfold code okB fileB; rw [hd, hk, hz, ht, show decide (n.c + n.v > 0) = false from hp]; rfl
      rw [hf]
      go_enter Tryd.func17, Tryd.ntmps17
      go_upto_region 2 with (first | ((with_reducible refine gate_dst (N := 1) rfl ?_); refine box_event ?hg (N := 1) ?hd (cs := (ic n).toArray) (t := 24) ?hr ?_; (case hd => rfl); (case hg => rfl); (case hr => first | (go_simp; done) | (go_simp; rfl)); intro g hg_ w1 hbox_ hb_; have HB := Lib.hid hbox_; have HBb := Lib.hid hb_; have HBg := Lib.hid hg_; clear hbox_ hb_ hg_) | ((with_reducible refine gate_dst (N := 5) rfl ?_); (try (refine gate_guard (by rfl) ?_; dsimp only)); refine wpList_load_row rfl 24 (.tmp 1) rfl g (by rfl) 24 (ic n).toArray (0, 0) _ HB.out Tryd.underlying24 rfl (by rw [List.size_toArray, ic_len HL.out]; kernel_rfl) ?_))
      have c0 := isI.k HB.out
      have c1 := isI.sz HB.out
      have c3 := isI.c HB.out HL.out
      have c4 := isI.v HB.out HL.out
      have c5 := isI.o HB.out HL.out
      have HS := Lib.hid (show inode_size.f n.sz = some true by rw [size_f, hz])
      obtain ⟨ys, Ny0⟩ : ∃ ys, ys = ([n.c, n.v, n.o] : List Int) := ⟨_, rfl⟩
      have Ny := Lib.hid Ny0
      have HT := Lib.hid (show inode_stamp.f 4 ys = some true by rw [Ny0, stamp_f, ht])
      clear Ny0
      clear hq hz ht
      go_wp2_with (first | (go_at_call 42; (with_reducible refine (inode_size.calls n.sz true _ HS.out).mono ?_); rintro e w2 ⟨rfl, ⟨nd, rfl⟩⟩) | ((with_reducible refine gate_dst (N := 23) rfl ?_); (try (refine gate_guard (by rfl) ?_; dsimp only)); refine Kd.R_lit (Kd.int .i64) _ 3 ?hg (N := 23) ?hd (xs := ([n.c, n.v, n.o] : List Int)) (inner := [.int .i64 n.c, .int .i64 n.v, .int .i64 n.o]) (ok := fun _ => True) (okp := fun _ => True) ?hr ?hp (fun _ hk => hk) trivial (Below.refl _ _) (Nat.le_refl _) (by simp) ?_; (case hd => rfl); (case hg => rfl); (case hr => first | (go_simp; done) | (go_simp; rfl)); (case hp => exact (Reps.one (show Kd.M (Kd.int .i64) _ _ _ n.c [.int .i64 n.c] from rfl) (Reps.one (show Kd.M (Kd.int .i64) _ _ _ n.v [.int .i64 n.v] from rfl) (Reps.one (show Kd.M (Kd.int .i64) _ _ _ n.o [.int .i64 n.o] from rfl) (Reps.none _ _))))); intro vs w10 ho11 hb hg_ hnew_; clear hg_ hnew_; rw [← Ny.out] at ho11; have HO := Lib.hid ho11; have HC := Lib.hid (blk_below (g := g) (o := .cells (ic n).toArray 24 (0, 0)) (by (with_reducible repeat (first | refine blk_drewN ?_ _ | refine blk_drew ?_ | refine blk_alloc ?_ _)); exact HB.out) hb); have HX := Lib.hid (below_step (by repeat (first | (with_reducible first | exact HBb.out | apply below_alloc | apply pw_below_drewN | apply below_drew1) | exact HBb.out)) hb); clear hb ho11; obtain ⟨Ao12, co12, eo12⟩ := Kd.R_slice HO.out; subst eo12) | (go_at_call 43; (with_reducible refine (inode_stamp.calls 4 _ _ ys true _ ?side1 ?side2 HT.out).mono ?_); (case side1 => exact (Kd.R_reads' HO.out).2.2); (case side2 => exact (Kd.R_reads' HO.out).2.1); rintro e w' ⟨rfl, ⟨nd2, rfl⟩⟩; have c3 := isI.c HC.out HL.out; have c4 := isI.v HC.out HL.out))
      go_ret
      exact ⟨rfl, by repeat (first | (with_reducible first | exact HX.out | apply below_alloc | apply pw_below_drewN | apply below_drew1) | exact HX.out)⟩
    · have hf : code n = 0 := by unfold code okB fileB; rw [hd, hk, hz, ht, show decide (n.c + n.v > 0) = true from hp]; rfl
      rw [hf]
      go_enter Tryd.func17, Tryd.ntmps17
      go_upto_region 2 with (first | ((with_reducible refine gate_dst (N := 1) rfl ?_); refine box_event ?hg (N := 1) ?hd (cs := (ic n).toArray) (t := 24) ?hr ?_; (case hd => rfl); (case hg => rfl); (case hr => first | (go_simp; done) | (go_simp; rfl)); intro g hg_ w1 hbox_ hb_; have HB := Lib.hid hbox_; have HBb := Lib.hid hb_; have HBg := Lib.hid hg_; clear hbox_ hb_ hg_) | ((with_reducible refine gate_dst (N := 5) rfl ?_); (try (refine gate_guard (by rfl) ?_; dsimp only)); refine wpList_load_row rfl 24 (.tmp 1) rfl g (by rfl) 24 (ic n).toArray (0, 0) _ HB.out Tryd.underlying24 rfl (by rw [List.size_toArray, ic_len HL.out]; kernel_rfl) ?_))
      have c0 := isI.k HB.out
      have c1 := isI.sz HB.out
      have c3 := isI.c HB.out HL.out
      have c4 := isI.v HB.out HL.out
      have c5 := isI.o HB.out HL.out
      have HS := Lib.hid (show inode_size.f n.sz = some true by rw [size_f, hz])
      obtain ⟨ys, Ny0⟩ : ∃ ys, ys = ([n.c, n.v, n.o] : List Int) := ⟨_, rfl⟩
      have Ny := Lib.hid Ny0
      have HT := Lib.hid (show inode_stamp.f 4 ys = some true by rw [Ny0, stamp_f, ht])
      clear Ny0
      clear hq hz ht
      go_wp2_with (first | (go_at_call 42; (with_reducible refine (inode_size.calls n.sz true _ HS.out).mono ?_); rintro e w2 ⟨rfl, ⟨nd, rfl⟩⟩) | ((with_reducible refine gate_dst (N := 23) rfl ?_); (try (refine gate_guard (by rfl) ?_; dsimp only)); refine Kd.R_lit (Kd.int .i64) _ 3 ?hg (N := 23) ?hd (xs := ([n.c, n.v, n.o] : List Int)) (inner := [.int .i64 n.c, .int .i64 n.v, .int .i64 n.o]) (ok := fun _ => True) (okp := fun _ => True) ?hr ?hp (fun _ hk => hk) trivial (Below.refl _ _) (Nat.le_refl _) (by simp) ?_; (case hd => rfl); (case hg => rfl); (case hr => first | (go_simp; done) | (go_simp; rfl)); (case hp => exact (Reps.one (show Kd.M (Kd.int .i64) _ _ _ n.c [.int .i64 n.c] from rfl) (Reps.one (show Kd.M (Kd.int .i64) _ _ _ n.v [.int .i64 n.v] from rfl) (Reps.one (show Kd.M (Kd.int .i64) _ _ _ n.o [.int .i64 n.o] from rfl) (Reps.none _ _))))); intro vs w10 ho11 hb hg_ hnew_; clear hg_ hnew_; rw [← Ny.out] at ho11; have HO := Lib.hid ho11; have HC := Lib.hid (blk_below (g := g) (o := .cells (ic n).toArray 24 (0, 0)) (by (with_reducible repeat (first | refine blk_drewN ?_ _ | refine blk_drew ?_ | refine blk_alloc ?_ _)); exact HB.out) hb); have HX := Lib.hid (below_step (by repeat (first | (with_reducible first | exact HBb.out | apply below_alloc | apply pw_below_drewN | apply below_drew1) | exact HBb.out)) hb); clear hb ho11; obtain ⟨Ao12, co12, eo12⟩ := Kd.R_slice HO.out; subst eo12) | (go_at_call 43; (with_reducible refine (inode_stamp.calls 4 _ _ ys true _ ?side1 ?side2 HT.out).mono ?_); (case side1 => exact (Kd.R_reads' HO.out).2.2); (case side2 => exact (Kd.R_reads' HO.out).2.1); rintro e w' ⟨rfl, ⟨nd2, rfl⟩⟩; have c3 := isI.c HC.out HL.out; have c4 := isI.v HC.out HL.out))
      go_ret
      exact ⟨rfl, by repeat (first | (with_reducible first | exact HX.out | apply below_alloc | apply pw_below_drewN | apply below_drew1) | exact HX.out)⟩
  · rw [hd] at hq
    have hk := dir_k hd
    have hf : code n = 0 := by unfold code okB; rw [hd]; rfl
    rw [hf]
    go_enter Tryd.func17, Tryd.ntmps17
    go_upto_region 2 with (first | ((with_reducible refine gate_dst (N := 1) rfl ?_); refine box_event ?hg (N := 1) ?hd (cs := (ic n).toArray) (t := 24) ?hr ?_; (case hd => rfl); (case hg => rfl); (case hr => first | (go_simp; done) | (go_simp; rfl)); intro g hg_ w1 hbox_ hb_; have HB := Lib.hid hbox_; have HBb := Lib.hid hb_; have HBg := Lib.hid hg_; clear hbox_ hb_ hg_) | ((with_reducible refine gate_dst (N := 5) rfl ?_); (try (refine gate_guard (by rfl) ?_; dsimp only)); refine wpList_load_row rfl 24 (.tmp 1) rfl g (by rfl) 24 (ic n).toArray (0, 0) _ HB.out Tryd.underlying24 rfl (by rw [List.size_toArray, ic_len HL.out]; kernel_rfl) ?_))
    have c0 := isI.k HB.out
    clear hq
    go_wp2
    go_ret
    exact ⟨rfl, HBb.out⟩
end Go.Proofs.YtbhioghpgedkeaaDoor.IN
