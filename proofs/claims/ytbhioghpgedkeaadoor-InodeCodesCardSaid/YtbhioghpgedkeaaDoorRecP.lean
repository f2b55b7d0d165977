/- The law InodeCodes' walk. -/
import Derived.Test.YtbhioghpgedkeaaDoorRecK
set_option linter.unusedSimpArgs false
set_option linter.unusedVariables false
namespace Go.Proofs.YtbhioghpgedkeaaDoor.IN
open Go.RowKit Go.Proofs.YtbhioghpgedkeaaDoor.MIt Go.Proofs.YtbhioghpgedkeaaDoor.MKf Go.Proofs.YtbhioghpgedkeaaDoorW.PrintWords Go.Proofs.YtbhioghpgedkeaaDoorW.PrintLast Go.Proofs.YtbhioghpgedkeaaDoorW.PrintMore

def sumF (n : IV) : List S75 := if n.k = 2 then textF 3 (strOfNums n.s) else []
def encRec (n : IV) : List S75 := ((((numF 1 n.k ++ numF 2 n.sz) ++ sumF n) ++ numF 4 n.c) ++ numF 5 n.v) ++ numF 6 n.o
def encE (n : IV) : List S75 × Int := if okB n then (encRec n, 0) else ([], 2)
theorem numF_len (t n : Int) : (numF t n).length ≤ 1 := by unfold numF; split <;> simp
theorem sumF_len (n : IV) : (sumF n).length ≤ 1 := by unfold sumF textF; split <;> simp
theorem encRec_len (n : IV) : (encRec n).length ≤ 6 := by
  unfold encRec
  have h1 := numF_len 1 n.k
  have h2 := numF_len 2 n.sz
  have h3 := sumF_len n
  have h4 := numF_len 4 n.c
  have h5 := numF_len 5 n.v
  have h6 := numF_len 6 n.o
  simp only [List.length_append]
  omega
theorem encE_len (n : IV) : (encE n).1.length ≤ 6 := by
  unfold encE
  split
  · exact encRec_len n
  · simp
set_option maxHeartbeats 8000000 in
set_option maxRecDepth 100000 in
theorem enc_call (n : IV) (hn : n.s.length = 32) (w : World) : Calls Tryd.prog 24 #[.agg (ic n).toArray] w fun e w' => ∃ v, e = .returned (.tuple #[v, .int .i64 (encE n).2]) ∧ Kd.R k75 75 w' w.heap.size (fun _ => True) v (encE n).1 ∧ Below w.heap.size w w' := by
  have HL := Lib.hid hn
  have HCK := Lib.hid (check_call n hn)
  clear hn
  have hcode : code n = if okB n = true then 0 else 2 := rfl
  have hL1 := numF_len 1 n.k
  have hL2 := numF_len 2 n.sz
  have hL3 := sumF_len n
  have hL4 := numF_len 4 n.c
  have hL5 := numF_len 5 n.v
  cases hk : okB n
  · have hf : encE n = ([], 2) := by unfold encE; rw [hk]; rfl
    rw [hf]
    rw [hk] at hcode
    rw [show code n = 2 from hcode] at HCK
    clear hf hcode hk
    go_enter Tryd.func24, Tryd.ntmps24
    go_wp2_with (first | ((with_reducible refine gate_dst (N := 1) rfl ?_); refine box_event ?hg (N := 1) ?hd (cs := (ic n).toArray) (t := 24) ?hr ?_; (case hd => rfl); (case hg => rfl); (case hr => first | (go_simp; done) | (go_simp; rfl)); intro g hg_ w1 hbox_ hb_; have HB := Lib.hid hbox_; have HBb := Lib.hid hb_; have HBg := Lib.hid hg_; clear hbox_ hb_ hg_) | ((with_reducible refine gate_dst (N := 7) rfl ?_); (try (refine gate_guard (by rfl) ?_; dsimp only)); refine wpList_load_row rfl 24 (.tmp 1) rfl g (by rfl) 24 (ic n).toArray (0, 0) _ HB.out Tryd.underlying24 rfl (by rw [List.size_toArray, ic_len HL.out]; kernel_rfl) ?_) | (go_at_call 17; (with_reducible refine (HCK.out _).mono ?_); rintro e w2 ⟨rfl, hb2⟩; have HX := Lib.hid (below_box HBb.out hb2); clear hb2))
    go_ret2
    exact ⟨_, rfl, Kd.R_nil _ _ _ _ _, HX.out⟩
  have hf : encE n = (encRec n, 0) := by unfold encE; rw [hk]; rfl
  rw [hf]
  rw [hk] at hcode
  rw [show code n = 0 from hcode] at HCK
  clear hf hcode hk
  have hrec : encRec n = ((((numF 1 n.k ++ numF 2 n.sz) ++ sumF n) ++ numF 4 n.c) ++ numF 5 n.v) ++ numF 6 n.o := rfl
  go_enter Tryd.func24, Tryd.ntmps24
  go_upto_region 5 with (first | ((with_reducible refine gate_dst (N := 1) rfl ?_); refine box_event ?hg (N := 1) ?hd (cs := (ic n).toArray) (t := 24) ?hr ?_; (case hd => rfl); (case hg => rfl); (case hr => first | (go_simp; done) | (go_simp; rfl)); intro g hg_ w1 hbox_ hb_; have HB := Lib.hid hbox_; have HBb := Lib.hid hb_; have HBg := Lib.hid hg_; clear hbox_ hb_ hg_) | ((with_reducible refine gate_dst (N := 7) rfl ?_); (try (refine gate_guard (by rfl) ?_; dsimp only)); refine wpList_load_row rfl 24 (.tmp 1) rfl g (by rfl) 24 (ic n).toArray (0, 0) _ HB.out Tryd.underlying24 rfl (by rw [List.size_toArray, ic_len HL.out]; kernel_rfl) ?_) | (go_at_call 17; (with_reducible refine (HCK.out _).mono ?_); rintro e w2 ⟨rfl, hb2⟩; have HX2 := Lib.hid (below_box HBb.out hb2); have HI2 := Lib.hid (isI.below HB.out hb2); clear hb2) | ((with_reducible refine gate_dst (N := 12) rfl ?_); refine Kd.R_lit k75 (w0 := w) w.heap.size 75 ?hg (N := 12) ?hd (xs := ([] : List S75)) (inner := []) (ok := fun _ => True) (okp := fun _ => True) ?hr ?hp (fun _ hk => hk) trivial HX2.out HX2.out.size (by simp) ?_; (case hd => rfl); (case hg => rfl); (case hr => first | (go_simp; done) | (go_simp; rfl)); (case hp => exact Reps.none _ _); intro v12 w5 ho5 hb5 hg5 _; obtain ⟨A5, c5, eo5⟩ := Kd.R_slice ho5; rw [List.length_nil] at eo5; subst eo5; have HR5 := Lib.hid ho5; have HX5 := Lib.hid hb5; have HI5 := Lib.hid (show isI w5 g n from (hg5.block g (lt_of_block HI2.out) (by simp)).trans HI2.out); clear ho5 hb5 hg5) | ((with_reducible refine gate_dst (N := 13) rfl ?_); refine box_event ?hg (N := 13) ?hd (cs := #[.slice A5 0 c5]) (t := 76) ?hr ?_; (case hd => rfl); (case hg => rfl); (case hr => first | (go_simp; done) | (go_simp; rfl)); intro gB hg_ w6 hbox_ hb_; have HV := Lib.hid hbox_; have HVb := Lib.hid hb_; have HVg := Lib.hid hg_; clear hbox_ hb_ hg_))
  have hne : g ≠ gB := by have := lt_of_block HI5.out; have := HVg.out; omega
  have hbB : w.heap.size ≤ gB := by have := HX5.out.size; have := HVg.out; omega
  have HB := Lib.hid (below_box HX5.out HVb.out)
  have hbase := HB.out.size
  have HR := Lib.hid (show RecV w6 w.heap.size gB (.slice A5 0 c5) [] from ⟨HV.out, Kd.R_below HR5.out HVb.out⟩)
  have HI1 := Lib.hid (isI.below HI5.out HVb.out)
  clear HBb HBg HX2 HI2 HR5 HX5 HI5 HV HVb HVg HCK
  by_cases h2 : n.k = 2
  · have hkk : (n.k == 2) = true := by rw [h2]; rfl
    have hs : sumF n = textF 3 (strOfNums n.s) := if_pos h2
    rw [hs] at hrec
    clear h2 hs hL3
    have c0 := isI.k HI1.out
    go_upto_region 7 with (first | (go_at_call 44; (with_reducible refine (num_call _ _ _ [] 1 n.k _ _ HR.out HB.out hbB hbase (by decide)).mono ?_); rintro e w12 ⟨⟨u1, rfl⟩, v1, hr_, hb_, hs_, hk_⟩; have HR2 := Lib.hid hr_; have HB2 := Lib.hid hb_; have hbase2 := hs_; have HI2 := Lib.hid (isI.keeps HI1.out hk_ hne); clear hr_ hb_ hs_ hk_))
    clear c0
    have c1 := isI.sz HI2.out
    go_upto_region 8 with (first | (go_at_call 44; (with_reducible refine (num_call _ _ _ ([] ++ numF 1 n.k) 2 n.sz _ _ HR2.out HB2.out hbB hbase2 (by simp [textF]; omega)).mono ?_); rintro e w13 ⟨⟨u2, rfl⟩, v2, hr_, hb_, hs_, hk_⟩; have HR3 := Lib.hid hr_; have HB3 := Lib.hid hb_; have hbase3 := hs_; have HI3 := Lib.hid (isI.keeps HI2.out hk_ hne); clear hr_ hb_ hs_ hk_))
    clear c1
    have hcv := dg_string HL.out (isI.sum HI3.out HL.out)
    have c0 := isI.k HI3.out
    go_upto_region 10 with (first | (go_at_call 45; (with_reducible refine (text_call _ _ _ ([] ++ numF 1 n.k ++ numF 2 n.sz) 3 (strOfNums n.s) _ _ HR3.out HB3.out hbB hbase3 (by simp [textF]; omega)).mono ?_); rintro e w14 ⟨⟨u3, rfl⟩, v3, hr_, hb_, hs_, hk_⟩; have HR4 := Lib.hid hr_; have HB4 := Lib.hid hb_; have hbase4 := hs_; have HI4 := Lib.hid (isI.keeps HI3.out hk_ hne); clear hr_ hb_ hs_ hk_))
    clear hcv c0
    have c3 := isI.c HI4.out HL.out
    go_upto_region 11 with (first | (go_at_call 44; (with_reducible refine (num_call _ _ _ ([] ++ numF 1 n.k ++ numF 2 n.sz ++ textF 3 (strOfNums n.s)) 4 n.c _ _ HR4.out HB4.out hbB hbase4 (by simp [textF]; omega)).mono ?_); rintro e w15 ⟨⟨u4, rfl⟩, v4, hr_, hb_, hs_, hk_⟩; have HR5 := Lib.hid hr_; have HB5 := Lib.hid hb_; have hbase5 := hs_; have HI5 := Lib.hid (isI.keeps HI4.out hk_ hne); clear hr_ hb_ hs_ hk_))
    clear c3
    have c4 := isI.v HI5.out HL.out
    go_upto_region 12 with (first | (go_at_call 44; (with_reducible refine (num_call _ _ _ ([] ++ numF 1 n.k ++ numF 2 n.sz ++ textF 3 (strOfNums n.s) ++ numF 4 n.c) 5 n.v _ _ HR5.out HB5.out hbB hbase5 (by simp [textF]; omega)).mono ?_); rintro e w16 ⟨⟨u5, rfl⟩, v5, hr_, hb_, hs_, hk_⟩; have HR6 := Lib.hid hr_; have HB6 := Lib.hid hb_; have hbase6 := hs_; have HI6 := Lib.hid (isI.keeps HI5.out hk_ hne); clear hr_ hb_ hs_ hk_))
    clear c4
    have c5 := isI.o HI6.out HL.out
    go_upto_region 13 with (first | (go_at_call 44; (with_reducible refine (num_call _ _ _ ([] ++ numF 1 n.k ++ numF 2 n.sz ++ textF 3 (strOfNums n.s) ++ numF 4 n.c ++ numF 5 n.v) 6 n.o _ _ HR6.out HB6.out hbB hbase6 (by simp [textF]; omega)).mono ?_); rintro e w17 ⟨⟨u6, rfl⟩, v6, hr_, hb_, hs_, hk_⟩; have HR7 := Lib.hid hr_; have HB7 := Lib.hid hb_; have hbase7 := hs_; have HI7 := Lib.hid (isI.keeps HI6.out hk_ hne); clear hr_ hb_ hs_ hk_))
    clear c5
    have x0 := (blk_cell HR7.out.box 0).trans rfl
    go_wp2
    go_ret2
    refine ⟨_, rfl, ?_, HB7.out⟩
    rw [hrec]
    exact HR7.out.row
  · have hkk : (n.k == 2) = false := by simpa using h2
    have hs : sumF n = [] := if_neg h2
    rw [hs, List.append_nil] at hrec
    clear h2 hs hL3
    have c0 := isI.k HI1.out
    go_upto_region 7 with (first | (go_at_call 44; (with_reducible refine (num_call _ _ _ [] 1 n.k _ _ HR.out HB.out hbB hbase (by decide)).mono ?_); rintro e w12 ⟨⟨u1, rfl⟩, v1, hr_, hb_, hs_, hk_⟩; have HR2 := Lib.hid hr_; have HB2 := Lib.hid hb_; have hbase2 := hs_; have HI2 := Lib.hid (isI.keeps HI1.out hk_ hne); clear hr_ hb_ hs_ hk_))
    clear c0
    have c1 := isI.sz HI2.out
    go_upto_region 8 with (first | (go_at_call 44; (with_reducible refine (num_call _ _ _ ([] ++ numF 1 n.k) 2 n.sz _ _ HR2.out HB2.out hbB hbase2 (by simp [textF]; omega)).mono ?_); rintro e w13 ⟨⟨u2, rfl⟩, v2, hr_, hb_, hs_, hk_⟩; have HR3 := Lib.hid hr_; have HB3 := Lib.hid hb_; have hbase3 := hs_; have HI3 := Lib.hid (isI.keeps HI2.out hk_ hne); clear hr_ hb_ hs_ hk_))
    clear c1
    have c3 := isI.c HI3.out HL.out
    have c0 := isI.k HI3.out
    go_upto_region 11 with (first | (go_at_call 44; (with_reducible refine (num_call _ _ _ ([] ++ numF 1 n.k ++ numF 2 n.sz) 4 n.c _ _ HR3.out HB3.out hbB hbase3 (by simp [textF]; omega)).mono ?_); rintro e w14 ⟨⟨u3, rfl⟩, v3, hr_, hb_, hs_, hk_⟩; have HR4 := Lib.hid hr_; have HB4 := Lib.hid hb_; have hbase4 := hs_; have HI4 := Lib.hid (isI.keeps HI3.out hk_ hne); clear hr_ hb_ hs_ hk_))
    clear c3 c0
    have c4 := isI.v HI4.out HL.out
    go_upto_region 12 with (first | (go_at_call 44; (with_reducible refine (num_call _ _ _ ([] ++ numF 1 n.k ++ numF 2 n.sz ++ numF 4 n.c) 5 n.v _ _ HR4.out HB4.out hbB hbase4 (by simp [textF]; omega)).mono ?_); rintro e w15 ⟨⟨u4, rfl⟩, v4, hr_, hb_, hs_, hk_⟩; have HR5 := Lib.hid hr_; have HB5 := Lib.hid hb_; have hbase5 := hs_; have HI5 := Lib.hid (isI.keeps HI4.out hk_ hne); clear hr_ hb_ hs_ hk_))
    clear c4
    have c5 := isI.o HI5.out HL.out
    go_upto_region 13 with (first | (go_at_call 44; (with_reducible refine (num_call _ _ _ ([] ++ numF 1 n.k ++ numF 2 n.sz ++ numF 4 n.c ++ numF 5 n.v) 6 n.o _ _ HR5.out HB5.out hbB hbase5 (by simp [textF]; omega)).mono ?_); rintro e w16 ⟨⟨u5, rfl⟩, v5, hr_, hb_, hs_, hk_⟩; have HR6 := Lib.hid hr_; have HB6 := Lib.hid hb_; have hbase6 := hs_; have HI6 := Lib.hid (isI.keeps HI5.out hk_ hne); clear hr_ hb_ hs_ hk_))
    clear c5
    have x0 := (blk_cell HR6.out.box 0).trans rfl
    go_wp2
    go_ret2
    refine ⟨_, rfl, ?_, HB6.out⟩
    rw [hrec]
    exact HR6.out.row
end Go.Proofs.YtbhioghpgedkeaaDoor.IN
namespace Go.Proofs.YtbhioghpgedkeaaDoor.IN
open Go.RowKit Go.Proofs.YtbhioghpgedkeaaDoor.MIt Go.Proofs.YtbhioghpgedkeaaDoor.MKf Go.Proofs.YtbhioghpgedkeaaDoorW.PrintWords Go.Proofs.YtbhioghpgedkeaaDoorW.PrintLast Go.Proofs.YtbhioghpgedkeaaDoorW.PrintMore

theorem ok_nn {n : IV} (h : okB n = true) : 0 ≤ n.k ∧ 0 ≤ n.sz ∧ 0 ≤ n.c ∧ 0 ≤ n.v ∧ 0 ≤ n.o := by
  unfold okB at h
  rw [Bool.or_eq_true] at h
  rcases h with h | h
  · rw [decide_eq_true_eq] at h
    rw [h]
    decide
  · unfold fileB szB stB at h
    simp only [Bool.and_eq_true, beq_iff_eq, decide_eq_true_eq] at h
    obtain ⟨h1, ⟨h2, _⟩, ⟨⟨h3, _⟩, ⟨h4, _⟩, h5, _⟩, _⟩ := h
    exact ⟨by omega, h2, h3, h4, h5⟩
theorem num47 (tag n : Int) (h : 0 ≤ n) (w : World) : Calls Tryd.prog 47 #[.int .i64 tag, .int .i64 n] w fun e w' => ∃ A c, e = .returned (.slice A (numF tag n).length c) ∧ Kd.C k75 w' A (numF tag n).length (numF tag n) ∧ Below w.heap.size w w' := by
  refine (aquiferref17_number.calls tag n _ w (number_f tag n h)).mono ?_
  rintro e w' ⟨v, rfl, hr, hb⟩
  obtain ⟨A, c, eo⟩ := Kd.R_slice hr
  subst eo
  exact ⟨A, c, rfl, (Kd.R_reads' hr).2.2, hb⟩
theorem dig48 (s : List Int) (hs : s.length = 32) (w : World) : Calls Tryd.prog 48 #[.agg (dg s).toArray] w fun e w' => ∃ A c, e = .returned (.slice A (textF 3 (strOfNums s)).length c) ∧ Kd.C k75 w' A (textF 3 (strOfNums s)).length (textF 3 (strOfNums s)) ∧ Below w.heap.size w w' := by
  refine (digest_call s hs w).mono ?_
  rintro e w' ⟨v, rfl, hr, hb⟩
  obtain ⟨A, c, eo⟩ := Kd.R_slice hr
  subst eo
  exact ⟨A, c, rfl, (Kd.R_reads' hr).2.2, hb⟩
set_option maxHeartbeats 8000000 in
set_option maxRecDepth 100000 in
theorem renc_call (n : IV) (hn : n.s.length = 32) (w : World) : Calls Tryd.prog 25 #[.agg (ic n).toArray] w fun e w' => ∃ v, e = .returned (.tuple #[v, .int .i64 (encE n).2]) ∧ Kd.R k75 75 w' w.heap.size (fun _ => True) v (encE n).1 ∧ Below w.heap.size w w' := by
  have HL := Lib.hid hn
  have HCK := Lib.hid (rcheck_call n hn)
  have HDI := Lib.hid (dig48 n.s hn)
  clear hn
  have hcode : code n = if okB n = true then 0 else 2 := rfl
  cases hk : okB n
  · have hf : encE n = ([], 2) := by unfold encE; rw [hk]; rfl
    rw [hf]
    rw [hk] at hcode
    rw [show code n = 2 from hcode] at HCK
    clear hf hcode hk HDI
    go_enter Tryd.func25, Tryd.ntmps25
    go_wp2_with (first | ((with_reducible refine gate_dst (N := 1) rfl ?_); refine box_event ?hg (N := 1) ?hd (cs := (ic n).toArray) (t := 24) ?hr ?_; (case hd => rfl); (case hg => rfl); (case hr => first | (go_simp; done) | (go_simp; rfl)); intro g hg_ w1 hbox_ hb_; have HB := Lib.hid hbox_; have HBb := Lib.hid hb_; have HBg := Lib.hid hg_; clear hbox_ hb_ hg_) | ((with_reducible refine gate_dst (N := 6) rfl ?_); (try (refine gate_guard (by rfl) ?_; dsimp only)); refine wpList_load_row rfl 24 (.tmp 1) rfl g (by rfl) 24 (ic n).toArray (0, 0) _ HB.out Tryd.underlying24 rfl (by rw [List.size_toArray, ic_len HL.out]; kernel_rfl) ?_) | (go_at_call 28; (with_reducible refine (HCK.out _).mono ?_); rintro e w2 ⟨rfl, hb2⟩; have HX := Lib.hid (below_box HBb.out hb2); clear hb2))
    go_ret2
    exact ⟨_, rfl, Kd.R_nil _ _ _ _ _, HX.out⟩
  have hf : encE n = (encRec n, 0) := by unfold encE; rw [hk]; rfl
  rw [hf]
  rw [hk] at hcode
  rw [show code n = 0 from hcode] at HCK
  obtain ⟨p1, p2, p4, p5, p6⟩ := ok_nn hk
  have NN1 := Lib.hid (fun w => aquiferref17_number.calls 1 n.k _ w (number_f 1 n.k p1))
  have N2 := Lib.hid (fun w => num47 2 n.sz p2 w)
  have N4 := Lib.hid (fun w => num47 4 n.c p4 w)
  have N5 := Lib.hid (fun w => num47 5 n.v p5 w)
  have N6 := Lib.hid (fun w => num47 6 n.o p6 w)
  have hL1 := numF_len 1 n.k
  have hL2 := numF_len 2 n.sz
  have hL4 := numF_len 4 n.c
  have hL5 := numF_len 5 n.v
  have hL6 := numF_len 6 n.o
  clear hf hcode hk p1 p2 p4 p5 p6
  have hrec : encRec n = ((((numF 1 n.k ++ numF 2 n.sz) ++ sumF n) ++ numF 4 n.c) ++ numF 5 n.v) ++ numF 6 n.o := rfl
  go_enter Tryd.func25, Tryd.ntmps25
  go_upto_region 4 with (first | ((with_reducible refine gate_dst (N := 1) rfl ?_); refine box_event ?hg (N := 1) ?hd (cs := (ic n).toArray) (t := 24) ?hr ?_; (case hd => rfl); (case hg => rfl); (case hr => first | (go_simp; done) | (go_simp; rfl)); intro g hg_ w1 hbox_ hb_; have HB := Lib.hid hbox_; have HBb := Lib.hid hb_; have HBg := Lib.hid hg_; clear hbox_ hb_ hg_) | ((with_reducible refine gate_dst (N := 6) rfl ?_); (try (refine gate_guard (by rfl) ?_; dsimp only)); refine wpList_load_row rfl 24 (.tmp 1) rfl g (by rfl) 24 (ic n).toArray (0, 0) _ HB.out Tryd.underlying24 rfl (by rw [List.size_toArray, ic_len HL.out]; kernel_rfl) ?_) | (go_at_call 28; (with_reducible refine (HCK.out _).mono ?_); rintro e w2 ⟨rfl, hb2⟩; have HX2 := Lib.hid (below_box HBb.out hb2); have HI2 := Lib.hid (isI.below HB.out hb2); clear hb2))
  have HX := Lib.hid (show Below w.heap.size w w2.drew from below_drew1 HX2.out)
  have HQ := Lib.hid (show isI w2.drew g n from blk_drew HI2.out)
  clear HB HBb HBg HX2 HI2 HCK
  refine start_ (n := 8) (S := fun w' => isI w' g n) (ds := []) #[false, false, false, false, false, false, false, false] (by kernel_rfl) rfl rfl HQ.out (fun hHeld => ?_)
  clear HQ
  generalize w2.drew = w3 at hHeld HX ⊢
  refine pure_ (i := 0) (N := some 11) (v := ?_) (a' := ?_) #[true, false, false, false, false, false, false, false] rfl rfl (by kernel_rfl) (fun _ _ _ h => h) (Or.inl ⟨by rfl, ?_⟩) ?_ ?_
  rotate_left
  · intro w'
    go_simp
    with_reducible rfl
  rotate_left
  · simp only [Act.put, List.setIfInBounds_toArray, List.set_cons_zero, List.set_cons_succ, i64_w, i32_w]
    rfl
  refine take_ (i := 1) (N := some 12) (v := ?_) (a' := ?_) #[true, true, false, false, false, false, false, false] rfl rfl (by kernel_rfl) (fun _ _ _ h => h) (Or.inl ⟨by rfl, ?_⟩) hHeld ?_ ?_
  rotate_left
  · rintro w' h
    have hc := isI.k h
    go_simp
    with_reducible rfl
  rotate_left
  · simp only [Act.put, List.setIfInBounds_toArray, List.set_cons_zero, List.set_cons_succ, i64_w, i32_w]
    rfl
  refine pure_ (i := 3) (N := some 14) (v := ?_) (a' := ?_) #[true, true, false, true, false, false, false, false] rfl rfl (by kernel_rfl) (fun _ _ _ h => h) (Or.inl ⟨by rfl, ?_⟩) ?_ ?_
  rotate_left
  · intro w'
    go_simp
    with_reducible rfl
  rotate_left
  · simp only [Act.put, List.setIfInBounds_toArray, List.set_cons_zero, List.set_cons_succ, i64_w, i32_w]
    rfl
  refine take_ (i := 4) (N := some 15) (v := ?_) (a' := ?_) #[true, true, false, true, true, false, false, false] rfl rfl (by kernel_rfl) (fun _ _ _ h => h) (Or.inl ⟨by rfl, ?_⟩) hHeld ?_ ?_
  rotate_left
  · rintro w' h
    have hc := isI.sz h
    go_simp
    with_reducible rfl
  rotate_left
  · simp only [Act.put, List.setIfInBounds_toArray, List.set_cons_zero, List.set_cons_succ, i64_w, i32_w]
    rfl
  refine one_ (i := 2) (N := some 13) #[true, true, true, true, true, false, false, false] rfl rfl (by kernel_rfl) (by decide) (fun K hK => ?_)
  refine goes_ Tryd.func47 (by kernel_rfl) rfl #[.int .i64 1, .int .i64 n.k] (by rfl) rfl rfl (by first | rfl | (simp only [List.map_toArray, List.map_cons, List.map_nil]; done) | (simp only [List.map_toArray, List.map_cons, List.map_nil]; rfl)) ?_
  (with_reducible refine (NN1.out _).mono ?_)
  rintro e w4 ⟨v4, rfl, hr, hb⟩
  refine ⟨_, rfl, ?_⟩
  have HR := Lib.hid (Kd.R_lower hr HX.out.size)
  have HX4 := Lib.hid (below_box HX.out hb)
  have hh := isI.below hHeld hb
  clear hHeld hb hr HX
  refine hK.out _ _ hh (fun hHeld => ?_)
  clear hK K
  refine norm_ (a' := ?_) ?_ ?_
  rotate_left
  · show Act.put _ (some 13) _ = _
    simp only [Act.put, List.setIfInBounds_toArray, List.set_cons_zero, List.set_cons_succ, i64_w, i32_w]
    rfl
  clear hh
  refine one_ (i := 5) (N := some 16) #[true, true, true, true, true, true, false, false] rfl rfl (by kernel_rfl) (by decide) (fun K hK => ?_)
  refine goes_ Tryd.func47 (by kernel_rfl) rfl #[.int .i64 2, .int .i64 n.sz] (by rfl) rfl rfl (by first | rfl | (simp only [List.map_toArray, List.map_cons, List.map_nil]; done) | (simp only [List.map_toArray, List.map_cons, List.map_nil]; rfl)) ?_
  (with_reducible refine (N2.out _).mono ?_)
  rintro e w5 ⟨A5, c5, rfl, hc, hb⟩
  refine ⟨_, rfl, ?_⟩
  have HR5 := Lib.hid (Kd.R_below HR.out hb)
  have HS5 := Lib.hid hc
  have HX5 := Lib.hid (below_box HX4.out hb)
  have hh := isI.below hHeld hb
  clear hHeld hb hc HX4 HR
  refine hK.out _ _ hh (fun hHeld => ?_)
  clear hK K
  refine norm_ (a' := ?_) ?_ ?_
  rotate_left
  · show Act.put _ (some 16) _ = _
    simp only [Act.put, List.setIfInBounds_toArray, List.set_cons_zero, List.set_cons_succ, i64_w, i32_w]
    rfl
  clear hh
  refine one_ (i := 6) (N := some 17) #[true, true, true, true, true, true, true, false] rfl rfl (by kernel_rfl) (by decide) (fun K hK => ?_)
  refine Kd.R_append_rows_step k75 (w0 := w) w.heap.size (by rfl) (.tmp 13) (.tmp 16) 34 75 (.agg #[(.int .i64 0), (.int .i64 0), (.int .i64 0), (.string ⟨#[]⟩)]) 40 rfl Tryd.underlying34 info75 rfl (by decide) (by omega) v4 (numF 1 n.k) (numF 2 n.sz) A5 _ c5 (fun _ => True) (fun _ => False) rfl rfl HR5.out HS5.out (fun x cs h => k75_KM _ _ _ _ x cs h) (fun _ hk => hk.elim) (fun _ _ => trivial) HX5.out HX5.out.size (by omega) ?_
  intro v6 w6 hr hb hg _
  have HR6 := Lib.hid hr
  have HX6 := Lib.hid hb
  have hh : isI w6 g n := (hg.block g (lt_of_block hHeld) (row75_ne HR5.out hHeld (by decide))).trans hHeld
  clear hr hb hg hHeld HX5 HR5 HS5
  refine hK.out _ _ hh (fun hHeld => ?_)
  clear hK K
  refine norm_ (a' := ?_) ?_ ?_
  rotate_left
  · show Act.put _ (some 17) _ = _
    simp only [Act.put, List.setIfInBounds_toArray, List.set_cons_zero, List.set_cons_succ, i64_w, i32_w]
    rfl
  clear hh
  refine pure_ (i := 7) (N := some 5) (v := ?_) (a' := ?_) #[true, true, true, true, true, true, true, true] rfl rfl (by kernel_rfl) (fun _ _ _ h => h) (Or.inl ⟨by rfl, ?_⟩) ?_ ?_
  rotate_left
  · intro w'
    go_simp
    with_reducible rfl
  rotate_left
  · simp only [Act.put, List.setIfInBounds_toArray, List.set_cons_zero, List.set_cons_succ, i64_w, i32_w]
    rfl
  refine done_ (by kernel_rfl) ?_
  have HI6 := Lib.hid hHeld
  clear hHeld N2
  by_cases h2 : n.k = 2
  · have hkk : (n.k == 2) = true := by rw [h2]; rfl
    have hs : sumF n = textF 3 (strOfNums n.s) := if_pos h2
    rw [hs] at hrec
    clear h2 hs
    have c0 := isI.k HI6.out
    go_upto_region 7 with (first | ((with_reducible refine gate_dst (N := 23) rfl ?_); (try (refine gate_guard (by rfl) ?_; dsimp only)); refine wpList_load_mid rfl 22 (.tmp 22) rfl g 2 (by rfl) (dg n.s) _ (isI.sum HI6.out HL.out) Tryd.underlying22 rfl (by rw [dg_len HL.out]; kernel_rfl) ?_) | (go_at_call 48; (with_reducible refine (HDI.out _).mono ?_); rintro e w50 ⟨Ac, cc, rfl, hc, hb⟩; have HRc := Lib.hid (Kd.R_below HR6.out hb); have HSc := Lib.hid hc; have HXc := Lib.hid (below_box HX6.out hb); have HIc := Lib.hid (isI.below HI6.out hb); clear hc hb) | ((with_reducible refine gate_builtin (b := .append) (xs := #[.tmp 21, .tmp 24]) rfl ?_); refine Kd.R_append_rows k75 (w0 := w) w.heap.size rfl (.tmp 21) (.tmp 24) 34 75 (.agg #[(.int .i64 0), (.int .i64 0), (.int .i64 0), (.string ⟨#[]⟩)]) 40 rfl Tryd.underlying34 info75 rfl (by decide) (by omega) v6 (numF 1 n.k ++ numF 2 n.sz) (textF 3 (strOfNums n.s)) Ac _ cc (fun _ => True) (fun _ => False) rfl rfl HRc.out HSc.out (fun x cs h => k75_KM _ _ _ _ x cs h) (fun _ hk => hk.elim) (fun _ _ => trivial) HXc.out HXc.out.size (by simp [textF]; omega) ?_; intro v7 w7 hr hb hg _; have HR7 := Lib.hid hr; have HX7 := Lib.hid hb; have HI7 := Lib.hid (show isI w7 g n from (hg.block g (lt_of_block HIc.out) (row75_ne HRc.out HIc.out (by decide))).trans HIc.out); clear hr hb hg))
    clear c0 HRc HSc HXc HIc
    have c3 := isI.c HI7.out HL.out
    go_upto_region 8 with (first | (go_at_call 47; (with_reducible refine (N4.out _).mono ?_); rintro e w50 ⟨Ac, cc, rfl, hc, hb⟩; have HRc := Lib.hid (Kd.R_below HR7.out hb); have HSc := Lib.hid hc; have HXc := Lib.hid (below_box HX7.out hb); have HIc := Lib.hid (isI.below HI7.out hb); clear hc hb) | ((with_reducible refine gate_builtin (b := .append) (xs := #[.tmp 26, .tmp 29]) rfl ?_); refine Kd.R_append_rows k75 (w0 := w) w.heap.size rfl (.tmp 26) (.tmp 29) 34 75 (.agg #[(.int .i64 0), (.int .i64 0), (.int .i64 0), (.string ⟨#[]⟩)]) 40 rfl Tryd.underlying34 info75 rfl (by decide) (by omega) v7 (numF 1 n.k ++ numF 2 n.sz ++ textF 3 (strOfNums n.s)) (numF 4 n.c) Ac _ cc (fun _ => True) (fun _ => False) rfl rfl HRc.out HSc.out (fun x cs h => k75_KM _ _ _ _ x cs h) (fun _ hk => hk.elim) (fun _ _ => trivial) HXc.out HXc.out.size (by simp [textF]; omega) ?_; intro v8 w8 hr hb hg _; have HR8 := Lib.hid hr; have HX8 := Lib.hid hb; have HI8 := Lib.hid (show isI w8 g n from (hg.block g (lt_of_block HIc.out) (row75_ne HRc.out HIc.out (by decide))).trans HIc.out); clear hr hb hg))
    clear c3 HRc HSc HXc HIc
    have c4 := isI.v HI8.out HL.out
    go_upto_region 9 with (first | (go_at_call 47; (with_reducible refine (N5.out _).mono ?_); rintro e w50 ⟨Ac, cc, rfl, hc, hb⟩; have HRc := Lib.hid (Kd.R_below HR8.out hb); have HSc := Lib.hid hc; have HXc := Lib.hid (below_box HX8.out hb); have HIc := Lib.hid (isI.below HI8.out hb); clear hc hb) | ((with_reducible refine gate_builtin (b := .append) (xs := #[.tmp 31, .tmp 34]) rfl ?_); refine Kd.R_append_rows k75 (w0 := w) w.heap.size rfl (.tmp 31) (.tmp 34) 34 75 (.agg #[(.int .i64 0), (.int .i64 0), (.int .i64 0), (.string ⟨#[]⟩)]) 40 rfl Tryd.underlying34 info75 rfl (by decide) (by omega) v8 (numF 1 n.k ++ numF 2 n.sz ++ textF 3 (strOfNums n.s) ++ numF 4 n.c) (numF 5 n.v) Ac _ cc (fun _ => True) (fun _ => False) rfl rfl HRc.out HSc.out (fun x cs h => k75_KM _ _ _ _ x cs h) (fun _ hk => hk.elim) (fun _ _ => trivial) HXc.out HXc.out.size (by simp [textF]; omega) ?_; intro v9 w9 hr hb hg _; have HR9 := Lib.hid hr; have HX9 := Lib.hid hb; have HI9 := Lib.hid (show isI w9 g n from (hg.block g (lt_of_block HIc.out) (row75_ne HRc.out HIc.out (by decide))).trans HIc.out); clear hr hb hg))
    clear c4 HRc HSc HXc HIc
    have c5 := isI.o HI9.out HL.out
    go_wp2_with (first | (go_at_call 47; (with_reducible refine (N6.out _).mono ?_); rintro e w50 ⟨Ac, cc, rfl, hc, hb⟩; have HRc := Lib.hid (Kd.R_below HR9.out hb); have HSc := Lib.hid hc; have HXc := Lib.hid (below_box HX9.out hb); have HIc := Lib.hid (isI.below HI9.out hb); clear hc hb) | ((with_reducible refine gate_builtin (b := .append) (xs := #[.tmp 36, .tmp 39]) rfl ?_); refine Kd.R_append_rows k75 (w0 := w) w.heap.size rfl (.tmp 36) (.tmp 39) 34 75 (.agg #[(.int .i64 0), (.int .i64 0), (.int .i64 0), (.string ⟨#[]⟩)]) 40 rfl Tryd.underlying34 info75 rfl (by decide) (by omega) v9 (numF 1 n.k ++ numF 2 n.sz ++ textF 3 (strOfNums n.s) ++ numF 4 n.c ++ numF 5 n.v) (numF 6 n.o) Ac _ cc (fun _ => True) (fun _ => False) rfl rfl HRc.out HSc.out (fun x cs h => k75_KM _ _ _ _ x cs h) (fun _ hk => hk.elim) (fun _ _ => trivial) HXc.out HXc.out.size (by simp [textF]; omega) ?_; intro v10 w10 hr hb hg _; have HR10 := Lib.hid hr; have HX10 := Lib.hid hb; have HI10 := Lib.hid (show isI w10 g n from (hg.block g (lt_of_block HIc.out) (row75_ne HRc.out HIc.out (by decide))).trans HIc.out); clear hr hb hg))
    go_ret2
    refine ⟨_, rfl, ?_, HX10.out⟩
    rw [hrec]
    exact HR10.out
  · have hkk : (n.k == 2) = false := by simpa using h2
    have hs : sumF n = [] := if_neg h2
    rw [hs, List.append_nil] at hrec
    clear h2 hs
    have c0 := isI.k HI6.out
    go_upto_region 7 with fail
    clear c0
    have c3 := isI.c HI6.out HL.out
    go_upto_region 8 with (first | (go_at_call 47; (with_reducible refine (N4.out _).mono ?_); rintro e w50 ⟨Ac, cc, rfl, hc, hb⟩; have HRc := Lib.hid (Kd.R_below HR6.out hb); have HSc := Lib.hid hc; have HXc := Lib.hid (below_box HX6.out hb); have HIc := Lib.hid (isI.below HI6.out hb); clear hc hb) | ((with_reducible refine gate_builtin (b := .append) (xs := #[.tmp 26, .tmp 29]) rfl ?_); refine Kd.R_append_rows k75 (w0 := w) w.heap.size rfl (.tmp 26) (.tmp 29) 34 75 (.agg #[(.int .i64 0), (.int .i64 0), (.int .i64 0), (.string ⟨#[]⟩)]) 40 rfl Tryd.underlying34 info75 rfl (by decide) (by omega) v6 (numF 1 n.k ++ numF 2 n.sz) (numF 4 n.c) Ac _ cc (fun _ => True) (fun _ => False) rfl rfl HRc.out HSc.out (fun x cs h => k75_KM _ _ _ _ x cs h) (fun _ hk => hk.elim) (fun _ _ => trivial) HXc.out HXc.out.size (by simp [textF]; omega) ?_; intro v7 w7 hr hb hg _; have HR7 := Lib.hid hr; have HX7 := Lib.hid hb; have HI7 := Lib.hid (show isI w7 g n from (hg.block g (lt_of_block HIc.out) (row75_ne HRc.out HIc.out (by decide))).trans HIc.out); clear hr hb hg))
    clear c3 HRc HSc HXc HIc
    have c4 := isI.v HI7.out HL.out
    go_upto_region 9 with (first | (go_at_call 47; (with_reducible refine (N5.out _).mono ?_); rintro e w50 ⟨Ac, cc, rfl, hc, hb⟩; have HRc := Lib.hid (Kd.R_below HR7.out hb); have HSc := Lib.hid hc; have HXc := Lib.hid (below_box HX7.out hb); have HIc := Lib.hid (isI.below HI7.out hb); clear hc hb) | ((with_reducible refine gate_builtin (b := .append) (xs := #[.tmp 31, .tmp 34]) rfl ?_); refine Kd.R_append_rows k75 (w0 := w) w.heap.size rfl (.tmp 31) (.tmp 34) 34 75 (.agg #[(.int .i64 0), (.int .i64 0), (.int .i64 0), (.string ⟨#[]⟩)]) 40 rfl Tryd.underlying34 info75 rfl (by decide) (by omega) v7 (numF 1 n.k ++ numF 2 n.sz ++ numF 4 n.c) (numF 5 n.v) Ac _ cc (fun _ => True) (fun _ => False) rfl rfl HRc.out HSc.out (fun x cs h => k75_KM _ _ _ _ x cs h) (fun _ hk => hk.elim) (fun _ _ => trivial) HXc.out HXc.out.size (by simp [textF]; omega) ?_; intro v8 w8 hr hb hg _; have HR8 := Lib.hid hr; have HX8 := Lib.hid hb; have HI8 := Lib.hid (show isI w8 g n from (hg.block g (lt_of_block HIc.out) (row75_ne HRc.out HIc.out (by decide))).trans HIc.out); clear hr hb hg))
    clear c4 HRc HSc HXc HIc
    have c5 := isI.o HI8.out HL.out
    go_wp2_with (first | (go_at_call 47; (with_reducible refine (N6.out _).mono ?_); rintro e w50 ⟨Ac, cc, rfl, hc, hb⟩; have HRc := Lib.hid (Kd.R_below HR8.out hb); have HSc := Lib.hid hc; have HXc := Lib.hid (below_box HX8.out hb); have HIc := Lib.hid (isI.below HI8.out hb); clear hc hb) | ((with_reducible refine gate_builtin (b := .append) (xs := #[.tmp 36, .tmp 39]) rfl ?_); refine Kd.R_append_rows k75 (w0 := w) w.heap.size rfl (.tmp 36) (.tmp 39) 34 75 (.agg #[(.int .i64 0), (.int .i64 0), (.int .i64 0), (.string ⟨#[]⟩)]) 40 rfl Tryd.underlying34 info75 rfl (by decide) (by omega) v8 (numF 1 n.k ++ numF 2 n.sz ++ numF 4 n.c ++ numF 5 n.v) (numF 6 n.o) Ac _ cc (fun _ => True) (fun _ => False) rfl rfl HRc.out HSc.out (fun x cs h => k75_KM _ _ _ _ x cs h) (fun _ hk => hk.elim) (fun _ _ => trivial) HXc.out HXc.out.size (by simp [textF]; omega) ?_; intro v9 w9 hr hb hg _; have HR9 := Lib.hid hr; have HX9 := Lib.hid hb; have HI9 := Lib.hid (show isI w9 g n from (hg.block g (lt_of_block HIc.out) (row75_ne HRc.out HIc.out (by decide))).trans HIc.out); clear hr hb hg))
    go_ret2
    refine ⟨_, rfl, ?_, HX9.out⟩
    rw [hrec]
    exact HR9.out
end Go.Proofs.YtbhioghpgedkeaaDoor.IN
namespace Go.Proofs.YtbhioghpgedkeaaDoor.IN
open Go.RowKit Go.Proofs.YtbhioghpgedkeaaDoor.MIt Go.Proofs.YtbhioghpgedkeaaDoor.MKf Go.Proofs.YtbhioghpgedkeaaDoorW.PrintWords Go.Proofs.YtbhioghpgedkeaaDoorW.PrintLast Go.Proofs.YtbhioghpgedkeaaDoorW.PrintMore

def zI : IV := ⟨0, 0, z32, 0, 0, 0⟩
set_option maxRecDepth 100000 in
def zIL : List Value := .int .i64 0 :: .int .i64 0 :: .int .u8 0 :: .int .u8 0 :: .int .u8 0 :: .int .u8 0 :: .int .u8 0 :: .int .u8 0 :: .int .u8 0 :: .int .u8 0 :: .int .u8 0 :: .int .u8 0 :: .int .u8 0 :: .int .u8 0 :: .int .u8 0 :: .int .u8 0 :: .int .u8 0 :: .int .u8 0 :: .int .u8 0 :: .int .u8 0 :: .int .u8 0 :: .int .u8 0 :: .int .u8 0 :: .int .u8 0 :: .int .u8 0 :: .int .u8 0 :: .int .u8 0 :: .int .u8 0 :: .int .u8 0 :: .int .u8 0 :: .int .u8 0 :: .int .u8 0 :: .int .u8 0 :: .int .u8 0 :: .int .i64 0 :: .int .i64 0 :: [.int .i64 0]
theorem zI_eq : ic zI = zIL := by kernel_rfl
def inodeOf (L : List S75) : IV := ⟨(numOf L 1).1, (numOf L 2).1, lay (textOf L 3).1 z32, (numOf L 4).1, (numOf L 5).1, (numOf L 6).1⟩
theorem inodeOf_len (L : List S75) : (inodeOf L).s.length = 32 := lay_len _ _ rfl
def decI (L : List S75) : IV × Int := if (sumOf L).2 = true ∧ okB (inodeOf L) = true ∧ encRec (inodeOf L) = L then (inodeOf L, 0) else (zI, 5)
def rdecI (L : List S75) : IV × Int := if okB (inodeOf L) = true ∧ encRec (inodeOf L) = L then (inodeOf L, 0) else (zI, 5)
theorem encRec_text (n : IV) : textOf (encRec n) 3 = if n.k = 2 then (strOfNums n.s, true) else (⟨#[]⟩, false) := by
  have h1 : ∀ t n, (numF t n).filter (isF 3 1) = [] := by
    intro t n
    unfold numF
    split
    · simp [isF]
    · rfl
  unfold textOf encRec sumF textF
  rw [List.filter_append, List.filter_append, List.filter_append, List.filter_append, List.filter_append, h1, h1, h1, h1, h1]
  by_cases h : n.k = 2
  · rw [if_pos h, if_pos h]; rfl
  · rw [if_neg h, if_neg h]; rfl
theorem decI_same (L : List S75) : decI L = rdecI L := by
  unfold decI rdecI
  by_cases h : okB (inodeOf L) = true ∧ encRec (inodeOf L) = L
  · rw [if_pos h, if_pos]
    refine ⟨?_, h⟩
    have ht := encRec_text (inodeOf L)
    rw [h.2] at ht
    unfold sumOf
    rw [ht]
    by_cases h2 : (inodeOf L).k = 2
    · rw [if_pos h2]
      have : (strOfNums (inodeOf L).s).size = 32 := by rw [strOfNums_size]; exact inodeOf_len L
      rw [this]
      rfl
    · rw [if_neg h2]
      rfl
  · rw [if_neg h, if_neg (fun h' => h h'.2)]
set_option maxRecDepth 100000 in
set_option maxHeartbeats 4000000 in
theorem built24z (k sz c v o : Int) : Tryd.prog.built 24 [(0, .int .i64 k), (1, .int .i64 sz), (3, .int .i64 c), (4, .int .i64 v), (5, .int .i64 o)] = some (ic ⟨k, sz, z32, c, v, o⟩).toArray := by kernel_rfl
set_option maxRecDepth 100000 in
set_option maxHeartbeats 4000000 in
theorem built24 (k sz c v o : Int) (s : List Int) (hs : s.length = 32) : Tryd.prog.built 24 [(0, .int .i64 k), (1, .int .i64 sz), (2, .agg (dg s).toArray), (3, .int .i64 c), (4, .int .i64 v), (5, .int .i64 o)] = some (ic ⟨k, sz, s, c, v, o⟩).toArray := by
  match s, hs with
  | [x0, x1, x2, x3, x4, x5, x6, x7, x8, x9, x10, x11, x12, x13, x14, x15, x16, x17, x18, x19, x20, x21, x22, x23, x24, x25, x26, x27, x28, x29, x30, x31], _ => exact (show _ = _ from by kernel_rfl)
theorem build24z_run (k sz c v o : Int) (w : World) : (Instr.build 24 #[(0, .int .i64 k), (1, .int .i64 sz), (3, .int .i64 c), (4, .int .i64 v), (5, .int .i64 o)]).run Tryd.prog w = .ok (.agg (ic ⟨k, sz, z32, c, v, o⟩).toArray) w :=
  run_build w 24 _ _ (built24z k sz c v o)
theorem build24_run (k sz c v o : Int) (s : List Int) (hs : s.length = 32) (w : World) : (Instr.build 24 #[(0, .int .i64 k), (1, .int .i64 sz), (2, .agg (dg s).toArray), (3, .int .i64 c), (4, .int .i64 v), (5, .int .i64 o)]).run Tryd.prog w = .ok (.agg (ic ⟨k, sz, s, c, v, o⟩).toArray) w :=
  run_build w 24 _ _ (built24 k sz c v o s hs)
theorem size24 {n : IV} (h : n.s.length = 32) : (Tryd.prog.info? 24).map (·.size) = some (ic n).toArray.size := by rw [List.size_toArray, ic_len h]; kernel_rfl
theorem ic_one (n : IV) : (ic n).toArray.all (·.oneCell') = true := all_oneCell_toArray (by
  intro v hv
  simp only [ic, dg, List.mem_cons, List.mem_append, List.mem_map, List.not_mem_nil, or_false] at hv
  rcases hv with rfl | rfl | ⟨x, _, rfl⟩ | rfl | rfl | rfl <;> rfl)
theorem isI.setRow {w : World} {g : Nat} {z n : IV} (h : isI w g z) : isI (w.setRow g (ic n).toArray) g n := setRow_same h
theorem isI.setRow_far {w : World} {g k : Nat} {n : IV} (h : isI w k n) (hk : k ≠ g) (cs : Array Value) : isI (w.setRow g cs) k n := (setRow_other w g k cs hk).trans h
theorem alloc24_run (w : World) : (Instr.alloc 24 true (.tuple #[])).run Tryd.prog w = .ok (.pointer (some ⟨w.heap.size, 0, none⟩)) (w.alloc (.cells (ic zI).toArray 24)) := by
  rw [zI_eq]
  unfold zIL
  go_simp
theorem alloc22_run (w : World) : (Instr.alloc 22 true (.tuple #[])).run Tryd.prog w = .ok (.pointer (some ⟨w.heap.size, 0, none⟩)) (w.alloc (.cells (dg z32).toArray 22)) := by
  rw [z32_eq]
  unfold z32L
  go_simp
/-- A digest is laid into an inode's variable. -/
theorem sum_store_run (w : World) (g : Nat) (n : IV) (d : List Int) (hn : n.s.length = 32) (hd : d.length = 32) (hI : isI w g n) :
    (Instr.storeAt 22 (.pointer (some ⟨g, 2, none⟩)) (.agg (dg d).toArray)).run Tryd.prog w = .ok () (w.setRow g (ic ⟨n.k, n.sz, d, n.c, n.v, n.o⟩).toArray) := by
  have hst := run_storeCells_at (P := Tryd.prog) g 2 24 (dg d) 0 (ic n).toArray w hI (by rw [dg_len hd, List.size_toArray, ic_len hn]; decide) (by
    intro v hv
    obtain ⟨x, _, rfl⟩ := List.mem_map.1 hv
    rfl)
  have he : (ic n).take 2 ++ dg d ++ (ic n).drop (2 + 32) = ic ⟨n.k, n.sz, d, n.c, n.v, n.o⟩ := by
    have h1 : (ic n).take 2 = [.int .i64 n.k, .int .i64 n.sz] := rfl
    have h2 : (ic n).drop (2 + 32) = [.int .i64 n.c, .int .i64 n.v, .int .i64 n.o] := by
      show (dg n.s ++ [_, _, _]).drop 32 = _
      rw [List.drop_left' (dg_len hn)]
    rw [h1, h2]
    simp [ic]
  simp only [dg_len hd, Nat.add_zero, List.toList_toArray] at hst
  rw [he] at hst
  have hsz : (Tryd.prog.info? 22).map (·.size) = some 32 := by kernel_rfl
  have hdl := dg_len hd
  simp only [Instr.storeAt, Instr.sureAddr, Sem.run_bind, Sem.run_pure, Result.andThen_ok]
  cases hq : Tryd.prog.info? 22 with
  | none => rw [hq] at hsz; cases hsz
  | some i =>
    rw [hq] at hsz
    have hi : i.size = 32 := Option.some.inj hsz
    simp [storeVar, sizeOf, typeInfo, hq, Value.cells, hi, hdl, hst]
theorem wpList_exec_store {P : Program} {ops : Array Oper} {rest : List Oper} {o : Oper} {a : Act} {w w' : World} {Q : Exit → Act → World → Prop} (hgd : o.guard = none) (hr : (execOp a.eval o).run P w = .ok .skip w') (h : wpList P ops Q rest (a.put o.dst undef) w') : wpList P ops Q (o :: rest) a w :=
  wpList_plain hgd fun K hK => by
    unfold Oper.wp
    rw [hr]
    exact hK _ _ h
set_option maxHeartbeats 8000000 in
set_option maxRecDepth 100000 in
theorem decI_call (A : Option Addr) (cap : Nat) (L : List S75) (hL : L.length ≤ 1000) (hcap : L.length ≤ cap) (w : World) (hC : Kd.C k75 w A L.length L) :
    Calls Tryd.prog 26 #[.slice A L.length cap] w fun e W' => e = .returned (.tuple #[.agg (ic (decI L).1).toArray, .int .i64 (decI L).2]) ∧ Below w.heap.size w W' := by
  have HC0 := Lib.hid hC
  have HSU := Lib.hid (fun W hc => sum_call A cap L hL W hc)
  have HDL := Lib.hid (sumOf_len L)
  have HN1 := Lib.hid (fun W hc => number_call A cap L 1 hL W hc)
  have HN2 := Lib.hid (fun W hc => number_call A cap L 2 hL W hc)
  have HN4 := Lib.hid (fun W hc => number_call A cap L 4 hL W hc)
  have HN5 := Lib.hid (fun W hc => number_call A cap L 5 hL W hc)
  have HN6 := Lib.hid (fun W hc => number_call A cap L 6 hL W hc)
  have HAL := Lib.hid (inodeOf_len L)
  have HEA := Lib.hid (fun W => enc_call (inodeOf L) HAL.out W)
  have HSM := Lib.hid (same_eq (encE (inodeOf L)).1 L (by have := encE_len (inodeOf L); omega))
  have hdec : decI L = if (sumOf L).2 = true ∧ okB (inodeOf L) = true ∧ encRec (inodeOf L) = L then (inodeOf L, 0) else (zI, 5) := rfl
  have harch : inodeOf L = ⟨(numOf L 1).1, (numOf L 2).1, (sumOf L).1, (numOf L 4).1, (numOf L 5).1, (numOf L 6).1⟩ := rfl
  have HE26 := Lib.hid (congrArg List.toArray zI_eq)
  unfold zIL at HE26
  clear hC
  obtain ⟨d, hd⟩ : ∃ d, d = (sumOf L).1 := ⟨_, rfl⟩
  rw [← hd] at HDL HSU harch
  clear hd
  obtain ⟨ok, hok⟩ : ∃ ok, ok = (sumOf L).2 := ⟨_, rfl⟩
  rw [← hok] at HSU hdec
  clear hok
  obtain ⟨n1, hn1⟩ : ∃ q, q = (numOf L 1).1 := ⟨_, rfl⟩
  obtain ⟨n2, hn2⟩ : ∃ q, q = (numOf L 2).1 := ⟨_, rfl⟩
  obtain ⟨n4, hn4⟩ : ∃ q, q = (numOf L 4).1 := ⟨_, rfl⟩
  obtain ⟨n5, hn5⟩ : ∃ q, q = (numOf L 5).1 := ⟨_, rfl⟩
  obtain ⟨n6, hn6⟩ : ∃ q, q = (numOf L 6).1 := ⟨_, rfl⟩
  rw [← hn1] at HN1 harch
  rw [← hn2] at HN2 harch
  rw [← hn4] at HN4 harch
  rw [← hn5] at HN5 harch
  rw [← hn6] at HN6 harch
  clear hn1 hn2 hn4 hn5 hn6
  have HB26 := Lib.hid (fun W => build24z_run n1 n2 n4 n5 n6 W)
  have HARCH := Lib.hid harch
  clear harch
  obtain ⟨a, ha⟩ : ∃ a, a = inodeOf L := ⟨_, rfl⟩
  rw [← ha] at HAL HEA HSM HARCH hdec
  clear ha
  have HEN := Lib.hid (show encE a = if okB a then (encRec a, 0) else ([], 2) from rfl)
  have HDEC := Lib.hid hdec
  clear hdec
  go_enter Tryd.func26, Tryd.ntmps26
  go_upto_region 3 with (first | ((with_reducible refine gate_dst (N := 2) rfl ?_); refine wpList_exec_value rfl (exec_alloc 24 rfl (alloc24_run _)) ?_))
  have HA1 := Lib.hid (show isI (w.alloc (.cells (ic zI).toArray 24)) w.heap.size zI from heap_alloc_new _ _)
  have HB1 := Lib.hid (show Below w.heap.size w (w.alloc (.cells (ic zI).toArray 24)) from below_alloc (Below.refl _ _) _)
  generalize w.alloc (.cells (ic zI).toArray 24) = w1 at HA1 HB1 ⊢
  obtain ⟨n0, hn0⟩ : ∃ n0 : IV, n0 = ⟨n1, n2, z32, n4, n5, n6⟩ := ⟨_, rfl⟩
  have HB24 := Lib.hid (show ∀ W : World, (Instr.build 24 #[(0, .int .i64 n1), (1, .int .i64 n2), (3, .int .i64 n4), (4, .int .i64 n5), (5, .int .i64 n6)]).run Tryd.prog W = .ok (.agg (ic n0).toArray) W from fun W => by rw [hn0]; exact HB26.out W)
  have HN0 := Lib.hid (show n0.s.length = 32 by rw [hn0]; rfl)
  have HFIN := Lib.hid (show (⟨n0.k, n0.sz, d, n0.c, n0.v, n0.o⟩ : IV) = a by rw [hn0, HARCH.out])
  clear hn0 HB26 HARCH
  go_upto_region 4 with (first | (go_at_call 50; (with_reducible refine (HN1.out _ (Kd.C_below HC0.out HB1.out)).mono ?_); rintro e wn2 ⟨rfl, hb⟩; have HA2 := Lib.hid (isI.below HA1.out hb); have HB2 := Lib.hid (below_box HB1.out hb); clear hb) | (go_at_call 50; (with_reducible refine (HN2.out _ (Kd.C_below HC0.out HB2.out)).mono ?_); rintro e wn3 ⟨rfl, hb⟩; have HA3 := Lib.hid (isI.below HA2.out hb); have HB3 := Lib.hid (below_box HB2.out hb); clear hb) | (go_at_call 50; (with_reducible refine (HN4.out _ (Kd.C_below HC0.out HB3.out)).mono ?_); rintro e wn4 ⟨rfl, hb⟩; have HA4 := Lib.hid (isI.below HA3.out hb); have HB4 := Lib.hid (below_box HB3.out hb); clear hb) | (go_at_call 50; (with_reducible refine (HN5.out _ (Kd.C_below HC0.out HB4.out)).mono ?_); rintro e wn5 ⟨rfl, hb⟩; have HA5 := Lib.hid (isI.below HA4.out hb); have HB5 := Lib.hid (below_box HB4.out hb); clear hb) | (go_at_call 50; (with_reducible refine (HN6.out _ (Kd.C_below HC0.out HB5.out)).mono ?_); rintro e wn6 ⟨rfl, hb⟩; have HA6 := Lib.hid (isI.below HA5.out hb); have HB6 := Lib.hid (below_box HB5.out hb); clear hb) | ((with_reducible refine gate_dst (N := 24) rfl ?_); refine wpList_exec_value rfl (exec_build 24 _ _ rfl (by simp only [List.map_toArray, List.map_cons, List.map_nil]; rfl) (HB24.out _)) ?_) | ((with_reducible refine gate_dst (N := 6) rfl ?_); refine wpList_exec_value rfl (exec_alloc 24 rfl (alloc24_run _)) ?_) | (refine wpList_store_row rfl 24 (.tmp 6) (.tmp 24) rfl wn6.heap.size (ic n0).toArray (by rfl) (by rfl) 24 _ (heap_alloc_new _ _) (size24 HN0.out) (by rw [List.size_toArray, List.size_toArray, ic_len HN0.out]; rfl) (ic_one n0) ?_; rw [World.setRow_alloc_new]))
  have HG7 := Lib.hid (show isI (wn6.alloc (.cells (ic n0).toArray 24)) wn6.heap.size n0 from heap_alloc_new _ _)
  have HA7 := Lib.hid (show isI (wn6.alloc (.cells (ic n0).toArray 24)) w.heap.size zI from blk_alloc HA6.out _)
  have HB7 := Lib.hid (show Below w.heap.size w (wn6.alloc (.cells (ic n0).toArray 24)) from below_then HB6.out HB6.out.size (below_alloc (Below.refl _ _) _))
  have hlt := lt_of_block HA6.out
  clear HA1 HB1 HA2 HB2 HA3 HB3 HA4 HB4 HA5 HB5 HA6 HB6 HN1 HN2 HN4 HN5 HN6 HB24
  generalize wn6.alloc (.cells (ic n0).toArray 24) = w7 at HA7 HG7 HB7 ⊢
  generalize wn6.heap.size = g at HG7 hlt ⊢
  go_upto_region 5 with (first | (go_at_call 49; (with_reducible refine (HSU.out _ (Kd.C_below HC0.out HB7.out)).mono ?_); rintro e w2 ⟨rfl, hb2⟩; have HA2 := Lib.hid (isI.below HA7.out hb2); have HG2 := Lib.hid (isI.below HG7.out hb2); have HB2 := Lib.hid (below_box HB7.out hb2); clear hb2) | ((with_reducible refine gate_dst (N := 7) rfl ?_); refine wpList_exec_value rfl (exec_alloc 22 rfl (alloc22_run _)) ?_) | (refine wpList_store_row rfl 22 (.tmp 7) (.tmp 28) rfl w2.heap.size (dg d).toArray (by rfl) (by rfl) 22 _ (heap_alloc_new _ _) (by rw [List.size_toArray, dg_len HDL.out]; kernel_rfl) (by rw [List.size_toArray, List.size_toArray, dg_len HDL.out]; rfl) (dg_one d) ?_; rw [World.setRow_alloc_new]))
  have HD3 := Lib.hid (show isD (w2.alloc (.cells (dg d).toArray 22)) w2.heap.size d from heap_alloc_new _ _)
  have HA3 := Lib.hid (show isI (w2.alloc (.cells (dg d).toArray 22)) w.heap.size zI from blk_alloc HA2.out _)
  have HG3 := Lib.hid (show isI (w2.alloc (.cells (dg d).toArray 22)) g n0 from blk_alloc HG2.out _)
  have HB3 := Lib.hid (show Below w.heap.size w (w2.alloc (.cells (dg d).toArray 22)) from below_then HB2.out HB2.out.size (below_alloc (Below.refl _ _) _))
  clear HA7 HG7 HB7 HA2 HG2 HB2 HSU
  generalize w2.alloc (.cells (dg d).toArray 22) = w3 at HD3 HA3 HG3 HB3 ⊢
  generalize w2.heap.size = g7 at HD3 ⊢
  go_upto_region 6 with (first | ((with_reducible refine gate_dst (N := 30) rfl ?_); (try (refine gate_guard (by rfl) ?_; dsimp only)); refine wpList_load_row rfl 22 (.tmp 7) rfl g7 (by rfl) 22 (dg d).toArray (0, 0) _ HD3.out Tryd.underlying22 rfl (by rw [List.size_toArray, dg_len HDL.out]; kernel_rfl) ?_) | (refine wpList_exec_store rfl (exec_store 22 (.tmp 31) (.tmp 30) rfl rfl rfl (sum_store_run w3 g n0 d HN0.out HDL.out HG3.out)) ?_))
  have HG6 := Lib.hid (show isI (w3.setRow g (ic ⟨n0.k, n0.sz, d, n0.c, n0.v, n0.o⟩).toArray) g a from by rw [← HFIN.out]; exact isI.setRow HG3.out)
  have HA6 := Lib.hid (isI.setRow_far HA3.out (Nat.ne_of_lt hlt) (ic ⟨n0.k, n0.sz, d, n0.c, n0.v, n0.o⟩).toArray)
  have HB6 := Lib.hid (below_setRow HB3.out (Nat.le_of_lt hlt) (ic ⟨n0.k, n0.sz, d, n0.c, n0.v, n0.o⟩).toArray)
  clear HD3 HA3 HG3 HB3
  generalize w3.setRow g (ic ⟨n0.k, n0.sz, d, n0.c, n0.v, n0.o⟩).toArray = w6 at HG6 HA6 HB6 ⊢
  cases ok
  ·
    have hfin : decI L = (zI, 5) := by rw [HDEC.out]; exact if_neg (fun h => Bool.noConfusion h.1)
    go_upto_region 7 with (first | ((with_reducible refine gate_dst (N := 33) rfl ?_); (try (refine gate_guard (by rfl) ?_; dsimp only)); refine wpList_load_row rfl 24 (.tmp 6) rfl g (by rfl) 24 (ic a).toArray (0, 0) _ HG6.out Tryd.underlying24 rfl (by rw [List.size_toArray, ic_len HAL.out]; kernel_rfl) ?_) | (go_at_call 24; (with_reducible refine (HEA.out _).mono ?_); rintro e w8 ⟨v8, rfl, hr8, hb8⟩; have HA8 := Lib.hid (isI.below HA6.out hb8); have HG8 := Lib.hid (isI.below HG6.out hb8); have HB8 := Lib.hid (below_box HB6.out hb8); obtain ⟨A8, c8, eo8⟩ := Kd.R_slice hr8; subst eo8; have HR8 := Lib.hid (Kd.R_reads' hr8); clear hr8 hb8))
    go_upto_region 8 with (fail)
    have HA9 := Lib.hid (show isI w8 w.heap.size zI from HA8.out)
    have HG9 := Lib.hid (show isI w8 g a from HG8.out)
    have HB9 := Lib.hid (show Below w.heap.size w w8 from HB8.out)
    go_wp2_with (first | (refine wpList_store_row rfl 24 (.tmp 2) (.tmp 49) rfl w.heap.size (ic zI).toArray (by rfl) (congrArg Value.agg HE26.out.symm) 24 _ HA9.out (size24 rfl) rfl (ic_one zI) ?_))
    have HD := isI.setRow (n := zI) HA9.out
    have HF := below_setRow HB9.out (Nat.le_refl _) (ic zI).toArray
    refine bodyPost_ret (results_ct rfl _ _ w.heap.size 24 (ic zI).toArray (0, 0) _ rfl HD Tryd.underlying24 rfl (size24 rfl)) rfl ?_
    rw [hfin]
    exact ⟨rfl, HF⟩
  cases hk : okB a
  ·
    have hfin : decI L = (zI, 5) := by rw [HDEC.out]; exact if_neg (fun h => by rw [hk] at h; exact Bool.noConfusion h.2.1)
    have he : encE a = ([], 2) := by rw [HEN.out, hk]; rfl
    rw [he] at HEA HSM
    go_upto_region 7 with (first | ((with_reducible refine gate_dst (N := 33) rfl ?_); (try (refine gate_guard (by rfl) ?_; dsimp only)); refine wpList_load_row rfl 24 (.tmp 6) rfl g (by rfl) 24 (ic a).toArray (0, 0) _ HG6.out Tryd.underlying24 rfl (by rw [List.size_toArray, ic_len HAL.out]; kernel_rfl) ?_) | (go_at_call 24; (with_reducible refine (HEA.out _).mono ?_); rintro e w8 ⟨v8, rfl, hr8, hb8⟩; have HA8 := Lib.hid (isI.below HA6.out hb8); have HG8 := Lib.hid (isI.below HG6.out hb8); have HB8 := Lib.hid (below_box HB6.out hb8); obtain ⟨A8, c8, eo8⟩ := Kd.R_slice hr8; subst eo8; have HR8 := Lib.hid (Kd.R_reads' hr8); clear hr8 hb8))
    go_upto_region 8 with (fail)
    have HA9 := Lib.hid (show isI w8 w.heap.size zI from HA8.out)
    have HG9 := Lib.hid (show isI w8 g a from HG8.out)
    have HB9 := Lib.hid (show Below w.heap.size w w8 from HB8.out)
    go_wp2_with (first | (refine wpList_store_row rfl 24 (.tmp 2) (.tmp 49) rfl w.heap.size (ic zI).toArray (by rfl) (congrArg Value.agg HE26.out.symm) 24 _ HA9.out (size24 rfl) rfl (ic_one zI) ?_))
    have HD := isI.setRow (n := zI) HA9.out
    have HF := below_setRow HB9.out (Nat.le_refl _) (ic zI).toArray
    refine bodyPost_ret (results_ct rfl _ _ w.heap.size 24 (ic zI).toArray (0, 0) _ rfl HD Tryd.underlying24 rfl (size24 rfl)) rfl ?_
    rw [hfin]
    exact ⟨rfl, HF⟩
  have he : encE a = (encRec a, 0) := by rw [HEN.out, hk]; rfl
  rw [he] at HEA HSM
  cases hs : decide (encRec a = L)
  ·
    have hfin : decI L = (zI, 5) := by rw [HDEC.out]; exact if_neg (fun h => by rw [decide_eq_false_iff_not] at hs; exact hs h.2.2)
    have HSM := Lib.hid (show inode_same.f 1001 (encRec a) L = some false from HSM.out.trans (congrArg some hs))
    clear hs hk he
    go_upto_region 7 with (first | ((with_reducible refine gate_dst (N := 33) rfl ?_); (try (refine gate_guard (by rfl) ?_; dsimp only)); refine wpList_load_row rfl 24 (.tmp 6) rfl g (by rfl) 24 (ic a).toArray (0, 0) _ HG6.out Tryd.underlying24 rfl (by rw [List.size_toArray, ic_len HAL.out]; kernel_rfl) ?_) | (go_at_call 24; (with_reducible refine (HEA.out _).mono ?_); rintro e w8 ⟨v8, rfl, hr8, hb8⟩; have HA8 := Lib.hid (isI.below HA6.out hb8); have HG8 := Lib.hid (isI.below HG6.out hb8); have HB8 := Lib.hid (below_box HB6.out hb8); obtain ⟨A8, c8, eo8⟩ := Kd.R_slice hr8; subst eo8; have HR8 := Lib.hid (Kd.R_reads' hr8); clear hr8 hb8))
    go_upto_region 8 with (first | (go_at_call 51; (with_reducible refine (inode_same.calls 1001 A8 c8 (encRec a) A cap L false _ HR8.out.2.2 HR8.out.2.1 (Kd.C_below HC0.out HB8.out) hcap HSM.out).mono ?_); rintro e w9 ⟨rfl, ⟨nd9, rfl⟩⟩))
    have HA9 := Lib.hid (show isI (w8.drewN nd9) w.heap.size zI from blk_drewN HA8.out _)
    have HG9 := Lib.hid (show isI (w8.drewN nd9) g a from blk_drewN HG8.out _)
    have HB9 := Lib.hid (show Below w.heap.size w (w8.drewN nd9) from pw_below_drewN HB8.out _)
    go_wp2_with (first | (refine wpList_store_row rfl 24 (.tmp 2) (.tmp 49) rfl w.heap.size (ic zI).toArray (by rfl) (congrArg Value.agg HE26.out.symm) 24 _ HA9.out (size24 rfl) rfl (ic_one zI) ?_))
    have HD := isI.setRow (n := zI) HA9.out
    have HF := below_setRow HB9.out (Nat.le_refl _) (ic zI).toArray
    refine bodyPost_ret (results_ct rfl _ _ w.heap.size 24 (ic zI).toArray (0, 0) _ rfl HD Tryd.underlying24 rfl (size24 rfl)) rfl ?_
    rw [hfin]
    exact ⟨rfl, HF⟩
  ·
    have hfin : decI L = (a, 0) := by rw [HDEC.out]; exact if_pos ⟨rfl, hk, of_decide_eq_true hs⟩
    have HSM := Lib.hid (show inode_same.f 1001 (encRec a) L = some true from HSM.out.trans (congrArg some hs))
    clear hs hk he
    go_upto_region 7 with (first | ((with_reducible refine gate_dst (N := 33) rfl ?_); (try (refine gate_guard (by rfl) ?_; dsimp only)); refine wpList_load_row rfl 24 (.tmp 6) rfl g (by rfl) 24 (ic a).toArray (0, 0) _ HG6.out Tryd.underlying24 rfl (by rw [List.size_toArray, ic_len HAL.out]; kernel_rfl) ?_) | (go_at_call 24; (with_reducible refine (HEA.out _).mono ?_); rintro e w8 ⟨v8, rfl, hr8, hb8⟩; have HA8 := Lib.hid (isI.below HA6.out hb8); have HG8 := Lib.hid (isI.below HG6.out hb8); have HB8 := Lib.hid (below_box HB6.out hb8); obtain ⟨A8, c8, eo8⟩ := Kd.R_slice hr8; subst eo8; have HR8 := Lib.hid (Kd.R_reads' hr8); clear hr8 hb8))
    go_upto_region 9 with (first | (go_at_call 51; (with_reducible refine (inode_same.calls 1001 A8 c8 (encRec a) A cap L true _ HR8.out.2.2 HR8.out.2.1 (Kd.C_below HC0.out HB8.out) hcap HSM.out).mono ?_); rintro e w9 ⟨rfl, ⟨nd9, rfl⟩⟩))
    have HA9 := Lib.hid (show isI (w8.drewN nd9) w.heap.size zI from blk_drewN HA8.out _)
    have HG9 := Lib.hid (show isI (w8.drewN nd9) g a from blk_drewN HG8.out _)
    have HB9 := Lib.hid (show Below w.heap.size w (w8.drewN nd9) from pw_below_drewN HB8.out _)
    go_wp2_with (first | ((with_reducible refine gate_dst (N := 50) rfl ?_); (try (refine gate_guard (by rfl) ?_; dsimp only)); refine wpList_load_row rfl 24 (.tmp 6) rfl g (by rfl) 24 (ic a).toArray (0, 0) _ HG9.out Tryd.underlying24 rfl (by rw [List.size_toArray, ic_len HAL.out]; kernel_rfl) ?_) | (refine wpList_store_row rfl 24 (.tmp 2) (.tmp 50) rfl w.heap.size (ic a).toArray (by rfl) (by rfl) 24 _ HA9.out (size24 HAL.out) (by rw [List.size_toArray, List.size_toArray, ic_len HAL.out]; rfl) (ic_one a) ?_))
    have HD := isI.setRow (n := a) HA9.out
    have HF := below_setRow HB9.out (Nat.le_refl _) (ic a).toArray
    refine bodyPost_ret (results_ct rfl _ _ w.heap.size 24 (ic a).toArray (0, 0) _ rfl HD Tryd.underlying24 rfl (size24 HAL.out)) rfl ?_
    rw [hfin]
    exact ⟨rfl, HF⟩
end Go.Proofs.YtbhioghpgedkeaaDoor.IN
namespace Go.Proofs.YtbhioghpgedkeaaDoor.IN
open Go.RowKit Go.Proofs.YtbhioghpgedkeaaDoor.MIt Go.Proofs.YtbhioghpgedkeaaDoor.MKf Go.Proofs.YtbhioghpgedkeaaDoorW.PrintWords Go.Proofs.YtbhioghpgedkeaaDoorW.PrintLast Go.Proofs.YtbhioghpgedkeaaDoorW.PrintMore

set_option maxHeartbeats 8000000 in
set_option maxRecDepth 100000 in
theorem rdecI_call (A : Option Addr) (cap : Nat) (L : List S75) (hL : L.length ≤ 1000) (hcap : L.length ≤ cap) (w : World) (hC : Kd.C k75 w A L.length L) :
    Calls Tryd.prog 27 #[.slice A L.length cap] w fun e W' => e = .returned (.tuple #[.agg (ic (rdecI L).1).toArray, .int .i64 (rdecI L).2]) ∧ Below w.heap.size w W' := by
  have HC0 := Lib.hid hC
  have HSU := Lib.hid (fun W hc => rsum_call A cap L hL hcap W hc)
  have HDL := Lib.hid (lay_len (textOf L 3).1 z32 rfl)
  have HN1 := Lib.hid (fun W hc => get_call A cap L 1 hL hcap W hc)
  have HN2 := Lib.hid (fun W hc => get_call A cap L 2 hL hcap W hc)
  have HN4 := Lib.hid (fun W hc => get_call A cap L 4 hL hcap W hc)
  have HN5 := Lib.hid (fun W hc => get_call A cap L 5 hL hcap W hc)
  have HN6 := Lib.hid (fun W hc => get_call A cap L 6 hL hcap W hc)
  have HAL := Lib.hid (inodeOf_len L)
  have HEA := Lib.hid (fun W => renc_call (inodeOf L) HAL.out W)
  have HSM := Lib.hid (Same_eq75 (encE (inodeOf L)).1 L (by have := encE_len (inodeOf L); omega))
  have hdec : rdecI L = if okB (inodeOf L) = true ∧ encRec (inodeOf L) = L then (inodeOf L, 0) else (zI, 5) := rfl
  have harch : inodeOf L = ⟨(numOf L 1).1, (numOf L 2).1, lay (textOf L 3).1 z32, (numOf L 4).1, (numOf L 5).1, (numOf L 6).1⟩ := rfl
  have HE26 := Lib.hid (congrArg List.toArray zI_eq)
  unfold zIL at HE26
  clear hC
  obtain ⟨d, hd⟩ : ∃ d, d = lay (textOf L 3).1 z32 := ⟨_, rfl⟩
  rw [← hd] at HDL HSU harch
  clear hd
  obtain ⟨n1, hn1⟩ : ∃ q, q = (numOf L 1).1 := ⟨_, rfl⟩
  obtain ⟨n2, hn2⟩ : ∃ q, q = (numOf L 2).1 := ⟨_, rfl⟩
  obtain ⟨n4, hn4⟩ : ∃ q, q = (numOf L 4).1 := ⟨_, rfl⟩
  obtain ⟨n5, hn5⟩ : ∃ q, q = (numOf L 5).1 := ⟨_, rfl⟩
  obtain ⟨n6, hn6⟩ : ∃ q, q = (numOf L 6).1 := ⟨_, rfl⟩
  rw [← hn1] at HN1 harch
  rw [← hn2] at HN2 harch
  rw [← hn4] at HN4 harch
  rw [← hn5] at HN5 harch
  rw [← hn6] at HN6 harch
  clear hn1 hn2 hn4 hn5 hn6
  have HB26 := Lib.hid (show ∀ W : World, (Instr.build 24 #[(0, .int .i64 n1), (1, .int .i64 n2), (2, .agg (dg d).toArray), (3, .int .i64 n4), (4, .int .i64 n5), (5, .int .i64 n6)]).run Tryd.prog W = .ok (.agg (ic (inodeOf L)).toArray) W from fun W => by rw [harch]; exact build24_run n1 n2 n4 n5 n6 d HDL.out W)
  have HARCH := Lib.hid harch
  clear harch
  obtain ⟨a, ha⟩ : ∃ a, a = inodeOf L := ⟨_, rfl⟩
  rw [← ha] at HAL HEA HSM HB26 HARCH hdec
  clear ha
  have HEN := Lib.hid (show encE a = if okB a then (encRec a, 0) else ([], 2) from rfl)
  have HDEC := Lib.hid hdec
  clear hdec
  clear HARCH
  go_enter Tryd.func27, Tryd.ntmps27
  go_upto_region 1 with (first | ((with_reducible refine gate_dst (N := 2) rfl ?_); refine wpList_exec_value rfl (exec_alloc 24 rfl (alloc24_run _)) ?_))
  have HA1 := Lib.hid (show isI (w.alloc (.cells (ic zI).toArray 24)) w.heap.size zI from heap_alloc_new _ _)
  have HB1 := Lib.hid (show Below w.heap.size w (w.alloc (.cells (ic zI).toArray 24)) from below_alloc (Below.refl _ _) _)
  generalize w.alloc (.cells (ic zI).toArray 24) = w1 at HA1 HB1 ⊢
  go_upto_region 2 with (first | (go_at_call 52; (with_reducible refine (HN1.out _ (Kd.C_below HC0.out HB1.out)).mono ?_); rintro e wn2 ⟨rfl, hb⟩; have HA2 := Lib.hid (isI.below HA1.out hb); have HB2 := Lib.hid (below_box HB1.out hb); clear hb) | (go_at_call 52; (with_reducible refine (HN2.out _ (Kd.C_below HC0.out HB2.out)).mono ?_); rintro e wn3 ⟨rfl, hb⟩; have HA3 := Lib.hid (isI.below HA2.out hb); have HB3 := Lib.hid (below_box HB2.out hb); clear hb) | (go_at_call 53; (with_reducible refine (HSU.out _ (Kd.C_below HC0.out HB3.out)).mono ?_); rintro e wn4 ⟨rfl, hb⟩; have HA4 := Lib.hid (isI.below HA3.out hb); have HB4 := Lib.hid (below_box HB3.out hb); clear hb) | (go_at_call 52; (with_reducible refine (HN4.out _ (Kd.C_below HC0.out HB4.out)).mono ?_); rintro e wn5 ⟨rfl, hb⟩; have HA5 := Lib.hid (isI.below HA4.out hb); have HB5 := Lib.hid (below_box HB4.out hb); clear hb) | (go_at_call 52; (with_reducible refine (HN5.out _ (Kd.C_below HC0.out HB5.out)).mono ?_); rintro e wn6 ⟨rfl, hb⟩; have HA6 := Lib.hid (isI.below HA5.out hb); have HB6 := Lib.hid (below_box HB5.out hb); clear hb) | (go_at_call 52; (with_reducible refine (HN6.out _ (Kd.C_below HC0.out HB6.out)).mono ?_); rintro e wn7 ⟨rfl, hb⟩; have HA7 := Lib.hid (isI.below HA6.out hb); have HB7 := Lib.hid (below_box HB6.out hb); clear hb) | ((with_reducible refine gate_dst (N := 19) rfl ?_); refine wpList_exec_value rfl (exec_build 24 _ _ rfl (by simp only [List.map_toArray, List.map_cons, List.map_nil]; rfl) (HB26.out _)) ?_) | ((with_reducible refine gate_dst (N := 4) rfl ?_); refine wpList_exec_value rfl (exec_alloc 24 rfl (alloc24_run _)) ?_) | (refine wpList_store_row rfl 24 (.tmp 4) (.tmp 19) rfl wn7.heap.size (ic a).toArray (by rfl) (by rfl) 24 _ (heap_alloc_new _ _) (size24 HAL.out) (by rw [List.size_toArray, List.size_toArray, ic_len HAL.out]; rfl) (ic_one a) ?_; rw [World.setRow_alloc_new]))
  have HG8 := Lib.hid (show isI (wn7.alloc (.cells (ic a).toArray 24)) wn7.heap.size a from heap_alloc_new _ _)
  have HA8 := Lib.hid (show isI (wn7.alloc (.cells (ic a).toArray 24)) w.heap.size zI from blk_alloc HA7.out _)
  have HB8 := Lib.hid (show Below w.heap.size w (wn7.alloc (.cells (ic a).toArray 24)) from below_then HB7.out HB7.out.size (below_alloc (Below.refl _ _) _))
  clear HA1 HB1 HA2 HB2 HA3 HB3 HA4 HB4 HA5 HB5 HA6 HB6 HA7 HB7 HN1 HN2 HN4 HN5 HN6 HB26 HSU
  have HG6 := HG8
  have HA6 := HA8
  have HB6 := HB8
  clear HG8 HA8 HB8
  generalize wn7.alloc (.cells (ic a).toArray 24) = w7 at HA6 HG6 HB6 ⊢
  generalize wn7.heap.size = g at HG6 ⊢
  cases hk : okB a
  ·
    have hfin : rdecI L = (zI, 5) := by rw [HDEC.out]; exact if_neg (fun h => by rw [hk] at h; exact Bool.noConfusion h.1)
    have he : encE a = ([], 2) := by rw [HEN.out, hk]; rfl
    rw [he] at HEA HSM
    go_upto_region 3 with (first | ((with_reducible refine gate_dst (N := 21) rfl ?_); (try (refine gate_guard (by rfl) ?_; dsimp only)); refine wpList_load_row rfl 24 (.tmp 4) rfl g (by rfl) 24 (ic a).toArray (0, 0) _ HG6.out Tryd.underlying24 rfl (by rw [List.size_toArray, ic_len HAL.out]; kernel_rfl) ?_) | (go_at_call 25; (with_reducible refine (HEA.out _).mono ?_); rintro e w8 ⟨v8, rfl, hr8, hb8⟩; have HA8 := Lib.hid (isI.below HA6.out hb8); have HG8 := Lib.hid (isI.below HG6.out hb8); have HB8 := Lib.hid (below_box HB6.out hb8); obtain ⟨A8, c8, eo8⟩ := Kd.R_slice hr8; subst eo8; have HR8 := Lib.hid (Kd.R_reads' hr8); clear hr8 hb8))
    go_upto_region 4 with (fail)
    have HA9 := Lib.hid (show isI w8 w.heap.size zI from HA8.out)
    have HG9 := Lib.hid (show isI w8 g a from HG8.out)
    have HB9 := Lib.hid (show Below w.heap.size w w8 from HB8.out)
    go_wp2_with (first | (refine wpList_store_row rfl 24 (.tmp 2) (.tmp 33) rfl w.heap.size (ic zI).toArray (by rfl) (congrArg Value.agg HE26.out.symm) 24 _ HA9.out (size24 rfl) rfl (ic_one zI) ?_))
    have HD := isI.setRow (n := zI) HA9.out
    have HF := below_setRow HB9.out (Nat.le_refl _) (ic zI).toArray
    refine bodyPost_ret (results_ct rfl _ _ w.heap.size 24 (ic zI).toArray (0, 0) _ rfl HD Tryd.underlying24 rfl (size24 rfl)) rfl ?_
    rw [hfin]
    exact ⟨rfl, HF⟩
  have he : encE a = (encRec a, 0) := by rw [HEN.out, hk]; rfl
  rw [he] at HEA HSM
  cases hs : decide (encRec a = L)
  ·
    have hfin : rdecI L = (zI, 5) := by rw [HDEC.out]; exact if_neg (fun h => by rw [decide_eq_false_iff_not] at hs; exact hs h.2)
    have HSM := Lib.hid (show aquiferref04_Same.f 1001 (encRec a) L = some false from HSM.out.trans (congrArg some hs))
    clear hs hk he
    go_upto_region 3 with (first | ((with_reducible refine gate_dst (N := 21) rfl ?_); (try (refine gate_guard (by rfl) ?_; dsimp only)); refine wpList_load_row rfl 24 (.tmp 4) rfl g (by rfl) 24 (ic a).toArray (0, 0) _ HG6.out Tryd.underlying24 rfl (by rw [List.size_toArray, ic_len HAL.out]; kernel_rfl) ?_) | (go_at_call 25; (with_reducible refine (HEA.out _).mono ?_); rintro e w8 ⟨v8, rfl, hr8, hb8⟩; have HA8 := Lib.hid (isI.below HA6.out hb8); have HG8 := Lib.hid (isI.below HG6.out hb8); have HB8 := Lib.hid (below_box HB6.out hb8); obtain ⟨A8, c8, eo8⟩ := Kd.R_slice hr8; subst eo8; have HR8 := Lib.hid (Kd.R_reads' hr8); clear hr8 hb8))
    go_upto_region 4 with (first | (go_at_call 23; (with_reducible refine (aquiferref04_Same.calls 1001 A8 c8 (encRec a) A cap L false _ HR8.out.2.2 HR8.out.2.1 (Kd.C_below HC0.out HB8.out) hcap HSM.out).mono ?_); rintro e w9 ⟨rfl, ⟨nd9, rfl⟩⟩))
    have HA9 := Lib.hid (show isI (w8.drewN nd9) w.heap.size zI from blk_drewN HA8.out _)
    have HG9 := Lib.hid (show isI (w8.drewN nd9) g a from blk_drewN HG8.out _)
    have HB9 := Lib.hid (show Below w.heap.size w (w8.drewN nd9) from pw_below_drewN HB8.out _)
    go_wp2_with (first | (refine wpList_store_row rfl 24 (.tmp 2) (.tmp 33) rfl w.heap.size (ic zI).toArray (by rfl) (congrArg Value.agg HE26.out.symm) 24 _ HA9.out (size24 rfl) rfl (ic_one zI) ?_))
    have HD := isI.setRow (n := zI) HA9.out
    have HF := below_setRow HB9.out (Nat.le_refl _) (ic zI).toArray
    refine bodyPost_ret (results_ct rfl _ _ w.heap.size 24 (ic zI).toArray (0, 0) _ rfl HD Tryd.underlying24 rfl (size24 rfl)) rfl ?_
    rw [hfin]
    exact ⟨rfl, HF⟩
  ·
    have hfin : rdecI L = (a, 0) := by rw [HDEC.out]; exact if_pos ⟨hk, of_decide_eq_true hs⟩
    have HSM := Lib.hid (show aquiferref04_Same.f 1001 (encRec a) L = some true from HSM.out.trans (congrArg some hs))
    clear hs hk he
    go_upto_region 3 with (first | ((with_reducible refine gate_dst (N := 21) rfl ?_); (try (refine gate_guard (by rfl) ?_; dsimp only)); refine wpList_load_row rfl 24 (.tmp 4) rfl g (by rfl) 24 (ic a).toArray (0, 0) _ HG6.out Tryd.underlying24 rfl (by rw [List.size_toArray, ic_len HAL.out]; kernel_rfl) ?_) | (go_at_call 25; (with_reducible refine (HEA.out _).mono ?_); rintro e w8 ⟨v8, rfl, hr8, hb8⟩; have HA8 := Lib.hid (isI.below HA6.out hb8); have HG8 := Lib.hid (isI.below HG6.out hb8); have HB8 := Lib.hid (below_box HB6.out hb8); obtain ⟨A8, c8, eo8⟩ := Kd.R_slice hr8; subst eo8; have HR8 := Lib.hid (Kd.R_reads' hr8); clear hr8 hb8))
    go_upto_region 5 with (first | (go_at_call 23; (with_reducible refine (aquiferref04_Same.calls 1001 A8 c8 (encRec a) A cap L true _ HR8.out.2.2 HR8.out.2.1 (Kd.C_below HC0.out HB8.out) hcap HSM.out).mono ?_); rintro e w9 ⟨rfl, ⟨nd9, rfl⟩⟩))
    have HA9 := Lib.hid (show isI (w8.drewN nd9) w.heap.size zI from blk_drewN HA8.out _)
    have HG9 := Lib.hid (show isI (w8.drewN nd9) g a from blk_drewN HG8.out _)
    have HB9 := Lib.hid (show Below w.heap.size w (w8.drewN nd9) from pw_below_drewN HB8.out _)
    go_wp2_with (first | ((with_reducible refine gate_dst (N := 34) rfl ?_); (try (refine gate_guard (by rfl) ?_; dsimp only)); refine wpList_load_row rfl 24 (.tmp 4) rfl g (by rfl) 24 (ic a).toArray (0, 0) _ HG9.out Tryd.underlying24 rfl (by rw [List.size_toArray, ic_len HAL.out]; kernel_rfl) ?_) | (refine wpList_store_row rfl 24 (.tmp 2) (.tmp 34) rfl w.heap.size (ic a).toArray (by rfl) (by rfl) 24 _ HA9.out (size24 HAL.out) (by rw [List.size_toArray, List.size_toArray, ic_len HAL.out]; rfl) (ic_one a) ?_))
    have HD := isI.setRow (n := a) HA9.out
    have HF := below_setRow HB9.out (Nat.le_refl _) (ic a).toArray
    refine bodyPost_ret (results_ct rfl _ _ w.heap.size 24 (ic a).toArray (0, 0) _ rfl HD Tryd.underlying24 rfl (size24 HAL.out)) rfl ?_
    rw [hfin]
    exact ⟨rfl, HF⟩
end Go.Proofs.YtbhioghpgedkeaaDoor.IN
namespace Go.Proofs.YtbhioghpgedkeaaDoor.IN
open Go.RowKit Go.Proofs.YtbhioghpgedkeaaDoor.MIt Go.Proofs.YtbhioghpgedkeaaDoor.MKf Go.Proofs.YtbhioghpgedkeaaDoorW.PrintWords Go.Proofs.YtbhioghpgedkeaaDoorW.PrintLast Go.Proofs.YtbhioghpgedkeaaDoorW.PrintMore

theorem decI_len (L : List S75) : (decI L).1.s.length = 32 := by
  unfold decI
  split
  · exact inodeOf_len L
  · rfl
structure CSt (w : World) (g2 g9 g11 : Nat) (n x : IV) (l : List S75) (A3 A4 : Option Addr) (w' : World) : Prop where
  i2 : isI w' g2 n
  i9 : isI w' g9 x
  i11 : isI w' g11 x
  c3 : Kd.C k75 w' A3 l.length l
  c4 : Kd.C k75 w' A4 l.length l
  b : Below w.heap.size w w'
theorem CSt.below {w w' w'' : World} {g2 g9 g11 : Nat} {n x : IV} {l : List S75} {A3 A4 : Option Addr} (h : CSt w g2 g9 g11 n x l A3 A4 w') (hb : Below w'.heap.size w' w'') : CSt w g2 g9 g11 n x l A3 A4 w'' :=
  ⟨h.i2.below hb, h.i9.below hb, h.i11.below hb, Kd.C_below h.c3 hb, Kd.C_below h.c4 hb, below_box h.b hb⟩
set_option maxHeartbeats 8000000 in
set_option maxRecDepth 100000 in
theorem codes_call (n : IV) (hn : n.s.length = 32) (A : Option Addr) (cap : Nat) (L : List S75) (hcap : L.length ≤ cap) (w : World) (hC : Kd.C k75 w A L.length L) :
    Calls Tryd.prog 6 #[.agg (ic n).toArray, .slice A L.length cap] w fun e w' => e = .returned (.bool true) ∧ Below w.heap.size w w' := by
  obtain ⟨r, hr, hrl⟩ := few75 L
  have HM := Lib.hid hn
  have HF := Lib.hid (fun W hc => aquiferlaw17_few.calls 13 A cap L r W hc hcap hr)
  have HE := Lib.hid (enc_call n hn)
  have HRE := Lib.hid (renc_call n hn)
  have HCK := Lib.hid (check_call n hn)
  have HRCK := Lib.hid (rcheck_call n hn)
  have HSM := Lib.hid ((Same_eq75 (encE n).1 (encE n).1 (by have := encE_len n; omega)).trans (congrArg some (decide_eq_true rfl)))
  have HD := Lib.hid (fun A' cap' hc' W hC' => decI_call A' cap' r (by omega) hc' W hC')
  have HRD := Lib.hid (fun A' cap' hc' W hC' => rdecI_call A' cap' r (by omega) hc' W hC')
  rw [← decI_same] at HRD
  have HX := Lib.hid (decI_len r)
  have HC0 := Lib.hid hC
  have HW := Lib.hid works_call
  clear hC hr hn
  generalize decI r = y at HD HRD HX
  obtain ⟨x, ex⟩ := y
  have hq : ∀ W : World, (Op.equalIn 10000 24 (.agg (ic x).toArray) (.agg (ic x).toArray)).run Tryd.prog W = .ok true W := fun W => (eq24 9997 W HX.out HX.out).trans (by rw [decide_eq_true rfl])
  have HQQ := Lib.hid hq
  clear hq
  generalize encE n = z at HE HRE HSM
  obtain ⟨l, el⟩ := z
  generalize code n = cn at HCK HRCK
  go_enter Tryd.func6, Tryd.ntmps6
  go_upto_region 2 with (first | ((with_reducible refine gate_dst (N := 2) rfl ?_); refine box_event ?hg (N := 2) ?hd (cs := (ic n).toArray) (t := 24) ?hr ?_; (case hd => rfl); (case hg => rfl); (case hr => first | (go_simp; done) | (go_simp; rfl)); intro ga hg_ w1 hbox_ hb_; have HA := Lib.hid hbox_; have HAb := Lib.hid hb_; have HAg := Lib.hid hg_; clear hbox_ hb_ hg_) | (go_at_call 18; (with_reducible refine (HF.out _ (Kd.C_below HC0.out HAb.out)).mono ?_); rintro e w2 ⟨v2, rfl, hr2, hb2⟩; obtain ⟨A2, c2, eo2⟩ := Kd.R_slice hr2; subst eo2; have HR2 := Lib.hid (Kd.R_reads' hr2); have HA2 := Lib.hid (isI.below HA.out hb2); have HB2 := Lib.hid (below_box HAb.out hb2); clear hr2 hb2))
  clear HA HAb HAg HC0 HF
  go_upto_region 3 with (first | ((with_reducible refine gate_dst (N := 16) rfl ?_); (try (refine gate_guard (by rfl) ?_; dsimp only)); refine wpList_load_row rfl 24 (.tmp 2) rfl ga (by rfl) 24 (ic n).toArray (0, 0) _ HA2.out Tryd.underlying24 rfl (by rw [List.size_toArray, ic_len HM.out]; kernel_rfl) ?_) | (go_at_call 24; (with_reducible refine (HE.out _).mono ?_); rintro e w3 ⟨v3, rfl, hr3, hb3⟩; obtain ⟨A3, c3, eo3⟩ := Kd.R_slice hr3; subst eo3; have HR3 := Lib.hid (Kd.R_reads' hr3); have HA3 := Lib.hid (isI.below HA2.out hb3); have HB3 := Lib.hid (below_box HB2.out hb3); have HC3 := Lib.hid (Kd.C_below HR2.out.2.2 hb3); clear hr3 hb3))
  clear HA2 HB2 HE
  have hc2 := HR2.out.2.1
  clear HR2
  go_upto_region 4 with (first | ((with_reducible refine gate_dst (N := 21) rfl ?_); (try (refine gate_guard (by rfl) ?_; dsimp only)); refine wpList_load_row rfl 24 (.tmp 2) rfl ga (by rfl) 24 (ic n).toArray (0, 0) _ HA3.out Tryd.underlying24 rfl (by rw [List.size_toArray, ic_len HM.out]; kernel_rfl) ?_) | (go_at_call 25; (with_reducible refine (HRE.out _).mono ?_); rintro e w4 ⟨v4, rfl, hr4, hb4⟩; obtain ⟨A4, c4, eo4⟩ := Kd.R_slice hr4; subst eo4; have HR4 := Lib.hid (Kd.R_reads' hr4); have HA4 := Lib.hid (isI.below HA3.out hb4); have HB4 := Lib.hid (below_box HB3.out hb4); have HC4 := Lib.hid (Kd.C_below HC3.out hb4); have HL4 := Lib.hid (Kd.C_below HR3.out.2.2 hb4); clear hr4 hb4))
  clear HA3 HB3 HC3 HRE
  have hc3 := HR3.out.2.1
  clear HR3
  go_upto_region 5 with (first | (go_at_call 26; (with_reducible refine (HD.out A2 c2 hc2 _ HC4.out).mono ?_); rintro e w5 ⟨rfl, hb5⟩; have HB5 := Lib.hid (below_box HB4.out hb5); have HA5 := Lib.hid (isI.below HA4.out hb5); have HC5 := Lib.hid (Kd.C_below HC4.out hb5); have HL5 := Lib.hid (Kd.C_below HL4.out hb5); have HM5 := Lib.hid (Kd.C_below HR4.out.2.2 hb5); clear hb5) | ((with_reducible refine gate_dst (N := 9) rfl ?_); refine wpList_exec_value rfl (exec_alloc 24 rfl (alloc24_run _)) ?_) | (refine wpList_store_row rfl 24 (.tmp 9) (.tmp 28) rfl w5.heap.size (ic x).toArray (by rfl) (by rfl) 24 _ (heap_alloc_new _ _) (size24 HX.out) (by rw [List.size_toArray, List.size_toArray, ic_len HX.out]; rfl) (ic_one x) ?_; rw [World.setRow_alloc_new]))
  clear HA4 HB4 HC4 HL4 HD
  have hc4 := HR4.out.2.1
  clear HR4
  have hb6 := below_alloc (Below.refl w5.heap.size w5) (.cells (ic x).toArray 24)
  have HG6 := Lib.hid (show isI (w5.alloc (.cells (ic x).toArray 24)) w5.heap.size x from heap_alloc_new _ _)
  have HA6 := Lib.hid (isI.below HA5.out hb6)
  have HB6 := Lib.hid (below_box HB5.out hb6)
  have HC6 := Lib.hid (Kd.C_below HC5.out hb6)
  have HL6 := Lib.hid (Kd.C_below HL5.out hb6)
  have HM6 := Lib.hid (Kd.C_below HM5.out hb6)
  clear hb6 HA5 HB5 HC5 HL5 HM5
  generalize w5.alloc (.cells (ic x).toArray 24) = w6 at HG6 HA6 HB6 HC6 HL6 HM6 ⊢
  generalize w5.heap.size = g9 at HG6 ⊢
  go_upto_region 6 with (first | (go_at_call 27; (with_reducible refine (HRD.out A2 c2 hc2 _ HC6.out).mono ?_); rintro e w7 ⟨rfl, hb7⟩; have HB7 := Lib.hid (below_box HB6.out hb7); have HA7 := Lib.hid (isI.below HA6.out hb7); have HG7 := Lib.hid (isI.below HG6.out hb7); have HL7 := Lib.hid (Kd.C_below HL6.out hb7); have HM7 := Lib.hid (Kd.C_below HM6.out hb7); clear hb7) | ((with_reducible refine gate_dst (N := 11) rfl ?_); refine wpList_exec_value rfl (exec_alloc 24 rfl (alloc24_run _)) ?_) | (refine wpList_store_row rfl 24 (.tmp 11) (.tmp 33) rfl w7.heap.size (ic x).toArray (by rfl) (by rfl) 24 _ (heap_alloc_new _ _) (size24 HX.out) (by rw [List.size_toArray, List.size_toArray, ic_len HX.out]; rfl) (ic_one x) ?_; rw [World.setRow_alloc_new]))
  clear HG6 HA6 HB6 HC6 HL6 HM6 HRD
  have hb8 := below_drew1 (below_alloc (Below.refl w7.heap.size w7) (.cells (ic x).toArray 24))
  have HQ := Lib.hid (show CSt w ga g9 w7.heap.size n x l A3 A4 (w7.alloc (.cells (ic x).toArray 24)).drew from ⟨isI.below HA7.out hb8, isI.below HG7.out hb8, blk_drew (heap_alloc_new _ _), Kd.C_below HL7.out hb8, Kd.C_below HM7.out hb8, below_box HB7.out hb8⟩)
  clear hb8 HB7 HA7 HG7 HL7 HM7
  refine start_ (n := 29) (S := CSt w ga g9 w7.heap.size n x l A3 A4) (ds := []) #[false, false, false, false, false, false, false, false, false, false, false, false, false, false, false, false, false, false, false, false, false, false, false, false, false, false, false, false, false] (by kernel_rfl) rfl rfl HQ.out (fun hHeld => ?_)
  clear HQ
  generalize (w7.alloc (.cells (ic x).toArray 24)).drew = w8 at hHeld ⊢
  generalize w7.heap.size = g11 at hHeld ⊢
  refine take_ (i := 0) (N := some 35) (v := .agg (ic n).toArray) (a' := ?_) #[true, false, false, false, false, false, false, false, false, false, false, false, false, false, false, false, false, false, false, false, false, false, false, false, false, false, false, false, false] rfl rfl (by kernel_rfl) (fun _ _ _ h => h) (yieldsIf_load_mid (by rfl) 24 (.tmp 2) rfl ga 0 (by rfl) (ic n) _ (fun w h => (CSt.i2 h).whole) Tryd.underlying24 rfl (by rw [ic_len HM.out]; kernel_rfl)) hHeld ?_ ?_
  rotate_left
  · simp only [Act.put, List.setIfInBounds_toArray, List.set_cons_zero, List.set_cons_succ, i64_w, i32_w]
    rfl
  refine take_ (i := 2) (N := some 37) (v := .agg (ic n).toArray) (a' := ?_) #[true, false, true, false, false, false, false, false, false, false, false, false, false, false, false, false, false, false, false, false, false, false, false, false, false, false, false, false, false] rfl rfl (by kernel_rfl) (fun _ _ _ h => h) (yieldsIf_load_mid (by rfl) 24 (.tmp 2) rfl ga 0 (by rfl) (ic n) _ (fun w h => (CSt.i2 h).whole) Tryd.underlying24 rfl (by rw [ic_len HM.out]; kernel_rfl)) hHeld ?_ ?_
  rotate_left
  · simp only [Act.put, List.setIfInBounds_toArray, List.set_cons_zero, List.set_cons_succ, i64_w, i32_w]
    rfl
  refine one_ (i := 1) (N := some 36) #[true, true, true, false, false, false, false, false, false, false, false, false, false, false, false, false, false, false, false, false, false, false, false, false, false, false, false, false, false] rfl rfl (by kernel_rfl) (by decide) (fun K hK => ?_)
  refine goes_ Tryd.func17 (by kernel_rfl) rfl #[.agg (ic n).toArray] (by rfl) rfl rfl (by first | rfl | (simp only [List.map_toArray, List.map_cons, List.map_nil]; done) | (simp only [List.map_toArray, List.map_cons, List.map_nil]; rfl)) ?_
  (with_reducible refine (HCK.out _).mono ?_)
  rintro e w9 ⟨rfl, hb2⟩
  refine ⟨_, rfl, ?_⟩
  have hbb := Lib.hid (CSt.below hHeld hb2)
  clear hb2 hHeld
  refine hK.out _ _ hbb.out (fun hHeld => ?_)
  clear hK K
  refine norm_ (a' := ?_) ?_ ?_
  rotate_left
  · show Act.put _ (some 36) _ = _
    simp only [Act.put, List.setIfInBounds_toArray, List.set_cons_zero, List.set_cons_succ, i64_w, i32_w]
    rfl
  clear hbb
  refine one_ (i := 3) (N := some 38) #[true, true, true, true, false, false, false, false, false, false, false, false, false, false, false, false, false, false, false, false, false, false, false, false, false, false, false, false, false] rfl rfl (by kernel_rfl) (by decide) (fun K hK => ?_)
  refine goes_ Tryd.func28 (by kernel_rfl) rfl #[.agg (ic n).toArray] (by rfl) rfl rfl (by first | rfl | (simp only [List.map_toArray, List.map_cons, List.map_nil]; done) | (simp only [List.map_toArray, List.map_cons, List.map_nil]; rfl)) ?_
  (with_reducible refine (HRCK.out _).mono ?_)
  rintro e w9 ⟨rfl, hb2⟩
  refine ⟨_, rfl, ?_⟩
  have hbb := Lib.hid (CSt.below hHeld hb2)
  clear hb2 hHeld
  refine hK.out _ _ hbb.out (fun hHeld => ?_)
  clear hK K
  refine norm_ (a' := ?_) ?_ ?_
  rotate_left
  · show Act.put _ (some 38) _ = _
    simp only [Act.put, List.setIfInBounds_toArray, List.set_cons_zero, List.set_cons_succ, i64_w, i32_w]
    rfl
  clear hbb
  refine pure_ (i := 4) (N := some 39) (v := ?_) (a' := ?_) #[true, true, true, true, true, false, false, false, false, false, false, false, false, false, false, false, false, false, false, false, false, false, false, false, false, false, false, false, false] rfl rfl (by kernel_rfl) (fun _ _ _ h => h) (Or.inl ⟨by rfl, ?_⟩) ?_ ?_
  rotate_left
  · intro w'
    go_simp
    with_reducible rfl
  rotate_left
  · simp only [Act.put, List.setIfInBounds_toArray, List.set_cons_zero, List.set_cons_succ, i64_w, i32_w]
    rfl
  refine pure_ (i := 5) (N := some 40) (v := ?_) (a' := ?_) #[true, true, true, true, true, true, false, false, false, false, false, false, false, false, false, false, false, false, false, false, false, false, false, false, false, false, false, false, false] rfl rfl (by kernel_rfl) (fun _ _ _ h => h) (Or.inl ⟨by rfl, ?_⟩) ?_ ?_
  rotate_left
  · intro w'
    go_simp
    with_reducible rfl
  rotate_left
  · simp only [Act.put, List.setIfInBounds_toArray, List.set_cons_zero, List.set_cons_succ, i64_w, i32_w]
    rfl
  refine pure_ (i := 6) (N := some 41) (v := ?_) (a' := ?_) #[true, true, true, true, true, true, true, false, false, false, false, false, false, false, false, false, false, false, false, false, false, false, false, false, false, false, false, false, false] rfl rfl (by kernel_rfl) (fun _ _ _ h => h) (Or.inl ⟨by rfl, ?_⟩) ?_ ?_
  rotate_left
  · intro w'
    go_simp
    with_reducible rfl
  rotate_left
  · simp only [Act.put, List.setIfInBounds_toArray, List.set_cons_zero, List.set_cons_succ, i64_w, i32_w]
    rfl
  refine pure_ (i := 7) (N := some 42) (v := ?_) (a' := ?_) #[true, true, true, true, true, true, true, true, false, false, false, false, false, false, false, false, false, false, false, false, false, false, false, false, false, false, false, false, false] rfl rfl (by kernel_rfl) (fun _ _ _ h => h) (Or.inl ⟨by rfl, ?_⟩) ?_ ?_
  rotate_left
  · intro w'
    go_simp
    with_reducible rfl
  rotate_left
  · simp only [Act.put, List.setIfInBounds_toArray, List.set_cons_zero, List.set_cons_succ, i64_w, i32_w]
    rfl
  refine one_ (i := 8) (N := some 43) #[true, true, true, true, true, true, true, true, true, false, false, false, false, false, false, false, false, false, false, false, false, false, false, false, false, false, false, false, false] rfl rfl (by kernel_rfl) (by decide) (fun K hK => ?_)
  refine goes_ Tryd.func23 (by kernel_rfl) rfl #[.slice A3 l.length c3, .slice A4 l.length c4] (by rfl) rfl rfl (by first | rfl | (simp only [List.map_toArray, List.map_cons, List.map_nil]; done) | (simp only [List.map_toArray, List.map_cons, List.map_nil]; rfl)) ?_
  (with_reducible refine (aquiferref04_Same.calls 1001 A3 c3 l A4 c4 l true _ (CSt.c3 hHeld) hc3 (CSt.c4 hHeld) hc4 HSM.out).mono ?_)
  rintro e w9 ⟨rfl, ⟨nd, rfl⟩⟩
  refine ⟨_, rfl, ?_⟩
  have hbb := Lib.hid (CSt.below hHeld (pw_below_drewN (Below.refl _ _) nd))
  clear hHeld
  refine hK.out _ _ hbb.out (fun hHeld => ?_)
  clear hK K
  refine norm_ (a' := ?_) ?_ ?_
  rotate_left
  · show Act.put _ (some 43) _ = _
    simp only [Act.put, List.setIfInBounds_toArray, List.set_cons_zero, List.set_cons_succ, i64_w, i32_w]
    rfl
  clear hbb
  refine pure_ (i := 9) (N := some 44) (v := ?_) (a' := ?_) #[true, true, true, true, true, true, true, true, true, true, false, false, false, false, false, false, false, false, false, false, false, false, false, false, false, false, false, false, false] rfl rfl (by kernel_rfl) (fun _ _ _ h => h) (Or.inl ⟨by rfl, ?_⟩) ?_ ?_
  rotate_left
  · intro w'
    go_simp
    with_reducible rfl
  rotate_left
  · simp only [Act.put, List.setIfInBounds_toArray, List.set_cons_zero, List.set_cons_succ, i64_w, i32_w]
    rfl
  refine pure_ (i := 10) (N := some 45) (v := ?_) (a' := ?_) #[true, true, true, true, true, true, true, true, true, true, true, false, false, false, false, false, false, false, false, false, false, false, false, false, false, false, false, false, false] rfl rfl (by kernel_rfl) (fun _ _ _ h => h) (Or.inl ⟨by rfl, ?_⟩) ?_ ?_
  rotate_left
  · intro w'
    go_simp
    with_reducible rfl
  rotate_left
  · simp only [Act.put, List.setIfInBounds_toArray, List.set_cons_zero, List.set_cons_succ, i64_w, i32_w]
    rfl
  refine pure_ (i := 11) (N := some 46) (v := ?_) (a' := ?_) #[true, true, true, true, true, true, true, true, true, true, true, true, false, false, false, false, false, false, false, false, false, false, false, false, false, false, false, false, false] rfl rfl (by kernel_rfl) (fun _ _ _ h => h) (Or.inl ⟨by rfl, ?_⟩) ?_ ?_
  rotate_left
  · intro w'
    go_simp
    with_reducible rfl
  rotate_left
  · simp only [Act.put, List.setIfInBounds_toArray, List.set_cons_zero, List.set_cons_succ, i64_w, i32_w]
    rfl
  refine pure_ (i := 12) (N := some 47) (v := ?_) (a' := ?_) #[true, true, true, true, true, true, true, true, true, true, true, true, true, false, false, false, false, false, false, false, false, false, false, false, false, false, false, false, false] rfl rfl (by kernel_rfl) (fun _ _ _ h => h) (Or.inl ⟨by rfl, ?_⟩) ?_ ?_
  rotate_left
  · intro w'
    go_simp
    with_reducible rfl
  rotate_left
  · simp only [Act.put, List.setIfInBounds_toArray, List.set_cons_zero, List.set_cons_succ, i64_w, i32_w]
    rfl
  refine pure_ (i := 13) (N := some 48) (v := ?_) (a' := ?_) #[true, true, true, true, true, true, true, true, true, true, true, true, true, true, false, false, false, false, false, false, false, false, false, false, false, false, false, false, false] rfl rfl (by kernel_rfl) (fun _ _ _ h => h) (Or.inl ⟨by rfl, ?_⟩) ?_ ?_
  rotate_left
  · intro w'
    go_simp
    with_reducible rfl
  rotate_left
  · simp only [Act.put, List.setIfInBounds_toArray, List.set_cons_zero, List.set_cons_succ, i64_w, i32_w]
    rfl
  refine pure_ (i := 14) (N := some 49) (v := ?_) (a' := ?_) #[true, true, true, true, true, true, true, true, true, true, true, true, true, true, true, false, false, false, false, false, false, false, false, false, false, false, false, false, false] rfl rfl (by kernel_rfl) (fun _ _ _ h => h) (Or.inl ⟨by rfl, ?_⟩) ?_ ?_
  rotate_left
  · intro w'
    go_simp
    with_reducible rfl
  rotate_left
  · simp only [Act.put, List.setIfInBounds_toArray, List.set_cons_zero, List.set_cons_succ, i64_w, i32_w]
    rfl
  refine pure_ (i := 15) (N := some 50) (v := ?_) (a' := ?_) #[true, true, true, true, true, true, true, true, true, true, true, true, true, true, true, true, false, false, false, false, false, false, false, false, false, false, false, false, false] rfl rfl (by kernel_rfl) (fun _ _ _ h => h) (Or.inl ⟨by rfl, ?_⟩) ?_ ?_
  rotate_left
  · intro w'
    go_simp
    with_reducible rfl
  rotate_left
  · simp only [Act.put, List.setIfInBounds_toArray, List.set_cons_zero, List.set_cons_succ, i64_w, i32_w]
    rfl
  refine take_ (i := 16) (N := some 51) (v := .agg (ic x).toArray) (a' := ?_) #[true, true, true, true, true, true, true, true, true, true, true, true, true, true, true, true, true, false, false, false, false, false, false, false, false, false, false, false, false] rfl rfl (by kernel_rfl) (fun _ _ _ h => h) (yieldsIf_load_mid (by rfl) 24 (.tmp 9) rfl g9 0 (by rfl) (ic x) _ (fun w h => (CSt.i9 h).whole) Tryd.underlying24 rfl (by rw [ic_len HX.out]; kernel_rfl)) hHeld ?_ ?_
  rotate_left
  · simp only [Act.put, List.setIfInBounds_toArray, List.set_cons_zero, List.set_cons_succ, i64_w, i32_w]
    rfl
  refine take_ (i := 17) (N := some 52) (v := .agg (ic x).toArray) (a' := ?_) #[true, true, true, true, true, true, true, true, true, true, true, true, true, true, true, true, true, true, false, false, false, false, false, false, false, false, false, false, false] rfl rfl (by kernel_rfl) (fun _ _ _ h => h) (yieldsIf_load_mid (by rfl) 24 (.tmp 11) rfl g11 0 (by rfl) (ic x) _ (fun w h => (CSt.i11 h).whole) Tryd.underlying24 rfl (by rw [ic_len HX.out]; kernel_rfl)) hHeld ?_ ?_
  rotate_left
  · simp only [Act.put, List.setIfInBounds_toArray, List.set_cons_zero, List.set_cons_succ, i64_w, i32_w]
    rfl
  have hq := HQQ.out
  refine pure_ (i := 18) (N := some 53) (v := ?_) (a' := ?_) #[true, true, true, true, true, true, true, true, true, true, true, true, true, true, true, true, true, true, true, false, false, false, false, false, false, false, false, false, false] rfl rfl (by kernel_rfl) (fun _ _ _ h => h) (Or.inl ⟨by rfl, ?_⟩) ?_ ?_
  rotate_left
  · intro w'
    go_simp
    with_reducible rfl
  rotate_left
  · simp only [Act.put, List.setIfInBounds_toArray, List.set_cons_zero, List.set_cons_succ, i64_w, i32_w]
    rfl
  clear hq
  refine pure_ (i := 19) (N := some 54) (v := ?_) (a' := ?_) #[true, true, true, true, true, true, true, true, true, true, true, true, true, true, true, true, true, true, true, true, false, false, false, false, false, false, false, false, false] rfl rfl (by kernel_rfl) (fun _ _ _ h => h) (Or.inl ⟨by rfl, ?_⟩) ?_ ?_
  rotate_left
  · intro w'
    go_simp
    with_reducible rfl
  rotate_left
  · simp only [Act.put, List.setIfInBounds_toArray, List.set_cons_zero, List.set_cons_succ, i64_w, i32_w]
    rfl
  refine pure_ (i := 20) (N := some 55) (v := ?_) (a' := ?_) #[true, true, true, true, true, true, true, true, true, true, true, true, true, true, true, true, true, true, true, true, true, false, false, false, false, false, false, false, false] rfl rfl (by kernel_rfl) (fun _ _ _ h => h) (Or.inl ⟨by rfl, ?_⟩) ?_ ?_
  rotate_left
  · intro w'
    go_simp
    with_reducible rfl
  rotate_left
  · simp only [Act.put, List.setIfInBounds_toArray, List.set_cons_zero, List.set_cons_succ, i64_w, i32_w]
    rfl
  refine pure_ (i := 21) (N := some 56) (v := ?_) (a' := ?_) #[true, true, true, true, true, true, true, true, true, true, true, true, true, true, true, true, true, true, true, true, true, true, false, false, false, false, false, false, false] rfl rfl (by kernel_rfl) (fun _ _ _ h => h) (Or.inl ⟨by rfl, ?_⟩) ?_ ?_
  rotate_left
  · intro w'
    go_simp
    with_reducible rfl
  rotate_left
  · simp only [Act.put, List.setIfInBounds_toArray, List.set_cons_zero, List.set_cons_succ, i64_w, i32_w]
    rfl
  refine pure_ (i := 22) (N := some 57) (v := ?_) (a' := ?_) #[true, true, true, true, true, true, true, true, true, true, true, true, true, true, true, true, true, true, true, true, true, true, true, false, false, false, false, false, false] rfl rfl (by kernel_rfl) (fun _ _ _ h => h) (Or.inl ⟨by rfl, ?_⟩) ?_ ?_
  rotate_left
  · intro w'
    go_simp
    with_reducible rfl
  rotate_left
  · simp only [Act.put, List.setIfInBounds_toArray, List.set_cons_zero, List.set_cons_succ, i64_w, i32_w]
    rfl
  refine pure_ (i := 23) (N := some 58) (v := ?_) (a' := ?_) #[true, true, true, true, true, true, true, true, true, true, true, true, true, true, true, true, true, true, true, true, true, true, true, true, false, false, false, false, false] rfl rfl (by kernel_rfl) (fun _ _ _ h => h) (Or.inl ⟨by rfl, ?_⟩) ?_ ?_
  rotate_left
  · intro w'
    go_simp
    with_reducible rfl
  rotate_left
  · simp only [Act.put, List.setIfInBounds_toArray, List.set_cons_zero, List.set_cons_succ, i64_w, i32_w]
    rfl
  refine pure_ (i := 24) (N := some 59) (v := ?_) (a' := ?_) #[true, true, true, true, true, true, true, true, true, true, true, true, true, true, true, true, true, true, true, true, true, true, true, true, true, false, false, false, false] rfl rfl (by kernel_rfl) (fun _ _ _ h => h) (Or.inl ⟨by rfl, ?_⟩) ?_ ?_
  rotate_left
  · intro w'
    go_simp
    with_reducible rfl
  rotate_left
  · simp only [Act.put, List.setIfInBounds_toArray, List.set_cons_zero, List.set_cons_succ, i64_w, i32_w]
    rfl
  refine pure_ (i := 25) (N := some 60) (v := ?_) (a' := ?_) #[true, true, true, true, true, true, true, true, true, true, true, true, true, true, true, true, true, true, true, true, true, true, true, true, true, true, false, false, false] rfl rfl (by kernel_rfl) (fun _ _ _ h => h) (Or.inl ⟨by rfl, ?_⟩) ?_ ?_
  rotate_left
  · intro w'
    go_simp
    with_reducible rfl
  rotate_left
  · simp only [Act.put, List.setIfInBounds_toArray, List.set_cons_zero, List.set_cons_succ, i64_w, i32_w]
    rfl
  refine one_ (i := 26) (N := some 61) #[true, true, true, true, true, true, true, true, true, true, true, true, true, true, true, true, true, true, true, true, true, true, true, true, true, true, true, false, false] rfl rfl (by kernel_rfl) (by decide) (fun K hK => ?_)
  refine goes_ Tryd.func16 (by kernel_rfl) rfl #[] (by rfl) rfl rfl (by simp only [List.map_toArray, List.map_nil]) ?_
  (with_reducible refine (HW.out _).mono ?_)
  rintro e w9 ⟨rfl, hb2⟩
  refine ⟨_, rfl, ?_⟩
  have hbb := Lib.hid (CSt.below hHeld hb2)
  clear hb2 hHeld
  refine hK.out _ _ hbb.out (fun hHeld => ?_)
  clear hK K
  refine norm_ (a' := ?_) ?_ ?_
  rotate_left
  · show Act.put _ (some 61) _ = _
    simp only [Act.put, List.setIfInBounds_toArray, List.set_cons_zero, List.set_cons_succ, i64_w, i32_w]
    rfl
  clear hbb
  refine pure_ (i := 27) (N := some 62) (v := ?_) (a' := ?_) #[true, true, true, true, true, true, true, true, true, true, true, true, true, true, true, true, true, true, true, true, true, true, true, true, true, true, true, true, false] rfl rfl (by kernel_rfl) (fun _ _ _ h => h) (Or.inl ⟨by rfl, ?_⟩) ?_ ?_
  rotate_left
  · intro w'
    go_simp
    with_reducible rfl
  rotate_left
  · simp only [Act.put, List.setIfInBounds_toArray, List.set_cons_zero, List.set_cons_succ, i64_w, i32_w]
    rfl
  refine pure_ (i := 28) (N := some 4) (v := ?_) (a' := ?_) #[true, true, true, true, true, true, true, true, true, true, true, true, true, true, true, true, true, true, true, true, true, true, true, true, true, true, true, true, true] rfl rfl (by kernel_rfl) (fun _ _ _ h => h) (Or.inl ⟨by rfl, ?_⟩) ?_ ?_
  rotate_left
  · intro w'
    go_simp
    with_reducible rfl
  rotate_left
  · simp only [Act.put, List.setIfInBounds_toArray, List.set_cons_zero, List.set_cons_succ, i64_w, i32_w]
    rfl
  refine done_ (by kernel_rfl) ?_
  go_wp2
  go_ret
  exact ⟨rfl, CSt.b hHeld⟩
end Go.Proofs.YtbhioghpgedkeaaDoor.IN
