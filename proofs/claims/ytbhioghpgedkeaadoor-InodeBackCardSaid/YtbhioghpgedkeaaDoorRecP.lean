/- The law InodeCodes' walk. -/
import Derived.Test.YtbhioghpgedkeaaDoorRecK
set_option linter.unusedSimpArgs false
set_option linter.unusedVariables false
namespace Go.Proofs.YtbhioghpgedkeaaDoor.IN
open Go.RowKit Go.Proofs.YtbhioghpgedkeaaDoor.MIt Go.Proofs.YtbhioghpgedkeaaDoor.MKf Go.Proofs.YtbhioghpgedkeaaDoorW.PrintWords Go.Proofs.YtbhioghpgedkeaaDoorW.PrintLast Go.Proofs.YtbhioghpgedkeaaDoorW.PrintMore

def sumF (n : IV) : List S75 := if n.k = 2 then textF 3 (strOfNums n.s) else []
def encRec (n : IV) : List S75 := ((((numF 1 n.k ++ numF 2 n.sz) ++ sumF n) ++ numF 4 n.c) ++ numF 5 n.v) ++ numF 6 n.o
def encE (n : IV) : List S75 × Int := if okB n then (encRec n, 0) else ([], 2)
theorem numF_len (t n : Int) : (numF t n).length ≤ 1 := by unfold numF; split <;> simp
theorem sumF_len (n : IV) : (sumF n).length ≤ 1 := by unfold sumF textF; split <;> simp
theorem encRec_len (n : IV) : (encRec n).length ≤ 6 := by
  unfold encRec
  have h1 := numF_len 1 n.k
  have h2 := numF_len 2 n.sz
  have h3 := sumF_len n
  have h4 := numF_len 4 n.c
  have h5 := numF_len 5 n.v
  have h6 := numF_len 6 n.o
  simp only [List.length_append]
  omega
theorem encE_len (n : IV) : (encE n).1.length ≤ 6 := by
  unfold encE
  split
  · exact encRec_len n
  · simp
set_option maxHeartbeats 8000000 in
set_option maxRecDepth 100000 in
theorem enc_call (n : IV) (hn : n.s.length = 32) (w : World) : Calls Tryd.prog 24 #[.agg (ic n).toArray] w fun e w' => ∃ v, e = .returned (.tuple #[v, .int .i64 (encE n).2]) ∧ Kd.R k75 75 w' w.heap.size (fun _ => True) v (encE n).1 ∧ Below w.heap.size w w' := by
  have HL := Lib.hid hn
  have HCK := Lib.hid (check_call n hn)
  clear hn
  have hcode : code n = if okB n = true then 0 else 2 := rfl
  have hL1 := numF_len 1 n.k
  have hL2 := numF_len 2 n.sz
  have hL3 := sumF_len n
  have hL4 := numF_len 4 n.c
  have hL5 := numF_len 5 n.v
  cases hk : okB n
  · have hf : encE n = ([], 2) := by unfold encE; rw [hk]; rfl
    rw [hf]
    rw [hk] at hcode
    rw [show code n = 2 from hcode] at HCK
    clear hf hcode hk
    go_enter Tryd.func24, Tryd.ntmps24
    go_wp2_with (first | ((with_reducible refine gate_dst (N := 1) rfl ?_); refine box_event ?hg (N := 1) ?hd (cs := (ic n).toArray) (t := 24) ?hr ?_; (case hd => rfl); (case hg => rfl); (case hr => first | (go_simp; done) | (go_simp; rfl)); intro g hg_ w1 hbox_ hb_; have HB := Lib.hid hbox_; have HBb := Lib.hid hb_; have HBg := Lib.hid hg_; clear hbox_ hb_ hg_) | ((with_reducible refine gate_dst (N := 7) rfl ?_); (try (refine gate_guard (by rfl) ?_; dsimp only)); refine wpList_load_row rfl 24 (.tmp 1) rfl g (by rfl) 24 (ic n).toArray (0, 0) _ HB.out Tryd.underlying24 rfl (by rw [List.size_toArray, ic_len HL.out]; kernel_rfl) ?_) | (go_at_call 17; (with_reducible refine (HCK.out _).mono ?_); rintro e w2 ⟨rfl, hb2⟩; have HX := Lib.hid (below_box HBb.out hb2); clear hb2))
    go_ret2
    exact ⟨_, rfl, Kd.R_nil _ _ _ _ _, HX.out⟩
  have hf : encE n = (encRec n, 0) := by unfold encE; rw [hk]; rfl
  rw [hf]
  rw [hk] at hcode
  rw [show code n = 0 from hcode] at HCK
  clear hf hcode hk
  have hrec : encRec n = ((((numF 1 n.k ++ numF 2 n.sz) ++ sumF n) ++ numF 4 n.c) ++ numF 5 n.v) ++ numF 6 n.o := rfl
  go_enter Tryd.func24, Tryd.ntmps24
  go_upto_region 5 with (first | ((with_reducible refine gate_dst (N := 1) rfl ?_); refine box_event ?hg (N := 1) ?hd (cs := (ic n).toArray) (t := 24) ?hr ?_; (case hd => rfl); (case hg => rfl); (case hr => first | (go_simp; done) | (go_simp; rfl)); intro g hg_ w1 hbox_ hb_; have HB := Lib.hid hbox_; have HBb := Lib.hid hb_; have HBg := Lib.hid hg_; clear hbox_ hb_ hg_) | ((with_reducible refine gate_dst (N := 7) rfl ?_); (try (refine gate_guard (by rfl) ?_; dsimp only)); refine wpList_load_row rfl 24 (.tmp 1) rfl g (by rfl) 24 (ic n).toArray (0, 0) _ HB.out Tryd.underlying24 rfl (by rw [List.size_toArray, ic_len HL.out]; kernel_rfl) ?_) | (go_at_call 17; (with_reducible refine (HCK.out _).mono ?_); rintro e w2 ⟨rfl, hb2⟩; have HX2 := Lib.hid (below_box HBb.out hb2); have HI2 := Lib.hid (isI.below HB.out hb2); clear hb2) | ((with_reducible refine gate_dst (N := 12) rfl ?_); refine Kd.R_lit k75 (w0 := w) w.heap.size 75 ?hg (N := 12) ?hd (xs := ([] : List S75)) (inner := []) (ok := fun _ => True) (okp := fun _ => True) ?hr ?hp (fun _ hk => hk) trivial HX2.out HX2.out.size (by simp) ?_; (case hd => rfl); (case hg => rfl); (case hr => first | (go_simp; done) | (go_simp; rfl)); (case hp => exact Reps.none _ _); intro v12 w5 ho5 hb5 hg5 _; obtain ⟨A5, c5, eo5⟩ := Kd.R_slice ho5; rw [List.length_nil] at eo5; subst eo5; have HR5 := Lib.hid ho5; have HX5 := Lib.hid hb5; have HI5 := Lib.hid (show isI w5 g n from (hg5.block g (lt_of_block HI2.out) (by simp)).trans HI2.out); clear ho5 hb5 hg5) | ((with_reducible refine gate_dst (N := 13) rfl ?_); refine box_event ?hg (N := 13) ?hd (cs := #[.slice A5 0 c5]) (t := 76) ?hr ?_; (case hd => rfl); (case hg => rfl); (case hr => first | (go_simp; done) | (go_simp; rfl)); intro gB hg_ w6 hbox_ hb_; have HV := Lib.hid hbox_; have HVb := Lib.hid hb_; have HVg := Lib.hid hg_; clear hbox_ hb_ hg_))
  have hne : g ≠ gB := by have := lt_of_block HI5.out; have := HVg.out; omega
  have hbB : w.heap.size ≤ gB := by have := HX5.out.size; have := HVg.out; omega
  have HB := Lib.hid (below_box HX5.out HVb.out)
  have hbase := HB.out.size
  have HR := Lib.hid (show RecV w6 w.heap.size gB (.slice A5 0 c5) [] from ⟨HV.out, Kd.R_below HR5.out HVb.out⟩)
  have HI1 := Lib.hid (isI.below HI5.out HVb.out)
  clear HBb HBg HX2 HI2 HR5 HX5 HI5 HV HVb HVg HCK
  by_cases h2 : n.k = 2
  · have hkk : (n.k == 2) = true := by rw [h2]; rfl
    have hs : sumF n = textF 3 (strOfNums n.s) := if_pos h2
    rw [hs] at hrec
    clear h2 hs hL3
    have c0 := isI.k HI1.out
    go_upto_region 7 with (first | (go_at_call 44; (with_reducible refine (num_call _ _ _ [] 1 n.k _ _ HR.out HB.out hbB hbase (by decide)).mono ?_); rintro e w12 ⟨⟨u1, rfl⟩, v1, hr_, hb_, hs_, hk_⟩; have HR2 := Lib.hid hr_; have HB2 := Lib.hid hb_; have hbase2 := hs_; have HI2 := Lib.hid (isI.keeps HI1.out hk_ hne); clear hr_ hb_ hs_ hk_))
    clear c0
    have c1 := isI.sz HI2.out
    go_upto_region 8 with (first | (go_at_call 44; (with_reducible refine (num_call _ _ _ ([] ++ numF 1 n.k) 2 n.sz _ _ HR2.out HB2.out hbB hbase2 (by simp [textF]; omega)).mono ?_); rintro e w13 ⟨⟨u2, rfl⟩, v2, hr_, hb_, hs_, hk_⟩; have HR3 := Lib.hid hr_; have HB3 := Lib.hid hb_; have hbase3 := hs_; have HI3 := Lib.hid (isI.keeps HI2.out hk_ hne); clear hr_ hb_ hs_ hk_))
    clear c1
    have hcv := dg_string HL.out (isI.sum HI3.out HL.out)
    have c0 := isI.k HI3.out
    go_upto_region 10 with (first | (go_at_call 45; (with_reducible refine (text_call _ _ _ ([] ++ numF 1 n.k ++ numF 2 n.sz) 3 (strOfNums n.s) _ _ HR3.out HB3.out hbB hbase3 (by simp [textF]; omega)).mono ?_); rintro e w14 ⟨⟨u3, rfl⟩, v3, hr_, hb_, hs_, hk_⟩; have HR4 := Lib.hid hr_; have HB4 := Lib.hid hb_; have hbase4 := hs_; have HI4 := Lib.hid (isI.keeps HI3.out hk_ hne); clear hr_ hb_ hs_ hk_))
    clear hcv c0
    have c3 := isI.c HI4.out HL.out
    go_upto_region 11 with (first | (go_at_call 44; (with_reducible refine (num_call _ _ _ ([] ++ numF 1 n.k ++ numF 2 n.sz ++ textF 3 (strOfNums n.s)) 4 n.c _ _ HR4.out HB4.out hbB hbase4 (by simp [textF]; omega)).mono ?_); rintro e w15 ⟨⟨u4, rfl⟩, v4, hr_, hb_, hs_, hk_⟩; have HR5 := Lib.hid hr_; have HB5 := Lib.hid hb_; have hbase5 := hs_; have HI5 := Lib.hid (isI.keeps HI4.out hk_ hne); clear hr_ hb_ hs_ hk_))
    clear c3
    have c4 := isI.v HI5.out HL.out
    go_upto_region 12 with (first | (go_at_call 44; (with_reducible refine (num_call _ _ _ ([] ++ numF 1 n.k ++ numF 2 n.sz ++ textF 3 (strOfNums n.s) ++ numF 4 n.c) 5 n.v _ _ HR5.out HB5.out hbB hbase5 (by simp [textF]; omega)).mono ?_); rintro e w16 ⟨⟨u5, rfl⟩, v5, hr_, hb_, hs_, hk_⟩; have HR6 := Lib.hid hr_; have HB6 := Lib.hid hb_; have hbase6 := hs_; have HI6 := Lib.hid (isI.keeps HI5.out hk_ hne); clear hr_ hb_ hs_ hk_))
    clear c4
    have c5 := isI.o HI6.out HL.out
    go_upto_region 13 with (first | (go_at_call 44; (with_reducible refine (num_call _ _ _ ([] ++ numF 1 n.k ++ numF 2 n.sz ++ textF 3 (strOfNums n.s) ++ numF 4 n.c ++ numF 5 n.v) 6 n.o _ _ HR6.out HB6.out hbB hbase6 (by simp [textF]; omega)).mono ?_); rintro e w17 ⟨⟨u6, rfl⟩, v6, hr_, hb_, hs_, hk_⟩; have HR7 := Lib.hid hr_; have HB7 := Lib.hid hb_; have hbase7 := hs_; have HI7 := Lib.hid (isI.keeps HI6.out hk_ hne); clear hr_ hb_ hs_ hk_))
    clear c5
    have x0 := (blk_cell HR7.out.box 0).trans rfl
    go_wp2
    go_ret2
    refine ⟨_, rfl, ?_, HB7.out⟩
    rw [hrec]
    exact HR7.out.row
  · have hkk : (n.k == 2) = false := by simpa using h2
    have hs : sumF n = [] := if_neg h2
    rw [hs, List.append_nil] at hrec
    clear h2 hs hL3
    have c0 := isI.k HI1.out
    go_upto_region 7 with (first | (go_at_call 44; (with_reducible refine (num_call _ _ _ [] 1 n.k _ _ HR.out HB.out hbB hbase (by decide)).mono ?_); rintro e w12 ⟨⟨u1, rfl⟩, v1, hr_, hb_, hs_, hk_⟩; have HR2 := Lib.hid hr_; have HB2 := Lib.hid hb_; have hbase2 := hs_; have HI2 := Lib.hid (isI.keeps HI1.out hk_ hne); clear hr_ hb_ hs_ hk_))
    clear c0
    have c1 := isI.sz HI2.out
    go_upto_region 8 with (first | (go_at_call 44; (with_reducible refine (num_call _ _ _ ([] ++ numF 1 n.k) 2 n.sz _ _ HR2.out HB2.out hbB hbase2 (by simp [textF]; omega)).mono ?_); rintro e w13 ⟨⟨u2, rfl⟩, v2, hr_, hb_, hs_, hk_⟩; have HR3 := Lib.hid hr_; have HB3 := Lib.hid hb_; have hbase3 := hs_; have HI3 := Lib.hid (isI.keeps HI2.out hk_ hne); clear hr_ hb_ hs_ hk_))
    clear c1
    have c3 := isI.c HI3.out HL.out
    have c0 := isI.k HI3.out
    go_upto_region 11 with (first | (go_at_call 44; (with_reducible refine (num_call _ _ _ ([] ++ numF 1 n.k ++ numF 2 n.sz) 4 n.c _ _ HR3.out HB3.out hbB hbase3 (by simp [textF]; omega)).mono ?_); rintro e w14 ⟨⟨u3, rfl⟩, v3, hr_, hb_, hs_, hk_⟩; have HR4 := Lib.hid hr_; have HB4 := Lib.hid hb_; have hbase4 := hs_; have HI4 := Lib.hid (isI.keeps HI3.out hk_ hne); clear hr_ hb_ hs_ hk_))
    clear c3 c0
    have c4 := isI.v HI4.out HL.out
    go_upto_region 12 with (first | (go_at_call 44; (with_reducible refine (num_call _ _ _ ([] ++ numF 1 n.k ++ numF 2 n.sz ++ numF 4 n.c) 5 n.v _ _ HR4.out HB4.out hbB hbase4 (by simp [textF]; omega)).mono ?_); rintro e w15 ⟨⟨u4, rfl⟩, v4, hr_, hb_, hs_, hk_⟩; have HR5 := Lib.hid hr_; have HB5 := Lib.hid hb_; have hbase5 := hs_; have HI5 := Lib.hid (isI.keeps HI4.out hk_ hne); clear hr_ hb_ hs_ hk_))
    clear c4
    have c5 := isI.o HI5.out HL.out
    go_upto_region 13 with (first | (go_at_call 44; (with_reducible refine (num_call _ _ _ ([] ++ numF 1 n.k ++ numF 2 n.sz ++ numF 4 n.c ++ numF 5 n.v) 6 n.o _ _ HR5.out HB5.out hbB hbase5 (by simp [textF]; omega)).mono ?_); rintro e w16 ⟨⟨u5, rfl⟩, v5, hr_, hb_, hs_, hk_⟩; have HR6 := Lib.hid hr_; have HB6 := Lib.hid hb_; have hbase6 := hs_; have HI6 := Lib.hid (isI.keeps HI5.out hk_ hne); clear hr_ hb_ hs_ hk_))
    clear c5
    have x0 := (blk_cell HR6.out.box 0).trans rfl
    go_wp2
    go_ret2
    refine ⟨_, rfl, ?_, HB6.out⟩
    rw [hrec]
    exact HR6.out.row
end Go.Proofs.YtbhioghpgedkeaaDoor.IN
namespace Go.Proofs.YtbhioghpgedkeaaDoor.IN
open Go.RowKit Go.Proofs.YtbhioghpgedkeaaDoor.MIt Go.Proofs.YtbhioghpgedkeaaDoor.MKf Go.Proofs.YtbhioghpgedkeaaDoorW.PrintWords Go.Proofs.YtbhioghpgedkeaaDoorW.PrintLast Go.Proofs.YtbhioghpgedkeaaDoorW.PrintMore

end Go.Proofs.YtbhioghpgedkeaaDoor.IN
namespace Go.Proofs.YtbhioghpgedkeaaDoor.IN
open Go.RowKit Go.Proofs.YtbhioghpgedkeaaDoor.MIt Go.Proofs.YtbhioghpgedkeaaDoor.MKf Go.Proofs.YtbhioghpgedkeaaDoorW.PrintWords Go.Proofs.YtbhioghpgedkeaaDoorW.PrintLast Go.Proofs.YtbhioghpgedkeaaDoorW.PrintMore

def zI : IV := ⟨0, 0, z32, 0, 0, 0⟩
set_option maxRecDepth 100000 in
def zIL : List Value := .int .i64 0 :: .int .i64 0 :: .int .u8 0 :: .int .u8 0 :: .int .u8 0 :: .int .u8 0 :: .int .u8 0 :: .int .u8 0 :: .int .u8 0 :: .int .u8 0 :: .int .u8 0 :: .int .u8 0 :: .int .u8 0 :: .int .u8 0 :: .int .u8 0 :: .int .u8 0 :: .int .u8 0 :: .int .u8 0 :: .int .u8 0 :: .int .u8 0 :: .int .u8 0 :: .int .u8 0 :: .int .u8 0 :: .int .u8 0 :: .int .u8 0 :: .int .u8 0 :: .int .u8 0 :: .int .u8 0 :: .int .u8 0 :: .int .u8 0 :: .int .u8 0 :: .int .u8 0 :: .int .u8 0 :: .int .u8 0 :: .int .i64 0 :: .int .i64 0 :: [.int .i64 0]
theorem zI_eq : ic zI = zIL := by kernel_rfl
def inodeOf (L : List S75) : IV := ⟨(numOf L 1).1, (numOf L 2).1, lay (textOf L 3).1 z32, (numOf L 4).1, (numOf L 5).1, (numOf L 6).1⟩
theorem inodeOf_len (L : List S75) : (inodeOf L).s.length = 32 := lay_len _ _ rfl
def decI (L : List S75) : IV × Int := if (sumOf L).2 = true ∧ okB (inodeOf L) = true ∧ encRec (inodeOf L) = L then (inodeOf L, 0) else (zI, 5)
def rdecI (L : List S75) : IV × Int := if okB (inodeOf L) = true ∧ encRec (inodeOf L) = L then (inodeOf L, 0) else (zI, 5)
theorem encRec_text (n : IV) : textOf (encRec n) 3 = if n.k = 2 then (strOfNums n.s, true) else (⟨#[]⟩, false) := by
  have h1 : ∀ t n, (numF t n).filter (isF 3 1) = [] := by
    intro t n
    unfold numF
    split
    · simp [isF]
    · rfl
  unfold textOf encRec sumF textF
  rw [List.filter_append, List.filter_append, List.filter_append, List.filter_append, List.filter_append, h1, h1, h1, h1, h1]
  by_cases h : n.k = 2
  · rw [if_pos h, if_pos h]; rfl
  · rw [if_neg h, if_neg h]; rfl
theorem decI_same (L : List S75) : decI L = rdecI L := by
  unfold decI rdecI
  by_cases h : okB (inodeOf L) = true ∧ encRec (inodeOf L) = L
  · rw [if_pos h, if_pos]
    refine ⟨?_, h⟩
    have ht := encRec_text (inodeOf L)
    rw [h.2] at ht
    unfold sumOf
    rw [ht]
    by_cases h2 : (inodeOf L).k = 2
    · rw [if_pos h2]
      have : (strOfNums (inodeOf L).s).size = 32 := by rw [strOfNums_size]; exact inodeOf_len L
      rw [this]
      rfl
    · rw [if_neg h2]
      rfl
  · rw [if_neg h, if_neg (fun h' => h h'.2)]
set_option maxRecDepth 100000 in
set_option maxHeartbeats 4000000 in
theorem built24z (k sz c v o : Int) : Tryd.prog.built 24 [(0, .int .i64 k), (1, .int .i64 sz), (3, .int .i64 c), (4, .int .i64 v), (5, .int .i64 o)] = some (ic ⟨k, sz, z32, c, v, o⟩).toArray := by kernel_rfl
theorem build24z_run (k sz c v o : Int) (w : World) : (Instr.build 24 #[(0, .int .i64 k), (1, .int .i64 sz), (3, .int .i64 c), (4, .int .i64 v), (5, .int .i64 o)]).run Tryd.prog w = .ok (.agg (ic ⟨k, sz, z32, c, v, o⟩).toArray) w :=
  run_build w 24 _ _ (built24z k sz c v o)
theorem size24 {n : IV} (h : n.s.length = 32) : (Tryd.prog.info? 24).map (·.size) = some (ic n).toArray.size := by rw [List.size_toArray, ic_len h]; kernel_rfl
theorem ic_one (n : IV) : (ic n).toArray.all (·.oneCell') = true := all_oneCell_toArray (by
  intro v hv
  simp only [ic, dg, List.mem_cons, List.mem_append, List.mem_map, List.not_mem_nil, or_false] at hv
  rcases hv with rfl | rfl | ⟨x, _, rfl⟩ | rfl | rfl | rfl <;> rfl)
theorem isI.setRow {w : World} {g : Nat} {z n : IV} (h : isI w g z) : isI (w.setRow g (ic n).toArray) g n := setRow_same h
theorem isI.setRow_far {w : World} {g k : Nat} {n : IV} (h : isI w k n) (hk : k ≠ g) (cs : Array Value) : isI (w.setRow g cs) k n := (setRow_other w g k cs hk).trans h
theorem alloc24_run (w : World) : (Instr.alloc 24 true (.tuple #[])).run Tryd.prog w = .ok (.pointer (some ⟨w.heap.size, 0, none⟩)) (w.alloc (.cells (ic zI).toArray 24)) := by
  rw [zI_eq]
  unfold zIL
  go_simp
theorem alloc22_run (w : World) : (Instr.alloc 22 true (.tuple #[])).run Tryd.prog w = .ok (.pointer (some ⟨w.heap.size, 0, none⟩)) (w.alloc (.cells (dg z32).toArray 22)) := by
  rw [z32_eq]
  unfold z32L
  go_simp
/-- A digest is laid into an inode's variable. -/
theorem sum_store_run (w : World) (g : Nat) (n : IV) (d : List Int) (hn : n.s.length = 32) (hd : d.length = 32) (hI : isI w g n) :
    (Instr.storeAt 22 (.pointer (some ⟨g, 2, none⟩)) (.agg (dg d).toArray)).run Tryd.prog w = .ok () (w.setRow g (ic ⟨n.k, n.sz, d, n.c, n.v, n.o⟩).toArray) := by
  have hst := run_storeCells_at (P := Tryd.prog) g 2 24 (dg d) 0 (ic n).toArray w hI (by rw [dg_len hd, List.size_toArray, ic_len hn]; decide) (by
    intro v hv
    obtain ⟨x, _, rfl⟩ := List.mem_map.1 hv
    rfl)
  have he : (ic n).take 2 ++ dg d ++ (ic n).drop (2 + 32) = ic ⟨n.k, n.sz, d, n.c, n.v, n.o⟩ := by
    have h1 : (ic n).take 2 = [.int .i64 n.k, .int .i64 n.sz] := rfl
    have h2 : (ic n).drop (2 + 32) = [.int .i64 n.c, .int .i64 n.v, .int .i64 n.o] := by
      show (dg n.s ++ [_, _, _]).drop 32 = _
      rw [List.drop_left' (dg_len hn)]
    rw [h1, h2]
    simp [ic]
  simp only [dg_len hd, Nat.add_zero, List.toList_toArray] at hst
  rw [he] at hst
  have hsz : (Tryd.prog.info? 22).map (·.size) = some 32 := by kernel_rfl
  have hdl := dg_len hd
  simp only [Instr.storeAt, Instr.sureAddr, Sem.run_bind, Sem.run_pure, Result.andThen_ok]
  cases hq : Tryd.prog.info? 22 with
  | none => rw [hq] at hsz; cases hsz
  | some i =>
    rw [hq] at hsz
    have hi : i.size = 32 := Option.some.inj hsz
    simp [storeVar, sizeOf, typeInfo, hq, Value.cells, hi, hdl, hst]
theorem wpList_exec_store {P : Program} {ops : Array Oper} {rest : List Oper} {o : Oper} {a : Act} {w w' : World} {Q : Exit → Act → World → Prop} (hgd : o.guard = none) (hr : (execOp a.eval o).run P w = .ok .skip w') (h : wpList P ops Q rest (a.put o.dst undef) w') : wpList P ops Q (o :: rest) a w :=
  wpList_plain hgd fun K hK => by
    unfold Oper.wp
    rw [hr]
    exact hK _ _ h
set_option maxHeartbeats 8000000 in
set_option maxRecDepth 100000 in
theorem decI_call (A : Option Addr) (cap : Nat) (L : List S75) (hL : L.length ≤ 1000) (hcap : L.length ≤ cap) (w : World) (hC : Kd.C k75 w A L.length L) :
    Calls Tryd.prog 26 #[.slice A L.length cap] w fun e W' => e = .returned (.tuple #[.agg (ic (decI L).1).toArray, .int .i64 (decI L).2]) ∧ Below w.heap.size w W' := by
  have HC0 := Lib.hid hC
  have HSU := Lib.hid (fun W hc => sum_call A cap L hL W hc)
  have HDL := Lib.hid (sumOf_len L)
  have HN1 := Lib.hid (fun W hc => number_call A cap L 1 hL W hc)
  have HN2 := Lib.hid (fun W hc => number_call A cap L 2 hL W hc)
  have HN4 := Lib.hid (fun W hc => number_call A cap L 4 hL W hc)
  have HN5 := Lib.hid (fun W hc => number_call A cap L 5 hL W hc)
  have HN6 := Lib.hid (fun W hc => number_call A cap L 6 hL W hc)
  have HAL := Lib.hid (inodeOf_len L)
  have HEA := Lib.hid (fun W => enc_call (inodeOf L) HAL.out W)
  have HSM := Lib.hid (same_eq (encE (inodeOf L)).1 L (by have := encE_len (inodeOf L); omega))
  have hdec : decI L = if (sumOf L).2 = true ∧ okB (inodeOf L) = true ∧ encRec (inodeOf L) = L then (inodeOf L, 0) else (zI, 5) := rfl
  have harch : inodeOf L = ⟨(numOf L 1).1, (numOf L 2).1, (sumOf L).1, (numOf L 4).1, (numOf L 5).1, (numOf L 6).1⟩ := rfl
  have HE26 := Lib.hid (congrArg List.toArray zI_eq)
  unfold zIL at HE26
  clear hC
  obtain ⟨d, hd⟩ : ∃ d, d = (sumOf L).1 := ⟨_, rfl⟩
  rw [← hd] at HDL HSU harch
  clear hd
  obtain ⟨ok, hok⟩ : ∃ ok, ok = (sumOf L).2 := ⟨_, rfl⟩
  rw [← hok] at HSU hdec
  clear hok
  obtain ⟨n1, hn1⟩ : ∃ q, q = (numOf L 1).1 := ⟨_, rfl⟩
  obtain ⟨n2, hn2⟩ : ∃ q, q = (numOf L 2).1 := ⟨_, rfl⟩
  obtain ⟨n4, hn4⟩ : ∃ q, q = (numOf L 4).1 := ⟨_, rfl⟩
  obtain ⟨n5, hn5⟩ : ∃ q, q = (numOf L 5).1 := ⟨_, rfl⟩
  obtain ⟨n6, hn6⟩ : ∃ q, q = (numOf L 6).1 := ⟨_, rfl⟩
  rw [← hn1] at HN1 harch
  rw [← hn2] at HN2 harch
  rw [← hn4] at HN4 harch
  rw [← hn5] at HN5 harch
  rw [← hn6] at HN6 harch
  clear hn1 hn2 hn4 hn5 hn6
  have HB26 := Lib.hid (fun W => build24z_run n1 n2 n4 n5 n6 W)
  have HARCH := Lib.hid harch
  clear harch
  obtain ⟨a, ha⟩ : ∃ a, a = inodeOf L := ⟨_, rfl⟩
  rw [← ha] at HAL HEA HSM HARCH hdec
  clear ha
  have HEN := Lib.hid (show encE a = if okB a then (encRec a, 0) else ([], 2) from rfl)
  have HDEC := Lib.hid hdec
  clear hdec
  go_enter Tryd.func26, Tryd.ntmps26
  go_upto_region 3 with (first | ((with_reducible refine gate_dst (N := 2) rfl ?_); refine wpList_exec_value rfl (exec_alloc 24 rfl (alloc24_run _)) ?_))
  have HA1 := Lib.hid (show isI (w.alloc (.cells (ic zI).toArray 24)) w.heap.size zI from heap_alloc_new _ _)
  have HB1 := Lib.hid (show Below w.heap.size w (w.alloc (.cells (ic zI).toArray 24)) from below_alloc (Below.refl _ _) _)
  generalize w.alloc (.cells (ic zI).toArray 24) = w1 at HA1 HB1 ⊢
  obtain ⟨n0, hn0⟩ : ∃ n0 : IV, n0 = ⟨n1, n2, z32, n4, n5, n6⟩ := ⟨_, rfl⟩
  have HB24 := Lib.hid (show ∀ W : World, (Instr.build 24 #[(0, .int .i64 n1), (1, .int .i64 n2), (3, .int .i64 n4), (4, .int .i64 n5), (5, .int .i64 n6)]).run Tryd.prog W = .ok (.agg (ic n0).toArray) W from fun W => by rw [hn0]; exact HB26.out W)
  have HN0 := Lib.hid (show n0.s.length = 32 by rw [hn0]; rfl)
  have HFIN := Lib.hid (show (⟨n0.k, n0.sz, d, n0.c, n0.v, n0.o⟩ : IV) = a by rw [hn0, HARCH.out])
  clear hn0 HB26 HARCH
  go_upto_region 4 with (first | (go_at_call 50; (with_reducible refine (HN1.out _ (Kd.C_below HC0.out HB1.out)).mono ?_); rintro e wn2 ⟨rfl, hb⟩; have HA2 := Lib.hid (isI.below HA1.out hb); have HB2 := Lib.hid (below_box HB1.out hb); clear hb) | (go_at_call 50; (with_reducible refine (HN2.out _ (Kd.C_below HC0.out HB2.out)).mono ?_); rintro e wn3 ⟨rfl, hb⟩; have HA3 := Lib.hid (isI.below HA2.out hb); have HB3 := Lib.hid (below_box HB2.out hb); clear hb) | (go_at_call 50; (with_reducible refine (HN4.out _ (Kd.C_below HC0.out HB3.out)).mono ?_); rintro e wn4 ⟨rfl, hb⟩; have HA4 := Lib.hid (isI.below HA3.out hb); have HB4 := Lib.hid (below_box HB3.out hb); clear hb) | (go_at_call 50; (with_reducible refine (HN5.out _ (Kd.C_below HC0.out HB4.out)).mono ?_); rintro e wn5 ⟨rfl, hb⟩; have HA5 := Lib.hid (isI.below HA4.out hb); have HB5 := Lib.hid (below_box HB4.out hb); clear hb) | (go_at_call 50; (with_reducible refine (HN6.out _ (Kd.C_below HC0.out HB5.out)).mono ?_); rintro e wn6 ⟨rfl, hb⟩; have HA6 := Lib.hid (isI.below HA5.out hb); have HB6 := Lib.hid (below_box HB5.out hb); clear hb) | ((with_reducible refine gate_dst (N := 24) rfl ?_); refine wpList_exec_value rfl (exec_build 24 _ _ rfl (by simp only [List.map_toArray, List.map_cons, List.map_nil]; rfl) (HB24.out _)) ?_) | ((with_reducible refine gate_dst (N := 6) rfl ?_); refine wpList_exec_value rfl (exec_alloc 24 rfl (alloc24_run _)) ?_) | (refine wpList_store_row rfl 24 (.tmp 6) (.tmp 24) rfl wn6.heap.size (ic n0).toArray (by rfl) (by rfl) 24 _ (heap_alloc_new _ _) (size24 HN0.out) (by rw [List.size_toArray, List.size_toArray, ic_len HN0.out]; rfl) (ic_one n0) ?_; rw [World.setRow_alloc_new]))
  have HG7 := Lib.hid (show isI (wn6.alloc (.cells (ic n0).toArray 24)) wn6.heap.size n0 from heap_alloc_new _ _)
  have HA7 := Lib.hid (show isI (wn6.alloc (.cells (ic n0).toArray 24)) w.heap.size zI from blk_alloc HA6.out _)
  have HB7 := Lib.hid (show Below w.heap.size w (wn6.alloc (.cells (ic n0).toArray 24)) from below_then HB6.out HB6.out.size (below_alloc (Below.refl _ _) _))
  have hlt := lt_of_block HA6.out
  clear HA1 HB1 HA2 HB2 HA3 HB3 HA4 HB4 HA5 HB5 HA6 HB6 HN1 HN2 HN4 HN5 HN6 HB24
  generalize wn6.alloc (.cells (ic n0).toArray 24) = w7 at HA7 HG7 HB7 ⊢
  generalize wn6.heap.size = g at HG7 hlt ⊢
  go_upto_region 5 with (first | (go_at_call 49; (with_reducible refine (HSU.out _ (Kd.C_below HC0.out HB7.out)).mono ?_); rintro e w2 ⟨rfl, hb2⟩; have HA2 := Lib.hid (isI.below HA7.out hb2); have HG2 := Lib.hid (isI.below HG7.out hb2); have HB2 := Lib.hid (below_box HB7.out hb2); clear hb2) | ((with_reducible refine gate_dst (N := 7) rfl ?_); refine wpList_exec_value rfl (exec_alloc 22 rfl (alloc22_run _)) ?_) | (refine wpList_store_row rfl 22 (.tmp 7) (.tmp 28) rfl w2.heap.size (dg d).toArray (by rfl) (by rfl) 22 _ (heap_alloc_new _ _) (by rw [List.size_toArray, dg_len HDL.out]; kernel_rfl) (by rw [List.size_toArray, List.size_toArray, dg_len HDL.out]; rfl) (dg_one d) ?_; rw [World.setRow_alloc_new]))
  have HD3 := Lib.hid (show isD (w2.alloc (.cells (dg d).toArray 22)) w2.heap.size d from heap_alloc_new _ _)
  have HA3 := Lib.hid (show isI (w2.alloc (.cells (dg d).toArray 22)) w.heap.size zI from blk_alloc HA2.out _)
  have HG3 := Lib.hid (show isI (w2.alloc (.cells (dg d).toArray 22)) g n0 from blk_alloc HG2.out _)
  have HB3 := Lib.hid (show Below w.heap.size w (w2.alloc (.cells (dg d).toArray 22)) from below_then HB2.out HB2.out.size (below_alloc (Below.refl _ _) _))
  clear HA7 HG7 HB7 HA2 HG2 HB2 HSU
  generalize w2.alloc (.cells (dg d).toArray 22) = w3 at HD3 HA3 HG3 HB3 ⊢
  generalize w2.heap.size = g7 at HD3 ⊢
  go_upto_region 6 with (first | ((with_reducible refine gate_dst (N := 30) rfl ?_); (try (refine gate_guard (by rfl) ?_; dsimp only)); refine wpList_load_row rfl 22 (.tmp 7) rfl g7 (by rfl) 22 (dg d).toArray (0, 0) _ HD3.out Tryd.underlying22 rfl (by rw [List.size_toArray, dg_len HDL.out]; kernel_rfl) ?_) | (refine wpList_exec_store rfl (exec_store 22 (.tmp 31) (.tmp 30) rfl rfl rfl (sum_store_run w3 g n0 d HN0.out HDL.out HG3.out)) ?_))
  have HG6 := Lib.hid (show isI (w3.setRow g (ic ⟨n0.k, n0.sz, d, n0.c, n0.v, n0.o⟩).toArray) g a from by rw [← HFIN.out]; exact isI.setRow HG3.out)
  have HA6 := Lib.hid (isI.setRow_far HA3.out (Nat.ne_of_lt hlt) (ic ⟨n0.k, n0.sz, d, n0.c, n0.v, n0.o⟩).toArray)
  have HB6 := Lib.hid (below_setRow HB3.out (Nat.le_of_lt hlt) (ic ⟨n0.k, n0.sz, d, n0.c, n0.v, n0.o⟩).toArray)
  clear HD3 HA3 HG3 HB3
  generalize w3.setRow g (ic ⟨n0.k, n0.sz, d, n0.c, n0.v, n0.o⟩).toArray = w6 at HG6 HA6 HB6 ⊢
  cases ok
  ·
    have hfin : decI L = (zI, 5) := by rw [HDEC.out]; exact if_neg (fun h => Bool.noConfusion h.1)
    go_upto_region 7 with (first | ((with_reducible refine gate_dst (N := 33) rfl ?_); (try (refine gate_guard (by rfl) ?_; dsimp only)); refine wpList_load_row rfl 24 (.tmp 6) rfl g (by rfl) 24 (ic a).toArray (0, 0) _ HG6.out Tryd.underlying24 rfl (by rw [List.size_toArray, ic_len HAL.out]; kernel_rfl) ?_) | (go_at_call 24; (with_reducible refine (HEA.out _).mono ?_); rintro e w8 ⟨v8, rfl, hr8, hb8⟩; have HA8 := Lib.hid (isI.below HA6.out hb8); have HG8 := Lib.hid (isI.below HG6.out hb8); have HB8 := Lib.hid (below_box HB6.out hb8); obtain ⟨A8, c8, eo8⟩ := Kd.R_slice hr8; subst eo8; have HR8 := Lib.hid (Kd.R_reads' hr8); clear hr8 hb8))
    go_upto_region 8 with (fail)
    have HA9 := Lib.hid (show isI w8 w.heap.size zI from HA8.out)
    have HG9 := Lib.hid (show isI w8 g a from HG8.out)
    have HB9 := Lib.hid (show Below w.heap.size w w8 from HB8.out)
    go_wp2_with (first | (refine wpList_store_row rfl 24 (.tmp 2) (.tmp 49) rfl w.heap.size (ic zI).toArray (by rfl) (congrArg Value.agg HE26.out.symm) 24 _ HA9.out (size24 rfl) rfl (ic_one zI) ?_))
    have HD := isI.setRow (n := zI) HA9.out
    have HF := below_setRow HB9.out (Nat.le_refl _) (ic zI).toArray
    refine bodyPost_ret (results_ct rfl _ _ w.heap.size 24 (ic zI).toArray (0, 0) _ rfl HD Tryd.underlying24 rfl (size24 rfl)) rfl ?_
    rw [hfin]
    exact ⟨rfl, HF⟩
  cases hk : okB a
  ·
    have hfin : decI L = (zI, 5) := by rw [HDEC.out]; exact if_neg (fun h => by rw [hk] at h; exact Bool.noConfusion h.2.1)
    have he : encE a = ([], 2) := by rw [HEN.out, hk]; rfl
    rw [he] at HEA HSM
    go_upto_region 7 with (first | ((with_reducible refine gate_dst (N := 33) rfl ?_); (try (refine gate_guard (by rfl) ?_; dsimp only)); refine wpList_load_row rfl 24 (.tmp 6) rfl g (by rfl) 24 (ic a).toArray (0, 0) _ HG6.out Tryd.underlying24 rfl (by rw [List.size_toArray, ic_len HAL.out]; kernel_rfl) ?_) | (go_at_call 24; (with_reducible refine (HEA.out _).mono ?_); rintro e w8 ⟨v8, rfl, hr8, hb8⟩; have HA8 := Lib.hid (isI.below HA6.out hb8); have HG8 := Lib.hid (isI.below HG6.out hb8); have HB8 := Lib.hid (below_box HB6.out hb8); obtain ⟨A8, c8, eo8⟩ := Kd.R_slice hr8; subst eo8; have HR8 := Lib.hid (Kd.R_reads' hr8); clear hr8 hb8))
    go_upto_region 8 with (fail)
    have HA9 := Lib.hid (show isI w8 w.heap.size zI from HA8.out)
    have HG9 := Lib.hid (show isI w8 g a from HG8.out)
    have HB9 := Lib.hid (show Below w.heap.size w w8 from HB8.out)
    go_wp2_with (first | (refine wpList_store_row rfl 24 (.tmp 2) (.tmp 49) rfl w.heap.size (ic zI).toArray (by rfl) (congrArg Value.agg HE26.out.symm) 24 _ HA9.out (size24 rfl) rfl (ic_one zI) ?_))
    have HD := isI.setRow (n := zI) HA9.out
    have HF := below_setRow HB9.out (Nat.le_refl _) (ic zI).toArray
    refine bodyPost_ret (results_ct rfl _ _ w.heap.size 24 (ic zI).toArray (0, 0) _ rfl HD Tryd.underlying24 rfl (size24 rfl)) rfl ?_
    rw [hfin]
    exact ⟨rfl, HF⟩
  have he : encE a = (encRec a, 0) := by rw [HEN.out, hk]; rfl
  rw [he] at HEA HSM
  cases hs : decide (encRec a = L)
  ·
    have hfin : decI L = (zI, 5) := by rw [HDEC.out]; exact if_neg (fun h => by rw [decide_eq_false_iff_not] at hs; exact hs h.2.2)
    have HSM := Lib.hid (show inode_same.f 1001 (encRec a) L = some false from HSM.out.trans (congrArg some hs))
    clear hs hk he
    go_upto_region 7 with (first | ((with_reducible refine gate_dst (N := 33) rfl ?_); (try (refine gate_guard (by rfl) ?_; dsimp only)); refine wpList_load_row rfl 24 (.tmp 6) rfl g (by rfl) 24 (ic a).toArray (0, 0) _ HG6.out Tryd.underlying24 rfl (by rw [List.size_toArray, ic_len HAL.out]; kernel_rfl) ?_) | (go_at_call 24; (with_reducible refine (HEA.out _).mono ?_); rintro e w8 ⟨v8, rfl, hr8, hb8⟩; have HA8 := Lib.hid (isI.below HA6.out hb8); have HG8 := Lib.hid (isI.below HG6.out hb8); have HB8 := Lib.hid (below_box HB6.out hb8); obtain ⟨A8, c8, eo8⟩ := Kd.R_slice hr8; subst eo8; have HR8 := Lib.hid (Kd.R_reads' hr8); clear hr8 hb8))
    go_upto_region 8 with (first | (go_at_call 51; (with_reducible refine (inode_same.calls 1001 A8 c8 (encRec a) A cap L false _ HR8.out.2.2 HR8.out.2.1 (Kd.C_below HC0.out HB8.out) hcap HSM.out).mono ?_); rintro e w9 ⟨rfl, ⟨nd9, rfl⟩⟩))
    have HA9 := Lib.hid (show isI (w8.drewN nd9) w.heap.size zI from blk_drewN HA8.out _)
    have HG9 := Lib.hid (show isI (w8.drewN nd9) g a from blk_drewN HG8.out _)
    have HB9 := Lib.hid (show Below w.heap.size w (w8.drewN nd9) from pw_below_drewN HB8.out _)
    go_wp2_with (first | (refine wpList_store_row rfl 24 (.tmp 2) (.tmp 49) rfl w.heap.size (ic zI).toArray (by rfl) (congrArg Value.agg HE26.out.symm) 24 _ HA9.out (size24 rfl) rfl (ic_one zI) ?_))
    have HD := isI.setRow (n := zI) HA9.out
    have HF := below_setRow HB9.out (Nat.le_refl _) (ic zI).toArray
    refine bodyPost_ret (results_ct rfl _ _ w.heap.size 24 (ic zI).toArray (0, 0) _ rfl HD Tryd.underlying24 rfl (size24 rfl)) rfl ?_
    rw [hfin]
    exact ⟨rfl, HF⟩
  ·
    have hfin : decI L = (a, 0) := by rw [HDEC.out]; exact if_pos ⟨rfl, hk, of_decide_eq_true hs⟩
    have HSM := Lib.hid (show inode_same.f 1001 (encRec a) L = some true from HSM.out.trans (congrArg some hs))
    clear hs hk he
    go_upto_region 7 with (first | ((with_reducible refine gate_dst (N := 33) rfl ?_); (try (refine gate_guard (by rfl) ?_; dsimp only)); refine wpList_load_row rfl 24 (.tmp 6) rfl g (by rfl) 24 (ic a).toArray (0, 0) _ HG6.out Tryd.underlying24 rfl (by rw [List.size_toArray, ic_len HAL.out]; kernel_rfl) ?_) | (go_at_call 24; (with_reducible refine (HEA.out _).mono ?_); rintro e w8 ⟨v8, rfl, hr8, hb8⟩; have HA8 := Lib.hid (isI.below HA6.out hb8); have HG8 := Lib.hid (isI.below HG6.out hb8); have HB8 := Lib.hid (below_box HB6.out hb8); obtain ⟨A8, c8, eo8⟩ := Kd.R_slice hr8; subst eo8; have HR8 := Lib.hid (Kd.R_reads' hr8); clear hr8 hb8))
    go_upto_region 9 with (first | (go_at_call 51; (with_reducible refine (inode_same.calls 1001 A8 c8 (encRec a) A cap L true _ HR8.out.2.2 HR8.out.2.1 (Kd.C_below HC0.out HB8.out) hcap HSM.out).mono ?_); rintro e w9 ⟨rfl, ⟨nd9, rfl⟩⟩))
    have HA9 := Lib.hid (show isI (w8.drewN nd9) w.heap.size zI from blk_drewN HA8.out _)
    have HG9 := Lib.hid (show isI (w8.drewN nd9) g a from blk_drewN HG8.out _)
    have HB9 := Lib.hid (show Below w.heap.size w (w8.drewN nd9) from pw_below_drewN HB8.out _)
    go_wp2_with (first | ((with_reducible refine gate_dst (N := 50) rfl ?_); (try (refine gate_guard (by rfl) ?_; dsimp only)); refine wpList_load_row rfl 24 (.tmp 6) rfl g (by rfl) 24 (ic a).toArray (0, 0) _ HG9.out Tryd.underlying24 rfl (by rw [List.size_toArray, ic_len HAL.out]; kernel_rfl) ?_) | (refine wpList_store_row rfl 24 (.tmp 2) (.tmp 50) rfl w.heap.size (ic a).toArray (by rfl) (by rfl) 24 _ HA9.out (size24 HAL.out) (by rw [List.size_toArray, List.size_toArray, ic_len HAL.out]; rfl) (ic_one a) ?_))
    have HD := isI.setRow (n := a) HA9.out
    have HF := below_setRow HB9.out (Nat.le_refl _) (ic a).toArray
    refine bodyPost_ret (results_ct rfl _ _ w.heap.size 24 (ic a).toArray (0, 0) _ rfl HD Tryd.underlying24 rfl (size24 HAL.out)) rfl ?_
    rw [hfin]
    exact ⟨rfl, HF⟩
end Go.Proofs.YtbhioghpgedkeaaDoor.IN
namespace Go.Proofs.YtbhioghpgedkeaaDoor.IN
open Go.RowKit Go.Proofs.YtbhioghpgedkeaaDoor.MIt Go.Proofs.YtbhioghpgedkeaaDoor.MKf Go.Proofs.YtbhioghpgedkeaaDoorW.PrintWords Go.Proofs.YtbhioghpgedkeaaDoorW.PrintLast Go.Proofs.YtbhioghpgedkeaaDoorW.PrintMore

end Go.Proofs.YtbhioghpgedkeaaDoor.IN
namespace Go.Proofs.YtbhioghpgedkeaaDoor.IN
open Go.RowKit Go.Proofs.YtbhioghpgedkeaaDoor.MIt Go.Proofs.YtbhioghpgedkeaaDoor.MKf Go.Proofs.YtbhioghpgedkeaaDoorW.PrintWords Go.Proofs.YtbhioghpgedkeaaDoorW.PrintLast Go.Proofs.YtbhioghpgedkeaaDoorW.PrintMore

structure CSt (w : World) (g2 g9 g11 : Nat) (n x : IV) (l : List S75) (A3 A4 : Option Addr) (w' : World) : Prop where
  i2 : isI w' g2 n
  i9 : isI w' g9 x
  i11 : isI w' g11 x
  c3 : Kd.C k75 w' A3 l.length l
  c4 : Kd.C k75 w' A4 l.length l
  b : Below w.heap.size w w'
theorem CSt.below {w w' w'' : World} {g2 g9 g11 : Nat} {n x : IV} {l : List S75} {A3 A4 : Option Addr} (h : CSt w g2 g9 g11 n x l A3 A4 w') (hb : Below w'.heap.size w' w'') : CSt w g2 g9 g11 n x l A3 A4 w'' :=
  ⟨h.i2.below hb, h.i9.below hb, h.i11.below hb, Kd.C_below h.c3 hb, Kd.C_below h.c4 hb, below_box h.b hb⟩
end Go.Proofs.YtbhioghpgedkeaaDoor.IN
