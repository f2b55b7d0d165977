/- Contracts of Like, on both sides. -/
import Derived.Test.YtbhioghpgedkeaaDoorInE
set_option linter.unusedSimpArgs false
set_option linter.unusedVariables false
namespace Go.Proofs.YtbhioghpgedkeaaDoor.IN
open Go.RowKit Go.Proofs.YtbhioghpgedkeaaDoor.MIt Go.Proofs.YtbhioghpgedkeaaDoorW.PrintWords Go.Proofs.YtbhioghpgedkeaaDoorW.PrintLast Go.Proofs.YtbhioghpgedkeaaDoorW.PrintMore

set_option maxHeartbeats 4000000 in
set_option maxRecDepth 100000 in
theorem like_call (n : IV) (sz : Int) (s : List Int) (hn : n.s.length = 32) (hs : s.length = 32) (w : World) : Calls Tryd.prog 14 #[.agg (ic n).toArray, .int .i64 sz, .agg (dg s).toArray] w fun e w' => e = .returned (.bool (likeB n sz s)) ∧ Below w.heap.size w w' := by
  have hq : ∀ W : World, (Op.equalIn 10000 22 (.agg (dg n.s).toArray) (.agg (dg s).toArray)).run Tryd.prog W = .ok (decide (n.s = s)) W := fun W => eq22 9998 W hn hs
  have HL := Lib.hid hn
  have HS := Lib.hid hs
  clear hn hs
  obtain ⟨q, hf⟩ : ∃ q, fileB n = q := ⟨_, rfl⟩
  have HC := Lib.hid (fun W => file_call n HL.out q W hf)
  cases q
  · have hr : likeB n sz s = false := by unfold likeB; rw [hf]; rfl
    rw [hr]
    clear hf hr hq
    go_enter Tryd.func14, Tryd.ntmps14
    go_upto_region 1 with (first | ((with_reducible refine gate_dst (N := 3) rfl ?_); refine box_event ?hg (N := 3) ?hd (cs := (ic n).toArray) (t := 24) ?hr ?_; (case hd => rfl); (case hg => rfl); (case hr => first | (go_simp; done) | (go_simp; rfl)); intro g hg_ w1 hbox_ hb_; have HB := Lib.hid hbox_; have HBb := Lib.hid hb_; have HBg := Lib.hid hg_; clear hbox_ hb_ hg_) | ((with_reducible refine gate_dst (N := 5) rfl ?_); refine box_event ?hg (N := 5) ?hd (cs := (dg s).toArray) (t := 22) ?hr ?_; (case hd => rfl); (case hg => rfl); (case hr => first | (go_simp; done) | (go_simp; rfl)); intro ga hg_ w2 hbox_ hb_; have HA := Lib.hid hbox_; have HAb := Lib.hid hb_; have HAg := Lib.hid hg_; clear hbox_ hb_ hg_))
    have HBb := Lib.hid (below_box HBb.out HAb.out)
    have HB := Lib.hid (isI.below HB.out HAb.out)
    go_wp2_with (first | ((with_reducible refine gate_dst (N := 7) rfl ?_); (try (refine gate_guard (by rfl) ?_; dsimp only)); refine wpList_load_row rfl 24 (.tmp 3) rfl g (by rfl) 24 (ic n).toArray (0, 0) _ HB.out Tryd.underlying24 rfl (by rw [List.size_toArray, ic_len HL.out]; kernel_rfl) ?_) | (go_at_call 41; (with_reducible refine (HC.out _).mono ?_); rintro e w3 ⟨rfl, hb2⟩; have HD := Lib.hid (isI.below HB.out hb2); have HE := Lib.hid (isD.below HA.out hb2); have HX := Lib.hid (below_box HBb.out hb2); clear hb2; have c0 := isI.k HD.out; have c1 := isI.sz HD.out) | ((with_reducible refine gate_dst (N := 17) rfl ?_); (try (refine gate_guard (by rfl) ?_; dsimp only)); refine wpList_load_mid rfl 22 (.tmp 16) rfl g 2 (by rfl) (dg n.s) _ (isI.sum HD.out HL.out) Tryd.underlying22 rfl (by rw [dg_len HL.out]; kernel_rfl) ?_) | ((with_reducible refine gate_dst (N := 18) rfl ?_); (try (refine gate_guard (by rfl) ?_; dsimp only)); refine wpList_load_mid rfl 22 (.tmp 5) rfl ga 0 (by rfl) (dg s) _ (isD.whole HE.out) Tryd.underlying22 rfl (by rw [dg_len HS.out]; kernel_rfl) ?_))
    go_ret
    exact ⟨rfl, HX.out⟩
  cases hz : (n.sz == sz)
  · have hr : likeB n sz s = false := by unfold likeB; rw [hf, hz]; rfl
    rw [hr]
    clear hf hr hq
    go_enter Tryd.func14, Tryd.ntmps14
    go_upto_region 1 with (first | ((with_reducible refine gate_dst (N := 3) rfl ?_); refine box_event ?hg (N := 3) ?hd (cs := (ic n).toArray) (t := 24) ?hr ?_; (case hd => rfl); (case hg => rfl); (case hr => first | (go_simp; done) | (go_simp; rfl)); intro g hg_ w1 hbox_ hb_; have HB := Lib.hid hbox_; have HBb := Lib.hid hb_; have HBg := Lib.hid hg_; clear hbox_ hb_ hg_) | ((with_reducible refine gate_dst (N := 5) rfl ?_); refine box_event ?hg (N := 5) ?hd (cs := (dg s).toArray) (t := 22) ?hr ?_; (case hd => rfl); (case hg => rfl); (case hr => first | (go_simp; done) | (go_simp; rfl)); intro ga hg_ w2 hbox_ hb_; have HA := Lib.hid hbox_; have HAb := Lib.hid hb_; have HAg := Lib.hid hg_; clear hbox_ hb_ hg_))
    have HBb := Lib.hid (below_box HBb.out HAb.out)
    have HB := Lib.hid (isI.below HB.out HAb.out)
    go_wp2_with (first | ((with_reducible refine gate_dst (N := 7) rfl ?_); (try (refine gate_guard (by rfl) ?_; dsimp only)); refine wpList_load_row rfl 24 (.tmp 3) rfl g (by rfl) 24 (ic n).toArray (0, 0) _ HB.out Tryd.underlying24 rfl (by rw [List.size_toArray, ic_len HL.out]; kernel_rfl) ?_) | (go_at_call 41; (with_reducible refine (HC.out _).mono ?_); rintro e w3 ⟨rfl, hb2⟩; have HD := Lib.hid (isI.below HB.out hb2); have HE := Lib.hid (isD.below HA.out hb2); have HX := Lib.hid (below_box HBb.out hb2); clear hb2; have c0 := isI.k HD.out; have c1 := isI.sz HD.out) | ((with_reducible refine gate_dst (N := 17) rfl ?_); (try (refine gate_guard (by rfl) ?_; dsimp only)); refine wpList_load_mid rfl 22 (.tmp 16) rfl g 2 (by rfl) (dg n.s) _ (isI.sum HD.out HL.out) Tryd.underlying22 rfl (by rw [dg_len HL.out]; kernel_rfl) ?_) | ((with_reducible refine gate_dst (N := 18) rfl ?_); (try (refine gate_guard (by rfl) ?_; dsimp only)); refine wpList_load_mid rfl 22 (.tmp 5) rfl ga 0 (by rfl) (dg s) _ (isD.whole HE.out) Tryd.underlying22 rfl (by rw [dg_len HS.out]; kernel_rfl) ?_))
    go_ret
    exact ⟨rfl, HX.out⟩
  · have hr : likeB n sz s = decide (n.s = s) := by unfold likeB; rw [hf, hz]; rfl
    rw [hr]
    clear hf hr
    go_enter Tryd.func14, Tryd.ntmps14
    go_upto_region 1 with (first | ((with_reducible refine gate_dst (N := 3) rfl ?_); refine box_event ?hg (N := 3) ?hd (cs := (ic n).toArray) (t := 24) ?hr ?_; (case hd => rfl); (case hg => rfl); (case hr => first | (go_simp; done) | (go_simp; rfl)); intro g hg_ w1 hbox_ hb_; have HB := Lib.hid hbox_; have HBb := Lib.hid hb_; have HBg := Lib.hid hg_; clear hbox_ hb_ hg_) | ((with_reducible refine gate_dst (N := 5) rfl ?_); refine box_event ?hg (N := 5) ?hd (cs := (dg s).toArray) (t := 22) ?hr ?_; (case hd => rfl); (case hg => rfl); (case hr => first | (go_simp; done) | (go_simp; rfl)); intro ga hg_ w2 hbox_ hb_; have HA := Lib.hid hbox_; have HAb := Lib.hid hb_; have HAg := Lib.hid hg_; clear hbox_ hb_ hg_))
    have HBb := Lib.hid (below_box HBb.out HAb.out)
    have HB := Lib.hid (isI.below HB.out HAb.out)
    go_wp2_with (first | ((with_reducible refine gate_dst (N := 7) rfl ?_); (try (refine gate_guard (by rfl) ?_; dsimp only)); refine wpList_load_row rfl 24 (.tmp 3) rfl g (by rfl) 24 (ic n).toArray (0, 0) _ HB.out Tryd.underlying24 rfl (by rw [List.size_toArray, ic_len HL.out]; kernel_rfl) ?_) | (go_at_call 41; (with_reducible refine (HC.out _).mono ?_); rintro e w3 ⟨rfl, hb2⟩; have HD := Lib.hid (isI.below HB.out hb2); have HE := Lib.hid (isD.below HA.out hb2); have HX := Lib.hid (below_box HBb.out hb2); clear hb2; have c0 := isI.k HD.out; have c1 := isI.sz HD.out) | ((with_reducible refine gate_dst (N := 17) rfl ?_); (try (refine gate_guard (by rfl) ?_; dsimp only)); refine wpList_load_mid rfl 22 (.tmp 16) rfl g 2 (by rfl) (dg n.s) _ (isI.sum HD.out HL.out) Tryd.underlying22 rfl (by rw [dg_len HL.out]; kernel_rfl) ?_) | ((with_reducible refine gate_dst (N := 18) rfl ?_); (try (refine gate_guard (by rfl) ?_; dsimp only)); refine wpList_load_mid rfl 22 (.tmp 5) rfl ga 0 (by rfl) (dg s) _ (isD.whole HE.out) Tryd.underlying22 rfl (by rw [dg_len HS.out]; kernel_rfl) ?_))
    go_ret
    exact ⟨rfl, HX.out⟩
set_option maxHeartbeats 4000000 in
set_option maxRecDepth 100000 in
theorem rlike_call (n : IV) (sz : Int) (s : List Int) (hn : n.s.length = 32) (hs : s.length = 32) (w : World) : Calls Tryd.prog 15 #[.agg (ic n).toArray, .int .i64 sz, .agg (dg s).toArray] w fun e w' => e = .returned (.bool (likeB n sz s)) ∧ Below w.heap.size w w' := by
  have hq : ∀ W : World, (Op.equalIn 10000 22 (.agg (dg n.s).toArray) (.agg (dg s).toArray)).run Tryd.prog W = .ok (decide (n.s = s)) W := fun W => eq22 9998 W hn hs
  have HL := Lib.hid hn
  have HS := Lib.hid hs
  clear hn hs
  have HC := Lib.hid (rcheck_call n HL.out)
  rcases code_says n with ⟨hf, h2, h3⟩ | ⟨h1, h2⟩ | ⟨h1, h2, h3⟩
  rotate_left
  · have hr : likeB n sz s = false := by unfold likeB; rw [h1]; rfl
    rw [h2] at HC
    rw [hr]
    clear h1 h2 hr hq
    go_enter Tryd.func15, Tryd.ntmps15
    go_upto_region 1 with (first | ((with_reducible refine gate_dst (N := 3) rfl ?_); refine box_event ?hg (N := 3) ?hd (cs := (ic n).toArray) (t := 24) ?hr ?_; (case hd => rfl); (case hg => rfl); (case hr => first | (go_simp; done) | (go_simp; rfl)); intro g hg_ w1 hbox_ hb_; have HB := Lib.hid hbox_; have HBb := Lib.hid hb_; have HBg := Lib.hid hg_; clear hbox_ hb_ hg_) | ((with_reducible refine gate_dst (N := 5) rfl ?_); refine box_event ?hg (N := 5) ?hd (cs := (dg s).toArray) (t := 22) ?hr ?_; (case hd => rfl); (case hg => rfl); (case hr => first | (go_simp; done) | (go_simp; rfl)); intro ga hg_ w2 hbox_ hb_; have HA := Lib.hid hbox_; have HAb := Lib.hid hb_; have HAg := Lib.hid hg_; clear hbox_ hb_ hg_))
    have HBb := Lib.hid (below_box HBb.out HAb.out)
    have HB := Lib.hid (isI.below HB.out HAb.out)
    go_wp2_with (first | ((with_reducible refine gate_dst (N := 7) rfl ?_); (try (refine gate_guard (by rfl) ?_; dsimp only)); refine wpList_load_row rfl 24 (.tmp 3) rfl g (by rfl) 24 (ic n).toArray (0, 0) _ HB.out Tryd.underlying24 rfl (by rw [List.size_toArray, ic_len HL.out]; kernel_rfl) ?_) | (go_at_call 28; (with_reducible refine (HC.out _).mono ?_); rintro e w3 ⟨rfl, hb2⟩; have HD := Lib.hid (isI.below HB.out hb2); have HE := Lib.hid (isD.below HA.out hb2); have HX := Lib.hid (below_box HBb.out hb2); clear hb2; have c0 := isI.k HD.out; have c1 := isI.sz HD.out) | ((with_reducible refine gate_dst (N := 23) rfl ?_); (try (refine gate_guard (by rfl) ?_; dsimp only)); refine wpList_load_mid rfl 22 (.tmp 22) rfl g 2 (by rfl) (dg n.s) _ (isI.sum HD.out HL.out) Tryd.underlying22 rfl (by rw [dg_len HL.out]; kernel_rfl) ?_) | ((with_reducible refine gate_dst (N := 24) rfl ?_); (try (refine gate_guard (by rfl) ?_; dsimp only)); refine wpList_load_mid rfl 22 (.tmp 5) rfl ga 0 (by rfl) (dg s) _ (isD.whole HE.out) Tryd.underlying22 rfl (by rw [dg_len HS.out]; kernel_rfl) ?_))
    go_ret
    exact ⟨rfl, HX.out⟩
  · have hr : likeB n sz s = false := by unfold likeB; rw [h1]; rfl
    rw [h2] at HC
    rw [hr]
    clear h1 h2 hr hq
    go_enter Tryd.func15, Tryd.ntmps15
    go_upto_region 1 with (first | ((with_reducible refine gate_dst (N := 3) rfl ?_); refine box_event ?hg (N := 3) ?hd (cs := (ic n).toArray) (t := 24) ?hr ?_; (case hd => rfl); (case hg => rfl); (case hr => first | (go_simp; done) | (go_simp; rfl)); intro g hg_ w1 hbox_ hb_; have HB := Lib.hid hbox_; have HBb := Lib.hid hb_; have HBg := Lib.hid hg_; clear hbox_ hb_ hg_) | ((with_reducible refine gate_dst (N := 5) rfl ?_); refine box_event ?hg (N := 5) ?hd (cs := (dg s).toArray) (t := 22) ?hr ?_; (case hd => rfl); (case hg => rfl); (case hr => first | (go_simp; done) | (go_simp; rfl)); intro ga hg_ w2 hbox_ hb_; have HA := Lib.hid hbox_; have HAb := Lib.hid hb_; have HAg := Lib.hid hg_; clear hbox_ hb_ hg_))
    have HBb := Lib.hid (below_box HBb.out HAb.out)
    have HB := Lib.hid (isI.below HB.out HAb.out)
    go_wp2_with (first | ((with_reducible refine gate_dst (N := 7) rfl ?_); (try (refine gate_guard (by rfl) ?_; dsimp only)); refine wpList_load_row rfl 24 (.tmp 3) rfl g (by rfl) 24 (ic n).toArray (0, 0) _ HB.out Tryd.underlying24 rfl (by rw [List.size_toArray, ic_len HL.out]; kernel_rfl) ?_) | (go_at_call 28; (with_reducible refine (HC.out _).mono ?_); rintro e w3 ⟨rfl, hb2⟩; have HD := Lib.hid (isI.below HB.out hb2); have HE := Lib.hid (isD.below HA.out hb2); have HX := Lib.hid (below_box HBb.out hb2); clear hb2; have c0 := isI.k HD.out; have c1 := isI.sz HD.out) | ((with_reducible refine gate_dst (N := 23) rfl ?_); (try (refine gate_guard (by rfl) ?_; dsimp only)); refine wpList_load_mid rfl 22 (.tmp 22) rfl g 2 (by rfl) (dg n.s) _ (isI.sum HD.out HL.out) Tryd.underlying22 rfl (by rw [dg_len HL.out]; kernel_rfl) ?_) | ((with_reducible refine gate_dst (N := 24) rfl ?_); (try (refine gate_guard (by rfl) ?_; dsimp only)); refine wpList_load_mid rfl 22 (.tmp 5) rfl ga 0 (by rfl) (dg s) _ (isD.whole HE.out) Tryd.underlying22 rfl (by rw [dg_len HS.out]; kernel_rfl) ?_))
    go_ret
    exact ⟨rfl, HX.out⟩
  rw [h2] at HC
  clear h2
  cases hz : (n.sz == sz)
  · have hr : likeB n sz s = false := by unfold likeB; rw [hf, hz]; rfl
    rw [hr]
    clear hf hr hq
    go_enter Tryd.func15, Tryd.ntmps15
    go_upto_region 1 with (first | ((with_reducible refine gate_dst (N := 3) rfl ?_); refine box_event ?hg (N := 3) ?hd (cs := (ic n).toArray) (t := 24) ?hr ?_; (case hd => rfl); (case hg => rfl); (case hr => first | (go_simp; done) | (go_simp; rfl)); intro g hg_ w1 hbox_ hb_; have HB := Lib.hid hbox_; have HBb := Lib.hid hb_; have HBg := Lib.hid hg_; clear hbox_ hb_ hg_) | ((with_reducible refine gate_dst (N := 5) rfl ?_); refine box_event ?hg (N := 5) ?hd (cs := (dg s).toArray) (t := 22) ?hr ?_; (case hd => rfl); (case hg => rfl); (case hr => first | (go_simp; done) | (go_simp; rfl)); intro ga hg_ w2 hbox_ hb_; have HA := Lib.hid hbox_; have HAb := Lib.hid hb_; have HAg := Lib.hid hg_; clear hbox_ hb_ hg_))
    have HBb := Lib.hid (below_box HBb.out HAb.out)
    have HB := Lib.hid (isI.below HB.out HAb.out)
    go_wp2_with (first | ((with_reducible refine gate_dst (N := 7) rfl ?_); (try (refine gate_guard (by rfl) ?_; dsimp only)); refine wpList_load_row rfl 24 (.tmp 3) rfl g (by rfl) 24 (ic n).toArray (0, 0) _ HB.out Tryd.underlying24 rfl (by rw [List.size_toArray, ic_len HL.out]; kernel_rfl) ?_) | (go_at_call 28; (with_reducible refine (HC.out _).mono ?_); rintro e w3 ⟨rfl, hb2⟩; have HD := Lib.hid (isI.below HB.out hb2); have HE := Lib.hid (isD.below HA.out hb2); have HX := Lib.hid (below_box HBb.out hb2); clear hb2; have c0 := isI.k HD.out; have c1 := isI.sz HD.out) | ((with_reducible refine gate_dst (N := 23) rfl ?_); (try (refine gate_guard (by rfl) ?_; dsimp only)); refine wpList_load_mid rfl 22 (.tmp 22) rfl g 2 (by rfl) (dg n.s) _ (isI.sum HD.out HL.out) Tryd.underlying22 rfl (by rw [dg_len HL.out]; kernel_rfl) ?_) | ((with_reducible refine gate_dst (N := 24) rfl ?_); (try (refine gate_guard (by rfl) ?_; dsimp only)); refine wpList_load_mid rfl 22 (.tmp 5) rfl ga 0 (by rfl) (dg s) _ (isD.whole HE.out) Tryd.underlying22 rfl (by rw [dg_len HS.out]; kernel_rfl) ?_))
    go_ret
    exact ⟨rfl, HX.out⟩
  · have hr : likeB n sz s = decide (n.s = s) := by unfold likeB; rw [hf, hz]; rfl
    rw [hr]
    clear hf hr
    go_enter Tryd.func15, Tryd.ntmps15
    go_upto_region 1 with (first | ((with_reducible refine gate_dst (N := 3) rfl ?_); refine box_event ?hg (N := 3) ?hd (cs := (ic n).toArray) (t := 24) ?hr ?_; (case hd => rfl); (case hg => rfl); (case hr => first | (go_simp; done) | (go_simp; rfl)); intro g hg_ w1 hbox_ hb_; have HB := Lib.hid hbox_; have HBb := Lib.hid hb_; have HBg := Lib.hid hg_; clear hbox_ hb_ hg_) | ((with_reducible refine gate_dst (N := 5) rfl ?_); refine box_event ?hg (N := 5) ?hd (cs := (dg s).toArray) (t := 22) ?hr ?_; (case hd => rfl); (case hg => rfl); (case hr => first | (go_simp; done) | (go_simp; rfl)); intro ga hg_ w2 hbox_ hb_; have HA := Lib.hid hbox_; have HAb := Lib.hid hb_; have HAg := Lib.hid hg_; clear hbox_ hb_ hg_))
    have HBb := Lib.hid (below_box HBb.out HAb.out)
    have HB := Lib.hid (isI.below HB.out HAb.out)
    go_wp2_with (first | ((with_reducible refine gate_dst (N := 7) rfl ?_); (try (refine gate_guard (by rfl) ?_; dsimp only)); refine wpList_load_row rfl 24 (.tmp 3) rfl g (by rfl) 24 (ic n).toArray (0, 0) _ HB.out Tryd.underlying24 rfl (by rw [List.size_toArray, ic_len HL.out]; kernel_rfl) ?_) | (go_at_call 28; (with_reducible refine (HC.out _).mono ?_); rintro e w3 ⟨rfl, hb2⟩; have HD := Lib.hid (isI.below HB.out hb2); have HE := Lib.hid (isD.below HA.out hb2); have HX := Lib.hid (below_box HBb.out hb2); clear hb2; have c0 := isI.k HD.out; have c1 := isI.sz HD.out) | ((with_reducible refine gate_dst (N := 23) rfl ?_); (try (refine gate_guard (by rfl) ?_; dsimp only)); refine wpList_load_mid rfl 22 (.tmp 22) rfl g 2 (by rfl) (dg n.s) _ (isI.sum HD.out HL.out) Tryd.underlying22 rfl (by rw [dg_len HL.out]; kernel_rfl) ?_) | ((with_reducible refine gate_dst (N := 24) rfl ?_); (try (refine gate_guard (by rfl) ?_; dsimp only)); refine wpList_load_mid rfl 22 (.tmp 5) rfl ga 0 (by rfl) (dg s) _ (isD.whole HE.out) Tryd.underlying22 rfl (by rw [dg_len HS.out]; kernel_rfl) ?_))
    go_ret
    exact ⟨rfl, HX.out⟩
end Go.Proofs.YtbhioghpgedkeaaDoor.IN
