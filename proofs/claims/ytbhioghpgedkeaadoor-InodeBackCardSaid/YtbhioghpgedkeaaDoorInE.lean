/- Contracts of Hollow, Dirty, Like, on both sides. -/
import Derived.Test.YtbhioghpgedkeaaDoorInC
set_option linter.unusedSimpArgs false
set_option linter.unusedVariables false
namespace Go.Proofs.YtbhioghpgedkeaaDoor.IN
open Go.RowKit Go.Proofs.YtbhioghpgedkeaaDoor.MIt Go.Proofs.YtbhioghpgedkeaaDoorW.PrintWords Go.Proofs.YtbhioghpgedkeaaDoorW.PrintLast Go.Proofs.YtbhioghpgedkeaaDoorW.PrintMore

def hollowB (n : IV) : Bool := fileB n && (n.c == 0)
def dirtyB (n : IV) (a : AV) (b : Bool) : Bool := fileB n && (!b || (n.v == 0 || n.v != a.v))
theorem code_f {n : IV} (h : fileB n = true) : code n = 0 := by unfold code okB; rw [h, Bool.or_true]; rfl
theorem code_k {n : IV} (h : fileB n = false) (hk : (n.k == 2) = true) : code n = 2 := by
  unfold code okB
  rw [h, Bool.or_false]
  cases hd : decide (n = dirI)
  · rfl
  · rw [dir_k hd] at hk; exact absurd hk (by decide)
set_option maxHeartbeats 4000000 in
set_option maxRecDepth 100000 in
theorem file_call (n : IV) (hn : n.s.length = 32) (b : Bool) (w : World) (hb : fileB n = b) : Calls Tryd.prog 41 #[.agg (ic n).toArray] w fun e w' => e = .returned (.bool b) ∧ Below w.heap.size w w' := by
  have HL := Lib.hid hn
  clear hn
  cases hk : (n.k == 2)
  · have : b = false := by rw [← hb]; unfold fileB; rw [hk]; rfl
    subst this
    clear hb
    go_enter Tryd.func41, Tryd.ntmps41
    go_upto_region 1 with (first | ((with_reducible refine gate_dst (N := 1) rfl ?_); refine box_event ?hg (N := 1) ?hd (cs := (ic n).toArray) (t := 24) ?hr ?_; (case hd => rfl); (case hg => rfl); (case hr => first | (go_simp; done) | (go_simp; rfl)); intro g hg_ w1 hbox_ hb_; have HB := Lib.hid hbox_; have HBb := Lib.hid hb_; have HBg := Lib.hid hg_; clear hbox_ hb_ hg_))
    have c0 := isI.k HB.out
    go_wp2
    go_ret
    exact ⟨rfl, HBb.out⟩
  · have hx : ∃ x, code n = x ∧ (x == 0) = b := by
      cases b
      · exact ⟨2, code_k hb hk, rfl⟩
      · exact ⟨0, code_f hb, rfl⟩
    obtain ⟨x, hc, hx⟩ := hx
    have HC := Lib.hid (show ∀ W : World, Calls Tryd.prog 17 #[.agg (ic n).toArray] W fun e w' => e = .returned (.int .i64 x) ∧ Below W.heap.size W w' by rw [← hc]; exact check_call n HL.out)
    clear hb hc
    go_enter Tryd.func41, Tryd.ntmps41
    go_upto_region 1 with (first | ((with_reducible refine gate_dst (N := 1) rfl ?_); refine box_event ?hg (N := 1) ?hd (cs := (ic n).toArray) (t := 24) ?hr ?_; (case hd => rfl); (case hg => rfl); (case hr => first | (go_simp; done) | (go_simp; rfl)); intro g hg_ w1 hbox_ hb_; have HB := Lib.hid hbox_; have HBb := Lib.hid hb_; have HBg := Lib.hid hg_; clear hbox_ hb_ hg_))
    have c0 := isI.k HB.out
    go_wp2_with (first | ((with_reducible refine gate_dst (N := 7) rfl ?_); (try (refine gate_guard (by rfl) ?_; dsimp only)); refine wpList_load_row rfl 24 (.tmp 1) rfl g (by rfl) 24 (ic n).toArray (0, 0) _ HB.out Tryd.underlying24 rfl (by rw [List.size_toArray, ic_len HL.out]; kernel_rfl) ?_) | (go_at_call 17; (with_reducible refine (HC.out _).mono ?_); rintro e w2 ⟨rfl, hb2⟩; have HX := Lib.hid (below_box HBb.out hb2); clear hb2))
    go_ret
    exact ⟨rfl, HX.out⟩
set_option maxHeartbeats 4000000 in
set_option maxRecDepth 100000 in
theorem hollow_call (n : IV) (hn : n.s.length = 32) (w : World) : Calls Tryd.prog 10 #[.agg (ic n).toArray] w fun e w' => e = .returned (.bool (hollowB n)) ∧ Below w.heap.size w w' := by
  have HL := Lib.hid hn
  clear hn
  obtain ⟨b, hb⟩ : ∃ b, fileB n = b := ⟨_, rfl⟩
  have HC := Lib.hid (fun W => file_call n HL.out b W hb)
  cases b
  · have hr : hollowB n = false := by unfold hollowB; rw [hb]; rfl
    rw [hr]
    clear hb hr
    go_enter Tryd.func10, Tryd.ntmps10
    go_upto_region 1 with (first | ((with_reducible refine gate_dst (N := 1) rfl ?_); refine box_event ?hg (N := 1) ?hd (cs := (ic n).toArray) (t := 24) ?hr ?_; (case hd => rfl); (case hg => rfl); (case hr => first | (go_simp; done) | (go_simp; rfl)); intro g hg_ w1 hbox_ hb_; have HB := Lib.hid hbox_; have HBb := Lib.hid hb_; have HBg := Lib.hid hg_; clear hbox_ hb_ hg_))
    go_wp2_with (first | ((with_reducible refine gate_dst (N := 3) rfl ?_); (try (refine gate_guard (by rfl) ?_; dsimp only)); refine wpList_load_row rfl 24 (.tmp 1) rfl g (by rfl) 24 (ic n).toArray (0, 0) _ HB.out Tryd.underlying24 rfl (by rw [List.size_toArray, ic_len HL.out]; kernel_rfl) ?_) | (go_at_call 41; (with_reducible refine (HC.out _).mono ?_); rintro e w2 ⟨rfl, hb2⟩; have HD := Lib.hid (isI.below HB.out hb2); have HX := Lib.hid (below_box HBb.out hb2); clear hb2; have c0 := isI.k HD.out; have c3 := isI.c HD.out HL.out))
    go_ret
    exact ⟨rfl, HX.out⟩
  · have hr : hollowB n = (n.c == 0) := by unfold hollowB; rw [hb]; rfl
    rw [hr]
    clear hb hr
    go_enter Tryd.func10, Tryd.ntmps10
    go_upto_region 1 with (first | ((with_reducible refine gate_dst (N := 1) rfl ?_); refine box_event ?hg (N := 1) ?hd (cs := (ic n).toArray) (t := 24) ?hr ?_; (case hd => rfl); (case hg => rfl); (case hr => first | (go_simp; done) | (go_simp; rfl)); intro g hg_ w1 hbox_ hb_; have HB := Lib.hid hbox_; have HBb := Lib.hid hb_; have HBg := Lib.hid hg_; clear hbox_ hb_ hg_))
    go_wp2_with (first | ((with_reducible refine gate_dst (N := 3) rfl ?_); (try (refine gate_guard (by rfl) ?_; dsimp only)); refine wpList_load_row rfl 24 (.tmp 1) rfl g (by rfl) 24 (ic n).toArray (0, 0) _ HB.out Tryd.underlying24 rfl (by rw [List.size_toArray, ic_len HL.out]; kernel_rfl) ?_) | (go_at_call 41; (with_reducible refine (HC.out _).mono ?_); rintro e w2 ⟨rfl, hb2⟩; have HD := Lib.hid (isI.below HB.out hb2); have HX := Lib.hid (below_box HBb.out hb2); clear hb2; have c0 := isI.k HD.out; have c3 := isI.c HD.out HL.out))
    go_ret
    exact ⟨rfl, HX.out⟩
set_option maxHeartbeats 4000000 in
set_option maxRecDepth 100000 in
theorem dirty_call (n : IV) (a : AV) (b : Bool) (hn : n.s.length = 32) (w : World) : Calls Tryd.prog 12 #[.agg (ic n).toArray, .agg (ac a).toArray, .bool b] w fun e w' => e = .returned (.bool (dirtyB n a b)) ∧ Below w.heap.size w w' := by
  have HL := Lib.hid hn
  clear hn
  obtain ⟨q, hq⟩ : ∃ q, fileB n = q := ⟨_, rfl⟩
  have HC := Lib.hid (fun W => file_call n HL.out q W hq)
  cases q
  · have hr : dirtyB n a b = false := by unfold dirtyB; rw [hq]; rfl
    rw [hr]
    clear hq hr
    go_enter Tryd.func12, Tryd.ntmps12
    go_upto_region 1 with (first | ((with_reducible refine gate_dst (N := 3) rfl ?_); refine box_event ?hg (N := 3) ?hd (cs := (ic n).toArray) (t := 24) ?hr ?_; (case hd => rfl); (case hg => rfl); (case hr => first | (go_simp; done) | (go_simp; rfl)); intro g hg_ w1 hbox_ hb_; have HB := Lib.hid hbox_; have HBb := Lib.hid hb_; have HBg := Lib.hid hg_; clear hbox_ hb_ hg_) | ((with_reducible refine gate_dst (N := 4) rfl ?_); refine box_event ?hg (N := 4) ?hd (cs := (ac a).toArray) (t := 26) ?hr ?_; (case hd => rfl); (case hg => rfl); (case hr => first | (go_simp; done) | (go_simp; rfl)); intro ga hg_ w2 hbox_ hb_; have HA := Lib.hid hbox_; have HAb := Lib.hid hb_; have HAg := Lib.hid hg_; clear hbox_ hb_ hg_))
    have HBb := Lib.hid (below_box HBb.out HAb.out)
    have HB := Lib.hid (isI.below HB.out HAb.out)
    go_wp2_with (first | ((with_reducible refine gate_dst (N := 7) rfl ?_); (try (refine gate_guard (by rfl) ?_; dsimp only)); refine wpList_load_row rfl 24 (.tmp 3) rfl g (by rfl) 24 (ic n).toArray (0, 0) _ HB.out Tryd.underlying24 rfl (by rw [List.size_toArray, ic_len HL.out]; kernel_rfl) ?_) | (go_at_call 41; (with_reducible refine (HC.out _).mono ?_); rintro e w3 ⟨rfl, hb2⟩; have HD := Lib.hid (isI.below HB.out hb2); have HE := Lib.hid (isA.below HA.out hb2); have HX := Lib.hid (below_box HBb.out hb2); clear hb2; have c0 := isI.k HD.out; have c4 := isI.v HD.out HL.out; have d0 := isA.v HE.out))
    go_ret
    exact ⟨rfl, HX.out⟩
  cases b
  · have hr : dirtyB n a false = true := by unfold dirtyB; rw [hq]; rfl
    rw [hr]
    clear hq hr
    go_enter Tryd.func12, Tryd.ntmps12
    go_upto_region 1 with (first | ((with_reducible refine gate_dst (N := 3) rfl ?_); refine box_event ?hg (N := 3) ?hd (cs := (ic n).toArray) (t := 24) ?hr ?_; (case hd => rfl); (case hg => rfl); (case hr => first | (go_simp; done) | (go_simp; rfl)); intro g hg_ w1 hbox_ hb_; have HB := Lib.hid hbox_; have HBb := Lib.hid hb_; have HBg := Lib.hid hg_; clear hbox_ hb_ hg_) | ((with_reducible refine gate_dst (N := 4) rfl ?_); refine box_event ?hg (N := 4) ?hd (cs := (ac a).toArray) (t := 26) ?hr ?_; (case hd => rfl); (case hg => rfl); (case hr => first | (go_simp; done) | (go_simp; rfl)); intro ga hg_ w2 hbox_ hb_; have HA := Lib.hid hbox_; have HAb := Lib.hid hb_; have HAg := Lib.hid hg_; clear hbox_ hb_ hg_))
    have HBb := Lib.hid (below_box HBb.out HAb.out)
    have HB := Lib.hid (isI.below HB.out HAb.out)
    go_wp2_with (first | ((with_reducible refine gate_dst (N := 7) rfl ?_); (try (refine gate_guard (by rfl) ?_; dsimp only)); refine wpList_load_row rfl 24 (.tmp 3) rfl g (by rfl) 24 (ic n).toArray (0, 0) _ HB.out Tryd.underlying24 rfl (by rw [List.size_toArray, ic_len HL.out]; kernel_rfl) ?_) | (go_at_call 41; (with_reducible refine (HC.out _).mono ?_); rintro e w3 ⟨rfl, hb2⟩; have HD := Lib.hid (isI.below HB.out hb2); have HE := Lib.hid (isA.below HA.out hb2); have HX := Lib.hid (below_box HBb.out hb2); clear hb2; have c0 := isI.k HD.out; have c4 := isI.v HD.out HL.out; have d0 := isA.v HE.out))
    go_ret
    exact ⟨rfl, HX.out⟩
  cases hv : (n.v == 0)
  · have hr : dirtyB n a true = (n.v != a.v) := by unfold dirtyB; rw [hq, hv]; rfl
    rw [hr]
    clear hq hr
    go_enter Tryd.func12, Tryd.ntmps12
    go_upto_region 1 with (first | ((with_reducible refine gate_dst (N := 3) rfl ?_); refine box_event ?hg (N := 3) ?hd (cs := (ic n).toArray) (t := 24) ?hr ?_; (case hd => rfl); (case hg => rfl); (case hr => first | (go_simp; done) | (go_simp; rfl)); intro g hg_ w1 hbox_ hb_; have HB := Lib.hid hbox_; have HBb := Lib.hid hb_; have HBg := Lib.hid hg_; clear hbox_ hb_ hg_) | ((with_reducible refine gate_dst (N := 4) rfl ?_); refine box_event ?hg (N := 4) ?hd (cs := (ac a).toArray) (t := 26) ?hr ?_; (case hd => rfl); (case hg => rfl); (case hr => first | (go_simp; done) | (go_simp; rfl)); intro ga hg_ w2 hbox_ hb_; have HA := Lib.hid hbox_; have HAb := Lib.hid hb_; have HAg := Lib.hid hg_; clear hbox_ hb_ hg_))
    have HBb := Lib.hid (below_box HBb.out HAb.out)
    have HB := Lib.hid (isI.below HB.out HAb.out)
    go_wp2_with (first | ((with_reducible refine gate_dst (N := 7) rfl ?_); (try (refine gate_guard (by rfl) ?_; dsimp only)); refine wpList_load_row rfl 24 (.tmp 3) rfl g (by rfl) 24 (ic n).toArray (0, 0) _ HB.out Tryd.underlying24 rfl (by rw [List.size_toArray, ic_len HL.out]; kernel_rfl) ?_) | (go_at_call 41; (with_reducible refine (HC.out _).mono ?_); rintro e w3 ⟨rfl, hb2⟩; have HD := Lib.hid (isI.below HB.out hb2); have HE := Lib.hid (isA.below HA.out hb2); have HX := Lib.hid (below_box HBb.out hb2); clear hb2; have c0 := isI.k HD.out; have c4 := isI.v HD.out HL.out; have d0 := isA.v HE.out))
    go_ret
    exact ⟨rfl, HX.out⟩
  · have hr : dirtyB n a true = true := by unfold dirtyB; rw [hq, hv]; rfl
    rw [hr]
    clear hq hr
    go_enter Tryd.func12, Tryd.ntmps12
    go_upto_region 1 with (first | ((with_reducible refine gate_dst (N := 3) rfl ?_); refine box_event ?hg (N := 3) ?hd (cs := (ic n).toArray) (t := 24) ?hr ?_; (case hd => rfl); (case hg => rfl); (case hr => first | (go_simp; done) | (go_simp; rfl)); intro g hg_ w1 hbox_ hb_; have HB := Lib.hid hbox_; have HBb := Lib.hid hb_; have HBg := Lib.hid hg_; clear hbox_ hb_ hg_) | ((with_reducible refine gate_dst (N := 4) rfl ?_); refine box_event ?hg (N := 4) ?hd (cs := (ac a).toArray) (t := 26) ?hr ?_; (case hd => rfl); (case hg => rfl); (case hr => first | (go_simp; done) | (go_simp; rfl)); intro ga hg_ w2 hbox_ hb_; have HA := Lib.hid hbox_; have HAb := Lib.hid hb_; have HAg := Lib.hid hg_; clear hbox_ hb_ hg_))
    have HBb := Lib.hid (below_box HBb.out HAb.out)
    have HB := Lib.hid (isI.below HB.out HAb.out)
    go_wp2_with (first | ((with_reducible refine gate_dst (N := 7) rfl ?_); (try (refine gate_guard (by rfl) ?_; dsimp only)); refine wpList_load_row rfl 24 (.tmp 3) rfl g (by rfl) 24 (ic n).toArray (0, 0) _ HB.out Tryd.underlying24 rfl (by rw [List.size_toArray, ic_len HL.out]; kernel_rfl) ?_) | (go_at_call 41; (with_reducible refine (HC.out _).mono ?_); rintro e w3 ⟨rfl, hb2⟩; have HD := Lib.hid (isI.below HB.out hb2); have HE := Lib.hid (isA.below HA.out hb2); have HX := Lib.hid (below_box HBb.out hb2); clear hb2; have c0 := isI.k HD.out; have c4 := isI.v HD.out HL.out; have d0 := isA.v HE.out))
    go_ret
    exact ⟨rfl, HX.out⟩
end Go.Proofs.YtbhioghpgedkeaaDoor.IN
