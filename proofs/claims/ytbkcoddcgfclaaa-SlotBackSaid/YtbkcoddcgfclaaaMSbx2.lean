import Derived.Test.YtbkcoddcgfclaaaProg
import Derived.Test.YtbkcoddcgfclaaaAid
import Derived.Test.YtbkcoddcgfclaaaSlices
import Derived.Test.YtbkcoddcgfclaaaExt
import Derived.Test.YtbkcoddcgfclaaaExtB
import Derived.Laws.DeepStrings4
import Derived.Below
import Derived.Deep.Draws
import Derived.Deep.AppendLies
import Derived.Maps.AppendAt
import Derived.OwnWalk
import Derived.Laws.BytesArg
import Derived.Laws.MakeOwn
import Derived.Laws.OwnMore
import Derived.Deep.OwnRows
import Derived.Tactics
import Derived.Lib.ConvBytes
import Derived.Laws.Slices
import Derived.WalkKit
import Derived.KernelRfl
import Derived.RowKit3
import Derived.Deep.LoopGhost
import Derived.Deep.QuietTactic
import Derived.BigQuiet
import Derived.WideLaws
import Derived.Deep.DeepCutAuto
import Derived.Deep.CutBlock
import Derived.Deep.RegionHeld3
import Derived.Laws.Rows
import Derived.Lib.AppendStr
import Derived.ArgAppend
import Derived.Laws.IdiomCopy
import Derived.OrdersHeld
import Derived.Laws.BitsLemmas
import Derived.RowKit
import Derived.Test.YtbkcoddcgfclaaaWWords
import Derived.Test.YtbkcoddcgfclaaaWLast
import Derived.Test.YtbkcoddcgfclaaaWTab
import Derived.Test.YtbkcoddcgfclaaaWApart
import Derived.Test.YtbkcoddcgfclaaaWArr
import Derived.Test.YtbkcoddcgfclaaaWZeros
import Derived.Test.YtbkcoddcgfclaaaWFoot
import Derived.Test.YtbkcoddcgfclaaaWKept
import Derived.Test.YtbkcoddcgfclaaaWShare
import Derived.Test.YtbkcoddcgfclaaaWN
import Derived.Test.YtbkcoddcgfclaaaWEqStruct
import Derived.Test.YtbkcoddcgfclaaaWRepsOne
import Derived.Test.YtbkcoddcgfclaaaWGuard
import Derived.Test.YtbkcoddcgfclaaaWMore
import Derived.Test.YtbkcoddcgfclaaaMSlotx0
import Derived.Test.YtbkcoddcgfclaaaMSbx1
namespace Go.Proofs.Ytbkcoddcgfclaaa.MSb
open Go.Proofs.Ytbkcoddcgfclaaa.MSlot Go.RowKit Go.Proofs.YtbkcoddcgfclaaaW.PrintWords Go.Proofs.YtbkcoddcgfclaaaW.PrintLast Go.Proofs.YtbkcoddcgfclaaaW.PrintMore
attribute [local go_sem] Go.Proofs.Ytbkcoddcgfclaaa.Aid.cell_isSome Go.Proofs.Ytbkcoddcgfclaaa.Aid.string_gtr Go.Proofs.Ytbkcoddcgfclaaa.Aid.string_leq Go.Proofs.Ytbkcoddcgfclaaa.Aid.string_geq
attribute [local go_sem] max2_int min2_int max_two min_two max_three min_three max_four min_four   -- for this text's walks alone
set_option linter.unusedVariables false
set_option linter.unusedSimpArgs false

mutual
def slot_Split.j0 : Nat → Int → Int → Bool → List (S43) → List ByteArray → List Int → Option (Bool × (List (S43)) × List ByteArray × List Int × Bool × (List (S43)) × List ByteArray × List Int × ByteArray × Int)
 | 0, _, _, _, _, _, _ => none
 | k + 1, x6, x7, x119000, x119001, x119002, x119003 => (slot_Check.f x119000 x119001 x119002 x119003).bind fun t121 => (if t121 = 0 then (slot_Split.j1 k x6 x7 (decide (x6 < (wrap64 (2 + x7)))) x119000 x119001 x119002 x119003) else (slot_Split.j1 k x6 x7 true x119000 x119001 x119002 x119003))
def slot_Split.j1 : Nat → Int → Int → Bool → Bool → List (S43) → List ByteArray → List Int → Option (Bool × (List (S43)) × List ByteArray × List Int × Bool × (List (S43)) × List ByteArray × List Int × ByteArray × Int)
 | 0, _, _, _, _, _, _, _ => none
 | k + 1, x6, x7, x29, x119000, x119001, x119002, x119003 => if x29 = true then (some (false, ([] : List (S43)), ([] : List ByteArray), ([] : List Int), false, ([] : List (S43)), ([] : List ByteArray), ([] : List Int), (⟨#[]⟩ : ByteArray), 2)) else (slot_Split.l0 k x6 x7 1 1073741824 1 x119000 x119001 x119002 x119003)
def slot_Split.l0 : Nat → Int → Int → Int → Int → Int → Bool → List (S43) → List ByteArray → List Int → Option (Bool × (List (S43)) × List ByteArray × List Int × Bool × (List (S43)) × List ByteArray × List Int × ByteArray × Int)
 | 0, _, _, _, _, _, _, _, _, _ => none
 | k + 1, x6, x7, x8, x9, x10, x119000, x119001, x119002, x119003 => if x10 < (wrap64 (x6 - x7)) then ((slot_part.f x119000 x119001 x119002 x119003 0 x10).bind fun bt122 => ((slot_size.f bt122.1 bt122.2.1 bt122.2.2.1 bt122.2.2.2).bind fun t132 => ((slot_part.f x119000 x119001 x119002 x119003 (wrap64 (x10 + x7)) x6).bind fun bt133 => ((slot_size.f bt133.1 bt133.2.1 bt133.2.2.1 bt133.2.2.2).bind fun t143 => (if (mx t132 t143) < x9 then (slot_Split.l0 k x6 x7 x10 (mx t132 t143) (wrap64 (x10 + 1)) x119000 x119001 x119002 x119003) else (slot_Split.l0 k x6 x7 x8 x9 (wrap64 (x10 + 1)) x119000 x119001 x119002 x119003)))))) else ((slot_part.f x119000 x119001 x119002 x119003 0 x8).bind fun bt144 => ((slot_part.f x119000 x119001 x119002 x119003 (wrap64 (x8 + x7)) x6).bind fun bt154 => (if x119000 = true then (if 0 ≤ x8 then (if x8 < (x119001.length : Int) then (some (bt144.1, bt144.2.1, bt144.2.2.1, bt144.2.2.2, bt154.1, bt154.2.1, bt154.2.2.1, bt154.2.2.2, (rd_T43 x119001 x8).f0, 0)) else (none)) else (none)) else (if 0 ≤ x8 then (if x8 < (x119002.length : Int) then (some (bt144.1, bt144.2.1, bt144.2.2.1, bt144.2.2.2, bt154.1, bt154.2.1, bt154.2.2.1, bt154.2.2.2, rdOf ByteArray.empty x119002 x8, 0)) else (none)) else (none)))))
end
def slot_Split.f (k : Nat) (a0_0 : Bool) (l0_1 : List (S43)) (l0_2 : List ByteArray) (l0_3 : List Int) : Option (Bool × (List (S43)) × List ByteArray × List Int × Bool × (List (S43)) × List ByteArray × List Int × ByteArray × Int) := if a0_0 = true then (slot_Split.j0 k (l0_1.length : Int) 0 a0_0 l0_1 l0_2 l0_3) else (slot_Split.j0 k (l0_2.length : Int) 1 a0_0 l0_1 l0_2 l0_3)
theorem slot_Split.mono_l : ∀ k, (∀ y0 y1 y2 y3 y4 y5, LeO (slot_Split.j0 k y0 y1 y2 y3 y4 y5) (slot_Split.j0 (k + 1) y0 y1 y2 y3 y4 y5)) ∧ (∀ y0 y1 y2 y3 y4 y5 y6, LeO (slot_Split.j1 k y0 y1 y2 y3 y4 y5 y6) (slot_Split.j1 (k + 1) y0 y1 y2 y3 y4 y5 y6)) ∧ (∀ y0 y1 y2 y3 y4 y5 y6 y7 y8, LeO (slot_Split.l0 k y0 y1 y2 y3 y4 y5 y6 y7 y8) (slot_Split.l0 (k + 1) y0 y1 y2 y3 y4 y5 y6 y7 y8))
 | 0 => ⟨fun _ _ _ _ _ _ r h => by simp [slot_Split.j0] at h, fun _ _ _ _ _ _ _ r h => by simp [slot_Split.j1] at h, fun _ _ _ _ _ _ _ _ _ r h => by simp [slot_Split.l0] at h⟩
 | k + 1 => by
  obtain ⟨ih0, ih1, ih2⟩ := slot_Split.mono_l k
  refine ⟨?_, ?_, ?_⟩
  ·intro y0 y1 y2 y3 y4 y5
   unfold slot_Split.j0
   repeat' first
   | (with_reducible exact ih0 _ _ _ _ _ _)
   | (with_reducible exact ih1 _ _ _ _ _ _ _)
   | (with_reducible exact ih2 _ _ _ _ _ _ _ _ _)
   | (with_reducible exact LeO.refl _)
   | (with_reducible exact LeO.none _)
   | (with_reducible refine LeO.ite ?_ ?_)
   | (with_reducible refine LeO.bind ?_ (fun _ => ?_))
   | exact ih0 _ _ _ _ _ _
   | exact ih1 _ _ _ _ _ _ _
   | exact ih2 _ _ _ _ _ _ _ _ _
   | exact LeO.none _
   | refine LeO.ite ?_ ?_
   | refine LeO.bind ?_ (fun _ => ?_)
  ·intro y0 y1 y2 y3 y4 y5 y6
   unfold slot_Split.j1
   repeat' first
   | (with_reducible exact ih0 _ _ _ _ _ _)
   | (with_reducible exact ih1 _ _ _ _ _ _ _)
   | (with_reducible exact ih2 _ _ _ _ _ _ _ _ _)
   | (with_reducible exact LeO.refl _)
   | (with_reducible exact LeO.none _)
   | (with_reducible refine LeO.ite ?_ ?_)
   | (with_reducible refine LeO.bind ?_ (fun _ => ?_))
   | exact ih0 _ _ _ _ _ _
   | exact ih1 _ _ _ _ _ _ _
   | exact ih2 _ _ _ _ _ _ _ _ _
   | exact LeO.none _
   | refine LeO.ite ?_ ?_
   | refine LeO.bind ?_ (fun _ => ?_)
  ·intro y0 y1 y2 y3 y4 y5 y6 y7 y8
   unfold slot_Split.l0
   repeat' first
   | (with_reducible exact ih0 _ _ _ _ _ _)
   | (with_reducible exact ih1 _ _ _ _ _ _ _)
   | (with_reducible exact ih2 _ _ _ _ _ _ _ _ _)
   | (with_reducible exact LeO.refl _)
   | (with_reducible exact LeO.none _)
   | (with_reducible refine LeO.ite ?_ ?_)
   | (with_reducible refine LeO.bind ?_ (fun _ => ?_))
   | exact ih0 _ _ _ _ _ _
   | exact ih1 _ _ _ _ _ _ _
   | exact ih2 _ _ _ _ _ _ _ _ _
   | exact LeO.none _
   | refine LeO.ite ?_ ?_
   | refine LeO.bind ?_ (fun _ => ?_)
theorem slot_Split.mono : ∀ a0 a1 a2 a3 k, LeO (slot_Split.f k a0 a1 a2 a3) (slot_Split.f (k + 1) a0 a1 a2 a3) := by
 intro a0 a1 a2 a3 k
 obtain ⟨ih0, ih1, ih2⟩ := slot_Split.mono_l k
 unfold slot_Split.f
 repeat' first
   | (with_reducible exact ih0 _ _ _ _ _ _)
   | (with_reducible exact ih1 _ _ _ _ _ _ _)
   | (with_reducible exact ih2 _ _ _ _ _ _ _ _ _)
   | (with_reducible exact LeO.refl _)
   | (with_reducible exact LeO.none _)
   | (with_reducible refine LeO.ite ?_ ?_)
   | (with_reducible refine LeO.bind ?_ (fun _ => ?_))
   | exact ih0 _ _ _ _ _ _
   | exact ih1 _ _ _ _ _ _ _
   | exact ih2 _ _ _ _ _ _ _ _ _
   | exact LeO.none _
   | refine LeO.ite ?_ ?_
   | refine LeO.bind ?_ (fun _ => ?_)
def slot_Split.T10 : Bool × List (List Nat × List Nat) := (true, [([], []), ([], []), ([0, 1], [0, 1]), ([2, 2], [2]), ([], []), ([], []), ([], []), ([5, 6], [5, 6]), ([], []), ([4, 7, 8, 3], [4, 7, 8]), ([9, 9], [9]), ([3, 10], [3, 10]), ([11, 10, 0, 1, 2, 3, 4, 5, 6, 7, 8, 9, 10, 11], [11])])
def slot_Split.B10 : List Nat := [0, 0, 3, 7, 0, 0, 0, 96, 0, 511, 1023, 2047, 4095]
theorem slot_Split.tab10 : rtab .any (opsOf Try.f9 10) = slot_Split.T10 := by kernel_rfl
theorem slot_Split.bits10 : waitsOk slot_Split.T10.2 slot_Split.B10 = true := by kernel_rfl
def slot_Split.T13 : Bool × List (List Nat × List Nat) := (true, [([], []), ([], []), ([0, 1], [0, 1]), ([], []), ([], []), ([], []), ([4, 5], [4, 5]), ([], []), ([3, 6, 7, 2], [3, 6, 7]), ([2, 8, 0, 1, 2], [2]), ([8, 9, 0, 1, 2, 3, 4, 5, 6, 7, 8, 9], [8])])
def slot_Split.B13 : List Nat := [0, 0, 3, 0, 0, 0, 48, 0, 255, 511, 1023]
theorem slot_Split.tab13 : rtab .any (opsOf Try.f9 13) = slot_Split.T13 := by kernel_rfl
theorem slot_Split.bits13 : waitsOk slot_Split.T13.2 slot_Split.B13 = true := by kernel_rfl
def slot_Split.T15 : Bool × List (List Nat × List Nat) := (true, [([], []), ([], []), ([], []), ([2], [2]), ([], []), ([3, 4], [3, 4]), ([5], [5]), ([6], [6]), ([0, 0], [0]), ([1, 8, 0, 1, 8], [1]), ([7, 9, 0, 1, 2, 3, 4, 5, 6, 7, 8, 9], [7]), ([10, 0, 1, 2, 3, 4, 5, 6, 7, 8, 9, 10], [])])
def slot_Split.B15 : List Nat := [0, 0, 0, 4, 0, 28, 60, 124, 1, 259, 1023, 2047]
theorem slot_Split.tab15 : rtab .any (opsOf Try.f9 15) = slot_Split.T15 := by kernel_rfl
theorem slot_Split.bits15 : waitsOk slot_Split.T15.2 slot_Split.B15 = true := by kernel_rfl
def slot_Split.T16 : Bool × List (List Nat × List Nat) := (true, [([], []), ([], []), ([], []), ([2], [2]), ([], []), ([3, 4], [3, 4]), ([5], [5]), ([0, 0], [0]), ([1, 7, 0, 1, 7], [1]), ([6, 8, 0, 1, 2, 3, 4, 5, 6, 7, 8], [6]), ([9, 0, 1, 2, 3, 4, 5, 6, 7, 8, 9], [])])
def slot_Split.B16 : List Nat := [0, 0, 0, 4, 0, 28, 60, 1, 131, 511, 1023]
theorem slot_Split.tab16 : rtab .any (opsOf Try.f9 16) = slot_Split.T16 := by kernel_rfl
theorem slot_Split.bits16 : waitsOk slot_Split.T16.2 slot_Split.B16 = true := by kernel_rfl
set_option maxHeartbeats 8000000 in
set_option maxRecDepth 100000 in
theorem slot_Split.calls (k : Nat) (a0_0 : Bool) (A0_1 : Option Addr) (c0_1 : Nat) (l0_1 : List (S43)) (A0_2 : Option Addr) (c0_2 : Nat) (l0_2 : List ByteArray) (A0_3 : Option Addr) (c0_3 : Nat) (l0_3 : List Int) (r1 : Bool) (r2 : List (S43)) (r3 : List ByteArray) (r4 : List Int) (r5 : Bool) (r6 : List (S43)) (r7 : List ByteArray) (r8 : List Int) (r9 : ByteArray) (r10 : Int) (w : World) (hr0_1 : Kd.C k43 w A0_1 l0_1.length l0_1) (hc0_1 : l0_1.length ≤ c0_1) (hr0_2 : Kd.C Kd.string w A0_2 l0_2.length l0_2) (hc0_2 : l0_2.length ≤ c0_2) (hr0_3 : Kd.C (Kd.int .i64) w A0_3 l0_3.length l0_3) (hc0_3 : l0_3.length ≤ c0_3) (h : slot_Split.f k a0_0 l0_1 l0_2 l0_3 = some (r1, r2, r3, r4, r5, r6, r7, r8, r9, r10)) :
  Calls Try.prog 9 #[.agg #[.bool a0_0, .slice A0_1 l0_1.length c0_1, .slice A0_2 l0_2.length c0_2, .slice A0_3 l0_3.length c0_3]] w fun e w' => ∃ v1_ v2_ v3_ v5_ v6_ v7_ : Value, e = .returned (.tuple #[.agg #[.bool r1, v1_, v2_, v3_], .agg #[.bool r5, v5_, v6_, v7_], .string r9, .int .i64 r10]) ∧ Kd.R k43 43 w' w.heap.size (fun k_ => some k_ ≠ (v5_ : Value).ownBlock) v1_ r2 ∧ Kd.R Kd.string 9 w' w.heap.size (fun k_ => some k_ ≠ (v6_ : Value).ownBlock) v2_ r3 ∧ Kd.R (Kd.int .i64) 3 w' w.heap.size (fun k_ => some k_ ≠ (v7_ : Value).ownBlock) v3_ r4 ∧ Kd.R k43 43 w' w.heap.size (fun k_ => some k_ ≠ (v1_ : Value).ownBlock) v5_ r6 ∧ Kd.R Kd.string 9 w' w.heap.size (fun k_ => some k_ ≠ (v2_ : Value).ownBlock) v6_ r7 ∧ Kd.R (Kd.int .i64) 3 w' w.heap.size (fun k_ => some k_ ≠ (v3_ : Value).ownBlock) v7_ r8 ∧ Below w.heap.size w w' := by
 have hu26 := Try.underlying26
 have HR0_1 := Aside0.mk hr0_1
 have HC0_1 := Aside0.mk hc0_1
 clear hr0_1 hc0_1
 have HR0_2 := Aside0.mk hr0_2
 have HC0_2 := Aside0.mk hc0_2
 clear hr0_2 hc0_2
 have HR0_3 := Aside0.mk hr0_3
 have HC0_3 := Aside0.mk hc0_3
 clear hr0_3 hc0_3
 have HB := Aside0.mk (Below.refl w.heap.size w)
 have H : (if a0_0 = true then (slot_Split.j0 k (l0_1.length : Int) 0 a0_0 l0_1 l0_2 l0_3) else (slot_Split.j0 k (l0_2.length : Int) 1 a0_0 l0_1 l0_2 l0_3)) = some (r1, r2, r3, r4, r5, r6, r7, r8, r9, r10) := h
 clear h
 have HC2 := Aside0.mk H
 clear H
 go_enter Try.func9, Try.ntmps9
 go_upto_if 17 with (first | ((with_reducible refine gate_dst (N := 1) rfl ?_); refine box_event ?hg (N := 1) ?hd (cs := #[.bool a0_0, .slice A0_1 l0_1.length c0_1, .slice A0_2 l0_2.length c0_2, .slice A0_3 l0_3.length c0_3]) (t := 26) ?hr ?_; (case hd => rfl); (case hg => rfl); (case hr => first | (go_simp; done) | (go_simp; rfl)); intro gb118 hg w3 hbox hb; have n0_ := Aside0.mk (below_step (by repeat (first | (with_reducible first | exact HB.out | apply below_alloc | apply pw_below_drewN | apply below_drew1) | exact HB.out)) hb); have n1_ := Aside0.mk (hbox); have n2_ := Aside0.mk ((by rw [hg]; exact (below_size (by repeat (first | (with_reducible first | exact HB.out | apply below_alloc | apply pw_below_drewN | apply below_drew1) | exact HB.out))) : w.heap.size ≤ gb118)); have n3_ := Aside0.mk ((by rw [hg]; exact (below_size (by repeat (first | (with_reducible first | exact HB.out | apply below_alloc | apply pw_below_drewN | apply below_drew1) | exact HB.out))) : w.heap.size ≤ gb118)); clear HB; have HB := n0_; have BK118 := n1_; have GW118 := n2_; have GE118 := n3_; clear n0_ n1_ n2_ n3_; clear hb hbox hg) | ((with_reducible refine gate_dst (N := 2) rfl ?_); refine box_event ?hg (N := 2) ?hd (cs := #[.bool false, .slice none 0 0, .slice none 0 0, .slice none 0 0]) (t := 26) ?hr ?_; (case hd => rfl); (case hg => rfl); (case hr => first | (go_simp; done) | (go_simp; rfl)); intro gb119 hg w4 hbox hb; have n0_ := Aside0.mk (blk_below (g := gb118) (o := .cells #[.bool a0_0, .slice A0_1 l0_1.length c0_1, .slice A0_2 l0_2.length c0_2, .slice A0_3 l0_3.length c0_3] 26 (0, 0)) (by (with_reducible repeat (first | refine blk_drewN ?_ _ | refine blk_drew ?_ | refine blk_alloc ?_ _)); exact BK118.out) hb); have n1_ := Aside0.mk (below_step (by repeat (first | (with_reducible first | exact HB.out | apply below_alloc | apply pw_below_drewN | apply below_drew1 | refine below_set ?_ GE118.out) | exact HB.out)) hb); have n2_ := Aside0.mk (hbox); have n3_ := Aside0.mk ((by rw [hg]; exact (below_size (by repeat (first | (with_reducible first | exact HB.out | apply below_alloc | apply pw_below_drewN | apply below_drew1 | refine below_set ?_ GE118.out) | exact HB.out))) : w.heap.size ≤ gb119)); have n4_ := Aside0.mk ((by rw [hg]; exact (below_size (by repeat (first | (with_reducible first | exact HB.out | apply below_alloc | apply pw_below_drewN | apply below_drew1 | refine below_set ?_ GE118.out) | exact HB.out))) : w.heap.size ≤ gb119)); have n5_ := Aside0.mk ((by rw [hg]; exact Nat.ne_of_lt (blk_lt (g := gb118) (o := .cells #[.bool a0_0, .slice A0_1 l0_1.length c0_1, .slice A0_2 l0_2.length c0_2, .slice A0_3 l0_3.length c0_3] 26 (0, 0)) (by (with_reducible repeat (first | refine blk_drewN ?_ _ | refine blk_drew ?_ | refine blk_alloc ?_ _)); exact BK118.out)) : gb118 ≠ gb119)); have n6_ := Aside0.mk ((by rw [hg]; exact Nat.ne_of_gt (blk_lt (g := gb118) (o := .cells #[.bool a0_0, .slice A0_1 l0_1.length c0_1, .slice A0_2 l0_2.length c0_2, .slice A0_3 l0_3.length c0_3] 26 (0, 0)) (by (with_reducible repeat (first | refine blk_drewN ?_ _ | refine blk_drew ?_ | refine blk_alloc ?_ _)); exact BK118.out)) : gb119 ≠ gb118)); clear BK118; clear HB; have BK118 := n0_; have HB := n1_; have BK119 := n2_; have GW119 := n3_; have GE119 := n4_; have NB118_119 := n5_; have NB119_118 := n6_; clear n0_ n1_ n2_ n3_ n4_ n5_ n6_; clear hb hbox hg) | ((with_reducible refine gate_dst (N := 3) rfl ?_); refine box_event ?hg (N := 3) ?hd (cs := #[.bool false, .slice none 0 0, .slice none 0 0, .slice none 0 0]) (t := 26) ?hr ?_; (case hd => rfl); (case hg => rfl); (case hr => first | (go_simp; done) | (go_simp; rfl)); intro gb120 hg w5 hbox hb; have n0_ := Aside0.mk (blk_below (g := gb118) (o := .cells #[.bool a0_0, .slice A0_1 l0_1.length c0_1, .slice A0_2 l0_2.length c0_2, .slice A0_3 l0_3.length c0_3] 26 (0, 0)) (by (with_reducible repeat (first | refine blk_drewN ?_ _ | refine blk_drew ?_ | refine blk_alloc ?_ _)); exact BK118.out) hb); have n1_ := Aside0.mk (blk_below (g := gb119) (o := .cells #[.bool false, .slice none 0 0, .slice none 0 0, .slice none 0 0] 26 (0, 0)) (by (with_reducible repeat (first | refine blk_drewN ?_ _ | refine blk_drew ?_ | refine blk_alloc ?_ _)); exact BK119.out) hb); have n2_ := Aside0.mk (below_step (by repeat (first | (with_reducible first | exact HB.out | apply below_alloc | apply pw_below_drewN | apply below_drew1 | refine below_set ?_ GE118.out | refine below_set ?_ GE119.out) | exact HB.out)) hb); have n3_ := Aside0.mk (hbox); have n4_ := Aside0.mk ((by rw [hg]; exact (below_size (by repeat (first | (with_reducible first | exact HB.out | apply below_alloc | apply pw_below_drewN | apply below_drew1 | refine below_set ?_ GE118.out | refine below_set ?_ GE119.out) | exact HB.out))) : w.heap.size ≤ gb120)); have n5_ := Aside0.mk ((by rw [hg]; exact (below_size (by repeat (first | (with_reducible first | exact HB.out | apply below_alloc | apply pw_below_drewN | apply below_drew1 | refine below_set ?_ GE118.out | refine below_set ?_ GE119.out) | exact HB.out))) : w.heap.size ≤ gb120)); have n6_ := Aside0.mk ((by rw [hg]; exact Nat.ne_of_lt (blk_lt (g := gb118) (o := .cells #[.bool a0_0, .slice A0_1 l0_1.length c0_1, .slice A0_2 l0_2.length c0_2, .slice A0_3 l0_3.length c0_3] 26 (0, 0)) (by (with_reducible repeat (first | refine blk_drewN ?_ _ | refine blk_drew ?_ | refine blk_alloc ?_ _)); exact BK118.out)) : gb118 ≠ gb120)); have n7_ := Aside0.mk ((by rw [hg]; exact Nat.ne_of_gt (blk_lt (g := gb118) (o := .cells #[.bool a0_0, .slice A0_1 l0_1.length c0_1, .slice A0_2 l0_2.length c0_2, .slice A0_3 l0_3.length c0_3] 26 (0, 0)) (by (with_reducible repeat (first | refine blk_drewN ?_ _ | refine blk_drew ?_ | refine blk_alloc ?_ _)); exact BK118.out)) : gb120 ≠ gb118)); have n8_ := Aside0.mk ((by rw [hg]; exact Nat.ne_of_lt (blk_lt (g := gb119) (o := .cells #[.bool false, .slice none 0 0, .slice none 0 0, .slice none 0 0] 26 (0, 0)) (by (with_reducible repeat (first | refine blk_drewN ?_ _ | refine blk_drew ?_ | refine blk_alloc ?_ _)); exact BK119.out)) : gb119 ≠ gb120)); have n9_ := Aside0.mk ((by rw [hg]; exact Nat.ne_of_gt (blk_lt (g := gb119) (o := .cells #[.bool false, .slice none 0 0, .slice none 0 0, .slice none 0 0] 26 (0, 0)) (by (with_reducible repeat (first | refine blk_drewN ?_ _ | refine blk_drew ?_ | refine blk_alloc ?_ _)); exact BK119.out)) : gb120 ≠ gb119)); clear BK118; clear BK119; clear HB; have BK118 := n0_; have BK119 := n1_; have HB := n2_; have BK120 := n3_; have GW120 := n4_; have GE120 := n5_; have NB118_120 := n6_; have NB120_118 := n7_; have NB119_120 := n8_; have NB120_119 := n9_; clear n0_ n1_ n2_ n3_ n4_ n5_ n6_ n7_ n8_ n9_; clear hb hbox hg; have hnb6 := NB118_119.out; have hnc6 := NB119_118.out; have hnb7 := NB118_120.out; have hnc7 := NB120_118.out; have hcz8_0 : w5.cell? ⟨gb118, 0, none⟩ = some (.bool a0_0) := (blk_cell BK118.out 0).trans rfl; have hcz8_1 : w5.cell? ⟨gb118, 1, none⟩ = some (.slice A0_1 l0_1.length c0_1) := (blk_cell BK118.out 1).trans rfl; have hcz8_2 : w5.cell? ⟨gb118, 2, none⟩ = some (.slice A0_2 l0_2.length c0_2) := (blk_cell BK118.out 2).trans rfl; have hcz8_3 : w5.cell? ⟨gb118, 3, none⟩ = some (.slice A0_3 l0_3.length c0_3) := (blk_cell BK118.out 3).trans rfl; have hfz8_0 := blk_frozen BK118.out 0; have hfz8_1 := blk_frozen BK118.out 1; have hfz8_2 := blk_frozen BK118.out 2; have hfz8_3 := blk_frozen BK118.out 3))
 (try simp only [Act.put, List.setIfInBounds_toArray, List.set_cons_zero, List.set_cons_succ])
 go_cut [6, 7] (fun v6 v7 wc => ∃ (kq : Nat) (x6_1 : Int) (x7_1 : Int), v6 = .int .i64 x6_1 ∧ v7 = .int .i64 x7_1 ∧ Aside0 (slot_Split.j0 kq x6_1 x7_1 a0_0 l0_1 l0_2 l0_3 = some (r1, r2, r3, r4, r5, r6, r7, r8, r9, r10)) ∧ Aside0 (kq ≤ k) ∧ Aside0 (wc.heap[gb118]? = some (.cells #[.bool a0_0, (.slice A0_1 l0_1.length c0_1), (.slice A0_2 l0_2.length c0_2), (.slice A0_3 l0_3.length c0_3)] 26 (0, 0))) ∧ Aside0 (wc.heap[gb119]? = some (.cells #[.bool false, (.slice none 0 0), (.slice none 0 0), (.slice none 0 0)] 26 (0, 0))) ∧ Aside0 (wc.heap[gb120]? = some (.cells #[.bool false, (.slice none 0 0), (.slice none 0 0), (.slice none 0 0)] 26 (0, 0))) ∧ Aside0 (Below w.heap.size w wc))
 case first =>
  have H := HC2.out
  clear HC2
  by_cases c9 : a0_0 = true
  ·subst c9
   have H1 : (slot_Split.j0 k (l0_1.length : Int) 0 true l0_1 l0_2 l0_3) = some (r1, r2, r3, r4, r5, r6, r7, r8, r9, r10) := by rw [if_pos rfl] at H; exact H
   clear H
   have H := H1
   clear H1
   have H' := Aside0.mk H
   clear H
   go_wp2
   go_meet
   case rel => exact ⟨_, ((l0_1.length : Int)), (0), (by first | rfl | (simp; done) | (simp [Aid.ne_nil]; done) | (simp [*]; done)), (by first | rfl | (simp; done) | (simp [Aid.ne_nil]; done) | (simp [*]; done)), H', ⟨by first | omega | exact Nat.le_refl _⟩, ⟨by (with_reducible repeat (first | refine blk_drewN ?_ _ | refine blk_drew ?_ | refine blk_alloc ?_ _)); exact BK118.out⟩, ⟨by (with_reducible repeat (first | refine blk_drewN ?_ _ | refine blk_drew ?_ | refine blk_alloc ?_ _)); exact BK119.out⟩, ⟨by (with_reducible repeat (first | refine blk_drewN ?_ _ | refine blk_drew ?_ | refine blk_alloc ?_ _)); exact BK120.out⟩, ⟨by repeat (first | (with_reducible first | exact HB.out | apply below_alloc | apply pw_below_drewN | apply below_drew1 | refine below_set ?_ GE118.out | refine below_set ?_ GE119.out | refine below_set ?_ GE120.out) | exact HB.out)⟩⟩
  ·replace c9 := Bool.eq_false_iff.mpr c9
   subst c9
   have H1 : (slot_Split.j0 k (l0_2.length : Int) 1 false l0_1 l0_2 l0_3) = some (r1, r2, r3, r4, r5, r6, r7, r8, r9, r10) := by rw [if_neg (show ¬ (false = true) by decide)] at H; exact H
   clear H
   have H := H1
   clear H1
   have H' := Aside0.mk H
   clear H
   have hnb10 := NB118_119.out
   have hnc10 := NB119_118.out
   have hnb11 := NB118_120.out
   have hnc11 := NB120_118.out
   have hcz12_0 : w5.cell? ⟨gb118, 0, none⟩ = some (.bool false) := (blk_cell BK118.out 0).trans rfl
   have hcz12_1 : w5.cell? ⟨gb118, 1, none⟩ = some (.slice A0_1 l0_1.length c0_1) := (blk_cell BK118.out 1).trans rfl
   have hcz12_2 : w5.cell? ⟨gb118, 2, none⟩ = some (.slice A0_2 l0_2.length c0_2) := (blk_cell BK118.out 2).trans rfl
   have hcz12_3 : w5.cell? ⟨gb118, 3, none⟩ = some (.slice A0_3 l0_3.length c0_3) := (blk_cell BK118.out 3).trans rfl
   have hfz12_0 := blk_frozen BK118.out 0
   have hfz12_1 := blk_frozen BK118.out 1
   have hfz12_2 := blk_frozen BK118.out 2
   have hfz12_3 := blk_frozen BK118.out 3
   go_wp2
   go_meet
   case rel => exact ⟨_, ((l0_2.length : Int)), (1), (by first | rfl | (simp; done) | (simp [Aid.ne_nil]; done) | (simp [*]; done)), (by first | rfl | (simp; done) | (simp [Aid.ne_nil]; done) | (simp [*]; done)), H', ⟨by first | omega | exact Nat.le_refl _⟩, ⟨by (with_reducible repeat (first | refine blk_drewN ?_ _ | refine blk_drew ?_ | refine blk_alloc ?_ _)); exact BK118.out⟩, ⟨by (with_reducible repeat (first | refine blk_drewN ?_ _ | refine blk_drew ?_ | refine blk_alloc ?_ _)); exact BK119.out⟩, ⟨by (with_reducible repeat (first | refine blk_drewN ?_ _ | refine blk_drew ?_ | refine blk_alloc ?_ _)); exact BK120.out⟩, ⟨by repeat (first | (with_reducible first | exact HB.out | apply below_alloc | apply pw_below_drewN | apply below_drew1 | refine below_set ?_ GE118.out | refine below_set ?_ GE119.out | refine below_set ?_ GE120.out) | exact HB.out)⟩⟩
 case rest =>
  clear HC2
  try clear c1
  try clear p2
  try clear c6
  try clear c7
  try clear c9
  try clear c10
  try clear c11
  try clear hcz12_0
  try clear hcz12_1
  try clear hcz12_2
  try clear hcz12_3
  try clear hcz8_0
  try clear hcz8_1
  try clear hcz8_2
  try clear hcz8_3
  try clear hfz12_0
  try clear hfz12_1
  try clear hfz12_2
  try clear hfz12_3
  try clear hfz8_0
  try clear hfz8_1
  try clear hfz8_2
  try clear hfz8_3
  obtain ⟨kq, x6_1, x7_1, rfl, rfl, HA, HJ1, BK118, BK119, BK120, HB⟩ := hcut
  cases kq with
  | zero => exact absurd HA.out (by simp [slot_Split.j0])
  | succ kj1 =>
   have H := HA.out
   clear HA
   simp only [slot_Split.j0] at H
   have HC13 := Aside0.mk H
   clear H
   go_upto_region 4 with (fail)
   go_cut [29] (fun v29 wc => ∃ (kq : Nat) (x29_12 : Bool), v29 = .bool x29_12 ∧ Aside0 (slot_Split.j1 kq x6_1 x7_1 x29_12 a0_0 l0_1 l0_2 l0_3 = some (r1, r2, r3, r4, r5, r6, r7, r8, r9, r10)) ∧ Aside0 (kq ≤ kj1) ∧ Aside0 (wc.heap[gb118]? = some (.cells #[.bool a0_0, (.slice A0_1 l0_1.length c0_1), (.slice A0_2 l0_2.length c0_2), (.slice A0_3 l0_3.length c0_3)] 26 (0, 0))) ∧ Aside0 (wc.heap[gb119]? = some (.cells #[.bool false, (.slice none 0 0), (.slice none 0 0), (.slice none 0 0)] 26 (0, 0))) ∧ Aside0 (wc.heap[gb120]? = some (.cells #[.bool false, (.slice none 0 0), (.slice none 0 0), (.slice none 0 0)] 26 (0, 0))) ∧ Aside0 (Below w.heap.size w wc))
   case first =>
    have H := HC13.out
    clear HC13
    replace H := Option.bind_eq_some_iff.mp H
    obtain ⟨t121, A140, H⟩ := H
    replace H : (if t121 = 0 then (slot_Split.j1 kj1 x6_1 x7_1 (decide (x6_1 < (wrap64 (2 + x7_1)))) a0_0 l0_1 l0_2 l0_3) else (slot_Split.j1 kj1 x6_1 x7_1 true a0_0 l0_1 l0_2 l0_3)) = some (r1, r2, r3, r4, r5, r6, r7, r8, r9, r10) := H
    have A14 := Aside0.mk A140
    clear A140
    by_cases c15 : t121 = 0
    ·rw [if_pos c15] at H
     have c15b0 : (t121 == 0) = true := beq_iff_eq.mpr c15
     have c15b1 : (t121 != 0) = false := bne_eq_false_iff_eq.mpr c15
     clear c15
     (first | rw [c15b0] | (simp only [i64_w, i32_w]; rw [c15b0]) | rw [c15b1] | rw [c15b2] | skip)
     have H' := Aside0.mk H
     clear H
     have hnb16 := NB118_119.out
     have hnc16 := NB119_118.out
     have hnb17 := NB118_120.out
     have hnc17 := NB120_118.out
     have hcz18_0 : wc.cell? ⟨gb118, 0, none⟩ = some (.bool a0_0) := (blk_cell BK118.out 0).trans rfl
     have hcz18_1 : wc.cell? ⟨gb118, 1, none⟩ = some (.slice A0_1 l0_1.length c0_1) := (blk_cell BK118.out 1).trans rfl
     have hcz18_2 : wc.cell? ⟨gb118, 2, none⟩ = some (.slice A0_2 l0_2.length c0_2) := (blk_cell BK118.out 2).trans rfl
     have hcz18_3 : wc.cell? ⟨gb118, 3, none⟩ = some (.slice A0_3 l0_3.length c0_3) := (blk_cell BK118.out 3).trans rfl
     have hfz18_0 := blk_frozen BK118.out 0
     have hfz18_1 := blk_frozen BK118.out 1
     have hfz18_2 := blk_frozen BK118.out 2
     have hfz18_3 := blk_frozen BK118.out 3
     go_wp2_with (first | ((with_reducible refine gate_callee (f := 15) rfl ?_); refine goesL_ (some 22) rfl rfl Try.func15 (by kernel_rfl) rfl #[.agg #[.bool a0_0, .slice A0_1 l0_1.length c0_1, .slice A0_2 l0_2.length c0_2, .slice A0_3 l0_3.length c0_3]] rfl (by (try simp only [List.map_toArray, List.map_cons, List.map_nil]); first | done | rfl | (simp only [List.length_drop, List.length_take]; rfl)) ?_; (with_reducible refine (slot_Check.calls a0_0 _ _ l0_1 _ _ l0_2 _ _ l0_3 t121 _ ?side1 ?side2 ?side3 ?side4 ?side5 ?side6 A14.out).mono ?_); (case side1 => repeat (first | exact (Kd.C_below HR0_1.out HB.out) | (with_reducible refine Kd.C_alloc ?_ _) | (with_reducible refine Kd.C_drewN ?_ _) | (with_reducible refine Kd.C_drew ?_))); (case side2 => exact HC0_1.out); (case side3 => repeat (first | exact (Kd.C_below HR0_2.out HB.out) | (with_reducible refine Kd.C_alloc ?_ _) | (with_reducible refine Kd.C_drewN ?_ _) | (with_reducible refine Kd.C_drew ?_))); (case side4 => exact HC0_2.out); (case side5 => repeat (first | exact (Kd.C_below HR0_3.out HB.out) | (with_reducible refine Kd.C_alloc ?_ _) | (with_reducible refine Kd.C_drewN ?_ _) | (with_reducible refine Kd.C_drew ?_))); (case side6 => exact HC0_3.out); rintro e w19 ⟨rfl, hb⟩; refine ⟨_, rfl, ?_⟩; have n0_ := Aside0.mk (blk_below (g := gb118) (o := .cells #[.bool a0_0, .slice A0_1 l0_1.length c0_1, .slice A0_2 l0_2.length c0_2, .slice A0_3 l0_3.length c0_3] 26 (0, 0)) (by (with_reducible repeat (first | refine blk_drewN ?_ _ | refine blk_drew ?_ | refine blk_alloc ?_ _)); exact BK118.out) hb); have n1_ := Aside0.mk (blk_below (g := gb119) (o := .cells #[.bool false, .slice none 0 0, .slice none 0 0, .slice none 0 0] 26 (0, 0)) (by (with_reducible repeat (first | refine blk_drewN ?_ _ | refine blk_drew ?_ | refine blk_alloc ?_ _)); exact BK119.out) hb); have n2_ := Aside0.mk (blk_below (g := gb120) (o := .cells #[.bool false, .slice none 0 0, .slice none 0 0, .slice none 0 0] 26 (0, 0)) (by (with_reducible repeat (first | refine blk_drewN ?_ _ | refine blk_drew ?_ | refine blk_alloc ?_ _)); exact BK120.out) hb); have n3_ := Aside0.mk (below_step (by repeat (first | (with_reducible first | exact HB.out | apply below_alloc | apply pw_below_drewN | apply below_drew1 | refine below_set ?_ GE118.out | refine below_set ?_ GE119.out | refine below_set ?_ GE120.out) | exact HB.out)) hb); clear BK118; clear BK119; clear BK120; clear HB; have BK118 := n0_; have BK119 := n1_; have BK120 := n2_; have HB := n3_; clear n0_ n1_ n2_ n3_; (try clear hb); (try clear hb2); (try clear hk); (try clear hi)))
     go_meet
     case rel => exact ⟨_, (decide (x6_1 < (wrap64 (2 + x7_1)))), (by first | rfl | (simp; done) | (simp [Aid.ne_nil]; done) | (simp [*]; done)), H', ⟨by have := HJ1.out; first | omega | exact Nat.le_refl _⟩, ⟨by (with_reducible repeat (first | refine blk_drewN ?_ _ | refine blk_drew ?_ | refine blk_alloc ?_ _)); exact BK118.out⟩, ⟨by (with_reducible repeat (first | refine blk_drewN ?_ _ | refine blk_drew ?_ | refine blk_alloc ?_ _)); exact BK119.out⟩, ⟨by (with_reducible repeat (first | refine blk_drewN ?_ _ | refine blk_drew ?_ | refine blk_alloc ?_ _)); exact BK120.out⟩, ⟨by repeat (first | (with_reducible first | exact HB.out | apply below_alloc | apply pw_below_drewN | apply below_drew1 | refine below_set ?_ GE118.out | refine below_set ?_ GE119.out | refine below_set ?_ GE120.out) | exact HB.out)⟩⟩
    ·rw [if_neg c15] at H
     have c15b0 : (t121 == 0) = false := beq_eq_false_iff_ne.mpr c15
     have c15b1 : (t121 != 0) = true := bne_iff_ne.mpr c15
     (first | rw [c15b0] | (simp only [i64_w, i32_w]; rw [c15b0]) | rw [c15b1] | rw [c15b2] | skip)
     have H' := Aside0.mk H
     clear H
     have hnb20 := NB118_119.out
     have hnc20 := NB119_118.out
     have hnb21 := NB118_120.out
     have hnc21 := NB120_118.out
     have hcz22_0 : wc.cell? ⟨gb118, 0, none⟩ = some (.bool a0_0) := (blk_cell BK118.out 0).trans rfl
     have hcz22_1 : wc.cell? ⟨gb118, 1, none⟩ = some (.slice A0_1 l0_1.length c0_1) := (blk_cell BK118.out 1).trans rfl
     have hcz22_2 : wc.cell? ⟨gb118, 2, none⟩ = some (.slice A0_2 l0_2.length c0_2) := (blk_cell BK118.out 2).trans rfl
     have hcz22_3 : wc.cell? ⟨gb118, 3, none⟩ = some (.slice A0_3 l0_3.length c0_3) := (blk_cell BK118.out 3).trans rfl
     have hfz22_0 := blk_frozen BK118.out 0
     have hfz22_1 := blk_frozen BK118.out 1
     have hfz22_2 := blk_frozen BK118.out 2
     have hfz22_3 := blk_frozen BK118.out 3
     go_wp2_with (first | ((with_reducible refine gate_callee (f := 15) rfl ?_); refine goesL_ (some 22) rfl rfl Try.func15 (by kernel_rfl) rfl #[.agg #[.bool a0_0, .slice A0_1 l0_1.length c0_1, .slice A0_2 l0_2.length c0_2, .slice A0_3 l0_3.length c0_3]] rfl (by (try simp only [List.map_toArray, List.map_cons, List.map_nil]); first | done | rfl | (simp only [List.length_drop, List.length_take]; rfl)) ?_; (with_reducible refine (slot_Check.calls a0_0 _ _ l0_1 _ _ l0_2 _ _ l0_3 t121 _ ?side1 ?side2 ?side3 ?side4 ?side5 ?side6 A14.out).mono ?_); (case side1 => repeat (first | exact (Kd.C_below HR0_1.out HB.out) | (with_reducible refine Kd.C_alloc ?_ _) | (with_reducible refine Kd.C_drewN ?_ _) | (with_reducible refine Kd.C_drew ?_))); (case side2 => exact HC0_1.out); (case side3 => repeat (first | exact (Kd.C_below HR0_2.out HB.out) | (with_reducible refine Kd.C_alloc ?_ _) | (with_reducible refine Kd.C_drewN ?_ _) | (with_reducible refine Kd.C_drew ?_))); (case side4 => exact HC0_2.out); (case side5 => repeat (first | exact (Kd.C_below HR0_3.out HB.out) | (with_reducible refine Kd.C_alloc ?_ _) | (with_reducible refine Kd.C_drewN ?_ _) | (with_reducible refine Kd.C_drew ?_))); (case side6 => exact HC0_3.out); rintro e w23 ⟨rfl, hb⟩; refine ⟨_, rfl, ?_⟩; have n0_ := Aside0.mk (blk_below (g := gb118) (o := .cells #[.bool a0_0, .slice A0_1 l0_1.length c0_1, .slice A0_2 l0_2.length c0_2, .slice A0_3 l0_3.length c0_3] 26 (0, 0)) (by (with_reducible repeat (first | refine blk_drewN ?_ _ | refine blk_drew ?_ | refine blk_alloc ?_ _)); exact BK118.out) hb); have n1_ := Aside0.mk (blk_below (g := gb119) (o := .cells #[.bool false, .slice none 0 0, .slice none 0 0, .slice none 0 0] 26 (0, 0)) (by (with_reducible repeat (first | refine blk_drewN ?_ _ | refine blk_drew ?_ | refine blk_alloc ?_ _)); exact BK119.out) hb); have n2_ := Aside0.mk (blk_below (g := gb120) (o := .cells #[.bool false, .slice none 0 0, .slice none 0 0, .slice none 0 0] 26 (0, 0)) (by (with_reducible repeat (first | refine blk_drewN ?_ _ | refine blk_drew ?_ | refine blk_alloc ?_ _)); exact BK120.out) hb); have n3_ := Aside0.mk (below_step (by repeat (first | (with_reducible first | exact HB.out | apply below_alloc | apply pw_below_drewN | apply below_drew1 | refine below_set ?_ GE118.out | refine below_set ?_ GE119.out | refine below_set ?_ GE120.out) | exact HB.out)) hb); clear BK118; clear BK119; clear BK120; clear HB; have BK118 := n0_; have BK119 := n1_; have BK120 := n2_; have HB := n3_; clear n0_ n1_ n2_ n3_; (try clear hb); (try clear hb2); (try clear hk); (try clear hi)))
     go_meet
     case rel => exact ⟨_, (true), (by first | rfl | (simp; done) | (simp [Aid.ne_nil]; done) | (simp [*]; done)), H', ⟨by have := HJ1.out; first | omega | exact Nat.le_refl _⟩, ⟨by (with_reducible repeat (first | refine blk_drewN ?_ _ | refine blk_drew ?_ | refine blk_alloc ?_ _)); exact BK118.out⟩, ⟨by (with_reducible repeat (first | refine blk_drewN ?_ _ | refine blk_drew ?_ | refine blk_alloc ?_ _)); exact BK119.out⟩, ⟨by (with_reducible repeat (first | refine blk_drewN ?_ _ | refine blk_drew ?_ | refine blk_alloc ?_ _)); exact BK120.out⟩, ⟨by repeat (first | (with_reducible first | exact HB.out | apply below_alloc | apply pw_below_drewN | apply below_drew1 | refine below_set ?_ GE118.out | refine below_set ?_ GE119.out | refine below_set ?_ GE120.out) | exact HB.out)⟩⟩
   case rest =>
    clear HC13
    try clear c1
    try clear c2
    try clear p2
    try clear c6
    try clear p6
    try clear c7
    try clear c9
    try clear c10
    try clear c11
    try clear c15
    try clear c15b0
    try clear c15b1
    try clear c15b2
    try clear c16
    try clear c17
    try clear c20
    try clear c21
    try clear hcz12_0
    try clear hcz12_1
    try clear hcz12_2
    try clear hcz12_3
    try clear hcz18_0
    try clear hcz18_1
    try clear hcz18_2
    try clear hcz18_3
    try clear hcz22_0
    try clear hcz22_1
    try clear hcz22_2
    try clear hcz22_3
    try clear hcz8_0
    try clear hcz8_1
    try clear hcz8_2
    try clear hcz8_3
    try clear hfz12_0
    try clear hfz12_1
    try clear hfz12_2
    try clear hfz12_3
    try clear hfz18_0
    try clear hfz18_1
    try clear hfz18_2
    try clear hfz18_3
    try clear hfz22_0
    try clear hfz22_1
    try clear hfz22_2
    try clear hfz22_3
    try clear hfz8_0
    try clear hfz8_1
    try clear hfz8_2
    try clear hfz8_3
    try clear p2
    obtain ⟨kq, x29_12, rfl, HA, HJ12, BK118, BK119, BK120, HB⟩ := hcut
    cases kq with
    | zero => exact absurd HA.out (by simp [slot_Split.j1])
    | succ kj12 =>
     have H := HA.out
     clear HA
     simp only [slot_Split.j1] at H
     by_cases c24 : x29_12 = true
     ·subst c24
      have H1 : (some (false, ([] : List (S43)), ([] : List ByteArray), ([] : List Int), false, ([] : List (S43)), ([] : List ByteArray), ([] : List Int), (⟨#[]⟩ : ByteArray), 2)) = some (r1, r2, r3, r4, r5, r6, r7, r8, r9, r10) := by rw [if_pos rfl] at H; exact H
      clear H
      have H := H1
      clear H1
      simp only [Option.some.injEq, Prod.mk.injEq] at H
      obtain ⟨rfl, rfl, rfl, rfl, rfl, rfl, rfl, rfl, rfl, rfl⟩ := H
      have hnb25 := NB119_118.out
      have hnc25 := NB118_119.out
      have hnb26 := NB119_120.out
      have hnc26 := NB120_119.out
      have hcz27_0 : wc.cell? ⟨gb119, 0, none⟩ = some (.bool false) := (blk_cell BK119.out 0).trans rfl
      have hcz27_1 : wc.cell? ⟨gb119, 1, none⟩ = some (.slice none 0 0) := (blk_cell BK119.out 1).trans rfl
      have hcz27_2 : wc.cell? ⟨gb119, 2, none⟩ = some (.slice none 0 0) := (blk_cell BK119.out 2).trans rfl
      have hcz27_3 : wc.cell? ⟨gb119, 3, none⟩ = some (.slice none 0 0) := (blk_cell BK119.out 3).trans rfl
      have hfz27_0 := blk_frozen BK119.out 0
      have hfz27_1 := blk_frozen BK119.out 1
      have hfz27_2 := blk_frozen BK119.out 2
      have hfz27_3 := blk_frozen BK119.out 3
      have hnb28 := NB120_118.out
      have hnc28 := NB118_120.out
      have hcz29_0 : wc.cell? ⟨gb120, 0, none⟩ = some (.bool false) := (blk_cell BK120.out 0).trans rfl
      have hcz29_1 : wc.cell? ⟨gb120, 1, none⟩ = some (.slice none 0 0) := (blk_cell BK120.out 1).trans rfl
      have hcz29_2 : wc.cell? ⟨gb120, 2, none⟩ = some (.slice none 0 0) := (blk_cell BK120.out 2).trans rfl
      have hcz29_3 : wc.cell? ⟨gb120, 3, none⟩ = some (.slice none 0 0) := (blk_cell BK120.out 3).trans rfl
      have hfz29_0 := blk_frozen BK120.out 0
      have hfz29_1 := blk_frozen BK120.out 1
      have hfz29_2 := blk_frozen BK120.out 2
      have hfz29_3 := blk_frozen BK120.out 3
      go_wp2
      refine bodyPost_ret (results_list (rs := [.cell 2 26, .cell 3 26, .tmp 4, .tmp 5]) rfl (by simp) (.cell gb119 26 #[.bool false, .slice none 0 0, .slice none 0 0, .slice none 0 0] (0, 0) _ rfl (by (with_reducible repeat (first | refine blk_drewN ?_ _ | refine blk_drew ?_ | refine blk_alloc ?_ _)); refine blk_far ?_ NB119_120.out _; (with_reducible repeat (first | refine blk_drewN ?_ _ | refine blk_drew ?_ | refine blk_alloc ?_ _)); refine blk_far ?_ NB119_120.out _; (with_reducible repeat (first | refine blk_drewN ?_ _ | refine blk_drew ?_ | refine blk_alloc ?_ _)); refine blk_far ?_ NB119_120.out _; (with_reducible repeat (first | refine blk_drewN ?_ _ | refine blk_drew ?_ | refine blk_alloc ?_ _)); refine blk_far ?_ NB119_120.out _; (with_reducible repeat (first | refine blk_drewN ?_ _ | refine blk_drew ?_ | refine blk_alloc ?_ _)); refine blk_put (cs := #[.bool false, .slice none 0 0, .slice none 0 0, .slice none 0 0]) ?_ 3 _ rfl; (with_reducible repeat (first | refine blk_drewN ?_ _ | refine blk_drew ?_ | refine blk_alloc ?_ _)); refine blk_put (cs := #[.bool false, .slice none 0 0, .slice none 0 0, .slice none 0 0]) ?_ 2 _ rfl; (with_reducible repeat (first | refine blk_drewN ?_ _ | refine blk_drew ?_ | refine blk_alloc ?_ _)); refine blk_put (cs := #[.bool false, .slice none 0 0, .slice none 0 0, .slice none 0 0]) ?_ 1 _ rfl; (with_reducible repeat (first | refine blk_drewN ?_ _ | refine blk_drew ?_ | refine blk_alloc ?_ _)); refine blk_put (cs := #[.bool false, .slice none 0 0, .slice none 0 0, .slice none 0 0]) ?_ 0 _ rfl; (with_reducible repeat (first | refine blk_drewN ?_ _ | refine blk_drew ?_ | refine blk_alloc ?_ _)); exact BK119.out) Try.underlying26 rfl (by kernel_rfl) (.cell gb120 26 #[.bool false, .slice none 0 0, .slice none 0 0, .slice none 0 0] (0, 0) _ rfl (by (with_reducible repeat (first | refine blk_drewN ?_ _ | refine blk_drew ?_ | refine blk_alloc ?_ _)); refine blk_put (cs := #[.bool false, .slice none 0 0, .slice none 0 0, .slice none 0 0]) ?_ 3 _ rfl; (with_reducible repeat (first | refine blk_drewN ?_ _ | refine blk_drew ?_ | refine blk_alloc ?_ _)); refine blk_put (cs := #[.bool false, .slice none 0 0, .slice none 0 0, .slice none 0 0]) ?_ 2 _ rfl; (with_reducible repeat (first | refine blk_drewN ?_ _ | refine blk_drew ?_ | refine blk_alloc ?_ _)); refine blk_put (cs := #[.bool false, .slice none 0 0, .slice none 0 0, .slice none 0 0]) ?_ 1 _ rfl; (with_reducible repeat (first | refine blk_drewN ?_ _ | refine blk_drew ?_ | refine blk_alloc ?_ _)); refine blk_put (cs := #[.bool false, .slice none 0 0, .slice none 0 0, .slice none 0 0]) ?_ 0 _ rfl; (with_reducible repeat (first | refine blk_drewN ?_ _ | refine blk_drew ?_ | refine blk_alloc ?_ _)); refine blk_far ?_ NB120_119.out _; (with_reducible repeat (first | refine blk_drewN ?_ _ | refine blk_drew ?_ | refine blk_alloc ?_ _)); refine blk_far ?_ NB120_119.out _; (with_reducible repeat (first | refine blk_drewN ?_ _ | refine blk_drew ?_ | refine blk_alloc ?_ _)); refine blk_far ?_ NB120_119.out _; (with_reducible repeat (first | refine blk_drewN ?_ _ | refine blk_drew ?_ | refine blk_alloc ?_ _)); refine blk_far ?_ NB120_119.out _; (with_reducible repeat (first | refine blk_drewN ?_ _ | refine blk_drew ?_ | refine blk_alloc ?_ _)); exact BK120.out) Try.underlying26 rfl (by kernel_rfl) (.tmp (.tmp .nil))))) rfl ?_
      exact ⟨_, _, _, _, _, _, by first | rfl | (simp [errW_none, errW_some] <;> rfl) | (simp [*, errW_none, errW_some] <;> rfl), by first | exact Kd.R_nil _ _ _ _ _ | exact Kd.N_nil _ _ _ _ _ | exact Kd.V_nil _ _ _ _ _ | exact Kd.Q_nil _ _ _ _ _ | exact Kd.S_nil _ _ _ _ _, by first | exact Kd.R_nil _ _ _ _ _ | exact Kd.N_nil _ _ _ _ _ | exact Kd.V_nil _ _ _ _ _ | exact Kd.Q_nil _ _ _ _ _ | exact Kd.S_nil _ _ _ _ _, by first | exact Kd.R_nil _ _ _ _ _ | exact Kd.N_nil _ _ _ _ _ | exact Kd.V_nil _ _ _ _ _ | exact Kd.Q_nil _ _ _ _ _ | exact Kd.S_nil _ _ _ _ _, by first | exact Kd.R_nil _ _ _ _ _ | exact Kd.N_nil _ _ _ _ _ | exact Kd.V_nil _ _ _ _ _ | exact Kd.Q_nil _ _ _ _ _ | exact Kd.S_nil _ _ _ _ _, by first | exact Kd.R_nil _ _ _ _ _ | exact Kd.N_nil _ _ _ _ _ | exact Kd.V_nil _ _ _ _ _ | exact Kd.Q_nil _ _ _ _ _ | exact Kd.S_nil _ _ _ _ _, by first | exact Kd.R_nil _ _ _ _ _ | exact Kd.N_nil _ _ _ _ _ | exact Kd.V_nil _ _ _ _ _ | exact Kd.Q_nil _ _ _ _ _ | exact Kd.S_nil _ _ _ _ _, by repeat (first | (with_reducible first | exact HB.out | apply below_alloc | apply pw_below_drewN | apply below_drew1 | refine below_set ?_ GE118.out | refine below_set ?_ GE119.out | refine below_set ?_ GE120.out) | exact HB.out)⟩
     ·replace c24 := Bool.eq_false_iff.mpr c24
      subst c24
      have H1 : (slot_Split.l0 kj12 x6_1 x7_1 1 1073741824 1 a0_0 l0_1 l0_2 l0_3) = some (r1, r2, r3, r4, r5, r6, r7, r8, r9, r10) := by rw [if_neg (show ¬ (false = true) by decide)] at H; exact H
      clear H
      have H := H1
      clear H1
      have H' := Aside0.mk H
      clear H
      go_wp2
      go_loopg [8, 9, 10] kj12 (fun kq v8 v9 v10 w' => ∃ (x8_3 : Int) (x9_3 : Int) (x10_3 : Int), v8 = .int .i64 x8_3 ∧ v9 = .int .i64 x9_3 ∧ v10 = .int .i64 x10_3 ∧ Aside0 (slot_Split.l0 kq x6_1 x7_1 x8_3 x9_3 x10_3 a0_0 l0_1 l0_2 l0_3 = some (r1, r2, r3, r4, r5, r6, r7, r8, r9, r10)) ∧ Aside0 (kq ≤ kj12) ∧ Aside0 (w'.heap[gb118]? = some (.cells #[.bool a0_0, (.slice A0_1 l0_1.length c0_1), (.slice A0_2 l0_2.length c0_2), (.slice A0_3 l0_3.length c0_3)] 26 (0, 0))) ∧ Aside0 (w'.heap[gb119]? = some (.cells #[.bool false, (.slice none 0 0), (.slice none 0 0), (.slice none 0 0)] 26 (0, 0))) ∧ Aside0 (w'.heap[gb120]? = some (.cells #[.bool false, (.slice none 0 0), (.slice none 0 0), (.slice none 0 0)] 26 (0, 0))) ∧ Aside0 (Below w.heap.size w w'))
      case atStart => exact ⟨(1), (1073741824), (1), (by first | rfl | (simp; done) | (simp [*]; done)), (by first | rfl | (simp; done) | (simp [*]; done)), (by first | rfl | (simp; done) | (simp [*]; done)), H', ⟨Nat.le_refl _⟩, ⟨by (with_reducible repeat (first | refine blk_drewN ?_ _ | refine blk_drew ?_ | refine blk_alloc ?_ _)); exact BK118.out⟩, ⟨by (with_reducible repeat (first | refine blk_drewN ?_ _ | refine blk_drew ?_ | refine blk_alloc ?_ _)); exact BK119.out⟩, ⟨by (with_reducible repeat (first | refine blk_drewN ?_ _ | refine blk_drew ?_ | refine blk_alloc ?_ _)); exact BK120.out⟩, ⟨by repeat (first | (with_reducible first | exact HB.out | apply below_alloc | apply pw_below_drewN | apply below_drew1 | refine below_set ?_ GE118.out | refine below_set ?_ GE119.out | refine below_set ?_ GE120.out) | exact HB.out)⟩⟩
      case round =>
       clear H'
       try clear c1
       try clear c2
       try clear p2
       try clear c6
       try clear p6
       try clear c7
       try clear c9
       try clear c10
       try clear c11
       try clear c15
       try clear c15b0
       try clear c15b1
       try clear c15b2
       try clear c16
       try clear c17
       try clear c20
       try clear c21
       try clear c24
       try clear c25
       try clear c26
       try clear c28
       try clear hcz12_0
       try clear hcz12_1
       try clear hcz12_2
       try clear hcz12_3
       try clear hcz18_0
       try clear hcz18_1
       try clear hcz18_2
       try clear hcz18_3
       try clear hcz22_0
       try clear hcz22_1
       try clear hcz22_2
       try clear hcz22_3
       try clear hcz27_0
       try clear hcz27_1
       try clear hcz27_2
       try clear hcz27_3
       try clear hcz29_0
       try clear hcz29_1
       try clear hcz29_2
       try clear hcz29_3
       try clear hcz8_0
       try clear hcz8_1
       try clear hcz8_2
       try clear hcz8_3
       try clear hfz12_0
       try clear hfz12_1
       try clear hfz12_2
       try clear hfz12_3
       try clear hfz18_0
       try clear hfz18_1
       try clear hfz18_2
       try clear hfz18_3
       try clear hfz22_0
       try clear hfz22_1
       try clear hfz22_2
       try clear hfz22_3
       try clear hfz27_0
       try clear hfz27_1
       try clear hfz27_2
       try clear hfz27_3
       try clear hfz29_0
       try clear hfz29_1
       try clear hfz29_2
       try clear hfz29_3
       try clear hfz8_0
       try clear hfz8_1
       try clear hfz8_2
       try clear hfz8_3
       try clear p2
       try clear p6
       obtain ⟨x8_3, x9_3, x10_3, rfl, rfl, rfl, HA, HK3, BK118, BK119, BK120, HB⟩ := hrel
       cases gk with
       | zero => exact absurd HA.out (by simp [slot_Split.l0])
       | succ k3 =>
        have H := HA.out
        clear HA
        simp only [slot_Split.l0] at H
        by_cases c30 : x10_3 < (wrap64 (x6_1 - x7_1))
        ·rw [if_pos c30] at H
         have c30b0 : decide (x10_3 < (wrap64 (x6_1 - x7_1))) = true := decide_eq_true c30
         clear c30
         replace H := Option.bind_eq_some_iff.mp H
         obtain ⟨⟨t122, t123, t126, t129⟩, A310, H⟩ := H
         replace H : ((slot_size.f t122 t123 t126 t129).bind fun t132 => ((slot_part.f a0_0 l0_1 l0_2 l0_3 (wrap64 (x10_3 + x7_1)) x6_1).bind fun bt133 => ((slot_size.f bt133.1 bt133.2.1 bt133.2.2.1 bt133.2.2.2).bind fun t143 => (if (mx t132 t143) < x9_3 then (slot_Split.l0 k3 x6_1 x7_1 x10_3 (mx t132 t143) (wrap64 (x10_3 + 1)) a0_0 l0_1 l0_2 l0_3) else (slot_Split.l0 k3 x6_1 x7_1 x8_3 x9_3 (wrap64 (x10_3 + 1)) a0_0 l0_1 l0_2 l0_3))))) = some (r1, r2, r3, r4, r5, r6, r7, r8, r9, r10) := H
         have A31 := Aside0.mk A310
         clear A310
         replace H := Option.bind_eq_some_iff.mp H
         obtain ⟨t132, A320, H⟩ := H
         replace H : ((slot_part.f a0_0 l0_1 l0_2 l0_3 (wrap64 (x10_3 + x7_1)) x6_1).bind fun bt133 => ((slot_size.f bt133.1 bt133.2.1 bt133.2.2.1 bt133.2.2.2).bind fun t143 => (if (mx t132 t143) < x9_3 then (slot_Split.l0 k3 x6_1 x7_1 x10_3 (mx t132 t143) (wrap64 (x10_3 + 1)) a0_0 l0_1 l0_2 l0_3) else (slot_Split.l0 k3 x6_1 x7_1 x8_3 x9_3 (wrap64 (x10_3 + 1)) a0_0 l0_1 l0_2 l0_3)))) = some (r1, r2, r3, r4, r5, r6, r7, r8, r9, r10) := H
         have A32 := Aside0.mk A320
         clear A320
         replace H := Option.bind_eq_some_iff.mp H
         obtain ⟨⟨t133, t134, t137, t140⟩, A330, H⟩ := H
         replace H : ((slot_size.f t133 t134 t137 t140).bind fun t143 => (if (mx t132 t143) < x9_3 then (slot_Split.l0 k3 x6_1 x7_1 x10_3 (mx t132 t143) (wrap64 (x10_3 + 1)) a0_0 l0_1 l0_2 l0_3) else (slot_Split.l0 k3 x6_1 x7_1 x8_3 x9_3 (wrap64 (x10_3 + 1)) a0_0 l0_1 l0_2 l0_3))) = some (r1, r2, r3, r4, r5, r6, r7, r8, r9, r10) := H
         have A33 := Aside0.mk A330
         clear A330
         replace H := Option.bind_eq_some_iff.mp H
         obtain ⟨t143, A340, H⟩ := H
         replace H : (if (mx t132 t143) < x9_3 then (slot_Split.l0 k3 x6_1 x7_1 x10_3 (mx t132 t143) (wrap64 (x10_3 + 1)) a0_0 l0_1 l0_2 l0_3) else (slot_Split.l0 k3 x6_1 x7_1 x8_3 x9_3 (wrap64 (x10_3 + 1)) a0_0 l0_1 l0_2 l0_3)) = some (r1, r2, r3, r4, r5, r6, r7, r8, r9, r10) := H
         have A34 := Aside0.mk A340
         clear A340
         obtain ⟨ji35, hji35⟩ : ∃ j_ : Int, (mx t132 t143) = j_ := ⟨_, rfl⟩
         replace H : (if (ji35) < x9_3 then (slot_Split.l0 k3 x6_1 x7_1 x10_3 ji35 (wrap64 (x10_3 + 1)) a0_0 l0_1 l0_2 l0_3) else (slot_Split.l0 k3 x6_1 x7_1 x8_3 x9_3 (wrap64 (x10_3 + 1)) a0_0 l0_1 l0_2 l0_3)) = some (r1, r2, r3, r4, r5, r6, r7, r8, r9, r10) := by first | (rw [hji35] at H; exact H) | (simp only [hji35] at H ⊢; exact H)
         (try rw [hji35] at A31)
         (try rw [hji35] at A32)
         (try rw [hji35] at A33)
         (try rw [hji35] at A34)
         have hji35_ : (if t132 < t143 then t143 else t132) = ji35 := hji35
         by_cases c36 : (ji35) < x9_3
         ·rw [if_pos c36] at H
          have c36b0 : decide ((ji35) < x9_3) = true := decide_eq_true c36
          clear c36
          have H' := Aside0.mk H
          clear H
          try go_wp2
          have n0_ := Aside0.mk (blk_drew BK118.out)
          have n1_ := Aside0.mk (blk_drew BK119.out)
          have n2_ := Aside0.mk (blk_drew BK120.out)
          have n3_ := Aside0.mk (below_drew1 HB.out)
          clear BK118
          clear BK119
          clear BK120
          clear HB
          have BK118 := n0_
          have BK119 := n1_
          have BK120 := n2_
          have HB := n3_
          clear n0_ n1_ n2_ n3_
          refine start_ (n := 13) (S := fun w' => w'.cell? ⟨gb118, 0, none⟩ = some (.bool a0_0) ∧ w'.cell? ⟨gb118, 1, none⟩ = some (.slice A0_1 l0_1.length c0_1) ∧ w'.cell? ⟨gb118, 2, none⟩ = some (.slice A0_2 l0_2.length c0_2) ∧ w'.cell? ⟨gb118, 3, none⟩ = some (.slice A0_3 l0_3.length c0_3)) (ds := []) #[false, false, false, false, false, false, false, false, false, false, false, false, false] (by kernel_rfl) rfl rfl ⟨(blk_cell BK118.out 0).trans rfl, (blk_cell BK118.out 1).trans rfl, (blk_cell BK118.out 2).trans rfl, (blk_cell BK118.out 3).trans rfl⟩ (fun hHeld => ?_); refine with_tabW slot_Split.tab10 slot_Split.bits10 (fun HT_ HW_ => ?_)
          generalize wr.drew = w37 at BK118 BK119 BK120 HB hHeld ⊢
          refine pure_ (i := 1) (N := some 40) (v := ?_) (a' := ?_) #[false, true, false, false, false, false, false, false, false, false, false, false, false] rfl rfl (any_of HT_.out (by kernel_rfl)) (fun _ _ _ h => h) (Or.inl ⟨by rfl, ?_⟩) ?_ ?_
          rotate_left
          ·intro w'
           go_simp
           with_reducible rfl
          rotate_left
          ·simp only [Act.put, List.setIfInBounds_toArray, List.set_cons_zero, List.set_cons_succ, i64_w, i32_w]
           rfl
          refine pure_ (i := 5) (N := some 44) (v := ?_) (a' := ?_) #[false, true, false, false, false, true, false, false, false, false, false, false, false] rfl rfl (any_of HT_.out (by kernel_rfl)) (fun _ _ _ h => h) (Or.inl ⟨by rfl, ?_⟩) ?_ ?_
          rotate_left
          ·intro w'
           go_simp
           with_reducible rfl
          rotate_left
          ·simp only [Act.put, List.setIfInBounds_toArray, List.set_cons_zero, List.set_cons_succ, i64_w, i32_w]
           rfl
          refine pure_ (i := 6) (N := some 45) (v := ?_) (a' := ?_) #[false, true, false, false, false, true, true, false, false, false, false, false, false] rfl rfl (any_of HT_.out (by kernel_rfl)) (fun _ _ _ h => h) (Or.inl ⟨by rfl, ?_⟩) ?_ ?_
          rotate_left
          ·intro w'
           go_simp
           with_reducible rfl
          rotate_left
          ·simp only [Act.put, List.setIfInBounds_toArray, List.set_cons_zero, List.set_cons_succ, i64_w, i32_w]
           rfl
          refine pure_ (i := 7) (N := some 46) (v := ?_) (a' := ?_) #[false, true, false, false, false, true, true, true, false, false, false, false, false] rfl rfl (any_of HT_.out (by kernel_rfl)) (fun _ _ _ h => h) (Or.inl ⟨by rfl, ?_⟩) ?_ ?_
          rotate_left
          ·intro w'
           go_simp
           with_reducible rfl
          rotate_left
          ·simp only [Act.put, List.setIfInBounds_toArray, List.set_cons_zero, List.set_cons_succ, i64_w, i32_w]
           rfl
          refine pure_ (i := 8) (N := some 47) (v := ?_) (a' := ?_) #[false, true, false, false, false, true, true, true, true, false, false, false, false] rfl rfl (any_of HT_.out (by kernel_rfl)) (fun _ _ _ h => h) (Or.inl ⟨by rfl, ?_⟩) ?_ ?_
          rotate_left
          ·intro w'
           go_simp
           with_reducible rfl
          rotate_left
          ·simp only [Act.put, List.setIfInBounds_toArray, List.set_cons_zero, List.set_cons_succ, i64_w, i32_w]
           rfl
          refine take_ (i := 0) (N := some 39) (v := ?_) (a' := ?_) #[true, true, false, false, false, true, true, true, true, false, false, false, false] rfl rfl (take_ofW HT_.out HW_.out (by kernel_rfl)) (fun _ _ _ h => h) (Or.inl ⟨by rfl, ?_⟩) hHeld ?_ ?_
          rotate_left
          ·rintro w' ⟨s0, s1, s2, s3⟩
           go_simp
           with_reducible rfl
          rotate_left
          ·simp only [Act.put, List.setIfInBounds_toArray, List.set_cons_zero, List.set_cons_succ, i64_w, i32_w]
           rfl
          refine take_ (i := 4) (N := some 43) (v := ?_) (a' := ?_) #[true, true, false, false, true, true, true, true, true, false, false, false, false] rfl rfl (take_ofW HT_.out HW_.out (by kernel_rfl)) (fun _ _ _ h => h) (Or.inl ⟨by rfl, ?_⟩) hHeld ?_ ?_
          rotate_left
          ·rintro w' ⟨s0, s1, s2, s3⟩
           go_simp
           with_reducible rfl
          rotate_left
          ·simp only [Act.put, List.setIfInBounds_toArray, List.set_cons_zero, List.set_cons_succ, i64_w, i32_w]
           rfl
          refine one_ (i := 2) (N := some 41) #[true, true, true, false, true, true, true, true, true, false, false, false, false] rfl rfl (one_of HT_.out (by kernel_rfl)) (by decide) (fun K hK => ?_)
          refine goes_ Try.func24 (by kernel_rfl) rfl #[.agg #[.bool a0_0, .slice A0_1 l0_1.length c0_1, .slice A0_2 l0_2.length c0_2, .slice A0_3 l0_3.length c0_3], .int .i64 0, .int .i64 x10_3] (by rfl) rfl rfl (by (try simp only [List.map_toArray, List.map_cons, List.map_nil]); first | done | rfl | (simp only [List.length_drop, List.length_take]; rfl)) ?_
          with_reducible refine (slot_part.calls a0_0 _ _ l0_1 _ _ l0_2 _ _ l0_3 0 x10_3 t122 t123 t126 t129 _ ?side1 ?side2 ?side3 ?side4 ?side5 ?side6 A31.out).mono ?_
          (case side1 => repeat (first | exact (Kd.C_below HR0_1.out HB.out) | (with_reducible refine Kd.C_alloc ?_ _) | (with_reducible refine Kd.C_drewN ?_ _) | (with_reducible refine Kd.C_drew ?_)))
          (case side2 => exact HC0_1.out)
          (case side3 => repeat (first | exact (Kd.C_below HR0_2.out HB.out) | (with_reducible refine Kd.C_alloc ?_ _) | (with_reducible refine Kd.C_drewN ?_ _) | (with_reducible refine Kd.C_drew ?_)))
          (case side4 => exact HC0_2.out)
          (case side5 => repeat (first | exact (Kd.C_below HR0_3.out HB.out) | (with_reducible refine Kd.C_alloc ?_ _) | (with_reducible refine Kd.C_drewN ?_ _) | (with_reducible refine Kd.C_drew ?_)))
          (case side6 => exact HC0_3.out)
          rintro e w38 ⟨v124, v127, v130, rfl, ho0, ho1, ho2, hb⟩
          refine ⟨_, rfl, ?_⟩
          have n0_ := Aside0.mk (Kd.R_lower ho0 (below_size (by repeat (first | (with_reducible first | exact HB.out | apply below_alloc | apply pw_below_drewN | apply below_drew1 | refine below_set ?_ GE118.out | refine below_set ?_ GE119.out | refine below_set ?_ GE120.out) | exact HB.out))))
          have n1_ := Aside0.mk (Kd.R_lower ho1 (below_size (by repeat (first | (with_reducible first | exact HB.out | apply below_alloc | apply pw_below_drewN | apply below_drew1 | refine below_set ?_ GE118.out | refine below_set ?_ GE119.out | refine below_set ?_ GE120.out) | exact HB.out))))
          have n2_ := Aside0.mk (Kd.R_lower ho2 (below_size (by repeat (first | (with_reducible first | exact HB.out | apply below_alloc | apply pw_below_drewN | apply below_drew1 | refine below_set ?_ GE118.out | refine below_set ?_ GE119.out | refine below_set ?_ GE120.out) | exact HB.out))))
          have n3_ := Aside0.mk (blk_below (g := gb118) (o := .cells #[.bool a0_0, .slice A0_1 l0_1.length c0_1, .slice A0_2 l0_2.length c0_2, .slice A0_3 l0_3.length c0_3] 26 (0, 0)) (by (with_reducible repeat (first | refine blk_drewN ?_ _ | refine blk_drew ?_ | refine blk_alloc ?_ _)); exact BK118.out) hb)
          have n4_ := Aside0.mk (blk_below (g := gb119) (o := .cells #[.bool false, .slice none 0 0, .slice none 0 0, .slice none 0 0] 26 (0, 0)) (by (with_reducible repeat (first | refine blk_drewN ?_ _ | refine blk_drew ?_ | refine blk_alloc ?_ _)); exact BK119.out) hb)
          have n5_ := Aside0.mk (blk_below (g := gb120) (o := .cells #[.bool false, .slice none 0 0, .slice none 0 0, .slice none 0 0] 26 (0, 0)) (by (with_reducible repeat (first | refine blk_drewN ?_ _ | refine blk_drew ?_ | refine blk_alloc ?_ _)); exact BK120.out) hb)
          have n6_ := Aside0.mk (below_step (by repeat (first | (with_reducible first | exact HB.out | apply below_alloc | apply pw_below_drewN | apply below_drew1 | refine below_set ?_ GE118.out | refine below_set ?_ GE119.out | refine below_set ?_ GE120.out) | exact HB.out)) hb)
          clear BK118
          clear BK119
          clear BK120
          clear HB
          have HO125 := n0_
          have HO128 := n1_
          have HO131 := n2_
          have BK118 := n3_
          have BK119 := n4_
          have BK120 := n5_
          have HB := n6_
          clear n0_ n1_ n2_ n3_ n4_ n5_ n6_
          (try clear hb)
          (try clear hb2)
          (try clear hk)
          (try clear hi)
          (try clear ho0)
          (try clear ho1)
          (try clear ho2)
          obtain ⟨Ao39, co39, eo39⟩ := Kd.R_slice HO125.out
          (first | subst eo39 | (injection eo39 with f1_ f2_ f3_; have f4_ := f1_.symm; have f5_ := f3_.symm; clear f1_ f2_ f3_; subst f4_; subst f5_))
          obtain ⟨Ao40, co40, eo40⟩ := Kd.R_slice HO128.out
          (first | subst eo40 | (injection eo40 with f1_ f2_ f3_; have f4_ := f1_.symm; have f5_ := f3_.symm; clear f1_ f2_ f3_; subst f4_; subst f5_))
          obtain ⟨Ao41, co41, eo41⟩ := Kd.R_slice HO131.out
          (first | subst eo41 | (injection eo41 with f1_ f2_ f3_; have f4_ := f1_.symm; have f5_ := f3_.symm; clear f1_ f2_ f3_; subst f4_; subst f5_))
          refine hK.out _ _ ⟨(blk_cell BK118.out 0).trans rfl, (blk_cell BK118.out 1).trans rfl, (blk_cell BK118.out 2).trans rfl, (blk_cell BK118.out 3).trans rfl⟩ (fun hHeld => ?_)
          clear hK K
          refine norm_ (a' := ?_) ?_ ?_
          rotate_left
          ·show Act.put _ (some 41) _ = _
           simp only [Act.put, List.setIfInBounds_toArray, List.set_cons_zero, List.set_cons_succ, i64_w, i32_w]
           rfl
          refine one_ (i := 3) (N := some 42) #[true, true, true, true, true, true, true, true, true, false, false, false, false] rfl rfl (one_of HT_.out (by kernel_rfl)) (by decide) (fun K hK => ?_)
          refine goes_ Try.func23 (by kernel_rfl) rfl #[.agg #[.bool t122, .slice Ao39 t123.length co39, .slice Ao40 t126.length co40, .slice Ao41 t129.length co41]] (by rfl) rfl rfl (by (try simp only [List.map_toArray, List.map_cons, List.map_nil]); first | done | rfl | (simp only [List.length_drop, List.length_take]; rfl)) ?_
          with_reducible refine (slot_size.calls t122 _ _ t123 _ _ t126 _ _ t129 t132 _ ?side1 ?side2 ?side3 ?side4 ?side5 ?side6 A32.out).mono ?_
          (case side1 => repeat (first | exact (Kd.R_reads' HO125.out).2.2 | (with_reducible refine Kd.C_alloc ?_ _) | (with_reducible refine Kd.C_drewN ?_ _) | (with_reducible refine Kd.C_drew ?_)))
          (case side2 => exact (Kd.R_reads' HO125.out).2.1)
          (case side3 => repeat (first | exact (Kd.R_reads' HO128.out).2.2 | (with_reducible refine Kd.C_alloc ?_ _) | (with_reducible refine Kd.C_drewN ?_ _) | (with_reducible refine Kd.C_drew ?_)))
          (case side4 => exact (Kd.R_reads' HO128.out).2.1)
          (case side5 => repeat (first | exact (Kd.R_reads' HO131.out).2.2 | (with_reducible refine Kd.C_alloc ?_ _) | (with_reducible refine Kd.C_drewN ?_ _) | (with_reducible refine Kd.C_drew ?_)))
          (case side6 => exact (Kd.R_reads' HO131.out).2.1)
          rintro e w42 ⟨rfl, hb⟩
          refine ⟨_, rfl, ?_⟩
          have n0_ := Aside0.mk (Kd.R_below (by (with_reducible repeat (first | apply Kd.R_alloc | apply Kd.R_drewN | apply Kd.R_drew)); exact HO125.out) hb)
          have n1_ := Aside0.mk (Kd.R_below (by (with_reducible repeat (first | apply Kd.R_alloc | apply Kd.R_drewN | apply Kd.R_drew)); exact HO128.out) hb)
          have n2_ := Aside0.mk (Kd.R_below (by (with_reducible repeat (first | apply Kd.R_alloc | apply Kd.R_drewN | apply Kd.R_drew)); exact HO131.out) hb)
          have n3_ := Aside0.mk (blk_below (g := gb118) (o := .cells #[.bool a0_0, .slice A0_1 l0_1.length c0_1, .slice A0_2 l0_2.length c0_2, .slice A0_3 l0_3.length c0_3] 26 (0, 0)) (by (with_reducible repeat (first | refine blk_drewN ?_ _ | refine blk_drew ?_ | refine blk_alloc ?_ _)); exact BK118.out) hb)
          have n4_ := Aside0.mk (blk_below (g := gb119) (o := .cells #[.bool false, .slice none 0 0, .slice none 0 0, .slice none 0 0] 26 (0, 0)) (by (with_reducible repeat (first | refine blk_drewN ?_ _ | refine blk_drew ?_ | refine blk_alloc ?_ _)); exact BK119.out) hb)
          have n5_ := Aside0.mk (blk_below (g := gb120) (o := .cells #[.bool false, .slice none 0 0, .slice none 0 0, .slice none 0 0] 26 (0, 0)) (by (with_reducible repeat (first | refine blk_drewN ?_ _ | refine blk_drew ?_ | refine blk_alloc ?_ _)); exact BK120.out) hb)
          have n6_ := Aside0.mk (below_step (by repeat (first | (with_reducible first | exact HB.out | apply below_alloc | apply pw_below_drewN | apply below_drew1 | refine below_set ?_ GE118.out | refine below_set ?_ GE119.out | refine below_set ?_ GE120.out) | exact HB.out)) hb)
          clear HO125
          clear HO128
          clear HO131
          clear BK118
          clear BK119
          clear BK120
          clear HB
          have HO125 := n0_
          have HO128 := n1_
          have HO131 := n2_
          have BK118 := n3_
          have BK119 := n4_
          have BK120 := n5_
          have HB := n6_
          clear n0_ n1_ n2_ n3_ n4_ n5_ n6_
          (try clear hb)
          (try clear hb2)
          (try clear hk)
          (try clear hi)
          refine hK.out _ _ ⟨(blk_cell BK118.out 0).trans rfl, (blk_cell BK118.out 1).trans rfl, (blk_cell BK118.out 2).trans rfl, (blk_cell BK118.out 3).trans rfl⟩ (fun hHeld => ?_)
          clear hK K
          refine norm_ (a' := ?_) ?_ ?_
          rotate_left
          ·show Act.put _ (some 42) _ = _
           simp only [Act.put, List.setIfInBounds_toArray, List.set_cons_zero, List.set_cons_succ, i64_w, i32_w]
           rfl
          refine one_ (i := 9) (N := some 48) #[true, true, true, true, true, true, true, true, true, true, false, false, false] rfl rfl (one_of HT_.out (by kernel_rfl)) (by decide) (fun K hK => ?_)
          refine goes_ Try.func24 (by kernel_rfl) rfl #[.agg #[.bool a0_0, .slice A0_1 l0_1.length c0_1, .slice A0_2 l0_2.length c0_2, .slice A0_3 l0_3.length c0_3], .int .i64 (wrap64 (x10_3 + x7_1)), .int .i64 x6_1] (by rfl) rfl rfl (by (try simp only [List.map_toArray, List.map_cons, List.map_nil]); first | done | rfl | (simp only [List.length_drop, List.length_take]; rfl)) ?_
          with_reducible refine (slot_part.calls a0_0 _ _ l0_1 _ _ l0_2 _ _ l0_3 (wrap64 (x10_3 + x7_1)) x6_1 t133 t134 t137 t140 _ ?side1 ?side2 ?side3 ?side4 ?side5 ?side6 A33.out).mono ?_
          (case side1 => repeat (first | exact (Kd.C_below HR0_1.out HB.out) | (with_reducible refine Kd.C_alloc ?_ _) | (with_reducible refine Kd.C_drewN ?_ _) | (with_reducible refine Kd.C_drew ?_)))
          (case side2 => exact HC0_1.out)
          (case side3 => repeat (first | exact (Kd.C_below HR0_2.out HB.out) | (with_reducible refine Kd.C_alloc ?_ _) | (with_reducible refine Kd.C_drewN ?_ _) | (with_reducible refine Kd.C_drew ?_)))
          (case side4 => exact HC0_2.out)
          (case side5 => repeat (first | exact (Kd.C_below HR0_3.out HB.out) | (with_reducible refine Kd.C_alloc ?_ _) | (with_reducible refine Kd.C_drewN ?_ _) | (with_reducible refine Kd.C_drew ?_)))
          (case side6 => exact HC0_3.out)
          rintro e w43 ⟨v135, v138, v141, rfl, ho0, ho1, ho2, hb⟩
          refine ⟨_, rfl, ?_⟩
          have n0_ := Aside0.mk (Kd.R_elder' (by (with_reducible repeat (first | apply Kd.R_alloc | apply Kd.R_drewN | apply Kd.R_drew)); exact HO125.out) (Kd.R_base ho0) hb)
          have n1_ := Aside0.mk (Kd.R_elder' (by (with_reducible repeat (first | apply Kd.R_alloc | apply Kd.R_drewN | apply Kd.R_drew)); exact HO128.out) (Kd.R_base ho1) hb)
          have n2_ := Aside0.mk (Kd.R_elder' (by (with_reducible repeat (first | apply Kd.R_alloc | apply Kd.R_drewN | apply Kd.R_drew)); exact HO131.out) (Kd.R_base ho2) hb)
          have n3_ := Aside0.mk (Kd.R_lower (Kd.R_new' ho0 (Kd.R_lt (by (with_reducible repeat (first | apply Kd.R_alloc | apply Kd.R_drewN | apply Kd.R_drew)); exact HO125.out))) (below_size (by repeat (first | (with_reducible first | exact HB.out | apply below_alloc | apply pw_below_drewN | apply below_drew1 | refine below_set ?_ GE118.out | refine below_set ?_ GE119.out | refine below_set ?_ GE120.out) | exact HB.out))))
          have n4_ := Aside0.mk (Kd.R_lower (Kd.R_new' ho1 (Kd.R_lt (by (with_reducible repeat (first | apply Kd.R_alloc | apply Kd.R_drewN | apply Kd.R_drew)); exact HO128.out))) (below_size (by repeat (first | (with_reducible first | exact HB.out | apply below_alloc | apply pw_below_drewN | apply below_drew1 | refine below_set ?_ GE118.out | refine below_set ?_ GE119.out | refine below_set ?_ GE120.out) | exact HB.out))))
          have n5_ := Aside0.mk (Kd.R_lower (Kd.R_new' ho2 (Kd.R_lt (by (with_reducible repeat (first | apply Kd.R_alloc | apply Kd.R_drewN | apply Kd.R_drew)); exact HO131.out))) (below_size (by repeat (first | (with_reducible first | exact HB.out | apply below_alloc | apply pw_below_drewN | apply below_drew1 | refine below_set ?_ GE118.out | refine below_set ?_ GE119.out | refine below_set ?_ GE120.out) | exact HB.out))))
          have n6_ := Aside0.mk (blk_below (g := gb118) (o := .cells #[.bool a0_0, .slice A0_1 l0_1.length c0_1, .slice A0_2 l0_2.length c0_2, .slice A0_3 l0_3.length c0_3] 26 (0, 0)) (by (with_reducible repeat (first | refine blk_drewN ?_ _ | refine blk_drew ?_ | refine blk_alloc ?_ _)); exact BK118.out) hb)
          have n7_ := Aside0.mk (blk_below (g := gb119) (o := .cells #[.bool false, .slice none 0 0, .slice none 0 0, .slice none 0 0] 26 (0, 0)) (by (with_reducible repeat (first | refine blk_drewN ?_ _ | refine blk_drew ?_ | refine blk_alloc ?_ _)); exact BK119.out) hb)
          have n8_ := Aside0.mk (blk_below (g := gb120) (o := .cells #[.bool false, .slice none 0 0, .slice none 0 0, .slice none 0 0] 26 (0, 0)) (by (with_reducible repeat (first | refine blk_drewN ?_ _ | refine blk_drew ?_ | refine blk_alloc ?_ _)); exact BK120.out) hb)
          have n9_ := Aside0.mk (below_step (by repeat (first | (with_reducible first | exact HB.out | apply below_alloc | apply pw_below_drewN | apply below_drew1 | refine below_set ?_ GE118.out | refine below_set ?_ GE119.out | refine below_set ?_ GE120.out) | exact HB.out)) hb)
          clear HO125
          clear HO128
          clear HO131
          clear BK118
          clear BK119
          clear BK120
          clear HB
          have HO125 := n0_
          have HO128 := n1_
          have HO131 := n2_
          have HO136 := n3_
          have HO139 := n4_
          have HO142 := n5_
          have BK118 := n6_
          have BK119 := n7_
          have BK120 := n8_
          have HB := n9_
          clear n0_ n1_ n2_ n3_ n4_ n5_ n6_ n7_ n8_ n9_
          (try clear hb)
          (try clear hb2)
          (try clear hk)
          (try clear hi)
          (try clear ho0)
          (try clear ho1)
          (try clear ho2)
          obtain ⟨Ao44, co44, eo44⟩ := Kd.R_slice HO136.out
          (first | subst eo44 | (injection eo44 with f1_ f2_ f3_; have f4_ := f1_.symm; have f5_ := f3_.symm; clear f1_ f2_ f3_; subst f4_; subst f5_))
          obtain ⟨Ao45, co45, eo45⟩ := Kd.R_slice HO139.out
          (first | subst eo45 | (injection eo45 with f1_ f2_ f3_; have f4_ := f1_.symm; have f5_ := f3_.symm; clear f1_ f2_ f3_; subst f4_; subst f5_))
          obtain ⟨Ao46, co46, eo46⟩ := Kd.R_slice HO142.out
          (first | subst eo46 | (injection eo46 with f1_ f2_ f3_; have f4_ := f1_.symm; have f5_ := f3_.symm; clear f1_ f2_ f3_; subst f4_; subst f5_))
          refine hK.out _ _ ⟨(blk_cell BK118.out 0).trans rfl, (blk_cell BK118.out 1).trans rfl, (blk_cell BK118.out 2).trans rfl, (blk_cell BK118.out 3).trans rfl⟩ (fun hHeld => ?_)
          clear hK K
          refine norm_ (a' := ?_) ?_ ?_
          rotate_left
          ·show Act.put _ (some 48) _ = _
           simp only [Act.put, List.setIfInBounds_toArray, List.set_cons_zero, List.set_cons_succ, i64_w, i32_w]
           rfl
          refine one_ (i := 10) (N := some 49) #[true, true, true, true, true, true, true, true, true, true, true, false, false] rfl rfl (one_of HT_.out (by kernel_rfl)) (by decide) (fun K hK => ?_)
          refine goes_ Try.func23 (by kernel_rfl) rfl #[.agg #[.bool t133, .slice Ao44 t134.length co44, .slice Ao45 t137.length co45, .slice Ao46 t140.length co46]] (by rfl) rfl rfl (by (try simp only [List.map_toArray, List.map_cons, List.map_nil]); first | done | rfl | (simp only [List.length_drop, List.length_take]; rfl)) ?_
          with_reducible refine (slot_size.calls t133 _ _ t134 _ _ t137 _ _ t140 t143 _ ?side1 ?side2 ?side3 ?side4 ?side5 ?side6 A34.out).mono ?_
          (case side1 => repeat (first | exact (Kd.R_reads' HO136.out).2.2 | (with_reducible refine Kd.C_alloc ?_ _) | (with_reducible refine Kd.C_drewN ?_ _) | (with_reducible refine Kd.C_drew ?_)))
          (case side2 => exact (Kd.R_reads' HO136.out).2.1)
          (case side3 => repeat (first | exact (Kd.R_reads' HO139.out).2.2 | (with_reducible refine Kd.C_alloc ?_ _) | (with_reducible refine Kd.C_drewN ?_ _) | (with_reducible refine Kd.C_drew ?_)))
          (case side4 => exact (Kd.R_reads' HO139.out).2.1)
          (case side5 => repeat (first | exact (Kd.R_reads' HO142.out).2.2 | (with_reducible refine Kd.C_alloc ?_ _) | (with_reducible refine Kd.C_drewN ?_ _) | (with_reducible refine Kd.C_drew ?_)))
          (case side6 => exact (Kd.R_reads' HO142.out).2.1)
          rintro e w47 ⟨rfl, hb⟩
          refine ⟨_, rfl, ?_⟩
          have n0_ := Aside0.mk (Kd.R_below (by (with_reducible repeat (first | apply Kd.R_alloc | apply Kd.R_drewN | apply Kd.R_drew)); exact HO125.out) hb)
          have n1_ := Aside0.mk (Kd.R_below (by (with_reducible repeat (first | apply Kd.R_alloc | apply Kd.R_drewN | apply Kd.R_drew)); exact HO128.out) hb)
          have n2_ := Aside0.mk (Kd.R_below (by (with_reducible repeat (first | apply Kd.R_alloc | apply Kd.R_drewN | apply Kd.R_drew)); exact HO131.out) hb)
          have n3_ := Aside0.mk (Kd.R_below (by (with_reducible repeat (first | apply Kd.R_alloc | apply Kd.R_drewN | apply Kd.R_drew)); exact HO136.out) hb)
          have n4_ := Aside0.mk (Kd.R_below (by (with_reducible repeat (first | apply Kd.R_alloc | apply Kd.R_drewN | apply Kd.R_drew)); exact HO139.out) hb)
          have n5_ := Aside0.mk (Kd.R_below (by (with_reducible repeat (first | apply Kd.R_alloc | apply Kd.R_drewN | apply Kd.R_drew)); exact HO142.out) hb)
          have n6_ := Aside0.mk (blk_below (g := gb118) (o := .cells #[.bool a0_0, .slice A0_1 l0_1.length c0_1, .slice A0_2 l0_2.length c0_2, .slice A0_3 l0_3.length c0_3] 26 (0, 0)) (by (with_reducible repeat (first | refine blk_drewN ?_ _ | refine blk_drew ?_ | refine blk_alloc ?_ _)); exact BK118.out) hb)
          have n7_ := Aside0.mk (blk_below (g := gb119) (o := .cells #[.bool false, .slice none 0 0, .slice none 0 0, .slice none 0 0] 26 (0, 0)) (by (with_reducible repeat (first | refine blk_drewN ?_ _ | refine blk_drew ?_ | refine blk_alloc ?_ _)); exact BK119.out) hb)
          have n8_ := Aside0.mk (blk_below (g := gb120) (o := .cells #[.bool false, .slice none 0 0, .slice none 0 0, .slice none 0 0] 26 (0, 0)) (by (with_reducible repeat (first | refine blk_drewN ?_ _ | refine blk_drew ?_ | refine blk_alloc ?_ _)); exact BK120.out) hb)
          have n9_ := Aside0.mk (below_step (by repeat (first | (with_reducible first | exact HB.out | apply below_alloc | apply pw_below_drewN | apply below_drew1 | refine below_set ?_ GE118.out | refine below_set ?_ GE119.out | refine below_set ?_ GE120.out) | exact HB.out)) hb)
          clear HO125
          clear HO128
          clear HO131
          clear HO136
          clear HO139
          clear HO142
          clear BK118
          clear BK119
          clear BK120
          clear HB
          have HO125 := n0_
          have HO128 := n1_
          have HO131 := n2_
          have HO136 := n3_
          have HO139 := n4_
          have HO142 := n5_
          have BK118 := n6_
          have BK119 := n7_
          have BK120 := n8_
          have HB := n9_
          clear n0_ n1_ n2_ n3_ n4_ n5_ n6_ n7_ n8_ n9_
          (try clear hb)
          (try clear hb2)
          (try clear hk)
          (try clear hi)
          refine hK.out _ _ ⟨(blk_cell BK118.out 0).trans rfl, (blk_cell BK118.out 1).trans rfl, (blk_cell BK118.out 2).trans rfl, (blk_cell BK118.out 3).trans rfl⟩ (fun hHeld => ?_)
          clear hK K
          refine norm_ (a' := ?_) ?_ ?_
          rotate_left
          ·show Act.put _ (some 49) _ = _
           simp only [Act.put, List.setIfInBounds_toArray, List.set_cons_zero, List.set_cons_succ, i64_w, i32_w]
           rfl
          refine pure_ (i := 11) (N := some 50) (v := ?_) (a' := ?_) #[true, true, true, true, true, true, true, true, true, true, true, true, false] rfl rfl (any_of HT_.out (by kernel_rfl)) (fun _ _ _ h => h) (Or.inl ⟨by rfl, ?_⟩) ?_ ?_
          rotate_left
          ·intro w'
           go_simp
           with_reducible rfl
          rotate_left
          ·simp only [Act.put, List.setIfInBounds_toArray, List.set_cons_zero, List.set_cons_succ, i64_w, i32_w]
           rfl
          refine pure_ (i := 12) (N := some 11) (v := ?_) (a' := ?_) #[true, true, true, true, true, true, true, true, true, true, true, true, true] rfl rfl (any_of HT_.out (by kernel_rfl)) (fun _ _ _ h => h) (Or.inl ⟨by rfl, ?_⟩) ?_ ?_
          rotate_left
          ·intro w'
           go_simp
           with_reducible rfl
          rotate_left
          ·simp only [Act.put, List.setIfInBounds_toArray, List.set_cons_zero, List.set_cons_succ, i64_w, i32_w]
           rfl
          refine done_ (done_of HT_.out (by kernel_rfl)) ?_
          try go_wp2
          go_roundg k3
          case measure => have := HJ1.out; have := HJ12.out; have := HK3.out; omega
          case rel => exact ⟨(x10_3), (ji35), (wrap64 (x10_3 + 1)), (by first | rfl | (simp; done) | (simp [Aid.ne_nil]; done) | (simp [*]; done)), (by first | rfl | (simp; done) | (simp only [← hji35] <;> (first | rfl | (simp [Aid.ne_nil]; done) | simp)) | (simp [*]; done)), (by first | rfl | (simp; done) | (simp [Aid.ne_nil]; done) | (simp [*]; done)), H', ⟨by have := HJ1.out; have := HJ12.out; have := HK3.out; omega⟩, ⟨by (with_reducible repeat (first | refine blk_drewN ?_ _ | refine blk_drew ?_ | refine blk_alloc ?_ _)); exact BK118.out⟩, ⟨by (with_reducible repeat (first | refine blk_drewN ?_ _ | refine blk_drew ?_ | refine blk_alloc ?_ _)); exact BK119.out⟩, ⟨by (with_reducible repeat (first | refine blk_drewN ?_ _ | refine blk_drew ?_ | refine blk_alloc ?_ _)); exact BK120.out⟩, ⟨by repeat (first | (with_reducible first | exact HB.out | apply below_alloc | apply pw_below_drewN | apply below_drew1 | refine below_set ?_ GE118.out | refine below_set ?_ GE119.out | refine below_set ?_ GE120.out) | exact HB.out)⟩⟩
         ·rw [if_neg c36] at H
          have c36b0 : decide ((ji35) < x9_3) = false := decide_eq_false c36
          clear c36
          have H' := Aside0.mk H
          clear H
          try go_wp2
          have n0_ := Aside0.mk (blk_drew BK118.out)
          have n1_ := Aside0.mk (blk_drew BK119.out)
          have n2_ := Aside0.mk (blk_drew BK120.out)
          have n3_ := Aside0.mk (below_drew1 HB.out)
          clear BK118
          clear BK119
          clear BK120
          clear HB
          have BK118 := n0_
          have BK119 := n1_
          have BK120 := n2_
          have HB := n3_
          clear n0_ n1_ n2_ n3_
          refine start_ (n := 13) (S := fun w' => w'.cell? ⟨gb118, 0, none⟩ = some (.bool a0_0) ∧ w'.cell? ⟨gb118, 1, none⟩ = some (.slice A0_1 l0_1.length c0_1) ∧ w'.cell? ⟨gb118, 2, none⟩ = some (.slice A0_2 l0_2.length c0_2) ∧ w'.cell? ⟨gb118, 3, none⟩ = some (.slice A0_3 l0_3.length c0_3)) (ds := []) #[false, false, false, false, false, false, false, false, false, false, false, false, false] (by kernel_rfl) rfl rfl ⟨(blk_cell BK118.out 0).trans rfl, (blk_cell BK118.out 1).trans rfl, (blk_cell BK118.out 2).trans rfl, (blk_cell BK118.out 3).trans rfl⟩ (fun hHeld => ?_); refine with_tabW slot_Split.tab10 slot_Split.bits10 (fun HT_ HW_ => ?_)
          generalize wr.drew = w48 at BK118 BK119 BK120 HB hHeld ⊢
          refine pure_ (i := 1) (N := some 40) (v := ?_) (a' := ?_) #[false, true, false, false, false, false, false, false, false, false, false, false, false] rfl rfl (any_of HT_.out (by kernel_rfl)) (fun _ _ _ h => h) (Or.inl ⟨by rfl, ?_⟩) ?_ ?_
          rotate_left
          ·intro w'
           go_simp
           with_reducible rfl
          rotate_left
          ·simp only [Act.put, List.setIfInBounds_toArray, List.set_cons_zero, List.set_cons_succ, i64_w, i32_w]
           rfl
          refine pure_ (i := 5) (N := some 44) (v := ?_) (a' := ?_) #[false, true, false, false, false, true, false, false, false, false, false, false, false] rfl rfl (any_of HT_.out (by kernel_rfl)) (fun _ _ _ h => h) (Or.inl ⟨by rfl, ?_⟩) ?_ ?_
          rotate_left
          ·intro w'
           go_simp
           with_reducible rfl
          rotate_left
          ·simp only [Act.put, List.setIfInBounds_toArray, List.set_cons_zero, List.set_cons_succ, i64_w, i32_w]
           rfl
          refine pure_ (i := 6) (N := some 45) (v := ?_) (a' := ?_) #[false, true, false, false, false, true, true, false, false, false, false, false, false] rfl rfl (any_of HT_.out (by kernel_rfl)) (fun _ _ _ h => h) (Or.inl ⟨by rfl, ?_⟩) ?_ ?_
          rotate_left
          ·intro w'
           go_simp
           with_reducible rfl
          rotate_left
          ·simp only [Act.put, List.setIfInBounds_toArray, List.set_cons_zero, List.set_cons_succ, i64_w, i32_w]
           rfl
          refine pure_ (i := 7) (N := some 46) (v := ?_) (a' := ?_) #[false, true, false, false, false, true, true, true, false, false, false, false, false] rfl rfl (any_of HT_.out (by kernel_rfl)) (fun _ _ _ h => h) (Or.inl ⟨by rfl, ?_⟩) ?_ ?_
          rotate_left
          ·intro w'
           go_simp
           with_reducible rfl
          rotate_left
          ·simp only [Act.put, List.setIfInBounds_toArray, List.set_cons_zero, List.set_cons_succ, i64_w, i32_w]
           rfl
          refine pure_ (i := 8) (N := some 47) (v := ?_) (a' := ?_) #[false, true, false, false, false, true, true, true, true, false, false, false, false] rfl rfl (any_of HT_.out (by kernel_rfl)) (fun _ _ _ h => h) (Or.inl ⟨by rfl, ?_⟩) ?_ ?_
          rotate_left
          ·intro w'
           go_simp
           with_reducible rfl
          rotate_left
          ·simp only [Act.put, List.setIfInBounds_toArray, List.set_cons_zero, List.set_cons_succ, i64_w, i32_w]
           rfl
          refine take_ (i := 0) (N := some 39) (v := ?_) (a' := ?_) #[true, true, false, false, false, true, true, true, true, false, false, false, false] rfl rfl (take_ofW HT_.out HW_.out (by kernel_rfl)) (fun _ _ _ h => h) (Or.inl ⟨by rfl, ?_⟩) hHeld ?_ ?_
          rotate_left
          ·rintro w' ⟨s0, s1, s2, s3⟩
           go_simp
           with_reducible rfl
          rotate_left
          ·simp only [Act.put, List.setIfInBounds_toArray, List.set_cons_zero, List.set_cons_succ, i64_w, i32_w]
           rfl
          refine take_ (i := 4) (N := some 43) (v := ?_) (a' := ?_) #[true, true, false, false, true, true, true, true, true, false, false, false, false] rfl rfl (take_ofW HT_.out HW_.out (by kernel_rfl)) (fun _ _ _ h => h) (Or.inl ⟨by rfl, ?_⟩) hHeld ?_ ?_
          rotate_left
          ·rintro w' ⟨s0, s1, s2, s3⟩
           go_simp
           with_reducible rfl
          rotate_left
          ·simp only [Act.put, List.setIfInBounds_toArray, List.set_cons_zero, List.set_cons_succ, i64_w, i32_w]
           rfl
          refine one_ (i := 2) (N := some 41) #[true, true, true, false, true, true, true, true, true, false, false, false, false] rfl rfl (one_of HT_.out (by kernel_rfl)) (by decide) (fun K hK => ?_)
          refine goes_ Try.func24 (by kernel_rfl) rfl #[.agg #[.bool a0_0, .slice A0_1 l0_1.length c0_1, .slice A0_2 l0_2.length c0_2, .slice A0_3 l0_3.length c0_3], .int .i64 0, .int .i64 x10_3] (by rfl) rfl rfl (by (try simp only [List.map_toArray, List.map_cons, List.map_nil]); first | done | rfl | (simp only [List.length_drop, List.length_take]; rfl)) ?_
          with_reducible refine (slot_part.calls a0_0 _ _ l0_1 _ _ l0_2 _ _ l0_3 0 x10_3 t122 t123 t126 t129 _ ?side1 ?side2 ?side3 ?side4 ?side5 ?side6 A31.out).mono ?_
          (case side1 => repeat (first | exact (Kd.C_below HR0_1.out HB.out) | (with_reducible refine Kd.C_alloc ?_ _) | (with_reducible refine Kd.C_drewN ?_ _) | (with_reducible refine Kd.C_drew ?_)))
          (case side2 => exact HC0_1.out)
          (case side3 => repeat (first | exact (Kd.C_below HR0_2.out HB.out) | (with_reducible refine Kd.C_alloc ?_ _) | (with_reducible refine Kd.C_drewN ?_ _) | (with_reducible refine Kd.C_drew ?_)))
          (case side4 => exact HC0_2.out)
          (case side5 => repeat (first | exact (Kd.C_below HR0_3.out HB.out) | (with_reducible refine Kd.C_alloc ?_ _) | (with_reducible refine Kd.C_drewN ?_ _) | (with_reducible refine Kd.C_drew ?_)))
          (case side6 => exact HC0_3.out)
          rintro e w49 ⟨v124, v127, v130, rfl, ho0, ho1, ho2, hb⟩
          refine ⟨_, rfl, ?_⟩
          have n0_ := Aside0.mk (Kd.R_lower ho0 (below_size (by repeat (first | (with_reducible first | exact HB.out | apply below_alloc | apply pw_below_drewN | apply below_drew1 | refine below_set ?_ GE118.out | refine below_set ?_ GE119.out | refine below_set ?_ GE120.out) | exact HB.out))))
          have n1_ := Aside0.mk (Kd.R_lower ho1 (below_size (by repeat (first | (with_reducible first | exact HB.out | apply below_alloc | apply pw_below_drewN | apply below_drew1 | refine below_set ?_ GE118.out | refine below_set ?_ GE119.out | refine below_set ?_ GE120.out) | exact HB.out))))
          have n2_ := Aside0.mk (Kd.R_lower ho2 (below_size (by repeat (first | (with_reducible first | exact HB.out | apply below_alloc | apply pw_below_drewN | apply below_drew1 | refine below_set ?_ GE118.out | refine below_set ?_ GE119.out | refine below_set ?_ GE120.out) | exact HB.out))))
          have n3_ := Aside0.mk (blk_below (g := gb118) (o := .cells #[.bool a0_0, .slice A0_1 l0_1.length c0_1, .slice A0_2 l0_2.length c0_2, .slice A0_3 l0_3.length c0_3] 26 (0, 0)) (by (with_reducible repeat (first | refine blk_drewN ?_ _ | refine blk_drew ?_ | refine blk_alloc ?_ _)); exact BK118.out) hb)
          have n4_ := Aside0.mk (blk_below (g := gb119) (o := .cells #[.bool false, .slice none 0 0, .slice none 0 0, .slice none 0 0] 26 (0, 0)) (by (with_reducible repeat (first | refine blk_drewN ?_ _ | refine blk_drew ?_ | refine blk_alloc ?_ _)); exact BK119.out) hb)
          have n5_ := Aside0.mk (blk_below (g := gb120) (o := .cells #[.bool false, .slice none 0 0, .slice none 0 0, .slice none 0 0] 26 (0, 0)) (by (with_reducible repeat (first | refine blk_drewN ?_ _ | refine blk_drew ?_ | refine blk_alloc ?_ _)); exact BK120.out) hb)
          have n6_ := Aside0.mk (below_step (by repeat (first | (with_reducible first | exact HB.out | apply below_alloc | apply pw_below_drewN | apply below_drew1 | refine below_set ?_ GE118.out | refine below_set ?_ GE119.out | refine below_set ?_ GE120.out) | exact HB.out)) hb)
          clear BK118
          clear BK119
          clear BK120
          clear HB
          have HO125 := n0_
          have HO128 := n1_
          have HO131 := n2_
          have BK118 := n3_
          have BK119 := n4_
          have BK120 := n5_
          have HB := n6_
          clear n0_ n1_ n2_ n3_ n4_ n5_ n6_
          (try clear hb)
          (try clear hb2)
          (try clear hk)
          (try clear hi)
          (try clear ho0)
          (try clear ho1)
          (try clear ho2)
          obtain ⟨Ao50, co50, eo50⟩ := Kd.R_slice HO125.out
          (first | subst eo50 | (injection eo50 with f1_ f2_ f3_; have f4_ := f1_.symm; have f5_ := f3_.symm; clear f1_ f2_ f3_; subst f4_; subst f5_))
          obtain ⟨Ao51, co51, eo51⟩ := Kd.R_slice HO128.out
          (first | subst eo51 | (injection eo51 with f1_ f2_ f3_; have f4_ := f1_.symm; have f5_ := f3_.symm; clear f1_ f2_ f3_; subst f4_; subst f5_))
          obtain ⟨Ao52, co52, eo52⟩ := Kd.R_slice HO131.out
          (first | subst eo52 | (injection eo52 with f1_ f2_ f3_; have f4_ := f1_.symm; have f5_ := f3_.symm; clear f1_ f2_ f3_; subst f4_; subst f5_))
          refine hK.out _ _ ⟨(blk_cell BK118.out 0).trans rfl, (blk_cell BK118.out 1).trans rfl, (blk_cell BK118.out 2).trans rfl, (blk_cell BK118.out 3).trans rfl⟩ (fun hHeld => ?_)
          clear hK K
          refine norm_ (a' := ?_) ?_ ?_
          rotate_left
          ·show Act.put _ (some 41) _ = _
           simp only [Act.put, List.setIfInBounds_toArray, List.set_cons_zero, List.set_cons_succ, i64_w, i32_w]
           rfl
          refine one_ (i := 3) (N := some 42) #[true, true, true, true, true, true, true, true, true, false, false, false, false] rfl rfl (one_of HT_.out (by kernel_rfl)) (by decide) (fun K hK => ?_)
          refine goes_ Try.func23 (by kernel_rfl) rfl #[.agg #[.bool t122, .slice Ao50 t123.length co50, .slice Ao51 t126.length co51, .slice Ao52 t129.length co52]] (by rfl) rfl rfl (by (try simp only [List.map_toArray, List.map_cons, List.map_nil]); first | done | rfl | (simp only [List.length_drop, List.length_take]; rfl)) ?_
          with_reducible refine (slot_size.calls t122 _ _ t123 _ _ t126 _ _ t129 t132 _ ?side1 ?side2 ?side3 ?side4 ?side5 ?side6 A32.out).mono ?_
          (case side1 => repeat (first | exact (Kd.R_reads' HO125.out).2.2 | (with_reducible refine Kd.C_alloc ?_ _) | (with_reducible refine Kd.C_drewN ?_ _) | (with_reducible refine Kd.C_drew ?_)))
          (case side2 => exact (Kd.R_reads' HO125.out).2.1)
          (case side3 => repeat (first | exact (Kd.R_reads' HO128.out).2.2 | (with_reducible refine Kd.C_alloc ?_ _) | (with_reducible refine Kd.C_drewN ?_ _) | (with_reducible refine Kd.C_drew ?_)))
          (case side4 => exact (Kd.R_reads' HO128.out).2.1)
          (case side5 => repeat (first | exact (Kd.R_reads' HO131.out).2.2 | (with_reducible refine Kd.C_alloc ?_ _) | (with_reducible refine Kd.C_drewN ?_ _) | (with_reducible refine Kd.C_drew ?_)))
          (case side6 => exact (Kd.R_reads' HO131.out).2.1)
          rintro e w53 ⟨rfl, hb⟩
          refine ⟨_, rfl, ?_⟩
          have n0_ := Aside0.mk (Kd.R_below (by (with_reducible repeat (first | apply Kd.R_alloc | apply Kd.R_drewN | apply Kd.R_drew)); exact HO125.out) hb)
          have n1_ := Aside0.mk (Kd.R_below (by (with_reducible repeat (first | apply Kd.R_alloc | apply Kd.R_drewN | apply Kd.R_drew)); exact HO128.out) hb)
          have n2_ := Aside0.mk (Kd.R_below (by (with_reducible repeat (first | apply Kd.R_alloc | apply Kd.R_drewN | apply Kd.R_drew)); exact HO131.out) hb)
          have n3_ := Aside0.mk (blk_below (g := gb118) (o := .cells #[.bool a0_0, .slice A0_1 l0_1.length c0_1, .slice A0_2 l0_2.length c0_2, .slice A0_3 l0_3.length c0_3] 26 (0, 0)) (by (with_reducible repeat (first | refine blk_drewN ?_ _ | refine blk_drew ?_ | refine blk_alloc ?_ _)); exact BK118.out) hb)
          have n4_ := Aside0.mk (blk_below (g := gb119) (o := .cells #[.bool false, .slice none 0 0, .slice none 0 0, .slice none 0 0] 26 (0, 0)) (by (with_reducible repeat (first | refine blk_drewN ?_ _ | refine blk_drew ?_ | refine blk_alloc ?_ _)); exact BK119.out) hb)
          have n5_ := Aside0.mk (blk_below (g := gb120) (o := .cells #[.bool false, .slice none 0 0, .slice none 0 0, .slice none 0 0] 26 (0, 0)) (by (with_reducible repeat (first | refine blk_drewN ?_ _ | refine blk_drew ?_ | refine blk_alloc ?_ _)); exact BK120.out) hb)
          have n6_ := Aside0.mk (below_step (by repeat (first | (with_reducible first | exact HB.out | apply below_alloc | apply pw_below_drewN | apply below_drew1 | refine below_set ?_ GE118.out | refine below_set ?_ GE119.out | refine below_set ?_ GE120.out) | exact HB.out)) hb)
          clear HO125
          clear HO128
          clear HO131
          clear BK118
          clear BK119
          clear BK120
          clear HB
          have HO125 := n0_
          have HO128 := n1_
          have HO131 := n2_
          have BK118 := n3_
          have BK119 := n4_
          have BK120 := n5_
          have HB := n6_
          clear n0_ n1_ n2_ n3_ n4_ n5_ n6_
          (try clear hb)
          (try clear hb2)
          (try clear hk)
          (try clear hi)
          refine hK.out _ _ ⟨(blk_cell BK118.out 0).trans rfl, (blk_cell BK118.out 1).trans rfl, (blk_cell BK118.out 2).trans rfl, (blk_cell BK118.out 3).trans rfl⟩ (fun hHeld => ?_)
          clear hK K
          refine norm_ (a' := ?_) ?_ ?_
          rotate_left
          ·show Act.put _ (some 42) _ = _
           simp only [Act.put, List.setIfInBounds_toArray, List.set_cons_zero, List.set_cons_succ, i64_w, i32_w]
           rfl
          refine one_ (i := 9) (N := some 48) #[true, true, true, true, true, true, true, true, true, true, false, false, false] rfl rfl (one_of HT_.out (by kernel_rfl)) (by decide) (fun K hK => ?_)
          refine goes_ Try.func24 (by kernel_rfl) rfl #[.agg #[.bool a0_0, .slice A0_1 l0_1.length c0_1, .slice A0_2 l0_2.length c0_2, .slice A0_3 l0_3.length c0_3], .int .i64 (wrap64 (x10_3 + x7_1)), .int .i64 x6_1] (by rfl) rfl rfl (by (try simp only [List.map_toArray, List.map_cons, List.map_nil]); first | done | rfl | (simp only [List.length_drop, List.length_take]; rfl)) ?_
          with_reducible refine (slot_part.calls a0_0 _ _ l0_1 _ _ l0_2 _ _ l0_3 (wrap64 (x10_3 + x7_1)) x6_1 t133 t134 t137 t140 _ ?side1 ?side2 ?side3 ?side4 ?side5 ?side6 A33.out).mono ?_
          (case side1 => repeat (first | exact (Kd.C_below HR0_1.out HB.out) | (with_reducible refine Kd.C_alloc ?_ _) | (with_reducible refine Kd.C_drewN ?_ _) | (with_reducible refine Kd.C_drew ?_)))
          (case side2 => exact HC0_1.out)
          (case side3 => repeat (first | exact (Kd.C_below HR0_2.out HB.out) | (with_reducible refine Kd.C_alloc ?_ _) | (with_reducible refine Kd.C_drewN ?_ _) | (with_reducible refine Kd.C_drew ?_)))
          (case side4 => exact HC0_2.out)
          (case side5 => repeat (first | exact (Kd.C_below HR0_3.out HB.out) | (with_reducible refine Kd.C_alloc ?_ _) | (with_reducible refine Kd.C_drewN ?_ _) | (with_reducible refine Kd.C_drew ?_)))
          (case side6 => exact HC0_3.out)
          rintro e w54 ⟨v135, v138, v141, rfl, ho0, ho1, ho2, hb⟩
          refine ⟨_, rfl, ?_⟩
          have n0_ := Aside0.mk (Kd.R_elder' (by (with_reducible repeat (first | apply Kd.R_alloc | apply Kd.R_drewN | apply Kd.R_drew)); exact HO125.out) (Kd.R_base ho0) hb)
          have n1_ := Aside0.mk (Kd.R_elder' (by (with_reducible repeat (first | apply Kd.R_alloc | apply Kd.R_drewN | apply Kd.R_drew)); exact HO128.out) (Kd.R_base ho1) hb)
          have n2_ := Aside0.mk (Kd.R_elder' (by (with_reducible repeat (first | apply Kd.R_alloc | apply Kd.R_drewN | apply Kd.R_drew)); exact HO131.out) (Kd.R_base ho2) hb)
          have n3_ := Aside0.mk (Kd.R_lower (Kd.R_new' ho0 (Kd.R_lt (by (with_reducible repeat (first | apply Kd.R_alloc | apply Kd.R_drewN | apply Kd.R_drew)); exact HO125.out))) (below_size (by repeat (first | (with_reducible first | exact HB.out | apply below_alloc | apply pw_below_drewN | apply below_drew1 | refine below_set ?_ GE118.out | refine below_set ?_ GE119.out | refine below_set ?_ GE120.out) | exact HB.out))))
          have n4_ := Aside0.mk (Kd.R_lower (Kd.R_new' ho1 (Kd.R_lt (by (with_reducible repeat (first | apply Kd.R_alloc | apply Kd.R_drewN | apply Kd.R_drew)); exact HO128.out))) (below_size (by repeat (first | (with_reducible first | exact HB.out | apply below_alloc | apply pw_below_drewN | apply below_drew1 | refine below_set ?_ GE118.out | refine below_set ?_ GE119.out | refine below_set ?_ GE120.out) | exact HB.out))))
          have n5_ := Aside0.mk (Kd.R_lower (Kd.R_new' ho2 (Kd.R_lt (by (with_reducible repeat (first | apply Kd.R_alloc | apply Kd.R_drewN | apply Kd.R_drew)); exact HO131.out))) (below_size (by repeat (first | (with_reducible first | exact HB.out | apply below_alloc | apply pw_below_drewN | apply below_drew1 | refine below_set ?_ GE118.out | refine below_set ?_ GE119.out | refine below_set ?_ GE120.out) | exact HB.out))))
          have n6_ := Aside0.mk (blk_below (g := gb118) (o := .cells #[.bool a0_0, .slice A0_1 l0_1.length c0_1, .slice A0_2 l0_2.length c0_2, .slice A0_3 l0_3.length c0_3] 26 (0, 0)) (by (with_reducible repeat (first | refine blk_drewN ?_ _ | refine blk_drew ?_ | refine blk_alloc ?_ _)); exact BK118.out) hb)
          have n7_ := Aside0.mk (blk_below (g := gb119) (o := .cells #[.bool false, .slice none 0 0, .slice none 0 0, .slice none 0 0] 26 (0, 0)) (by (with_reducible repeat (first | refine blk_drewN ?_ _ | refine blk_drew ?_ | refine blk_alloc ?_ _)); exact BK119.out) hb)
          have n8_ := Aside0.mk (blk_below (g := gb120) (o := .cells #[.bool false, .slice none 0 0, .slice none 0 0, .slice none 0 0] 26 (0, 0)) (by (with_reducible repeat (first | refine blk_drewN ?_ _ | refine blk_drew ?_ | refine blk_alloc ?_ _)); exact BK120.out) hb)
          have n9_ := Aside0.mk (below_step (by repeat (first | (with_reducible first | exact HB.out | apply below_alloc | apply pw_below_drewN | apply below_drew1 | refine below_set ?_ GE118.out | refine below_set ?_ GE119.out | refine below_set ?_ GE120.out) | exact HB.out)) hb)
          clear HO125
          clear HO128
          clear HO131
          clear BK118
          clear BK119
          clear BK120
          clear HB
          have HO125 := n0_
          have HO128 := n1_
          have HO131 := n2_
          have HO136 := n3_
          have HO139 := n4_
          have HO142 := n5_
          have BK118 := n6_
          have BK119 := n7_
          have BK120 := n8_
          have HB := n9_
          clear n0_ n1_ n2_ n3_ n4_ n5_ n6_ n7_ n8_ n9_
          (try clear hb)
          (try clear hb2)
          (try clear hk)
          (try clear hi)
          (try clear ho0)
          (try clear ho1)
          (try clear ho2)
          obtain ⟨Ao55, co55, eo55⟩ := Kd.R_slice HO136.out
          (first | subst eo55 | (injection eo55 with f1_ f2_ f3_; have f4_ := f1_.symm; have f5_ := f3_.symm; clear f1_ f2_ f3_; subst f4_; subst f5_))
          obtain ⟨Ao56, co56, eo56⟩ := Kd.R_slice HO139.out
          (first | subst eo56 | (injection eo56 with f1_ f2_ f3_; have f4_ := f1_.symm; have f5_ := f3_.symm; clear f1_ f2_ f3_; subst f4_; subst f5_))
          obtain ⟨Ao57, co57, eo57⟩ := Kd.R_slice HO142.out
          (first | subst eo57 | (injection eo57 with f1_ f2_ f3_; have f4_ := f1_.symm; have f5_ := f3_.symm; clear f1_ f2_ f3_; subst f4_; subst f5_))
          refine hK.out _ _ ⟨(blk_cell BK118.out 0).trans rfl, (blk_cell BK118.out 1).trans rfl, (blk_cell BK118.out 2).trans rfl, (blk_cell BK118.out 3).trans rfl⟩ (fun hHeld => ?_)
          clear hK K
          refine norm_ (a' := ?_) ?_ ?_
          rotate_left
          ·show Act.put _ (some 48) _ = _
           simp only [Act.put, List.setIfInBounds_toArray, List.set_cons_zero, List.set_cons_succ, i64_w, i32_w]
           rfl
          refine one_ (i := 10) (N := some 49) #[true, true, true, true, true, true, true, true, true, true, true, false, false] rfl rfl (one_of HT_.out (by kernel_rfl)) (by decide) (fun K hK => ?_)
          refine goes_ Try.func23 (by kernel_rfl) rfl #[.agg #[.bool t133, .slice Ao55 t134.length co55, .slice Ao56 t137.length co56, .slice Ao57 t140.length co57]] (by rfl) rfl rfl (by (try simp only [List.map_toArray, List.map_cons, List.map_nil]); first | done | rfl | (simp only [List.length_drop, List.length_take]; rfl)) ?_
          with_reducible refine (slot_size.calls t133 _ _ t134 _ _ t137 _ _ t140 t143 _ ?side1 ?side2 ?side3 ?side4 ?side5 ?side6 A34.out).mono ?_
          (case side1 => repeat (first | exact (Kd.R_reads' HO136.out).2.2 | (with_reducible refine Kd.C_alloc ?_ _) | (with_reducible refine Kd.C_drewN ?_ _) | (with_reducible refine Kd.C_drew ?_)))
          (case side2 => exact (Kd.R_reads' HO136.out).2.1)
          (case side3 => repeat (first | exact (Kd.R_reads' HO139.out).2.2 | (with_reducible refine Kd.C_alloc ?_ _) | (with_reducible refine Kd.C_drewN ?_ _) | (with_reducible refine Kd.C_drew ?_)))
          (case side4 => exact (Kd.R_reads' HO139.out).2.1)
          (case side5 => repeat (first | exact (Kd.R_reads' HO142.out).2.2 | (with_reducible refine Kd.C_alloc ?_ _) | (with_reducible refine Kd.C_drewN ?_ _) | (with_reducible refine Kd.C_drew ?_)))
          (case side6 => exact (Kd.R_reads' HO142.out).2.1)
          rintro e w58 ⟨rfl, hb⟩
          refine ⟨_, rfl, ?_⟩
          have n0_ := Aside0.mk (Kd.R_below (by (with_reducible repeat (first | apply Kd.R_alloc | apply Kd.R_drewN | apply Kd.R_drew)); exact HO125.out) hb)
          have n1_ := Aside0.mk (Kd.R_below (by (with_reducible repeat (first | apply Kd.R_alloc | apply Kd.R_drewN | apply Kd.R_drew)); exact HO128.out) hb)
          have n2_ := Aside0.mk (Kd.R_below (by (with_reducible repeat (first | apply Kd.R_alloc | apply Kd.R_drewN | apply Kd.R_drew)); exact HO131.out) hb)
          have n3_ := Aside0.mk (Kd.R_below (by (with_reducible repeat (first | apply Kd.R_alloc | apply Kd.R_drewN | apply Kd.R_drew)); exact HO136.out) hb)
          have n4_ := Aside0.mk (Kd.R_below (by (with_reducible repeat (first | apply Kd.R_alloc | apply Kd.R_drewN | apply Kd.R_drew)); exact HO139.out) hb)
          have n5_ := Aside0.mk (Kd.R_below (by (with_reducible repeat (first | apply Kd.R_alloc | apply Kd.R_drewN | apply Kd.R_drew)); exact HO142.out) hb)
          have n6_ := Aside0.mk (blk_below (g := gb118) (o := .cells #[.bool a0_0, .slice A0_1 l0_1.length c0_1, .slice A0_2 l0_2.length c0_2, .slice A0_3 l0_3.length c0_3] 26 (0, 0)) (by (with_reducible repeat (first | refine blk_drewN ?_ _ | refine blk_drew ?_ | refine blk_alloc ?_ _)); exact BK118.out) hb)
          have n7_ := Aside0.mk (blk_below (g := gb119) (o := .cells #[.bool false, .slice none 0 0, .slice none 0 0, .slice none 0 0] 26 (0, 0)) (by (with_reducible repeat (first | refine blk_drewN ?_ _ | refine blk_drew ?_ | refine blk_alloc ?_ _)); exact BK119.out) hb)
          have n8_ := Aside0.mk (blk_below (g := gb120) (o := .cells #[.bool false, .slice none 0 0, .slice none 0 0, .slice none 0 0] 26 (0, 0)) (by (with_reducible repeat (first | refine blk_drewN ?_ _ | refine blk_drew ?_ | refine blk_alloc ?_ _)); exact BK120.out) hb)
          have n9_ := Aside0.mk (below_step (by repeat (first | (with_reducible first | exact HB.out | apply below_alloc | apply pw_below_drewN | apply below_drew1 | refine below_set ?_ GE118.out | refine below_set ?_ GE119.out | refine below_set ?_ GE120.out) | exact HB.out)) hb)
          clear HO125
          clear HO128
          clear HO131
          clear HO136
          clear HO139
          clear HO142
          clear BK118
          clear BK119
          clear BK120
          clear HB
          have HO125 := n0_
          have HO128 := n1_
          have HO131 := n2_
          have HO136 := n3_
          have HO139 := n4_
          have HO142 := n5_
          have BK118 := n6_
          have BK119 := n7_
          have BK120 := n8_
          have HB := n9_
          clear n0_ n1_ n2_ n3_ n4_ n5_ n6_ n7_ n8_ n9_
          (try clear hb)
          (try clear hb2)
          (try clear hk)
          (try clear hi)
          refine hK.out _ _ ⟨(blk_cell BK118.out 0).trans rfl, (blk_cell BK118.out 1).trans rfl, (blk_cell BK118.out 2).trans rfl, (blk_cell BK118.out 3).trans rfl⟩ (fun hHeld => ?_)
          clear hK K
          refine norm_ (a' := ?_) ?_ ?_
          rotate_left
          ·show Act.put _ (some 49) _ = _
           simp only [Act.put, List.setIfInBounds_toArray, List.set_cons_zero, List.set_cons_succ, i64_w, i32_w]
           rfl
          refine pure_ (i := 11) (N := some 50) (v := ?_) (a' := ?_) #[true, true, true, true, true, true, true, true, true, true, true, true, false] rfl rfl (any_of HT_.out (by kernel_rfl)) (fun _ _ _ h => h) (Or.inl ⟨by rfl, ?_⟩) ?_ ?_
          rotate_left
          ·intro w'
           go_simp
           with_reducible rfl
          rotate_left
          ·simp only [Act.put, List.setIfInBounds_toArray, List.set_cons_zero, List.set_cons_succ, i64_w, i32_w]
           rfl
          refine pure_ (i := 12) (N := some 11) (v := ?_) (a' := ?_) #[true, true, true, true, true, true, true, true, true, true, true, true, true] rfl rfl (any_of HT_.out (by kernel_rfl)) (fun _ _ _ h => h) (Or.inl ⟨by rfl, ?_⟩) ?_ ?_
          rotate_left
          ·intro w'
           go_simp
           with_reducible rfl
          rotate_left
          ·simp only [Act.put, List.setIfInBounds_toArray, List.set_cons_zero, List.set_cons_succ, i64_w, i32_w]
           rfl
          refine done_ (done_of HT_.out (by kernel_rfl)) ?_
          try go_wp2
          go_roundg k3
          case measure => have := HJ1.out; have := HJ12.out; have := HK3.out; omega
          case rel => exact ⟨(x8_3), (x9_3), (wrap64 (x10_3 + 1)), (by first | rfl | (simp; done) | (simp [Aid.ne_nil]; done) | (simp [*]; done)), (by first | rfl | (simp; done) | (simp [Aid.ne_nil]; done) | (simp [*]; done)), (by first | rfl | (simp; done) | (simp [Aid.ne_nil]; done) | (simp [*]; done)), H', ⟨by have := HJ1.out; have := HJ12.out; have := HK3.out; omega⟩, ⟨by (with_reducible repeat (first | refine blk_drewN ?_ _ | refine blk_drew ?_ | refine blk_alloc ?_ _)); exact BK118.out⟩, ⟨by (with_reducible repeat (first | refine blk_drewN ?_ _ | refine blk_drew ?_ | refine blk_alloc ?_ _)); exact BK119.out⟩, ⟨by (with_reducible repeat (first | refine blk_drewN ?_ _ | refine blk_drew ?_ | refine blk_alloc ?_ _)); exact BK120.out⟩, ⟨by repeat (first | (with_reducible first | exact HB.out | apply below_alloc | apply pw_below_drewN | apply below_drew1 | refine below_set ?_ GE118.out | refine below_set ?_ GE119.out | refine below_set ?_ GE120.out) | exact HB.out)⟩⟩
        ·rw [if_neg c30] at H
         have c30b0 : decide (x10_3 < (wrap64 (x6_1 - x7_1))) = false := decide_eq_false c30
         clear c30
         replace H := Option.bind_eq_some_iff.mp H
         obtain ⟨⟨t144, t145, t148, t151⟩, A590, H⟩ := H
         replace H : ((slot_part.f a0_0 l0_1 l0_2 l0_3 (wrap64 (x8_3 + x7_1)) x6_1).bind fun bt154 => (if a0_0 = true then (if 0 ≤ x8_3 then (if x8_3 < (l0_1.length : Int) then (some (t144, t145, t148, t151, bt154.1, bt154.2.1, bt154.2.2.1, bt154.2.2.2, (rd_T43 l0_1 x8_3).f0, 0)) else (none)) else (none)) else (if 0 ≤ x8_3 then (if x8_3 < (l0_2.length : Int) then (some (t144, t145, t148, t151, bt154.1, bt154.2.1, bt154.2.2.1, bt154.2.2.2, rdOf ByteArray.empty l0_2 x8_3, 0)) else (none)) else (none)))) = some (r1, r2, r3, r4, r5, r6, r7, r8, r9, r10) := H
         have A59 := Aside0.mk A590
         clear A590
         replace H := Option.bind_eq_some_iff.mp H
         obtain ⟨⟨t154, t155, t158, t161⟩, A600, H⟩ := H
         replace H : (if a0_0 = true then (if 0 ≤ x8_3 then (if x8_3 < (l0_1.length : Int) then (some (t144, t145, t148, t151, t154, t155, t158, t161, (rd_T43 l0_1 x8_3).f0, 0)) else (none)) else (none)) else (if 0 ≤ x8_3 then (if x8_3 < (l0_2.length : Int) then (some (t144, t145, t148, t151, t154, t155, t158, t161, rdOf ByteArray.empty l0_2 x8_3, 0)) else (none)) else (none))) = some (r1, r2, r3, r4, r5, r6, r7, r8, r9, r10) := H
         have A60 := Aside0.mk A600
         clear A600
         by_cases c61 : a0_0 = true
         ·subst c61
          have H1 : (if 0 ≤ x8_3 then (if x8_3 < (l0_1.length : Int) then (some (t144, t145, t148, t151, t154, t155, t158, t161, (rd_T43 l0_1 x8_3).f0, 0)) else (none)) else (none)) = some (r1, r2, r3, r4, r5, r6, r7, r8, r9, r10) := by rw [if_pos rfl] at H; exact H
          clear H
          have H := H1
          clear H1
          by_cases c62 : 0 ≤ x8_3
          ·rw [if_pos c62] at H
           have c62b0 : decide (0 ≤ x8_3) = true := decide_eq_true c62
           clear c62
           by_cases c63 : x8_3 < (l0_1.length : Int)
           ·rw [if_pos c63] at H
            have c63b0 : decide (x8_3 < (l0_1.length : Int)) = true := decide_eq_true c63
            clear c63
            simp only [Option.some.injEq, Prod.mk.injEq] at H
            obtain ⟨rfl, rfl, rfl, rfl, rfl, rfl, rfl, rfl, rfl, rfl⟩ := H
            try go_wp2
            have n0_ := Aside0.mk (blk_drew BK118.out)
            have n1_ := Aside0.mk (blk_drew BK119.out)
            have n2_ := Aside0.mk (blk_drew BK120.out)
            have n3_ := Aside0.mk (below_drew1 HB.out)
            clear BK118
            clear BK119
            clear BK120
            clear HB
            have BK118 := n0_
            have BK119 := n1_
            have BK120 := n2_
            have HB := n3_
            clear n0_ n1_ n2_ n3_
            refine start_ (n := 11) (S := fun w' => w'.cell? ⟨gb118, 0, none⟩ = some (.bool true) ∧ w'.cell? ⟨gb118, 1, none⟩ = some (.slice A0_1 l0_1.length c0_1) ∧ w'.cell? ⟨gb118, 2, none⟩ = some (.slice A0_2 l0_2.length c0_2) ∧ w'.cell? ⟨gb118, 3, none⟩ = some (.slice A0_3 l0_3.length c0_3)) (ds := []) #[false, false, false, false, false, false, false, false, false, false, false] (by kernel_rfl) rfl rfl ⟨(blk_cell BK118.out 0).trans rfl, (blk_cell BK118.out 1).trans rfl, (blk_cell BK118.out 2).trans rfl, (blk_cell BK118.out 3).trans rfl⟩ (fun hHeld => ?_); refine with_tabW slot_Split.tab13 slot_Split.bits13 (fun HT_ HW_ => ?_)
            generalize wr.drew = w64 at BK118 BK119 BK120 HB hHeld ⊢
            refine pure_ (i := 1) (N := some 57) (v := ?_) (a' := ?_) #[false, true, false, false, false, false, false, false, false, false, false] rfl rfl (any_of HT_.out (by kernel_rfl)) (fun _ _ _ h => h) (Or.inl ⟨by rfl, ?_⟩) ?_ ?_
            rotate_left
            ·intro w'
             go_simp
             with_reducible rfl
            rotate_left
            ·simp only [Act.put, List.setIfInBounds_toArray, List.set_cons_zero, List.set_cons_succ, i64_w, i32_w]
             rfl
            refine pure_ (i := 4) (N := some 60) (v := ?_) (a' := ?_) #[false, true, false, false, true, false, false, false, false, false, false] rfl rfl (any_of HT_.out (by kernel_rfl)) (fun _ _ _ h => h) (Or.inl ⟨by rfl, ?_⟩) ?_ ?_
            rotate_left
            ·intro w'
             go_simp
             with_reducible rfl
            rotate_left
            ·simp only [Act.put, List.setIfInBounds_toArray, List.set_cons_zero, List.set_cons_succ, i64_w, i32_w]
             rfl
            refine pure_ (i := 5) (N := some 61) (v := ?_) (a' := ?_) #[false, true, false, false, true, true, false, false, false, false, false] rfl rfl (any_of HT_.out (by kernel_rfl)) (fun _ _ _ h => h) (Or.inl ⟨by rfl, ?_⟩) ?_ ?_
            rotate_left
            ·intro w'
             go_simp
             with_reducible rfl
            rotate_left
            ·simp only [Act.put, List.setIfInBounds_toArray, List.set_cons_zero, List.set_cons_succ, i64_w, i32_w]
             rfl
            refine pure_ (i := 6) (N := some 62) (v := ?_) (a' := ?_) #[false, true, false, false, true, true, true, false, false, false, false] rfl rfl (any_of HT_.out (by kernel_rfl)) (fun _ _ _ h => h) (Or.inl ⟨by rfl, ?_⟩) ?_ ?_
            rotate_left
            ·intro w'
             go_simp
             with_reducible rfl
            rotate_left
            ·simp only [Act.put, List.setIfInBounds_toArray, List.set_cons_zero, List.set_cons_succ, i64_w, i32_w]
             rfl
            refine pure_ (i := 7) (N := some 63) (v := ?_) (a' := ?_) #[false, true, false, false, true, true, true, true, false, false, false] rfl rfl (any_of HT_.out (by kernel_rfl)) (fun _ _ _ h => h) (Or.inl ⟨by rfl, ?_⟩) ?_ ?_
            rotate_left
            ·intro w'
             go_simp
             with_reducible rfl
            rotate_left
            ·simp only [Act.put, List.setIfInBounds_toArray, List.set_cons_zero, List.set_cons_succ, i64_w, i32_w]
             rfl
            refine take_ (i := 0) (N := some 56) (v := ?_) (a' := ?_) #[true, true, false, false, true, true, true, true, false, false, false] rfl rfl (take_ofW HT_.out HW_.out (by kernel_rfl)) (fun _ _ _ h => h) (Or.inl ⟨by rfl, ?_⟩) hHeld ?_ ?_
            rotate_left
            ·rintro w' ⟨s0, s1, s2, s3⟩
             go_simp
             with_reducible rfl
            rotate_left
            ·simp only [Act.put, List.setIfInBounds_toArray, List.set_cons_zero, List.set_cons_succ, i64_w, i32_w]
             rfl
            refine take_ (i := 3) (N := some 59) (v := ?_) (a' := ?_) #[true, true, false, true, true, true, true, true, false, false, false] rfl rfl (take_ofW HT_.out HW_.out (by kernel_rfl)) (fun _ _ _ h => h) (Or.inl ⟨by rfl, ?_⟩) hHeld ?_ ?_
            rotate_left
            ·rintro w' ⟨s0, s1, s2, s3⟩
             go_simp
             with_reducible rfl
            rotate_left
            ·simp only [Act.put, List.setIfInBounds_toArray, List.set_cons_zero, List.set_cons_succ, i64_w, i32_w]
             rfl
            refine one_ (i := 2) (N := some 58) #[true, true, true, true, true, true, true, true, false, false, false] rfl rfl (one_of HT_.out (by kernel_rfl)) (by decide) (fun K hK => ?_)
            refine goes_ Try.func24 (by kernel_rfl) rfl #[.agg #[.bool true, .slice A0_1 l0_1.length c0_1, .slice A0_2 l0_2.length c0_2, .slice A0_3 l0_3.length c0_3], .int .i64 0, .int .i64 x8_3] (by rfl) rfl rfl (by (try simp only [List.map_toArray, List.map_cons, List.map_nil]); first | done | rfl | (simp only [List.length_drop, List.length_take]; rfl)) ?_
            with_reducible refine (slot_part.calls true _ _ l0_1 _ _ l0_2 _ _ l0_3 0 x8_3 t144 t145 t148 t151 _ ?side1 ?side2 ?side3 ?side4 ?side5 ?side6 A59.out).mono ?_
            (case side1 => repeat (first | exact (Kd.C_below HR0_1.out HB.out) | (with_reducible refine Kd.C_alloc ?_ _) | (with_reducible refine Kd.C_drewN ?_ _) | (with_reducible refine Kd.C_drew ?_)))
            (case side2 => exact HC0_1.out)
            (case side3 => repeat (first | exact (Kd.C_below HR0_2.out HB.out) | (with_reducible refine Kd.C_alloc ?_ _) | (with_reducible refine Kd.C_drewN ?_ _) | (with_reducible refine Kd.C_drew ?_)))
            (case side4 => exact HC0_2.out)
            (case side5 => repeat (first | exact (Kd.C_below HR0_3.out HB.out) | (with_reducible refine Kd.C_alloc ?_ _) | (with_reducible refine Kd.C_drewN ?_ _) | (with_reducible refine Kd.C_drew ?_)))
            (case side6 => exact HC0_3.out)
            rintro e w65 ⟨v146, v149, v152, rfl, ho0, ho1, ho2, hb⟩
            refine ⟨_, rfl, ?_⟩
            have n0_ := Aside0.mk (Kd.R_lower ho0 (below_size (by repeat (first | (with_reducible first | exact HB.out | apply below_alloc | apply pw_below_drewN | apply below_drew1 | refine below_set ?_ GE118.out | refine below_set ?_ GE119.out | refine below_set ?_ GE120.out) | exact HB.out))))
            have n1_ := Aside0.mk (Kd.R_lower ho1 (below_size (by repeat (first | (with_reducible first | exact HB.out | apply below_alloc | apply pw_below_drewN | apply below_drew1 | refine below_set ?_ GE118.out | refine below_set ?_ GE119.out | refine below_set ?_ GE120.out) | exact HB.out))))
            have n2_ := Aside0.mk (Kd.R_lower ho2 (below_size (by repeat (first | (with_reducible first | exact HB.out | apply below_alloc | apply pw_below_drewN | apply below_drew1 | refine below_set ?_ GE118.out | refine below_set ?_ GE119.out | refine below_set ?_ GE120.out) | exact HB.out))))
            have n3_ := Aside0.mk (blk_below (g := gb118) (o := .cells #[.bool true, .slice A0_1 l0_1.length c0_1, .slice A0_2 l0_2.length c0_2, .slice A0_3 l0_3.length c0_3] 26 (0, 0)) (by (with_reducible repeat (first | refine blk_drewN ?_ _ | refine blk_drew ?_ | refine blk_alloc ?_ _)); exact BK118.out) hb)
            have n4_ := Aside0.mk (blk_below (g := gb119) (o := .cells #[.bool false, .slice none 0 0, .slice none 0 0, .slice none 0 0] 26 (0, 0)) (by (with_reducible repeat (first | refine blk_drewN ?_ _ | refine blk_drew ?_ | refine blk_alloc ?_ _)); exact BK119.out) hb)
            have n5_ := Aside0.mk (blk_below (g := gb120) (o := .cells #[.bool false, .slice none 0 0, .slice none 0 0, .slice none 0 0] 26 (0, 0)) (by (with_reducible repeat (first | refine blk_drewN ?_ _ | refine blk_drew ?_ | refine blk_alloc ?_ _)); exact BK120.out) hb)
            have n6_ := Aside0.mk (below_step (by repeat (first | (with_reducible first | exact HB.out | apply below_alloc | apply pw_below_drewN | apply below_drew1 | refine below_set ?_ GE118.out | refine below_set ?_ GE119.out | refine below_set ?_ GE120.out) | exact HB.out)) hb)
            clear BK118
            clear BK119
            clear BK120
            clear HB
            have HO147 := n0_
            have HO150 := n1_
            have HO153 := n2_
            have BK118 := n3_
            have BK119 := n4_
            have BK120 := n5_
            have HB := n6_
            clear n0_ n1_ n2_ n3_ n4_ n5_ n6_
            (try clear hb)
            (try clear hb2)
            (try clear hk)
            (try clear hi)
            (try clear ho0)
            (try clear ho1)
            (try clear ho2)
            refine hK.out _ _ ⟨(blk_cell BK118.out 0).trans rfl, (blk_cell BK118.out 1).trans rfl, (blk_cell BK118.out 2).trans rfl, (blk_cell BK118.out 3).trans rfl⟩ (fun hHeld => ?_)
            clear hK K
            refine norm_ (a' := ?_) ?_ ?_
            rotate_left
            ·show Act.put _ (some 58) _ = _
             simp only [Act.put, List.setIfInBounds_toArray, List.set_cons_zero, List.set_cons_succ, i64_w, i32_w]
             rfl
            refine one_ (i := 8) (N := some 64) #[true, true, true, true, true, true, true, true, true, false, false] rfl rfl (one_of HT_.out (by kernel_rfl)) (by decide) (fun K hK => ?_)
            refine goes_ Try.func24 (by kernel_rfl) rfl #[.agg #[.bool true, .slice A0_1 l0_1.length c0_1, .slice A0_2 l0_2.length c0_2, .slice A0_3 l0_3.length c0_3], .int .i64 (wrap64 (x8_3 + x7_1)), .int .i64 x6_1] (by rfl) rfl rfl (by (try simp only [List.map_toArray, List.map_cons, List.map_nil]); first | done | rfl | (simp only [List.length_drop, List.length_take]; rfl)) ?_
            with_reducible refine (slot_part.calls true _ _ l0_1 _ _ l0_2 _ _ l0_3 (wrap64 (x8_3 + x7_1)) x6_1 t154 t155 t158 t161 _ ?side1 ?side2 ?side3 ?side4 ?side5 ?side6 A60.out).mono ?_
            (case side1 => repeat (first | exact (Kd.C_below HR0_1.out HB.out) | (with_reducible refine Kd.C_alloc ?_ _) | (with_reducible refine Kd.C_drewN ?_ _) | (with_reducible refine Kd.C_drew ?_)))
            (case side2 => exact HC0_1.out)
            (case side3 => repeat (first | exact (Kd.C_below HR0_2.out HB.out) | (with_reducible refine Kd.C_alloc ?_ _) | (with_reducible refine Kd.C_drewN ?_ _) | (with_reducible refine Kd.C_drew ?_)))
            (case side4 => exact HC0_2.out)
            (case side5 => repeat (first | exact (Kd.C_below HR0_3.out HB.out) | (with_reducible refine Kd.C_alloc ?_ _) | (with_reducible refine Kd.C_drewN ?_ _) | (with_reducible refine Kd.C_drew ?_)))
            (case side6 => exact HC0_3.out)
            rintro e w66 ⟨v156, v159, v162, rfl, ho0, ho1, ho2, hb⟩
            refine ⟨_, rfl, ?_⟩
            have n0_ := Aside0.mk (Kd.R_elder' (by (with_reducible repeat (first | apply Kd.R_alloc | apply Kd.R_drewN | apply Kd.R_drew)); exact HO147.out) (Kd.R_base ho0) hb)
            have n1_ := Aside0.mk (Kd.R_elder' (by (with_reducible repeat (first | apply Kd.R_alloc | apply Kd.R_drewN | apply Kd.R_drew)); exact HO150.out) (Kd.R_base ho1) hb)
            have n2_ := Aside0.mk (Kd.R_elder' (by (with_reducible repeat (first | apply Kd.R_alloc | apply Kd.R_drewN | apply Kd.R_drew)); exact HO153.out) (Kd.R_base ho2) hb)
            have n3_ := Aside0.mk (Kd.R_lower (Kd.R_new' ho0 (Kd.R_lt (by (with_reducible repeat (first | apply Kd.R_alloc | apply Kd.R_drewN | apply Kd.R_drew)); exact HO147.out))) (below_size (by repeat (first | (with_reducible first | exact HB.out | apply below_alloc | apply pw_below_drewN | apply below_drew1 | refine below_set ?_ GE118.out | refine below_set ?_ GE119.out | refine below_set ?_ GE120.out) | exact HB.out))))
            have n4_ := Aside0.mk (Kd.R_lower (Kd.R_new' ho1 (Kd.R_lt (by (with_reducible repeat (first | apply Kd.R_alloc | apply Kd.R_drewN | apply Kd.R_drew)); exact HO150.out))) (below_size (by repeat (first | (with_reducible first | exact HB.out | apply below_alloc | apply pw_below_drewN | apply below_drew1 | refine below_set ?_ GE118.out | refine below_set ?_ GE119.out | refine below_set ?_ GE120.out) | exact HB.out))))
            have n5_ := Aside0.mk (Kd.R_lower (Kd.R_new' ho2 (Kd.R_lt (by (with_reducible repeat (first | apply Kd.R_alloc | apply Kd.R_drewN | apply Kd.R_drew)); exact HO153.out))) (below_size (by repeat (first | (with_reducible first | exact HB.out | apply below_alloc | apply pw_below_drewN | apply below_drew1 | refine below_set ?_ GE118.out | refine below_set ?_ GE119.out | refine below_set ?_ GE120.out) | exact HB.out))))
            have n6_ := Aside0.mk (blk_below (g := gb118) (o := .cells #[.bool true, .slice A0_1 l0_1.length c0_1, .slice A0_2 l0_2.length c0_2, .slice A0_3 l0_3.length c0_3] 26 (0, 0)) (by (with_reducible repeat (first | refine blk_drewN ?_ _ | refine blk_drew ?_ | refine blk_alloc ?_ _)); exact BK118.out) hb)
            have n7_ := Aside0.mk (blk_below (g := gb119) (o := .cells #[.bool false, .slice none 0 0, .slice none 0 0, .slice none 0 0] 26 (0, 0)) (by (with_reducible repeat (first | refine blk_drewN ?_ _ | refine blk_drew ?_ | refine blk_alloc ?_ _)); exact BK119.out) hb)
            have n8_ := Aside0.mk (blk_below (g := gb120) (o := .cells #[.bool false, .slice none 0 0, .slice none 0 0, .slice none 0 0] 26 (0, 0)) (by (with_reducible repeat (first | refine blk_drewN ?_ _ | refine blk_drew ?_ | refine blk_alloc ?_ _)); exact BK120.out) hb)
            have n9_ := Aside0.mk (below_step (by repeat (first | (with_reducible first | exact HB.out | apply below_alloc | apply pw_below_drewN | apply below_drew1 | refine below_set ?_ GE118.out | refine below_set ?_ GE119.out | refine below_set ?_ GE120.out) | exact HB.out)) hb)
            clear HO147
            clear HO150
            clear HO153
            clear BK118
            clear BK119
            clear BK120
            clear HB
            have HO147 := n0_
            have HO150 := n1_
            have HO153 := n2_
            have HO157 := n3_
            have HO160 := n4_
            have HO163 := n5_
            have BK118 := n6_
            have BK119 := n7_
            have BK120 := n8_
            have HB := n9_
            clear n0_ n1_ n2_ n3_ n4_ n5_ n6_ n7_ n8_ n9_
            (try clear hb)
            (try clear hb2)
            (try clear hk)
            (try clear hi)
            (try clear ho0)
            (try clear ho1)
            (try clear ho2)
            obtain ⟨Ao68, co68, eo68⟩ := Kd.R_slice HO147.out
            (first | subst eo68 | (injection eo68 with f1_ f2_ f3_; have f4_ := f1_.symm; have f5_ := f3_.symm; clear f1_ f2_ f3_; subst f4_; subst f5_))
            obtain ⟨Ao70, co70, eo70⟩ := Kd.R_slice HO150.out
            (first | subst eo70 | (injection eo70 with f1_ f2_ f3_; have f4_ := f1_.symm; have f5_ := f3_.symm; clear f1_ f2_ f3_; subst f4_; subst f5_))
            obtain ⟨Ao72, co72, eo72⟩ := Kd.R_slice HO153.out
            (first | subst eo72 | (injection eo72 with f1_ f2_ f3_; have f4_ := f1_.symm; have f5_ := f3_.symm; clear f1_ f2_ f3_; subst f4_; subst f5_))
            obtain ⟨Ao75, co75, eo75⟩ := Kd.R_slice HO157.out
            (first | subst eo75 | (injection eo75 with f1_ f2_ f3_; have f4_ := f1_.symm; have f5_ := f3_.symm; clear f1_ f2_ f3_; subst f4_; subst f5_))
            obtain ⟨Ao77, co77, eo77⟩ := Kd.R_slice HO160.out
            (first | subst eo77 | (injection eo77 with f1_ f2_ f3_; have f4_ := f1_.symm; have f5_ := f3_.symm; clear f1_ f2_ f3_; subst f4_; subst f5_))
            obtain ⟨Ao79, co79, eo79⟩ := Kd.R_slice HO163.out
            (first | subst eo79 | (injection eo79 with f1_ f2_ f3_; have f4_ := f1_.symm; have f5_ := f3_.symm; clear f1_ f2_ f3_; subst f4_; subst f5_))
            refine hK.out _ _ ⟨(blk_cell BK118.out 0).trans rfl, (blk_cell BK118.out 1).trans rfl, (blk_cell BK118.out 2).trans rfl, (blk_cell BK118.out 3).trans rfl⟩ (fun hHeld => ?_)
            clear hK K
            refine norm_ (a' := ?_) ?_ ?_
            rotate_left
            ·show Act.put _ (some 64) _ = _
             simp only [Act.put, List.setIfInBounds_toArray, List.set_cons_zero, List.set_cons_succ, i64_w, i32_w]
             rfl
            refine one_ (i := 9) (N := none) #[true, true, true, true, true, true, true, true, true, true, false] rfl rfl (one_of HT_.out (by kernel_rfl)) (by decide) (fun K hK => ?_)
            have hs67 : w66.cell? ⟨gb119, 0, none⟩ = some (.bool false) := (blk_cell BK119.out 0).trans rfl
            have hfs67 := blk_frozen BK119.out 0
            have hns67_0 := NB118_119.out
            have hns67_2 := NB120_119.out
            have hms67_0 := NB119_118.out
            have hms67_2 := NB119_120.out
            have hs69 : w66.cell? ⟨gb119, 1, none⟩ = some (.slice none 0 0) := (blk_cell BK119.out 1).trans rfl
            have hfs69 := blk_frozen BK119.out 1
            have hns69_0 := NB118_119.out
            have hns69_2 := NB120_119.out
            have hms69_0 := NB119_118.out
            have hms69_2 := NB119_120.out
            have hs71 : w66.cell? ⟨gb119, 2, none⟩ = some (.slice none 0 0) := (blk_cell BK119.out 2).trans rfl
            have hfs71 := blk_frozen BK119.out 2
            have hns71_0 := NB118_119.out
            have hns71_2 := NB120_119.out
            have hms71_0 := NB119_118.out
            have hms71_2 := NB119_120.out
            have hs73 : w66.cell? ⟨gb119, 3, none⟩ = some (.slice none 0 0) := (blk_cell BK119.out 3).trans rfl
            have hfs73 := blk_frozen BK119.out 3
            have hns73_0 := NB118_119.out
            have hns73_2 := NB120_119.out
            have hms73_0 := NB119_118.out
            have hms73_2 := NB119_120.out
            refine skip_ (w1 := ?_) (by rfl) rfl ?_ ?_
            rotate_left
            ·go_simp
             rfl
            refine hK.out _ _ ⟨((cell_far (p := ⟨gb119, _, none⟩) NB118_119.out _).trans (((cell_far (p := ⟨gb119, _, none⟩) NB118_119.out _).trans (((cell_far (p := ⟨gb119, _, none⟩) NB118_119.out _).trans (((cell_far (p := ⟨gb119, _, none⟩) NB118_119.out _).trans (hHeld.1)))))))), ((cell_far (p := ⟨gb119, _, none⟩) NB118_119.out _).trans (((cell_far (p := ⟨gb119, _, none⟩) NB118_119.out _).trans (((cell_far (p := ⟨gb119, _, none⟩) NB118_119.out _).trans (((cell_far (p := ⟨gb119, _, none⟩) NB118_119.out _).trans (hHeld.2.1)))))))), ((cell_far (p := ⟨gb119, _, none⟩) NB118_119.out _).trans (((cell_far (p := ⟨gb119, _, none⟩) NB118_119.out _).trans (((cell_far (p := ⟨gb119, _, none⟩) NB118_119.out _).trans (((cell_far (p := ⟨gb119, _, none⟩) NB118_119.out _).trans (hHeld.2.2.1)))))))), ((cell_far (p := ⟨gb119, _, none⟩) NB118_119.out _).trans (((cell_far (p := ⟨gb119, _, none⟩) NB118_119.out _).trans (((cell_far (p := ⟨gb119, _, none⟩) NB118_119.out _).trans (((cell_far (p := ⟨gb119, _, none⟩) NB118_119.out _).trans (hHeld.2.2.2))))))))⟩ (fun hHeld => ?_)
            clear hK K
            refine one_ (i := 10) (N := none) #[true, true, true, true, true, true, true, true, true, true, true] rfl rfl (one_of HT_.out (by kernel_rfl)) (by decide) (fun K hK => ?_)
            have hs74 : w66.cell? ⟨gb120, 0, none⟩ = some (.bool false) := (blk_cell BK120.out 0).trans rfl
            have hfs74 := blk_frozen BK120.out 0
            have hns74_0 := NB118_120.out
            have hns74_1 := NB119_120.out
            have hms74_0 := NB120_118.out
            have hms74_1 := NB120_119.out
            have hs76 : w66.cell? ⟨gb120, 1, none⟩ = some (.slice none 0 0) := (blk_cell BK120.out 1).trans rfl
            have hfs76 := blk_frozen BK120.out 1
            have hns76_0 := NB118_120.out
            have hns76_1 := NB119_120.out
            have hms76_0 := NB120_118.out
            have hms76_1 := NB120_119.out
            have hs78 : w66.cell? ⟨gb120, 2, none⟩ = some (.slice none 0 0) := (blk_cell BK120.out 2).trans rfl
            have hfs78 := blk_frozen BK120.out 2
            have hns78_0 := NB118_120.out
            have hns78_1 := NB119_120.out
            have hms78_0 := NB120_118.out
            have hms78_1 := NB120_119.out
            have hs80 : w66.cell? ⟨gb120, 3, none⟩ = some (.slice none 0 0) := (blk_cell BK120.out 3).trans rfl
            have hfs80 := blk_frozen BK120.out 3
            have hns80_0 := NB118_120.out
            have hns80_1 := NB119_120.out
            have hms80_0 := NB120_118.out
            have hms80_1 := NB120_119.out
            refine skip_ (w1 := ?_) (by rfl) rfl ?_ ?_
            rotate_left
            ·go_simp
             rfl
            refine hK.out _ _ ⟨((cell_far (p := ⟨gb120, _, none⟩) NB118_120.out _).trans (((cell_far (p := ⟨gb120, _, none⟩) NB118_120.out _).trans (((cell_far (p := ⟨gb120, _, none⟩) NB118_120.out _).trans (((cell_far (p := ⟨gb120, _, none⟩) NB118_120.out _).trans (hHeld.1)))))))), ((cell_far (p := ⟨gb120, _, none⟩) NB118_120.out _).trans (((cell_far (p := ⟨gb120, _, none⟩) NB118_120.out _).trans (((cell_far (p := ⟨gb120, _, none⟩) NB118_120.out _).trans (((cell_far (p := ⟨gb120, _, none⟩) NB118_120.out _).trans (hHeld.2.1)))))))), ((cell_far (p := ⟨gb120, _, none⟩) NB118_120.out _).trans (((cell_far (p := ⟨gb120, _, none⟩) NB118_120.out _).trans (((cell_far (p := ⟨gb120, _, none⟩) NB118_120.out _).trans (((cell_far (p := ⟨gb120, _, none⟩) NB118_120.out _).trans (hHeld.2.2.1)))))))), ((cell_far (p := ⟨gb120, _, none⟩) NB118_120.out _).trans (((cell_far (p := ⟨gb120, _, none⟩) NB118_120.out _).trans (((cell_far (p := ⟨gb120, _, none⟩) NB118_120.out _).trans (((cell_far (p := ⟨gb120, _, none⟩) NB118_120.out _).trans (hHeld.2.2.2))))))))⟩ (fun hHeld => ?_)
            clear hK K
            refine done_ (done_of HT_.out (by kernel_rfl)) ?_
            have hnb81 := NB118_119.out
            have hnc81 := NB119_118.out
            have hnb82 := NB118_120.out
            have hnc82 := NB120_118.out
            have hcz83_0 : w66.cell? ⟨gb118, 0, none⟩ = some (.bool true) := (blk_cell BK118.out 0).trans rfl
            have hcz83_1 : w66.cell? ⟨gb118, 1, none⟩ = some (.slice A0_1 l0_1.length c0_1) := (blk_cell BK118.out 1).trans rfl
            have hcz83_2 : w66.cell? ⟨gb118, 2, none⟩ = some (.slice A0_2 l0_2.length c0_2) := (blk_cell BK118.out 2).trans rfl
            have hcz83_3 : w66.cell? ⟨gb118, 3, none⟩ = some (.slice A0_3 l0_3.length c0_3) := (blk_cell BK118.out 3).trans rfl
            have hfz83_0 := blk_frozen BK118.out 0
            have hfz83_1 := blk_frozen BK118.out 1
            have hfz83_2 := blk_frozen BK118.out 2
            have hfz83_3 := blk_frozen BK118.out 3
            try go_wp2
            have n0_ : Aside0 (Kd.R k43 43 ((((((((w66.setCell ⟨gb119, 0, none⟩ (.bool t144)).setCell ⟨gb119, 1, none⟩ (.slice Ao68 t145.length co68)).setCell ⟨gb119, 2, none⟩ (.slice Ao70 t148.length co70)).setCell ⟨gb119, 3, none⟩ (.slice Ao72 t151.length co72)).setCell ⟨gb120, 0, none⟩ (.bool t154)).setCell ⟨gb120, 1, none⟩ (.slice Ao75 t155.length co75)).setCell ⟨gb120, 2, none⟩ (.slice Ao77 t158.length co77)).setCell ⟨gb120, 3, none⟩ (.slice Ao79 t161.length co79)) w.heap.size (fun k_ => some k_ ≠ (.slice Ao75 t155.length co75 : Value).ownBlock) (.slice Ao68 t145.length co68) t145) := ⟨by (with_reducible repeat (first | apply Kd.R_alloc | apply Kd.R_drewN | apply Kd.R_drew)); exact Kd.R_mono (Kd.R_far (p := ⟨gb120, 3, none⟩) (Kd.R_far (p := ⟨gb120, 2, none⟩) (Kd.R_far (p := ⟨gb120, 1, none⟩) (Kd.R_far (p := ⟨gb120, 0, none⟩) (Kd.R_far (p := ⟨gb119, 3, none⟩) (Kd.R_far (p := ⟨gb119, 2, none⟩) (Kd.R_far (p := ⟨gb119, 1, none⟩) (Kd.R_far (p := ⟨gb119, 0, none⟩) (Kd.R_types (Kd.R_types HO147.out BK119.out (by decide)) BK120.out (by decide)) (fun _ hk => hk.1.2) (.bool t144)) (fun _ hk => hk.1.2) (.slice Ao68 t145.length co68)) (fun _ hk => hk.1.2) (.slice Ao70 t148.length co70)) (fun _ hk => hk.1.2) (.slice Ao72 t151.length co72)) (fun _ hk => hk.2) (.bool t154)) (fun _ hk => hk.2) (.slice Ao75 t155.length co75)) (fun _ hk => hk.2) (.slice Ao77 t158.length co77)) (fun _ hk => hk.2) (.slice Ao79 t161.length co79)) (fun _ hk => hk.1.1.2)⟩
            have n1_ : Aside0 (Kd.R Kd.string 9 ((((((((w66.setCell ⟨gb119, 0, none⟩ (.bool t144)).setCell ⟨gb119, 1, none⟩ (.slice Ao68 t145.length co68)).setCell ⟨gb119, 2, none⟩ (.slice Ao70 t148.length co70)).setCell ⟨gb119, 3, none⟩ (.slice Ao72 t151.length co72)).setCell ⟨gb120, 0, none⟩ (.bool t154)).setCell ⟨gb120, 1, none⟩ (.slice Ao75 t155.length co75)).setCell ⟨gb120, 2, none⟩ (.slice Ao77 t158.length co77)).setCell ⟨gb120, 3, none⟩ (.slice Ao79 t161.length co79)) w.heap.size (fun k_ => some k_ ≠ (.slice Ao77 t158.length co77 : Value).ownBlock) (.slice Ao70 t148.length co70) t148) := ⟨by (with_reducible repeat (first | apply Kd.R_alloc | apply Kd.R_drewN | apply Kd.R_drew)); exact Kd.R_mono (Kd.R_far (p := ⟨gb120, 3, none⟩) (Kd.R_far (p := ⟨gb120, 2, none⟩) (Kd.R_far (p := ⟨gb120, 1, none⟩) (Kd.R_far (p := ⟨gb120, 0, none⟩) (Kd.R_far (p := ⟨gb119, 3, none⟩) (Kd.R_far (p := ⟨gb119, 2, none⟩) (Kd.R_far (p := ⟨gb119, 1, none⟩) (Kd.R_far (p := ⟨gb119, 0, none⟩) (Kd.R_types (Kd.R_types HO150.out BK119.out (by decide)) BK120.out (by decide)) (fun _ hk => hk.1.2) (.bool t144)) (fun _ hk => hk.1.2) (.slice Ao68 t145.length co68)) (fun _ hk => hk.1.2) (.slice Ao70 t148.length co70)) (fun _ hk => hk.1.2) (.slice Ao72 t151.length co72)) (fun _ hk => hk.2) (.bool t154)) (fun _ hk => hk.2) (.slice Ao75 t155.length co75)) (fun _ hk => hk.2) (.slice Ao77 t158.length co77)) (fun _ hk => hk.2) (.slice Ao79 t161.length co79)) (fun _ hk => hk.1.1.2)⟩
            have n2_ : Aside0 (Kd.R (Kd.int .i64) 3 ((((((((w66.setCell ⟨gb119, 0, none⟩ (.bool t144)).setCell ⟨gb119, 1, none⟩ (.slice Ao68 t145.length co68)).setCell ⟨gb119, 2, none⟩ (.slice Ao70 t148.length co70)).setCell ⟨gb119, 3, none⟩ (.slice Ao72 t151.length co72)).setCell ⟨gb120, 0, none⟩ (.bool t154)).setCell ⟨gb120, 1, none⟩ (.slice Ao75 t155.length co75)).setCell ⟨gb120, 2, none⟩ (.slice Ao77 t158.length co77)).setCell ⟨gb120, 3, none⟩ (.slice Ao79 t161.length co79)) w.heap.size (fun k_ => some k_ ≠ (.slice Ao79 t161.length co79 : Value).ownBlock) (.slice Ao72 t151.length co72) t151) := ⟨by (with_reducible repeat (first | apply Kd.R_alloc | apply Kd.R_drewN | apply Kd.R_drew)); exact Kd.R_mono (Kd.R_far (p := ⟨gb120, 3, none⟩) (Kd.R_far (p := ⟨gb120, 2, none⟩) (Kd.R_far (p := ⟨gb120, 1, none⟩) (Kd.R_far (p := ⟨gb120, 0, none⟩) (Kd.R_far (p := ⟨gb119, 3, none⟩) (Kd.R_far (p := ⟨gb119, 2, none⟩) (Kd.R_far (p := ⟨gb119, 1, none⟩) (Kd.R_far (p := ⟨gb119, 0, none⟩) (Kd.R_types (Kd.R_types HO153.out BK119.out (by decide)) BK120.out (by decide)) (fun _ hk => hk.1.2) (.bool t144)) (fun _ hk => hk.1.2) (.slice Ao68 t145.length co68)) (fun _ hk => hk.1.2) (.slice Ao70 t148.length co70)) (fun _ hk => hk.1.2) (.slice Ao72 t151.length co72)) (fun _ hk => hk.2) (.bool t154)) (fun _ hk => hk.2) (.slice Ao75 t155.length co75)) (fun _ hk => hk.2) (.slice Ao77 t158.length co77)) (fun _ hk => hk.2) (.slice Ao79 t161.length co79)) (fun _ hk => hk.1.1.2)⟩
            have n3_ : Aside0 (Kd.R k43 43 ((((((((w66.setCell ⟨gb119, 0, none⟩ (.bool t144)).setCell ⟨gb119, 1, none⟩ (.slice Ao68 t145.length co68)).setCell ⟨gb119, 2, none⟩ (.slice Ao70 t148.length co70)).setCell ⟨gb119, 3, none⟩ (.slice Ao72 t151.length co72)).setCell ⟨gb120, 0, none⟩ (.bool t154)).setCell ⟨gb120, 1, none⟩ (.slice Ao75 t155.length co75)).setCell ⟨gb120, 2, none⟩ (.slice Ao77 t158.length co77)).setCell ⟨gb120, 3, none⟩ (.slice Ao79 t161.length co79)) w.heap.size (fun k_ => some k_ ≠ (.slice Ao68 t145.length co68 : Value).ownBlock) (.slice Ao75 t155.length co75) t155) := ⟨by (with_reducible repeat (first | apply Kd.R_alloc | apply Kd.R_drewN | apply Kd.R_drew)); exact Kd.R_mono (Kd.R_far (p := ⟨gb120, 3, none⟩) (Kd.R_far (p := ⟨gb120, 2, none⟩) (Kd.R_far (p := ⟨gb120, 1, none⟩) (Kd.R_far (p := ⟨gb120, 0, none⟩) (Kd.R_far (p := ⟨gb119, 3, none⟩) (Kd.R_far (p := ⟨gb119, 2, none⟩) (Kd.R_far (p := ⟨gb119, 1, none⟩) (Kd.R_far (p := ⟨gb119, 0, none⟩) (Kd.R_types (Kd.R_types HO157.out BK119.out (by decide)) BK120.out (by decide)) (fun _ hk => hk.1.2) (.bool t144)) (fun _ hk => hk.1.2) (.slice Ao68 t145.length co68)) (fun _ hk => hk.1.2) (.slice Ao70 t148.length co70)) (fun _ hk => hk.1.2) (.slice Ao72 t151.length co72)) (fun _ hk => hk.2) (.bool t154)) (fun _ hk => hk.2) (.slice Ao75 t155.length co75)) (fun _ hk => hk.2) (.slice Ao77 t158.length co77)) (fun _ hk => hk.2) (.slice Ao79 t161.length co79)) (fun _ hk => hk.1.1.2)⟩
            have n4_ : Aside0 (Kd.R Kd.string 9 ((((((((w66.setCell ⟨gb119, 0, none⟩ (.bool t144)).setCell ⟨gb119, 1, none⟩ (.slice Ao68 t145.length co68)).setCell ⟨gb119, 2, none⟩ (.slice Ao70 t148.length co70)).setCell ⟨gb119, 3, none⟩ (.slice Ao72 t151.length co72)).setCell ⟨gb120, 0, none⟩ (.bool t154)).setCell ⟨gb120, 1, none⟩ (.slice Ao75 t155.length co75)).setCell ⟨gb120, 2, none⟩ (.slice Ao77 t158.length co77)).setCell ⟨gb120, 3, none⟩ (.slice Ao79 t161.length co79)) w.heap.size (fun k_ => some k_ ≠ (.slice Ao70 t148.length co70 : Value).ownBlock) (.slice Ao77 t158.length co77) t158) := ⟨by (with_reducible repeat (first | apply Kd.R_alloc | apply Kd.R_drewN | apply Kd.R_drew)); exact Kd.R_mono (Kd.R_far (p := ⟨gb120, 3, none⟩) (Kd.R_far (p := ⟨gb120, 2, none⟩) (Kd.R_far (p := ⟨gb120, 1, none⟩) (Kd.R_far (p := ⟨gb120, 0, none⟩) (Kd.R_far (p := ⟨gb119, 3, none⟩) (Kd.R_far (p := ⟨gb119, 2, none⟩) (Kd.R_far (p := ⟨gb119, 1, none⟩) (Kd.R_far (p := ⟨gb119, 0, none⟩) (Kd.R_types (Kd.R_types HO160.out BK119.out (by decide)) BK120.out (by decide)) (fun _ hk => hk.1.2) (.bool t144)) (fun _ hk => hk.1.2) (.slice Ao68 t145.length co68)) (fun _ hk => hk.1.2) (.slice Ao70 t148.length co70)) (fun _ hk => hk.1.2) (.slice Ao72 t151.length co72)) (fun _ hk => hk.2) (.bool t154)) (fun _ hk => hk.2) (.slice Ao75 t155.length co75)) (fun _ hk => hk.2) (.slice Ao77 t158.length co77)) (fun _ hk => hk.2) (.slice Ao79 t161.length co79)) (fun _ hk => hk.1.1.2)⟩
            have n5_ : Aside0 (Kd.R (Kd.int .i64) 3 ((((((((w66.setCell ⟨gb119, 0, none⟩ (.bool t144)).setCell ⟨gb119, 1, none⟩ (.slice Ao68 t145.length co68)).setCell ⟨gb119, 2, none⟩ (.slice Ao70 t148.length co70)).setCell ⟨gb119, 3, none⟩ (.slice Ao72 t151.length co72)).setCell ⟨gb120, 0, none⟩ (.bool t154)).setCell ⟨gb120, 1, none⟩ (.slice Ao75 t155.length co75)).setCell ⟨gb120, 2, none⟩ (.slice Ao77 t158.length co77)).setCell ⟨gb120, 3, none⟩ (.slice Ao79 t161.length co79)) w.heap.size (fun k_ => some k_ ≠ (.slice Ao72 t151.length co72 : Value).ownBlock) (.slice Ao79 t161.length co79) t161) := ⟨by (with_reducible repeat (first | apply Kd.R_alloc | apply Kd.R_drewN | apply Kd.R_drew)); exact Kd.R_mono (Kd.R_far (p := ⟨gb120, 3, none⟩) (Kd.R_far (p := ⟨gb120, 2, none⟩) (Kd.R_far (p := ⟨gb120, 1, none⟩) (Kd.R_far (p := ⟨gb120, 0, none⟩) (Kd.R_far (p := ⟨gb119, 3, none⟩) (Kd.R_far (p := ⟨gb119, 2, none⟩) (Kd.R_far (p := ⟨gb119, 1, none⟩) (Kd.R_far (p := ⟨gb119, 0, none⟩) (Kd.R_types (Kd.R_types HO163.out BK119.out (by decide)) BK120.out (by decide)) (fun _ hk => hk.1.2) (.bool t144)) (fun _ hk => hk.1.2) (.slice Ao68 t145.length co68)) (fun _ hk => hk.1.2) (.slice Ao70 t148.length co70)) (fun _ hk => hk.1.2) (.slice Ao72 t151.length co72)) (fun _ hk => hk.2) (.bool t154)) (fun _ hk => hk.2) (.slice Ao75 t155.length co75)) (fun _ hk => hk.2) (.slice Ao77 t158.length co77)) (fun _ hk => hk.2) (.slice Ao79 t161.length co79)) (fun _ hk => hk.1.1.2)⟩
            have n6_ : Aside0 (((((((((w66.setCell ⟨gb119, 0, none⟩ (.bool t144)).setCell ⟨gb119, 1, none⟩ (.slice Ao68 t145.length co68)).setCell ⟨gb119, 2, none⟩ (.slice Ao70 t148.length co70)).setCell ⟨gb119, 3, none⟩ (.slice Ao72 t151.length co72)).setCell ⟨gb120, 0, none⟩ (.bool t154)).setCell ⟨gb120, 1, none⟩ (.slice Ao75 t155.length co75)).setCell ⟨gb120, 2, none⟩ (.slice Ao77 t158.length co77)).setCell ⟨gb120, 3, none⟩ (.slice Ao79 t161.length co79)).heap[gb118]? = some (.cells #[.bool true, .slice A0_1 l0_1.length c0_1, .slice A0_2 l0_2.length c0_2, .slice A0_3 l0_3.length c0_3] 26 (0, 0))) := ⟨by (with_reducible repeat (first | refine blk_drewN ?_ _ | refine blk_drew ?_ | refine blk_alloc ?_ _)); refine blk_far ?_ NB118_120.out _; (with_reducible repeat (first | refine blk_drewN ?_ _ | refine blk_drew ?_ | refine blk_alloc ?_ _)); refine blk_far ?_ NB118_120.out _; (with_reducible repeat (first | refine blk_drewN ?_ _ | refine blk_drew ?_ | refine blk_alloc ?_ _)); refine blk_far ?_ NB118_120.out _; (with_reducible repeat (first | refine blk_drewN ?_ _ | refine blk_drew ?_ | refine blk_alloc ?_ _)); refine blk_far ?_ NB118_120.out _; (with_reducible repeat (first | refine blk_drewN ?_ _ | refine blk_drew ?_ | refine blk_alloc ?_ _)); refine blk_far ?_ NB118_119.out _; (with_reducible repeat (first | refine blk_drewN ?_ _ | refine blk_drew ?_ | refine blk_alloc ?_ _)); refine blk_far ?_ NB118_119.out _; (with_reducible repeat (first | refine blk_drewN ?_ _ | refine blk_drew ?_ | refine blk_alloc ?_ _)); refine blk_far ?_ NB118_119.out _; (with_reducible repeat (first | refine blk_drewN ?_ _ | refine blk_drew ?_ | refine blk_alloc ?_ _)); refine blk_far ?_ NB118_119.out _; (with_reducible repeat (first | refine blk_drewN ?_ _ | refine blk_drew ?_ | refine blk_alloc ?_ _)); exact BK118.out⟩
            have n7_ : Aside0 (((((((((w66.setCell ⟨gb119, 0, none⟩ (.bool t144)).setCell ⟨gb119, 1, none⟩ (.slice Ao68 t145.length co68)).setCell ⟨gb119, 2, none⟩ (.slice Ao70 t148.length co70)).setCell ⟨gb119, 3, none⟩ (.slice Ao72 t151.length co72)).setCell ⟨gb120, 0, none⟩ (.bool t154)).setCell ⟨gb120, 1, none⟩ (.slice Ao75 t155.length co75)).setCell ⟨gb120, 2, none⟩ (.slice Ao77 t158.length co77)).setCell ⟨gb120, 3, none⟩ (.slice Ao79 t161.length co79)).heap[gb119]? = some (.cells #[.bool t144, .slice Ao68 t145.length co68, .slice Ao70 t148.length co70, .slice Ao72 t151.length co72] 26 (0, 0))) := ⟨by (with_reducible repeat (first | refine blk_drewN ?_ _ | refine blk_drew ?_ | refine blk_alloc ?_ _)); refine blk_far ?_ NB119_120.out _; (with_reducible repeat (first | refine blk_drewN ?_ _ | refine blk_drew ?_ | refine blk_alloc ?_ _)); refine blk_far ?_ NB119_120.out _; (with_reducible repeat (first | refine blk_drewN ?_ _ | refine blk_drew ?_ | refine blk_alloc ?_ _)); refine blk_far ?_ NB119_120.out _; (with_reducible repeat (first | refine blk_drewN ?_ _ | refine blk_drew ?_ | refine blk_alloc ?_ _)); refine blk_far ?_ NB119_120.out _; (with_reducible repeat (first | refine blk_drewN ?_ _ | refine blk_drew ?_ | refine blk_alloc ?_ _)); refine blk_put (cs := #[.bool t144, .slice Ao68 t145.length co68, .slice Ao70 t148.length co70, .slice none 0 0]) ?_ 3 _ rfl; (with_reducible repeat (first | refine blk_drewN ?_ _ | refine blk_drew ?_ | refine blk_alloc ?_ _)); refine blk_put (cs := #[.bool t144, .slice Ao68 t145.length co68, .slice none 0 0, .slice none 0 0]) ?_ 2 _ rfl; (with_reducible repeat (first | refine blk_drewN ?_ _ | refine blk_drew ?_ | refine blk_alloc ?_ _)); refine blk_put (cs := #[.bool t144, .slice none 0 0, .slice none 0 0, .slice none 0 0]) ?_ 1 _ rfl; (with_reducible repeat (first | refine blk_drewN ?_ _ | refine blk_drew ?_ | refine blk_alloc ?_ _)); refine blk_put (cs := #[.bool false, .slice none 0 0, .slice none 0 0, .slice none 0 0]) ?_ 0 _ rfl; (with_reducible repeat (first | refine blk_drewN ?_ _ | refine blk_drew ?_ | refine blk_alloc ?_ _)); exact BK119.out⟩
            have n8_ : Aside0 (((((((((w66.setCell ⟨gb119, 0, none⟩ (.bool t144)).setCell ⟨gb119, 1, none⟩ (.slice Ao68 t145.length co68)).setCell ⟨gb119, 2, none⟩ (.slice Ao70 t148.length co70)).setCell ⟨gb119, 3, none⟩ (.slice Ao72 t151.length co72)).setCell ⟨gb120, 0, none⟩ (.bool t154)).setCell ⟨gb120, 1, none⟩ (.slice Ao75 t155.length co75)).setCell ⟨gb120, 2, none⟩ (.slice Ao77 t158.length co77)).setCell ⟨gb120, 3, none⟩ (.slice Ao79 t161.length co79)).heap[gb120]? = some (.cells #[.bool t154, .slice Ao75 t155.length co75, .slice Ao77 t158.length co77, .slice Ao79 t161.length co79] 26 (0, 0))) := ⟨by (with_reducible repeat (first | refine blk_drewN ?_ _ | refine blk_drew ?_ | refine blk_alloc ?_ _)); refine blk_put (cs := #[.bool t154, .slice Ao75 t155.length co75, .slice Ao77 t158.length co77, .slice none 0 0]) ?_ 3 _ rfl; (with_reducible repeat (first | refine blk_drewN ?_ _ | refine blk_drew ?_ | refine blk_alloc ?_ _)); refine blk_put (cs := #[.bool t154, .slice Ao75 t155.length co75, .slice none 0 0, .slice none 0 0]) ?_ 2 _ rfl; (with_reducible repeat (first | refine blk_drewN ?_ _ | refine blk_drew ?_ | refine blk_alloc ?_ _)); refine blk_put (cs := #[.bool t154, .slice none 0 0, .slice none 0 0, .slice none 0 0]) ?_ 1 _ rfl; (with_reducible repeat (first | refine blk_drewN ?_ _ | refine blk_drew ?_ | refine blk_alloc ?_ _)); refine blk_put (cs := #[.bool false, .slice none 0 0, .slice none 0 0, .slice none 0 0]) ?_ 0 _ rfl; (with_reducible repeat (first | refine blk_drewN ?_ _ | refine blk_drew ?_ | refine blk_alloc ?_ _)); refine blk_far ?_ NB120_119.out _; (with_reducible repeat (first | refine blk_drewN ?_ _ | refine blk_drew ?_ | refine blk_alloc ?_ _)); refine blk_far ?_ NB120_119.out _; (with_reducible repeat (first | refine blk_drewN ?_ _ | refine blk_drew ?_ | refine blk_alloc ?_ _)); refine blk_far ?_ NB120_119.out _; (with_reducible repeat (first | refine blk_drewN ?_ _ | refine blk_drew ?_ | refine blk_alloc ?_ _)); refine blk_far ?_ NB120_119.out _; (with_reducible repeat (first | refine blk_drewN ?_ _ | refine blk_drew ?_ | refine blk_alloc ?_ _)); exact BK120.out⟩
            have n9_ : Aside0 (Below w.heap.size w ((((((((w66.setCell ⟨gb119, 0, none⟩ (.bool t144)).setCell ⟨gb119, 1, none⟩ (.slice Ao68 t145.length co68)).setCell ⟨gb119, 2, none⟩ (.slice Ao70 t148.length co70)).setCell ⟨gb119, 3, none⟩ (.slice Ao72 t151.length co72)).setCell ⟨gb120, 0, none⟩ (.bool t154)).setCell ⟨gb120, 1, none⟩ (.slice Ao75 t155.length co75)).setCell ⟨gb120, 2, none⟩ (.slice Ao77 t158.length co77)).setCell ⟨gb120, 3, none⟩ (.slice Ao79 t161.length co79))) := ⟨by repeat (first | (with_reducible first | exact HB.out | apply below_alloc | apply pw_below_drewN | apply below_drew1 | refine below_set ?_ GE118.out | refine below_set ?_ GE119.out | refine below_set ?_ GE120.out) | exact HB.out)⟩
            (try clear HO147)
            (try clear HO150)
            (try clear HO153)
            (try clear HO157)
            (try clear HO160)
            (try clear HO163)
            (try clear BK118)
            (try clear BK119)
            (try clear BK120)
            (try clear HB)
            generalize ((((((((w66.setCell ⟨gb119, 0, none⟩ (.bool t144)).setCell ⟨gb119, 1, none⟩ (.slice Ao68 t145.length co68)).setCell ⟨gb119, 2, none⟩ (.slice Ao70 t148.length co70)).setCell ⟨gb119, 3, none⟩ (.slice Ao72 t151.length co72)).setCell ⟨gb120, 0, none⟩ (.bool t154)).setCell ⟨gb120, 1, none⟩ (.slice Ao75 t155.length co75)).setCell ⟨gb120, 2, none⟩ (.slice Ao77 t158.length co77)).setCell ⟨gb120, 3, none⟩ (.slice Ao79 t161.length co79)) = w84 at n0_ n1_ n2_ n3_ n4_ n5_ n6_ n7_ n8_ n9_ ⊢
            have HO147 := n0_
            have HO150 := n1_
            have HO153 := n2_
            have HO157 := n3_
            have HO160 := n4_
            have HO163 := n5_
            have BK118 := n6_
            have BK119 := n7_
            have BK120 := n8_
            have HB := n9_
            clear n0_ n1_ n2_ n3_ n4_ n5_ n6_ n7_ n8_ n9_
            have n0_ := Aside0.mk (Kd.R_drew HO147.out)
            have n1_ := Aside0.mk (Kd.R_drew HO150.out)
            have n2_ := Aside0.mk (Kd.R_drew HO153.out)
            have n3_ := Aside0.mk (Kd.R_drew HO157.out)
            have n4_ := Aside0.mk (Kd.R_drew HO160.out)
            have n5_ := Aside0.mk (Kd.R_drew HO163.out)
            have n6_ := Aside0.mk (blk_drew BK118.out)
            have n7_ := Aside0.mk (blk_drew BK119.out)
            have n8_ := Aside0.mk (blk_drew BK120.out)
            have n9_ := Aside0.mk (below_drew1 HB.out)
            clear HO147
            clear HO150
            clear HO153
            clear HO157
            clear HO160
            clear HO163
            clear BK118
            clear BK119
            clear BK120
            clear HB
            have HO147 := n0_
            have HO150 := n1_
            have HO153 := n2_
            have HO157 := n3_
            have HO160 := n4_
            have HO163 := n5_
            have BK118 := n6_
            have BK119 := n7_
            have BK120 := n8_
            have HB := n9_
            clear n0_ n1_ n2_ n3_ n4_ n5_ n6_ n7_ n8_ n9_
            have p164 : 0 ≤ (x8_3 : Int) := of_decide_eq_true (by first | (with_reducible assumption) | assumption)
            have q164 : x8_3 < (l0_1.length : Int) := of_decide_eq_true (by first | (with_reducible assumption) | assumption)
            obtain ⟨ad164, e164, hx164_0, hx164_1, hx164_2, hx164_3⟩ := at_T43 HR0_1.out x8_3 p164 q164
            have hw164_3 := hx164_3
            have hw164_2 := hx164_2
            have hw164_1 := hx164_1
            have hw164_0 := hx164_0
            cases e164
            replace hx164_0 := (HB.out.cell (World.block_lt_of_cell? w _ hx164_0)).trans hx164_0
            replace hx164_1 := (HB.out.cell (World.block_lt_of_cell? w _ hx164_1)).trans hx164_1
            replace hx164_2 := (HB.out.cell (World.block_lt_of_cell? w _ hx164_2)).trans hx164_2
            replace hx164_3 := (HB.out.cell (World.block_lt_of_cell? w _ hx164_3)).trans hx164_3
            replace p164 := eq_true p164
            replace q164 := eq_true q164
            refine start_ (n := 12) (S := fun w' => w'.cell? ⟨gb119, 0, none⟩ = some (.bool t144) ∧ w'.cell? ⟨gb119, 1, none⟩ = some (.slice Ao68 t145.length co68) ∧ w'.cell? ⟨gb119, 2, none⟩ = some (.slice Ao70 t148.length co70) ∧ w'.cell? ⟨gb119, 3, none⟩ = some (.slice Ao72 t151.length co72) ∧ w'.cell? ⟨gb120, 0, none⟩ = some (.bool t154) ∧ w'.cell? ⟨gb120, 1, none⟩ = some (.slice Ao75 t155.length co75) ∧ w'.cell? ⟨gb120, 2, none⟩ = some (.slice Ao77 t158.length co77) ∧ w'.cell? ⟨gb120, 3, none⟩ = some (.slice Ao79 t161.length co79) ∧ w'.cell? ⟨gb118, 0, none⟩ = some (.bool true) ∧ w'.cell? ⟨gb118, 1, none⟩ = some (.slice (some ad164) l0_1.length c0_1) ∧ w'.cell? ⟨gb118, 2, none⟩ = some (.slice A0_2 l0_2.length c0_2) ∧ w'.cell? ⟨gb118, 3, none⟩ = some (.slice A0_3 l0_3.length c0_3) ∧ w'.cell? (ad164.add ((x8_3).toNat * 4)) = some (.string ((rd_T43 l0_1 x8_3).f0)) ∧ w'.cell? ⟨(ad164.add ((x8_3).toNat * 4)).block, (ad164.add ((x8_3).toNat * 4)).off + 1, none⟩ = some (.string ((rd_T43 l0_1 x8_3).f1)) ∧ w'.cell? ⟨(ad164.add ((x8_3).toNat * 4)).block, (ad164.add ((x8_3).toNat * 4)).off + 2, none⟩ = some (.int .i64 ((rd_T43 l0_1 x8_3).f2)) ∧ w'.cell? ⟨(ad164.add ((x8_3).toNat * 4)).block, (ad164.add ((x8_3).toNat * 4)).off + 3, none⟩ = some (.int .i64 ((rd_T43 l0_1 x8_3).f3))) (ds := []) #[false, false, false, false, false, false, false, false, false, false, false, false] (by kernel_rfl) rfl rfl ⟨(blk_cell BK119.out 0).trans rfl, (blk_cell BK119.out 1).trans rfl, (blk_cell BK119.out 2).trans rfl, (blk_cell BK119.out 3).trans rfl, (blk_cell BK120.out 0).trans rfl, (blk_cell BK120.out 1).trans rfl, (blk_cell BK120.out 2).trans rfl, (blk_cell BK120.out 3).trans rfl, (blk_cell BK118.out 0).trans rfl, (blk_cell BK118.out 1).trans rfl, (blk_cell BK118.out 2).trans rfl, (blk_cell BK118.out 3).trans rfl, ((HB.out.cell (World.block_lt_of_cell? w _ hw164_0)).trans hw164_0), ((HB.out.cell (World.block_lt_of_cell? w _ hw164_1)).trans hw164_1), ((HB.out.cell (World.block_lt_of_cell? w _ hw164_2)).trans hw164_2), ((HB.out.cell (World.block_lt_of_cell? w _ hw164_3)).trans hw164_3)⟩ (fun hHeld => ?_); refine with_tabW slot_Split.tab15 slot_Split.bits15 (fun HT_ HW_ => ?_)
            generalize w84.drew = w85 at HO147 HO150 HO153 HO157 HO160 HO163 BK118 BK119 BK120 HB hx164_0 hx164_1 hx164_2 hx164_3 hHeld ⊢
            refine pure_ (i := 2) (N := some 69) (v := ?_) (a' := ?_) #[false, false, true, false, false, false, false, false, false, false, false, false] rfl rfl (any_of HT_.out (by kernel_rfl)) (fun _ _ _ h => h) (Or.inl ⟨by rfl, ?_⟩) ?_ ?_
            rotate_left
            ·intro w'
             go_simp
             with_reducible rfl
            rotate_left
            ·simp only [Act.put, List.setIfInBounds_toArray, List.set_cons_zero, List.set_cons_succ, i64_w, i32_w]
             rfl
            refine pure_ (i := 4) (N := some 71) (v := ?_) (a' := ?_) #[false, false, true, false, true, false, false, false, false, false, false, false] rfl rfl (any_of HT_.out (by kernel_rfl)) (fun _ _ _ h => h) (Or.inl ⟨by rfl, ?_⟩) ?_ ?_
            rotate_left
            ·intro w'
             go_simp
             with_reducible rfl
            rotate_left
            ·simp only [Act.put, List.setIfInBounds_toArray, List.set_cons_zero, List.set_cons_succ, i64_w, i32_w]
             rfl
            refine take_ (i := 0) (N := some 67) (v := ?_) (a' := ?_) #[true, false, true, false, true, false, false, false, false, false, false, false] rfl rfl (take_ofW HT_.out HW_.out (by kernel_rfl)) (fun _ _ _ h => h) (Or.inl ⟨by rfl, ?_⟩) hHeld ?_ ?_
            rotate_left
            ·rintro w' ⟨s0, s1, s2, s3, s4, s5, s6, s7, s8, s9, s10, s11, s12, s13, s14, s15⟩
             go_simp
             with_reducible rfl
            rotate_left
            ·simp only [Act.put, List.setIfInBounds_toArray, List.set_cons_zero, List.set_cons_succ, i64_w, i32_w]
             rfl
            refine take_ (i := 1) (N := some 68) (v := ?_) (a' := ?_) #[true, true, true, false, true, false, false, false, false, false, false, false] rfl rfl (take_ofW HT_.out HW_.out (by kernel_rfl)) (fun _ _ _ h => h) (Or.inl ⟨by rfl, ?_⟩) hHeld ?_ ?_
            rotate_left
            ·rintro w' ⟨s0, s1, s2, s3, s4, s5, s6, s7, s8, s9, s10, s11, s12, s13, s14, s15⟩
             go_simp
             with_reducible rfl
            rotate_left
            ·simp only [Act.put, List.setIfInBounds_toArray, List.set_cons_zero, List.set_cons_succ, i64_w, i32_w]
             rfl
            refine take_ (i := 3) (N := some 70) (v := ?_) (a' := ?_) #[true, true, true, true, true, false, false, false, false, false, false, false] rfl rfl (take_ofW HT_.out HW_.out (by kernel_rfl)) (fun _ _ _ h => h) (Or.inl ⟨by rfl, ?_⟩) hHeld ?_ ?_
            rotate_left
            ·rintro w' ⟨s0, s1, s2, s3, s4, s5, s6, s7, s8, s9, s10, s11, s12, s13, s14, s15⟩
             go_simp
             with_reducible rfl
            rotate_left
            ·simp only [Act.put, List.setIfInBounds_toArray, List.set_cons_zero, List.set_cons_succ, i64_w, i32_w]
             rfl
            refine pure_ (i := 5) (N := some 72) (v := ?_) (a' := ?_) #[true, true, true, true, true, true, false, false, false, false, false, false] rfl rfl (any_of HT_.out (by kernel_rfl)) (fun _ _ _ h => h) (Or.inl ⟨by rfl, ?_⟩) ?_ ?_
            rotate_left
            ·intro w'
             go_simp
             with_reducible rfl
            rotate_left
            ·simp only [Act.put, List.setIfInBounds_toArray, List.set_cons_zero, List.set_cons_succ, i64_w, i32_w]
             rfl
            refine pure_ (i := 6) (N := some 73) (v := ?_) (a' := ?_) #[true, true, true, true, true, true, true, false, false, false, false, false] rfl rfl (any_of HT_.out (by kernel_rfl)) (fun _ _ _ h => h) (Or.inl ⟨by rfl, ?_⟩) ?_ ?_
            rotate_left
            ·intro w'
             go_simp
             with_reducible rfl
            rotate_left
            ·simp only [Act.put, List.setIfInBounds_toArray, List.set_cons_zero, List.set_cons_succ, i64_w, i32_w]
             rfl
            refine take_ (i := 7) (N := some 74) (v := ?_) (a' := ?_) #[true, true, true, true, true, true, true, true, false, false, false, false] rfl rfl (take_ofW HT_.out HW_.out (by kernel_rfl)) (fun _ _ _ h => h) (Or.inl ⟨by rfl, ?_⟩) hHeld ?_ ?_
            rotate_left
            ·rintro w' ⟨s0, s1, s2, s3, s4, s5, s6, s7, s8, s9, s10, s11, s12, s13, s14, s15⟩
             go_simp
             with_reducible rfl
            rotate_left
            ·simp only [Act.put, List.setIfInBounds_toArray, List.set_cons_zero, List.set_cons_succ, i64_w, i32_w]
             rfl
            refine one_ (i := 8) (N := none) #[true, true, true, true, true, true, true, true, true, false, false, false] rfl rfl (one_of HT_.out (by kernel_rfl)) (by decide) (fun K hK => ?_)
            have hs86 : w85.cell? ⟨gb119, 0, none⟩ = some (.bool t144) := (blk_cell BK119.out 0).trans rfl
            have hfs86 := blk_frozen BK119.out 0
            have hns86_0 := NB118_119.out
            have hns86_2 := NB120_119.out
            have hms86_0 := NB119_118.out
            have hms86_2 := NB119_120.out
            have hs87 : w85.cell? ⟨gb119, 1, none⟩ = some (.slice Ao68 t145.length co68) := (blk_cell BK119.out 1).trans rfl
            have hfs87 := blk_frozen BK119.out 1
            have hns87_0 := NB118_119.out
            have hns87_2 := NB120_119.out
            have hms87_0 := NB119_118.out
            have hms87_2 := NB119_120.out
            have hs88 : w85.cell? ⟨gb119, 2, none⟩ = some (.slice Ao70 t148.length co70) := (blk_cell BK119.out 2).trans rfl
            have hfs88 := blk_frozen BK119.out 2
            have hns88_0 := NB118_119.out
            have hns88_2 := NB120_119.out
            have hms88_0 := NB119_118.out
            have hms88_2 := NB119_120.out
            have hs89 : w85.cell? ⟨gb119, 3, none⟩ = some (.slice Ao72 t151.length co72) := (blk_cell BK119.out 3).trans rfl
            have hfs89 := blk_frozen BK119.out 3
            have hns89_0 := NB118_119.out
            have hns89_2 := NB120_119.out
            have hms89_0 := NB119_118.out
            have hms89_2 := NB119_120.out
            refine skip_ (w1 := ?_) (by rfl) rfl ?_ ?_
            rotate_left
            ·go_simp
             rfl
            refine hK.out _ _ ⟨(Aid.same4 (hHeld.1) (hHeld.2.1) (hHeld.2.2.1) (hHeld.2.2.2.1) _).trans (hHeld.1), (Aid.same4 (hHeld.1) (hHeld.2.1) (hHeld.2.2.1) (hHeld.2.2.2.1) _).trans (hHeld.2.1), (Aid.same4 (hHeld.1) (hHeld.2.1) (hHeld.2.2.1) (hHeld.2.2.2.1) _).trans (hHeld.2.2.1), (Aid.same4 (hHeld.1) (hHeld.2.1) (hHeld.2.2.1) (hHeld.2.2.2.1) _).trans (hHeld.2.2.2.1), (Aid.same4 (hHeld.1) (hHeld.2.1) (hHeld.2.2.1) (hHeld.2.2.2.1) _).trans (hHeld.2.2.2.2.1), (Aid.same4 (hHeld.1) (hHeld.2.1) (hHeld.2.2.1) (hHeld.2.2.2.1) _).trans (hHeld.2.2.2.2.2.1), (Aid.same4 (hHeld.1) (hHeld.2.1) (hHeld.2.2.1) (hHeld.2.2.2.1) _).trans (hHeld.2.2.2.2.2.2.1), (Aid.same4 (hHeld.1) (hHeld.2.1) (hHeld.2.2.1) (hHeld.2.2.2.1) _).trans (hHeld.2.2.2.2.2.2.2.1), (Aid.same4 (hHeld.1) (hHeld.2.1) (hHeld.2.2.1) (hHeld.2.2.2.1) _).trans (hHeld.2.2.2.2.2.2.2.2.1), (Aid.same4 (hHeld.1) (hHeld.2.1) (hHeld.2.2.1) (hHeld.2.2.2.1) _).trans (hHeld.2.2.2.2.2.2.2.2.2.1), (Aid.same4 (hHeld.1) (hHeld.2.1) (hHeld.2.2.1) (hHeld.2.2.2.1) _).trans (hHeld.2.2.2.2.2.2.2.2.2.2.1), (Aid.same4 (hHeld.1) (hHeld.2.1) (hHeld.2.2.1) (hHeld.2.2.2.1) _).trans (hHeld.2.2.2.2.2.2.2.2.2.2.2.1), (Aid.same4 (hHeld.1) (hHeld.2.1) (hHeld.2.2.1) (hHeld.2.2.2.1) _).trans (hHeld.2.2.2.2.2.2.2.2.2.2.2.2.1), (Aid.same4 (hHeld.1) (hHeld.2.1) (hHeld.2.2.1) (hHeld.2.2.2.1) _).trans (hHeld.2.2.2.2.2.2.2.2.2.2.2.2.2.1), (Aid.same4 (hHeld.1) (hHeld.2.1) (hHeld.2.2.1) (hHeld.2.2.2.1) _).trans (hHeld.2.2.2.2.2.2.2.2.2.2.2.2.2.2.1), (Aid.same4 (hHeld.1) (hHeld.2.1) (hHeld.2.2.1) (hHeld.2.2.2.1) _).trans (hHeld.2.2.2.2.2.2.2.2.2.2.2.2.2.2.2)⟩ (fun hHeld => ?_)
            clear hK K
            refine one_ (i := 9) (N := none) #[true, true, true, true, true, true, true, true, true, true, false, false] rfl rfl (one_of HT_.out (by kernel_rfl)) (by decide) (fun K hK => ?_)
            have hs90 : w85.cell? ⟨gb120, 0, none⟩ = some (.bool t154) := (blk_cell BK120.out 0).trans rfl
            have hfs90 := blk_frozen BK120.out 0
            have hns90_0 := NB118_120.out
            have hns90_1 := NB119_120.out
            have hms90_0 := NB120_118.out
            have hms90_1 := NB120_119.out
            have hs91 : w85.cell? ⟨gb120, 1, none⟩ = some (.slice Ao75 t155.length co75) := (blk_cell BK120.out 1).trans rfl
            have hfs91 := blk_frozen BK120.out 1
            have hns91_0 := NB118_120.out
            have hns91_1 := NB119_120.out
            have hms91_0 := NB120_118.out
            have hms91_1 := NB120_119.out
            have hs92 : w85.cell? ⟨gb120, 2, none⟩ = some (.slice Ao77 t158.length co77) := (blk_cell BK120.out 2).trans rfl
            have hfs92 := blk_frozen BK120.out 2
            have hns92_0 := NB118_120.out
            have hns92_1 := NB119_120.out
            have hms92_0 := NB120_118.out
            have hms92_1 := NB120_119.out
            have hs93 : w85.cell? ⟨gb120, 3, none⟩ = some (.slice Ao79 t161.length co79) := (blk_cell BK120.out 3).trans rfl
            have hfs93 := blk_frozen BK120.out 3
            have hns93_0 := NB118_120.out
            have hns93_1 := NB119_120.out
            have hms93_0 := NB120_118.out
            have hms93_1 := NB120_119.out
            refine skip_ (w1 := ?_) (by rfl) rfl ?_ ?_
            rotate_left
            ·go_simp
             rfl
            refine hK.out _ _ ⟨(Aid.same4 (hHeld.2.2.2.2.1) (hHeld.2.2.2.2.2.1) (hHeld.2.2.2.2.2.2.1) (hHeld.2.2.2.2.2.2.2.1) _).trans (hHeld.1), (Aid.same4 (hHeld.2.2.2.2.1) (hHeld.2.2.2.2.2.1) (hHeld.2.2.2.2.2.2.1) (hHeld.2.2.2.2.2.2.2.1) _).trans (hHeld.2.1), (Aid.same4 (hHeld.2.2.2.2.1) (hHeld.2.2.2.2.2.1) (hHeld.2.2.2.2.2.2.1) (hHeld.2.2.2.2.2.2.2.1) _).trans (hHeld.2.2.1), (Aid.same4 (hHeld.2.2.2.2.1) (hHeld.2.2.2.2.2.1) (hHeld.2.2.2.2.2.2.1) (hHeld.2.2.2.2.2.2.2.1) _).trans (hHeld.2.2.2.1), (Aid.same4 (hHeld.2.2.2.2.1) (hHeld.2.2.2.2.2.1) (hHeld.2.2.2.2.2.2.1) (hHeld.2.2.2.2.2.2.2.1) _).trans (hHeld.2.2.2.2.1), (Aid.same4 (hHeld.2.2.2.2.1) (hHeld.2.2.2.2.2.1) (hHeld.2.2.2.2.2.2.1) (hHeld.2.2.2.2.2.2.2.1) _).trans (hHeld.2.2.2.2.2.1), (Aid.same4 (hHeld.2.2.2.2.1) (hHeld.2.2.2.2.2.1) (hHeld.2.2.2.2.2.2.1) (hHeld.2.2.2.2.2.2.2.1) _).trans (hHeld.2.2.2.2.2.2.1), (Aid.same4 (hHeld.2.2.2.2.1) (hHeld.2.2.2.2.2.1) (hHeld.2.2.2.2.2.2.1) (hHeld.2.2.2.2.2.2.2.1) _).trans (hHeld.2.2.2.2.2.2.2.1), (Aid.same4 (hHeld.2.2.2.2.1) (hHeld.2.2.2.2.2.1) (hHeld.2.2.2.2.2.2.1) (hHeld.2.2.2.2.2.2.2.1) _).trans (hHeld.2.2.2.2.2.2.2.2.1), (Aid.same4 (hHeld.2.2.2.2.1) (hHeld.2.2.2.2.2.1) (hHeld.2.2.2.2.2.2.1) (hHeld.2.2.2.2.2.2.2.1) _).trans (hHeld.2.2.2.2.2.2.2.2.2.1), (Aid.same4 (hHeld.2.2.2.2.1) (hHeld.2.2.2.2.2.1) (hHeld.2.2.2.2.2.2.1) (hHeld.2.2.2.2.2.2.2.1) _).trans (hHeld.2.2.2.2.2.2.2.2.2.2.1), (Aid.same4 (hHeld.2.2.2.2.1) (hHeld.2.2.2.2.2.1) (hHeld.2.2.2.2.2.2.1) (hHeld.2.2.2.2.2.2.2.1) _).trans (hHeld.2.2.2.2.2.2.2.2.2.2.2.1), (Aid.same4 (hHeld.2.2.2.2.1) (hHeld.2.2.2.2.2.1) (hHeld.2.2.2.2.2.2.1) (hHeld.2.2.2.2.2.2.2.1) _).trans (hHeld.2.2.2.2.2.2.2.2.2.2.2.2.1), (Aid.same4 (hHeld.2.2.2.2.1) (hHeld.2.2.2.2.2.1) (hHeld.2.2.2.2.2.2.1) (hHeld.2.2.2.2.2.2.2.1) _).trans (hHeld.2.2.2.2.2.2.2.2.2.2.2.2.2.1), (Aid.same4 (hHeld.2.2.2.2.1) (hHeld.2.2.2.2.2.1) (hHeld.2.2.2.2.2.2.1) (hHeld.2.2.2.2.2.2.2.1) _).trans (hHeld.2.2.2.2.2.2.2.2.2.2.2.2.2.2.1), (Aid.same4 (hHeld.2.2.2.2.1) (hHeld.2.2.2.2.2.1) (hHeld.2.2.2.2.2.2.1) (hHeld.2.2.2.2.2.2.2.1) _).trans (hHeld.2.2.2.2.2.2.2.2.2.2.2.2.2.2.2)⟩ (fun hHeld => ?_)
            clear hK K
            refine pure_ (i := 10) (N := some 4) (v := ?_) (a' := ?_) #[true, true, true, true, true, true, true, true, true, true, true, false] rfl rfl (any_of HT_.out (by kernel_rfl)) (fun _ _ _ h => h) (Or.inl ⟨by rfl, ?_⟩) ?_ ?_
            rotate_left
            ·intro w'
             go_simp
             with_reducible rfl
            rotate_left
            ·simp only [Act.put, List.setIfInBounds_toArray, List.set_cons_zero, List.set_cons_succ, i64_w, i32_w]
             rfl
            refine pure_ (i := 11) (N := some 5) (v := ?_) (a' := ?_) #[true, true, true, true, true, true, true, true, true, true, true, true] rfl rfl (any_of HT_.out (by kernel_rfl)) (fun _ _ _ h => h) (Or.inl ⟨by rfl, ?_⟩) ?_ ?_
            rotate_left
            ·intro w'
             go_simp
             with_reducible rfl
            rotate_left
            ·simp only [Act.put, List.setIfInBounds_toArray, List.set_cons_zero, List.set_cons_succ, i64_w, i32_w]
             rfl
            refine done_ (done_of HT_.out (by kernel_rfl)) ?_
            try go_wp2
            refine bodyPost_ret (results_list (rs := [.cell 2 26, .cell 3 26, .tmp 4, .tmp 5]) rfl (by simp) (.cell gb119 26 #[.bool t144, .slice Ao68 t145.length co68, .slice Ao70 t148.length co70, .slice Ao72 t151.length co72] (0, 0) _ rfl (by (with_reducible repeat (first | refine blk_drewN ?_ _ | refine blk_drew ?_ | refine blk_alloc ?_ _)); refine blk_far ?_ NB119_120.out _; (with_reducible repeat (first | refine blk_drewN ?_ _ | refine blk_drew ?_ | refine blk_alloc ?_ _)); refine blk_far ?_ NB119_120.out _; (with_reducible repeat (first | refine blk_drewN ?_ _ | refine blk_drew ?_ | refine blk_alloc ?_ _)); refine blk_far ?_ NB119_120.out _; (with_reducible repeat (first | refine blk_drewN ?_ _ | refine blk_drew ?_ | refine blk_alloc ?_ _)); refine blk_far ?_ NB119_120.out _; (with_reducible repeat (first | refine blk_drewN ?_ _ | refine blk_drew ?_ | refine blk_alloc ?_ _)); refine blk_put (cs := #[.bool t144, .slice Ao68 t145.length co68, .slice Ao70 t148.length co70, .slice Ao72 t151.length co72]) ?_ 3 _ rfl; (with_reducible repeat (first | refine blk_drewN ?_ _ | refine blk_drew ?_ | refine blk_alloc ?_ _)); refine blk_put (cs := #[.bool t144, .slice Ao68 t145.length co68, .slice Ao70 t148.length co70, .slice Ao72 t151.length co72]) ?_ 2 _ rfl; (with_reducible repeat (first | refine blk_drewN ?_ _ | refine blk_drew ?_ | refine blk_alloc ?_ _)); refine blk_put (cs := #[.bool t144, .slice Ao68 t145.length co68, .slice Ao70 t148.length co70, .slice Ao72 t151.length co72]) ?_ 1 _ rfl; (with_reducible repeat (first | refine blk_drewN ?_ _ | refine blk_drew ?_ | refine blk_alloc ?_ _)); refine blk_put (cs := #[.bool t144, .slice Ao68 t145.length co68, .slice Ao70 t148.length co70, .slice Ao72 t151.length co72]) ?_ 0 _ rfl; (with_reducible repeat (first | refine blk_drewN ?_ _ | refine blk_drew ?_ | refine blk_alloc ?_ _)); exact BK119.out) Try.underlying26 rfl (by kernel_rfl) (.cell gb120 26 #[.bool t154, .slice Ao75 t155.length co75, .slice Ao77 t158.length co77, .slice Ao79 t161.length co79] (0, 0) _ rfl (by (with_reducible repeat (first | refine blk_drewN ?_ _ | refine blk_drew ?_ | refine blk_alloc ?_ _)); refine blk_put (cs := #[.bool t154, .slice Ao75 t155.length co75, .slice Ao77 t158.length co77, .slice Ao79 t161.length co79]) ?_ 3 _ rfl; (with_reducible repeat (first | refine blk_drewN ?_ _ | refine blk_drew ?_ | refine blk_alloc ?_ _)); refine blk_put (cs := #[.bool t154, .slice Ao75 t155.length co75, .slice Ao77 t158.length co77, .slice Ao79 t161.length co79]) ?_ 2 _ rfl; (with_reducible repeat (first | refine blk_drewN ?_ _ | refine blk_drew ?_ | refine blk_alloc ?_ _)); refine blk_put (cs := #[.bool t154, .slice Ao75 t155.length co75, .slice Ao77 t158.length co77, .slice Ao79 t161.length co79]) ?_ 1 _ rfl; (with_reducible repeat (first | refine blk_drewN ?_ _ | refine blk_drew ?_ | refine blk_alloc ?_ _)); refine blk_put (cs := #[.bool t154, .slice Ao75 t155.length co75, .slice Ao77 t158.length co77, .slice Ao79 t161.length co79]) ?_ 0 _ rfl; (with_reducible repeat (first | refine blk_drewN ?_ _ | refine blk_drew ?_ | refine blk_alloc ?_ _)); refine blk_far ?_ NB120_119.out _; (with_reducible repeat (first | refine blk_drewN ?_ _ | refine blk_drew ?_ | refine blk_alloc ?_ _)); refine blk_far ?_ NB120_119.out _; (with_reducible repeat (first | refine blk_drewN ?_ _ | refine blk_drew ?_ | refine blk_alloc ?_ _)); refine blk_far ?_ NB120_119.out _; (with_reducible repeat (first | refine blk_drewN ?_ _ | refine blk_drew ?_ | refine blk_alloc ?_ _)); refine blk_far ?_ NB120_119.out _; (with_reducible repeat (first | refine blk_drewN ?_ _ | refine blk_drew ?_ | refine blk_alloc ?_ _)); exact BK120.out) Try.underlying26 rfl (by kernel_rfl) (.tmp (.tmp .nil))))) rfl ?_
            exact ⟨_, _, _, _, _, _, by first | rfl | (simp [errW_none, errW_some] <;> rfl) | (simp [*, errW_none, errW_some] <;> rfl), by (with_reducible repeat (first | apply Kd.R_alloc | apply Kd.R_drewN | apply Kd.R_drew)); exact Kd.R_mono (Kd.R_far (p := ⟨gb120, 3, none⟩) (Kd.R_far (p := ⟨gb120, 2, none⟩) (Kd.R_far (p := ⟨gb120, 1, none⟩) (Kd.R_far (p := ⟨gb120, 0, none⟩) (Kd.R_far (p := ⟨gb119, 3, none⟩) (Kd.R_far (p := ⟨gb119, 2, none⟩) (Kd.R_far (p := ⟨gb119, 1, none⟩) (Kd.R_far (p := ⟨gb119, 0, none⟩) (Kd.R_types (Kd.R_types HO147.out BK119.out (by decide)) BK120.out (by decide)) (fun _ hk => hk.1.2) (.bool t144)) (fun _ hk => hk.1.2) (.slice Ao68 t145.length co68)) (fun _ hk => hk.1.2) (.slice Ao70 t148.length co70)) (fun _ hk => hk.1.2) (.slice Ao72 t151.length co72)) (fun _ hk => hk.2) (.bool t154)) (fun _ hk => hk.2) (.slice Ao75 t155.length co75)) (fun _ hk => hk.2) (.slice Ao77 t158.length co77)) (fun _ hk => hk.2) (.slice Ao79 t161.length co79)) (fun _ hk => hk.1.1), by (with_reducible repeat (first | apply Kd.R_alloc | apply Kd.R_drewN | apply Kd.R_drew)); exact Kd.R_mono (Kd.R_far (p := ⟨gb120, 3, none⟩) (Kd.R_far (p := ⟨gb120, 2, none⟩) (Kd.R_far (p := ⟨gb120, 1, none⟩) (Kd.R_far (p := ⟨gb120, 0, none⟩) (Kd.R_far (p := ⟨gb119, 3, none⟩) (Kd.R_far (p := ⟨gb119, 2, none⟩) (Kd.R_far (p := ⟨gb119, 1, none⟩) (Kd.R_far (p := ⟨gb119, 0, none⟩) (Kd.R_types (Kd.R_types HO150.out BK119.out (by decide)) BK120.out (by decide)) (fun _ hk => hk.1.2) (.bool t144)) (fun _ hk => hk.1.2) (.slice Ao68 t145.length co68)) (fun _ hk => hk.1.2) (.slice Ao70 t148.length co70)) (fun _ hk => hk.1.2) (.slice Ao72 t151.length co72)) (fun _ hk => hk.2) (.bool t154)) (fun _ hk => hk.2) (.slice Ao75 t155.length co75)) (fun _ hk => hk.2) (.slice Ao77 t158.length co77)) (fun _ hk => hk.2) (.slice Ao79 t161.length co79)) (fun _ hk => hk.1.1), by (with_reducible repeat (first | apply Kd.R_alloc | apply Kd.R_drewN | apply Kd.R_drew)); exact Kd.R_mono (Kd.R_far (p := ⟨gb120, 3, none⟩) (Kd.R_far (p := ⟨gb120, 2, none⟩) (Kd.R_far (p := ⟨gb120, 1, none⟩) (Kd.R_far (p := ⟨gb120, 0, none⟩) (Kd.R_far (p := ⟨gb119, 3, none⟩) (Kd.R_far (p := ⟨gb119, 2, none⟩) (Kd.R_far (p := ⟨gb119, 1, none⟩) (Kd.R_far (p := ⟨gb119, 0, none⟩) (Kd.R_types (Kd.R_types HO153.out BK119.out (by decide)) BK120.out (by decide)) (fun _ hk => hk.1.2) (.bool t144)) (fun _ hk => hk.1.2) (.slice Ao68 t145.length co68)) (fun _ hk => hk.1.2) (.slice Ao70 t148.length co70)) (fun _ hk => hk.1.2) (.slice Ao72 t151.length co72)) (fun _ hk => hk.2) (.bool t154)) (fun _ hk => hk.2) (.slice Ao75 t155.length co75)) (fun _ hk => hk.2) (.slice Ao77 t158.length co77)) (fun _ hk => hk.2) (.slice Ao79 t161.length co79)) (fun _ hk => hk.1.1), by (with_reducible repeat (first | apply Kd.R_alloc | apply Kd.R_drewN | apply Kd.R_drew)); exact Kd.R_mono (Kd.R_far (p := ⟨gb120, 3, none⟩) (Kd.R_far (p := ⟨gb120, 2, none⟩) (Kd.R_far (p := ⟨gb120, 1, none⟩) (Kd.R_far (p := ⟨gb120, 0, none⟩) (Kd.R_far (p := ⟨gb119, 3, none⟩) (Kd.R_far (p := ⟨gb119, 2, none⟩) (Kd.R_far (p := ⟨gb119, 1, none⟩) (Kd.R_far (p := ⟨gb119, 0, none⟩) (Kd.R_types (Kd.R_types HO157.out BK119.out (by decide)) BK120.out (by decide)) (fun _ hk => hk.1.2) (.bool t144)) (fun _ hk => hk.1.2) (.slice Ao68 t145.length co68)) (fun _ hk => hk.1.2) (.slice Ao70 t148.length co70)) (fun _ hk => hk.1.2) (.slice Ao72 t151.length co72)) (fun _ hk => hk.2) (.bool t154)) (fun _ hk => hk.2) (.slice Ao75 t155.length co75)) (fun _ hk => hk.2) (.slice Ao77 t158.length co77)) (fun _ hk => hk.2) (.slice Ao79 t161.length co79)) (fun _ hk => hk.1.1), by (with_reducible repeat (first | apply Kd.R_alloc | apply Kd.R_drewN | apply Kd.R_drew)); exact Kd.R_mono (Kd.R_far (p := ⟨gb120, 3, none⟩) (Kd.R_far (p := ⟨gb120, 2, none⟩) (Kd.R_far (p := ⟨gb120, 1, none⟩) (Kd.R_far (p := ⟨gb120, 0, none⟩) (Kd.R_far (p := ⟨gb119, 3, none⟩) (Kd.R_far (p := ⟨gb119, 2, none⟩) (Kd.R_far (p := ⟨gb119, 1, none⟩) (Kd.R_far (p := ⟨gb119, 0, none⟩) (Kd.R_types (Kd.R_types HO160.out BK119.out (by decide)) BK120.out (by decide)) (fun _ hk => hk.1.2) (.bool t144)) (fun _ hk => hk.1.2) (.slice Ao68 t145.length co68)) (fun _ hk => hk.1.2) (.slice Ao70 t148.length co70)) (fun _ hk => hk.1.2) (.slice Ao72 t151.length co72)) (fun _ hk => hk.2) (.bool t154)) (fun _ hk => hk.2) (.slice Ao75 t155.length co75)) (fun _ hk => hk.2) (.slice Ao77 t158.length co77)) (fun _ hk => hk.2) (.slice Ao79 t161.length co79)) (fun _ hk => hk.1.1), by (with_reducible repeat (first | apply Kd.R_alloc | apply Kd.R_drewN | apply Kd.R_drew)); exact Kd.R_mono (Kd.R_far (p := ⟨gb120, 3, none⟩) (Kd.R_far (p := ⟨gb120, 2, none⟩) (Kd.R_far (p := ⟨gb120, 1, none⟩) (Kd.R_far (p := ⟨gb120, 0, none⟩) (Kd.R_far (p := ⟨gb119, 3, none⟩) (Kd.R_far (p := ⟨gb119, 2, none⟩) (Kd.R_far (p := ⟨gb119, 1, none⟩) (Kd.R_far (p := ⟨gb119, 0, none⟩) (Kd.R_types (Kd.R_types HO163.out BK119.out (by decide)) BK120.out (by decide)) (fun _ hk => hk.1.2) (.bool t144)) (fun _ hk => hk.1.2) (.slice Ao68 t145.length co68)) (fun _ hk => hk.1.2) (.slice Ao70 t148.length co70)) (fun _ hk => hk.1.2) (.slice Ao72 t151.length co72)) (fun _ hk => hk.2) (.bool t154)) (fun _ hk => hk.2) (.slice Ao75 t155.length co75)) (fun _ hk => hk.2) (.slice Ao77 t158.length co77)) (fun _ hk => hk.2) (.slice Ao79 t161.length co79)) (fun _ hk => hk.1.1), by repeat (first | (with_reducible first | exact HB.out | apply below_alloc | apply pw_below_drewN | apply below_drew1 | refine below_set ?_ GE118.out | refine below_set ?_ GE119.out | refine below_set ?_ GE120.out) | exact HB.out)⟩
           ·rw [if_neg c63] at H
            exact absurd H (by simp)
          ·rw [if_neg c62] at H
           exact absurd H (by simp)
         ·replace c61 := Bool.eq_false_iff.mpr c61
          subst c61
          have H1 : (if 0 ≤ x8_3 then (if x8_3 < (l0_2.length : Int) then (some (t144, t145, t148, t151, t154, t155, t158, t161, rdOf ByteArray.empty l0_2 x8_3, 0)) else (none)) else (none)) = some (r1, r2, r3, r4, r5, r6, r7, r8, r9, r10) := by rw [if_neg (show ¬ (false = true) by decide)] at H; exact H
          clear H
          have H := H1
          clear H1
          by_cases c94 : 0 ≤ x8_3
          ·rw [if_pos c94] at H
           have c94b0 : decide (0 ≤ x8_3) = true := decide_eq_true c94
           clear c94
           by_cases c95 : x8_3 < (l0_2.length : Int)
           ·rw [if_pos c95] at H
            have c95b0 : decide (x8_3 < (l0_2.length : Int)) = true := decide_eq_true c95
            clear c95
            simp only [Option.some.injEq, Prod.mk.injEq] at H
            obtain ⟨rfl, rfl, rfl, rfl, rfl, rfl, rfl, rfl, rfl, rfl⟩ := H
            try go_wp2
            have n0_ := Aside0.mk (blk_drew BK118.out)
            have n1_ := Aside0.mk (blk_drew BK119.out)
            have n2_ := Aside0.mk (blk_drew BK120.out)
            have n3_ := Aside0.mk (below_drew1 HB.out)
            clear BK118
            clear BK119
            clear BK120
            clear HB
            have BK118 := n0_
            have BK119 := n1_
            have BK120 := n2_
            have HB := n3_
            clear n0_ n1_ n2_ n3_
            refine start_ (n := 11) (S := fun w' => w'.cell? ⟨gb118, 0, none⟩ = some (.bool false) ∧ w'.cell? ⟨gb118, 1, none⟩ = some (.slice A0_1 l0_1.length c0_1) ∧ w'.cell? ⟨gb118, 2, none⟩ = some (.slice A0_2 l0_2.length c0_2) ∧ w'.cell? ⟨gb118, 3, none⟩ = some (.slice A0_3 l0_3.length c0_3)) (ds := []) #[false, false, false, false, false, false, false, false, false, false, false] (by kernel_rfl) rfl rfl ⟨(blk_cell BK118.out 0).trans rfl, (blk_cell BK118.out 1).trans rfl, (blk_cell BK118.out 2).trans rfl, (blk_cell BK118.out 3).trans rfl⟩ (fun hHeld => ?_); refine with_tabW slot_Split.tab13 slot_Split.bits13 (fun HT_ HW_ => ?_)
            generalize wr.drew = w96 at BK118 BK119 BK120 HB hHeld ⊢
            refine pure_ (i := 1) (N := some 57) (v := ?_) (a' := ?_) #[false, true, false, false, false, false, false, false, false, false, false] rfl rfl (any_of HT_.out (by kernel_rfl)) (fun _ _ _ h => h) (Or.inl ⟨by rfl, ?_⟩) ?_ ?_
            rotate_left
            ·intro w'
             go_simp
             with_reducible rfl
            rotate_left
            ·simp only [Act.put, List.setIfInBounds_toArray, List.set_cons_zero, List.set_cons_succ, i64_w, i32_w]
             rfl
            refine pure_ (i := 4) (N := some 60) (v := ?_) (a' := ?_) #[false, true, false, false, true, false, false, false, false, false, false] rfl rfl (any_of HT_.out (by kernel_rfl)) (fun _ _ _ h => h) (Or.inl ⟨by rfl, ?_⟩) ?_ ?_
            rotate_left
            ·intro w'
             go_simp
             with_reducible rfl
            rotate_left
            ·simp only [Act.put, List.setIfInBounds_toArray, List.set_cons_zero, List.set_cons_succ, i64_w, i32_w]
             rfl
            refine pure_ (i := 5) (N := some 61) (v := ?_) (a' := ?_) #[false, true, false, false, true, true, false, false, false, false, false] rfl rfl (any_of HT_.out (by kernel_rfl)) (fun _ _ _ h => h) (Or.inl ⟨by rfl, ?_⟩) ?_ ?_
            rotate_left
            ·intro w'
             go_simp
             with_reducible rfl
            rotate_left
            ·simp only [Act.put, List.setIfInBounds_toArray, List.set_cons_zero, List.set_cons_succ, i64_w, i32_w]
             rfl
            refine pure_ (i := 6) (N := some 62) (v := ?_) (a' := ?_) #[false, true, false, false, true, true, true, false, false, false, false] rfl rfl (any_of HT_.out (by kernel_rfl)) (fun _ _ _ h => h) (Or.inl ⟨by rfl, ?_⟩) ?_ ?_
            rotate_left
            ·intro w'
             go_simp
             with_reducible rfl
            rotate_left
            ·simp only [Act.put, List.setIfInBounds_toArray, List.set_cons_zero, List.set_cons_succ, i64_w, i32_w]
             rfl
            refine pure_ (i := 7) (N := some 63) (v := ?_) (a' := ?_) #[false, true, false, false, true, true, true, true, false, false, false] rfl rfl (any_of HT_.out (by kernel_rfl)) (fun _ _ _ h => h) (Or.inl ⟨by rfl, ?_⟩) ?_ ?_
            rotate_left
            ·intro w'
             go_simp
             with_reducible rfl
            rotate_left
            ·simp only [Act.put, List.setIfInBounds_toArray, List.set_cons_zero, List.set_cons_succ, i64_w, i32_w]
             rfl
            refine take_ (i := 0) (N := some 56) (v := ?_) (a' := ?_) #[true, true, false, false, true, true, true, true, false, false, false] rfl rfl (take_ofW HT_.out HW_.out (by kernel_rfl)) (fun _ _ _ h => h) (Or.inl ⟨by rfl, ?_⟩) hHeld ?_ ?_
            rotate_left
            ·rintro w' ⟨s0, s1, s2, s3⟩
             go_simp
             with_reducible rfl
            rotate_left
            ·simp only [Act.put, List.setIfInBounds_toArray, List.set_cons_zero, List.set_cons_succ, i64_w, i32_w]
             rfl
            refine take_ (i := 3) (N := some 59) (v := ?_) (a' := ?_) #[true, true, false, true, true, true, true, true, false, false, false] rfl rfl (take_ofW HT_.out HW_.out (by kernel_rfl)) (fun _ _ _ h => h) (Or.inl ⟨by rfl, ?_⟩) hHeld ?_ ?_
            rotate_left
            ·rintro w' ⟨s0, s1, s2, s3⟩
             go_simp
             with_reducible rfl
            rotate_left
            ·simp only [Act.put, List.setIfInBounds_toArray, List.set_cons_zero, List.set_cons_succ, i64_w, i32_w]
             rfl
            refine one_ (i := 2) (N := some 58) #[true, true, true, true, true, true, true, true, false, false, false] rfl rfl (one_of HT_.out (by kernel_rfl)) (by decide) (fun K hK => ?_)
            refine goes_ Try.func24 (by kernel_rfl) rfl #[.agg #[.bool false, .slice A0_1 l0_1.length c0_1, .slice A0_2 l0_2.length c0_2, .slice A0_3 l0_3.length c0_3], .int .i64 0, .int .i64 x8_3] (by rfl) rfl rfl (by (try simp only [List.map_toArray, List.map_cons, List.map_nil]); first | done | rfl | (simp only [List.length_drop, List.length_take]; rfl)) ?_
            with_reducible refine (slot_part.calls false _ _ l0_1 _ _ l0_2 _ _ l0_3 0 x8_3 t144 t145 t148 t151 _ ?side1 ?side2 ?side3 ?side4 ?side5 ?side6 A59.out).mono ?_
            (case side1 => repeat (first | exact (Kd.C_below HR0_1.out HB.out) | (with_reducible refine Kd.C_alloc ?_ _) | (with_reducible refine Kd.C_drewN ?_ _) | (with_reducible refine Kd.C_drew ?_)))
            (case side2 => exact HC0_1.out)
            (case side3 => repeat (first | exact (Kd.C_below HR0_2.out HB.out) | (with_reducible refine Kd.C_alloc ?_ _) | (with_reducible refine Kd.C_drewN ?_ _) | (with_reducible refine Kd.C_drew ?_)))
            (case side4 => exact HC0_2.out)
            (case side5 => repeat (first | exact (Kd.C_below HR0_3.out HB.out) | (with_reducible refine Kd.C_alloc ?_ _) | (with_reducible refine Kd.C_drewN ?_ _) | (with_reducible refine Kd.C_drew ?_)))
            (case side6 => exact HC0_3.out)
            rintro e w97 ⟨v146, v149, v152, rfl, ho0, ho1, ho2, hb⟩
            refine ⟨_, rfl, ?_⟩
            have n0_ := Aside0.mk (Kd.R_lower ho0 (below_size (by repeat (first | (with_reducible first | exact HB.out | apply below_alloc | apply pw_below_drewN | apply below_drew1 | refine below_set ?_ GE118.out | refine below_set ?_ GE119.out | refine below_set ?_ GE120.out) | exact HB.out))))
            have n1_ := Aside0.mk (Kd.R_lower ho1 (below_size (by repeat (first | (with_reducible first | exact HB.out | apply below_alloc | apply pw_below_drewN | apply below_drew1 | refine below_set ?_ GE118.out | refine below_set ?_ GE119.out | refine below_set ?_ GE120.out) | exact HB.out))))
            have n2_ := Aside0.mk (Kd.R_lower ho2 (below_size (by repeat (first | (with_reducible first | exact HB.out | apply below_alloc | apply pw_below_drewN | apply below_drew1 | refine below_set ?_ GE118.out | refine below_set ?_ GE119.out | refine below_set ?_ GE120.out) | exact HB.out))))
            have n3_ := Aside0.mk (blk_below (g := gb118) (o := .cells #[.bool false, .slice A0_1 l0_1.length c0_1, .slice A0_2 l0_2.length c0_2, .slice A0_3 l0_3.length c0_3] 26 (0, 0)) (by (with_reducible repeat (first | refine blk_drewN ?_ _ | refine blk_drew ?_ | refine blk_alloc ?_ _)); exact BK118.out) hb)
            have n4_ := Aside0.mk (blk_below (g := gb119) (o := .cells #[.bool false, .slice none 0 0, .slice none 0 0, .slice none 0 0] 26 (0, 0)) (by (with_reducible repeat (first | refine blk_drewN ?_ _ | refine blk_drew ?_ | refine blk_alloc ?_ _)); exact BK119.out) hb)
            have n5_ := Aside0.mk (blk_below (g := gb120) (o := .cells #[.bool false, .slice none 0 0, .slice none 0 0, .slice none 0 0] 26 (0, 0)) (by (with_reducible repeat (first | refine blk_drewN ?_ _ | refine blk_drew ?_ | refine blk_alloc ?_ _)); exact BK120.out) hb)
            have n6_ := Aside0.mk (below_step (by repeat (first | (with_reducible first | exact HB.out | apply below_alloc | apply pw_below_drewN | apply below_drew1 | refine below_set ?_ GE118.out | refine below_set ?_ GE119.out | refine below_set ?_ GE120.out) | exact HB.out)) hb)
            clear BK118
            clear BK119
            clear BK120
            clear HB
            have HO147 := n0_
            have HO150 := n1_
            have HO153 := n2_
            have BK118 := n3_
            have BK119 := n4_
            have BK120 := n5_
            have HB := n6_
            clear n0_ n1_ n2_ n3_ n4_ n5_ n6_
            (try clear hb)
            (try clear hb2)
            (try clear hk)
            (try clear hi)
            (try clear ho0)
            (try clear ho1)
            (try clear ho2)
            refine hK.out _ _ ⟨(blk_cell BK118.out 0).trans rfl, (blk_cell BK118.out 1).trans rfl, (blk_cell BK118.out 2).trans rfl, (blk_cell BK118.out 3).trans rfl⟩ (fun hHeld => ?_)
            clear hK K
            refine norm_ (a' := ?_) ?_ ?_
            rotate_left
            ·show Act.put _ (some 58) _ = _
             simp only [Act.put, List.setIfInBounds_toArray, List.set_cons_zero, List.set_cons_succ, i64_w, i32_w]
             rfl
            refine one_ (i := 8) (N := some 64) #[true, true, true, true, true, true, true, true, true, false, false] rfl rfl (one_of HT_.out (by kernel_rfl)) (by decide) (fun K hK => ?_)
            refine goes_ Try.func24 (by kernel_rfl) rfl #[.agg #[.bool false, .slice A0_1 l0_1.length c0_1, .slice A0_2 l0_2.length c0_2, .slice A0_3 l0_3.length c0_3], .int .i64 (wrap64 (x8_3 + x7_1)), .int .i64 x6_1] (by rfl) rfl rfl (by (try simp only [List.map_toArray, List.map_cons, List.map_nil]); first | done | rfl | (simp only [List.length_drop, List.length_take]; rfl)) ?_
            with_reducible refine (slot_part.calls false _ _ l0_1 _ _ l0_2 _ _ l0_3 (wrap64 (x8_3 + x7_1)) x6_1 t154 t155 t158 t161 _ ?side1 ?side2 ?side3 ?side4 ?side5 ?side6 A60.out).mono ?_
            (case side1 => repeat (first | exact (Kd.C_below HR0_1.out HB.out) | (with_reducible refine Kd.C_alloc ?_ _) | (with_reducible refine Kd.C_drewN ?_ _) | (with_reducible refine Kd.C_drew ?_)))
            (case side2 => exact HC0_1.out)
            (case side3 => repeat (first | exact (Kd.C_below HR0_2.out HB.out) | (with_reducible refine Kd.C_alloc ?_ _) | (with_reducible refine Kd.C_drewN ?_ _) | (with_reducible refine Kd.C_drew ?_)))
            (case side4 => exact HC0_2.out)
            (case side5 => repeat (first | exact (Kd.C_below HR0_3.out HB.out) | (with_reducible refine Kd.C_alloc ?_ _) | (with_reducible refine Kd.C_drewN ?_ _) | (with_reducible refine Kd.C_drew ?_)))
            (case side6 => exact HC0_3.out)
            rintro e w98 ⟨v156, v159, v162, rfl, ho0, ho1, ho2, hb⟩
            refine ⟨_, rfl, ?_⟩
            have n0_ := Aside0.mk (Kd.R_elder' (by (with_reducible repeat (first | apply Kd.R_alloc | apply Kd.R_drewN | apply Kd.R_drew)); exact HO147.out) (Kd.R_base ho0) hb)
            have n1_ := Aside0.mk (Kd.R_elder' (by (with_reducible repeat (first | apply Kd.R_alloc | apply Kd.R_drewN | apply Kd.R_drew)); exact HO150.out) (Kd.R_base ho1) hb)
            have n2_ := Aside0.mk (Kd.R_elder' (by (with_reducible repeat (first | apply Kd.R_alloc | apply Kd.R_drewN | apply Kd.R_drew)); exact HO153.out) (Kd.R_base ho2) hb)
            have n3_ := Aside0.mk (Kd.R_lower (Kd.R_new' ho0 (Kd.R_lt (by (with_reducible repeat (first | apply Kd.R_alloc | apply Kd.R_drewN | apply Kd.R_drew)); exact HO147.out))) (below_size (by repeat (first | (with_reducible first | exact HB.out | apply below_alloc | apply pw_below_drewN | apply below_drew1 | refine below_set ?_ GE118.out | refine below_set ?_ GE119.out | refine below_set ?_ GE120.out) | exact HB.out))))
            have n4_ := Aside0.mk (Kd.R_lower (Kd.R_new' ho1 (Kd.R_lt (by (with_reducible repeat (first | apply Kd.R_alloc | apply Kd.R_drewN | apply Kd.R_drew)); exact HO150.out))) (below_size (by repeat (first | (with_reducible first | exact HB.out | apply below_alloc | apply pw_below_drewN | apply below_drew1 | refine below_set ?_ GE118.out | refine below_set ?_ GE119.out | refine below_set ?_ GE120.out) | exact HB.out))))
            have n5_ := Aside0.mk (Kd.R_lower (Kd.R_new' ho2 (Kd.R_lt (by (with_reducible repeat (first | apply Kd.R_alloc | apply Kd.R_drewN | apply Kd.R_drew)); exact HO153.out))) (below_size (by repeat (first | (with_reducible first | exact HB.out | apply below_alloc | apply pw_below_drewN | apply below_drew1 | refine below_set ?_ GE118.out | refine below_set ?_ GE119.out | refine below_set ?_ GE120.out) | exact HB.out))))
            have n6_ := Aside0.mk (blk_below (g := gb118) (o := .cells #[.bool false, .slice A0_1 l0_1.length c0_1, .slice A0_2 l0_2.length c0_2, .slice A0_3 l0_3.length c0_3] 26 (0, 0)) (by (with_reducible repeat (first | refine blk_drewN ?_ _ | refine blk_drew ?_ | refine blk_alloc ?_ _)); exact BK118.out) hb)
            have n7_ := Aside0.mk (blk_below (g := gb119) (o := .cells #[.bool false, .slice none 0 0, .slice none 0 0, .slice none 0 0] 26 (0, 0)) (by (with_reducible repeat (first | refine blk_drewN ?_ _ | refine blk_drew ?_ | refine blk_alloc ?_ _)); exact BK119.out) hb)
            have n8_ := Aside0.mk (blk_below (g := gb120) (o := .cells #[.bool false, .slice none 0 0, .slice none 0 0, .slice none 0 0] 26 (0, 0)) (by (with_reducible repeat (first | refine blk_drewN ?_ _ | refine blk_drew ?_ | refine blk_alloc ?_ _)); exact BK120.out) hb)
            have n9_ := Aside0.mk (below_step (by repeat (first | (with_reducible first | exact HB.out | apply below_alloc | apply pw_below_drewN | apply below_drew1 | refine below_set ?_ GE118.out | refine below_set ?_ GE119.out | refine below_set ?_ GE120.out) | exact HB.out)) hb)
            clear HO147
            clear HO150
            clear HO153
            clear BK118
            clear BK119
            clear BK120
            clear HB
            have HO147 := n0_
            have HO150 := n1_
            have HO153 := n2_
            have HO157 := n3_
            have HO160 := n4_
            have HO163 := n5_
            have BK118 := n6_
            have BK119 := n7_
            have BK120 := n8_
            have HB := n9_
            clear n0_ n1_ n2_ n3_ n4_ n5_ n6_ n7_ n8_ n9_
            (try clear hb)
            (try clear hb2)
            (try clear hk)
            (try clear hi)
            (try clear ho0)
            (try clear ho1)
            (try clear ho2)
            obtain ⟨Ao100, co100, eo100⟩ := Kd.R_slice HO147.out
            (first | subst eo100 | (injection eo100 with f1_ f2_ f3_; have f4_ := f1_.symm; have f5_ := f3_.symm; clear f1_ f2_ f3_; subst f4_; subst f5_))
            obtain ⟨Ao102, co102, eo102⟩ := Kd.R_slice HO150.out
            (first | subst eo102 | (injection eo102 with f1_ f2_ f3_; have f4_ := f1_.symm; have f5_ := f3_.symm; clear f1_ f2_ f3_; subst f4_; subst f5_))
            obtain ⟨Ao104, co104, eo104⟩ := Kd.R_slice HO153.out
            (first | subst eo104 | (injection eo104 with f1_ f2_ f3_; have f4_ := f1_.symm; have f5_ := f3_.symm; clear f1_ f2_ f3_; subst f4_; subst f5_))
            obtain ⟨Ao107, co107, eo107⟩ := Kd.R_slice HO157.out
            (first | subst eo107 | (injection eo107 with f1_ f2_ f3_; have f4_ := f1_.symm; have f5_ := f3_.symm; clear f1_ f2_ f3_; subst f4_; subst f5_))
            obtain ⟨Ao109, co109, eo109⟩ := Kd.R_slice HO160.out
            (first | subst eo109 | (injection eo109 with f1_ f2_ f3_; have f4_ := f1_.symm; have f5_ := f3_.symm; clear f1_ f2_ f3_; subst f4_; subst f5_))
            obtain ⟨Ao111, co111, eo111⟩ := Kd.R_slice HO163.out
            (first | subst eo111 | (injection eo111 with f1_ f2_ f3_; have f4_ := f1_.symm; have f5_ := f3_.symm; clear f1_ f2_ f3_; subst f4_; subst f5_))
            refine hK.out _ _ ⟨(blk_cell BK118.out 0).trans rfl, (blk_cell BK118.out 1).trans rfl, (blk_cell BK118.out 2).trans rfl, (blk_cell BK118.out 3).trans rfl⟩ (fun hHeld => ?_)
            clear hK K
            refine norm_ (a' := ?_) ?_ ?_
            rotate_left
            ·show Act.put _ (some 64) _ = _
             simp only [Act.put, List.setIfInBounds_toArray, List.set_cons_zero, List.set_cons_succ, i64_w, i32_w]
             rfl
            refine one_ (i := 9) (N := none) #[true, true, true, true, true, true, true, true, true, true, false] rfl rfl (one_of HT_.out (by kernel_rfl)) (by decide) (fun K hK => ?_)
            have hs99 : w98.cell? ⟨gb119, 0, none⟩ = some (.bool false) := (blk_cell BK119.out 0).trans rfl
            have hfs99 := blk_frozen BK119.out 0
            have hns99_0 := NB118_119.out
            have hns99_2 := NB120_119.out
            have hms99_0 := NB119_118.out
            have hms99_2 := NB119_120.out
            have hs101 : w98.cell? ⟨gb119, 1, none⟩ = some (.slice none 0 0) := (blk_cell BK119.out 1).trans rfl
            have hfs101 := blk_frozen BK119.out 1
            have hns101_0 := NB118_119.out
            have hns101_2 := NB120_119.out
            have hms101_0 := NB119_118.out
            have hms101_2 := NB119_120.out
            have hs103 : w98.cell? ⟨gb119, 2, none⟩ = some (.slice none 0 0) := (blk_cell BK119.out 2).trans rfl
            have hfs103 := blk_frozen BK119.out 2
            have hns103_0 := NB118_119.out
            have hns103_2 := NB120_119.out
            have hms103_0 := NB119_118.out
            have hms103_2 := NB119_120.out
            have hs105 : w98.cell? ⟨gb119, 3, none⟩ = some (.slice none 0 0) := (blk_cell BK119.out 3).trans rfl
            have hfs105 := blk_frozen BK119.out 3
            have hns105_0 := NB118_119.out
            have hns105_2 := NB120_119.out
            have hms105_0 := NB119_118.out
            have hms105_2 := NB119_120.out
            refine skip_ (w1 := ?_) (by rfl) rfl ?_ ?_
            rotate_left
            ·go_simp
             rfl
            refine hK.out _ _ ⟨((cell_far (p := ⟨gb119, _, none⟩) NB118_119.out _).trans (((cell_far (p := ⟨gb119, _, none⟩) NB118_119.out _).trans (((cell_far (p := ⟨gb119, _, none⟩) NB118_119.out _).trans (((cell_far (p := ⟨gb119, _, none⟩) NB118_119.out _).trans (hHeld.1)))))))), ((cell_far (p := ⟨gb119, _, none⟩) NB118_119.out _).trans (((cell_far (p := ⟨gb119, _, none⟩) NB118_119.out _).trans (((cell_far (p := ⟨gb119, _, none⟩) NB118_119.out _).trans (((cell_far (p := ⟨gb119, _, none⟩) NB118_119.out _).trans (hHeld.2.1)))))))), ((cell_far (p := ⟨gb119, _, none⟩) NB118_119.out _).trans (((cell_far (p := ⟨gb119, _, none⟩) NB118_119.out _).trans (((cell_far (p := ⟨gb119, _, none⟩) NB118_119.out _).trans (((cell_far (p := ⟨gb119, _, none⟩) NB118_119.out _).trans (hHeld.2.2.1)))))))), ((cell_far (p := ⟨gb119, _, none⟩) NB118_119.out _).trans (((cell_far (p := ⟨gb119, _, none⟩) NB118_119.out _).trans (((cell_far (p := ⟨gb119, _, none⟩) NB118_119.out _).trans (((cell_far (p := ⟨gb119, _, none⟩) NB118_119.out _).trans (hHeld.2.2.2))))))))⟩ (fun hHeld => ?_)
            clear hK K
            refine one_ (i := 10) (N := none) #[true, true, true, true, true, true, true, true, true, true, true] rfl rfl (one_of HT_.out (by kernel_rfl)) (by decide) (fun K hK => ?_)
            have hs106 : w98.cell? ⟨gb120, 0, none⟩ = some (.bool false) := (blk_cell BK120.out 0).trans rfl
            have hfs106 := blk_frozen BK120.out 0
            have hns106_0 := NB118_120.out
            have hns106_1 := NB119_120.out
            have hms106_0 := NB120_118.out
            have hms106_1 := NB120_119.out
            have hs108 : w98.cell? ⟨gb120, 1, none⟩ = some (.slice none 0 0) := (blk_cell BK120.out 1).trans rfl
            have hfs108 := blk_frozen BK120.out 1
            have hns108_0 := NB118_120.out
            have hns108_1 := NB119_120.out
            have hms108_0 := NB120_118.out
            have hms108_1 := NB120_119.out
            have hs110 : w98.cell? ⟨gb120, 2, none⟩ = some (.slice none 0 0) := (blk_cell BK120.out 2).trans rfl
            have hfs110 := blk_frozen BK120.out 2
            have hns110_0 := NB118_120.out
            have hns110_1 := NB119_120.out
            have hms110_0 := NB120_118.out
            have hms110_1 := NB120_119.out
            have hs112 : w98.cell? ⟨gb120, 3, none⟩ = some (.slice none 0 0) := (blk_cell BK120.out 3).trans rfl
            have hfs112 := blk_frozen BK120.out 3
            have hns112_0 := NB118_120.out
            have hns112_1 := NB119_120.out
            have hms112_0 := NB120_118.out
            have hms112_1 := NB120_119.out
            refine skip_ (w1 := ?_) (by rfl) rfl ?_ ?_
            rotate_left
            ·go_simp
             rfl
            refine hK.out _ _ ⟨((cell_far (p := ⟨gb120, _, none⟩) NB118_120.out _).trans (((cell_far (p := ⟨gb120, _, none⟩) NB118_120.out _).trans (((cell_far (p := ⟨gb120, _, none⟩) NB118_120.out _).trans (((cell_far (p := ⟨gb120, _, none⟩) NB118_120.out _).trans (hHeld.1)))))))), ((cell_far (p := ⟨gb120, _, none⟩) NB118_120.out _).trans (((cell_far (p := ⟨gb120, _, none⟩) NB118_120.out _).trans (((cell_far (p := ⟨gb120, _, none⟩) NB118_120.out _).trans (((cell_far (p := ⟨gb120, _, none⟩) NB118_120.out _).trans (hHeld.2.1)))))))), ((cell_far (p := ⟨gb120, _, none⟩) NB118_120.out _).trans (((cell_far (p := ⟨gb120, _, none⟩) NB118_120.out _).trans (((cell_far (p := ⟨gb120, _, none⟩) NB118_120.out _).trans (((cell_far (p := ⟨gb120, _, none⟩) NB118_120.out _).trans (hHeld.2.2.1)))))))), ((cell_far (p := ⟨gb120, _, none⟩) NB118_120.out _).trans (((cell_far (p := ⟨gb120, _, none⟩) NB118_120.out _).trans (((cell_far (p := ⟨gb120, _, none⟩) NB118_120.out _).trans (((cell_far (p := ⟨gb120, _, none⟩) NB118_120.out _).trans (hHeld.2.2.2))))))))⟩ (fun hHeld => ?_)
            clear hK K
            refine done_ (done_of HT_.out (by kernel_rfl)) ?_
            have hnb113 := NB118_119.out
            have hnc113 := NB119_118.out
            have hnb114 := NB118_120.out
            have hnc114 := NB120_118.out
            have hcz115_0 : w98.cell? ⟨gb118, 0, none⟩ = some (.bool false) := (blk_cell BK118.out 0).trans rfl
            have hcz115_1 : w98.cell? ⟨gb118, 1, none⟩ = some (.slice A0_1 l0_1.length c0_1) := (blk_cell BK118.out 1).trans rfl
            have hcz115_2 : w98.cell? ⟨gb118, 2, none⟩ = some (.slice A0_2 l0_2.length c0_2) := (blk_cell BK118.out 2).trans rfl
            have hcz115_3 : w98.cell? ⟨gb118, 3, none⟩ = some (.slice A0_3 l0_3.length c0_3) := (blk_cell BK118.out 3).trans rfl
            have hfz115_0 := blk_frozen BK118.out 0
            have hfz115_1 := blk_frozen BK118.out 1
            have hfz115_2 := blk_frozen BK118.out 2
            have hfz115_3 := blk_frozen BK118.out 3
            try go_wp2
            have n0_ : Aside0 (Kd.R k43 43 ((((((((w98.setCell ⟨gb119, 0, none⟩ (.bool t144)).setCell ⟨gb119, 1, none⟩ (.slice Ao100 t145.length co100)).setCell ⟨gb119, 2, none⟩ (.slice Ao102 t148.length co102)).setCell ⟨gb119, 3, none⟩ (.slice Ao104 t151.length co104)).setCell ⟨gb120, 0, none⟩ (.bool t154)).setCell ⟨gb120, 1, none⟩ (.slice Ao107 t155.length co107)).setCell ⟨gb120, 2, none⟩ (.slice Ao109 t158.length co109)).setCell ⟨gb120, 3, none⟩ (.slice Ao111 t161.length co111)) w.heap.size (fun k_ => some k_ ≠ (.slice Ao107 t155.length co107 : Value).ownBlock) (.slice Ao100 t145.length co100) t145) := ⟨by (with_reducible repeat (first | apply Kd.R_alloc | apply Kd.R_drewN | apply Kd.R_drew)); exact Kd.R_mono (Kd.R_far (p := ⟨gb120, 3, none⟩) (Kd.R_far (p := ⟨gb120, 2, none⟩) (Kd.R_far (p := ⟨gb120, 1, none⟩) (Kd.R_far (p := ⟨gb120, 0, none⟩) (Kd.R_far (p := ⟨gb119, 3, none⟩) (Kd.R_far (p := ⟨gb119, 2, none⟩) (Kd.R_far (p := ⟨gb119, 1, none⟩) (Kd.R_far (p := ⟨gb119, 0, none⟩) (Kd.R_types (Kd.R_types HO147.out BK119.out (by decide)) BK120.out (by decide)) (fun _ hk => hk.1.2) (.bool t144)) (fun _ hk => hk.1.2) (.slice Ao100 t145.length co100)) (fun _ hk => hk.1.2) (.slice Ao102 t148.length co102)) (fun _ hk => hk.1.2) (.slice Ao104 t151.length co104)) (fun _ hk => hk.2) (.bool t154)) (fun _ hk => hk.2) (.slice Ao107 t155.length co107)) (fun _ hk => hk.2) (.slice Ao109 t158.length co109)) (fun _ hk => hk.2) (.slice Ao111 t161.length co111)) (fun _ hk => hk.1.1.2)⟩
            have n1_ : Aside0 (Kd.R Kd.string 9 ((((((((w98.setCell ⟨gb119, 0, none⟩ (.bool t144)).setCell ⟨gb119, 1, none⟩ (.slice Ao100 t145.length co100)).setCell ⟨gb119, 2, none⟩ (.slice Ao102 t148.length co102)).setCell ⟨gb119, 3, none⟩ (.slice Ao104 t151.length co104)).setCell ⟨gb120, 0, none⟩ (.bool t154)).setCell ⟨gb120, 1, none⟩ (.slice Ao107 t155.length co107)).setCell ⟨gb120, 2, none⟩ (.slice Ao109 t158.length co109)).setCell ⟨gb120, 3, none⟩ (.slice Ao111 t161.length co111)) w.heap.size (fun k_ => some k_ ≠ (.slice Ao109 t158.length co109 : Value).ownBlock) (.slice Ao102 t148.length co102) t148) := ⟨by (with_reducible repeat (first | apply Kd.R_alloc | apply Kd.R_drewN | apply Kd.R_drew)); exact Kd.R_mono (Kd.R_far (p := ⟨gb120, 3, none⟩) (Kd.R_far (p := ⟨gb120, 2, none⟩) (Kd.R_far (p := ⟨gb120, 1, none⟩) (Kd.R_far (p := ⟨gb120, 0, none⟩) (Kd.R_far (p := ⟨gb119, 3, none⟩) (Kd.R_far (p := ⟨gb119, 2, none⟩) (Kd.R_far (p := ⟨gb119, 1, none⟩) (Kd.R_far (p := ⟨gb119, 0, none⟩) (Kd.R_types (Kd.R_types HO150.out BK119.out (by decide)) BK120.out (by decide)) (fun _ hk => hk.1.2) (.bool t144)) (fun _ hk => hk.1.2) (.slice Ao100 t145.length co100)) (fun _ hk => hk.1.2) (.slice Ao102 t148.length co102)) (fun _ hk => hk.1.2) (.slice Ao104 t151.length co104)) (fun _ hk => hk.2) (.bool t154)) (fun _ hk => hk.2) (.slice Ao107 t155.length co107)) (fun _ hk => hk.2) (.slice Ao109 t158.length co109)) (fun _ hk => hk.2) (.slice Ao111 t161.length co111)) (fun _ hk => hk.1.1.2)⟩
            have n2_ : Aside0 (Kd.R (Kd.int .i64) 3 ((((((((w98.setCell ⟨gb119, 0, none⟩ (.bool t144)).setCell ⟨gb119, 1, none⟩ (.slice Ao100 t145.length co100)).setCell ⟨gb119, 2, none⟩ (.slice Ao102 t148.length co102)).setCell ⟨gb119, 3, none⟩ (.slice Ao104 t151.length co104)).setCell ⟨gb120, 0, none⟩ (.bool t154)).setCell ⟨gb120, 1, none⟩ (.slice Ao107 t155.length co107)).setCell ⟨gb120, 2, none⟩ (.slice Ao109 t158.length co109)).setCell ⟨gb120, 3, none⟩ (.slice Ao111 t161.length co111)) w.heap.size (fun k_ => some k_ ≠ (.slice Ao111 t161.length co111 : Value).ownBlock) (.slice Ao104 t151.length co104) t151) := ⟨by (with_reducible repeat (first | apply Kd.R_alloc | apply Kd.R_drewN | apply Kd.R_drew)); exact Kd.R_mono (Kd.R_far (p := ⟨gb120, 3, none⟩) (Kd.R_far (p := ⟨gb120, 2, none⟩) (Kd.R_far (p := ⟨gb120, 1, none⟩) (Kd.R_far (p := ⟨gb120, 0, none⟩) (Kd.R_far (p := ⟨gb119, 3, none⟩) (Kd.R_far (p := ⟨gb119, 2, none⟩) (Kd.R_far (p := ⟨gb119, 1, none⟩) (Kd.R_far (p := ⟨gb119, 0, none⟩) (Kd.R_types (Kd.R_types HO153.out BK119.out (by decide)) BK120.out (by decide)) (fun _ hk => hk.1.2) (.bool t144)) (fun _ hk => hk.1.2) (.slice Ao100 t145.length co100)) (fun _ hk => hk.1.2) (.slice Ao102 t148.length co102)) (fun _ hk => hk.1.2) (.slice Ao104 t151.length co104)) (fun _ hk => hk.2) (.bool t154)) (fun _ hk => hk.2) (.slice Ao107 t155.length co107)) (fun _ hk => hk.2) (.slice Ao109 t158.length co109)) (fun _ hk => hk.2) (.slice Ao111 t161.length co111)) (fun _ hk => hk.1.1.2)⟩
            have n3_ : Aside0 (Kd.R k43 43 ((((((((w98.setCell ⟨gb119, 0, none⟩ (.bool t144)).setCell ⟨gb119, 1, none⟩ (.slice Ao100 t145.length co100)).setCell ⟨gb119, 2, none⟩ (.slice Ao102 t148.length co102)).setCell ⟨gb119, 3, none⟩ (.slice Ao104 t151.length co104)).setCell ⟨gb120, 0, none⟩ (.bool t154)).setCell ⟨gb120, 1, none⟩ (.slice Ao107 t155.length co107)).setCell ⟨gb120, 2, none⟩ (.slice Ao109 t158.length co109)).setCell ⟨gb120, 3, none⟩ (.slice Ao111 t161.length co111)) w.heap.size (fun k_ => some k_ ≠ (.slice Ao100 t145.length co100 : Value).ownBlock) (.slice Ao107 t155.length co107) t155) := ⟨by (with_reducible repeat (first | apply Kd.R_alloc | apply Kd.R_drewN | apply Kd.R_drew)); exact Kd.R_mono (Kd.R_far (p := ⟨gb120, 3, none⟩) (Kd.R_far (p := ⟨gb120, 2, none⟩) (Kd.R_far (p := ⟨gb120, 1, none⟩) (Kd.R_far (p := ⟨gb120, 0, none⟩) (Kd.R_far (p := ⟨gb119, 3, none⟩) (Kd.R_far (p := ⟨gb119, 2, none⟩) (Kd.R_far (p := ⟨gb119, 1, none⟩) (Kd.R_far (p := ⟨gb119, 0, none⟩) (Kd.R_types (Kd.R_types HO157.out BK119.out (by decide)) BK120.out (by decide)) (fun _ hk => hk.1.2) (.bool t144)) (fun _ hk => hk.1.2) (.slice Ao100 t145.length co100)) (fun _ hk => hk.1.2) (.slice Ao102 t148.length co102)) (fun _ hk => hk.1.2) (.slice Ao104 t151.length co104)) (fun _ hk => hk.2) (.bool t154)) (fun _ hk => hk.2) (.slice Ao107 t155.length co107)) (fun _ hk => hk.2) (.slice Ao109 t158.length co109)) (fun _ hk => hk.2) (.slice Ao111 t161.length co111)) (fun _ hk => hk.1.1.2)⟩
            have n4_ : Aside0 (Kd.R Kd.string 9 ((((((((w98.setCell ⟨gb119, 0, none⟩ (.bool t144)).setCell ⟨gb119, 1, none⟩ (.slice Ao100 t145.length co100)).setCell ⟨gb119, 2, none⟩ (.slice Ao102 t148.length co102)).setCell ⟨gb119, 3, none⟩ (.slice Ao104 t151.length co104)).setCell ⟨gb120, 0, none⟩ (.bool t154)).setCell ⟨gb120, 1, none⟩ (.slice Ao107 t155.length co107)).setCell ⟨gb120, 2, none⟩ (.slice Ao109 t158.length co109)).setCell ⟨gb120, 3, none⟩ (.slice Ao111 t161.length co111)) w.heap.size (fun k_ => some k_ ≠ (.slice Ao102 t148.length co102 : Value).ownBlock) (.slice Ao109 t158.length co109) t158) := ⟨by (with_reducible repeat (first | apply Kd.R_alloc | apply Kd.R_drewN | apply Kd.R_drew)); exact Kd.R_mono (Kd.R_far (p := ⟨gb120, 3, none⟩) (Kd.R_far (p := ⟨gb120, 2, none⟩) (Kd.R_far (p := ⟨gb120, 1, none⟩) (Kd.R_far (p := ⟨gb120, 0, none⟩) (Kd.R_far (p := ⟨gb119, 3, none⟩) (Kd.R_far (p := ⟨gb119, 2, none⟩) (Kd.R_far (p := ⟨gb119, 1, none⟩) (Kd.R_far (p := ⟨gb119, 0, none⟩) (Kd.R_types (Kd.R_types HO160.out BK119.out (by decide)) BK120.out (by decide)) (fun _ hk => hk.1.2) (.bool t144)) (fun _ hk => hk.1.2) (.slice Ao100 t145.length co100)) (fun _ hk => hk.1.2) (.slice Ao102 t148.length co102)) (fun _ hk => hk.1.2) (.slice Ao104 t151.length co104)) (fun _ hk => hk.2) (.bool t154)) (fun _ hk => hk.2) (.slice Ao107 t155.length co107)) (fun _ hk => hk.2) (.slice Ao109 t158.length co109)) (fun _ hk => hk.2) (.slice Ao111 t161.length co111)) (fun _ hk => hk.1.1.2)⟩
            have n5_ : Aside0 (Kd.R (Kd.int .i64) 3 ((((((((w98.setCell ⟨gb119, 0, none⟩ (.bool t144)).setCell ⟨gb119, 1, none⟩ (.slice Ao100 t145.length co100)).setCell ⟨gb119, 2, none⟩ (.slice Ao102 t148.length co102)).setCell ⟨gb119, 3, none⟩ (.slice Ao104 t151.length co104)).setCell ⟨gb120, 0, none⟩ (.bool t154)).setCell ⟨gb120, 1, none⟩ (.slice Ao107 t155.length co107)).setCell ⟨gb120, 2, none⟩ (.slice Ao109 t158.length co109)).setCell ⟨gb120, 3, none⟩ (.slice Ao111 t161.length co111)) w.heap.size (fun k_ => some k_ ≠ (.slice Ao104 t151.length co104 : Value).ownBlock) (.slice Ao111 t161.length co111) t161) := ⟨by (with_reducible repeat (first | apply Kd.R_alloc | apply Kd.R_drewN | apply Kd.R_drew)); exact Kd.R_mono (Kd.R_far (p := ⟨gb120, 3, none⟩) (Kd.R_far (p := ⟨gb120, 2, none⟩) (Kd.R_far (p := ⟨gb120, 1, none⟩) (Kd.R_far (p := ⟨gb120, 0, none⟩) (Kd.R_far (p := ⟨gb119, 3, none⟩) (Kd.R_far (p := ⟨gb119, 2, none⟩) (Kd.R_far (p := ⟨gb119, 1, none⟩) (Kd.R_far (p := ⟨gb119, 0, none⟩) (Kd.R_types (Kd.R_types HO163.out BK119.out (by decide)) BK120.out (by decide)) (fun _ hk => hk.1.2) (.bool t144)) (fun _ hk => hk.1.2) (.slice Ao100 t145.length co100)) (fun _ hk => hk.1.2) (.slice Ao102 t148.length co102)) (fun _ hk => hk.1.2) (.slice Ao104 t151.length co104)) (fun _ hk => hk.2) (.bool t154)) (fun _ hk => hk.2) (.slice Ao107 t155.length co107)) (fun _ hk => hk.2) (.slice Ao109 t158.length co109)) (fun _ hk => hk.2) (.slice Ao111 t161.length co111)) (fun _ hk => hk.1.1.2)⟩
            have n6_ : Aside0 (((((((((w98.setCell ⟨gb119, 0, none⟩ (.bool t144)).setCell ⟨gb119, 1, none⟩ (.slice Ao100 t145.length co100)).setCell ⟨gb119, 2, none⟩ (.slice Ao102 t148.length co102)).setCell ⟨gb119, 3, none⟩ (.slice Ao104 t151.length co104)).setCell ⟨gb120, 0, none⟩ (.bool t154)).setCell ⟨gb120, 1, none⟩ (.slice Ao107 t155.length co107)).setCell ⟨gb120, 2, none⟩ (.slice Ao109 t158.length co109)).setCell ⟨gb120, 3, none⟩ (.slice Ao111 t161.length co111)).heap[gb118]? = some (.cells #[.bool false, .slice A0_1 l0_1.length c0_1, .slice A0_2 l0_2.length c0_2, .slice A0_3 l0_3.length c0_3] 26 (0, 0))) := ⟨by (with_reducible repeat (first | refine blk_drewN ?_ _ | refine blk_drew ?_ | refine blk_alloc ?_ _)); refine blk_far ?_ NB118_120.out _; (with_reducible repeat (first | refine blk_drewN ?_ _ | refine blk_drew ?_ | refine blk_alloc ?_ _)); refine blk_far ?_ NB118_120.out _; (with_reducible repeat (first | refine blk_drewN ?_ _ | refine blk_drew ?_ | refine blk_alloc ?_ _)); refine blk_far ?_ NB118_120.out _; (with_reducible repeat (first | refine blk_drewN ?_ _ | refine blk_drew ?_ | refine blk_alloc ?_ _)); refine blk_far ?_ NB118_120.out _; (with_reducible repeat (first | refine blk_drewN ?_ _ | refine blk_drew ?_ | refine blk_alloc ?_ _)); refine blk_far ?_ NB118_119.out _; (with_reducible repeat (first | refine blk_drewN ?_ _ | refine blk_drew ?_ | refine blk_alloc ?_ _)); refine blk_far ?_ NB118_119.out _; (with_reducible repeat (first | refine blk_drewN ?_ _ | refine blk_drew ?_ | refine blk_alloc ?_ _)); refine blk_far ?_ NB118_119.out _; (with_reducible repeat (first | refine blk_drewN ?_ _ | refine blk_drew ?_ | refine blk_alloc ?_ _)); refine blk_far ?_ NB118_119.out _; (with_reducible repeat (first | refine blk_drewN ?_ _ | refine blk_drew ?_ | refine blk_alloc ?_ _)); exact BK118.out⟩
            have n7_ : Aside0 (((((((((w98.setCell ⟨gb119, 0, none⟩ (.bool t144)).setCell ⟨gb119, 1, none⟩ (.slice Ao100 t145.length co100)).setCell ⟨gb119, 2, none⟩ (.slice Ao102 t148.length co102)).setCell ⟨gb119, 3, none⟩ (.slice Ao104 t151.length co104)).setCell ⟨gb120, 0, none⟩ (.bool t154)).setCell ⟨gb120, 1, none⟩ (.slice Ao107 t155.length co107)).setCell ⟨gb120, 2, none⟩ (.slice Ao109 t158.length co109)).setCell ⟨gb120, 3, none⟩ (.slice Ao111 t161.length co111)).heap[gb119]? = some (.cells #[.bool t144, .slice Ao100 t145.length co100, .slice Ao102 t148.length co102, .slice Ao104 t151.length co104] 26 (0, 0))) := ⟨by (with_reducible repeat (first | refine blk_drewN ?_ _ | refine blk_drew ?_ | refine blk_alloc ?_ _)); refine blk_far ?_ NB119_120.out _; (with_reducible repeat (first | refine blk_drewN ?_ _ | refine blk_drew ?_ | refine blk_alloc ?_ _)); refine blk_far ?_ NB119_120.out _; (with_reducible repeat (first | refine blk_drewN ?_ _ | refine blk_drew ?_ | refine blk_alloc ?_ _)); refine blk_far ?_ NB119_120.out _; (with_reducible repeat (first | refine blk_drewN ?_ _ | refine blk_drew ?_ | refine blk_alloc ?_ _)); refine blk_far ?_ NB119_120.out _; (with_reducible repeat (first | refine blk_drewN ?_ _ | refine blk_drew ?_ | refine blk_alloc ?_ _)); refine blk_put (cs := #[.bool t144, .slice Ao100 t145.length co100, .slice Ao102 t148.length co102, .slice none 0 0]) ?_ 3 _ rfl; (with_reducible repeat (first | refine blk_drewN ?_ _ | refine blk_drew ?_ | refine blk_alloc ?_ _)); refine blk_put (cs := #[.bool t144, .slice Ao100 t145.length co100, .slice none 0 0, .slice none 0 0]) ?_ 2 _ rfl; (with_reducible repeat (first | refine blk_drewN ?_ _ | refine blk_drew ?_ | refine blk_alloc ?_ _)); refine blk_put (cs := #[.bool t144, .slice none 0 0, .slice none 0 0, .slice none 0 0]) ?_ 1 _ rfl; (with_reducible repeat (first | refine blk_drewN ?_ _ | refine blk_drew ?_ | refine blk_alloc ?_ _)); refine blk_put (cs := #[.bool false, .slice none 0 0, .slice none 0 0, .slice none 0 0]) ?_ 0 _ rfl; (with_reducible repeat (first | refine blk_drewN ?_ _ | refine blk_drew ?_ | refine blk_alloc ?_ _)); exact BK119.out⟩
            have n8_ : Aside0 (((((((((w98.setCell ⟨gb119, 0, none⟩ (.bool t144)).setCell ⟨gb119, 1, none⟩ (.slice Ao100 t145.length co100)).setCell ⟨gb119, 2, none⟩ (.slice Ao102 t148.length co102)).setCell ⟨gb119, 3, none⟩ (.slice Ao104 t151.length co104)).setCell ⟨gb120, 0, none⟩ (.bool t154)).setCell ⟨gb120, 1, none⟩ (.slice Ao107 t155.length co107)).setCell ⟨gb120, 2, none⟩ (.slice Ao109 t158.length co109)).setCell ⟨gb120, 3, none⟩ (.slice Ao111 t161.length co111)).heap[gb120]? = some (.cells #[.bool t154, .slice Ao107 t155.length co107, .slice Ao109 t158.length co109, .slice Ao111 t161.length co111] 26 (0, 0))) := ⟨by (with_reducible repeat (first | refine blk_drewN ?_ _ | refine blk_drew ?_ | refine blk_alloc ?_ _)); refine blk_put (cs := #[.bool t154, .slice Ao107 t155.length co107, .slice Ao109 t158.length co109, .slice none 0 0]) ?_ 3 _ rfl; (with_reducible repeat (first | refine blk_drewN ?_ _ | refine blk_drew ?_ | refine blk_alloc ?_ _)); refine blk_put (cs := #[.bool t154, .slice Ao107 t155.length co107, .slice none 0 0, .slice none 0 0]) ?_ 2 _ rfl; (with_reducible repeat (first | refine blk_drewN ?_ _ | refine blk_drew ?_ | refine blk_alloc ?_ _)); refine blk_put (cs := #[.bool t154, .slice none 0 0, .slice none 0 0, .slice none 0 0]) ?_ 1 _ rfl; (with_reducible repeat (first | refine blk_drewN ?_ _ | refine blk_drew ?_ | refine blk_alloc ?_ _)); refine blk_put (cs := #[.bool false, .slice none 0 0, .slice none 0 0, .slice none 0 0]) ?_ 0 _ rfl; (with_reducible repeat (first | refine blk_drewN ?_ _ | refine blk_drew ?_ | refine blk_alloc ?_ _)); refine blk_far ?_ NB120_119.out _; (with_reducible repeat (first | refine blk_drewN ?_ _ | refine blk_drew ?_ | refine blk_alloc ?_ _)); refine blk_far ?_ NB120_119.out _; (with_reducible repeat (first | refine blk_drewN ?_ _ | refine blk_drew ?_ | refine blk_alloc ?_ _)); refine blk_far ?_ NB120_119.out _; (with_reducible repeat (first | refine blk_drewN ?_ _ | refine blk_drew ?_ | refine blk_alloc ?_ _)); refine blk_far ?_ NB120_119.out _; (with_reducible repeat (first | refine blk_drewN ?_ _ | refine blk_drew ?_ | refine blk_alloc ?_ _)); exact BK120.out⟩
            have n9_ : Aside0 (Below w.heap.size w ((((((((w98.setCell ⟨gb119, 0, none⟩ (.bool t144)).setCell ⟨gb119, 1, none⟩ (.slice Ao100 t145.length co100)).setCell ⟨gb119, 2, none⟩ (.slice Ao102 t148.length co102)).setCell ⟨gb119, 3, none⟩ (.slice Ao104 t151.length co104)).setCell ⟨gb120, 0, none⟩ (.bool t154)).setCell ⟨gb120, 1, none⟩ (.slice Ao107 t155.length co107)).setCell ⟨gb120, 2, none⟩ (.slice Ao109 t158.length co109)).setCell ⟨gb120, 3, none⟩ (.slice Ao111 t161.length co111))) := ⟨by repeat (first | (with_reducible first | exact HB.out | apply below_alloc | apply pw_below_drewN | apply below_drew1 | refine below_set ?_ GE118.out | refine below_set ?_ GE119.out | refine below_set ?_ GE120.out) | exact HB.out)⟩
            (try clear HO147)
            (try clear HO150)
            (try clear HO153)
            (try clear HO157)
            (try clear HO160)
            (try clear HO163)
            (try clear BK118)
            (try clear BK119)
            (try clear BK120)
            (try clear HB)
            generalize ((((((((w98.setCell ⟨gb119, 0, none⟩ (.bool t144)).setCell ⟨gb119, 1, none⟩ (.slice Ao100 t145.length co100)).setCell ⟨gb119, 2, none⟩ (.slice Ao102 t148.length co102)).setCell ⟨gb119, 3, none⟩ (.slice Ao104 t151.length co104)).setCell ⟨gb120, 0, none⟩ (.bool t154)).setCell ⟨gb120, 1, none⟩ (.slice Ao107 t155.length co107)).setCell ⟨gb120, 2, none⟩ (.slice Ao109 t158.length co109)).setCell ⟨gb120, 3, none⟩ (.slice Ao111 t161.length co111)) = w116 at n0_ n1_ n2_ n3_ n4_ n5_ n6_ n7_ n8_ n9_ ⊢
            have HO147 := n0_
            have HO150 := n1_
            have HO153 := n2_
            have HO157 := n3_
            have HO160 := n4_
            have HO163 := n5_
            have BK118 := n6_
            have BK119 := n7_
            have BK120 := n8_
            have HB := n9_
            clear n0_ n1_ n2_ n3_ n4_ n5_ n6_ n7_ n8_ n9_
            have n0_ := Aside0.mk (Kd.R_drew HO147.out)
            have n1_ := Aside0.mk (Kd.R_drew HO150.out)
            have n2_ := Aside0.mk (Kd.R_drew HO153.out)
            have n3_ := Aside0.mk (Kd.R_drew HO157.out)
            have n4_ := Aside0.mk (Kd.R_drew HO160.out)
            have n5_ := Aside0.mk (Kd.R_drew HO163.out)
            have n6_ := Aside0.mk (blk_drew BK118.out)
            have n7_ := Aside0.mk (blk_drew BK119.out)
            have n8_ := Aside0.mk (blk_drew BK120.out)
            have n9_ := Aside0.mk (below_drew1 HB.out)
            clear HO147
            clear HO150
            clear HO153
            clear HO157
            clear HO160
            clear HO163
            clear BK118
            clear BK119
            clear BK120
            clear HB
            have HO147 := n0_
            have HO150 := n1_
            have HO153 := n2_
            have HO157 := n3_
            have HO160 := n4_
            have HO163 := n5_
            have BK118 := n6_
            have BK119 := n7_
            have BK120 := n8_
            have HB := n9_
            clear n0_ n1_ n2_ n3_ n4_ n5_ n6_ n7_ n8_ n9_
            have p165 : 0 ≤ (x8_3 : Int) := of_decide_eq_true (by first | (with_reducible assumption) | assumption)
            have q165 : x8_3 < (l0_2.length : Int) := of_decide_eq_true (by first | (with_reducible assumption) | assumption)
            obtain ⟨ad165, e165, hx165_0⟩ := Kd.at_string HR0_2.out x8_3 p165 q165
            have hw165_0 := hx165_0
            cases e165
            replace hx165_0 := (HB.out.cell (World.block_lt_of_cell? w _ hx165_0)).trans hx165_0
            replace p165 := eq_true p165
            replace q165 := eq_true q165
            refine start_ (n := 11) (S := fun w' => w'.cell? ⟨gb119, 0, none⟩ = some (.bool t144) ∧ w'.cell? ⟨gb119, 1, none⟩ = some (.slice Ao100 t145.length co100) ∧ w'.cell? ⟨gb119, 2, none⟩ = some (.slice Ao102 t148.length co102) ∧ w'.cell? ⟨gb119, 3, none⟩ = some (.slice Ao104 t151.length co104) ∧ w'.cell? ⟨gb120, 0, none⟩ = some (.bool t154) ∧ w'.cell? ⟨gb120, 1, none⟩ = some (.slice Ao107 t155.length co107) ∧ w'.cell? ⟨gb120, 2, none⟩ = some (.slice Ao109 t158.length co109) ∧ w'.cell? ⟨gb120, 3, none⟩ = some (.slice Ao111 t161.length co111) ∧ w'.cell? ⟨gb118, 0, none⟩ = some (.bool false) ∧ w'.cell? ⟨gb118, 1, none⟩ = some (.slice A0_1 l0_1.length c0_1) ∧ w'.cell? ⟨gb118, 2, none⟩ = some (.slice (some ad165) l0_2.length c0_2) ∧ w'.cell? ⟨gb118, 3, none⟩ = some (.slice A0_3 l0_3.length c0_3) ∧ w'.cell? (ad165.add (x8_3).toNat) = some (.string (rdOf ByteArray.empty l0_2 x8_3))) (ds := []) #[false, false, false, false, false, false, false, false, false, false, false] (by kernel_rfl) rfl rfl ⟨(blk_cell BK119.out 0).trans rfl, (blk_cell BK119.out 1).trans rfl, (blk_cell BK119.out 2).trans rfl, (blk_cell BK119.out 3).trans rfl, (blk_cell BK120.out 0).trans rfl, (blk_cell BK120.out 1).trans rfl, (blk_cell BK120.out 2).trans rfl, (blk_cell BK120.out 3).trans rfl, (blk_cell BK118.out 0).trans rfl, (blk_cell BK118.out 1).trans rfl, (blk_cell BK118.out 2).trans rfl, (blk_cell BK118.out 3).trans rfl, ((HB.out.cell (World.block_lt_of_cell? w _ hw165_0)).trans hw165_0)⟩ (fun hHeld => ?_); refine with_tabW slot_Split.tab16 slot_Split.bits16 (fun HT_ HW_ => ?_)
            generalize w116.drew = w117 at HO147 HO150 HO153 HO157 HO160 HO163 BK118 BK119 BK120 HB hx165_0 hHeld ⊢
            refine pure_ (i := 2) (N := some 77) (v := ?_) (a' := ?_) #[false, false, true, false, false, false, false, false, false, false, false] rfl rfl (any_of HT_.out (by kernel_rfl)) (fun _ _ _ h => h) (Or.inl ⟨by rfl, ?_⟩) ?_ ?_
            rotate_left
            ·intro w'
             go_simp
             with_reducible rfl
            rotate_left
            ·simp only [Act.put, List.setIfInBounds_toArray, List.set_cons_zero, List.set_cons_succ, i64_w, i32_w]
             rfl
            refine pure_ (i := 4) (N := some 79) (v := ?_) (a' := ?_) #[false, false, true, false, true, false, false, false, false, false, false] rfl rfl (any_of HT_.out (by kernel_rfl)) (fun _ _ _ h => h) (Or.inl ⟨by rfl, ?_⟩) ?_ ?_
            rotate_left
            ·intro w'
             go_simp
             with_reducible rfl
            rotate_left
            ·simp only [Act.put, List.setIfInBounds_toArray, List.set_cons_zero, List.set_cons_succ, i64_w, i32_w]
             rfl
            refine take_ (i := 0) (N := some 75) (v := ?_) (a' := ?_) #[true, false, true, false, true, false, false, false, false, false, false] rfl rfl (take_ofW HT_.out HW_.out (by kernel_rfl)) (fun _ _ _ h => h) (Or.inl ⟨by rfl, ?_⟩) hHeld ?_ ?_
            rotate_left
            ·rintro w' ⟨s0, s1, s2, s3, s4, s5, s6, s7, s8, s9, s10, s11, s12⟩
             go_simp
             with_reducible rfl
            rotate_left
            ·simp only [Act.put, List.setIfInBounds_toArray, List.set_cons_zero, List.set_cons_succ, i64_w, i32_w]
             rfl
            refine take_ (i := 1) (N := some 76) (v := ?_) (a' := ?_) #[true, true, true, false, true, false, false, false, false, false, false] rfl rfl (take_ofW HT_.out HW_.out (by kernel_rfl)) (fun _ _ _ h => h) (Or.inl ⟨by rfl, ?_⟩) hHeld ?_ ?_
            rotate_left
            ·rintro w' ⟨s0, s1, s2, s3, s4, s5, s6, s7, s8, s9, s10, s11, s12⟩
             go_simp
             with_reducible rfl
            rotate_left
            ·simp only [Act.put, List.setIfInBounds_toArray, List.set_cons_zero, List.set_cons_succ, i64_w, i32_w]
             rfl
            refine take_ (i := 3) (N := some 78) (v := ?_) (a' := ?_) #[true, true, true, true, true, false, false, false, false, false, false] rfl rfl (take_ofW HT_.out HW_.out (by kernel_rfl)) (fun _ _ _ h => h) (Or.inl ⟨by rfl, ?_⟩) hHeld ?_ ?_
            rotate_left
            ·rintro w' ⟨s0, s1, s2, s3, s4, s5, s6, s7, s8, s9, s10, s11, s12⟩
             go_simp
             with_reducible rfl
            rotate_left
            ·simp only [Act.put, List.setIfInBounds_toArray, List.set_cons_zero, List.set_cons_succ, i64_w, i32_w]
             rfl
            refine pure_ (i := 5) (N := some 80) (v := ?_) (a' := ?_) #[true, true, true, true, true, true, false, false, false, false, false] rfl rfl (any_of HT_.out (by kernel_rfl)) (fun _ _ _ h => h) (Or.inl ⟨by rfl, ?_⟩) ?_ ?_
            rotate_left
            ·intro w'
             go_simp
             with_reducible rfl
            rotate_left
            ·simp only [Act.put, List.setIfInBounds_toArray, List.set_cons_zero, List.set_cons_succ, i64_w, i32_w]
             rfl
            refine take_ (i := 6) (N := some 81) (v := ?_) (a' := ?_) #[true, true, true, true, true, true, true, false, false, false, false] rfl rfl (take_ofW HT_.out HW_.out (by kernel_rfl)) (fun _ _ _ h => h) (Or.inl ⟨by rfl, ?_⟩) hHeld ?_ ?_
            rotate_left
            ·rintro w' ⟨s0, s1, s2, s3, s4, s5, s6, s7, s8, s9, s10, s11, s12⟩
             go_simp
             with_reducible rfl
            rotate_left
            ·simp only [Act.put, List.setIfInBounds_toArray, List.set_cons_zero, List.set_cons_succ, i64_w, i32_w]
             rfl
            refine one_ (i := 7) (N := none) #[true, true, true, true, true, true, true, true, false, false, false] rfl rfl (one_of HT_.out (by kernel_rfl)) (by decide) (fun K hK => ?_)
            have hs118 : w117.cell? ⟨gb119, 0, none⟩ = some (.bool t144) := (blk_cell BK119.out 0).trans rfl
            have hfs118 := blk_frozen BK119.out 0
            have hns118_0 := NB118_119.out
            have hns118_2 := NB120_119.out
            have hms118_0 := NB119_118.out
            have hms118_2 := NB119_120.out
            have hs119 : w117.cell? ⟨gb119, 1, none⟩ = some (.slice Ao100 t145.length co100) := (blk_cell BK119.out 1).trans rfl
            have hfs119 := blk_frozen BK119.out 1
            have hns119_0 := NB118_119.out
            have hns119_2 := NB120_119.out
            have hms119_0 := NB119_118.out
            have hms119_2 := NB119_120.out
            have hs120 : w117.cell? ⟨gb119, 2, none⟩ = some (.slice Ao102 t148.length co102) := (blk_cell BK119.out 2).trans rfl
            have hfs120 := blk_frozen BK119.out 2
            have hns120_0 := NB118_119.out
            have hns120_2 := NB120_119.out
            have hms120_0 := NB119_118.out
            have hms120_2 := NB119_120.out
            have hs121 : w117.cell? ⟨gb119, 3, none⟩ = some (.slice Ao104 t151.length co104) := (blk_cell BK119.out 3).trans rfl
            have hfs121 := blk_frozen BK119.out 3
            have hns121_0 := NB118_119.out
            have hns121_2 := NB120_119.out
            have hms121_0 := NB119_118.out
            have hms121_2 := NB119_120.out
            refine skip_ (w1 := ?_) (by rfl) rfl ?_ ?_
            rotate_left
            ·go_simp
             rfl
            refine hK.out _ _ ⟨(Aid.same4 (hHeld.1) (hHeld.2.1) (hHeld.2.2.1) (hHeld.2.2.2.1) _).trans (hHeld.1), (Aid.same4 (hHeld.1) (hHeld.2.1) (hHeld.2.2.1) (hHeld.2.2.2.1) _).trans (hHeld.2.1), (Aid.same4 (hHeld.1) (hHeld.2.1) (hHeld.2.2.1) (hHeld.2.2.2.1) _).trans (hHeld.2.2.1), (Aid.same4 (hHeld.1) (hHeld.2.1) (hHeld.2.2.1) (hHeld.2.2.2.1) _).trans (hHeld.2.2.2.1), (Aid.same4 (hHeld.1) (hHeld.2.1) (hHeld.2.2.1) (hHeld.2.2.2.1) _).trans (hHeld.2.2.2.2.1), (Aid.same4 (hHeld.1) (hHeld.2.1) (hHeld.2.2.1) (hHeld.2.2.2.1) _).trans (hHeld.2.2.2.2.2.1), (Aid.same4 (hHeld.1) (hHeld.2.1) (hHeld.2.2.1) (hHeld.2.2.2.1) _).trans (hHeld.2.2.2.2.2.2.1), (Aid.same4 (hHeld.1) (hHeld.2.1) (hHeld.2.2.1) (hHeld.2.2.2.1) _).trans (hHeld.2.2.2.2.2.2.2.1), (Aid.same4 (hHeld.1) (hHeld.2.1) (hHeld.2.2.1) (hHeld.2.2.2.1) _).trans (hHeld.2.2.2.2.2.2.2.2.1), (Aid.same4 (hHeld.1) (hHeld.2.1) (hHeld.2.2.1) (hHeld.2.2.2.1) _).trans (hHeld.2.2.2.2.2.2.2.2.2.1), (Aid.same4 (hHeld.1) (hHeld.2.1) (hHeld.2.2.1) (hHeld.2.2.2.1) _).trans (hHeld.2.2.2.2.2.2.2.2.2.2.1), (Aid.same4 (hHeld.1) (hHeld.2.1) (hHeld.2.2.1) (hHeld.2.2.2.1) _).trans (hHeld.2.2.2.2.2.2.2.2.2.2.2.1), (Aid.same4 (hHeld.1) (hHeld.2.1) (hHeld.2.2.1) (hHeld.2.2.2.1) _).trans (hHeld.2.2.2.2.2.2.2.2.2.2.2.2)⟩ (fun hHeld => ?_)
            clear hK K
            refine one_ (i := 8) (N := none) #[true, true, true, true, true, true, true, true, true, false, false] rfl rfl (one_of HT_.out (by kernel_rfl)) (by decide) (fun K hK => ?_)
            have hs122 : w117.cell? ⟨gb120, 0, none⟩ = some (.bool t154) := (blk_cell BK120.out 0).trans rfl
            have hfs122 := blk_frozen BK120.out 0
            have hns122_0 := NB118_120.out
            have hns122_1 := NB119_120.out
            have hms122_0 := NB120_118.out
            have hms122_1 := NB120_119.out
            have hs123 : w117.cell? ⟨gb120, 1, none⟩ = some (.slice Ao107 t155.length co107) := (blk_cell BK120.out 1).trans rfl
            have hfs123 := blk_frozen BK120.out 1
            have hns123_0 := NB118_120.out
            have hns123_1 := NB119_120.out
            have hms123_0 := NB120_118.out
            have hms123_1 := NB120_119.out
            have hs124 : w117.cell? ⟨gb120, 2, none⟩ = some (.slice Ao109 t158.length co109) := (blk_cell BK120.out 2).trans rfl
            have hfs124 := blk_frozen BK120.out 2
            have hns124_0 := NB118_120.out
            have hns124_1 := NB119_120.out
            have hms124_0 := NB120_118.out
            have hms124_1 := NB120_119.out
            have hs125 : w117.cell? ⟨gb120, 3, none⟩ = some (.slice Ao111 t161.length co111) := (blk_cell BK120.out 3).trans rfl
            have hfs125 := blk_frozen BK120.out 3
            have hns125_0 := NB118_120.out
            have hns125_1 := NB119_120.out
            have hms125_0 := NB120_118.out
            have hms125_1 := NB120_119.out
            refine skip_ (w1 := ?_) (by rfl) rfl ?_ ?_
            rotate_left
            ·go_simp
             rfl
            refine hK.out _ _ ⟨(Aid.same4 (hHeld.2.2.2.2.1) (hHeld.2.2.2.2.2.1) (hHeld.2.2.2.2.2.2.1) (hHeld.2.2.2.2.2.2.2.1) _).trans (hHeld.1), (Aid.same4 (hHeld.2.2.2.2.1) (hHeld.2.2.2.2.2.1) (hHeld.2.2.2.2.2.2.1) (hHeld.2.2.2.2.2.2.2.1) _).trans (hHeld.2.1), (Aid.same4 (hHeld.2.2.2.2.1) (hHeld.2.2.2.2.2.1) (hHeld.2.2.2.2.2.2.1) (hHeld.2.2.2.2.2.2.2.1) _).trans (hHeld.2.2.1), (Aid.same4 (hHeld.2.2.2.2.1) (hHeld.2.2.2.2.2.1) (hHeld.2.2.2.2.2.2.1) (hHeld.2.2.2.2.2.2.2.1) _).trans (hHeld.2.2.2.1), (Aid.same4 (hHeld.2.2.2.2.1) (hHeld.2.2.2.2.2.1) (hHeld.2.2.2.2.2.2.1) (hHeld.2.2.2.2.2.2.2.1) _).trans (hHeld.2.2.2.2.1), (Aid.same4 (hHeld.2.2.2.2.1) (hHeld.2.2.2.2.2.1) (hHeld.2.2.2.2.2.2.1) (hHeld.2.2.2.2.2.2.2.1) _).trans (hHeld.2.2.2.2.2.1), (Aid.same4 (hHeld.2.2.2.2.1) (hHeld.2.2.2.2.2.1) (hHeld.2.2.2.2.2.2.1) (hHeld.2.2.2.2.2.2.2.1) _).trans (hHeld.2.2.2.2.2.2.1), (Aid.same4 (hHeld.2.2.2.2.1) (hHeld.2.2.2.2.2.1) (hHeld.2.2.2.2.2.2.1) (hHeld.2.2.2.2.2.2.2.1) _).trans (hHeld.2.2.2.2.2.2.2.1), (Aid.same4 (hHeld.2.2.2.2.1) (hHeld.2.2.2.2.2.1) (hHeld.2.2.2.2.2.2.1) (hHeld.2.2.2.2.2.2.2.1) _).trans (hHeld.2.2.2.2.2.2.2.2.1), (Aid.same4 (hHeld.2.2.2.2.1) (hHeld.2.2.2.2.2.1) (hHeld.2.2.2.2.2.2.1) (hHeld.2.2.2.2.2.2.2.1) _).trans (hHeld.2.2.2.2.2.2.2.2.2.1), (Aid.same4 (hHeld.2.2.2.2.1) (hHeld.2.2.2.2.2.1) (hHeld.2.2.2.2.2.2.1) (hHeld.2.2.2.2.2.2.2.1) _).trans (hHeld.2.2.2.2.2.2.2.2.2.2.1), (Aid.same4 (hHeld.2.2.2.2.1) (hHeld.2.2.2.2.2.1) (hHeld.2.2.2.2.2.2.1) (hHeld.2.2.2.2.2.2.2.1) _).trans (hHeld.2.2.2.2.2.2.2.2.2.2.2.1), (Aid.same4 (hHeld.2.2.2.2.1) (hHeld.2.2.2.2.2.1) (hHeld.2.2.2.2.2.2.1) (hHeld.2.2.2.2.2.2.2.1) _).trans (hHeld.2.2.2.2.2.2.2.2.2.2.2.2)⟩ (fun hHeld => ?_)
            clear hK K
            refine pure_ (i := 9) (N := some 4) (v := ?_) (a' := ?_) #[true, true, true, true, true, true, true, true, true, true, false] rfl rfl (any_of HT_.out (by kernel_rfl)) (fun _ _ _ h => h) (Or.inl ⟨by rfl, ?_⟩) ?_ ?_
            rotate_left
            ·intro w'
             go_simp
             with_reducible rfl
            rotate_left
            ·simp only [Act.put, List.setIfInBounds_toArray, List.set_cons_zero, List.set_cons_succ, i64_w, i32_w]
             rfl
            refine pure_ (i := 10) (N := some 5) (v := ?_) (a' := ?_) #[true, true, true, true, true, true, true, true, true, true, true] rfl rfl (any_of HT_.out (by kernel_rfl)) (fun _ _ _ h => h) (Or.inl ⟨by rfl, ?_⟩) ?_ ?_
            rotate_left
            ·intro w'
             go_simp
             with_reducible rfl
            rotate_left
            ·simp only [Act.put, List.setIfInBounds_toArray, List.set_cons_zero, List.set_cons_succ, i64_w, i32_w]
             rfl
            refine done_ (done_of HT_.out (by kernel_rfl)) ?_
            try go_wp2
            refine bodyPost_ret (results_list (rs := [.cell 2 26, .cell 3 26, .tmp 4, .tmp 5]) rfl (by simp) (.cell gb119 26 #[.bool t144, .slice Ao100 t145.length co100, .slice Ao102 t148.length co102, .slice Ao104 t151.length co104] (0, 0) _ rfl (by (with_reducible repeat (first | refine blk_drewN ?_ _ | refine blk_drew ?_ | refine blk_alloc ?_ _)); refine blk_far ?_ NB119_120.out _; (with_reducible repeat (first | refine blk_drewN ?_ _ | refine blk_drew ?_ | refine blk_alloc ?_ _)); refine blk_far ?_ NB119_120.out _; (with_reducible repeat (first | refine blk_drewN ?_ _ | refine blk_drew ?_ | refine blk_alloc ?_ _)); refine blk_far ?_ NB119_120.out _; (with_reducible repeat (first | refine blk_drewN ?_ _ | refine blk_drew ?_ | refine blk_alloc ?_ _)); refine blk_far ?_ NB119_120.out _; (with_reducible repeat (first | refine blk_drewN ?_ _ | refine blk_drew ?_ | refine blk_alloc ?_ _)); refine blk_put (cs := #[.bool t144, .slice Ao100 t145.length co100, .slice Ao102 t148.length co102, .slice Ao104 t151.length co104]) ?_ 3 _ rfl; (with_reducible repeat (first | refine blk_drewN ?_ _ | refine blk_drew ?_ | refine blk_alloc ?_ _)); refine blk_put (cs := #[.bool t144, .slice Ao100 t145.length co100, .slice Ao102 t148.length co102, .slice Ao104 t151.length co104]) ?_ 2 _ rfl; (with_reducible repeat (first | refine blk_drewN ?_ _ | refine blk_drew ?_ | refine blk_alloc ?_ _)); refine blk_put (cs := #[.bool t144, .slice Ao100 t145.length co100, .slice Ao102 t148.length co102, .slice Ao104 t151.length co104]) ?_ 1 _ rfl; (with_reducible repeat (first | refine blk_drewN ?_ _ | refine blk_drew ?_ | refine blk_alloc ?_ _)); refine blk_put (cs := #[.bool t144, .slice Ao100 t145.length co100, .slice Ao102 t148.length co102, .slice Ao104 t151.length co104]) ?_ 0 _ rfl; (with_reducible repeat (first | refine blk_drewN ?_ _ | refine blk_drew ?_ | refine blk_alloc ?_ _)); exact BK119.out) Try.underlying26 rfl (by kernel_rfl) (.cell gb120 26 #[.bool t154, .slice Ao107 t155.length co107, .slice Ao109 t158.length co109, .slice Ao111 t161.length co111] (0, 0) _ rfl (by (with_reducible repeat (first | refine blk_drewN ?_ _ | refine blk_drew ?_ | refine blk_alloc ?_ _)); refine blk_put (cs := #[.bool t154, .slice Ao107 t155.length co107, .slice Ao109 t158.length co109, .slice Ao111 t161.length co111]) ?_ 3 _ rfl; (with_reducible repeat (first | refine blk_drewN ?_ _ | refine blk_drew ?_ | refine blk_alloc ?_ _)); refine blk_put (cs := #[.bool t154, .slice Ao107 t155.length co107, .slice Ao109 t158.length co109, .slice Ao111 t161.length co111]) ?_ 2 _ rfl; (with_reducible repeat (first | refine blk_drewN ?_ _ | refine blk_drew ?_ | refine blk_alloc ?_ _)); refine blk_put (cs := #[.bool t154, .slice Ao107 t155.length co107, .slice Ao109 t158.length co109, .slice Ao111 t161.length co111]) ?_ 1 _ rfl; (with_reducible repeat (first | refine blk_drewN ?_ _ | refine blk_drew ?_ | refine blk_alloc ?_ _)); refine blk_put (cs := #[.bool t154, .slice Ao107 t155.length co107, .slice Ao109 t158.length co109, .slice Ao111 t161.length co111]) ?_ 0 _ rfl; (with_reducible repeat (first | refine blk_drewN ?_ _ | refine blk_drew ?_ | refine blk_alloc ?_ _)); refine blk_far ?_ NB120_119.out _; (with_reducible repeat (first | refine blk_drewN ?_ _ | refine blk_drew ?_ | refine blk_alloc ?_ _)); refine blk_far ?_ NB120_119.out _; (with_reducible repeat (first | refine blk_drewN ?_ _ | refine blk_drew ?_ | refine blk_alloc ?_ _)); refine blk_far ?_ NB120_119.out _; (with_reducible repeat (first | refine blk_drewN ?_ _ | refine blk_drew ?_ | refine blk_alloc ?_ _)); refine blk_far ?_ NB120_119.out _; (with_reducible repeat (first | refine blk_drewN ?_ _ | refine blk_drew ?_ | refine blk_alloc ?_ _)); exact BK120.out) Try.underlying26 rfl (by kernel_rfl) (.tmp (.tmp .nil))))) rfl ?_
            exact ⟨_, _, _, _, _, _, by first | rfl | (simp [errW_none, errW_some] <;> rfl) | (simp [*, errW_none, errW_some] <;> rfl), by (with_reducible repeat (first | apply Kd.R_alloc | apply Kd.R_drewN | apply Kd.R_drew)); exact Kd.R_mono (Kd.R_far (p := ⟨gb120, 3, none⟩) (Kd.R_far (p := ⟨gb120, 2, none⟩) (Kd.R_far (p := ⟨gb120, 1, none⟩) (Kd.R_far (p := ⟨gb120, 0, none⟩) (Kd.R_far (p := ⟨gb119, 3, none⟩) (Kd.R_far (p := ⟨gb119, 2, none⟩) (Kd.R_far (p := ⟨gb119, 1, none⟩) (Kd.R_far (p := ⟨gb119, 0, none⟩) (Kd.R_types (Kd.R_types HO147.out BK119.out (by decide)) BK120.out (by decide)) (fun _ hk => hk.1.2) (.bool t144)) (fun _ hk => hk.1.2) (.slice Ao100 t145.length co100)) (fun _ hk => hk.1.2) (.slice Ao102 t148.length co102)) (fun _ hk => hk.1.2) (.slice Ao104 t151.length co104)) (fun _ hk => hk.2) (.bool t154)) (fun _ hk => hk.2) (.slice Ao107 t155.length co107)) (fun _ hk => hk.2) (.slice Ao109 t158.length co109)) (fun _ hk => hk.2) (.slice Ao111 t161.length co111)) (fun _ hk => hk.1.1), by (with_reducible repeat (first | apply Kd.R_alloc | apply Kd.R_drewN | apply Kd.R_drew)); exact Kd.R_mono (Kd.R_far (p := ⟨gb120, 3, none⟩) (Kd.R_far (p := ⟨gb120, 2, none⟩) (Kd.R_far (p := ⟨gb120, 1, none⟩) (Kd.R_far (p := ⟨gb120, 0, none⟩) (Kd.R_far (p := ⟨gb119, 3, none⟩) (Kd.R_far (p := ⟨gb119, 2, none⟩) (Kd.R_far (p := ⟨gb119, 1, none⟩) (Kd.R_far (p := ⟨gb119, 0, none⟩) (Kd.R_types (Kd.R_types HO150.out BK119.out (by decide)) BK120.out (by decide)) (fun _ hk => hk.1.2) (.bool t144)) (fun _ hk => hk.1.2) (.slice Ao100 t145.length co100)) (fun _ hk => hk.1.2) (.slice Ao102 t148.length co102)) (fun _ hk => hk.1.2) (.slice Ao104 t151.length co104)) (fun _ hk => hk.2) (.bool t154)) (fun _ hk => hk.2) (.slice Ao107 t155.length co107)) (fun _ hk => hk.2) (.slice Ao109 t158.length co109)) (fun _ hk => hk.2) (.slice Ao111 t161.length co111)) (fun _ hk => hk.1.1), by (with_reducible repeat (first | apply Kd.R_alloc | apply Kd.R_drewN | apply Kd.R_drew)); exact Kd.R_mono (Kd.R_far (p := ⟨gb120, 3, none⟩) (Kd.R_far (p := ⟨gb120, 2, none⟩) (Kd.R_far (p := ⟨gb120, 1, none⟩) (Kd.R_far (p := ⟨gb120, 0, none⟩) (Kd.R_far (p := ⟨gb119, 3, none⟩) (Kd.R_far (p := ⟨gb119, 2, none⟩) (Kd.R_far (p := ⟨gb119, 1, none⟩) (Kd.R_far (p := ⟨gb119, 0, none⟩) (Kd.R_types (Kd.R_types HO153.out BK119.out (by decide)) BK120.out (by decide)) (fun _ hk => hk.1.2) (.bool t144)) (fun _ hk => hk.1.2) (.slice Ao100 t145.length co100)) (fun _ hk => hk.1.2) (.slice Ao102 t148.length co102)) (fun _ hk => hk.1.2) (.slice Ao104 t151.length co104)) (fun _ hk => hk.2) (.bool t154)) (fun _ hk => hk.2) (.slice Ao107 t155.length co107)) (fun _ hk => hk.2) (.slice Ao109 t158.length co109)) (fun _ hk => hk.2) (.slice Ao111 t161.length co111)) (fun _ hk => hk.1.1), by (with_reducible repeat (first | apply Kd.R_alloc | apply Kd.R_drewN | apply Kd.R_drew)); exact Kd.R_mono (Kd.R_far (p := ⟨gb120, 3, none⟩) (Kd.R_far (p := ⟨gb120, 2, none⟩) (Kd.R_far (p := ⟨gb120, 1, none⟩) (Kd.R_far (p := ⟨gb120, 0, none⟩) (Kd.R_far (p := ⟨gb119, 3, none⟩) (Kd.R_far (p := ⟨gb119, 2, none⟩) (Kd.R_far (p := ⟨gb119, 1, none⟩) (Kd.R_far (p := ⟨gb119, 0, none⟩) (Kd.R_types (Kd.R_types HO157.out BK119.out (by decide)) BK120.out (by decide)) (fun _ hk => hk.1.2) (.bool t144)) (fun _ hk => hk.1.2) (.slice Ao100 t145.length co100)) (fun _ hk => hk.1.2) (.slice Ao102 t148.length co102)) (fun _ hk => hk.1.2) (.slice Ao104 t151.length co104)) (fun _ hk => hk.2) (.bool t154)) (fun _ hk => hk.2) (.slice Ao107 t155.length co107)) (fun _ hk => hk.2) (.slice Ao109 t158.length co109)) (fun _ hk => hk.2) (.slice Ao111 t161.length co111)) (fun _ hk => hk.1.1), by (with_reducible repeat (first | apply Kd.R_alloc | apply Kd.R_drewN | apply Kd.R_drew)); exact Kd.R_mono (Kd.R_far (p := ⟨gb120, 3, none⟩) (Kd.R_far (p := ⟨gb120, 2, none⟩) (Kd.R_far (p := ⟨gb120, 1, none⟩) (Kd.R_far (p := ⟨gb120, 0, none⟩) (Kd.R_far (p := ⟨gb119, 3, none⟩) (Kd.R_far (p := ⟨gb119, 2, none⟩) (Kd.R_far (p := ⟨gb119, 1, none⟩) (Kd.R_far (p := ⟨gb119, 0, none⟩) (Kd.R_types (Kd.R_types HO160.out BK119.out (by decide)) BK120.out (by decide)) (fun _ hk => hk.1.2) (.bool t144)) (fun _ hk => hk.1.2) (.slice Ao100 t145.length co100)) (fun _ hk => hk.1.2) (.slice Ao102 t148.length co102)) (fun _ hk => hk.1.2) (.slice Ao104 t151.length co104)) (fun _ hk => hk.2) (.bool t154)) (fun _ hk => hk.2) (.slice Ao107 t155.length co107)) (fun _ hk => hk.2) (.slice Ao109 t158.length co109)) (fun _ hk => hk.2) (.slice Ao111 t161.length co111)) (fun _ hk => hk.1.1), by (with_reducible repeat (first | apply Kd.R_alloc | apply Kd.R_drewN | apply Kd.R_drew)); exact Kd.R_mono (Kd.R_far (p := ⟨gb120, 3, none⟩) (Kd.R_far (p := ⟨gb120, 2, none⟩) (Kd.R_far (p := ⟨gb120, 1, none⟩) (Kd.R_far (p := ⟨gb120, 0, none⟩) (Kd.R_far (p := ⟨gb119, 3, none⟩) (Kd.R_far (p := ⟨gb119, 2, none⟩) (Kd.R_far (p := ⟨gb119, 1, none⟩) (Kd.R_far (p := ⟨gb119, 0, none⟩) (Kd.R_types (Kd.R_types HO163.out BK119.out (by decide)) BK120.out (by decide)) (fun _ hk => hk.1.2) (.bool t144)) (fun _ hk => hk.1.2) (.slice Ao100 t145.length co100)) (fun _ hk => hk.1.2) (.slice Ao102 t148.length co102)) (fun _ hk => hk.1.2) (.slice Ao104 t151.length co104)) (fun _ hk => hk.2) (.bool t154)) (fun _ hk => hk.2) (.slice Ao107 t155.length co107)) (fun _ hk => hk.2) (.slice Ao109 t158.length co109)) (fun _ hk => hk.2) (.slice Ao111 t161.length co111)) (fun _ hk => hk.1.1), by repeat (first | (with_reducible first | exact HB.out | apply below_alloc | apply pw_below_drewN | apply below_drew1 | refine below_set ?_ GE118.out | refine below_set ?_ GE119.out | refine below_set ?_ GE120.out) | exact HB.out)⟩
           ·rw [if_neg c95] at H
            exact absurd H (by simp)
          ·rw [if_neg c94] at H
           exact absurd H (by simp)

end Go.Proofs.Ytbkcoddcgfclaaa.MSb
