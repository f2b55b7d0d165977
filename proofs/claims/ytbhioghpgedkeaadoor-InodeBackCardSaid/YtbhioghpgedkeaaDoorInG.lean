/- The chapter's example works. -/
import Derived.Test.YtbhioghpgedkeaaDoorInE
import Derived.Test.YtbhioghpgedkeaaDoorMItx9
import Derived.Deep.WholeRow
set_option linter.unusedSimpArgs false
set_option linter.unusedVariables false
namespace Go.Proofs.YtbhioghpgedkeaaDoor.IN
open Go.RowKit Go.Proofs.YtbhioghpgedkeaaDoor.MIt Go.Proofs.YtbhioghpgedkeaaDoorW.PrintWords Go.Proofs.YtbhioghpgedkeaaDoorW.PrintLast Go.Proofs.YtbhioghpgedkeaaDoorW.PrintMore

def exI : IV := ⟨2, 0, List.replicate 32 0, 3, 0, 0⟩
def exA : AV := ⟨3, 0, List.replicate 32 0⟩
set_option maxRecDepth 100000 in
def exAL : List Value := .int .i64 3 :: .int .i64 0 :: .int .u8 0 :: .int .u8 0 :: .int .u8 0 :: .int .u8 0 :: .int .u8 0 :: .int .u8 0 :: .int .u8 0 :: .int .u8 0 :: .int .u8 0 :: .int .u8 0 :: .int .u8 0 :: .int .u8 0 :: .int .u8 0 :: .int .u8 0 :: .int .u8 0 :: .int .u8 0 :: .int .u8 0 :: .int .u8 0 :: .int .u8 0 :: .int .u8 0 :: .int .u8 0 :: .int .u8 0 :: .int .u8 0 :: .int .u8 0 :: .int .u8 0 :: .int .u8 0 :: .int .u8 0 :: .int .u8 0 :: .int .u8 0 :: .int .u8 0 :: .int .u8 0 :: [.int .u8 0]
theorem exA_eq : ac exA = exAL := by kernel_rfl
theorem key_run : (inode_Key.f 20 ⟨#[97, 47, 98, 46, 99]⟩).map (fun r => (r.1.map (fun x => (x.f0, x.f1, x.f2.data.toList)), r.2)) = some ([(2, 0, [97]), (2, 0, [98, 46, 99])], 0) := by decide +kernel
theorem key_call (W : World) : Calls Tryd.prog 29 #[.string ⟨#[97, 47, 98, 46, 99]⟩] W fun e w' => ∃ (ad : Addr) (c : Nat), e = .returned (.tuple #[.slice (some ad) 2 c, .int .i64 0]) ∧ w'.cell? ⟨(ad.add 3).block, (ad.add 3).off + 2, none⟩ = some (.string ⟨#[98, 46, 99]⟩) ∧ Below W.heap.size W w' := by
  obtain ⟨r, hr, he⟩ := Option.map_eq_some_iff.1 key_run
  obtain ⟨l, x⟩ := r
  simp only [Prod.mk.injEq] at he
  obtain ⟨he, rfl⟩ := he
  refine (inode_Key.calls 20 _ l 0 W hr).mono ?_
  rintro e w' ⟨v, rfl, h, hb⟩
  have hl : l.length = 2 := by have := congrArg List.length he; simpa using this
  obtain ⟨A, c, rfl, _, hC⟩ := Kd.R_reads h
  obtain ⟨ad, rfl, _, _, h2⟩ := at_T56 hC 1 (by decide) (by rw [hl]; decide)
  have h3 : (rd_T56 l 1).f2 = ⟨#[98, 46, 99]⟩ := by
    match l, hl, he with
    | [a, b], _, he =>
      have h4 : b.f2.data.toList = [98, 46, 99] := by
        have := congrArg (fun x => (x.getD 1 (0, 0, [])).2.2) he
        exact this
      show b.f2 = _
      cases hb : b.f2 with
      | mk q =>
        rw [hb] at h4
        have h5 : q.toList = [98, 46, 99] := h4
        rw [← Array.toArray_toList (xs := q), h5]
  rw [h3] at h2
  rw [hl]
  exact ⟨ad, c, rfl, h2, hb⟩
set_option maxRecDepth 100000 in
def exIL : List Value := .int .i64 2 :: .int .i64 0 :: .int .u8 0 :: .int .u8 0 :: .int .u8 0 :: .int .u8 0 :: .int .u8 0 :: .int .u8 0 :: .int .u8 0 :: .int .u8 0 :: .int .u8 0 :: .int .u8 0 :: .int .u8 0 :: .int .u8 0 :: .int .u8 0 :: .int .u8 0 :: .int .u8 0 :: .int .u8 0 :: .int .u8 0 :: .int .u8 0 :: .int .u8 0 :: .int .u8 0 :: .int .u8 0 :: .int .u8 0 :: .int .u8 0 :: .int .u8 0 :: .int .u8 0 :: .int .u8 0 :: .int .u8 0 :: .int .u8 0 :: .int .u8 0 :: .int .u8 0 :: .int .u8 0 :: .int .u8 0 :: .int .i64 3 :: .int .i64 0 :: [.int .i64 0]
theorem exI_eq : ic exI = exIL := by kernel_rfl
theorem exI_one : exIL.toArray.all (·.oneCell') = true := by
  refine all_oneCell_toArray ?_
  rw [← exI_eq]
  intro v hv
  simp [ic, dg, exI] at hv
  rcases hv with h | h | h | h | h <;> subst h <;> rfl
theorem exI_size : (Tryd.prog.info? 24).map (·.size) = some exIL.toArray.size := by kernel_rfl
theorem dirty_ex (W : World) : Calls Tryd.prog 12 #[.agg (ic exI).toArray, .agg exAL.toArray, .bool true] W fun e w' => e = .returned (.bool true) ∧ Below W.heap.size W w' := by
  rw [← exA_eq]
  exact dirty_call exI exA true rfl W
theorem hollow_ex (W : World) : Calls Tryd.prog 10 #[.agg (ic exI).toArray] W fun e w' => e = .returned (.bool false) ∧ Below W.heap.size W w' := hollow_call exI rfl W
set_option maxHeartbeats 4000000 in
set_option maxRecDepth 100000 in
theorem works_call (w : World) : Calls Tryd.prog 16 #[] w fun e w' => e = .returned (.bool true) ∧ Below w.heap.size w w' := by
  have HL := Lib.hid (show exI.s.length = 32 from rfl)
  have HD := Lib.hid dirty_ex
  unfold exAL at HD
  have HH := Lib.hid hollow_ex
  have HK := Lib.hid key_call
  have HO := Lib.hid exI_one
  have HS := Lib.hid exI_size
  have HE := Lib.hid (congrArg List.toArray exI_eq)
  unfold exIL at HO HS HE
  go_enter Tryd.func16, Tryd.ntmps16
  go_upto_region 3 with (first | (go_at_call 29; (with_reducible refine (HK.out _).mono ?_); rintro e w1 ⟨ad, c, rfl, hx, hb1⟩; have HX := Lib.hid hx; have HB1 := Lib.hid hb1; clear hx hb1) | (refine wpList_store_row rfl 24 (.tmp 3) (.tmp 8) rfl w1.heap.size _ (by rfl) (by rfl) 24 _ (heap_alloc_new _ _) HS.out rfl HO.out ?_; rw [World.setRow_alloc_new]))
  have HI := Lib.hid (show isI (w1.alloc (.cells (ic exI).toArray 24)) w1.heap.size exI from heap_alloc_new _ _)
  have HC := Lib.hid (pw_cell_below (below_alloc (Below.refl w1.heap.size w1) (.cells (ic exI).toArray 24)) HX.out)
  have HB := Lib.hid (below_box HB1.out (below_alloc (Below.refl w1.heap.size w1) (.cells (ic exI).toArray 24)))
  rw [← HE.out]
  generalize w1.alloc (.cells (ic exI).toArray 24) = w2 at HI HC HB ⊢
  generalize w1.heap.size = g at HI ⊢
  have cx := HC.out
  simp only [Nat.reduceEqDiff, Go.Addr.add, ↓reduceIte] at cx
  go_wp2_with (first | ((with_reducible refine gate_dst (N := 24) rfl ?_); (try (refine gate_guard (by rfl) ?_; dsimp only)); refine wpList_load_row rfl 24 (.tmp 3) rfl g (by rfl) 24 (ic exI).toArray (0, 0) _ HI.out Tryd.underlying24 rfl (by rw [List.size_toArray, ic_len HL.out]; kernel_rfl) ?_) | (go_at_call 12; (with_reducible refine (HD.out _).mono ?_); rintro e w3 ⟨rfl, hb2⟩; have HJ := Lib.hid (isI.below HI.out hb2); have HX2 := Lib.hid (below_box HB.out hb2); clear hb2) | ((with_reducible refine gate_dst (N := 29) rfl ?_); (try (refine gate_guard (by rfl) ?_; dsimp only)); refine wpList_load_row rfl 24 (.tmp 3) rfl g (by rfl) 24 (ic exI).toArray (0, 0) _ HJ.out Tryd.underlying24 rfl (by rw [List.size_toArray, ic_len HL.out]; kernel_rfl) ?_) | (go_at_call 10; (with_reducible refine (HH.out _).mono ?_); rintro e w4 ⟨rfl, hb3⟩; have HX3 := Lib.hid (below_box HX2.out hb3); clear hb3))
  go_ret
  exact ⟨rfl, HX3.out⟩
end Go.Proofs.YtbhioghpgedkeaaDoor.IN
