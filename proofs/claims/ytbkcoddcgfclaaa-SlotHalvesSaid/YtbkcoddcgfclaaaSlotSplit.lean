/- Split in plain words: a node that may be and has cells enough is cut somewhere within. -/
import Derived.Test.YtbkcoddcgfclaaaNodeW
import Derived.Test.YtbkcoddcgfclaaaMSbx2
set_option linter.unusedSimpArgs false
set_option linter.unusedVariables false
namespace Go.Proofs.Ytbkcoddcgfclaaa.SP
open Go.RowKit Go.Proofs.Ytbkcoddcgfclaaa.MSb Go.Proofs.Ytbkcoddcgfclaaa.Ext Go.Proofs.YtbkcoddcgfclaaaW.PrintWords Go.Proofs.YtbkcoddcgfclaaaW.PrintLast Go.Proofs.YtbkcoddcgfclaaaW.PrintMore

theorem wI {x : Int} (h : -9223372036854775808 ≤ x ∧ x ≤ 9223372036854775807) : wrap64 x = x := by
  obtain ⟨h0, h1⟩ := h
  unfold wrap64
  omega
/-- A part of a node. -/
def partP (leaf : Bool) (cells : List MSlot.S43) (keys : List ByteArray) (kids : List Int) (a b : Nat) : Bool × List MSlot.S43 × List ByteArray × List Int :=
  if leaf = true then (true, (cells.take b).drop a, [], []) else (false, [], (keys.take b).drop a, (kids.take (b + 1)).drop a)
def allP (leaf : Bool) (cells : List MSlot.S43) (keys : List ByteArray) : Nat := if leaf = true then cells.length else keys.length
def gapP (leaf : Bool) : Nat := if leaf = true then 0 else 1
theorem part_eq (leaf : Bool) (cells : List MSlot.S43) (keys : List ByteArray) (kids : List Int) (a b : Nat) (ha : a ≤ b) (hb : b ≤ allP leaf cells keys) (hn : allP leaf cells keys ≤ 1000) (hk : leaf = false → kids.length = keys.length + 1) :
    slot_part.f leaf cells keys kids (a : Int) (b : Int) = some (partP leaf cells keys kids a b) := by
  unfold slot_part.f partP
  cases leaf
  · have hk := hk rfl
    simp only [allP, Bool.false_eq_true, if_false] at hb hn ⊢
    have hw : wrap64 ((b : Int) + 1) = ((b + 1 : Nat) : Int) := (wI (by omega)).trans (by omega)
    rw [hw, if_pos (by omega), if_pos (by omega), if_pos (by omega)]
    simp only [Int.toNat_natCast]
    unfold MSb.slices_Clone_string_string.f MSb.slices_Clone_int_int.f Ext.slices_Clone_string_string.f Ext.slices_Clone_int_int.f
    rw [if_pos (by simp; omega)]
    simp only [Option.bind_some]
    rw [if_pos (by omega), if_pos (by omega), if_pos (by simp; omega)]
    rfl
  · simp only [allP, if_true] at hb hn ⊢
    rw [if_pos (by omega), if_pos (by omega), if_pos (by omega)]
    simp only [Int.toNat_natCast]
    unfold api_Cell_45.f Ext.slices_Clone_aquifer_api_Cell_aquifer_api_Cell.f
    rw [if_pos (by simp; omega)]
    rfl
theorem small_part {leaf : Bool} {cells : List MSlot.S43} {keys : List ByteArray} {kids : List Int} (h : small cells keys = true) (a b : Nat) : small (partP leaf cells keys kids a b).2.1 (partP leaf cells keys kids a b).2.2.1 = true := by
  obtain ⟨h1, h2, h3, h4⟩ := small_of h
  unfold small partP
  cases leaf
  · simp only [Bool.false_eq_true, if_false, Bool.and_eq_true, decide_eq_true_eq, List.all_eq_true]
    refine ⟨⟨⟨by simp, by simp; omega⟩, by simp⟩, fun k hk => h4 k (List.mem_of_mem_take (List.mem_of_mem_drop hk))⟩
  · simp only [if_true, Bool.and_eq_true, decide_eq_true_eq, List.all_eq_true]
    refine ⟨⟨⟨by simp; omega, by simp⟩, fun c hc => h3 c (List.mem_of_mem_take (List.mem_of_mem_drop hc))⟩, by simp⟩
def cutKey (leaf : Bool) (cells : List MSlot.S43) (keys : List ByteArray) (c : Nat) : ByteArray := if leaf = true then (MSlot.rd_T43 cells (c : Int)).f0 else rdOf ByteArray.empty keys (c : Int)
/-- What Split hands back, cut at c. -/
def splitAt (leaf : Bool) (cells : List MSlot.S43) (keys : List ByteArray) (kids : List Int) (c : Nat) : Bool × (List MSlot.S43) × List ByteArray × List Int × Bool × (List MSlot.S43) × List ByteArray × List Int × ByteArray × Int :=
  let l := partP leaf cells keys kids 0 c
  let r := partP leaf cells keys kids (c + gapP leaf) (allP leaf cells keys)
  (l.1, l.2.1, l.2.2.1, l.2.2.2, r.1, r.2.1, r.2.2.1, r.2.2.2, cutKey leaf cells keys c, 0)
theorem split_loop (leaf : Bool) (cells : List MSlot.S43) (keys : List ByteArray) (kids : List Int) (hs : small cells keys = true) (hn : allP leaf cells keys ≤ 1000) (hk : leaf = false → kids.length = keys.length + 1) :
    ∀ (m i c k : Nat) (x9 : Int), i + m = allP leaf cells keys - gapP leaf → 1 ≤ i → 1 ≤ c → c < allP leaf cells keys - gapP leaf → m < k →
      ∃ c', 1 ≤ c' ∧ c' < allP leaf cells keys - gapP leaf ∧ slot_Split.l0 k (allP leaf cells keys : Int) (gapP leaf : Int) (c : Int) x9 (i : Int) leaf cells keys kids = some (splitAt leaf cells keys kids c') := by
  intro m
  induction m with
  | zero =>
    intro i c k x9 hi h1 hc1 hc2 hk2
    refine ⟨c, hc1, hc2, ?_⟩
    obtain ⟨k, rfl⟩ : ∃ j, k = j + 1 := ⟨k - 1, by omega⟩
    have hg : gapP leaf ≤ 1 := by unfold gapP; split <;> omega
    have hw1 : wrap64 ((allP leaf cells keys : Int) - (gapP leaf : Int)) = ((allP leaf cells keys : Int) - (gapP leaf : Int)) := wI (by omega)
    have hw2 : wrap64 ((c : Int) + (gapP leaf : Int)) = ((c + gapP leaf : Nat) : Int) := (wI (by omega)).trans (by omega)
    have p1 := part_eq leaf cells keys kids 0 c (by omega) (by omega) hn hk
    have p2 := part_eq leaf cells keys kids (c + gapP leaf) (allP leaf cells keys) (by omega) (by omega) hn hk
    rw [slot_Split.l0, hw1, if_neg (by omega), hw2]
    rw [show ((0 : Nat) : Int) = 0 from rfl] at p1
    rw [p1, p2]
    simp only [Option.bind_some]
    unfold splitAt cutKey
    cases leaf
    · simp only [allP, Bool.false_eq_true, if_false] at hc2 ⊢
      rw [if_pos (by omega), if_pos (by omega)]
    · simp only [allP, if_true] at hc2 ⊢
      rw [if_pos (by omega), if_pos (by omega)]
  | succ m ih =>
    intro i c k x9 hi h1 hc1 hc2 hk2
    obtain ⟨k, rfl⟩ : ∃ j, k = j + 1 := ⟨k - 1, by omega⟩
    have hg : gapP leaf ≤ 1 := by unfold gapP; split <;> omega
    have hw1 : wrap64 ((allP leaf cells keys : Int) - (gapP leaf : Int)) = ((allP leaf cells keys : Int) - (gapP leaf : Int)) := wI (by omega)
    have hw2 : wrap64 ((i : Int) + (gapP leaf : Int)) = ((i + gapP leaf : Nat) : Int) := (wI (by omega)).trans (by omega)
    have hw3 : wrap64 ((i : Int) + 1) = ((i + 1 : Nat) : Int) := (wI (by omega)).trans (by omega)
    have p1 := part_eq leaf cells keys kids 0 i (by omega) (by omega) hn hk
    have p2 := part_eq leaf cells keys kids (i + gapP leaf) (allP leaf cells keys) (by omega) (by omega) hn hk
    rw [show ((0 : Nat) : Int) = 0 from rfl] at p1
    have s1 : ∀ a b, MSb.slot_size.f (partP leaf cells keys kids a b).1 (partP leaf cells keys kids a b).2.1 (partP leaf cells keys kids a b).2.2.1 (partP leaf cells keys kids a b).2.2.2 = some ((sizeN (partP leaf cells keys kids a b).1 (partP leaf cells keys kids a b).2.1 (partP leaf cells keys kids a b).2.2.1 : Nat) : Int) := by
      intro a b
      unfold MSb.slot_size.f Ext.slot_size.f
      rw [if_pos (small_part hs a b)]
    rw [slot_Split.l0, hw1, if_pos (by omega), hw2, hw3, p1]
    simp only [Option.bind_some]
    rw [s1, p2]
    simp only [Option.bind_some]
    rw [s1]
    simp only [Option.bind_some]
    split
    · exact ih (i + 1) i k _ (by omega) (by omega) h1 (by omega) (by omega)
    · exact ih (i + 1) c k _ (by omega) (by omega) hc1 hc2 (by omega)
/-- A node that is refused by Split. -/
def splitNo : Bool × (List MSlot.S43) × List ByteArray × List Int × Bool × (List MSlot.S43) × List ByteArray × List Int × ByteArray × Int := (false, [], [], [], false, [], [], [], ⟨#[]⟩, 2)
theorem split_eq (leaf : Bool) (cells : List MSlot.S43) (keys : List ByteArray) (kids : List Int) (hs : small cells keys = true) (hd : kids.length ≤ 1000) (k : Nat) (hk : allP leaf cells keys + 3 ≤ k) :
    slot_Split.f k leaf cells keys kids = some splitNo ∨ (checkB leaf cells keys kids = true ∧ ∃ c, 1 ≤ c ∧ c < allP leaf cells keys - gapP leaf ∧ slot_Split.f k leaf cells keys kids = some (splitAt leaf cells keys kids c)) := by
  obtain ⟨h1, h2, h3, h4⟩ := small_of hs
  have hm : mild cells keys kids = true := by
    unfold mild
    simp only [Bool.and_eq_true, decide_eq_true_eq, List.all_eq_true]
    refine ⟨⟨⟨by omega, by omega⟩, by omega⟩, fun c hc => ?_⟩
    have := h3 c hc
    omega
  have hn : allP leaf cells keys ≤ 1000 := by unfold allP; split <;> omega
  have e : slot_Split.f k leaf cells keys kids = slot_Split.j0 k (allP leaf cells keys : Int) (gapP leaf : Int) leaf cells keys kids := by
    unfold slot_Split.f allP gapP
    cases leaf <;> rfl
  obtain ⟨k, rfl⟩ : ∃ j, k = j + 2 := ⟨k - 2, by omega⟩
  have hg : gapP leaf ≤ 1 := by unfold gapP; split <;> omega
  have hw : wrap64 (2 + (gapP leaf : Int)) = 2 + (gapP leaf : Int) := wI (by omega)
  rw [e, slot_Split.j0, hw]
  unfold MSb.slot_Check.f Ext.slot_Check.f
  rw [if_pos hm]
  simp only [Option.bind_some]
  by_cases hc : checkB leaf cells keys kids = true
  · rw [if_pos hc, if_pos rfl, slot_Split.j1]
    by_cases hl : (allP leaf cells keys : Int) < 2 + (gapP leaf : Int)
    · left
      rw [decide_eq_true hl, if_pos rfl]
      rfl
    · right
      refine ⟨hc, ?_⟩
      rw [decide_eq_false hl, if_neg (by simp)]
      obtain ⟨_, _, h5, _⟩ := check_parts hc
      have hkk : leaf = false → kids.length = keys.length + 1 := by
        rintro rfl
        unfold shapeB at h5
        simp at h5
        exact h5.2
      exact split_loop leaf cells keys kids hs hn hkk (allP leaf cells keys - gapP leaf - 1) 1 1 k _ (by omega) (by omega) (by omega) (by omega) (by omega)
  · left
    rw [if_neg hc, if_neg (by decide), slot_Split.j1, if_pos rfl]
    rfl
end Go.Proofs.Ytbkcoddcgfclaaa.SP
