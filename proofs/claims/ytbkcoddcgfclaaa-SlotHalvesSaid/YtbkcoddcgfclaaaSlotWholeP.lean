/- What is split, joined again: the plain facts. -/
import Derived.Test.YtbkcoddcgfclaaaSlotSplit
import Derived.Test.YtbkcoddcgfclaaaSlotOrd
set_option linter.unusedSimpArgs false
set_option linter.unusedVariables false
namespace Go.Proofs.Ytbkcoddcgfclaaa.SP
open Go.RowKit Go.Proofs.Ytbkcoddcgfclaaa.MSb Go.Proofs.Ytbkcoddcgfclaaa.Ext Go.Proofs.YtbkcoddcgfclaaaW.PrintWords Go.Proofs.YtbkcoddcgfclaaaW.PrintLast Go.Proofs.YtbkcoddcgfclaaaW.PrintMore

/-- All that SlotWhole asks of a split. -/
structure Whole (leaf : Bool) (cells : List MSlot.S43) (keys : List ByteArray) (kids : List Int) (lc : List MSlot.S43) (lk : List ByteArray) (ld : List Int) (rc : List MSlot.S43) (rk : List ByteArray) (rd : List Int) (key : ByteArray) : Prop where
  cm : checkB leaf cells keys kids = true
  cl : checkB leaf lc lk ld = true
  cr : checkB leaf rc rk rd = true
  jc : lc ++ rc = cells
  jk : (if leaf then [] else lk ++ key :: rk) = keys
  jd : (if leaf then [] else ld ++ rd) = kids
  sl : sizeN leaf lc lk < sizeN leaf cells keys
  sr : sizeN leaf rc rk < sizeN leaf cells keys
  pc : ∀ x ∈ lc, less x.f0 key = true
  qc : ∀ x ∈ rc, less x.f0 key = false
  pk : ∀ x ∈ lk, less x key = true
  qk : ∀ x ∈ rk, less key x = true
theorem whole_leaf {cells : List MSlot.S43} {keys : List ByteArray} {kids : List Int} (h : checkB true cells keys kids = true) (c : Nat) (h1 : 1 ≤ c) (h2 : c < cells.length) :
    Whole true cells keys kids (cells.take c) [] [] (cells.drop c) [] [] (MSlot.rd_T43 cells (c : Int)).f0 := by
  obtain ⟨n1, n2, n3, n4, n5, n6⟩ := check_parts h
  unfold shapeB at n3
  simp only [if_true, Bool.and_eq_true, decide_eq_true_eq] at n3
  obtain ⟨k1, k2⟩ := n3
  have hk := List.eq_nil_of_length_eq_zero k1
  have hd := List.eq_nil_of_length_eq_zero k2
  subst hk hd
  have hkey : MSlot.rd_T43 cells (c : Int) = cells[c] := by
    unfold MSlot.rd_T43
    rw [Int.toNat_natCast, List.getD_eq_getElem?_getD, List.getElem?_eq_getElem h2]
    rfl
  rw [hkey]
  obtain ⟨m1, m2⟩ := (adjC_iff cells).1 n4
  have hsp : cells.take c ++ cells.drop c = cells := List.take_append_drop c cells
  have hdr : cells.drop c = cells[c] :: cells.drop (c + 1) := List.drop_eq_getElem_cons h2
  have hp := m2
  rw [← hsp] at hp
  obtain ⟨p1, p2, p3⟩ := List.pairwise_append.1 hp
  have hs : sumC cells = sumC (cells.take c) + sumC (cells.drop c) := by rw [← sumC_app, hsp]
  have s1 := sumC_pos (l := cells.take c) (by simp; omega)
  have s2 := sumC_pos (l := cells.drop c) (by simp; omega)
  refine ⟨h, ?_, ?_, hsp, rfl, rfl, ?_, ?_, ?_, ?_, by simp, by simp⟩
  · exact checkB_of (by simp; omega) (by simp) rfl ((adjC_iff _).2 ⟨fun k hk => m1 k (List.mem_of_mem_take hk), p1⟩) rfl rfl
  · exact checkB_of (by simp; omega) (by simp) rfl ((adjC_iff _).2 ⟨fun k hk => m1 k (List.mem_of_mem_drop hk), p2⟩) rfl rfl
  · unfold sizeN; omega
  · unfold sizeN; omega
  · intro x hx
    exact p3 x hx _ (hdr ▸ List.mem_cons_self)
  · intro x hx
    rw [hdr] at hx p2
    rcases List.mem_cons.1 hx with rfl | hx
    · exact less_irrefl _
    · exact less_asymm ((List.pairwise_cons.1 p2).1 x hx)
theorem whole_branch {cells : List MSlot.S43} {keys : List ByteArray} {kids : List Int} (h : checkB false cells keys kids = true) (c : Nat) (h1 : 1 ≤ c) (h2 : c + 1 < keys.length) :
    Whole false cells keys kids [] (keys.take c) (kids.take (c + 1)) [] (keys.drop (c + 1)) (kids.drop (c + 1)) (rdOf ByteArray.empty keys (c : Int)) := by
  obtain ⟨n1, n2, n3, n4, n5, n6⟩ := check_parts h
  unfold shapeB at n3
  simp only [Bool.false_eq_true, if_false, Bool.and_eq_true, decide_eq_true_eq] at n3
  obtain ⟨k1, k2⟩ := n3
  have hk := List.eq_nil_of_length_eq_zero k1
  subst hk
  have h3 : c < keys.length := by omega
  have hkey : rdOf ByteArray.empty keys (c : Int) = keys[c] := by
    unfold rdOf
    rw [Int.toNat_natCast, List.getD_eq_getElem?_getD, List.getElem?_eq_getElem h3]
    rfl
  rw [hkey]
  obtain ⟨m1, m2⟩ := (adjK_iff keys).1 n5
  have hsp : keys.take c ++ keys[c] :: keys.drop (c + 1) = keys := by
    rw [← List.drop_eq_getElem_cons h3]
    exact List.take_append_drop c keys
  have hp := m2
  rw [← hsp] at hp
  obtain ⟨p1, p2, p3⟩ := List.pairwise_append.1 hp
  obtain ⟨p4, p5⟩ := List.pairwise_cons.1 p2
  have hs : sumK keys = sumK (keys.take c) + (5 + keys[c].size + sumK (keys.drop (c + 1))) := by
    conv => lhs; rw [← hsp, sumK_app]
    rfl
  rw [List.all_eq_true] at n6
  refine ⟨h, ?_, ?_, rfl, hsp, List.take_append_drop _ _, ?_, ?_, by simp, by simp, ?_, ?_⟩
  · exact checkB_of (by simp) (by simp; omega) (by unfold shapeB; simp; omega) rfl ((adjK_iff _).2 ⟨fun k hk => m1 k (List.mem_of_mem_take hk), p1⟩) (List.all_eq_true.2 fun x hx => n6 x (List.mem_of_mem_take hx))
  · exact checkB_of (by simp) (by simp; omega) (by unfold shapeB; simp; omega) rfl ((adjK_iff _).2 ⟨fun k hk => m1 k (List.mem_of_mem_drop hk), p5⟩) (List.all_eq_true.2 fun x hx => n6 x (List.mem_of_mem_drop hx))
  · unfold sizeN; omega
  · unfold sizeN; omega
  · intro x hx
    exact p3 x hx _ List.mem_cons_self
  · exact p4
/-- Split, whole: refused, or cut so that all that SlotWhole asks holds. -/
theorem split_whole (leaf : Bool) (cells : List MSlot.S43) (keys : List ByteArray) (kids : List Int) (hs : small cells keys = true) (hd : kids.length ≤ 1000) (k : Nat) (hk : allP leaf cells keys + 3 ≤ k) :
    slot_Split.f k leaf cells keys kids = some splitNo ∨ ∃ lc lk ld rc rk rd key, Whole leaf cells keys kids lc lk ld rc rk rd key ∧ slot_Split.f k leaf cells keys kids = some (leaf, lc, lk, ld, leaf, rc, rk, rd, key, 0) := by
  rcases split_eq leaf cells keys kids hs hd k hk with h | ⟨hc, c, h1, h2, h⟩
  · exact .inl h
  · right
    obtain ⟨n1, n2, n3, n4, n5, n6⟩ := check_parts hc
    unfold shapeB at n3
    cases leaf
    · simp only [Bool.false_eq_true, if_false, Bool.and_eq_true, decide_eq_true_eq] at n3
      simp only [allP, gapP, Bool.false_eq_true, if_false] at h2
      have h3 : c + 1 < keys.length := by omega
      have h4 : kids.length ≤ keys.length + 1 := by omega
      refine ⟨[], keys.take c, kids.take (c + 1), [], keys.drop (c + 1), kids.drop (c + 1), rdOf ByteArray.empty keys (c : Int), whole_branch hc c h1 h3, h.trans ?_⟩
      unfold splitAt partP cutKey allP gapP
      simp only [Bool.false_eq_true, if_false, List.drop_zero, List.take_length]
      rw [List.take_of_length_le h4]
    · simp only [if_true, Bool.and_eq_true, decide_eq_true_eq] at n3
      simp only [allP, gapP, if_true] at h2
      refine ⟨cells.take c, [], [], cells.drop c, [], [], (MSlot.rd_T43 cells (c : Int)).f0, whole_leaf hc c h1 (by omega), h.trans ?_⟩
      unfold splitAt partP cutKey allP gapP
      simp only [if_true, List.drop_zero, List.take_length, Nat.add_zero]
end Go.Proofs.Ytbkcoddcgfclaaa.SP
