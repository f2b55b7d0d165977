/- Rising lists, in plain words. -/
import Derived.Test.YtbkcoddcgfclaaaExtB
set_option linter.unusedSimpArgs false
set_option linter.unusedVariables false
namespace Go.Proofs.Ytbkcoddcgfclaaa.SP
open Go.RowKit Go.Proofs.Ytbkcoddcgfclaaa.Ext Go.Proofs.YtbkcoddcgfclaaaW.PrintWords Go.Proofs.YtbkcoddcgfclaaaW.PrintLast Go.Proofs.YtbkcoddcgfclaaaW.PrintMore

theorem bl_trans : ∀ (a b c : List UInt8), Op.bytesLess a b = true → Op.bytesLess b c = true → Op.bytesLess a c = true
  | _, [], _, h, _ => by unfold Op.bytesLess at h; cases h
  | _, _ :: _, [], _, h => by unfold Op.bytesLess at h; cases h
  | [], _ :: _, _ :: _, _, _ => by unfold Op.bytesLess; rfl
  | a :: x, b :: y, c :: z, h1, h2 => by
    simp only [Op.bytesLess, Bool.or_eq_true, decide_eq_true_eq, Bool.and_eq_true, beq_iff_eq] at h1 h2 ⊢
    rcases h1 with h1 | ⟨rfl, h1⟩
    · rcases h2 with h2 | ⟨rfl, h2⟩
      · exact .inl (UInt8.lt_trans h1 h2)
      · exact .inl h1
    · rcases h2 with h2 | ⟨rfl, h2⟩
      · exact .inl h2
      · exact .inr ⟨rfl, bl_trans x y z h1 h2⟩
theorem bl_asymm : ∀ (a b : List UInt8), Op.bytesLess a b = true → Op.bytesLess b a = false
  | _, [], h => by unfold Op.bytesLess at h; cases h
  | [], _ :: _, _ => by unfold Op.bytesLess; rfl
  | a :: x, b :: y, h => by
    simp only [Op.bytesLess, Bool.or_eq_true, decide_eq_true_eq, Bool.and_eq_true, beq_iff_eq] at h
    rcases h with h | ⟨rfl, h⟩
    · simp only [Op.bytesLess, Bool.or_eq_false_iff, decide_eq_false_iff_not, Bool.and_eq_false_iff]
      refine ⟨fun h' => UInt8.lt_irrefl _ (UInt8.lt_trans h h'), .inl (beq_false_of_ne (fun e => ?_))⟩
      subst e
      exact UInt8.lt_irrefl _ h
    · simp only [Op.bytesLess, Bool.or_eq_false_iff, decide_eq_false_iff_not, Bool.and_eq_false_iff]
      exact ⟨fun h' => UInt8.lt_irrefl _ h', .inr (bl_asymm x y h)⟩
theorem less_trans {a b c : ByteArray} (h1 : less a b = true) (h2 : less b c = true) : less a c = true := bl_trans _ _ _ h1 h2
theorem less_asymm {a b : ByteArray} (h : less a b = true) : less b a = false := bl_asymm _ _ h
/-- A list that rises, in plain words. -/
theorem adjK_iff (l : List ByteArray) : adjK none l = true ↔ (∀ k ∈ l, keyB k = true) ∧ l.Pairwise (fun a b => less a b = true) := by
  suffices h : ∀ (l : List ByteArray) (p : Option ByteArray), adjK p l = true ↔ (∀ k ∈ l, keyB k = true) ∧ (∀ q, p = some q → ∀ k ∈ l, less q k = true) ∧ l.Pairwise (fun a b => less a b = true) by
    rw [h l none]
    simp
  intro l
  induction l with
  | nil => intro p; simp [adjK]
  | cons k r ih =>
    intro p
    rw [adjK_cons]
    simp only [Bool.and_eq_true]
    rw [ih (some k)]
    constructor
    · rintro ⟨⟨h1, h2⟩, h3, h4, h5⟩
      refine ⟨?_, ?_, ?_⟩
      · intro x hx
        rcases List.mem_cons.1 hx with rfl | hx
        · exact h1
        · exact h3 x hx
      · rintro q rfl x hx
        rcases List.mem_cons.1 hx with rfl | hx
        · exact h2
        · exact less_trans h2 (h4 k rfl x hx)
      · exact List.pairwise_cons.2 ⟨fun x hx => h4 k rfl x hx, h5⟩
    · rintro ⟨h1, h2, h3⟩
      obtain ⟨h4, h5⟩ := List.pairwise_cons.1 h3
      refine ⟨⟨h1 k (by simp), ?_⟩, fun x hx => h1 x (List.mem_cons_of_mem _ hx), ?_, h5⟩
      · cases p with
        | none => rfl
        | some q => exact h2 q rfl k (by simp)
      · rintro q hq x hx
        cases hq
        exact h4 x hx
theorem adjC_iff (l : List MSlot.S43) : adjC none l = true ↔ (∀ k ∈ l, cellB k = true) ∧ l.Pairwise (fun a b => less a.f0 b.f0 = true) := by
  suffices h : ∀ (l : List MSlot.S43) (p : Option MSlot.S43), adjC p l = true ↔ (∀ k ∈ l, cellB k = true) ∧ (∀ q, p = some q → ∀ k ∈ l, less q.f0 k.f0 = true) ∧ l.Pairwise (fun a b => less a.f0 b.f0 = true) by
    rw [h l none]
    simp
  intro l
  induction l with
  | nil => intro p; simp [adjC]
  | cons k r ih =>
    intro p
    rw [adjC_cons]
    simp only [Bool.and_eq_true]
    rw [ih (some k)]
    constructor
    · rintro ⟨⟨h1, h2⟩, h3, h4, h5⟩
      refine ⟨?_, ?_, ?_⟩
      · intro x hx
        rcases List.mem_cons.1 hx with rfl | hx
        · exact h1
        · exact h3 x hx
      · rintro q rfl x hx
        rcases List.mem_cons.1 hx with rfl | hx
        · exact h2
        · exact less_trans h2 (h4 k rfl x hx)
      · exact List.pairwise_cons.2 ⟨fun x hx => h4 k rfl x hx, h5⟩
    · rintro ⟨h1, h2, h3⟩
      obtain ⟨h4, h5⟩ := List.pairwise_cons.1 h3
      refine ⟨⟨h1 k (by simp), ?_⟩, fun x hx => h1 x (List.mem_cons_of_mem _ hx), ?_, h5⟩
      · cases p with
        | none => rfl
        | some q => exact h2 q rfl k (by simp)
      · rintro q hq x hx
        cases hq
        exact h4 x hx
theorem less_irrefl (a : ByteArray) : less a a = false := by
  cases h : less a a
  · rfl
  · exact (less_asymm h).symm.trans h |>.symm ▸ rfl
theorem sumC_app (a b : List MSlot.S43) : sumC (a ++ b) = sumC a + sumC b := by unfold sumC; simp
theorem sumK_app (a b : List ByteArray) : sumK (a ++ b) = sumK a + sumK b := by unfold sumK; simp
theorem sumC_pos {l : List MSlot.S43} (h : 1 ≤ l.length) : 1 ≤ sumC l := by
  cases l with
  | nil => simp at h
  | cons c r => unfold sumC lenC; simp only [List.map_cons, List.sum_cons]; split <;> omega
theorem checkB_of {leaf : Bool} {cells : List MSlot.S43} {keys : List ByteArray} {kids : List Int} (h1 : cells.length ≤ 255) (h2 : keys.length ≤ 255) (h3 : shapeB leaf cells keys kids = true) (h4 : adjC none cells = true) (h5 : adjK none keys = true) (h6 : kids.all idB = true) : checkB leaf cells keys kids = true := by
  unfold checkB
  simp only [Bool.and_eq_true, decide_eq_true_eq]
  exact ⟨⟨⟨⟨⟨h1, h2⟩, h3⟩, h4⟩, h5⟩, h6⟩
end Go.Proofs.Ytbkcoddcgfclaaa.SP
