/- A cell put into a leaf whose keys rise, and cut out again: plain facts. -/
import Derived.Test.YtbkcoddcgfclaaaSlotOrd
set_option linter.unusedSimpArgs false
set_option linter.unusedVariables false
namespace Go.Proofs.Ytbkcoddcgfclaaa.SP
open Go.RowKit Go.Proofs.Ytbkcoddcgfclaaa.MSlot Go.Proofs.Ytbkcoddcgfclaaa.Ext Go.Proofs.YtbkcoddcgfclaaaW.PrintWords Go.Proofs.YtbkcoddcgfclaaaW.PrintLast Go.Proofs.YtbkcoddcgfclaaaW.PrintMore

theorem cb_anti : ∀ a b : List UInt8, Lib.compareBytes a b = - Lib.compareBytes b a
  | [], [] => rfl
  | [], _ :: _ => rfl
  | _ :: _, [] => rfl
  | x :: a, y :: b => by
    have ih := cb_anti a b
    unfold Lib.compareBytes
    by_cases h : x < y
    · have h2 : ¬ y < x := fun h2 => UInt8.lt_irrefl _ (UInt8.lt_trans h h2)
      rw [if_pos h, if_neg h2, if_pos h]
    · rw [if_neg h]
      by_cases h2 : y < x
      · rw [if_pos h2, if_pos h2]; rfl
      · rw [if_neg h2, if_neg h2, if_neg h]; exact ih
theorem cb_zero : ∀ a b : List UInt8, Lib.compareBytes a b = 0 → a = b
  | [], [], _ => rfl
  | [], _ :: _, h => by simp [Lib.compareBytes] at h
  | _ :: _, [], h => by simp [Lib.compareBytes] at h
  | x :: a, y :: b, h => by
    unfold Lib.compareBytes at h
    by_cases h1 : x < y
    · rw [if_pos h1] at h; cases h
    · rw [if_neg h1] at h
      by_cases h2 : y < x
      · rw [if_pos h2] at h; cases h
      · rw [if_neg h2] at h
        have : x = y := UInt8.le_antisymm (UInt8.not_lt.1 h2) (UInt8.not_lt.1 h1)
        rw [this, cb_zero a b h]
theorem cb_refl : ∀ a : List UInt8, Lib.compareBytes a a = 0
  | [] => rfl
  | x :: a => by
    unfold Lib.compareBytes
    rw [if_neg (UInt8.lt_irrefl _), if_neg (UInt8.lt_irrefl _)]
    exact cb_refl a
theorem cb_less : ∀ a b : List UInt8, Op.bytesLess a b = true ↔ Lib.compareBytes a b = -1
  | [], [] => by simp [Op.bytesLess, Lib.compareBytes]
  | [], _ :: _ => by simp [Op.bytesLess, Lib.compareBytes]
  | _ :: _, [] => by simp [Op.bytesLess, Lib.compareBytes]
  | x :: a, y :: b => by
    have ih := cb_less a b
    unfold Lib.compareBytes
    simp only [Op.bytesLess, Bool.or_eq_true, decide_eq_true_eq, Bool.and_eq_true, beq_iff_eq]
    by_cases h : x < y
    · rw [if_pos h]
      exact ⟨fun _ => rfl, fun _ => .inl h⟩
    · rw [if_neg h]
      by_cases h2 : y < x
      · rw [if_pos h2]
        constructor
        · rintro (h3 | ⟨rfl, _⟩)
          · exact absurd h3 h
          · exact absurd h2 h
        · intro h3; cases h3
      · rw [if_neg h2]
        have : x = y := UInt8.le_antisymm (UInt8.not_lt.1 h2) (UInt8.not_lt.1 h)
        subst this
        rw [← ih]
        exact ⟨fun h3 => by rcases h3 with h3 | h3; exact absurd h3 h; exact h3.2, fun h3 => .inr ⟨rfl, h3⟩⟩
theorem toList_data (s : ByteArray) : s.toList = s.data.toList := by
  have := ByteArray.toList_eq s
  exact this
theorem less_cmp (a b : ByteArray) : less a b = true ↔ cmpB a b = -1 := by
  unfold less cmpB
  rw [cb_less, toList_data, toList_data]
theorem cmp_anti (a b : ByteArray) : cmpB a b = - cmpB b a := cb_anti _ _
theorem cmp_rng (a b : ByteArray) : cmpB a b = -1 ∨ cmpB a b = 0 ∨ cmpB a b = 1 := compareBytes_rng _ _
theorem cmp_zero {a b : ByteArray} (h : cmpB a b = 0) : a = b := by
  have := cb_zero _ _ h
  cases a with | mk a => cases b with | mk b => cases a; cases b; simp at this; rw [this]
theorem cmp_refl (a : ByteArray) : cmpB a a = 0 := cb_refl _
theorem cmp_trans {a b c : ByteArray} (h1 : cmpB a b = -1) (h2 : cmpB b c = -1) : cmpB a c = -1 := compareBytes_trans _ _ _ h1 (by unfold cmpB at h2; omega)
theorem rise_adj {l : List S43} (h : adjC none l = true) : Rise l := ((adjC_iff l).1 h).2.imp (fun h => (less_cmp _ _).1 h)
theorem posK_lt {x : S43} {r : List S43} {k : ByteArray} (h : cmpB x.f0 k < 0) : posK (x :: r) k = posK r k + 1 := by
  unfold posK
  rw [List.takeWhile_cons, decide_eq_true h]
  rfl
theorem posK_ge {x : S43} {r : List S43} {k : ByteArray} (h : ¬ cmpB x.f0 k < 0) : posK (x :: r) k = 0 := by
  unfold posK
  rw [List.takeWhile_cons, decide_eq_false h]
  rfl
theorem posK_le (l : List S43) (k : ByteArray) : posK l k ≤ l.length := by
  unfold posK
  exact (List.takeWhile_prefix _).length_le
theorem hasK_lt {x : S43} {r : List S43} {k : ByteArray} (h : cmpB x.f0 k < 0) : hasK (x :: r) k = hasK r k := by
  unfold hasK
  rw [posK_lt h]
  have e : rd_T43 (x :: r) ((posK r k + 1 : Nat) : Int) = rd_T43 r (posK r k : Int) := by
    unfold rd_T43
    rw [Int.toNat_natCast, Int.toNat_natCast]
    simp
  rw [e]
  simp
theorem hasK_ge {x : S43} {r : List S43} {k : ByteArray} (h : ¬ cmpB x.f0 k < 0) : hasK (x :: r) k = decide (cmpB x.f0 k = 0) := by
  unfold hasK
  rw [posK_ge h]
  have e : rd_T43 (x :: r) ((0 : Nat) : Int) = x := by unfold rd_T43; simp
  rw [e]
  simp
theorem hasK_nil (k : ByteArray) : hasK [] k = false := rfl
/-- Where a key stands in a leaf: those below, the one that has it, those above. -/
theorem find_parts (k : ByteArray) : ∀ (xs : List S43), Rise xs → ∃ A M B, xs = A ++ M ++ B ∧ posK xs k = A.length ∧ (∀ a ∈ A, cmpB a.f0 k = -1) ∧ (∀ b ∈ B, cmpB k b.f0 = -1) ∧ ((hasK xs k = false ∧ M = []) ∨ (hasK xs k = true ∧ ∃ d, M = [d] ∧ d.f0 = k))
  | [], _ => ⟨[], [], [], rfl, rfl, by simp, by simp, .inl ⟨rfl, rfl⟩⟩
  | x :: r, h => by
    obtain ⟨h1, h2⟩ := List.pairwise_cons.1 h
    rcases cmp_rng x.f0 k with hx | hx | hx
    · obtain ⟨A, M, B, e1, e2, e3, e4, e5⟩ := find_parts k r h2
      refine ⟨x :: A, M, B, by rw [e1]; simp, by rw [posK_lt (by omega), e2]; simp, ?_, e4, ?_⟩
      · intro a ha
        rcases List.mem_cons.1 ha with rfl | ha
        · exact hx
        · exact e3 a ha
      · rw [hasK_lt (by omega)]
        exact e5
    · have hk := cmp_zero hx
      refine ⟨[], [x], r, rfl, posK_ge (by omega), by simp, fun b hb => by rw [← hk]; exact h1 b hb, .inr ⟨?_, x, rfl, hk⟩⟩
      rw [hasK_ge (by omega), hx]
      rfl
    · have hk : cmpB k x.f0 = -1 := by rw [cmp_anti, hx]
      refine ⟨[], [], x :: r, rfl, posK_ge (by omega), by simp, ?_, .inl ⟨?_, rfl⟩⟩
      · intro b hb
        rcases List.mem_cons.1 hb with rfl | hb
        · exact hk
        · exact cmp_trans hk (h1 b hb)
      · rw [hasK_ge (by omega), hx]
        rfl
theorem pos_app (k : ByteArray) (L : List S43) : ∀ (A : List S43), (∀ a ∈ A, cmpB a.f0 k = -1) → posK (A ++ L) k = A.length + posK L k ∧ hasK (A ++ L) k = hasK L k
  | [], _ => ⟨by simp, rfl⟩
  | x :: A, h => by
    have hx := h x (by simp)
    obtain ⟨h1, h2⟩ := pos_app k L A (fun a ha => h a (by simp [ha]))
    rw [List.cons_append, posK_lt (by omega), hasK_lt (by omega), h1, h2]
    exact ⟨by simp; omega, rfl⟩
theorem pos_above (k : ByteArray) : ∀ (B : List S43), (∀ b ∈ B, cmpB k b.f0 = -1) → posK B k = 0 ∧ hasK B k = false
  | [], _ => ⟨rfl, rfl⟩
  | x :: B, h => by
    have hx := h x (by simp)
    have hy : cmpB x.f0 k = 1 := by rw [cmp_anti, hx]; rfl
    rw [posK_ge (by omega), hasK_ge (by omega), hy]
    exact ⟨rfl, rfl⟩
def putQ (xs : List S43) (k : ByteArray) : Nat := if hasK xs k = true then posK xs k + 1 else posK xs k
def putN (xs : List S43) (c : S43) : List S43 := xs.take (posK xs c.f0) ++ c :: xs.drop (putQ xs c.f0)
/-- What Put does to a leaf that rises. -/
theorem put_parts (xs : List S43) (c : S43) (h : Rise xs) : ∃ A M B, xs = A ++ M ++ B ∧ putN xs c = A ++ c :: B ∧ posK xs c.f0 = A.length ∧ M.length = (if hasK xs c.f0 = true then 1 else 0) ∧ putQ xs c.f0 ≤ xs.length ∧
    Rise (putN xs c) ∧ posK (putN xs c) c.f0 = A.length ∧ hasK (putN xs c) c.f0 = true ∧ Rise (A ++ B) ∧ hasK (A ++ B) c.f0 = false := by
  obtain ⟨A, M, B, e1, e2, e3, e4, e5⟩ := find_parts c.f0 xs h
  have hq : putQ xs c.f0 = A.length + M.length ∧ M.length = (if hasK xs c.f0 = true then 1 else 0) := by
    unfold putQ
    rw [e2]
    rcases e5 with ⟨e5, rfl⟩ | ⟨e5, d, rfl, _⟩
    · rw [e5]; exact ⟨rfl, rfl⟩
    · rw [e5]; exact ⟨rfl, rfl⟩
  obtain ⟨hq, hM⟩ := hq
  have hp : putN xs c = A ++ c :: B := by
    unfold putN
    rw [hq, e2, e1]
    congr 1
    · rw [List.append_assoc, List.take_left]
    · congr 1
      rw [show A.length + M.length = (A ++ M).length by simp, List.drop_left]
  have hAB : (∀ a ∈ A, ∀ b ∈ B, cmpB a.f0 b.f0 = -1) := fun a ha b hb => cmp_trans (e3 a ha) (e4 b hb)
  have hr := h
  rw [e1] at hr
  unfold Rise at hr
  rw [List.append_assoc] at hr
  obtain ⟨rA, rMB, _⟩ := List.pairwise_append.1 hr
  obtain ⟨_, rB, _⟩ := List.pairwise_append.1 rMB
  have hRp : Rise (A ++ c :: B) := by
    unfold Rise
    refine List.pairwise_append.2 ⟨rA, List.pairwise_cons.2 ⟨e4, rB⟩, fun a ha b hb => ?_⟩
    rcases List.mem_cons.1 hb with rfl | hb
    · exact e3 a ha
    · exact hAB a ha b hb
  have hx := pos_app c.f0 (c :: B) A e3
  have hy := pos_app c.f0 B A e3
  have hz := pos_above c.f0 B e4
  refine ⟨A, M, B, e1, hp, e2, hM, ?_, by rw [hp]; exact hRp, ?_, ?_, List.pairwise_append.2 ⟨rA, rB, hAB⟩, by rw [hy.2, hz.2]⟩
  · rw [hq, e1]; simp
  · rw [hp, hx.1, posK_ge (by rw [cmp_refl]; omega)]; rfl
  · rw [hp, hx.2, hasK_ge (by rw [cmp_refl]; omega), cmp_refl]; rfl
end Go.Proofs.Ytbkcoddcgfclaaa.SP
