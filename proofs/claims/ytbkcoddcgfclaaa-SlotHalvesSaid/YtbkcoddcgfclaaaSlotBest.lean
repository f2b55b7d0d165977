/- Where Split cuts: at the first place at which the greater part is least. -/
import Derived.Test.YtbkcoddcgfclaaaSlotSplit
import Derived.Test.YtbkcoddcgfclaaaSlotWholeP
set_option linter.unusedSimpArgs false
set_option linter.unusedVariables false
namespace Go.Proofs.Ytbkcoddcgfclaaa.SP
open Go.RowKit Go.Proofs.Ytbkcoddcgfclaaa.MSb Go.Proofs.Ytbkcoddcgfclaaa.Ext Go.Proofs.YtbkcoddcgfclaaaW.PrintWords Go.Proofs.YtbkcoddcgfclaaaW.PrintLast Go.Proofs.YtbkcoddcgfclaaaW.PrintMore

def sizePart (leaf : Bool) (cells : List MSlot.S43) (keys : List ByteArray) (kids : List Int) (a b : Nat) : Nat := sizeN (partP leaf cells keys kids a b).1 (partP leaf cells keys kids a b).2.1 (partP leaf cells keys kids a b).2.2.1
def worseP (leaf : Bool) (cells : List MSlot.S43) (keys : List ByteArray) (kids : List Int) (i : Nat) : Nat := max (sizePart leaf cells keys kids 0 i) (sizePart leaf cells keys kids (i + gapP leaf) (allP leaf cells keys))
def bestR (f : Nat → Nat) : Nat → Nat → Nat → Nat → Nat
  | 0, _, c, _ => c
  | m + 1, i, c, x => if f i < x then bestR f m (i + 1) i (f i) else bestR f m (i + 1) c x
/-- What is least stays least. -/
theorem bestR_le (f : Nat → Nat) (B : Nat) : ∀ (m i c x : Nat), f c = x → (x ≤ B ∨ ∃ j, i ≤ j ∧ j < i + m ∧ f j ≤ B) → f (bestR f m i c x) ≤ B
  | 0, i, c, x, hx, h => by
    rcases h with h | ⟨j, h1, h2, _⟩
    · unfold bestR; omega
    · omega
  | m + 1, i, c, x, hx, h => by
    unfold bestR
    by_cases hlt : f i < x
    · rw [if_pos hlt]
      refine bestR_le f B m (i + 1) i (f i) rfl ?_
      rcases h with h | ⟨j, h1, h2, h3⟩
      · left; omega
      · by_cases hj : j = i
        · left; rw [← hj]; exact h3
        · right; exact ⟨j, by omega, by omega, h3⟩
    · rw [if_neg hlt]
      refine bestR_le f B m (i + 1) c x hx ?_
      rcases h with h | ⟨j, h1, h2, h3⟩
      · exact .inl h
      · by_cases hj : j = i
        · left; rw [hj] at h3; omega
        · right; exact ⟨j, by omega, by omega, h3⟩
theorem bestR_rng (f : Nat → Nat) (n : Nat) : ∀ (m i c x : Nat), i + m = n → 1 ≤ i → 1 ≤ c → c < n → 1 ≤ bestR f m i c x ∧ bestR f m i c x < n
  | 0, i, c, x, _, _, h1, h2 => ⟨h1, h2⟩
  | m + 1, i, c, x, h0, h1, h2, h3 => by
    unfold bestR
    split
    · exact bestR_rng f n m (i + 1) i (f i) (by omega) (by omega) h1 (by omega)
    · exact bestR_rng f n m (i + 1) c x (by omega) (by omega) h2 h3
theorem mx_nat (a b : Nat) : mx (a : Int) (b : Int) = ((max a b : Nat) : Int) := by unfold mx; omega
theorem split_loop2 (leaf : Bool) (cells : List MSlot.S43) (keys : List ByteArray) (kids : List Int) (hs : small cells keys = true) (hn : allP leaf cells keys ≤ 1000) (hk : leaf = false → kids.length = keys.length + 1) :
    ∀ (m i c k x : Nat), i + m = allP leaf cells keys - gapP leaf → 1 ≤ i → 1 ≤ c → c < allP leaf cells keys - gapP leaf → m < k →
      slot_Split.l0 k (allP leaf cells keys : Int) (gapP leaf : Int) (c : Int) (x : Int) (i : Int) leaf cells keys kids = some (splitAt leaf cells keys kids (bestR (worseP leaf cells keys kids) m i c x)) := by
  intro m
  induction m with
  | zero =>
    intro i c k x hi h1 hc1 hc2 hk2
    obtain ⟨k, rfl⟩ : ∃ j, k = j + 1 := ⟨k - 1, by omega⟩
    have hg : gapP leaf ≤ 1 := by unfold gapP; split <;> omega
    have hw1 : wrap64 ((allP leaf cells keys : Int) - (gapP leaf : Int)) = ((allP leaf cells keys : Int) - (gapP leaf : Int)) := wI (by omega)
    have hw2 : wrap64 ((c : Int) + (gapP leaf : Int)) = ((c + gapP leaf : Nat) : Int) := (wI (by omega)).trans (by omega)
    have p1 := part_eq leaf cells keys kids 0 c (by omega) (by omega) hn hk
    have p2 := part_eq leaf cells keys kids (c + gapP leaf) (allP leaf cells keys) (by omega) (by omega) hn hk
    rw [slot_Split.l0, hw1, if_neg (by omega), hw2]
    rw [show ((0 : Nat) : Int) = 0 from rfl] at p1
    rw [p1, p2]
    simp only [Option.bind_some]
    unfold bestR splitAt cutKey
    cases leaf
    · simp only [allP, Bool.false_eq_true, if_false] at hc2 ⊢
      rw [if_pos (by omega), if_pos (by omega)]
    · simp only [allP, if_true] at hc2 ⊢
      rw [if_pos (by omega), if_pos (by omega)]
  | succ m ih =>
    intro i c k x hi h1 hc1 hc2 hk2
    obtain ⟨k, rfl⟩ : ∃ j, k = j + 1 := ⟨k - 1, by omega⟩
    have hg : gapP leaf ≤ 1 := by unfold gapP; split <;> omega
    have hw1 : wrap64 ((allP leaf cells keys : Int) - (gapP leaf : Int)) = ((allP leaf cells keys : Int) - (gapP leaf : Int)) := wI (by omega)
    have hw2 : wrap64 ((i : Int) + (gapP leaf : Int)) = ((i + gapP leaf : Nat) : Int) := (wI (by omega)).trans (by omega)
    have hw3 : wrap64 ((i : Int) + 1) = ((i + 1 : Nat) : Int) := (wI (by omega)).trans (by omega)
    have p1 := part_eq leaf cells keys kids 0 i (by omega) (by omega) hn hk
    have p2 := part_eq leaf cells keys kids (i + gapP leaf) (allP leaf cells keys) (by omega) (by omega) hn hk
    rw [show ((0 : Nat) : Int) = 0 from rfl] at p1
    have s1 : ∀ a b, MSb.slot_size.f (partP leaf cells keys kids a b).1 (partP leaf cells keys kids a b).2.1 (partP leaf cells keys kids a b).2.2.1 (partP leaf cells keys kids a b).2.2.2 = some ((sizePart leaf cells keys kids a b : Nat) : Int) := by
      intro a b
      unfold MSb.slot_size.f Ext.slot_size.f
      rw [if_pos (small_part hs a b)]
      rfl
    rw [slot_Split.l0, hw1, if_pos (by omega), hw2, hw3, p1]
    simp only [Option.bind_some]
    rw [s1, p2]
    simp only [Option.bind_some]
    rw [s1]
    simp only [Option.bind_some]
    rw [mx_nat]
    have hworse : max (sizePart leaf cells keys kids 0 i) (sizePart leaf cells keys kids (i + gapP leaf) (allP leaf cells keys)) = worseP leaf cells keys kids i := rfl
    rw [hworse]
    unfold bestR
    by_cases hlt : worseP leaf cells keys kids i < x
    · rw [if_pos (by omega), if_pos hlt]
      exact ih (i + 1) i k _ (by omega) (by omega) h1 (by omega) (by omega)
    · rw [if_neg (by omega), if_neg hlt]
      exact ih (i + 1) c k _ (by omega) (by omega) hc1 hc2 (by omega)
/-- Where Split cuts. -/
def bestP (leaf : Bool) (cells : List MSlot.S43) (keys : List ByteArray) (kids : List Int) : Nat := bestR (worseP leaf cells keys kids) (allP leaf cells keys - gapP leaf - 1) 1 1 1073741824
theorem split_best (leaf : Bool) (cells : List MSlot.S43) (keys : List ByteArray) (kids : List Int) (hs : small cells keys = true) (hc : checkB leaf cells keys kids = true) (ha : 2 + gapP leaf ≤ allP leaf cells keys) (k : Nat) (hk : allP leaf cells keys + 3 ≤ k) :
    slot_Split.f k leaf cells keys kids = some (splitAt leaf cells keys kids (bestP leaf cells keys kids)) := by
  obtain ⟨h1, h2, h3, h4⟩ := small_of hs
  have hm := mild_check hc
  have hn : allP leaf cells keys ≤ 1000 := by unfold allP; split <;> omega
  have e : slot_Split.f k leaf cells keys kids = slot_Split.j0 k (allP leaf cells keys : Int) (gapP leaf : Int) leaf cells keys kids := by
    unfold slot_Split.f allP gapP
    cases leaf <;> rfl
  obtain ⟨k, rfl⟩ : ∃ j, k = j + 2 := ⟨k - 2, by omega⟩
  have hg : gapP leaf ≤ 1 := by unfold gapP; split <;> omega
  have hw : wrap64 (2 + (gapP leaf : Int)) = 2 + (gapP leaf : Int) := wI (by omega)
  rw [e, slot_Split.j0, hw]
  unfold MSb.slot_Check.f Ext.slot_Check.f
  rw [if_pos hm]
  simp only [Option.bind_some]
  rw [if_pos hc, if_pos rfl, slot_Split.j1, decide_eq_false (by omega), if_neg (by simp)]
  obtain ⟨_, _, h5, _⟩ := check_parts hc
  have hkk : leaf = false → kids.length = keys.length + 1 := by
    rintro rfl
    unfold shapeB at h5
    simp at h5
    exact h5.2
  exact split_loop2 leaf cells keys kids hs hn hkk (allP leaf cells keys - gapP leaf - 1) 1 1 k 1073741824 (by omega) (by omega) (by omega) (by omega) (by omega)
theorem sumC_big {l : List MSlot.S43} (h : ∀ c ∈ l, lenC c ≤ 3000) : sumC l ≤ l.length * 3000 := by
  induction l with
  | nil => simp [sumC]
  | cons c r ih =>
    have h1 := h c (by simp)
    have h2 := ih (fun x hx => h x (by simp [hx]))
    unfold sumC at h2 ⊢
    simp only [List.map_cons, List.sum_cons, List.length_cons, Nat.add_mul]
    omega
/-- A prefix that weighs just so much, or a cell more. -/
theorem pre_of (M : Nat) : ∀ (ys : List MSlot.S43) (t : Nat), (∀ c ∈ ys, lenC c ≤ M) → 0 < t → t ≤ sumC ys → ∃ j, 1 ≤ j ∧ j ≤ ys.length ∧ t ≤ sumC (ys.take j) ∧ sumC (ys.take j) < t + M
  | [], t, _, h0, h1 => by simp [sumC] at h1; omega
  | c :: r, t, hM, h0, h1 => by
    have hc := hM c (by simp)
    have hs : ∀ l, sumC (c :: l) = lenC c + sumC l := fun l => by simp [sumC]
    rw [hs] at h1
    by_cases hl : t ≤ lenC c
    · refine ⟨1, Nat.le_refl _, by simp, ?_, ?_⟩
      · rw [List.take_succ_cons, List.take_zero, hs]; omega
      · rw [List.take_succ_cons, List.take_zero, hs]; simp [sumC]; omega
    · obtain ⟨j, g1, g2, g3, g4⟩ := pre_of M r (t - lenC c) (fun x hx => hM x (by simp [hx])) (by omega) (by omega)
      refine ⟨j + 1, by omega, by simp; omega, ?_, ?_⟩
      · rw [List.take_succ_cons, hs]; omega
      · rw [List.take_succ_cons, hs]; omega
theorem worse_leaf (ys : List MSlot.S43) (i : Nat) (hi : i ≤ ys.length) : worseP true ys [] [] i = max (2 + sumC (ys.take i)) (2 + sumC (ys.drop i)) := by
  unfold worseP sizePart partP gapP allP sizeN
  simp [sumK]
/-- A leaf that is a cell too great for a page is parted into two that have room. -/
theorem halves (ys : List MSlot.S43) (hc : checkB true ys [] [] = true) (h1 : 498 < sumC ys) (h2 : sumC ys ≤ 658) : ∃ c, 1 ≤ c ∧ c < ys.length ∧ bestP true ys [] [] = c ∧ 2 ≤ ys.length ∧ sizeN true (ys.take c) [] ≤ 500 ∧ sizeN true (ys.drop c) [] ≤ 500 := by
  obtain ⟨n1, n2, n3, n4, n5, n6⟩ := check_parts hc
  have hM : ∀ c ∈ ys, lenC c ≤ 160 := fun c hcm => (cellB_size (adjC_all ys none n4 c hcm)).2.2.2
  obtain ⟨j, j1, j2, j3, j4⟩ := pre_of 160 ys (sumC ys - 498) hM (by omega) (by omega)
  have hsum : sumC (ys.take j) + sumC (ys.drop j) = sumC ys := by rw [← sumC_app, List.take_append_drop]
  have hjl : j < ys.length := by
    rcases Nat.lt_or_ge j ys.length with h | h
    · exact h
    · rw [List.take_of_length_le h] at j4; omega
  have hall : allP true ys [] - gapP true - 1 = ys.length - 1 := rfl
  have hr := bestR_rng (worseP true ys [] []) ys.length (ys.length - 1) 1 1 1073741824 (by omega) (Nat.le_refl _) (Nat.le_refl _) (by omega)
  have hbig : ∀ i, i ≤ ys.length → worseP true ys [] [] i ≤ 660 := by
    intro i hi
    rw [worse_leaf ys i hi]
    have : sumC (ys.take i) + sumC (ys.drop i) = sumC ys := by rw [← sumC_app, List.take_append_drop]
    omega
  have hle : worseP true ys [] [] (bestP true ys [] []) ≤ 500 := by
    unfold bestP
    rw [hall]
    obtain ⟨m, hm⟩ : ∃ m, ys.length - 1 = m + 1 := ⟨ys.length - 2, by omega⟩
    rw [hm]
    unfold bestR
    have := hbig 1 (by omega)
    rw [if_pos (by omega)]
    have hj : worseP true ys [] [] j ≤ 500 := by
      rw [worse_leaf ys j (by omega)]
      omega
    refine bestR_le _ 500 m 2 1 _ rfl ?_
    by_cases hj1 : j = 1
    · left; rw [hj1] at hj; exact hj
    · right; exact ⟨j, by omega, by omega, hj⟩
  have hr2 : 1 ≤ bestP true ys [] [] ∧ bestP true ys [] [] < ys.length := hr
  refine ⟨bestP true ys [] [], hr2.1, hr2.2, rfl, by omega, ?_, ?_⟩
  · rw [worse_leaf ys _ (by omega)] at hle
    unfold sizeN
    simp [sumK]
    omega
  · rw [worse_leaf ys _ (by omega)] at hle
    unfold sizeN
    simp [sumK]
    omega
end Go.Proofs.Ytbkcoddcgfclaaa.SP
