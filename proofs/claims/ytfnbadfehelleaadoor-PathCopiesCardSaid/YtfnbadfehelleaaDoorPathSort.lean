/- The order of paths, in plain words. -/
import Derived.Test.YtfnbadfehelleaaDoorPathUp
set_option linter.unusedSimpArgs false
set_option linter.unusedVariables false
namespace Go.Proofs.YtfnbadfehelleaaDoor.PP
open Go.RowKit

theorem cb_neg : ∀ (a b : List UInt8), Lib.compareBytes a b = - Lib.compareBytes b a
  | [], [] => rfl
  | [], _ :: _ => rfl
  | _ :: _, [] => rfl
  | x :: a, y :: b => by
    have ih := cb_neg a b
    unfold Lib.compareBytes
    by_cases h1 : x < y
    · rw [if_pos h1, if_neg (UInt8.lt_asymm h1), if_pos h1]
    · by_cases h2 : y < x
      · rw [if_neg h1, if_pos h2, if_pos h2]
        rfl
      · rw [if_neg h1, if_neg h2, if_neg h2, if_neg h1]
        exact ih
theorem cb_eq : ∀ (a b : List UInt8), Lib.compareBytes a b = 0 → a = b
  | [], [], _ => rfl
  | [], _ :: _, h => absurd h (by show ¬ ((-1 : Int) = 0); decide)
  | _ :: _, [], h => absurd h (by show ¬ ((1 : Int) = 0); decide)
  | x :: a, y :: b, h => by
    unfold Lib.compareBytes at h
    by_cases h1 : x < y
    · rw [if_pos h1] at h; exact absurd h (by decide)
    · by_cases h2 : y < x
      · rw [if_neg h1, if_pos h2] at h; exact absurd h (by decide)
      · rw [if_neg h1, if_neg h2] at h
        have : x = y := UInt8.le_antisymm (UInt8.not_lt.1 h2) (UInt8.not_lt.1 h1)
        rw [this, cb_eq a b h]
theorem cb_refl : ∀ (a : List UInt8), Lib.compareBytes a a = 0
  | [] => rfl
  | x :: a => by
    unfold Lib.compareBytes
    rw [if_neg (UInt8.lt_irrefl x), if_neg (UInt8.lt_irrefl x)]
    exact cb_refl a
theorem cb_rng : ∀ (a b : List UInt8), Lib.compareBytes a b = -1 ∨ Lib.compareBytes a b = 0 ∨ Lib.compareBytes a b = 1
  | [], [] => .inr (.inl rfl)
  | [], _ :: _ => .inl rfl
  | _ :: _, [] => .inr (.inr rfl)
  | x :: a, y :: b => by
    unfold Lib.compareBytes
    split
    · exact .inl rfl
    · split
      · exact .inr (.inr rfl)
      · exact cb_rng a b
theorem cb_trans : ∀ (a b c : List UInt8), Lib.compareBytes a b < 0 → Lib.compareBytes b c < 0 → Lib.compareBytes a c < 0
  | [], [], c, h, _ => absurd h (by show ¬ ((0 : Int) < 0); decide)
  | [], _ :: _, [], _, h => absurd h (by show ¬ ((1 : Int) < 0); decide)
  | [], _ :: _, _ :: _, _, _ => by show (-1 : Int) < 0; decide
  | _ :: _, [], _, h, _ => absurd h (by show ¬ ((1 : Int) < 0); decide)
  | _ :: _, _ :: _, [], _, h => absurd h (by show ¬ ((1 : Int) < 0); decide)
  | x :: a, y :: b, z :: c, h1, h2 => by
    unfold Lib.compareBytes at h1 h2 ⊢
    by_cases a1 : x < y
    · rw [if_pos a1] at h1
      by_cases a2 : y < z
      · rw [if_pos (UInt8.lt_trans a1 a2)]; decide
      · rw [if_neg a2] at h2
        by_cases a3 : z < y
        · rw [if_pos a3] at h2; exact absurd h2 (by decide)
        · have : y = z := UInt8.le_antisymm (UInt8.not_lt.1 a3) (UInt8.not_lt.1 a2)
          rw [if_pos (this ▸ a1)]; decide
    · rw [if_neg a1] at h1
      by_cases a2 : y < x
      · rw [if_pos a2] at h1; exact absurd h1 (by decide)
      · rw [if_neg a2] at h1
        have e : x = y := UInt8.le_antisymm (UInt8.not_lt.1 a2) (UInt8.not_lt.1 a1)
        rw [e]
        by_cases a3 : y < z
        · rw [if_pos a3]; decide
        · rw [if_neg a3] at h2 ⊢
          by_cases a4 : z < y
          · rw [if_pos a4] at h2; exact absurd h2 (by decide)
          · rw [if_neg a4] at h2 ⊢
            exact cb_trans a b c h1 h2

theorem cn_cons (a b : List UInt8) (x y : List (List UInt8)) : cmpN (a :: x) (b :: y) = if Lib.compareBytes a b = 0 then cmpN x y else Lib.compareBytes a b := by rw [cmpN]
theorem cn_neg : ∀ (x y : List (List UInt8)), cmpN x y = - cmpN y x
  | [], [] => rfl
  | [], _ :: _ => rfl
  | _ :: _, [] => rfl
  | a :: x, b :: y => by
    have ih := cn_neg x y
    have h := cb_neg a b
    rw [cn_cons, cn_cons]
    by_cases e : Lib.compareBytes a b = 0
    · rw [if_pos e, if_pos (by omega)]; exact ih
    · rw [if_neg e, if_neg (by omega)]; exact h
theorem cn_eq : ∀ (x y : List (List UInt8)), cmpN x y = 0 → x = y
  | [], [], _ => rfl
  | [], _ :: _, h => absurd h (by show ¬ ((-1 : Int) = 0); decide)
  | _ :: _, [], h => absurd h (by show ¬ ((1 : Int) = 0); decide)
  | a :: x, b :: y, h => by
    rw [cn_cons] at h
    by_cases e : Lib.compareBytes a b = 0
    · rw [if_pos e] at h
      rw [cb_eq a b e, cn_eq x y h]
    · rw [if_neg e] at h; exact absurd h e
theorem cn_refl : ∀ (x : List (List UInt8)), cmpN x x = 0
  | [] => rfl
  | a :: x => by rw [cn_cons, if_pos (cb_refl a)]; exact cn_refl x
theorem cn_rng : ∀ (x y : List (List UInt8)), cmpN x y = -1 ∨ cmpN x y = 0 ∨ cmpN x y = 1
  | [], [] => .inr (.inl rfl)
  | [], _ :: _ => .inl rfl
  | _ :: _, [] => .inr (.inr rfl)
  | a :: x, b :: y => by
    rw [cn_cons]
    split
    · exact cn_rng x y
    · exact cb_rng a b
theorem cn_trans : ∀ (x y z : List (List UInt8)), cmpN x y < 0 → cmpN y z < 0 → cmpN x z < 0
  | [], [], c, h, _ => absurd h (by show ¬ ((0 : Int) < 0); decide)
  | [], _ :: _, [], _, h => absurd h (by show ¬ ((1 : Int) < 0); decide)
  | [], _ :: _, _ :: _, _, _ => by show (-1 : Int) < 0; decide
  | _ :: _, [], _, h, _ => absurd h (by show ¬ ((1 : Int) < 0); decide)
  | _ :: _, _ :: _, [], _, h => absurd h (by show ¬ ((1 : Int) < 0); decide)
  | a :: x, b :: y, c :: z, h1, h2 => by
    rw [cn_cons] at h1 h2 ⊢
    by_cases e1 : Lib.compareBytes a b = 0
    · rw [if_pos e1] at h1
      rw [cb_eq a b e1]
      by_cases e2 : Lib.compareBytes b c = 0
      · rw [if_pos e2] at h2 ⊢
        exact cn_trans x y z h1 h2
      · rw [if_neg e2] at h2 ⊢
        exact h2
    · rw [if_neg e1] at h1
      by_cases e2 : Lib.compareBytes b c = 0
      · rw [← cb_eq b c e2, if_neg e1]
        exact h1
      · rw [if_neg e2] at h2
        have := cb_trans a b c h1 h2
        rw [if_neg (by omega)]
        exact this
theorem cn_le_trans (x y z : List (List UInt8)) (h1 : cmpN x y ≤ 0) (h2 : cmpN y z ≤ 0) : cmpN x z ≤ 0 := by
  by_cases e1 : cmpN x y = 0
  · rw [cn_eq x y e1]; exact h2
  · by_cases e2 : cmpN y z = 0
    · rw [← cn_eq y z e2]; exact h1
    · have := cn_trans x y z (by omega) (by omega)
      omega
theorem cn_prefix (x : List (List UInt8)) : ∀ (X r : List (List UInt8)), r ≠ [] → cmpN X (X ++ r) = -1
  | [], r, h => by
    cases r with
    | nil => exact absurd rfl h
    | cons _ _ => rfl
  | a :: X, r, h => by rw [List.cons_append, cn_cons, if_pos (cb_refl a)]; exact cn_prefix x X r h
theorem cn_between : ∀ (X M Y : List (List UInt8)), cmpN X M < 0 → cmpN M (X ++ Y) < 0 → ∃ Z, M = X ++ Z ∧ Z ≠ []
  | [], M, Y, h, _ => by
    cases M with
    | nil => exact absurd h (by show ¬ ((0 : Int) < 0); decide)
    | cons m M => exact ⟨m :: M, rfl, by simp⟩
  | a :: X, [], Y, h, _ => absurd h (by show ¬ ((1 : Int) < 0); decide)
  | a :: X, m :: M, Y, h1, h2 => by
    rw [cn_cons] at h1
    rw [List.cons_append, cn_cons] at h2
    have hn := cb_neg a m
    by_cases e : Lib.compareBytes a m = 0
    · rw [if_pos e] at h1
      rw [if_pos (by omega)] at h2
      obtain ⟨Z, h3, h4⟩ := cn_between X M Y h1 h2
      exact ⟨Z, by rw [cb_eq a m e, h3]; rfl, h4⟩
    · rw [if_neg e] at h1
      rw [if_neg (by omega)] at h2
      omega
/-- Which directories a path lies in. -/
theorem mem_ups (d p : List UInt8) : d ∈ upsL p ↔ (kindP p).2 = 0 ∧ p ≠ [] ∧ ∃ j, j < (splitL p).length ∧ d = jn [47] ((splitL p).take j) := by
  unfold upsL
  by_cases hn : p = []
  · rw [if_pos hn]; simp [hn]
  · rw [if_neg hn]
    by_cases hk : (kindP p).2 = 0
    · rw [if_pos hk]
      unfold upsN
      simp only [List.mem_map, List.mem_reverse, List.mem_range]
      exact ⟨fun ⟨j, h1, h2⟩ => ⟨hk, hn, j, h1, h2.symm⟩, fun ⟨_, _, j, h1, h2⟩ => ⟨j, h1, h2.symm⟩⟩
    · rw [if_neg hk]; simp [hk]
theorem below_less (d p : List UInt8) (h : d ∈ upsL p) : cmpN (splitL d) (splitL p) < 0 := by
  obtain ⟨h1, h2, j, h3, h4⟩ := (mem_ups d p).1 h
  obtain ⟨hN, _⟩ := names_of p h1 h2
  by_cases hj : j = 0
  · rw [h4, hj, List.take_zero]
    cases hs : splitL p with
    | nil => rw [hs] at h3; simp at h3
    | cons n r =>
      have := hN.ne 0 (by omega)
      simp only [hs, List.getElem_cons_zero] at this
      show cmpN [[]] (n :: r) < 0
      cases n with
      | nil => exact absurd rfl this
      | cons c n => rw [cn_cons, if_neg (by show ¬ ((-1 : Int) = 0); decide)]; show (-1 : Int) < 0; decide
  · have hne : (splitL p).take j ≠ [] := by
      intro e
      have := congrArg List.length e
      rw [List.length_take, List.length_nil] at this
      omega
    rw [h4, (hN.take j).split hne]
    have := cn_prefix [] ((splitL p).take j) ((splitL p).drop j) (by
      intro e
      have := congrArg List.length e
      rw [List.length_drop, List.length_nil] at this
      omega)
    rw [List.take_append_drop] at this
    rw [this]; decide
theorem below_between (a b c : List UInt8) (h : a ∈ upsL c) (h1 : cmpN (splitL a) (splitL b) < 0) (h2 : cmpN (splitL b) (splitL c) < 0) (hk : (kindP b).2 = 0) : a ∈ upsL b := by
  obtain ⟨hc1, hc2, j, h3, h4⟩ := (mem_ups a c).1 h
  obtain ⟨hN, _⟩ := names_of c hc1 hc2
  have hb : b ≠ [] := by
    intro e
    rw [e] at h1
    obtain ⟨x, r, ex⟩ := splitL_ne a
    rw [ex] at h1
    change cmpN (x :: r) [[]] < 0 at h1
    rw [cn_cons] at h1
    cases x with
    | nil =>
      rw [if_pos (show Lib.compareBytes [] [] = 0 from rfl)] at h1
      cases r with
      | nil => exact absurd h1 (by show ¬ ((0 : Int) < 0); decide)
      | cons _ _ => exact absurd h1 (by show ¬ ((1 : Int) < 0); decide)
    | cons y x => rw [if_neg (by show ¬ ((1 : Int) = 0); decide)] at h1; exact absurd h1 (by show ¬ ((1 : Int) < 0); decide)
  rw [mem_ups]
  refine ⟨hk, hb, ?_⟩
  obtain ⟨hM, _⟩ := names_of b hk hb
  by_cases hj : j = 0
  · refine ⟨0, ?_, by rw [h4, hj]; rfl⟩
    obtain ⟨x, r, ex⟩ := splitL_ne b
    rw [ex]; simp
  · have hne : (splitL c).take j ≠ [] := by
      intro e
      have := congrArg List.length e
      rw [List.length_take, List.length_nil] at this
      omega
    rw [h4, (hN.take j).split hne] at h1
    rw [← List.take_append_drop j (splitL c)] at h2
    obtain ⟨Z, h5, h6⟩ := cn_between _ _ _ h1 h2
    have hl : ((splitL c).take j).length = j := by rw [List.length_take]; omega
    refine ⟨j, ?_, ?_⟩
    · rw [h5, List.length_append, hl]
      have := List.length_pos_iff.2 h6
      omega
    · have e : ((splitL c).take j ++ Z).take j = (splitL c).take j := by
        rw [List.take_append_of_le_length (Nat.le_of_eq hl.symm)]
        exact List.take_of_length_le (Nat.le_of_eq hl)
      rw [h4, h5]
      exact congrArg (jn [47]) e.symm
end Go.Proofs.YtfnbadfehelleaaDoor.PP
