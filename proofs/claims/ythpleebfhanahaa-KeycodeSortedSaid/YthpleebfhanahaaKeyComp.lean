/- The order of keys, in plain words; the program's Compare and the reference's both tell it. -/
import Derived.Test.YthpleebfhanahaaKeyPure
set_option linter.unusedSimpArgs false
set_option linter.unusedVariables false
namespace Go.Proofs.Ythpleebfhanahaa.KP
open Go.RowKit Go.Proofs.Ythpleebfhanahaa.MKey Go.Proofs.YthpleebfhanahaaW.PrintWords Go.Proofs.YthpleebfhanahaaW.PrintLast Go.Proofs.YthpleebfhanahaaW.PrintMore

def sgn (a b : Int) : Int := if a < b then -1 else if a > b then 1 else 0
theorem sgn_turn (a b : Int) : sgn b a = -sgn a b := by unfold sgn; split <;> split <;> (try split) <;> omega
theorem sgn_zero (a b : Int) : sgn a b = 0 ↔ a = b := by unfold sgn; split <;> (try split) <;> omega
theorem sgn_rng (a b : Int) : -1 ≤ sgn a b ∧ sgn a b ≤ 1 := by unfold sgn; split <;> (try split) <;> omega
theorem u8_lt (a b : UInt8) : a < b ↔ a.toNat < b.toNat := UInt8.lt_iff_toNat_lt
theorem cb_rng : ∀ a b, -1 ≤ Lib.compareBytes a b ∧ Lib.compareBytes a b ≤ 1
  | [], [] => by simp [Lib.compareBytes]
  | [], _ :: _ => by simp [Lib.compareBytes]
  | _ :: _, [] => by simp [Lib.compareBytes]
  | a :: x, b :: y => by
    have := cb_rng x y
    simp only [Lib.compareBytes]
    split
    · omega
    · split <;> omega
theorem cb_turn : ∀ a b, Lib.compareBytes b a = -Lib.compareBytes a b
  | [], [] => by simp [Lib.compareBytes]
  | [], _ :: _ => by simp [Lib.compareBytes]
  | _ :: _, [] => by simp [Lib.compareBytes]
  | a :: x, b :: y => by
    have := cb_turn x y
    simp only [Lib.compareBytes, u8_lt]
    split <;> split <;> (try split) <;> omega
theorem cb_self : ∀ a, Lib.compareBytes a a = 0
  | [] => rfl
  | a :: x => by
    have := cb_self x
    simp only [Lib.compareBytes, u8_lt]
    rw [if_neg (by omega), if_neg (by omega)]
    exact this
theorem cb_zero : ∀ a b, Lib.compareBytes a b = 0 → a = b
  | [], [], _ => rfl
  | [], _ :: _, h => by simp [Lib.compareBytes] at h
  | _ :: _, [], h => by simp [Lib.compareBytes] at h
  | a :: x, b :: y, h => by
    simp only [Lib.compareBytes, u8_lt] at h
    split at h
    · omega
    · split at h
      · omega
      · rw [cb_zero x y h, UInt8.toNat_inj.mp (by omega : a.toNat = b.toNat)]
theorem cb_less : ∀ a b, Op.bytesLess a b = true ↔ Lib.compareBytes a b = -1
  | [], [] => by simp [Op.bytesLess, Lib.compareBytes]
  | [], _ :: _ => by simp [Op.bytesLess, Lib.compareBytes]
  | _ :: _, [] => by simp [Op.bytesLess, Lib.compareBytes]
  | a :: x, b :: y => by
    have ih := cb_less x y
    simp only [Op.bytesLess, Lib.compareBytes, u8_lt, Bool.or_eq_true, decide_eq_true_eq, Bool.and_eq_true, beq_iff_eq]
    by_cases h1 : a.toNat < b.toNat
    · simp [h1]
    · by_cases h2 : b.toNat < a.toNat
      · have : a ≠ b := by intro e; subst e; omega
        simp [h1, h2, this]
      · have : a = b := UInt8.toNat_inj.mp (by omega)
        simp [this, ih]
theorem cb_more (a b : List UInt8) : Op.bytesLess b a = true ↔ Lib.compareBytes a b = 1 := by
  rw [cb_less, cb_turn a b]; omega

/-- One part against another. -/
def oneP (p q : S45) : Int :=
  if p.f0 = q.f0 then (if p.f0 = 1 then sgn p.f1 q.f1 else if p.f0 = 2 then Lib.compareBytes p.f2.data.toList q.f2.data.toList else 0) else sgn p.f0 q.f0
def cmpS : List S45 → List S45 → Int
  | [], [] => 0
  | [], _ :: _ => -1
  | _ :: _, [] => 1
  | p :: a, q :: b => if oneP p q = 0 then cmpS a b else oneP p q
theorem oneP_rng (p q : S45) : -1 ≤ oneP p q ∧ oneP p q ≤ 1 := by
  have h1 := sgn_rng p.f1 q.f1
  have h2 := sgn_rng p.f0 q.f0
  have h3 := cb_rng p.f2.data.toList q.f2.data.toList
  unfold oneP
  split
  · split
    · exact h1
    · split
      · exact h3
      · omega
  · exact h2
theorem oneP_turn (p q : S45) : oneP q p = -oneP p q := by
  have h1 := sgn_turn p.f1 q.f1
  have h2 := sgn_turn p.f0 q.f0
  have h3 := cb_turn p.f2.data.toList q.f2.data.toList
  unfold oneP
  by_cases h : p.f0 = q.f0
  · rw [if_pos h, if_pos h.symm, h]
    split
    · exact h1
    · split
      · exact h3
      · rfl
  · rw [if_neg h, if_neg (fun e => h e.symm)]
    exact h2
theorem oneP_self (p : S45) : oneP p p = 0 := by
  unfold oneP
  rw [if_pos rfl, cb_self, (sgn_zero p.f1 p.f1).2 rfl]
  split
  · rfl
  · split <;> rfl
theorem cmpS_rng : ∀ a b, -1 ≤ cmpS a b ∧ cmpS a b ≤ 1
  | [], [] => by simp [cmpS]
  | [], _ :: _ => by simp [cmpS]
  | _ :: _, [] => by simp [cmpS]
  | p :: a, q :: b => by
    have := cmpS_rng a b
    have := oneP_rng p q
    unfold cmpS
    split <;> omega
theorem cmpS_turn : ∀ a b, cmpS b a = -cmpS a b
  | [], [] => by simp [cmpS]
  | [], _ :: _ => by simp [cmpS]
  | _ :: _, [] => by simp [cmpS]
  | p :: a, q :: b => by
    have h1 := cmpS_turn a b
    have h2 := oneP_turn p q
    unfold cmpS
    rw [h2]
    by_cases h : oneP p q = 0
    · rw [if_pos h, if_pos (by omega), h1]
    · rw [if_neg h, if_neg (by omega)]
theorem cmpS_self : ∀ a, cmpS a a = 0
  | [] => rfl
  | p :: a => by rw [cmpS, if_pos (oneP_self p), cmpS_self a]

theorem int_eq (a b : Int) : cmp_Compare_int.f a b = some (sgn a b) := by
  have h : ∀ x : Int, (x != x) = false := fun x => by simp
  unfold cmp_Compare_int.f cmp_isNaN_int.f sgn
  simp only [h, Option.bind_some, Bool.false_eq_true, if_false]
  split
  · rfl
  · split <;> rfl
theorem one_eq (p q : S45) : keycode_one.f p.f0 p.f1 p.f2 q.f0 q.f1 q.f2 = some (oneP p q) := by
  unfold keycode_one.f oneP strings_Compare.f Ext.strings_Compare.f
  simp only [int_eq, Option.bind_some]
  repeat' split
  all_goals rfl
theorem sign_eq (a b : Int) : aquiferref03_sign.f a b = some (sgn a b) := by
  unfold aquiferref03_sign.f sgn
  split
  · rfl
  · split <;> rfl
theorem cmp_end (a b : List S45) (i : Nat) (h : i = a.length ∨ i = b.length) (h1 : i ≤ a.length) (h2 : i ≤ b.length) : cmpS (a.drop i) (b.drop i) = sgn (a.length : Int) (b.length : Int) := by
  by_cases ha : i < a.length
  · have hb : b.drop i = [] := List.drop_eq_nil_of_le (by omega)
    rw [List.drop_eq_getElem_cons ha, hb, cmpS, sgn, if_neg (by omega), if_pos (by omega)]
  · have ha' : a.drop i = [] := List.drop_eq_nil_of_le (by omega)
    by_cases hb : i < b.length
    · rw [List.drop_eq_getElem_cons hb, ha', cmpS, sgn, if_pos (by omega)]
    · have hb' : b.drop i = [] := List.drop_eq_nil_of_le (by omega)
      rw [ha', hb', cmpS, sgn, if_neg (by omega), if_neg (by omega)]
theorem cmp_eq (a b : List S45) (k : Nat) (hk : 30 ≤ k) (hl : a.length ≤ 20 ∧ b.length ≤ 20) : keycode_Compare.f k a b = some (cmpS a b) := by
  have hm := mn_le (a.length : Int) (b.length : Int)
  unfold keycode_Compare.f
  obtain ⟨n, hn⟩ : ∃ n : Nat, mn (a.length : Int) (b.length : Int) = (n : Int) := ⟨(mn (a.length : Int) (b.length : Int)).toNat, by omega⟩
  rw [hn] at hm ⊢
  clear hn
  have key : ∀ (d k i : Nat), i + d = n → d < k → keycode_Compare.l0 k a b (n : Int) (i : Int) = some (cmpS (a.drop i) (b.drop i)) := by
    intro d
    induction d with
    | zero =>
      intro k i hi hk
      obtain ⟨m, rfl, _⟩ := up1 hk
      simp only [keycode_Compare.l0, int_eq, Option.bind_some]
      rw [if_neg (by omega), cmp_end a b i (by omega) (by omega) (by omega)]
    | succ d ih =>
      intro k i hi hk
      obtain ⟨m, rfl, hm1⟩ := up1 hk
      have h1 : i < a.length := by omega
      have h2 : i < b.length := by omega
      simp only [keycode_Compare.l0, rd_at a i h1, rd_at b i h2, one_eq, Option.bind_some]
      rw [if_pos (by omega), if_pos (by omega), if_pos (by omega), if_pos (by omega), wrap_succ i (by omega), List.drop_eq_getElem_cons h1, List.drop_eq_getElem_cons h2, cmpS]
      split
      · exact ih m (i + 1) (by omega) (by omega)
      · rfl
  exact key n k 0 (by omega) (by omega)
theorem ref_cmp_eq (a b : List S45) (k : Nat) (hk : 150 ≤ k) (hl : a.length ≤ 20 ∧ b.length ≤ 20) : aquiferref03_Compare.f k a b = some (cmpS a b) := by
  unfold aquiferref03_Compare.f
  have key : ∀ (d k i : Nat), i + d = a.length → i ≤ b.length → 4 * d + 4 < k → aquiferref03_Compare.l0 k a b (i : Int) = some (cmpS (a.drop i) (b.drop i)) := by
    intro d
    induction d with
    | zero =>
      intro k i hi hb hk
      obtain ⟨m, rfl⟩ : ∃ m, k = m + 4 := ⟨k - 4, by omega⟩
      simp only [aquiferref03_Compare.l0, aquiferref03_Compare.j1, sign_eq, Option.bind_some]
      rw [if_neg (by omega), if_neg (by simp), cmp_end a b i (by omega) (by omega) (by omega)]
    | succ d ih =>
      intro k i hi hb hk
      obtain ⟨m, rfl⟩ : ∃ m, k = m + 4 := ⟨k - 4, by omega⟩
      have h1 : i < a.length := by omega
      by_cases h2 : i < b.length
      · simp only [aquiferref03_Compare.l0, aquiferref03_Compare.j1, aquiferref03_Compare.j2, aquiferref03_Compare.j3, sign_eq, Option.bind_some, rd_at a i h1, rd_at b i h2]
        have c1 : (i : Int) < (a.length : Int) := by omega
        have c2 : (i : Int) < (b.length : Int) := by omega
        have c3 : (0 : Int) ≤ (i : Int) := by omega
        simp only [if_pos c1, if_pos c2, if_pos c3, c2, decide_true, if_true, List.drop_eq_getElem_cons h1, List.drop_eq_getElem_cons h2, cmpS, wrap_succ i (by omega), Bool.false_eq_true, if_false]
        have hi2 := ih m (i + 1) (by omega) (by omega) (by omega)
        simp only [hi2]
        clear hi2
        obtain ⟨p, hp⟩ : ∃ p, p = a[i] := ⟨_, rfl⟩
        obtain ⟨q, hq⟩ : ∃ q, q = b[i] := ⟨_, rfl⟩
        rw [← hp, ← hq]
        obtain ⟨R, hR⟩ : ∃ R, R = cmpS (a.drop (i + 1)) (b.drop (i + 1)) := ⟨_, rfl⟩
        rw [← hR]
        unfold oneP
        by_cases h0 : p.f0 = q.f0
        · rw [if_pos h0, if_pos h0]
          by_cases e1 : p.f0 = 1
          · have e2 : ¬ p.f0 = 2 := by omega
            simp only [if_pos e1, if_neg e2, Bool.false_eq_true, if_false]
            by_cases e3 : p.f1 = q.f1
            · rw [(sgn_zero _ _).2 e3]
              simp [e3]
            · have e4 : ¬ sgn p.f1 q.f1 = 0 := fun e => e3 ((sgn_zero _ _).1 e)
              rw [if_neg e4, if_pos (by simpa using e3)]
          · simp only [if_neg e1]
            by_cases e2 : p.f0 = 2
            · simp only [if_pos e2, ByteArray.toList_eq]
              have r1 := cb_rng p.f2.data.toList q.f2.data.toList
              by_cases l1 : Op.bytesLess p.f2.data.toList q.f2.data.toList = true
              · have := (cb_less _ _).1 l1
                rw [if_pos l1, if_neg (by omega), this]
              · have n1 : ¬ Lib.compareBytes p.f2.data.toList q.f2.data.toList = -1 := fun e => l1 ((cb_less _ _).2 e)
                rw [if_neg l1]
                by_cases l2 : Op.bytesLess q.f2.data.toList p.f2.data.toList = true
                · have := (cb_more _ _).1 l2
                  rw [if_pos l2, if_neg (by omega), this]
                · have n2 : ¬ Lib.compareBytes p.f2.data.toList q.f2.data.toList = 1 := fun e => l2 ((cb_more _ _).2 e)
                  rw [if_neg l2, if_pos (by omega)]
            · simp only [if_neg e2, Bool.false_eq_true, if_false, if_true]
        · have e4 : ¬ sgn p.f0 q.f0 = 0 := fun e => h0 ((sgn_zero _ _).1 e)
          rw [if_neg h0, if_neg h0, if_neg e4]
      · simp only [aquiferref03_Compare.l0, aquiferref03_Compare.j1, sign_eq, Option.bind_some]
        have c2 : ¬ (i : Int) < (b.length : Int) := by omega
        rw [if_pos (by omega), decide_eq_false c2, if_neg (by simp), cmp_end a b i (by omega) (by omega) (by omega)]
  exact key a.length k 0 (by omega) (by omega) (by omega)
end Go.Proofs.Ythpleebfhanahaa.KP
