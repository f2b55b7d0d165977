/- The bytes of keys stand in the order of the keys. -/
import Derived.Test.YthpleebfhanahaaKeyDec3
set_option linter.unusedSimpArgs false
set_option linter.unusedVariables false
namespace Go.Proofs.Ythpleebfhanahaa.KP
open Go.RowKit Go.Proofs.Ythpleebfhanahaa.MKey Go.Proofs.YthpleebfhanahaaW.PrintWords Go.Proofs.YthpleebfhanahaaW.PrintLast Go.Proofs.YthpleebfhanahaaW.PrintMore

def valL : List UInt8 → Nat
  | [] => 0
  | c :: r => c.toNat * 256 ^ r.length + valL r
theorem valL_lt : ∀ l, valL l < 256 ^ l.length
  | [] => by simp [valL]
  | c :: r => by
    have h1 := valL_lt r
    have h2 := UInt8.toNat_lt c
    have h3 : (c.toNat + 1) * 256 ^ r.length ≤ 256 * 256 ^ r.length := Nat.mul_le_mul_right _ (by omega)
    rw [Nat.add_mul, Nat.one_mul] at h3
    rw [valL, List.length_cons, Nat.pow_succ, Nat.mul_comm _ 256]
    omega
theorem cmp_val : ∀ (l m x y : List UInt8), l.length = m.length → Lib.compareBytes (l ++ x) (m ++ y) = if valL l < valL m then -1 else if valL m < valL l then 1 else Lib.compareBytes x y
  | [], [], x, y, _ => by simp [valL]
  | c :: l, d :: m, x, y, h => by
    have hl : l.length = m.length := by simpa using h
    have ih := cmp_val l m x y hl
    have h1 := valL_lt l
    have h2 := valL_lt m
    rw [List.cons_append, List.cons_append, Lib.compareBytes, ih, valL, valL, hl]
    rw [hl] at h1
    simp only [u8_lt]
    have lt1 : ∀ a b v w : Nat, a < b → v < 256 ^ m.length → a * 256 ^ m.length + v < b * 256 ^ m.length + w := fun a b v w hab hv => by
      have := Nat.mul_le_mul_right (256 ^ m.length) (show a + 1 ≤ b from hab)
      rw [Nat.add_mul, Nat.one_mul] at this
      omega
    by_cases hc : c.toNat < d.toNat
    · rw [if_pos hc, if_pos (lt1 _ _ _ _ hc h1)]
    · by_cases hd : d.toNat < c.toNat
      · have := lt1 _ _ (valL m) (valL l) hd h2
        rw [if_neg hc, if_pos hd, if_neg (by omega), if_pos this]
      · have : c.toNat = d.toNat := by omega
        rw [if_neg hc, if_neg hd, this]
        simp only [Nat.add_lt_add_iff_left]
theorem be8_val (u : Int) (h0 : 0 ≤ u) (h1 : u < 18446744073709551616) (z : List UInt8) (h : be8 u = b8 z) : z.length = 8 ∧ (valL z : Int) = u := by
  have hl : z.length = 8 := by rw [← b8_len z, ← h]; rfl
  refine ⟨hl, ?_⟩
  match z, hl with
  | [a, b, c, d, e, f, g, i], _ =>
    unfold be8 b8 at h
    simp only [List.map_cons, List.map_nil, List.cons.injEq, and_true] at h
    simp only [valL, List.length_cons, List.length_nil]
    obtain ⟨q0, q1, q2, q3, q4, q5, q6, q7⟩ := h
    have e7 : (256 : Nat) ^ (0 + 1 + 1 + 1 + 1 + 1 + 1 + 1) = 72057594037927936 := by decide
    have e6 : (256 : Nat) ^ (0 + 1 + 1 + 1 + 1 + 1 + 1) = 281474976710656 := by decide
    have e5 : (256 : Nat) ^ (0 + 1 + 1 + 1 + 1 + 1) = 1099511627776 := by decide
    have e4 : (256 : Nat) ^ (0 + 1 + 1 + 1 + 1) = 4294967296 := by decide
    have e3 : (256 : Nat) ^ (0 + 1 + 1 + 1) = 16777216 := by decide
    have e2 : (256 : Nat) ^ (0 + 1 + 1) = 65536 := by decide
    have e1 : (256 : Nat) ^ (0 + 1) = 256 := by decide
    have e0 : (256 : Nat) ^ 0 = 1 := by decide
    rw [e7, e6, e5, e4, e3, e2, e1, e0]
    omega
theorem cmp_esc : ∀ (t u x y : List UInt8), Lib.compareBytes (escU t ++ 0 :: 1 :: x) (escU u ++ 0 :: 1 :: y) = if Lib.compareBytes t u = 0 then Lib.compareBytes x y else Lib.compareBytes t u
  | [], [], x, y => by simp [escU, Lib.compareBytes]
  | [], d :: u, x, y => by
    unfold escU
    by_cases hd : d = 0
    · rw [if_pos hd]
      simp [Lib.compareBytes, escU]
    · have : (0 : UInt8) < d := by
        rw [u8_lt]
        have : d.toNat ≠ 0 := fun e => hd (UInt8.toNat_inj.mp e)
        show 0 < d.toNat
        omega
      rw [if_neg hd]
      simp [Lib.compareBytes, escU, this]
  | c :: t, [], x, y => by
    unfold escU
    by_cases hc : c = 0
    · rw [if_pos hc]
      simp [Lib.compareBytes, escU]
    · have : (0 : UInt8) < c := by
        rw [u8_lt]
        have : c.toNat ≠ 0 := fun e => hc (UInt8.toNat_inj.mp e)
        show 0 < c.toNat
        omega
      have h2 : ¬ c < 0 := by rw [u8_lt] at this ⊢; omega
      rw [if_neg hc]
      simp only [Lib.compareBytes, escU, List.nil_append, List.cons_append, this, h2, if_true, if_false]
      simp
  | c :: t, d :: u, x, y => by
    have ih := cmp_esc t u x y
    have pos : ∀ b : UInt8, b ≠ 0 → (0 : UInt8) < b ∧ ¬ b < 0 := fun b hb => by
      have : b.toNat ≠ 0 := fun e => hb (UInt8.toNat_inj.mp e)
      have z : (0 : UInt8).toNat = 0 := rfl
      rw [u8_lt, u8_lt, z]
      omega
    unfold escU
    by_cases hc : c = 0 <;> by_cases hd : d = 0
    · subst hc hd
      simp only [if_true, List.cons_append, Lib.compareBytes, ih]
      simp
    · subst hc
      obtain ⟨p1, p2⟩ := pos d hd
      rw [if_pos rfl, if_neg hd]
      simp only [List.cons_append, Lib.compareBytes, p1, if_true]
      simp
    · subst hd
      obtain ⟨p1, p2⟩ := pos c hc
      rw [if_neg hc, if_pos rfl]
      simp only [List.cons_append, Lib.compareBytes, p1, p2, if_true, if_false]
      simp
    · rw [if_neg hc, if_neg hd]
      simp only [List.cons_append, Lib.compareBytes, ih]
      by_cases h1 : c < d
      · simp [h1]
      · by_cases h2 : d < c
        · simp [h1, h2]
        · simp [h1, h2]
theorem sorted_bytes : ∀ (a b : List S45), (∀ p ∈ a, Good p) → (∀ p ∈ b, Good p) → ∀ x y, bytesK a = b8 x → bytesK b = b8 y → Lib.compareBytes x y = cmpS a b
  | [], [], _, _, x, y, hx, hy => by
    have h1 : x = [] := b8_inj (hx.symm.trans rfl)
    have h2 : y = [] := b8_inj (hy.symm.trans rfl)
    rw [h1, h2]; rfl
  | [], q :: b, _, hb, x, y, hx, hy => by
    have h1 : x = [] := b8_inj (hx.symm.trans rfl)
    have h2 := partB_pos q
    have h3 := congrArg List.length hy
    rw [bytesK, List.length_append, b8_len] at h3
    cases y with
    | nil => rw [List.length_nil] at h3; omega
    | cons d y => rw [h1]; rfl
  | p :: a, [], ha, _, x, y, hx, hy => by
    have h1 : y = [] := b8_inj (hy.symm.trans rfl)
    have h2 := partB_pos p
    have h3 := congrArg List.length hx
    rw [bytesK, List.length_append, b8_len] at h3
    cases x with
    | nil => rw [List.length_nil] at h3; omega
    | cons d x => rw [h1]; rfl
  | p :: a, q :: b, ha, hb, x, y, hx, hy => by
    have hp := ha p (by simp)
    have hq := hb q (by simp)
    obtain ⟨x', hx'⟩ := bytesK_b8 a (fun r hr => ha r (by simp [hr]))
    obtain ⟨y', hy'⟩ := bytesK_b8 b (fun r hr => hb r (by simp [hr]))
    have ih := sorted_bytes a b (fun r hr => ha r (by simp [hr])) (fun r hr => hb r (by simp [hr])) x' y' hx' hy'
    rw [bytesK, hx'] at hx
    rw [bytesK, hy'] at hy
    have rp := hp.1.2.1
    have rq := hq.1.2.1
    rcases good_cases hp with ⟨p1, p2⟩ | ⟨p1, p2, p3⟩ <;> rcases good_cases hq with ⟨q1, q2⟩ | ⟨q1, q2, q3⟩
    · have ho : oneP p q = sgn p.f1 q.f1 := by
        unfold oneP
        rw [if_pos (by omega), if_pos p1]
      rw [cmpS, ho]
      obtain ⟨z, hz⟩ := be8_b8 (p.f1 + 9223372036854775808) (by omega) (by omega)
      obtain ⟨v, hv⟩ := be8_b8 (q.f1 + 9223372036854775808) (by omega) (by omega)
      cases z with
      | nil => simp [b8] at hz
      | cons z0 z =>
        cases v with
        | nil => simp [b8] at hv
        | cons v0 v =>
          rw [good_num p1, hz, ← b8_append] at hx
          rw [good_num q1, hv, ← b8_append] at hy
          rw [b8_cons] at hz hv
          injection hz with z1 z2
          injection hv with v1 v2
          obtain ⟨l1, e1⟩ := be8_val _ (by omega) (by omega) z z2
          obtain ⟨l2, e2⟩ := be8_val _ (by omega) (by omega) v v2
          rw [← b8_inj hx, ← b8_inj hy, List.cons_append, List.cons_append, Lib.compareBytes]
          simp only [u8_lt]
          rw [if_neg (by omega), if_neg (by omega), cmp_val z v x' y' (by omega), ih]
          unfold sgn
          by_cases c1 : p.f1 < q.f1
          · rw [if_pos (by omega), if_pos c1]; rfl
          · by_cases c2 : p.f1 > q.f1
            · rw [if_neg (by omega), if_pos (by omega), if_neg c1, if_pos c2]; rfl
            · rw [if_neg (by omega), if_neg (by omega), if_neg c1, if_neg c2]; rfl
    · have ho : oneP p q = -1 := by
        unfold oneP sgn
        rw [if_neg (by omega), if_pos (by omega)]
      rw [cmpS, ho, if_neg (by omega)]
      obtain ⟨z, hz⟩ := be8_b8 (p.f1 + 9223372036854775808) (by omega) (by omega)
      rw [good_num p1, hz, ← b8_append] at hx
      rw [good_text q1, List.cons_append, ← b8_append] at hy
      cases z with
      | nil => simp [b8] at hz
      | cons z0 z =>
        rw [b8_cons] at hz
        injection hz with z1 z2
        have hy2 : y = 32 :: (escU q.f2.data.toList ++ [0, 1] ++ y') := b8_inj (hy.symm.trans rfl)
        have z3 : z0.toNat = 16 := by omega
        have z4 : (32 : UInt8).toNat = 32 := rfl
        rw [← b8_inj hx, hy2, List.cons_append, Lib.compareBytes]
        simp only [u8_lt, z3, z4]
        rw [if_pos (by omega)]
    · have ho : oneP p q = 1 := by
        unfold oneP sgn
        rw [if_neg (by omega), if_neg (by omega), if_pos (by omega)]
      rw [cmpS, ho, if_neg (by omega)]
      obtain ⟨v, hv⟩ := be8_b8 (q.f1 + 9223372036854775808) (by omega) (by omega)
      rw [good_text p1, List.cons_append, ← b8_append] at hx
      rw [good_num q1, hv, ← b8_append] at hy
      cases v with
      | nil => simp [b8] at hv
      | cons v0 v =>
        rw [b8_cons] at hv
        injection hv with v1 v2
        have hx2 : x = 32 :: (escU p.f2.data.toList ++ [0, 1] ++ x') := b8_inj (hx.symm.trans rfl)
        have v3 : v0.toNat = 16 := by omega
        have v4 : (32 : UInt8).toNat = 32 := rfl
        rw [← b8_inj hy, hx2, List.cons_append, Lib.compareBytes]
        simp only [u8_lt, v3, v4]
        rw [if_neg (by omega), if_pos (by omega)]
    · have ho : oneP p q = Lib.compareBytes p.f2.data.toList q.f2.data.toList := by
        unfold oneP
        rw [if_pos (by omega), if_neg (by omega), if_pos p1]
      rw [cmpS, ho]
      rw [good_text p1, List.cons_append, ← b8_append] at hx
      rw [good_text q1, List.cons_append, ← b8_append] at hy
      have hx2 : x = 32 :: (escU p.f2.data.toList ++ [0, 1] ++ x') := b8_inj (hx.symm.trans rfl)
      have hy2 : y = 32 :: (escU q.f2.data.toList ++ [0, 1] ++ y') := b8_inj (hy.symm.trans rfl)
      rw [hx2, hy2, Lib.compareBytes]
      simp only [u8_lt, Nat.lt_irrefl, if_false, List.append_assoc, List.cons_append, List.nil_append]
      rw [cmp_esc, ih]
end Go.Proofs.Ythpleebfhanahaa.KP
