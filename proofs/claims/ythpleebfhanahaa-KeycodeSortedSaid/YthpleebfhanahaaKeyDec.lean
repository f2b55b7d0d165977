/- Keys and bytes: what a part's bytes tell of it; the program's Decode. -/
import Derived.Test.YthpleebfhanahaaKeyComp
import Derived.Test.YthpleebfhanahaaMKeyx15
import Derived.Test.YthpleebfhanahaaMKeyx16
import Derived.Lib.IndexBytes
set_option linter.unusedSimpArgs false
set_option linter.unusedVariables false
namespace Go.Proofs.Ythpleebfhanahaa.KP
open Go.RowKit Go.Proofs.Ythpleebfhanahaa.MKey Go.Proofs.YthpleebfhanahaaW.PrintWords Go.Proofs.YthpleebfhanahaaW.PrintLast Go.Proofs.YthpleebfhanahaaW.PrintMore Go.Proofs.Ythpleebfhanahaa.Ext

/-! ### bytes as numbers -/
def b8 (l : List UInt8) : List Int := l.map fun b => (b.toNat : Int)
theorem b8_cons (c : UInt8) (l : List UInt8) : b8 (c :: l) = (c.toNat : Int) :: b8 l := rfl
theorem b8_append (a b : List UInt8) : b8 (a ++ b) = b8 a ++ b8 b := List.map_append
theorem b8_len (a : List UInt8) : (b8 a).length = a.length := List.length_map _
theorem b8_inj : ∀ {a b : List UInt8}, b8 a = b8 b → a = b
  | [], [], _ => rfl
  | [], _ :: _, h => by simp [b8] at h
  | _ :: _, [], h => by simp [b8] at h
  | c :: a, d :: b, h => by
    rw [b8_cons, b8_cons] at h
    injection h with h1 h2
    rw [b8_inj h2, UInt8.toNat_inj.mp (by omega : c.toNat = d.toNat)]
theorem b8_drop (a : List UInt8) (n : Nat) : b8 (a.drop n) = (b8 a).drop n := List.map_drop
theorem str_b8 (l : List UInt8) : strOfNums (b8 l) = ⟨l.toArray⟩ := by
  unfold strOfNums b8
  congr 2
  rw [List.map_map]
  conv => rhs; rw [← List.map_id l]
  apply List.map_congr_left
  intro b _
  simp
theorem str_data (s : ByteArray) : strOfNums (b8 s.data.toList) = s := by rw [str_b8]
def escU : List UInt8 → List UInt8
  | [] => []
  | c :: r => if c = 0 then 0 :: 255 :: escU r else c :: escU r
theorem esc_b8 : ∀ l, esc l = b8 (escU l)
  | [] => rfl
  | c :: r => by
    unfold esc escU
    split
    · rw [b8_cons, b8_cons, esc_b8 r]; rfl
    · rw [b8_cons, esc_b8 r]
theorem byte_list (s : ByteArray) (h : 0 < s.size) : ∃ c : UInt8, s.data.toList = c :: s.data.toList.drop 1 ∧ bt s 0 = (c.toNat : Int) := by
  obtain ⟨c, h1, h2⟩ := bt_drop s 0 h
  exact ⟨c, by simpa using h1, by simpa using h2⟩
theorem drop_str (s : ByteArray) (n : Nat) : (s.extract n s.size).data.toList = s.data.toList.drop n := Lib.extract_to_end s n

/-! ### good parts, and what their bytes tell -/
def Good (p : S45) : Prop := Small p ∧ whyP p = 0
theorem data_nil {s : ByteArray} (h : s.data.toList = []) : s = ⟨#[]⟩ := by
  obtain ⟨⟨l⟩⟩ := s
  simp at h
  rw [h]
theorem good_cases {p : S45} (h : Good p) : (p.f0 = 1 ∧ p.f2 = ⟨#[]⟩) ∨ (p.f0 = 2 ∧ p.f1 = 0 ∧ p.f2.size ≤ 120) := by
  obtain ⟨_, hw⟩ := h
  unfold whyP at hw
  split at hw
  · rename_i h1
    split at hw
    · rename_i h2
      rw [ByteArray.toList_eq] at h2
      exact .inl ⟨h1, data_nil h2⟩
    · omega
  · split at hw
    · rename_i h2
      split at hw
      · rename_i h3
        split at hw
        · omega
        · exact .inr ⟨h2, h3, by omega⟩
      · omega
    · omega
def bytesK : List S45 → List Int
  | [] => []
  | p :: r => partB p ++ bytesK r
theorem bytesK_append : ∀ a b, bytesK (a ++ b) = bytesK a ++ bytesK b
  | [], b => rfl
  | p :: a, b => by rw [List.cons_append, bytesK, bytesK, bytesK_append a b, List.append_assoc]
theorem good_num {p : S45} (h1 : p.f0 = 1) : partB p = 16 :: be8 (p.f1 + 9223372036854775808) := if_pos h1
theorem good_text {p : S45} (h1 : p.f0 = 2) : partB p = 32 :: b8 (escU p.f2.data.toList ++ [0, 1]) := by
  unfold partB
  rw [if_neg (by omega), b8_append, esc_b8]
  rfl
theorem partB_pos (p : S45) : 1 ≤ (partB p).length := by
  unfold partB
  split <;> simp
theorem be8_inj {u v : Int} (h0 : 0 ≤ u) (h1 : u < 18446744073709551616) (h2 : 0 ≤ v) (h3 : v < 18446744073709551616) (h : be8 u = be8 v) : u = v := by
  unfold be8 at h
  simp only [List.cons.injEq, and_true] at h
  omega
/-- A text's bytes end where they end. -/
theorem esc_ends : ∀ (t u : List UInt8) (x y : List UInt8), escU t ++ 0 :: 1 :: x = escU u ++ 0 :: 1 :: y → t = u ∧ x = y
  | [], [], x, y, h => by
    simp [escU] at h
    exact ⟨rfl, h⟩
  | [], c :: u, x, y, h => by
    unfold escU at h
    by_cases hc : c = 0
    · rw [if_pos hc] at h; simp [escU] at h
    · rw [if_neg hc] at h
      simp [escU] at h
      exact absurd h.1.symm hc
  | c :: t, [], x, y, h => by
    unfold escU at h
    by_cases hc : c = 0
    · rw [if_pos hc] at h; simp [escU] at h
    · rw [if_neg hc] at h
      simp [escU] at h
      exact absurd h.1 hc
  | c :: t, d :: u, x, y, h => by
    unfold escU at h
    by_cases hc : c = 0 <;> by_cases hd : d = 0
    · rw [if_pos hc, if_pos hd] at h
      simp only [List.cons_append, List.cons.injEq, true_and] at h
      obtain ⟨h1, h2⟩ := esc_ends t u x y h
      exact ⟨by rw [hc, hd, h1], h2⟩
    · rw [if_pos hc, if_neg hd] at h
      simp only [List.cons_append, List.cons.injEq] at h
      exact absurd h.1.symm hd
    · rw [if_neg hc, if_pos hd] at h
      simp only [List.cons_append, List.cons.injEq] at h
      exact absurd h.1 hc
    · rw [if_neg hc, if_neg hd] at h
      simp only [List.cons_append, List.cons.injEq] at h
      obtain ⟨h1, h2⟩ := esc_ends t u x y h.2
      exact ⟨by rw [h.1, h1], h2⟩
/-- No good part's bytes begin another's. -/
theorem part_ends {p q : S45} (hp : Good p) (hq : Good q) {x y : List UInt8} (h : partB p ++ b8 x = partB q ++ b8 y) : p = q ∧ x = y := by
  obtain ⟨pk, pn, ps⟩ := p
  obtain ⟨qk, qn, qs⟩ := q
  have rp := hp.1.2.1
  have rq := hq.1.2.1
  rcases good_cases hp with ⟨p1, p2⟩ | ⟨p1, p2, p3⟩ <;> rcases good_cases hq with ⟨q1, q2⟩ | ⟨q1, q2, q3⟩
  · rw [good_num p1, good_num q1] at h
    simp only [List.cons_append, List.cons.injEq, true_and] at h
    have hl : (be8 (pn + 9223372036854775808)).length = (be8 (qn + 9223372036854775808)).length := rfl
    obtain ⟨h1, h2⟩ := List.append_inj h hl
    have h3 := be8_inj (by simp only at rp; omega) (by simp only at rp; omega) (by simp only at rq; omega) (by simp only at rq; omega) h1
    simp only at p1 p2 q1 q2
    subst p1 q1 p2 q2
    exact ⟨by rw [show pn = qn by omega], b8_inj h2⟩
  · rw [good_num p1, good_text q1] at h
    simp at h
  · rw [good_text p1, good_num q1] at h
    simp at h
  · rw [good_text p1, good_text q1] at h
    simp only [List.cons_append, List.cons.injEq, true_and] at h
    rw [← b8_append, ← b8_append] at h
    have h := b8_inj h
    simp only [List.append_assoc, List.cons_append, List.nil_append] at h
    obtain ⟨h1, h2⟩ := esc_ends _ _ _ _ h
    simp only at p1 p2 q1 q2 h1
    subst p1 q1 p2 q2
    exact ⟨by rw [Go.WideShapes.bytes_inj h1], h2⟩
theorem bytesK_b8 : ∀ l, (∀ p ∈ l, Good p) → ∃ x, bytesK l = b8 x
  | [], _ => ⟨[], rfl⟩
  | p :: l, h => by
    obtain ⟨x, hx⟩ := bytesK_b8 l (fun q hq => h q (by simp [hq]))
    have hp := h p (by simp)
    rcases good_cases hp with ⟨p1, _⟩ | ⟨p1, _⟩
    · have hb : ∀ u : Int, 0 ≤ u → u < 18446744073709551616 → ∃ z, 16 :: be8 u = b8 z := fun u h0 h1 => by
        refine ⟨(16 :: be8 u).map fun n => UInt8.ofNat n.toNat, ?_⟩
        have hr : ∀ n ∈ (16 :: be8 u), 0 ≤ n ∧ n < 256 := by
          intro n hn
          unfold be8 at hn
          simp only [List.mem_cons, List.not_mem_nil, or_false] at hn
          omega
        unfold b8
        rw [List.map_map]
        conv => lhs; rw [← List.map_id (16 :: be8 u)]
        apply List.map_congr_left
        intro n hn
        obtain ⟨r0, r1⟩ := hr n hn
        show n = (((UInt8.ofNat n.toNat).toNat : Nat) : Int)
        rw [UInt8.toNat_ofNat']
        omega
      have r := hp.1.2.1
      obtain ⟨z, hz⟩ := hb (p.f1 + 9223372036854775808) (by omega) (by omega)
      exact ⟨z ++ x, by rw [bytesK, good_num p1, hz, hx, b8_append]⟩
    · exact ⟨32 :: (escU p.f2.data.toList ++ [0, 1]) ++ x, by rw [bytesK, good_text p1, hx, List.cons_append, List.cons_append, b8_cons, b8_append (escU p.f2.data.toList ++ [0, 1])]; rfl⟩
theorem bytesK_inj : ∀ {a b : List S45}, (∀ p ∈ a, Good p) → (∀ p ∈ b, Good p) → bytesK a = bytesK b → a = b
  | [], [], _, _, _ => rfl
  | [], q :: b, _, _, h => by
    have := partB_pos q
    have h1 : (bytesK (q :: b)).length = 0 := by rw [← h]; rfl
    rw [bytesK, List.length_append] at h1
    omega
  | p :: a, [], _, _, h => by
    have := partB_pos p
    have h1 : (bytesK (p :: a)).length = 0 := by rw [h]; rfl
    rw [bytesK, List.length_append] at h1
    omega
  | p :: a, q :: b, ha, hb, h => by
    obtain ⟨x, hx⟩ := bytesK_b8 a (fun q hq => ha q (by simp [hq]))
    obtain ⟨y, hy⟩ := bytesK_b8 b (fun q hq => hb q (by simp [hq]))
    rw [bytesK, bytesK, hx, hy] at h
    obtain ⟨h1, h2⟩ := part_ends (ha p (by simp)) (hb q (by simp)) h
    have h3 := bytesK_inj (a := a) (b := b) (fun q hq => ha q (by simp [hq])) (fun q hq => hb q (by simp [hq])) (by rw [hx, hy, h2])
    rw [h1, h3]

/-! ### reading a text -/
theorem txt_esc : ∀ (t rest acc : List UInt8) (i : Nat), txt (escU t ++ 0 :: 1 :: rest) acc i = (⟨(acc ++ t).toArray⟩, ((i + (escU t).length : Nat) : Int) + 2, true)
  | [], rest, acc, i => by simp [escU, txt]
  | c :: t, rest, acc, i => by
    by_cases hc : c = 0
    · subst hc
      have ih := txt_esc t rest (acc ++ [0]) (i + 2)
      simp only [escU, if_true, List.cons_append, txt]
      rw [if_neg (by decide)]
      refine (ih : _ = _).trans ?_
      simp only [List.append_assoc, List.cons_append, List.nil_append, List.length_cons]
      congr 2
      omega
    · have ih := txt_esc t rest (acc ++ [c]) (i + 1)
      simp only [escU, if_neg hc, List.cons_append]
      obtain ⟨d, z, hz⟩ : ∃ d z, escU t ++ 0 :: 1 :: rest = d :: z := by
        cases h : escU t with
        | nil => exact ⟨_, _, rfl⟩
        | cons a b => exact ⟨_, _, rfl⟩
      rw [hz] at ih ⊢
      rw [txt, if_neg hc, ih]
      simp only [List.append_assoc, List.cons_append, List.nil_append, List.length_cons]
      congr 2
      omega
theorem txt_back : ∀ (n : Nat) (xs : List UInt8), xs.length ≤ n → ∀ (acc : List UInt8) (i : Nat) (t : ByteArray) (m : Int), txt xs acc i = (t, m, true) →
    ∃ u rest, xs = escU u ++ 0 :: 1 :: rest ∧ t = ⟨(acc ++ u).toArray⟩ ∧ m = ((i + (escU u).length : Nat) : Int) + 2 := by
  intro n
  induction n with
  | zero =>
    intro xs hx acc i t m h
    match xs, hx with
    | [], _ => simp [txt] at h
  | succ n ih =>
    intro xs hx acc i t m h
    match xs with
    | [] => simp [txt] at h
    | [_] => simp [txt] at h
    | c :: d :: r =>
      rw [txt] at h
      split at h
      · rename_i hc
        split at h
        · rename_i hd
          injection h with h1 h2
          injection h2 with h2 _
          exact ⟨[], r, by rw [hc, hd]; rfl, by rw [← h1]; simp, by rw [← h2]; simp [escU]⟩
        · split at h
          · rename_i hd
            obtain ⟨u, rest, h1, h2, h3⟩ := ih r (by simp at hx; omega) _ _ _ _ h
            refine ⟨0 :: u, rest, ?_, by rw [h2]; simp, ?_⟩
            · rw [hc, hd, h1]; simp [escU]
            · rw [h3]; simp [escU]; omega
          · simp at h
      · rename_i hc
        obtain ⟨u, rest, h1, h2, h3⟩ := ih (d :: r) (by simp at hx ⊢; omega) _ _ _ _ h
        refine ⟨c :: u, rest, ?_, by rw [h2]; simp, ?_⟩
        · rw [h1]; simp [escU, hc]
        · rw [h3]; simp [escU, hc]; omega

/-! ### reading a number -/
def v8 (b0 b1 b2 b3 b4 b5 b6 b7 : Int) : Int := ((((((b0 * 256 + b1) * 256 + b2) * 256 + b3) * 256 + b4) * 256 + b5) * 256 + b6) * 256 + b7
theorem v8_be8 {b0 b1 b2 b3 b4 b5 b6 b7 : Int} (h0 : 0 ≤ b0 ∧ b0 ≤ 255) (h1 : 0 ≤ b1 ∧ b1 ≤ 255) (h2 : 0 ≤ b2 ∧ b2 ≤ 255) (h3 : 0 ≤ b3 ∧ b3 ≤ 255) (h4 : 0 ≤ b4 ∧ b4 ≤ 255) (h5 : 0 ≤ b5 ∧ b5 ≤ 255) (h6 : 0 ≤ b6 ∧ b6 ≤ 255) (h7 : 0 ≤ b7 ∧ b7 ≤ 255) :
    be8 (v8 b0 b1 b2 b3 b4 b5 b6 b7) = [b0, b1, b2, b3, b4, b5, b6, b7] := by
  unfold be8 v8
  have e0 : (((((((b0 * 256 + b1) * 256 + b2) * 256 + b3) * 256 + b4) * 256 + b5) * 256 + b6) * 256 + b7) / 72057594037927936 % 256 = b0 := by omega
  have e1 : (((((((b0 * 256 + b1) * 256 + b2) * 256 + b3) * 256 + b4) * 256 + b5) * 256 + b6) * 256 + b7) / 281474976710656 % 256 = b1 := by omega
  have e2 : (((((((b0 * 256 + b1) * 256 + b2) * 256 + b3) * 256 + b4) * 256 + b5) * 256 + b6) * 256 + b7) / 1099511627776 % 256 = b2 := by omega
  have e3 : (((((((b0 * 256 + b1) * 256 + b2) * 256 + b3) * 256 + b4) * 256 + b5) * 256 + b6) * 256 + b7) / 4294967296 % 256 = b3 := by omega
  have e4 : (((((((b0 * 256 + b1) * 256 + b2) * 256 + b3) * 256 + b4) * 256 + b5) * 256 + b6) * 256 + b7) / 16777216 % 256 = b4 := by omega
  have e5 : (((((((b0 * 256 + b1) * 256 + b2) * 256 + b3) * 256 + b4) * 256 + b5) * 256 + b6) * 256 + b7) / 65536 % 256 = b5 := by omega
  have e6 : (((((((b0 * 256 + b1) * 256 + b2) * 256 + b3) * 256 + b4) * 256 + b5) * 256 + b6) * 256 + b7) / 256 % 256 = b6 := by omega
  have e7 : (((((((b0 * 256 + b1) * 256 + b2) * 256 + b3) * 256 + b4) * 256 + b5) * 256 + b6) * 256 + b7) % 256 = b7 := by omega
  rw [e0, e1, e2, e3, e4, e5, e6, e7]
theorem v8_rng {b0 b1 b2 b3 b4 b5 b6 b7 : Int} (h0 : 0 ≤ b0 ∧ b0 ≤ 255) (h1 : 0 ≤ b1 ∧ b1 ≤ 255) (h2 : 0 ≤ b2 ∧ b2 ≤ 255) (h3 : 0 ≤ b3 ∧ b3 ≤ 255) (h4 : 0 ≤ b4 ∧ b4 ≤ 255) (h5 : 0 ≤ b5 ∧ b5 ≤ 255) (h6 : 0 ≤ b6 ∧ b6 ≤ 255) (h7 : 0 ≤ b7 ∧ b7 ≤ 255) :
    0 ≤ v8 b0 b1 b2 b3 b4 b5 b6 b7 ∧ v8 b0 b1 b2 b3 b4 b5 b6 b7 < 18446744073709551616 := by
  unfold v8
  omega
/-- The value of eight bytes from a place on. -/
def V (s : ByteArray) (i : Int) : Int := v8 (bt s i) (bt s (i + 1)) (bt s (i + 2)) (bt s (i + 3)) (bt s (i + 4)) (bt s (i + 5)) (bt s (i + 6)) (bt s (i + 7))
theorem V_rng (s : ByteArray) (i : Int) : 0 ≤ V s i ∧ V s i < 18446744073709551616 := v8_rng (bt_rng _ _) (bt_rng _ _) (bt_rng _ _) (bt_rng _ _) (bt_rng _ _) (bt_rng _ _) (bt_rng _ _) (bt_rng _ _)
theorem V_bytes (s : ByteArray) (i : Nat) (h : i + 8 ≤ s.size) : b8 (s.data.toList.drop i) = be8 (V s (i : Int)) ++ b8 (s.data.toList.drop (i + 8)) := by
  unfold V
  rw [v8_be8 (bt_rng _ _) (bt_rng _ _) (bt_rng _ _) (bt_rng _ _) (bt_rng _ _) (bt_rng _ _) (bt_rng _ _) (bt_rng _ _)]
  have st : ∀ j, j < s.size → b8 (s.data.toList.drop j) = bt s (j : Int) :: b8 (s.data.toList.drop (j + 1)) := fun j hj => by
    obtain ⟨c, h1, h2⟩ := bt_drop s j hj
    rw [h1, b8_cons, h2]
  rw [st i (by omega), st (i + 1) (by omega), st (i + 2) (by omega), st (i + 3) (by omega), st (i + 4) (by omega), st (i + 5) (by omega), st (i + 6) (by omega), st (i + 7) (by omega)]
  rfl
theorem or_join (u b : Int) (h0 : 0 ≤ u) (h1 : u < 72057594037927936) (h2 : 0 ≤ b) (h3 : b ≤ 255) : Go.bits .or .u64 (IntKind.u64.wrap (u * 256)) (IntKind.u64.wrap b) = u * 256 + b := by
  have e1 : IntKind.u64.wrap (u * 256) = u * 256 := by rw [u64_wrap]; omega
  have e2 : IntKind.u64.wrap b = b := by rw [u64_wrap]; omega
  rw [e1, e2]
  exact bits_join .u64 64 (by decide) (fun n h0 h1 => by rw [u64_wrap]; omega) 8 (u * 256) b (by omega) (by omega) (by omega) h2 (by omega) (by omega)
theorem number_eq (k : Nat) (s : ByteArray) (hk : 12 ≤ k) (hs : 8 ≤ s.size) : keycode_number.f k s = some (1, V s 0 - 9223372036854775808, (⟨#[]⟩ : ByteArray)) := by
  obtain ⟨m, rfl⟩ : ∃ m, k = m + 12 := ⟨k - 12, by omega⟩
  have r := bt_rng s
  have hz : (8 : Int) ≤ (s.size : Int) := by omega
  have step : ∀ (n : Nat) (u i : Int), 0 ≤ i → i < 8 → 0 ≤ u → u < 72057594037927936 → keycode_number.l0 (n + 1) s u i = keycode_number.l0 n s (u * 256 + bt s i) (i + 1) := by
    intro n u i h0 h1 h2 h3
    have hb := r i
    simp only [keycode_number.l0]
    rw [if_pos h1, if_pos h0, if_pos (by omega), or_join u (bt s i) h2 h3 hb.1 hb.2, wrap64_small (by omega) (by omega)]
  have r0 := r 0; have r1 := r 1; have r2 := r 2; have r3 := r 3; have r4 := r 4; have r5 := r 5; have r6 := r 6
  unfold keycode_number.f
  have i2 : (1 + 1 : Int) = 2 := rfl
  have i3 : (2 + 1 : Int) = 3 := rfl
  have i4 : (3 + 1 : Int) = 4 := rfl
  have i5 : (4 + 1 : Int) = 5 := rfl
  have i6 : (5 + 1 : Int) = 6 := rfl
  have i7 : (6 + 1 : Int) = 7 := rfl
  have i8 : (7 + 1 : Int) = 8 := rfl
  rw [step (m + 11) 0 0 (by omega) (by omega) (by omega) (by omega), Int.zero_mul, Int.zero_add, Int.zero_add,
    step (m + 10) _ 1 (by omega) (by omega) (by omega) (by omega), i2, step (m + 9) _ 2 (by omega) (by omega) (by omega) (by omega), i3,
    step (m + 8) _ 3 (by omega) (by omega) (by omega) (by omega), i4, step (m + 7) _ 4 (by omega) (by omega) (by omega) (by omega), i5,
    step (m + 6) _ 5 (by omega) (by omega) (by omega) (by omega), i6, step (m + 5) _ 6 (by omega) (by omega) (by omega) (by omega), i7,
    step (m + 4) _ 7 (by omega) (by omega) (by omega) (by omega), i8]
  have hV := V_rng s 0
  have e : V s 0 = ((((((bt s 0 * 256 + bt s 1) * 256 + bt s 2) * 256 + bt s 3) * 256 + bt s 4) * 256 + bt s 5) * 256 + bt s 6) * 256 + bt s 7 := rfl
  rw [← e]
  clear e
  simp only [keycode_number.l0, keycode_Num.f, Option.bind_some]
  rw [if_neg (by omega), xor_top_u _ hV.1 hV.2]
  congr 3
  generalize V s 0 = v at hV ⊢
  unfold wrap64
  omega
end Go.Proofs.Ythpleebfhanahaa.KP
