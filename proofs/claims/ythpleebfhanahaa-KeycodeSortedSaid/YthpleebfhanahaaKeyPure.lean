/- What the functions of keycode and of its reference compute, in plain words: bytes of a part, of a key; comparing; reading. -/
import Derived.Test.YthpleebfhanahaaMKeyx12
import Derived.Test.YthpleebfhanahaaMKeyx11
import Derived.Test.YthpleebfhanahaaMKeyx6
import Derived.Test.YthpleebfhanahaaMKeyx4
import Derived.Test.YthpleebfhanahaaMKeyx2
import Derived.Test.YthpleebfhanahaaMKeyx8
import Derived.Test.YthpleebfhanahaaMKeyx9
import Derived.Test.YthpleebfhanahaaMKeyx5
set_option linter.unusedSimpArgs false
set_option linter.unusedVariables false
namespace Go.Proofs.Ythpleebfhanahaa.KP
open Go.RowKit Go.Proofs.Ythpleebfhanahaa.MKey Go.Proofs.YthpleebfhanahaaW.PrintWords Go.Proofs.YthpleebfhanahaaW.PrintLast Go.Proofs.YthpleebfhanahaaW.PrintMore

/-! ### small things -/
theorem up1 {k n : Nat} (h : n < k) : ∃ m, k = m + 1 ∧ n ≤ m := ⟨k - 1, by omega, by omega⟩
theorem wrap64_small {x : Int} (h0 : -9223372036854775808 ≤ x) (h1 : x ≤ 9223372036854775807) : wrap64 x = x := by unfold wrap64; omega
theorem wrap_succ (i : Nat) (h : i ≤ 1000000000) : wrap64 ((i : Int) + 1) = ((i + 1 : Nat) : Int) := by
  rw [wrap64_small (by omega) (by omega)]; omega
theorem u64_wrap (x : Int) : IntKind.u64.wrap x = x % 18446744073709551616 := by simp [IntKind.wrap, IntKind.bits, IntKind.signed]
theorem mn_le (a b : Int) : mn a b ≤ a ∧ mn a b ≤ b ∧ (mn a b = a ∨ mn a b = b) := by unfold mn; split <;> omega
theorem mn_cut (n : Nat) : ∃ j : Int, Aside0 (mn (n : Int) 150 = j) ∧ 0 ≤ j ∧ j ≤ n ∧ j ≤ 150 := by
  have hm := mn_le (n : Int) 150
  exact ⟨_, ⟨rfl⟩, by omega, hm.1, hm.2.1⟩
theorem bt_drop (s : ByteArray) (i : Nat) (h : i < s.size) : ∃ c : UInt8, s.data.toList.drop i = c :: s.data.toList.drop (i + 1) ∧ bt s (i : Int) = (c.toNat : Int) := by
  have h1 : i < s.data.toList.length := by simpa using h
  refine ⟨s.data.toList[i], List.drop_eq_getElem_cons h1, ?_⟩
  unfold bt
  have : (i : Int).toNat = i := by omega
  rw [this, dif_pos h]
  rfl
theorem bt_rng (s : ByteArray) (i : Int) : 0 ≤ bt s i ∧ bt s i ≤ 255 := by
  unfold bt
  split
  · have := UInt8.toNat_lt (s[i.toNat]'(by assumption))
    omega
  · omega
theorem rd_at (l : List S45) (i : Nat) (h : i < l.length) : rd_T45 l (i : Int) = l[i] := by
  unfold rd_T45
  have : (i : Int).toNat = i := by omega
  rw [this, List.getD_eq_getElem?_getD, List.getElem?_eq_getElem h]
  rfl
theorem nums_size (l : List Int) : (strOfNums l).size = l.length := by
  unfold strOfNums
  simp [ByteArray.size]

/-! ### the bytes of a part -/
def be8 (u : Int) : List Int := [u / 72057594037927936 % 256, u / 281474976710656 % 256, u / 1099511627776 % 256, u / 4294967296 % 256, u / 16777216 % 256, u / 65536 % 256, u / 256 % 256, u % 256]
def esc : List UInt8 → List Int
  | [] => []
  | c :: r => if c = 0 then 0 :: 255 :: esc r else (c.toNat : Int) :: esc r
theorem esc_len : ∀ l, (esc l).length ≤ 2 * l.length
  | [] => by simp [esc]
  | c :: r => by
    have := esc_len r
    unfold esc
    split <;> simp <;> omega
def partB (p : S45) : List Int := if p.f0 = 1 then 16 :: be8 (p.f1 + 9223372036854775808) else 32 :: (esc p.f2.data.toList ++ [0, 1])
theorem partB_len (p : S45) : (partB p).length ≤ 2 * p.f2.size + 9 := by
  unfold partB
  split
  · show 9 ≤ _
    omega
  · have := esc_len p.f2.data.toList
    have h : p.f2.data.toList.length = p.f2.size := rfl
    simp; omega
/-- A part of the law's own: its numbers are Go's, its text is short. -/
def Small (p : S45) : Prop := (-9223372036854775808 ≤ p.f0 ∧ p.f0 ≤ 9223372036854775807) ∧ (-9223372036854775808 ≤ p.f1 ∧ p.f1 ≤ 9223372036854775807) ∧ p.f2.size ≤ 150
theorem nat_xor_top (x : Nat) (h : x < 18446744073709551616) : x ^^^ 9223372036854775808 = (x + 9223372036854775808) % 18446744073709551616 := by
  have h1 : (x ^^^ 9223372036854775808) / 2 ^ 63 = (x / 2 ^ 63) ^^^ (9223372036854775808 / 2 ^ 63) := Nat.xor_div_two_pow
  have h2 : (x ^^^ 9223372036854775808) % 2 ^ 63 = (x % 2 ^ 63) ^^^ (9223372036854775808 % 2 ^ 63) := Nat.xor_mod_two_pow
  have e1 : (9223372036854775808 : Nat) / 2 ^ 63 = 1 := by decide
  have e2 : (9223372036854775808 : Nat) % 2 ^ 63 = 0 := by decide
  rw [e1] at h1
  rw [e2, Nat.xor_zero] at h2
  have hd : x / 2 ^ 63 = 0 ∨ x / 2 ^ 63 = 1 := by omega
  rcases hd with hd | hd
  · rw [hd] at h1
    have : (0 ^^^ 1 : Nat) = 1 := by decide
    rw [this] at h1
    omega
  · rw [hd] at h1
    have : (1 ^^^ 1 : Nat) = 0 := by decide
    rw [this] at h1
    omega
theorem xor_top_u (n : Int) (h0 : 0 ≤ n) (h1 : n < 18446744073709551616) : Go.bits .xor .u64 n 9223372036854775808 = (n + 9223372036854775808) % 18446744073709551616 := by
  obtain ⟨x, rfl⟩ : ∃ x : Nat, n = x := ⟨n.toNat, by omega⟩
  have hw : ∀ m : Int, IntKind.u64.wrap m = m % 18446744073709551616 := fun m => by simp [IntKind.wrap, IntKind.bits, IntKind.signed]
  have hb : IntKind.u64.bits = 64 := rfl
  simp only [Go.bits, hw]
  have e1 : (BitVec.ofInt IntKind.u64.bits (x : Int) ^^^ BitVec.ofInt IntKind.u64.bits 9223372036854775808).toNat = x ^^^ 9223372036854775808 := by
    rw [BitVec.toNat_xor, BitVec.toNat_ofInt, BitVec.toNat_ofInt, hb]
    congr 1
    omega
  rw [e1, nat_xor_top x (by omega)]
  omega
theorem xor_top (n : Int) (h0 : -9223372036854775808 ≤ n) (h1 : n ≤ 9223372036854775807) : Go.bits .xor .u64 (IntKind.u64.wrap n) 9223372036854775808 = n + 9223372036854775808 := by
  rw [u64_wrap, xor_top_u _ (by omega) (by omega)]
  omega
theorem put_num (k : Nat) (u : Int) (acc : List Int) (hk : 12 ≤ k) (hl : acc.length ≤ 1000000) : keycode_put.l0 k acc u 56 = some (acc ++ be8 u) := by
  obtain ⟨m, rfl⟩ : ∃ m, k = m + 12 := ⟨k - 12, by omega⟩
  have w1 : wrap64 (56 - 8) = 48 := by unfold wrap64; omega
  have w2 : wrap64 (48 - 8) = 40 := by unfold wrap64; omega
  have w3 : wrap64 (40 - 8) = 32 := by unfold wrap64; omega
  have w4 : wrap64 (32 - 8) = 24 := by unfold wrap64; omega
  have w5 : wrap64 (24 - 8) = 16 := by unfold wrap64; omega
  have w6 : wrap64 (16 - 8) = 8 := by unfold wrap64; omega
  have w7 : wrap64 (8 - 8) = 0 := by unfold wrap64; omega
  have w8 : wrap64 (0 - 8) = -8 := by unfold wrap64; omega
  simp only [keycode_put.l0, w1, w2, w3, w4, w5, w6, w7, w8, List.length_append, List.length_cons, List.length_nil, ge_iff_le]
  rw [if_pos (by decide), if_pos (by decide), if_pos (by omega), if_pos (by decide), if_pos (by decide), if_pos (by omega), if_pos (by decide), if_pos (by decide), if_pos (by omega), if_pos (by decide), if_pos (by decide), if_pos (by omega), if_pos (by decide), if_pos (by decide), if_pos (by omega), if_pos (by decide), if_pos (by decide), if_pos (by omega), if_pos (by decide), if_pos (by decide), if_pos (by omega), if_pos (by decide), if_pos (by decide), if_pos (by omega), if_neg (by decide)]
  simp [shr, be8, IntKind.bits]
theorem put_text (s : ByteArray) (a b : Int) (hs : s.size ≤ 150) : ∀ (d k i : Nat) (acc : List Int), i + d = s.size → d < k → acc.length + 2 * d ≤ 1000000 →
    keycode_put.l1 k acc (s.size : Int) (i : Int) a b s = some (acc ++ (esc (s.data.toList.drop i) ++ [0, 1])) := by
  intro d
  induction d with
  | zero =>
    intro k i acc hi hk hl
    obtain ⟨m, rfl, _⟩ := up1 hk
    have hd : s.data.toList.drop i = [] := List.drop_eq_nil_of_le (by show s.size ≤ i; omega)
    simp only [keycode_put.l1, Option.bind_some, List.length_cons, List.length_nil]
    rw [if_neg (by omega), if_pos (by omega), hd]
    rfl
  | succ d ih =>
    intro k i acc hi hk hl
    obtain ⟨m, rfl, hm⟩ := up1 hk
    obtain ⟨c, hc, hb⟩ := bt_drop s i (by omega)
    simp only [keycode_put.l1, Option.bind_some, List.length_append, List.length_cons, List.length_nil]
    rw [if_pos (by omega), if_pos (by omega), if_pos (by omega), if_pos (by omega), hb, wrap_succ i (by omega), hc]
    by_cases h0 : c = 0
    · subst h0
      rw [if_pos (by decide), if_pos (by omega), ih m (i + 1) _ (by omega) (by omega) (by simp; omega)]
      simp [esc]
    · have : ¬ ((c.toNat : Int) = 0) := fun e => h0 (UInt8.toNat_inj.mp (by show c.toNat = 0; omega))
      rw [if_neg this, ih m (i + 1) _ (by omega) (by omega) (by simp; omega)]
      simp [esc, h0]
theorem put_eq (k : Nat) (p : S45) (acc : List Int) (hp : Small p) (hk : 160 ≤ k) (hl : acc.length ≤ 900000) : keycode_put.f k acc p.f0 p.f1 p.f2 = some (acc ++ partB p) := by
  obtain ⟨_, ⟨h2, h3⟩, h4⟩ := hp
  unfold keycode_put.f partB
  by_cases h : p.f0 = 1
  · rw [if_pos h, if_pos h, if_pos (by omega), xor_top _ h2 h3, put_num k _ _ (by omega) (by rw [List.length_append]; show _ + 1 ≤ _; omega)]
    simp
  · rw [if_neg h, if_neg h, if_pos (by omega)]
    have := put_text p.f2 p.f0 p.f1 h4 p.f2.size k 0 (acc ++ [32]) (by omega) (by omega) (by simp; omega)
    have h0 : ((0 : Nat) : Int) = 0 := rfl
    rw [h0] at this
    rw [this]
    simp

/-! ### the reference's bytes -/
theorem num_ref (k : Nat) (u : Int) (hk : 12 ≤ k) (h0 : 0 ≤ u) (h1 : u < 18446744073709551616) : aquiferref03_bytes.l0 k [] u 0 = some (16 :: be8 u) := by
  obtain ⟨m, rfl⟩ : ∃ m, k = m + 12 := ⟨k - 12, by omega⟩
  have w0 : wrap64 (0 + 1) = 1 := by unfold wrap64; omega
  have w1 : wrap64 (1 + 1) = 2 := by unfold wrap64; omega
  have w2 : wrap64 (2 + 1) = 3 := by unfold wrap64; omega
  have w3 : wrap64 (3 + 1) = 4 := by unfold wrap64; omega
  have w4 : wrap64 (4 + 1) = 5 := by unfold wrap64; omega
  have w5 : wrap64 (5 + 1) = 6 := by unfold wrap64; omega
  have w6 : wrap64 (6 + 1) = 7 := by unfold wrap64; omega
  have w7 : wrap64 (7 + 1) = 8 := by unfold wrap64; omega
  have hm : ∀ x : Int, 0 ≤ x → Int.tmod x 256 = x % 256 := fun x hx => Int.tmod_eq_emod_of_nonneg hx
  have hd : ∀ x : Int, 0 ≤ x → Int.tdiv x 256 = x / 256 := fun x hx => Int.tdiv_eq_ediv_of_nonneg hx
  have hu : ∀ x : Int, 0 ≤ x → x < 18446744073709551616 → IntKind.u64.wrap x = x := fun x hx hy => by rw [u64_wrap]; omega
  have step : ∀ (n : Nat) (acc : List Int) (v i : Int), i < 8 → acc.length ≤ 10 → 0 ≤ v → v < 18446744073709551616 →
      aquiferref03_bytes.l0 (n + 1) acc v i = aquiferref03_bytes.l0 n ((v % 256) :: acc) (v / 256) (wrap64 (i + 1)) := by
    intro n acc v i hi hl hv0 hv1
    simp only [aquiferref03_bytes.l0, Option.bind_some, List.length_cons, List.length_nil]
    rw [if_pos hi, if_pos (by omega), hm v hv0, hd v hv0, hu _ (by omega) (by omega)]
    have : v % 256 % 256 = v % 256 := by omega
    rw [this]
    rfl
  rw [step (m + 11) [] u 0 (by omega) (by simp) h0 h1, w0, step (m + 10) _ _ 1 (by omega) (by simp) (by omega) (by omega), w1,
    step (m + 9) _ _ 2 (by omega) (by simp) (by omega) (by omega), w2, step (m + 8) _ _ 3 (by omega) (by simp) (by omega) (by omega), w3,
    step (m + 7) _ _ 4 (by omega) (by simp) (by omega) (by omega), w4, step (m + 6) _ _ 5 (by omega) (by simp) (by omega) (by omega), w5,
    step (m + 5) _ _ 6 (by omega) (by simp) (by omega) (by omega), w6, step (m + 4) _ _ 7 (by omega) (by simp) (by omega) (by omega), w7]
  simp only [aquiferref03_bytes.l0, Option.bind_some, List.length_cons, List.length_nil]
  rw [if_neg (by omega), if_pos (by omega)]
  have d : ∀ a b : Int, u / a / b = u / (a * b) ∨ True := fun _ _ => .inr trivial
  unfold be8
  have e1 : u / 256 / 256 = u / 65536 := by omega
  have e2 : u / 65536 / 256 = u / 16777216 := by omega
  have e3 : u / 16777216 / 256 = u / 4294967296 := by omega
  have e4 : u / 4294967296 / 256 = u / 1099511627776 := by omega
  have e5 : u / 1099511627776 / 256 = u / 281474976710656 := by omega
  have e6 : u / 281474976710656 / 256 = u / 72057594037927936 := by omega
  rw [e1, e2, e3, e4, e5, e6]
  rfl
theorem text_ref (s : ByteArray) (a b : Int) (hs : s.size ≤ 150) : ∀ (d k i : Nat) (acc : List Int), i + d = s.size → d < k → acc.length + 2 * d ≤ 1000000 →
    aquiferref03_bytes.l1 k acc (i : Int) a b s = some (acc ++ (esc (s.data.toList.drop i) ++ [0, 1])) := by
  intro d
  induction d with
  | zero =>
    intro k i acc hi hk hl
    obtain ⟨m, rfl, _⟩ := up1 hk
    have hd : s.data.toList.drop i = [] := List.drop_eq_nil_of_le (by show s.size ≤ i; omega)
    simp only [aquiferref03_bytes.l1, Option.bind_some, List.length_cons, List.length_nil]
    rw [if_neg (by omega), if_pos (by omega), hd]
    rfl
  | succ d ih =>
    intro k i acc hi hk hl
    obtain ⟨m, rfl, hm⟩ := up1 hk
    obtain ⟨c, hc, hb⟩ := bt_drop s i (by omega)
    simp only [aquiferref03_bytes.l1, Option.bind_some, List.length_append, List.length_cons, List.length_nil]
    rw [if_pos (by omega), if_pos (by omega), if_pos (by omega), hb, wrap_succ i (by omega), hc]
    by_cases h0 : c = 0
    · subst h0
      rw [if_pos (by decide), if_pos (by omega), ih m (i + 1) _ (by omega) (by omega) (by simp; omega)]
      simp [esc]
    · have : ¬ ((c.toNat : Int) = 0) := fun e => h0 (UInt8.toNat_inj.mp (by show c.toNat = 0; omega))
      rw [if_neg this, ih m (i + 1) _ (by omega) (by omega) (by simp; omega)]
      simp [esc, h0]
theorem bytes_ref (k : Nat) (p : S45) (hp : Small p) (hk : 160 ≤ k) : aquiferref03_bytes.f k p.f0 p.f1 p.f2 = some (partB p) := by
  obtain ⟨_, ⟨h2, h3⟩, h4⟩ := hp
  unfold aquiferref03_bytes.f partB
  by_cases h : p.f0 = 1
  · have e : IntKind.u64.wrap (IntKind.u64.wrap p.f1 + 9223372036854775808) = p.f1 + 9223372036854775808 := by rw [u64_wrap, u64_wrap]; omega
    rw [if_pos h, if_pos h, e, num_ref k _ (by omega) (by omega) (by omega)]
  · rw [if_neg h, if_neg h, if_pos (by simp)]
    have := text_ref p.f2 p.f0 p.f1 h4 p.f2.size k 0 ([] ++ [32]) (by omega) (by omega) (by simp; omega)
    have h0 : ((0 : Nat) : Int) = 0 := rfl
    rw [h0] at this
    rw [this]
    simp

/-! ### may a part be? -/
def whyP (p : S45) : Int := if p.f0 = 1 then (if p.f2.toList = [] then 0 else 2) else if p.f0 = 2 then (if p.f1 = 0 then (if (p.f2.size : Int) > 120 then 3 else 0) else 2) else 2
theorem why_eq (p : S45) : keycode_why.f p.f0 p.f1 p.f2 = some (whyP p) := by
  unfold keycode_why.f whyP
  repeat' split
  all_goals rfl
theorem may_eq (k : Nat) (p : S45) (hk : 1 ≤ k) : aquiferref03_may.f k p.f0 p.f1 p.f2 = some (whyP p) := by
  obtain ⟨m, rfl⟩ : ∃ m, k = m + 1 := ⟨k - 1, by omega⟩
  unfold aquiferref03_may.f whyP
  simp only [aquiferref03_may.j0]
  by_cases h1 : p.f0 = 1
  · have h2 : ¬ p.f0 = 2 := by omega
    rw [if_pos h1, if_pos h1]
    by_cases he : p.f2.toList = []
    · rw [if_pos he, if_pos he, if_neg h2]
      have hz : p.f2.size = 0 := by
        have h4 : p.f2.data.toList = [] := by rw [← ByteArray.toList_eq]; exact he
        have h5 : p.f2.data.toList.length = 0 := by rw [h4]; rfl
        exact h5
      rw [if_neg (by simp), if_neg (by omega)]
    · rw [if_neg he, if_neg he]
      exact if_pos trivial
  · rw [if_neg h1, if_neg h1]
    by_cases h2 : p.f0 = 2
    · rw [if_pos h2, if_pos h2]
      by_cases h3 : p.f1 = 0
      · have : ¬ ((p.f1 != 0) = true) := by simp [h3]
        rw [if_pos h3, if_neg this]
        split <;> rfl
      · have : (p.f1 != 0) = true := by simpa using h3
        rw [if_pos this, if_neg h3]
    · rw [if_neg h2, if_neg h2]
      exact if_pos trivial

/-! ### a key's bytes -/
def encS : List S45 → List Int → ByteArray × Int
  | [], acc => if (acc.length : Int) > 140 then (⟨#[]⟩, 3) else (strOfNums acc, 0)
  | p :: r, acc => if whyP p = 0 then encS r (acc ++ partB p) else (⟨#[]⟩, whyP p)
theorem enc_l0 (l : List S45) (hl : l.length ≤ 20) (hp : ∀ p ∈ l, Small p) : ∀ (d k i : Nat) (acc : List Int), i + d = l.length → d + 160 < k → acc.length + 400 * d ≤ 100000 →
    keycode_Encode.l0 k acc l (l.length : Int) (i : Int) = some (encS (l.drop i) acc) ∧ aquiferref03_Encode.l0 k l acc (i : Int) = some (encS (l.drop i) acc) := by
  intro d
  induction d with
  | zero =>
    intro k i acc hi hk ha
    obtain ⟨m, rfl, _⟩ := up1 hk
    have hd : l.drop i = [] := List.drop_eq_nil_of_le (by omega)
    simp only [keycode_Encode.l0, aquiferref03_Encode.l0]
    have hn : ¬ (i : Int) < (l.length : Int) := by omega
    simp only [if_neg hn, hd, encS]
    split <;> exact ⟨rfl, rfl⟩
  | succ d ih =>
    intro k i acc hi hk ha
    obtain ⟨m, rfl, hm⟩ := up1 hk
    have hil : i < l.length := by omega
    have hs := hp _ (List.getElem_mem hil)
    simp only [keycode_Encode.l0, aquiferref03_Encode.l0, rd_at l i hil]
    rw [if_pos (by omega), if_pos (by omega), if_pos (by omega), if_pos (by omega), if_pos (by omega), why_eq, may_eq m _ (by omega), List.drop_eq_getElem_cons hil, encS]
    simp only [Option.bind_some]
    by_cases h0 : whyP l[i] = 0
    · have hb := partB_len l[i]
      have h150 := hs.2.2
      simp only [h0, if_true]
      rw [put_eq m _ acc hs (by omega) (by omega), bytes_ref m _ hs (by omega)]
      simp only [Option.bind_some]
      rw [if_pos (by omega), wrap_succ i (by omega)]
      exact ih m (i + 1) _ (by omega) (by omega) (by rw [List.length_append]; omega)
    · simp only [h0, if_false, and_self]
def encK (l : List S45) : ByteArray × Int := if (l.length : Int) > 16 then (⟨#[]⟩, 7) else encS l []
theorem enc_eq (l : List S45) (hl : l.length ≤ 20) (hp : ∀ p ∈ l, Small p) (k : Nat) (hk : 190 ≤ k) : keycode_Encode.f k l = some (encK l) ∧ aquiferref03_Encode.f k l = some (encK l) := by
  unfold keycode_Encode.f aquiferref03_Encode.f encK
  split
  · exact ⟨rfl, rfl⟩
  · exact enc_l0 l hl hp l.length k 0 [] (by omega) (by omega) (by simp; omega)

/-! ### what a law looks at -/
theorem few_eq (l : List S45) (hl : ∀ p ∈ l, (-9223372036854775808 ≤ p.f0 ∧ p.f0 ≤ 9223372036854775807) ∧ (-9223372036854775808 ≤ p.f1 ∧ p.f1 ≤ 9223372036854775807) ∧ p.f2.size ≤ maxLen) :
    ∃ r : List S45, r.length ≤ 20 ∧ (∀ p ∈ r, Small p) ∧ ∀ k, 30 ≤ k → aquiferlaw03_few.f k l = some r := by
  have key : ∀ (d i : Nat) (acc : List S45), i + d = 20 → i ≤ l.length → acc.length = i → (∀ p ∈ acc, Small p) →
      ∃ r : List S45, r.length ≤ 20 ∧ (∀ p ∈ r, Small p) ∧ ∀ k, d < k → aquiferlaw03_few.l0 k l acc (i : Int) = some r := by
    intro d
    induction d with
    | zero =>
      intro i acc hi hil ha hs
      refine ⟨acc, by omega, hs, fun k hk => ?_⟩
      obtain ⟨m, rfl, _⟩ := up1 hk
      simp only [aquiferlaw03_few.l0]
      split
      · rw [if_neg (by omega)]
      · rfl
    | succ d ih =>
      intro i acc hi hil ha hs
      by_cases hlt : i < l.length
      · obtain ⟨q, hq, hqm⟩ : ∃ q, rd_T45 l (i : Int) = q ∧ q ∈ l := ⟨l[i], rd_at l i hlt, List.getElem_mem hlt⟩
        obtain ⟨h0, h1, _⟩ := hl q hqm
        obtain ⟨j, HJ, hj0, hj1, hj2⟩ := mn_cut q.f2.size
        obtain ⟨z, hz⟩ : ∃ z, z = q.f2.size := ⟨_, rfl⟩
        rw [← hz] at hj1 HJ
        obtain ⟨r, hr, hsm, hk⟩ := ih (i + 1) (acc ++ [⟨q.f0, q.f1, q.f2.extract 0 j.toNat⟩]) (by omega) (by omega) (by simp [ha]) (fun p hp => by
          rcases List.mem_append.1 hp with hp | hp
          · exact hs p hp
          · rw [List.mem_singleton.1 hp]
            refine ⟨h0, h1, ?_⟩
            show (q.f2.extract 0 j.toNat).size ≤ 150
            rw [ByteArray.size_extract]
            omega)
        refine ⟨r, hr, hsm, fun k hk1 => ?_⟩
        obtain ⟨m, rfl, hm1⟩ := up1 hk1
        simp only [aquiferlaw03_few.l0, hq, ← hz, HJ.out]
        clear hz
        rw [if_pos (by omega), if_pos (by omega), if_pos (by omega), if_pos (by omega), if_pos (by omega), if_pos (by omega), wrap_succ i (by omega)]
        exact hk m (by omega)
      · refine ⟨acc, by omega, hs, fun k hk => ?_⟩
        obtain ⟨m, rfl, _⟩ := up1 hk
        simp only [aquiferlaw03_few.l0]
        rw [if_neg (by omega)]
  obtain ⟨r, hr, hs, hk⟩ := key 20 0 [] (by omega) (by omega) rfl (fun p hp => by simp at hp)
  exact ⟨r, hr, hs, fun k h => hk k (by omega)⟩
theorem works_true (k : Nat) (hk : 20 ≤ k) : aquiferlaw03_works.f k = some true :=
  at_rounds (fun n => aquiferlaw03_works.mono n) hk (by kernel_rfl)
end Go.Proofs.Ythpleebfhanahaa.KP
