/- Names and paths in plain words: what the program's functions of layer 5 compute. -/
import Derived.Test.YtfnbadfehelleaaDoorMPathx2
import Derived.Test.YtfnbadfehelleaaDoorMPathx1
set_option linter.unusedSimpArgs false
set_option linter.unusedVariables false
namespace Go.Proofs.YtfnbadfehelleaaDoor.PP
open Go.RowKit Go.Proofs.YtfnbadfehelleaaDoor.MPath Go.Proofs.YtfnbadfehelleaaDoorW.PrintWords Go.Proofs.YtfnbadfehelleaaDoorW.PrintLast Go.Proofs.YtfnbadfehelleaaDoorW.PrintMore

/-! ### small things -/
theorem up1 {k n : Nat} (h : n < k) : ∃ m, k = m + 1 ∧ n ≤ m := ⟨k - 1, by omega, by omega⟩
theorem wrap64_small {x : Int} (h0 : -9223372036854775808 ≤ x) (h1 : x ≤ 9223372036854775807) : wrap64 x = x := by unfold wrap64; omega
theorem wrap_succ (i : Nat) (h : i ≤ 1000000000) : wrap64 ((i : Int) + 1) = ((i + 1 : Nat) : Int) := by
  rw [wrap64_small (by omega) (by omega)]; omega
theorem wrap_pred (i : Nat) (h : i ≤ 1000000000) : wrap64 ((i : Int) - 1) = (i : Int) - 1 := wrap64_small (by omega) (by omega)
theorem wrap_zero (i : Nat) (h : i ≤ 1000000000) : wrap64 ((i : Int) + 0) = (i : Int) := by
  rw [wrap64_small (by omega) (by omega)]; omega
theorem wrap_one (i : Nat) (h : i ≤ 1000000000) : wrap64 ((i : Int) + ((1 : Nat) : Int)) = ((i + 1 : Nat) : Int) := wrap_succ i h
theorem wrap_back (i : Nat) (h : i ≤ 1000000000) : wrap64 (((i + 1 : Nat) : Int) - 1) = (i : Int) := by
  rw [wrap64_small (by omega) (by omega)]; omega
theorem mn_le (a b : Int) : mn a b ≤ a ∧ mn a b ≤ b ∧ (mn a b = a ∨ mn a b = b) := by unfold mn; split <;> omega
theorem mn_left (a b : Int) (h : a ≤ b) : mn a b = a := by unfold mn; split <;> omega
theorem bt_drop (s : ByteArray) (i : Nat) (h : i < s.size) : ∃ c : UInt8, s.data.toList.drop i = c :: s.data.toList.drop (i + 1) ∧ bt s (i : Int) = (c.toNat : Int) := by
  have h1 : i < s.data.toList.length := by simpa using h
  refine ⟨s.data.toList[i], List.drop_eq_getElem_cons h1, ?_⟩
  unfold bt
  have : (i : Int).toNat = i := by omega
  rw [this, dif_pos h]
  rfl
theorem rdOf_at (l : List ByteArray) (i : Nat) (h : i < l.length) : rdOf ByteArray.empty l (i : Int) = l[i] := by
  unfold rdOf
  have : (i : Int).toNat = i := by omega
  rw [this, List.getD_eq_getElem?_getD, List.getElem?_eq_getElem h]
  rfl
theorem len_size (s : ByteArray) : s.data.toList.length = s.size := rfl
theorem ext_list (s : ByteArray) (a n : Nat) : (s.extract a (a + n)).data.toList = (s.data.toList.drop a).take n := by
  simp [ByteArray.data_extract, Array.toList_extract, List.extract]
theorem drop_str (s : ByteArray) (n : Nat) : (s.extract n s.size).data.toList = s.data.toList.drop n := by
  have h := ext_list s n (s.size - n)
  by_cases hn : n ≤ s.size
  · rw [show n + (s.size - n) = s.size by omega] at h
    rw [h]
    apply List.take_of_length_le
    rw [List.length_drop, len_size]
    omega
  · have h1 : s.data.toList.drop n = [] := List.drop_eq_nil_of_le (by rw [len_size]; omega)
    have h2 : (s.extract n s.size).size = 0 := by rw [ByteArray.size_extract]; omega
    rw [h1]
    exact List.eq_nil_of_length_eq_zero h2
theorem take_str (s : ByteArray) (n : Nat) : (s.extract 0 n).data.toList = s.data.toList.take n := by
  have := ext_list s 0 n
  rwa [Nat.zero_add] at this
/-- A list of bytes as a text. -/
def bs (l : List UInt8) : ByteArray := ⟨l.toArray⟩
theorem bs_data (l : List UInt8) : (bs l).data.toList = l := rfl
theorem bs_back (s : ByteArray) : bs s.data.toList = s := rfl
theorem bs_size (l : List UInt8) : (bs l).size = l.length := rfl
theorem str_eq {a b : ByteArray} (h : a.data.toList = b.data.toList) : a = b := by
  rw [← bs_back a, ← bs_back b, h]
theorem toList_nil (s : ByteArray) : s.toList = ([] : List UInt8) ↔ s.data.toList = [] := by rw [ByteArray.toList_eq]

/-! ### the place of a byte -/
theorem index_spec : ∀ (l : List UInt8) (c : UInt8), (Lib.indexByte l c = -1 ∧ c ∉ l) ∨ ∃ u v, l = u ++ c :: v ∧ c ∉ u ∧ Lib.indexByte l c = (u.length : Int)
  | [], c => .inl ⟨rfl, by simp⟩
  | b :: l, c => by
    unfold Lib.indexByte
    by_cases h : (b == c) = true
    · rw [if_pos h]
      have : b = c := by simpa using h
      exact .inr ⟨[], l, by rw [this]; rfl, by simp, rfl⟩
    · rw [if_neg h]
      have hne : ¬ b = c := by simpa using h
      rcases index_spec l c with ⟨h1, h2⟩ | ⟨u, v, h1, h2, h3⟩
      · rw [h1]
        exact .inl ⟨rfl, by simp [h2]; exact fun e => hne e.symm⟩
      · rw [h3]
        have : ¬ (((u.length : Int) == -1) = true) := by simp
        rw [if_neg this]
        exact .inr ⟨b :: u, v, by rw [h1]; rfl, by simp [h2]; exact fun e => hne e.symm, by simp⟩

/-! ### names between slashes -/
def cons1 (c : UInt8) : List (List UInt8) → List (List UInt8)
  | [] => [[c]]
  | h :: t => (c :: h) :: t
def splitL : List UInt8 → List (List UInt8)
  | [] => [[]]
  | c :: r => if c = 47 then [] :: splitL r else cons1 c (splitL r)
theorem splitL_ne : ∀ l, ∃ h t, splitL l = h :: t
  | [] => ⟨_, _, rfl⟩
  | c :: r => by
    obtain ⟨h, t, e⟩ := splitL_ne r
    unfold splitL
    split
    · exact ⟨_, _, rfl⟩
    · rw [e]; exact ⟨_, _, rfl⟩
theorem splitL_cut : ∀ (u v : List UInt8), (47 : UInt8) ∉ u → splitL (u ++ 47 :: v) = u :: splitL v
  | [], v, _ => by simp [splitL]
  | c :: u, v, h => by
    have hc : ¬ c = 47 := fun e => h (by simp [e])
    have hu : (47 : UInt8) ∉ u := fun e => h (by simp [e])
    rw [List.cons_append, splitL, if_neg hc, splitL_cut u v hu]
    rfl
theorem splitL_one : ∀ (u : List UInt8), (47 : UInt8) ∉ u → splitL u = [u]
  | [], _ => rfl
  | c :: u, h => by
    have hc : ¬ c = 47 := fun e => h (by simp [e])
    have hu : (47 : UInt8) ∉ u := fun e => h (by simp [e])
    rw [splitL, if_neg hc, splitL_one u hu]
    rfl
theorem splitL_len : ∀ l, (splitL l).length = l.count 47 + 1
  | [] => rfl
  | c :: r => by
    have ih := splitL_len r
    obtain ⟨h, t, e⟩ := splitL_ne r
    unfold splitL
    by_cases hc : c = 47
    · rw [if_pos hc, hc, List.count_cons_self, List.length_cons, ih]
    · rw [if_neg hc, e]
      rw [e] at ih
      rw [List.count_cons_of_ne hc]
      exact ih
theorem count_le (l : List UInt8) : l.count 47 ≤ l.length := List.count_le_length
theorem count_cut (u v : List UInt8) (h : (47 : UInt8) ∉ u) : (u ++ 47 :: v).count 47 = v.count 47 + 1 := by
  rw [List.count_append, List.count_cons_self, List.count_eq_zero.2 h, Nat.zero_add]
def sep : ByteArray := ⟨#[47]⟩
theorem sep_byte : Ext.byteOf (⟨#[47]⟩ : ByteArray) = some 47 := rfl
theorem index_eq (s : ByteArray) : strings_Index.f s (⟨#[47]⟩ : ByteArray) = some (Lib.indexByte s.data.toList 47) := by
  unfold strings_Index.f MPath.stringslite_Index.f Ext.stringslite_Index.f
  rw [sep_byte]
  rfl
theorem gen_loop (N : Nat) (hN : N ≤ 100000) : ∀ (d k : Nat) (x : ByteArray) (a : List ByteArray) (i : Nat), x.data.toList.count 47 = d → i + d + 1 = N → a.length = N → d < k → x.size ≤ 100000 →
    strings_genSplit.l0 k x (⟨#[47]⟩ : ByteArray) 0 ((N : Int) - 1) a (i : Int) = some (a.take i ++ (splitL x.data.toList).map bs) := by
  intro d
  induction d with
  | zero =>
    intro k x a i hc hi ha hk hx
    obtain ⟨m, rfl, _⟩ := up1 hk
    have hn : (47 : UInt8) ∉ x.data.toList := by rw [← List.count_eq_zero]; exact hc
    simp only [strings_genSplit.l0]
    rw [if_neg (by omega), if_pos (by omega), if_pos (by omega), wrap_succ i (by omega)]
    rw [if_pos (by omega), if_pos (by omega), splitL_one _ hn]
    have e2 : (i : Int).toNat = i := by omega
    have e3 : ((i + 1 : Nat) : Int).toNat = i + 1 := by omega
    rw [e2, e3]
    congr 1
    have hil : i < a.length := by omega
    rw [List.take_add_one, List.take_set_of_le (Nat.le_refl i), List.getElem?_set_self hil]
    rfl
  | succ d ih =>
    intro k x a i hc hi ha hk hx
    obtain ⟨m, rfl, hm⟩ := up1 hk
    rcases index_spec x.data.toList 47 with ⟨h1, h2⟩ | ⟨u, v, h1, h2, h3⟩
    · rw [List.count_eq_zero.2 h2] at hc
      exact absurd hc.symm (Nat.succ_ne_zero d)
    · have hl := congrArg List.length h1
      rw [List.length_append, List.length_cons, len_size] at hl
      have hv : v.count 47 = d := by
        have h4 := count_cut u v h2
        rw [← h1, hc] at h4
        clear h3
        omega
      have z1 : (⟨#[47]⟩ : ByteArray).size = 1 := rfl
      rw [strings_genSplit.l0, index_eq]
      simp only [Option.bind_some]
      rw [h3, z1]
      clear h3
      rw [wrap_zero u.length (by omega), wrap_one u.length (by omega), wrap_succ i (by omega)]
      rw [if_pos (by omega), if_neg (by omega), if_pos (by omega), if_pos (by omega), if_pos (by omega), if_pos (by omega), if_pos (by omega), if_pos (by omega)]
      have t1 : (u.length : Int).toNat = u.length := by omega
      have t2 : ((u.length + 1 : Nat) : Int).toNat = u.length + 1 := by omega
      have t3 : (i : Int).toNat = i := by omega
      rw [t1, t2, t3]
      have hdr : (x.extract (u.length + 1) x.size).data.toList = v := by
        rw [drop_str, h1]
        simp
      have htk : x.extract 0 u.length = bs u := by
        apply str_eq
        rw [take_str, h1, bs_data]
        simp
      have hz : (x.extract (u.length + 1) x.size).size ≤ 100000 := by rw [ByteArray.size_extract]; omega
      rw [ih m _ _ (i + 1) (by rw [hdr]; exact hv) (by omega) (by rw [List.length_set]; exact ha) (by omega) hz, hdr, h1, splitL_cut u v h2, htk]
      have hil : i < a.length := by omega
      rw [List.take_add_one, List.take_set_of_le (Nat.le_refl i), List.getElem?_set_self hil]
      simp
theorem split_eq (s : ByteArray) (k : Nat) (hs : s.size ≤ 90000) (hk : s.size + 5 ≤ k) : strings_Split.f k s (⟨#[47]⟩ : ByteArray) = some ((splitL s.data.toList).map bs) := by
  obtain ⟨k, rfl⟩ : ∃ m, k = m + 1 := ⟨k - 1, by omega⟩
  have hcl := count_le s.data.toList
  rw [len_size] at hcl
  obtain ⟨n, hn⟩ : ∃ n, n = s.data.toList.count 47 := ⟨_, rfl⟩
  have hcount : MPath.strings_Count.f s (⟨#[47]⟩ : ByteArray) = some (n : Int) := by
    unfold MPath.strings_Count.f Ext.strings_Count.f Lib.countByte
    rw [sep_byte, hn]
    rfl
  rw [← hn] at hcl
  have e4 : ((n + 1 : Nat) : Int).toNat = n + 1 := by omega
  have hne : ¬ ((⟨#[47]⟩ : ByteArray).toList = ([] : List UInt8)) := by rw [ByteArray.toList_eq]; simp
  unfold strings_Split.f strings_genSplit.f
  rw [if_neg (by omega), if_neg hne, if_pos (by omega), hcount]
  rw [Option.bind_some, wrap_succ n (by omega)]
  rw [strings_genSplit.j0, wrap_succ s.size (by omega), mn_left ((n + 1 : Nat) : Int) ((s.size + 1 : Nat) : Int) (by omega), wrap_back n (by omega), e4]
  have hg := gen_loop (n + 1) (by omega) n k s (List.replicate (n + 1) ⟨#[]⟩) 0 hn.symm (by omega) (by simp) (by omega) (by omega)
  have h0 : ((0 : Nat) : Int) = 0 := rfl
  have h1 : ((n + 1 : Nat) : Int) - 1 = (n : Int) := by omega
  rw [h0, h1] at hg
  rw [if_pos (by omega), if_pos (by omega), hg]
  rfl
end Go.Proofs.YtfnbadfehelleaaDoor.PP
