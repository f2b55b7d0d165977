/- Kind and Split of a path, in plain words (ported from the chapter path). -/
import Derived.Test.YtbhioghpgedkeaaDoorMItx8
import Derived.Test.YtbhioghpgedkeaaDoorMItx7
set_option linter.unusedSimpArgs false
set_option linter.unusedVariables false
namespace Go.Proofs.YtbhioghpgedkeaaDoor.PP
open Go.RowKit Go.Proofs.YtbhioghpgedkeaaDoor.MIt Go.Proofs.YtbhioghpgedkeaaDoorW.PrintWords Go.Proofs.YtbhioghpgedkeaaDoorW.PrintLast Go.Proofs.YtbhioghpgedkeaaDoorW.PrintMore


theorem up1 {k n : Nat} (h : n < k) : ∃ m, k = m + 1 ∧ n ≤ m := ⟨k - 1, by omega, by omega⟩
theorem wrap64_small {x : Int} (h0 : -9223372036854775808 ≤ x) (h1 : x ≤ 9223372036854775807) : wrap64 x = x := by unfold wrap64; omega
theorem wrap_succ (i : Nat) (h : i ≤ 1000000000) : wrap64 ((i : Int) + 1) = ((i + 1 : Nat) : Int) := by
  rw [wrap64_small (by omega) (by omega)]; omega
theorem wrap_pred (i : Nat) (h : i ≤ 1000000000) : wrap64 ((i : Int) - 1) = (i : Int) - 1 := wrap64_small (by omega) (by omega)
theorem wrap_zero (i : Nat) (h : i ≤ 1000000000) : wrap64 ((i : Int) + 0) = (i : Int) := by
  rw [wrap64_small (by omega) (by omega)]; omega
theorem wrap_one (i : Nat) (h : i ≤ 1000000000) : wrap64 ((i : Int) + ((1 : Nat) : Int)) = ((i + 1 : Nat) : Int) := wrap_succ i h
theorem wrap_back (i : Nat) (h : i ≤ 1000000000) : wrap64 (((i + 1 : Nat) : Int) - 1) = (i : Int) := by
  rw [wrap64_small (by omega) (by omega)]; omega
theorem mn_left (a b : Int) (h : a ≤ b) : mn a b = a := by unfold mn; split <;> omega
theorem bt_drop (s : ByteArray) (i : Nat) (h : i < s.size) : ∃ c : UInt8, s.data.toList.drop i = c :: s.data.toList.drop (i + 1) ∧ bt s (i : Int) = (c.toNat : Int) := by
  have h1 : i < s.data.toList.length := by simpa using h
  refine ⟨s.data.toList[i], List.drop_eq_getElem_cons h1, ?_⟩
  unfold bt
  have : (i : Int).toNat = i := by omega
  rw [this, dif_pos h]
  rfl
theorem rdOf_at (l : List ByteArray) (i : Nat) (h : i < l.length) : rdOf ByteArray.empty l (i : Int) = l[i] := by
  unfold rdOf
  have : (i : Int).toNat = i := by omega
  rw [this, List.getD_eq_getElem?_getD, List.getElem?_eq_getElem h]
  rfl
theorem len_size (s : ByteArray) : s.data.toList.length = s.size := rfl
theorem ext_list (s : ByteArray) (a n : Nat) : (s.extract a (a + n)).data.toList = (s.data.toList.drop a).take n := by
  simp [ByteArray.data_extract, Array.toList_extract, List.extract]
theorem drop_str (s : ByteArray) (n : Nat) : (s.extract n s.size).data.toList = s.data.toList.drop n := by
  have h := ext_list s n (s.size - n)
  by_cases hn : n ≤ s.size
  · rw [show n + (s.size - n) = s.size by omega] at h
    rw [h]
    apply List.take_of_length_le
    rw [List.length_drop, len_size]
    omega
  · have h1 : s.data.toList.drop n = [] := List.drop_eq_nil_of_le (by rw [len_size]; omega)
    have h2 : (s.extract n s.size).size = 0 := by rw [ByteArray.size_extract]; omega
    rw [h1]
    exact List.eq_nil_of_length_eq_zero h2
theorem take_str (s : ByteArray) (n : Nat) : (s.extract 0 n).data.toList = s.data.toList.take n := by
  have := ext_list s 0 n
  rwa [Nat.zero_add] at this
/-- A list of bytes as a text. -/
def bs (l : List UInt8) : ByteArray := ⟨l.toArray⟩
theorem bs_data (l : List UInt8) : (bs l).data.toList = l := rfl
theorem bs_back (s : ByteArray) : bs s.data.toList = s := rfl
theorem str_eq {a b : ByteArray} (h : a.data.toList = b.data.toList) : a = b := by
  rw [← bs_back a, ← bs_back b, h]
theorem toList_nil (s : ByteArray) : s.toList = ([] : List UInt8) ↔ s.data.toList = [] := by rw [ByteArray.toList_eq]

theorem index_spec : ∀ (l : List UInt8) (c : UInt8), (Lib.indexByte l c = -1 ∧ c ∉ l) ∨ ∃ u v, l = u ++ c :: v ∧ c ∉ u ∧ Lib.indexByte l c = (u.length : Int)
  | [], c => .inl ⟨rfl, by simp⟩
  | b :: l, c => by
    unfold Lib.indexByte
    by_cases h : (b == c) = true
    · rw [if_pos h]
      have : b = c := by simpa using h
      exact .inr ⟨[], l, by rw [this]; rfl, by simp, rfl⟩
    · rw [if_neg h]
      have hne : ¬ b = c := by simpa using h
      rcases index_spec l c with ⟨h1, h2⟩ | ⟨u, v, h1, h2, h3⟩
      · rw [h1]
        exact .inl ⟨rfl, by simp [h2]; exact fun e => hne e.symm⟩
      · rw [h3]
        have : ¬ (((u.length : Int) == -1) = true) := by simp
        rw [if_neg this]
        exact .inr ⟨b :: u, v, by rw [h1]; rfl, by simp [h2]; exact fun e => hne e.symm, by simp⟩

def cons1 (c : UInt8) : List (List UInt8) → List (List UInt8)
  | [] => [[c]]
  | h :: t => (c :: h) :: t
def splitL : List UInt8 → List (List UInt8)
  | [] => [[]]
  | c :: r => if c = 47 then [] :: splitL r else cons1 c (splitL r)
theorem splitL_ne : ∀ l, ∃ h t, splitL l = h :: t
  | [] => ⟨_, _, rfl⟩
  | c :: r => by
    obtain ⟨h, t, e⟩ := splitL_ne r
    unfold splitL
    split
    · exact ⟨_, _, rfl⟩
    · rw [e]; exact ⟨_, _, rfl⟩
theorem splitL_cut : ∀ (u v : List UInt8), (47 : UInt8) ∉ u → splitL (u ++ 47 :: v) = u :: splitL v
  | [], v, _ => by simp [splitL]
  | c :: u, v, h => by
    have hc : ¬ c = 47 := fun e => h (by simp [e])
    have hu : (47 : UInt8) ∉ u := fun e => h (by simp [e])
    rw [List.cons_append, splitL, if_neg hc, splitL_cut u v hu]
    rfl
theorem splitL_one : ∀ (u : List UInt8), (47 : UInt8) ∉ u → splitL u = [u]
  | [], _ => rfl
  | c :: u, h => by
    have hc : ¬ c = 47 := fun e => h (by simp [e])
    have hu : (47 : UInt8) ∉ u := fun e => h (by simp [e])
    rw [splitL, if_neg hc, splitL_one u hu]
    rfl
theorem splitL_len : ∀ l, (splitL l).length = l.count 47 + 1
  | [] => rfl
  | c :: r => by
    have ih := splitL_len r
    obtain ⟨h, t, e⟩ := splitL_ne r
    unfold splitL
    by_cases hc : c = 47
    · rw [if_pos hc, hc, List.count_cons_self, List.length_cons, ih]
    · rw [if_neg hc, e]
      rw [e] at ih
      rw [List.count_cons_of_ne hc]
      exact ih
theorem count_le (l : List UInt8) : l.count 47 ≤ l.length := List.count_le_length
theorem count_cut (u v : List UInt8) (h : (47 : UInt8) ∉ u) : (u ++ 47 :: v).count 47 = v.count 47 + 1 := by
  rw [List.count_append, List.count_cons_self, List.count_eq_zero.2 h, Nat.zero_add]
def sep : ByteArray := ⟨#[47]⟩
theorem sep_byte : Ext.byteOf (⟨#[47]⟩ : ByteArray) = some 47 := rfl
theorem index_eq (s : ByteArray) : strings_Index.f s (⟨#[47]⟩ : ByteArray) = some (Lib.indexByte s.data.toList 47) := by
  unfold strings_Index.f MIt.stringslite_Index.f Ext.stringslite_Index.f
  rw [sep_byte]
  rfl
theorem gen_loop (N : Nat) (hN : N ≤ 100000) : ∀ (d k : Nat) (x : ByteArray) (a : List ByteArray) (i : Nat), x.data.toList.count 47 = d → i + d + 1 = N → a.length = N → d < k → x.size ≤ 100000 →
    strings_genSplit.l0 k x (⟨#[47]⟩ : ByteArray) 0 ((N : Int) - 1) a (i : Int) = some (a.take i ++ (splitL x.data.toList).map bs) := by
  intro d
  induction d with
  | zero =>
    intro k x a i hc hi ha hk hx
    obtain ⟨m, rfl, _⟩ := up1 hk
    have hn : (47 : UInt8) ∉ x.data.toList := by rw [← List.count_eq_zero]; exact hc
    simp only [strings_genSplit.l0]
    rw [if_neg (by omega), if_pos (by omega), if_pos (by omega), wrap_succ i (by omega)]
    rw [if_pos (by omega), if_pos (by omega), splitL_one _ hn]
    have e2 : (i : Int).toNat = i := by omega
    have e3 : ((i + 1 : Nat) : Int).toNat = i + 1 := by omega
    rw [e2, e3]
    congr 1
    have hil : i < a.length := by omega
    rw [List.take_add_one, List.take_set_of_le (Nat.le_refl i), List.getElem?_set_self hil]
    rfl
  | succ d ih =>
    intro k x a i hc hi ha hk hx
    obtain ⟨m, rfl, hm⟩ := up1 hk
    rcases index_spec x.data.toList 47 with ⟨h1, h2⟩ | ⟨u, v, h1, h2, h3⟩
    · rw [List.count_eq_zero.2 h2] at hc
      exact absurd hc.symm (Nat.succ_ne_zero d)
    · have hl := congrArg List.length h1
      rw [List.length_append, List.length_cons, len_size] at hl
      have hv : v.count 47 = d := by
        have h4 := count_cut u v h2
        rw [← h1, hc] at h4
        clear h3
        omega
      have z1 : (⟨#[47]⟩ : ByteArray).size = 1 := rfl
      rw [strings_genSplit.l0, index_eq]
      simp only [Option.bind_some]
      rw [h3, z1]
      clear h3
      rw [wrap_zero u.length (by omega), wrap_one u.length (by omega), wrap_succ i (by omega)]
      rw [if_pos (by omega), if_neg (by omega), if_pos (by omega), if_pos (by omega), if_pos (by omega), if_pos (by omega), if_pos (by omega), if_pos (by omega)]
      have t1 : (u.length : Int).toNat = u.length := by omega
      have t2 : ((u.length + 1 : Nat) : Int).toNat = u.length + 1 := by omega
      have t3 : (i : Int).toNat = i := by omega
      rw [t1, t2, t3]
      have hdr : (x.extract (u.length + 1) x.size).data.toList = v := by
        rw [drop_str, h1]
        simp
      have htk : x.extract 0 u.length = bs u := by
        apply str_eq
        rw [take_str, h1, bs_data]
        simp
      have hz : (x.extract (u.length + 1) x.size).size ≤ 100000 := by rw [ByteArray.size_extract]; omega
      rw [ih m _ _ (i + 1) (by rw [hdr]; exact hv) (by omega) (by rw [List.length_set]; exact ha) (by omega) hz, hdr, h1, splitL_cut u v h2, htk]
      have hil : i < a.length := by omega
      rw [List.take_add_one, List.take_set_of_le (Nat.le_refl i), List.getElem?_set_self hil]
      simp
theorem split_eq (s : ByteArray) (k : Nat) (hs : s.size ≤ 90000) (hk : s.size + 5 ≤ k) : strings_Split.f k s (⟨#[47]⟩ : ByteArray) = some ((splitL s.data.toList).map bs) := by
  obtain ⟨k, rfl⟩ : ∃ m, k = m + 1 := ⟨k - 1, by omega⟩
  have hcl := count_le s.data.toList
  rw [len_size] at hcl
  obtain ⟨n, hn⟩ : ∃ n, n = s.data.toList.count 47 := ⟨_, rfl⟩
  have hcount : MIt.strings_Count.f s (⟨#[47]⟩ : ByteArray) = some (n : Int) := by
    unfold MIt.strings_Count.f Ext.strings_Count.f Lib.countByte
    rw [sep_byte, hn]
    rfl
  rw [← hn] at hcl
  have e4 : ((n + 1 : Nat) : Int).toNat = n + 1 := by omega
  have hne : ¬ ((⟨#[47]⟩ : ByteArray).toList = ([] : List UInt8)) := by rw [ByteArray.toList_eq]; simp
  unfold strings_Split.f strings_genSplit.f
  rw [if_neg (by omega), if_neg hne, if_pos (by omega), hcount]
  rw [Option.bind_some, wrap_succ n (by omega)]
  rw [strings_genSplit.j0, wrap_succ s.size (by omega), mn_left ((n + 1 : Nat) : Int) ((s.size + 1 : Nat) : Int) (by omega), wrap_back n (by omega), e4]
  have hg := gen_loop (n + 1) (by omega) n k s (List.replicate (n + 1) ⟨#[]⟩) 0 hn.symm (by omega) (by simp) (by omega) (by omega)
  have h0 : ((0 : Nat) : Int) = 0 := rfl
  have h1 : ((n + 1 : Nat) : Int) - 1 = (n : Int) := by omega
  rw [h0, h1] at hg
  rw [if_pos (by omega), if_pos (by omega), hg]
  rfl

def signL : List UInt8 := [97, 98, 99, 100, 101, 102, 103, 104, 105, 106, 107, 108, 109, 110, 111, 112, 113, 114, 115, 116, 117, 118, 119, 120, 121, 122, 48, 49, 50, 51, 52, 53, 54, 55, 56, 57, 95, 45, 126]
def plainB (l : List UInt8) : Bool := l.all (signL.contains ·) && !l.isEmpty
def kindN (l : List UInt8) : Int :=
  if 24 < l.length then 0
  else if 46 ∈ l then (if plainB (l.takeWhile (· != 46)) && plainB (l.dropWhile (· != 46)).tail then 2 else 0)
  else if plainB l then 1 else 0

theorem byte_back (c : UInt8) : ((c.toNat : Int)).toNat.toUInt8 = c := by
  rw [Int.toNat_natCast]
  exact UInt8.ofNat_toNat
theorem idx_sign (c : UInt8) : (Lib.indexByte signL c < 0) ↔ ¬ c ∈ signL := by
  rcases index_spec signL c with ⟨h1, h2⟩ | ⟨u, v, h1, h2, h3⟩
  · rw [h1]; exact ⟨fun _ => h2, fun _ => by decide⟩
  · rw [h3]
    constructor
    · intro h; omega
    · intro h; exact absurd (by rw [h1]; simp) h
theorem plain_loop (s : ByteArray) (hs : s.size ≤ 1000000) : ∀ (d k i : Nat), i + d = s.size → d < k → path_plain.l0 k s (s.size : Int) (i : Int) = some ((s.data.toList.drop i).all (signL.contains ·) && s.toList != []) := by
  intro d
  induction d with
  | zero =>
    intro k i hi hk
    obtain ⟨m, rfl, _⟩ := up1 hk
    rw [path_plain.l0, if_neg (by omega), List.drop_eq_nil_of_le (by rw [len_size]; omega)]
    rfl
  | succ d ih =>
    intro k i hi hk
    obtain ⟨m, rfl, hm⟩ := up1 hk
    obtain ⟨c, h1, h2⟩ := bt_drop s i (by omega)
    rw [path_plain.l0, if_pos (by omega), if_pos (by omega), if_pos (by omega), h2, h1, List.all_cons]
    unfold strings_IndexByte.f Ext.strings_IndexByte.f
    rw [Option.bind_some, byte_back]
    have e : (⟨#[97, 98, 99, 100, 101, 102, 103, 104, 105, 106, 107, 108, 109, 110, 111, 112, 113, 114, 115, 116, 117, 118, 119, 120, 121, 122, 48, 49, 50, 51, 52, 53, 54, 55, 56, 57, 95, 45, 126]⟩ : ByteArray).data.toList = signL := rfl
    rw [e]
    by_cases hc : c ∈ signL
    · rw [if_neg (by rw [idx_sign]; exact fun h => h hc), wrap_succ i (by omega), ih m (i + 1) (by omega) (by omega)]
      have : signL.contains c = true := by simpa using hc
      rw [this, Bool.true_and]
    · rw [if_pos ((idx_sign c).2 hc)]
      have : signL.contains c = false := by simpa using hc
      rw [this, Bool.false_and, Bool.false_and]
theorem nil_ne (s : ByteArray) : (s.toList != ([] : List UInt8)) = !s.data.toList.isEmpty := by
  rw [ByteArray.toList_eq]
  cases s.data.toList <;> rfl
theorem plain_eq (s : ByteArray) (k : Nat) (hs : s.size ≤ 1000000) (hk : s.size < k) : path_plain.f k s = some (plainB s.data.toList) := by
  unfold path_plain.f
  have := plain_loop s hs s.size k 0 (by omega) hk
  rw [show (0 : Int) = ((0 : Nat) : Int) from rfl, this, nil_ne]
  rfl

theorem tw (u v : List UInt8) (h : (46 : UInt8) ∉ u) : (u ++ 46 :: v).takeWhile (· != 46) = u ∧ (u ++ 46 :: v).dropWhile (· != 46) = 46 :: v := by
  induction u with
  | nil => exact ⟨rfl, rfl⟩
  | cons c u ih =>
    have hc : (c != 46) = true := by simp; intro e; exact h (by simp [e])
    obtain ⟨h1, h2⟩ := ih (fun e => h (by simp [e]))
    rw [List.cons_append, List.takeWhile_cons, List.dropWhile_cons, hc]
    exact ⟨by simp only [if_true, h1], by simp only [if_true, h2]⟩
theorem kind_eq (l : List UInt8) (k : Nat) (hs : l.length ≤ 100000) (hk : l.length + 3 ≤ k) : path_kind.f k (bs l) = some (kindN l) := by
  obtain ⟨k, rfl⟩ : ∃ m, k = m + 1 := ⟨k - 1, by omega⟩
  unfold path_kind.f strings_Cut.f stringslite_Cut.f MIt.stringslite_Index.f Ext.stringslite_Index.f
  have e1 : Ext.byteOf (⟨#[46]⟩ : ByteArray) = some 46 := rfl
  rw [e1, Option.bind_some, Option.bind_some]
  rw [bs_data]
  have ez : (bs l).size = l.length := rfl
  rcases index_spec l 46 with ⟨h1, h2⟩ | ⟨u, v, h1, h2, h3⟩
  · rw [h1, if_neg (by decide), Option.bind_some, Option.bind_some]
    unfold kindN
    rw [if_neg h2]
    by_cases hl : 24 < l.length
    · rw [if_pos (by rw [ez]; omega), if_pos hl]
      rfl
    · rw [if_neg (by rw [ez]; omega), if_neg hl]
      rw [plain_eq (bs l) _ (by rw [ez]; omega) (by rw [ez]; omega), bs_data, Option.bind_some]
      cases plainB l <;> rfl
  · have hl := congrArg List.length h1
    rw [List.length_append, List.length_cons] at hl
    have z1 : (⟨#[46]⟩ : ByteArray).size = 1 := rfl
    rw [h3, z1]
    clear h3
    rw [wrap_one u.length (by omega)]
    rw [if_pos (by omega), if_pos (by omega), if_pos (by rw [ez]; omega), if_pos (by omega), if_pos (by rw [ez]; omega), Option.bind_some, Option.bind_some]
    have t1 : (u.length : Int).toNat = u.length := by omega
    have t2 : ((u.length + 1 : Nat) : Int).toNat = u.length + 1 := by omega
    rw [t1, t2]
    have hm : (46 : UInt8) ∈ l := by rw [h1]; simp
    unfold kindN
    rw [if_pos hm]
    obtain ⟨g1, g2⟩ := tw u v h2
    rw [← h1] at g1 g2
    rw [g1, g2, List.tail_cons]
    by_cases hl24 : 24 < l.length
    · rw [if_pos (by rw [ez]; omega), if_pos hl24]
      rfl
    · rw [if_neg (by rw [ez]; omega), if_neg hl24]
      have p1 : ((bs l).extract 0 u.length).data.toList = u := by rw [take_str, bs_data, h1]; simp
      have p2 : ((bs l).extract (u.length + 1) (bs l).size).data.toList = v := by rw [drop_str, bs_data, h1]; simp
      have q1 : ((bs l).extract 0 u.length).size = u.length := by rw [← len_size, p1]
      have q2 : ((bs l).extract (u.length + 1) (bs l).size).size = v.length := by rw [← len_size, p2]
      rw [plain_eq _ _ (by rw [q1]; omega) (by rw [q1]; omega), p1, Option.bind_some]
      cases hb : plainB u
      · rw [Bool.false_and]
        rfl
      · rw [Bool.true_and]
        show path_kind.j0 (k + 1) _ true false = _
        rw [path_kind.j0, if_neg (by decide), if_pos rfl, plain_eq _ _ (by rw [q2]; omega) (by rw [q2]; omega), p2, Option.bind_some]
        cases plainB v <;> rfl

def walkK : List (List UInt8) → Int → Option Int
  | [], t => some t
  | n :: r, _ => if kindN n = 0 then none else if kindN n = 2 ∧ r ≠ [] then none else walkK r (kindN n)
def kindP (s : List UInt8) : Int × Int :=
  if 96 < s.length then (0, 3) else if s = [] then (1, 0) else
  match walkK (splitL s) 0 with
  | none => (0, 18)
  | some t => if 8 < (splitL s).length then (0, 7) else (t, 0)
theorem rd_mid (p : List (List UInt8)) (n : List UInt8) (r : List (List UInt8)) : rdOf ByteArray.empty ((p ++ n :: r).map bs) (p.length : Int) = bs n := by
  rw [rdOf_at _ p.length (by simp)]
  simp
theorem splitL_mem_len : ∀ (l : List UInt8), ∀ n ∈ splitL l, n.length ≤ l.length
  | [], n, h => by simp [splitL] at h; simp [h]
  | c :: r, n, h => by
    have ih := splitL_mem_len r
    rw [splitL] at h
    split at h
    · rcases List.mem_cons.1 h with rfl | h
      · simp
      · have := ih n h; simp; omega
    · obtain ⟨a, b, e⟩ := splitL_ne r
      rw [e, cons1] at h
      rw [e] at ih
      rcases List.mem_cons.1 h with rfl | h
      · have := ih a (by simp); simp; omega
      · have := ih n (by simp [h]); simp; omega
theorem kind_loop (L : List (List UInt8)) (M : Nat) (hM : M ≤ 100000) (hL : ∀ n ∈ L, n.length ≤ M) (hlen : L.length ≤ 100000) : ∀ (r : List (List UInt8)) (p : List (List UInt8)) (k : Nat) (t : Int), L = p ++ r → r.length + M + 3 < k →
    path_Kind.l0 k (L.map bs) t (L.map bs) (L.length : Int) (p.length : Int) = some (match walkK r t with | none => (0, 18) | some t => if 8 < L.length then (0, 7) else (t, 0)) := by
  intro r
  induction r with
  | nil =>
    intro p k t hp hk
    obtain ⟨m, rfl, _⟩ := up1 hk
    rw [List.append_nil] at hp
    rw [path_Kind.l0, if_neg (by rw [hp]; omega), List.length_map, walkK]
    by_cases h8 : 8 < L.length
    · rw [if_pos (by omega)]; simp only [if_pos h8]
    · rw [if_neg (by omega)]; simp only [if_neg h8]
  | cons n r ih =>
    intro p k t hp hk
    rw [List.length_cons] at hk
    obtain ⟨m, rfl, hm⟩ := up1 hk
    have hl := congrArg List.length hp
    rw [List.length_append, List.length_cons] at hl
    have hn : n.length ≤ M := hL n (by rw [hp]; simp)
    rw [path_Kind.l0, if_pos (by omega), if_pos (by omega), if_pos (by rw [List.length_map]; omega)]
    have e1 : rdOf ByteArray.empty (L.map bs) (p.length : Int) = bs n := by rw [hp]; exact rd_mid p n r
    rw [e1, kind_eq n m (by omega) (by omega), Option.bind_some, walkK, List.length_map]
    by_cases h0 : kindN n = 0
    · rw [if_pos h0, if_pos h0]
    · rw [if_neg h0, if_neg h0]
      have hrec : path_Kind.l0 m (L.map bs) (kindN n) (L.map bs) (L.length : Int) (((p ++ [n]).length : Nat) : Int) = _ := ih (p ++ [n]) m (kindN n) (by rw [hp]; simp) (by omega)
      have e2 : (p ++ [n]).length = p.length + 1 := by simp
      rw [e2] at hrec
      have hw : wrap64 ((L.length : Int) - 1) = (L.length : Int) - 1 := wrap_pred L.length (by omega)
      by_cases h2 : kindN n = 2
      · rw [if_pos h2, hw]
        by_cases hr : r = []
        · rw [if_neg (by rw [hr] at hl; simp at hl; omega), wrap_succ p.length (by omega), hrec, if_neg (by simp [hr])]
        · have : 0 < r.length := List.length_pos_iff.2 hr
          rw [if_pos (by omega), if_pos ⟨h2, hr⟩]
      · rw [if_neg h2, wrap_succ p.length (by omega), hrec, if_neg (fun h => h2 h.1)]
theorem Kind_eq (s : ByteArray) (k : Nat) (hk : 400 ≤ k) : path_Kind.f k s = some (kindP s.data.toList) := by
  unfold path_Kind.f kindP
  by_cases h96 : 96 < s.size
  · rw [if_pos (by omega), if_pos (show 96 < s.data.toList.length from h96)]
  · rw [if_neg (by omega), if_neg (show ¬ 96 < s.data.toList.length from h96)]
    by_cases hn : s.data.toList = []
    · rw [if_pos ((toList_nil s).2 hn), if_pos hn]
    · rw [if_neg (fun h => hn ((toList_nil s).1 h)), if_neg hn, split_eq s k (by omega) (by omega), Option.bind_some]
      have hc := splitL_len s.data.toList
      have hc2 := count_le s.data.toList
      rw [len_size] at hc2
      have := kind_loop (splitL s.data.toList) 96 (by omega) (fun n h => by have := splitL_mem_len _ n h; rw [len_size] at this; omega) (by omega) (splitL s.data.toList) [] k 0 rfl (by omega)
      rw [List.length_map]
      exact this
def isP (s : List UInt8) (t : Int) : Bool := (kindP s).2 == 0 && (t == 0 || (kindP s).1 == t)
theorem is_eq (s : ByteArray) (t : Int) (k : Nat) (hk : 400 ≤ k) : path_is.f k s t = some (isP s.data.toList t) := by
  unfold path_is.f isP
  rw [Kind_eq s k hk, Option.bind_some]
  by_cases h : (kindP s.data.toList).2 = 0
  · have h' : ((kindP s.data.toList).2 == 0) = true := by simp [h]
    rw [if_pos h, h', Bool.true_and]
    by_cases ht : t = 0
    · have : (t == 0) = true := by simp [ht]
      rw [if_pos ht, this, Bool.true_or]
    · have : (t == 0) = false := by simp [ht]
      rw [if_neg ht, this, Bool.false_or]
  · have h' : ((kindP s.data.toList).2 == 0) = false := by simp [h]
    rw [if_neg h, h', Bool.false_and]
theorem walkK_last : ∀ (r : List (List UInt8)) (t v : Int), walkK r t = some v → (r = [] ∧ v = t) ∨ ∃ p n, r = p ++ [n] ∧ kindN n = v ∧ v ≠ 0 ∧ ∀ x ∈ p, kindN x ≠ 0 ∧ kindN x ≠ 2
  | [], t, v, h => by rw [walkK] at h; exact .inl ⟨rfl, (Option.some.inj h).symm⟩
  | n :: r, t, v, h => by
    rw [walkK] at h
    split at h
    · exact absurd h (by simp)
    · rename_i h0
      split at h
      · exact absurd h (by simp)
      · rename_i h2
        rcases walkK_last r _ v h with ⟨rfl, e⟩ | ⟨p, m, e1, e2, e3, e4⟩
        · exact .inr ⟨[], n, rfl, e.symm, by rw [e]; exact h0, fun x hx => absurd hx (by simp)⟩
        · refine .inr ⟨n :: p, m, by rw [e1]; rfl, e2, e3, fun x hx => ?_⟩
          rcases List.mem_cons.1 hx with rfl | hx
          · exact ⟨h0, fun e => h2 ⟨e, by rw [e1]; simp⟩⟩
          · exact e4 x hx
/-- What it says that a text is a path. -/
theorem kindP_ok (s : List UInt8) (h : (kindP s).2 = 0) : s.length ≤ 96 ∧ ((s = [] ∧ (kindP s).1 = 1) ∨ (s ≠ [] ∧ (splitL s).length ≤ 8 ∧ ∃ p n, splitL s = p ++ [n] ∧ kindN n = (kindP s).1 ∧ (kindP s).1 ≠ 0 ∧ ∀ x ∈ p, kindN x ≠ 0 ∧ kindN x ≠ 2)) := by
  unfold kindP at h ⊢
  by_cases h1 : 96 < s.length
  · rw [if_pos h1] at h; exact absurd h (by decide)
  · rw [if_neg h1] at h ⊢
    refine ⟨by omega, ?_⟩
    by_cases h2 : s = []
    · rw [if_pos h2]; exact .inl ⟨h2, rfl⟩
    · rw [if_neg h2] at h ⊢
      refine .inr ⟨h2, ?_⟩
      cases hw : walkK (splitL s) 0 with
      | none => rw [hw] at h; exact absurd (show (18 : Int) = 0 from h) (by decide)
      | some t =>
        rw [hw] at h
        simp only at h ⊢
        by_cases h8 : 8 < (splitL s).length
        · rw [if_pos h8] at h; exact absurd h (by decide)
        · rw [if_neg h8]
          refine ⟨by omega, ?_⟩
          rcases walkK_last _ _ _ hw with ⟨e, _⟩ | h
          · obtain ⟨a, b, e'⟩ := splitL_ne s
            rw [e] at e'; exact absurd e' (by simp)
          · exact h
theorem isP0 (s : List UInt8) : isP s 0 = ((kindP s).2 == 0) := by unfold isP; simp
def namesP (s : List UInt8) : List (List UInt8) := if s = [] then [] else if (kindP s).2 = 0 then splitL s else []
theorem Split_eq (s : ByteArray) (k : Nat) (hk : 400 ≤ k) : MIt.path_Split.f k s = some ((namesP s.data.toList).map bs) := by
  unfold MIt.path_Split.f namesP
  by_cases hn : s.data.toList = []
  · rw [if_pos ((toList_nil s).2 hn), if_pos hn]; rfl
  · rw [if_neg (fun h => hn ((toList_nil s).1 h)), if_neg hn, is_eq s 0 k hk, Option.bind_some, isP0]
    by_cases h : (kindP s.data.toList).2 = 0
    · have e : ((kindP s.data.toList).2 == 0) = true := by simp [h]
      have h96 : s.size ≤ 96 := (kindP_ok _ h).1
      rw [e, if_pos rfl, if_pos h, split_eq s k (by omega) (by omega)]
      rfl
    · have e : ((kindP s.data.toList).2 == 0) = false := by simp [h]
      rw [e, if_neg (by decide), if_neg h]
      rfl

def jn (sep : List UInt8) : List (List UInt8) → List UInt8
  | [] => []
  | [x] => x
  | x :: y :: r => x ++ sep ++ jn sep (y :: r)
theorem jn_eq (sep : List UInt8) : ∀ L, Lib.join L sep = jn sep L
  | [] => rfl
  | [x] => by rw [Lib.join_one]; rfl
  | x :: y :: r => by
    have ih := jn_eq sep (y :: r)
    rw [jn, ← ih]
    simp [Lib.join, List.intercalate, List.intersperse]
theorem jn_len (sep : List UInt8) (M : Nat) : ∀ L, (∀ n ∈ L, n.length ≤ M) → (jn sep L).length ≤ L.length * (M + sep.length)
  | [], _ => by simp [jn]
  | [x], h => by have := h x (by simp); simp [jn]; omega
  | x :: y :: r, h => by
    have ih := jn_len sep M (y :: r) (fun n hn => h n (by simp [hn]))
    have := h x (by simp)
    rw [jn, List.length_append, List.length_append, List.length_cons, Nat.add_mul]
    omega
theorem back_map (L : List (List UInt8)) : (L.map bs).map (·.data.toList) = L := by
  rw [List.map_map]
  exact (List.map_congr_left (fun x _ => rfl)).trans (List.map_id L)
theorem jn_splitL : ∀ (s : List UInt8), jn [47] (splitL s) = s
  | [] => rfl
  | c :: r => by
    have ih := jn_splitL r
    obtain ⟨h, t, e⟩ := splitL_ne r
    rw [splitL]
    by_cases hc : c = 47
    · rw [if_pos hc, e, jn, ← e, ih, hc]; rfl
    · rw [if_neg hc, e, cons1]
      rw [e] at ih
      cases t with
      | nil => rw [jn] at ih ⊢; rw [ih]
      | cons y t => rw [jn] at ih ⊢; rw [← ih]; simp
end Go.Proofs.YtbhioghpgedkeaaDoor.PP
