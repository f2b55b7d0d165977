/- What the program's kind of a name, and of a path, is, in plain words. -/
import Derived.Test.YtfnbadfehelleaaDoorPathPure
set_option linter.unusedSimpArgs false
set_option linter.unusedVariables false
namespace Go.Proofs.YtfnbadfehelleaaDoor.PP
open Go.RowKit Go.Proofs.YtfnbadfehelleaaDoor.MPath Go.Proofs.YtfnbadfehelleaaDoorW.PrintWords Go.Proofs.YtfnbadfehelleaaDoorW.PrintLast Go.Proofs.YtfnbadfehelleaaDoorW.PrintMore

def signL : List UInt8 := [97, 98, 99, 100, 101, 102, 103, 104, 105, 106, 107, 108, 109, 110, 111, 112, 113, 114, 115, 116, 117, 118, 119, 120, 121, 122, 48, 49, 50, 51, 52, 53, 54, 55, 56, 57, 95, 45, 126]
def plainB (l : List UInt8) : Bool := l.all (signL.contains ·) && !l.isEmpty
def kindN (l : List UInt8) : Int :=
  if 24 < l.length then 0
  else if 46 ∈ l then (if plainB (l.takeWhile (· != 46)) && plainB (l.dropWhile (· != 46)).tail then 2 else 0)
  else if plainB l then 1 else 0

/-! ### plain -/
theorem byte_back (c : UInt8) : ((c.toNat : Int)).toNat.toUInt8 = c := by
  rw [Int.toNat_natCast]
  exact UInt8.ofNat_toNat
theorem idx_sign (c : UInt8) : (Lib.indexByte signL c < 0) ↔ ¬ c ∈ signL := by
  rcases index_spec signL c with ⟨h1, h2⟩ | ⟨u, v, h1, h2, h3⟩
  · rw [h1]; exact ⟨fun _ => h2, fun _ => by decide⟩
  · rw [h3]
    constructor
    · intro h; omega
    · intro h; exact absurd (by rw [h1]; simp) h
theorem plain_loop (s : ByteArray) (hs : s.size ≤ 1000000) : ∀ (d k i : Nat), i + d = s.size → d < k → path_plain.l0 k s (s.size : Int) (i : Int) = some ((s.data.toList.drop i).all (signL.contains ·) && s.toList != []) := by
  intro d
  induction d with
  | zero =>
    intro k i hi hk
    obtain ⟨m, rfl, _⟩ := up1 hk
    rw [path_plain.l0, if_neg (by omega), List.drop_eq_nil_of_le (by rw [len_size]; omega)]
    rfl
  | succ d ih =>
    intro k i hi hk
    obtain ⟨m, rfl, hm⟩ := up1 hk
    obtain ⟨c, h1, h2⟩ := bt_drop s i (by omega)
    rw [path_plain.l0, if_pos (by omega), if_pos (by omega), if_pos (by omega), h2, h1, List.all_cons]
    unfold strings_IndexByte.f Ext.strings_IndexByte.f
    rw [Option.bind_some, byte_back]
    have e : (⟨#[97, 98, 99, 100, 101, 102, 103, 104, 105, 106, 107, 108, 109, 110, 111, 112, 113, 114, 115, 116, 117, 118, 119, 120, 121, 122, 48, 49, 50, 51, 52, 53, 54, 55, 56, 57, 95, 45, 126]⟩ : ByteArray).data.toList = signL := rfl
    rw [e]
    by_cases hc : c ∈ signL
    · rw [if_neg (by rw [idx_sign]; exact fun h => h hc), wrap_succ i (by omega), ih m (i + 1) (by omega) (by omega)]
      have : signL.contains c = true := by simpa using hc
      rw [this, Bool.true_and]
    · rw [if_pos ((idx_sign c).2 hc)]
      have : signL.contains c = false := by simpa using hc
      rw [this, Bool.false_and, Bool.false_and]
theorem nil_ne (s : ByteArray) : (s.toList != ([] : List UInt8)) = !s.data.toList.isEmpty := by
  rw [ByteArray.toList_eq]
  cases s.data.toList <;> rfl
theorem plain_eq (s : ByteArray) (k : Nat) (hs : s.size ≤ 1000000) (hk : s.size < k) : path_plain.f k s = some (plainB s.data.toList) := by
  unfold path_plain.f
  have := plain_loop s hs s.size k 0 (by omega) hk
  rw [show (0 : Int) = ((0 : Nat) : Int) from rfl, this, nil_ne]
  rfl

/-! ### kind -/
theorem tw (u v : List UInt8) (h : (46 : UInt8) ∉ u) : (u ++ 46 :: v).takeWhile (· != 46) = u ∧ (u ++ 46 :: v).dropWhile (· != 46) = 46 :: v := by
  induction u with
  | nil => exact ⟨rfl, rfl⟩
  | cons c u ih =>
    have hc : (c != 46) = true := by simp; intro e; exact h (by simp [e])
    obtain ⟨h1, h2⟩ := ih (fun e => h (by simp [e]))
    rw [List.cons_append, List.takeWhile_cons, List.dropWhile_cons, hc]
    exact ⟨by simp only [if_true, h1], by simp only [if_true, h2]⟩
theorem kind_eq (l : List UInt8) (k : Nat) (hs : l.length ≤ 100000) (hk : l.length + 3 ≤ k) : path_kind.f k (bs l) = some (kindN l) := by
  obtain ⟨k, rfl⟩ : ∃ m, k = m + 1 := ⟨k - 1, by omega⟩
  unfold path_kind.f strings_Cut.f stringslite_Cut.f MPath.stringslite_Index.f Ext.stringslite_Index.f
  have e1 : Ext.byteOf (⟨#[46]⟩ : ByteArray) = some 46 := rfl
  rw [e1, Option.bind_some, Option.bind_some]
  rw [bs_data]
  have ez : (bs l).size = l.length := rfl
  rcases index_spec l 46 with ⟨h1, h2⟩ | ⟨u, v, h1, h2, h3⟩
  · rw [h1, if_neg (by decide), Option.bind_some, Option.bind_some]
    unfold kindN
    rw [if_neg h2]
    by_cases hl : 24 < l.length
    · rw [if_pos (by rw [ez]; omega), if_pos hl]
      rfl
    · rw [if_neg (by rw [ez]; omega), if_neg hl]
      rw [plain_eq (bs l) _ (by rw [ez]; omega) (by rw [ez]; omega), bs_data, Option.bind_some]
      cases plainB l <;> rfl
  · have hl := congrArg List.length h1
    rw [List.length_append, List.length_cons] at hl
    have z1 : (⟨#[46]⟩ : ByteArray).size = 1 := rfl
    rw [h3, z1]
    clear h3
    rw [wrap_one u.length (by omega)]
    rw [if_pos (by omega), if_pos (by omega), if_pos (by rw [ez]; omega), if_pos (by omega), if_pos (by rw [ez]; omega), Option.bind_some, Option.bind_some]
    have t1 : (u.length : Int).toNat = u.length := by omega
    have t2 : ((u.length + 1 : Nat) : Int).toNat = u.length + 1 := by omega
    rw [t1, t2]
    have hm : (46 : UInt8) ∈ l := by rw [h1]; simp
    unfold kindN
    rw [if_pos hm]
    obtain ⟨g1, g2⟩ := tw u v h2
    rw [← h1] at g1 g2
    rw [g1, g2, List.tail_cons]
    by_cases hl24 : 24 < l.length
    · rw [if_pos (by rw [ez]; omega), if_pos hl24]
      rfl
    · rw [if_neg (by rw [ez]; omega), if_neg hl24]
      have p1 : ((bs l).extract 0 u.length).data.toList = u := by rw [take_str, bs_data, h1]; simp
      have p2 : ((bs l).extract (u.length + 1) (bs l).size).data.toList = v := by rw [drop_str, bs_data, h1]; simp
      have q1 : ((bs l).extract 0 u.length).size = u.length := by rw [← len_size, p1]
      have q2 : ((bs l).extract (u.length + 1) (bs l).size).size = v.length := by rw [← len_size, p2]
      rw [plain_eq _ _ (by rw [q1]; omega) (by rw [q1]; omega), p1, Option.bind_some]
      cases hb : plainB u
      · rw [Bool.false_and]
        rfl
      · rw [Bool.true_and]
        show path_kind.j0 (k + 1) _ true false = _
        rw [path_kind.j0, if_neg (by decide), if_pos rfl, plain_eq _ _ (by rw [q2]; omega) (by rw [q2]; omega), p2, Option.bind_some]
        cases plainB v <;> rfl

/-! ### a path's kind -/
def walkK : List (List UInt8) → Int → Option Int
  | [], t => some t
  | n :: r, _ => if kindN n = 0 then none else if kindN n = 2 ∧ r ≠ [] then none else walkK r (kindN n)
def kindP (s : List UInt8) : Int × Int :=
  if 96 < s.length then (0, 3) else if s = [] then (1, 0) else
  match walkK (splitL s) 0 with
  | none => (0, 18)
  | some t => if 8 < (splitL s).length then (0, 7) else (t, 0)
theorem rd_mid (p : List (List UInt8)) (n : List UInt8) (r : List (List UInt8)) : rdOf ByteArray.empty ((p ++ n :: r).map bs) (p.length : Int) = bs n := by
  rw [rdOf_at _ p.length (by simp)]
  simp
theorem splitL_mem_len : ∀ (l : List UInt8), ∀ n ∈ splitL l, n.length ≤ l.length
  | [], n, h => by simp [splitL] at h; simp [h]
  | c :: r, n, h => by
    have ih := splitL_mem_len r
    rw [splitL] at h
    split at h
    · rcases List.mem_cons.1 h with rfl | h
      · simp
      · have := ih n h; simp; omega
    · obtain ⟨a, b, e⟩ := splitL_ne r
      rw [e, cons1] at h
      rw [e] at ih
      rcases List.mem_cons.1 h with rfl | h
      · have := ih a (by simp); simp; omega
      · have := ih n (by simp [h]); simp; omega
theorem kind_loop (L : List (List UInt8)) (M : Nat) (hM : M ≤ 100000) (hL : ∀ n ∈ L, n.length ≤ M) (hlen : L.length ≤ 100000) : ∀ (r : List (List UInt8)) (p : List (List UInt8)) (k : Nat) (t : Int), L = p ++ r → r.length + M + 3 < k →
    path_Kind.l0 k (L.map bs) t (L.map bs) (L.length : Int) (p.length : Int) = some (match walkK r t with | none => (0, 18) | some t => if 8 < L.length then (0, 7) else (t, 0)) := by
  intro r
  induction r with
  | nil =>
    intro p k t hp hk
    obtain ⟨m, rfl, _⟩ := up1 hk
    rw [List.append_nil] at hp
    rw [path_Kind.l0, if_neg (by rw [hp]; omega), List.length_map, walkK]
    by_cases h8 : 8 < L.length
    · rw [if_pos (by omega)]; simp only [if_pos h8]
    · rw [if_neg (by omega)]; simp only [if_neg h8]
  | cons n r ih =>
    intro p k t hp hk
    rw [List.length_cons] at hk
    obtain ⟨m, rfl, hm⟩ := up1 hk
    have hl := congrArg List.length hp
    rw [List.length_append, List.length_cons] at hl
    have hn : n.length ≤ M := hL n (by rw [hp]; simp)
    rw [path_Kind.l0, if_pos (by omega), if_pos (by omega), if_pos (by rw [List.length_map]; omega)]
    have e1 : rdOf ByteArray.empty (L.map bs) (p.length : Int) = bs n := by rw [hp]; exact rd_mid p n r
    rw [e1, kind_eq n m (by omega) (by omega), Option.bind_some, walkK, List.length_map]
    by_cases h0 : kindN n = 0
    · rw [if_pos h0, if_pos h0]
    · rw [if_neg h0, if_neg h0]
      have hrec : path_Kind.l0 m (L.map bs) (kindN n) (L.map bs) (L.length : Int) (((p ++ [n]).length : Nat) : Int) = _ := ih (p ++ [n]) m (kindN n) (by rw [hp]; simp) (by omega)
      have e2 : (p ++ [n]).length = p.length + 1 := by simp
      rw [e2] at hrec
      have hw : wrap64 ((L.length : Int) - 1) = (L.length : Int) - 1 := wrap_pred L.length (by omega)
      by_cases h2 : kindN n = 2
      · rw [if_pos h2, hw]
        by_cases hr : r = []
        · rw [if_neg (by rw [hr] at hl; simp at hl; omega), wrap_succ p.length (by omega), hrec, if_neg (by simp [hr])]
        · have : 0 < r.length := List.length_pos_iff.2 hr
          rw [if_pos (by omega), if_pos ⟨h2, hr⟩]
      · rw [if_neg h2, wrap_succ p.length (by omega), hrec, if_neg (fun h => h2 h.1)]
theorem Kind_eq (s : ByteArray) (k : Nat) (hk : 400 ≤ k) : path_Kind.f k s = some (kindP s.data.toList) := by
  unfold path_Kind.f kindP
  by_cases h96 : 96 < s.size
  · rw [if_pos (by omega), if_pos (show 96 < s.data.toList.length from h96)]
  · rw [if_neg (by omega), if_neg (show ¬ 96 < s.data.toList.length from h96)]
    by_cases hn : s.data.toList = []
    · rw [if_pos ((toList_nil s).2 hn), if_pos hn]
    · rw [if_neg (fun h => hn ((toList_nil s).1 h)), if_neg hn, split_eq s k (by omega) (by omega), Option.bind_some]
      have hc := splitL_len s.data.toList
      have hc2 := count_le s.data.toList
      rw [len_size] at hc2
      have := kind_loop (splitL s.data.toList) 96 (by omega) (fun n h => by have := splitL_mem_len _ n h; rw [len_size] at this; omega) (by omega) (splitL s.data.toList) [] k 0 rfl (by omega)
      rw [List.length_map]
      exact this
end Go.Proofs.YtfnbadfehelleaaDoor.PP
