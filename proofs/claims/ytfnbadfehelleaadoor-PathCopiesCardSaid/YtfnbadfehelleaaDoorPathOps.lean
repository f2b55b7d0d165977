/- Copies, the last byte of a kind, the order of paths, the chapter's example. -/
import Derived.Test.YtfnbadfehelleaaDoorPathMake
set_option linter.unusedSimpArgs false
set_option linter.unusedVariables false
namespace Go.Proofs.YtfnbadfehelleaaDoor.PP
open Go.RowKit Go.Proofs.YtfnbadfehelleaaDoor.MPath Go.Proofs.YtfnbadfehelleaaDoorW.PrintWords Go.Proofs.YtfnbadfehelleaaDoorW.PrintLast Go.Proofs.YtfnbadfehelleaaDoorW.PrintMore

theorem last_spec (s : ByteArray) (c : UInt8) : (Lib.lastIndexByte s (c.toNat : Int) = -1 ∧ c ∉ s.data.toList) ∨ ∃ u v, s.data.toList = u ++ c :: v ∧ c ∉ v ∧ Lib.lastIndexByte s (c.toNat : Int) = (u.length : Int) := by
  have get : ∀ j, (h : j < s.data.toList.length) → s.data[j]! = s.data.toList[j] := by
    intro j h
    have h' : j < s.data.size := by simpa using h
    rw [getElem!_pos s.data j h']
    simp
  have inj : ∀ d : UInt8, ((d.toNat : Int) = (c.toNat : Int)) ↔ d = c := by
    intro d
    constructor
    · intro h; exact UInt8.toNat_inj.1 (by omega)
    · intro h; rw [h]
  rcases Lib.lastIndexByte_spec s (c.toNat : Int) with ⟨h1, h2⟩ | ⟨i, hi, h1, h2, h3⟩
  · refine .inl ⟨h1, fun hm => ?_⟩
    obtain ⟨j, hj, e⟩ := List.getElem_of_mem hm
    exact h2 j (by rw [← len_size]; exact hj) ((inj _).2 (by rw [get j hj]; exact e))
  · have hil : i < s.data.toList.length := by rw [len_size]; exact hi
    refine .inr ⟨s.data.toList.take i, s.data.toList.drop (i + 1), ?_, ?_, ?_⟩
    · rw [get i hil] at h2
      rw [← (inj _).1 h2]
      rw [List.getElem_cons_drop, List.take_append_drop]
    · intro hm
      obtain ⟨j, hj, e⟩ := List.getElem_of_mem hm
      rw [List.getElem_drop] at e
      have hlt : i + 1 + j < s.data.toList.length := by rw [List.length_drop] at hj; omega
      exact h3 (i + 1 + j) (by omega) (by rw [← len_size]; exact hlt) ((inj _).2 (by rw [get _ hlt]; exact e))
    · rw [h1, List.length_take]
      congr 1
      omega
theorem last_cut (u v : List UInt8) (c : UInt8) (h : c ∉ v) : Lib.lastIndexByte (bs (u ++ c :: v)) (c.toNat : Int) = (u.length : Int) := by
  rcases last_spec (bs (u ++ c :: v)) c with ⟨_, h2⟩ | ⟨u', v', h1, h2, h3⟩
  · exact absurd (by rw [bs_data]; simp) h2
  · rw [h3]
    rw [bs_data] at h1
    have hv : ∀ (u u' v v' : List UInt8), u ++ c :: v = u' ++ c :: v' → c ∉ v → c ∉ v' → u'.length = u.length := by
      intro u
      induction u with
      | nil =>
        intro u' v v' e hv hv'
        cases u' with
        | nil => rfl
        | cons d u' => simp at e; exact absurd (by rw [e.2]; simp) hv
      | cons d u ih =>
        intro u' v v' e hv hv'
        cases u' with
        | nil => simp at e; exact absurd (by rw [← e.2]; simp) hv'
        | cons d' u' => simp at e; simp [ih u' v v' e.2 hv hv']
    rw [hv u u' v v' h1 h h2]

/-! ### is, copies -/
def isP (s : List UInt8) (t : Int) : Bool := (kindP s).2 == 0 && (t == 0 || (kindP s).1 == t)
theorem is_eq (s : ByteArray) (t : Int) (k : Nat) (hk : 400 ≤ k) : path_is.f k s t = some (isP s.data.toList t) := by
  unfold path_is.f isP
  rw [Kind_eq s k hk, Option.bind_some]
  by_cases h : (kindP s.data.toList).2 = 0
  · have h' : ((kindP s.data.toList).2 == 0) = true := by simp [h]
    rw [if_pos h, h', Bool.true_and]
    by_cases ht : t = 0
    · have : (t == 0) = true := by simp [ht]
      rw [if_pos ht, this, Bool.true_or]
    · have : (t == 0) = false := by simp [ht]
      rw [if_neg ht, this, Bool.false_or]
  · have h' : ((kindP s.data.toList).2 == 0) = false := by simp [h]
    rw [if_neg h, h', Bool.false_and]
def decL (n : Int) : List UInt8 := (strOfNums (Ext.decB n)).data.toList
theorem decL_len (n : Int) : (decL n).length ≤ 3 := by
  unfold decL Ext.decB Ext.dig3 strOfNums
  simp
def copyP (s : List UInt8) (n : Int) : List UInt8 × Int :=
  if isP s 2 = true ∧ 1 ≤ n ∧ n ≤ 999 then sureP (s.take (Lib.lastIndexByte (bs s) 46).toNat ++ [126] ++ decL n ++ s.drop (Lib.lastIndexByte (bs s) 46).toNat) else ([], 2)
theorem kind_dot (l : List UInt8) (h : kindN l = 2) : (46 : UInt8) ∈ l := by
  unfold kindN at h
  by_cases hm : (46 : UInt8) ∈ l
  · exact hm
  · rw [if_neg hm] at h
    split at h
    · exact absurd h (by decide)
    · split at h
      · exact absurd h (by decide)
      · exact absurd h (by decide)
theorem splitL_mem : ∀ (l : List UInt8) (c : UInt8), ∀ n ∈ splitL l, c ∈ n → c ∈ l
  | [], c, n, h, hc => by simp [splitL] at h; simp [h] at hc
  | d :: r, c, n, h, hc => by
    have ih := splitL_mem r c
    rw [splitL] at h
    split at h
    · rcases List.mem_cons.1 h with rfl | h
      · simp at hc
      · exact List.mem_cons_of_mem _ (ih n h hc)
    · obtain ⟨a, b, e⟩ := splitL_ne r
      rw [e, cons1] at h
      rw [e] at ih
      rcases List.mem_cons.1 h with rfl | h
      · rcases List.mem_cons.1 hc with rfl | hc
        · simp
        · exact List.mem_cons_of_mem _ (ih a (by simp) hc)
      · exact List.mem_cons_of_mem _ (ih n (by simp [h]) hc)
theorem walkK_last : ∀ (r : List (List UInt8)) (t v : Int), walkK r t = some v → (r = [] ∧ v = t) ∨ ∃ p n, r = p ++ [n] ∧ kindN n = v ∧ v ≠ 0 ∧ ∀ x ∈ p, kindN x ≠ 0 ∧ kindN x ≠ 2
  | [], t, v, h => by rw [walkK] at h; exact .inl ⟨rfl, (Option.some.inj h).symm⟩
  | n :: r, t, v, h => by
    rw [walkK] at h
    split at h
    · exact absurd h (by simp)
    · rename_i h0
      split at h
      · exact absurd h (by simp)
      · rename_i h2
        rcases walkK_last r _ v h with ⟨rfl, e⟩ | ⟨p, m, e1, e2, e3, e4⟩
        · exact .inr ⟨[], n, rfl, e.symm, by rw [e]; exact h0, fun x hx => absurd hx (by simp)⟩
        · refine .inr ⟨n :: p, m, by rw [e1]; rfl, e2, e3, fun x hx => ?_⟩
          rcases List.mem_cons.1 hx with rfl | hx
          · exact ⟨h0, fun e => h2 ⟨e, by rw [e1]; simp⟩⟩
          · exact e4 x hx
/-- What it says that a text is a path. -/
theorem kindP_ok (s : List UInt8) (h : (kindP s).2 = 0) : s.length ≤ 96 ∧ ((s = [] ∧ (kindP s).1 = 1) ∨ (s ≠ [] ∧ (splitL s).length ≤ 8 ∧ ∃ p n, splitL s = p ++ [n] ∧ kindN n = (kindP s).1 ∧ (kindP s).1 ≠ 0 ∧ ∀ x ∈ p, kindN x ≠ 0 ∧ kindN x ≠ 2)) := by
  unfold kindP at h ⊢
  by_cases h1 : 96 < s.length
  · rw [if_pos h1] at h; exact absurd h (by decide)
  · rw [if_neg h1] at h ⊢
    refine ⟨by omega, ?_⟩
    by_cases h2 : s = []
    · rw [if_pos h2]; exact .inl ⟨h2, rfl⟩
    · rw [if_neg h2] at h ⊢
      refine .inr ⟨h2, ?_⟩
      cases hw : walkK (splitL s) 0 with
      | none => rw [hw] at h; exact absurd (show (18 : Int) = 0 from h) (by decide)
      | some t =>
        rw [hw] at h
        simp only at h ⊢
        by_cases h8 : 8 < (splitL s).length
        · rw [if_pos h8] at h; exact absurd h (by decide)
        · rw [if_neg h8]
          refine ⟨by omega, ?_⟩
          rcases walkK_last _ _ _ hw with ⟨e, _⟩ | h
          · obtain ⟨a, b, e'⟩ := splitL_ne s
            rw [e] at e'; exact absurd e' (by simp)
          · exact h
theorem Copy_eq (s : ByteArray) (n : Int) (k : Nat) (hk : 500 ≤ k) : path_Copy.f k s n = some (two (copyP s.data.toList n)) := by
  obtain ⟨k, rfl⟩ : ∃ m, k = m + 1 := ⟨k - 1, by omega⟩
  unfold path_Copy.f copyP
  rw [is_eq s 2 _ (by omega), Option.bind_some]
  have out : path_Copy.j0 (k + 1) s n true = some (two ([], 2)) := by rw [path_Copy.j0, if_pos rfl]; rfl
  by_cases hi : isP s.data.toList 2 = true
  · rw [if_pos hi]
    by_cases h1 : n < 1
    · rw [if_pos h1, if_neg (by omega), out]
    · rw [if_neg h1]
      by_cases h9 : n > 999
      · have : decide (n > 999) = true := by simp [h9]
        rw [this, if_neg (by omega), out]
      · have : decide (n > 999) = false := by simp; omega
        rw [this, if_pos ⟨hi, by omega, by omega⟩]
        have hk2 : (kindP s.data.toList).2 = 0 ∧ (kindP s.data.toList).1 = 2 := by
          unfold isP at hi
          simp at hi
          exact hi
        have hdot : (46 : UInt8) ∈ s.data.toList := by
          obtain ⟨_, h⟩ := kindP_ok _ hk2.1
          rcases h with ⟨_, h⟩ | ⟨_, _, p, m, h3, h4, _, _⟩
          · rw [hk2.2] at h; exact absurd h (by decide)
          · exact splitL_mem _ 46 m (by rw [h3]; simp) (kind_dot m (by rw [h4]; exact hk2.2))
        have h96 : s.size ≤ 96 := (kindP_ok _ hk2.1).1
        rw [path_Copy.j0, if_neg (by decide)]
        unfold strings_LastIndexByte.f Ext.strings_LastIndexByte.f path_decimal.f Ext.path_decimal.f
        have e46 : ((46 : UInt8).toNat : Int) = 46 := rfl
        rw [if_pos (by omega), if_pos (by omega), if_pos (by omega), Option.bind_some, Option.bind_some, bs_back]
        rcases last_spec s 46 with ⟨_, h⟩ | ⟨u, v, h1, h2, h3⟩
        · exact absurd hdot h
        · rw [e46] at h3
          rw [h3]
          clear h3
          have hl := congrArg List.length h1
          rw [List.length_append, List.length_cons, len_size] at hl
          have t1 : (u.length : Int).toNat = u.length := by omega
          have p1 : (s.extract 0 u.length).data.toList = s.data.toList.take u.length := take_str s _
          have p2 : (s.extract u.length s.size).data.toList = s.data.toList.drop u.length := drop_str s _
          have q1 : (s.extract 0 u.length).size ≤ 96 := by rw [ByteArray.size_extract]; omega
          have q2 : (s.extract u.length s.size).size ≤ 96 := by rw [ByteArray.size_extract]; omega
          have q3 : (strOfNums (Ext.decB n)).size ≤ 3 := decL_len n
          have q4 : (⟨#[126]⟩ : ByteArray).size = 1 := rfl
          rw [t1, if_pos (by omega), if_pos (by omega), if_pos (by omega), if_pos (by rw [ByteArray.size_append, q4]; omega), if_pos (by rw [ByteArray.size_append, ByteArray.size_append, q4]; omega), sure_eq _ _ (by omega), Option.bind_some]
          have e : (s.extract 0 u.length ++ (⟨#[126]⟩ : ByteArray) ++ strOfNums (Ext.decB n) ++ s.extract u.length s.size).data.toList = s.data.toList.take u.length ++ [126] ++ decL n ++ s.data.toList.drop u.length := by
            rw [ByteArray.data_append, ByteArray.data_append, ByteArray.data_append, Array.toList_append, Array.toList_append, Array.toList_append, p1, p2]
            try rfl
          rw [e]
  · rw [if_neg hi, if_neg (fun h => hi h.1), out]

/-! ### the order -/
def cmpN : List (List UInt8) → List (List UInt8) → Int
  | [], [] => 0
  | [], _ :: _ => -1
  | _ :: _, [] => 1
  | a :: x, b :: y => if Lib.compareBytes a b = 0 then cmpN x y else Lib.compareBytes a b
theorem cmp_loop (X Y : List (List UInt8)) (hX : X.length ≤ 100000) (hY : Y.length ≤ 100000) : ∀ (r1 r2 p q : List (List UInt8)) (k : Nat), X = p ++ r1 → Y = q ++ r2 → p.length = q.length → r1.length < k →
    path_Compare.l0 k (X.map bs) (Y.map bs) (mn (X.length : Int) (Y.length : Int)) (p.length : Int) = some (cmpN r1 r2) := by
  intro r1
  induction r1 with
  | nil =>
    intro r2 p q k h1 h2 h3 hk
    obtain ⟨m, rfl, _⟩ := up1 hk
    have l1 := congrArg List.length h1
    have l2 := congrArg List.length h2
    rw [List.length_append] at l1 l2
    rw [List.length_nil] at l1
    have hm : mn (X.length : Int) (Y.length : Int) = X.length := mn_left (X.length : Int) (Y.length : Int) (by omega)
    rw [path_Compare.l0, hm, if_neg (by omega), List.length_map, List.length_map]
    unfold cmp_Compare_int.f cmp_isNaN_int.f
    have n1 : ((X.length : Int) != (X.length : Int)) = false := by simp
    have n2 : ((Y.length : Int) != (Y.length : Int)) = false := by simp
    rw [Option.bind_some, Option.bind_some, n1, n2, if_neg (by decide), if_neg (by decide)]
    cases r2 with
    | nil => rw [List.length_nil] at l2; rw [if_neg (by omega), if_neg (by omega)]; rfl
    | cons b r2 => rw [List.length_cons] at l2; rw [if_pos (by omega)]; rfl
  | cons a r1 ih =>
    intro r2 p q k h1 h2 h3 hk
    rw [List.length_cons] at hk
    obtain ⟨m, rfl, hm⟩ := up1 hk
    have l1 := congrArg List.length h1
    have l2 := congrArg List.length h2
    rw [List.length_append] at l1 l2
    rw [List.length_cons] at l1
    cases r2 with
    | nil =>
      rw [List.length_nil] at l2
      have hm : mn (X.length : Int) (Y.length : Int) = Y.length := by unfold mn; rw [if_pos (by omega)]
      rw [path_Compare.l0, hm, if_neg (by omega), List.length_map, List.length_map]
      unfold cmp_Compare_int.f cmp_isNaN_int.f
      have n1 : ((X.length : Int) != (X.length : Int)) = false := by simp
      have n2 : ((Y.length : Int) != (Y.length : Int)) = false := by simp
      rw [Option.bind_some, Option.bind_some, n1, n2, if_neg (by decide), if_neg (by decide), if_neg (by omega), if_pos (by omega)]
      rfl
    | cons b r2 =>
      rw [List.length_cons] at l2
      have hmn := mn_le (X.length : Int) (Y.length : Int)
      have hlt : (p.length : Int) < mn (X.length : Int) (Y.length : Int) := by
        obtain ⟨_, _, h | h⟩ := hmn
        · rw [h]; omega
        · rw [h]; omega
      clear hmn
      rw [path_Compare.l0, if_pos hlt, if_pos (by omega), if_pos (by rw [List.length_map]; omega), if_pos (by rw [List.length_map]; omega)]
      have e1 : rdOf ByteArray.empty (X.map bs) (p.length : Int) = bs a := by rw [h1]; exact rd_mid p a r1
      have e2 : rdOf ByteArray.empty (Y.map bs) (p.length : Int) = bs b := by rw [h2, h3]; exact rd_mid q b r2
      rw [e1, e2]
      unfold strings_Compare.f Ext.strings_Compare.f
      rw [bs_data, bs_data, Option.bind_some, cmpN]
      by_cases hc : Lib.compareBytes a b = 0
      · rw [if_pos hc, if_pos hc, wrap_succ p.length (by omega)]
        have e3 : (p ++ [a]).length = p.length + 1 := by simp
        have := ih r2 (p ++ [a]) (q ++ [b]) m (by rw [h1]; simp) (by rw [h2]; simp) (by simp [h3]) (by omega)
        rw [e3] at this
        exact this
      · rw [if_neg hc, if_neg hc]
theorem Compare_eq (a b : ByteArray) (k : Nat) (ha : a.size ≤ 90000) (hb : b.size ≤ 90000) (hk1 : a.size + 5 ≤ k) (hk2 : b.size + 5 ≤ k) : path_Compare.f k a b = some (cmpN (splitL a.data.toList) (splitL b.data.toList)) := by
  unfold path_Compare.f
  have c1 := splitL_len a.data.toList
  have c2 := splitL_len b.data.toList
  have d1 := count_le a.data.toList
  have d2 := count_le b.data.toList
  rw [len_size] at d1 d2
  rw [split_eq a k ha hk1, split_eq b k hb hk2, Option.bind_some, Option.bind_some, List.length_map, List.length_map]
  exact cmp_loop _ _ (by omega) (by omega) _ _ [] [] k rfl rfl rfl (by omega)

/-! ### the chapter's example, and what is looked at -/
theorem works_eq (k : Nat) (hk : 20000 ≤ k) : aquiferlaw05_works.f k = some true := by
  unfold aquiferlaw05_works.f
  rw [Clean_eq _ k hk, Kind_eq _ k (by omega), Copy_eq _ _ k (by omega), Option.bind_some, Option.bind_some, Option.bind_some]
  have e1 : two (cleanP (⟨#[47, 97, 47, 47, 98, 47, 46, 47, 46, 46, 47, 99, 46, 116, 120, 116]⟩ : ByteArray).data.toList) = (bs [97, 47, 99, 46, 116, 120, 116], 0) := by rfl
  have e2 : kindP (⟨#[97, 46, 98, 47, 99]⟩ : ByteArray).data.toList = (0, 18) := by rfl
  have e3 : two (copyP (⟨#[97, 47, 98, 46, 116, 120, 116]⟩ : ByteArray).data.toList 2) = (bs [97, 47, 98, 126, 50, 46, 116, 120, 116], 0) := by rfl
  rw [e1, e2, e3]
  simp only [ByteArray.toList_eq, bs_data]
  simp only [if_true]
  have z1 : (⟨#[97, 47, 98]⟩ : ByteArray).size = 3 := rfl
  have z2 : (⟨#[97, 45, 98]⟩ : ByteArray).size = 3 := rfl
  rw [Compare_eq _ _ k (by rw [z1]; omega) (by rw [z2]; omega) (by rw [z1]; omega) (by rw [z2]; omega), Option.bind_some]
  rfl
theorem few_eq (s : ByteArray) : ∃ t : ByteArray, aquiferlaw05_few.f s = some t ∧ t.size ≤ 300 := by
  unfold aquiferlaw05_few.f
  have h := mn_le (s.size : Int) 300
  have h0 : 0 ≤ mn (s.size : Int) 300 := by
    obtain ⟨_, _, h | h⟩ := h
    · rw [h]; omega
    · rw [h]; omega
  rw [if_pos h0, if_pos h.1]
  refine ⟨_, rfl, ?_⟩
  rw [ByteArray.size_extract]
  obtain ⟨_, h, _⟩ := h
  generalize mn (s.size : Int) 300 = z at *
  omega
end Go.Proofs.YtfnbadfehelleaaDoor.PP
