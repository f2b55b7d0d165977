/- The document's answers for layer 5, second text: paths held against each other. -/
import Derived.Test.YtfnbadfehelleaaDoorMPathx4
import Derived.Test.YtfnbadfehelleaaDoorPathSort
import Derived.Test.YtfnbadfehelleaaDoorPathRef
set_option linter.unusedSimpArgs false
set_option linter.unusedVariables false
namespace Go.Proofs.YtfnbadfehelleaaDoor.PP
open Go.RowKit Go.Proofs.YtfnbadfehelleaaDoor.MPath Go.Proofs.YtfnbadfehelleaaDoorW.PrintWords Go.Proofs.YtfnbadfehelleaaDoorW.PrintLast Go.Proofs.YtfnbadfehelleaaDoorW.PrintMore

theorem RIs_eq (s : ByteArray) (k : Nat) (hk : 400 ≤ k) : aquiferref05_Is.f k s = some ((kindP s.data.toList).2 == 0) := by
  unfold aquiferref05_Is.f
  rw [RKind_eq s k hk]
  rfl
theorem Rsure_eq (s : ByteArray) (k : Nat) (hk : 400 ≤ k) : aquiferref05_sure.f k s = some (two (sureP s.data.toList)) := by
  unfold aquiferref05_sure.f sureP
  rw [RKind_eq s k hk, Option.bind_some]
  by_cases h : (kindP s.data.toList).2 = 0
  · rw [if_pos h, if_pos h]; rfl
  · rw [if_neg h, if_neg h]; rfl
def partsP (s : List UInt8) : List (List UInt8) := if s = [] then [] else if (kindP s).2 = 0 then splitL s else []
theorem RSplit_eq (s : ByteArray) (k : Nat) (hk : 400 ≤ k) : aquiferref05_Split.f k s = some ((partsP s.data.toList).map bs) := by
  unfold aquiferref05_Split.f partsP
  rw [RIs_eq s k hk, Option.bind_some]
  by_cases h : (kindP s.data.toList).2 = 0
  · have e : ((kindP s.data.toList).2 == 0) = true := by simp [h]
    rw [e, if_pos rfl, if_pos h]
    by_cases hn : s.data.toList = []
    · rw [if_pos ((toList_nil s).2 hn), if_pos hn]; rfl
    · have h96 : s.size ≤ 96 := (kindP_ok _ h).1
      rw [if_neg (fun h => hn ((toList_nil s).1 h)), if_neg hn, RNames_eq s k (by omega) (by omega)]
      rfl
  · have e : ((kindP s.data.toList).2 == 0) = false := by simp [h]
    rw [e, if_neg (by decide), if_neg h]
    split <;> rfl
theorem RBelow_loop (X Y : List (List UInt8)) (hX : X.length ≤ 100000) (hXY : X.length < Y.length) : ∀ (r1 p : List (List UInt8)) (q r2 : List (List UInt8)) (k : Nat), X = p ++ r1 → Y = q ++ r2 → p.length = q.length → r1.length < k →
    aquiferref05_Below.l0 k (X.map bs) (Y.map bs) (p.length : Int) = some (decide (r1 = r2.take r1.length)) := by
  intro r1
  induction r1 with
  | nil =>
    intro p q r2 k h1 h2 h3 hk
    obtain ⟨m, rfl, _⟩ := up1 hk
    rw [List.append_nil] at h1
    rw [aquiferref05_Below.l0, List.length_map, if_neg (by rw [h1]; omega)]
    simp
  | cons a r1 ih =>
    intro p q r2 k h1 h2 h3 hk
    rw [List.length_cons] at hk
    obtain ⟨m, rfl, hm⟩ := up1 hk
    have l1 := congrArg List.length h1
    have l2 := congrArg List.length h2
    rw [List.length_append] at l1 l2
    rw [List.length_cons] at l1
    cases r2 with
    | nil => rw [List.length_nil] at l2; omega
    | cons b r2 =>
      rw [aquiferref05_Below.l0, List.length_map, List.length_map, if_pos (by omega), if_pos (by omega), if_pos (by omega)]
      have e1 : rdOf ByteArray.empty (X.map bs) (p.length : Int) = bs a := by rw [h1]; exact rd_mid p a r1
      have e2 : rdOf ByteArray.empty (Y.map bs) (p.length : Int) = bs b := by rw [h2, h3]; exact rd_mid q b r2
      rw [e1, e2, ByteArray.toList_eq, ByteArray.toList_eq, bs_data, bs_data]
      by_cases hab : a = b
      · have e3 : (p ++ [a]).length = p.length + 1 := by simp
        have := ih (p ++ [a]) (q ++ [b]) r2 m (by rw [h1]; simp) (by rw [h2]; simp) (by simp [h3]) (by omega)
        rw [e3] at this
        rw [if_pos hab, wrap_succ p.length (by omega), this, hab]
        simp
      · rw [if_neg hab]
        simp [hab]
theorem kindN_rng (n : List UInt8) : kindN n = 0 ∨ kindN n = 1 ∨ kindN n = 2 := by
  unfold kindN
  split
  · exact .inl rfl
  · split
    · split
      · exact .inr (.inr rfl)
      · exact .inl rfl
    · split
      · exact .inr (.inl rfl)
      · exact .inl rfl
theorem mem_ups_iff (d p : List UInt8) : d ∈ upsL p ↔ (kindP d).2 = 0 ∧ (kindP d).1 = 1 ∧ (kindP p).2 = 0 ∧ (partsP d).length < (partsP p).length ∧ partsP d = (partsP p).take (partsP d).length := by
  rw [mem_ups]
  constructor
  · rintro ⟨h1, h2, j, h3, h4⟩
    obtain ⟨hN, _⟩ := names_of p h1 h2
    have pp : partsP p = splitL p := by unfold partsP; rw [if_neg h2, if_pos h1]
    by_cases hj : j = 0
    · have hd : d = [] := by rw [h4, hj]; rfl
      have pd : partsP d = [] := by rw [hd]; rfl
      rw [pp, pd, hd]
      exact ⟨rfl, rfl, h1, by rw [List.length_nil]; omega, rfl⟩
    · have hne : (splitL p).take j ≠ [] := by
        intro e
        have := congrArg List.length e
        rw [List.length_take, List.length_nil] at this
        omega
      have ht := hN.take j
      have hk := ht.kind hne
      rw [← h4] at hk
      have hs := ht.split hne
      rw [← h4] at hs
      have hdn : d ≠ [] := by rw [h4]; exact jn_ne ht hne
      have pd : partsP d = (splitL p).take j := by unfold partsP; rw [if_neg hdn, if_pos (by rw [hk]), hs]
      have hlj : ((splitL p).take j).length = j := by rw [List.length_take]; omega
      have hlast : kindN (((splitL p).take j).getLast hne) = 1 := by
        rw [List.getLast_eq_getElem, List.getElem_take]
        have := hN.good (((splitL p).take j).length - 1) (by omega)
        rw [getElem!_pos _ _ (by omega)] at this
        rcases kindN_rng ((splitL p)[((splitL p).take j).length - 1]'(by omega)) with h | h | h
        · exact absurd h this.1
        · exact h
        · exact absurd h (this.2 (by omega))
      rw [pp, pd, hk, hlj]
      exact ⟨rfl, hlast, h1, by omega, rfl⟩
  · rintro ⟨h1, h2, h3, h4, h5⟩
    have hp : p ≠ [] := by
      intro e
      rw [e] at h4
      exact absurd h4 (Nat.not_lt_zero _)
    have pp : partsP p = splitL p := by unfold partsP; rw [if_neg hp, if_pos h3]
    rw [pp] at h4 h5
    refine ⟨h3, hp, (partsP d).length, h4, ?_⟩
    rw [← h5]
    unfold partsP
    by_cases hd : d = []
    · rw [if_pos hd, hd]; rfl
    · rw [if_neg hd, if_pos h1, jn_splitL]
theorem parts_len (s : List UInt8) : (partsP s).length ≤ 8 := by
  unfold partsP
  by_cases hn : s = []
  · rw [if_pos hn]; exact Nat.zero_le _
  · rw [if_neg hn]
    by_cases h : (kindP s).2 = 0
    · rw [if_pos h]
      obtain ⟨_, ⟨h1, _⟩ | ⟨_, h8, _⟩⟩ := kindP_ok s h
      · exact absurd h1 hn
      · exact h8
    · rw [if_neg h]; exact Nat.zero_le _
theorem RBelow_eq (a b : ByteArray) (k : Nat) (hk : 500 ≤ k) : aquiferref05_Below.f k a b = some (decide (a.data.toList ∈ upsL b.data.toList)) := by
  obtain ⟨k, rfl⟩ : ∃ m, k = m + 1 := ⟨k - 1, by omega⟩
  have la := parts_len a.data.toList
  have lb := parts_len b.data.toList
  have out : aquiferref05_Below.j0 (k + 1) a b true = some false := by rw [aquiferref05_Below.j0, if_pos rfl]
  have hm := mem_ups_iff a.data.toList b.data.toList
  unfold aquiferref05_Below.f
  rw [RKind_eq a _ (by omega), Option.bind_some]
  by_cases h1 : (kindP a.data.toList).2 = 0
  · rw [if_pos h1]
    by_cases h2 : (kindP a.data.toList).1 = 1
    · rw [if_pos h2, RIs_eq b _ (by omega), Option.bind_some]
      by_cases h3 : (kindP b.data.toList).2 = 0
      · have e : (!((kindP b.data.toList).2 == 0)) = false := by simp [h3]
        rw [e, aquiferref05_Below.j0, if_neg (by decide), RSplit_eq a _ (by omega), RSplit_eq b _ (by omega), Option.bind_some, Option.bind_some, List.length_map, List.length_map]
        by_cases h4 : (partsP b.data.toList).length ≤ (partsP a.data.toList).length
        · rw [if_pos (by omega), decide_eq_false (fun h => by have := (hm.1 h).2.2.2.1; omega)]
        · rw [if_neg (by omega)]
          have := RBelow_loop (partsP a.data.toList) (partsP b.data.toList) (by omega) (by omega) (partsP a.data.toList) [] [] (partsP b.data.toList) k rfl rfl rfl (by omega)
          have z : (([] : List (List UInt8)).length : Int) = 0 := rfl
          rw [z] at this
          rw [this]
          congr 1
          rw [decide_eq_decide]
          exact ⟨fun h => hm.2 ⟨h1, h2, h3, by omega, h⟩, fun h => (hm.1 h).2.2.2.2⟩
      · have e : (!((kindP b.data.toList).2 == 0)) = true := by simp [h3]
        rw [e, out, decide_eq_false (fun h => h3 (hm.1 h).2.2.1)]
    · rw [if_neg h2, out, decide_eq_false (fun h => h2 (hm.1 h).2.1)]
  · rw [if_neg h1, out, decide_eq_false (fun h => h1 (hm.1 h).1)]
theorem cb_less : ∀ a b, Op.bytesLess a b = true ↔ Lib.compareBytes a b = -1
  | [], [] => by simp [Op.bytesLess, Lib.compareBytes]
  | [], _ :: _ => by simp [Op.bytesLess, Lib.compareBytes]
  | _ :: _, [] => by simp [Op.bytesLess, Lib.compareBytes]
  | x :: a, y :: b => by
    have ih := cb_less a b
    unfold Op.bytesLess Lib.compareBytes
    by_cases h1 : x < y
    · rw [if_pos h1]; simp [h1]
    · rw [if_neg h1]
      by_cases h2 : y < x
      · rw [if_pos h2]
        have : x ≠ y := fun e => by rw [e] at h2; exact UInt8.lt_irrefl y h2
        simp [h1, this]
      · rw [if_neg h2]
        have : x = y := UInt8.le_antisymm (UInt8.not_lt.1 h2) (UInt8.not_lt.1 h1)
        simp [this, ih]
theorem RCompare_loop (X Y : List (List UInt8)) (hX : X.length ≤ 100000) (hY : Y.length ≤ 100000) : ∀ (r1 r2 p q : List (List UInt8)) (k : Nat), X = p ++ r1 → Y = q ++ r2 → p.length = q.length → 2 * r1.length + 1 < k →
    aquiferref05_Compare.l0 k (X.map bs) (Y.map bs) (p.length : Int) = some (cmpN r1 r2) := by
  intro r1
  induction r1 with
  | nil =>
    intro r2 p q k h1 h2 h3 hk
    rw [List.length_nil] at hk
    obtain ⟨m1, rfl, hm1⟩ := up1 (show 1 < k by omega)
    obtain ⟨m, rfl, hm⟩ := up1 (show 0 < m1 by omega)
    have l1 := congrArg List.length h1
    have l2 := congrArg List.length h2
    rw [List.length_append] at l1 l2
    rw [List.length_nil] at l1
    rw [aquiferref05_Compare.l0, List.length_map, if_neg (by omega), aquiferref05_Compare.j1, if_neg (by decide), List.length_map, List.length_map]
    cases r2 with
    | nil => rw [List.length_nil] at l2; rw [if_neg (by omega), if_neg (by omega)]; rfl
    | cons b r2 => rw [List.length_cons] at l2; rw [if_pos (by omega)]; rfl
  | cons a r1 ih =>
    intro r2 p q k h1 h2 h3 hk
    rw [List.length_cons] at hk
    obtain ⟨m1, rfl, hm1⟩ := up1 hk
    obtain ⟨m, rfl, hm⟩ := up1 (show 2 * r1.length + 1 < m1 by omega)
    have l1 := congrArg List.length h1
    have l2 := congrArg List.length h2
    rw [List.length_append] at l1 l2
    rw [List.length_cons] at l1
    rw [aquiferref05_Compare.l0, List.length_map, List.length_map, if_pos (by omega)]
    cases r2 with
    | nil =>
      rw [List.length_nil] at l2
      rw [show decide ((p.length : Int) < (Y.length : Int)) = false from decide_eq_false (by omega), aquiferref05_Compare.j1, if_neg (by decide), List.length_map, List.length_map, if_neg (by omega), if_pos (by omega)]
      rfl
    | cons b r2 =>
      rw [List.length_cons] at l2
      have e1 : rdOf ByteArray.empty (X.map bs) (p.length : Int) = bs a := by rw [h1]; exact rd_mid p a r1
      have e2 : rdOf ByteArray.empty (Y.map bs) (p.length : Int) = bs b := by rw [h2, h3]; exact rd_mid q b r2
      rw [show decide ((p.length : Int) < (Y.length : Int)) = true from decide_eq_true (by omega), aquiferref05_Compare.j1, if_pos rfl, List.length_map, List.length_map, if_pos (by omega), if_pos (by omega), if_pos (by omega), e1, e2, ByteArray.toList_eq, ByteArray.toList_eq, bs_data, bs_data, cmpN]
      have hn := cb_neg a b
      rcases cb_rng a b with h | h | h
      · rw [if_pos ((cb_less a b).2 h), h]; rfl
      · rw [if_neg (fun e => by rw [(cb_less a b).1 e] at h; exact absurd h (by decide)), if_neg (fun e => by rw [(cb_less b a).1 e, h] at hn; exact absurd hn (by decide)), if_pos h, wrap_succ p.length (by omega)]
        have e3 : (p ++ [a]).length = p.length + 1 := by simp
        have := ih r2 (p ++ [a]) (q ++ [b]) m (by rw [h1]; simp) (by rw [h2]; simp) (by simp [h3]) (by omega)
        rw [e3] at this
        exact this
      · rw [if_neg (fun e => by rw [(cb_less a b).1 e] at h; exact absurd h (by decide)), if_pos ((cb_less b a).2 (by omega)), h]; rfl
theorem RCompare_eq (a b : ByteArray) (k : Nat) (ha : a.size ≤ 300) (hb : b.size ≤ 300) (hk : 700 ≤ k) : aquiferref05_Compare.f k a b = some (cmpN (splitL a.data.toList) (splitL b.data.toList)) := by
  unfold aquiferref05_Compare.f
  have c1 := splitL_len a.data.toList
  have c2 := splitL_len b.data.toList
  have d1 := count_le a.data.toList
  have d2 := count_le b.data.toList
  rw [len_size] at d1 d2
  rw [RNames_eq a k (by omega) (by omega), RNames_eq b k (by omega) (by omega), Option.bind_some, Option.bind_some]
  exact RCompare_loop _ _ (by omega) (by omega) _ _ [] [] k rfl rfl rfl (by omega)

/-! ### a directory and a name, joined -/
def joinP (d n : List UInt8) : List UInt8 × Int :=
  if (kindP d).2 = 0 then (if (kindP d).1 = 2 then ([], 13) else if n = [] ∨ 47 ∈ n then ([], 18) else if d = [] then sureP n else sureP (d ++ [47] ++ n)) else ([], (kindP d).2)
theorem joined (a b : ByteArray) : (a ++ (⟨#[47]⟩ : ByteArray) ++ b).data.toList = a.data.toList ++ [47] ++ b.data.toList := by
  rw [ByteArray.data_append, ByteArray.data_append, Array.toList_append, Array.toList_append]
theorem idx_in (l : List UInt8) (c : UInt8) : decide (Lib.indexByte l c ≥ 0) = decide (c ∈ l) := by
  rcases index_spec l c with ⟨h1, h2⟩ | ⟨u, v, h1, _, h3⟩
  · rw [h1, decide_eq_false h2]; rfl
  · rw [h3, decide_eq_true (show c ∈ l by rw [h1]; simp)]
    exact decide_eq_true (by omega)
theorem Join_path_eq (a b : ByteArray) (k : Nat) (ha : a.size ≤ 300) (hb : b.size ≤ 300) (hk : 500 ≤ k) : path_Join.f k a b = some (two (joinP a.data.toList b.data.toList)) := by
  obtain ⟨k, rfl⟩ : ∃ m, k = m + 1 := ⟨k - 1, by omega⟩
  have z : (⟨#[47]⟩ : ByteArray).size = 1 := rfl
  have out : path_Join.j0 (k + 1) a b true = some (two ([], 18)) := by rw [path_Join.j0, if_pos rfl]; rfl
  have go : path_Join.j0 (k + 1) a b false = some (two (if a.data.toList = [] then sureP b.data.toList else sureP (a.data.toList ++ [47] ++ b.data.toList))) := by
    rw [path_Join.j0, if_neg (by decide)]
    by_cases h : a.data.toList = []
    · rw [if_pos ((toList_nil a).2 h), if_pos h, sure_eq _ _ (by omega)]; rfl
    · rw [if_neg (fun e => h ((toList_nil a).1 e)), if_neg h, if_pos (by omega), if_pos (by rw [ByteArray.size_append, z]; omega), sure_eq _ _ (by omega), joined]; rfl
  unfold path_Join.f joinP strings_Contains.f
  rw [Kind_eq a _ (by omega), Option.bind_some]
  by_cases h1 : (kindP a.data.toList).2 = 0
  · rw [if_pos h1, if_pos h1]
    by_cases h2 : (kindP a.data.toList).1 = 2
    · rw [if_pos h2, if_pos h2]; rfl
    · rw [if_neg h2, if_neg h2, index_eq, Option.bind_some, Option.bind_some, idx_in]
      by_cases h3 : b.data.toList = []
      · rw [if_pos ((toList_nil b).2 h3), if_pos (.inl h3), out]
      · rw [if_neg (fun e => h3 ((toList_nil b).1 e))]
        by_cases h4 : (47 : UInt8) ∈ b.data.toList
        · rw [decide_eq_true h4, if_pos (.inr h4), out]
        · rw [decide_eq_false h4, if_neg (fun e => e.elim h3 h4), go]
  · rw [if_neg h1, if_neg h1]; rfl
theorem RJoin_eq (a b : ByteArray) (k : Nat) (ha : a.size ≤ 300) (hb : b.size ≤ 300) (hk : 500 ≤ k) : aquiferref05_Join.f k a b = some (two (joinP a.data.toList b.data.toList)) := by
  obtain ⟨k, rfl⟩ : ∃ m, k = m + 1 := ⟨k - 1, by omega⟩
  have z : (⟨#[47]⟩ : ByteArray).size = 1 := rfl
  have out : aquiferref05_Join.j0 (k + 1) a b true = some (two ([], 18)) := by rw [aquiferref05_Join.j0, if_pos rfl]; rfl
  have go : aquiferref05_Join.j0 (k + 1) a b false = some (two (if a.data.toList = [] then sureP b.data.toList else sureP (a.data.toList ++ [47] ++ b.data.toList))) := by
    rw [aquiferref05_Join.j0, if_neg (by decide)]
    by_cases h : a.data.toList = []
    · rw [if_pos ((toList_nil a).2 h), if_pos h, Rsure_eq _ _ (by omega)]; rfl
    · rw [if_neg (fun e => h ((toList_nil a).1 e)), if_neg h, if_pos (by omega), if_pos (by rw [ByteArray.size_append, z]; omega), Rsure_eq _ _ (by omega), joined]; rfl
  have hone : ∀ l : List UInt8, decide (((splitL l).length : Int) > 1) = decide ((47 : UInt8) ∈ l) := by
    intro l
    have := splitL_len l
    rw [decide_eq_decide, this, ← List.count_pos_iff]
    omega
  unfold aquiferref05_Join.f joinP
  rw [RKind_eq a _ (by omega), Option.bind_some]
  by_cases h1 : (kindP a.data.toList).2 = 0
  · rw [if_pos h1, if_pos h1]
    by_cases h2 : (kindP a.data.toList).1 = 2
    · rw [if_pos h2, if_pos h2]; rfl
    · rw [if_neg h2, if_neg h2, RNames_eq b _ (by omega) (by omega), Option.bind_some, List.length_map, hone]
      by_cases h3 : b.data.toList = []
      · rw [if_pos ((toList_nil b).2 h3), if_pos (.inl h3), out]
      · rw [if_neg (fun e => h3 ((toList_nil b).1 e))]
        by_cases h4 : (47 : UInt8) ∈ b.data.toList
        · rw [decide_eq_true h4, if_pos (.inr h4), out]
        · rw [decide_eq_false h4, if_neg (fun e => e.elim h3 h4), go]
  · rw [if_neg h1, if_neg h1]; rfl
end Go.Proofs.YtfnbadfehelleaaDoor.PP
