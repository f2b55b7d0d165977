/- The document's answers for layer 5, third text: Clean, Parent, Name, Ups, lists held against each other; the program's Name. -/
import Derived.Test.YtfnbadfehelleaaDoorMPathx3
import Derived.Test.YtfnbadfehelleaaDoorMPathx4
import Derived.Test.YtfnbadfehelleaaDoorPathRef2
set_option linter.unusedSimpArgs false
set_option linter.unusedVariables false
namespace Go.Proofs.YtfnbadfehelleaaDoor.PP
open Go.RowKit Go.Proofs.YtfnbadfehelleaaDoor.MPath Go.Proofs.YtfnbadfehelleaaDoorW.PrintWords Go.Proofs.YtfnbadfehelleaaDoorW.PrintLast Go.Proofs.YtfnbadfehelleaaDoorW.PrintMore

/-! ### names joined, one by one -/
def tailJ (r : List (List UInt8)) : List UInt8 := r.flatMap (fun n => 47 :: n)
theorem jn_tail (x : List UInt8) : ∀ r : List (List UInt8), jn [47] (x :: r) = x ++ tailJ r
  | [] => by simp [jn, tailJ]
  | y :: r => by
    rw [jn, jn_tail y r]
    simp [tailJ]
theorem bs_app (a b : List UInt8) : bs a ++ bs b = bs (a ++ b) := str_eq (by rw [ByteArray.data_append, Array.toList_append]; rfl)
theorem Rjoin_loop (L : List (List UInt8)) (hL : ∀ n ∈ L, n.length ≤ 5000) (hlen : L.length ≤ 5000) : ∀ (r p : List (List UInt8)) (acc : List UInt8) (k : Nat), L = p ++ r → p ≠ [] → acc.length + r.length * 5001 ≤ 1000000000 → r.length < k →
    aquiferref05_join.l0 k (L.map bs) (bs acc) (p.length : Int) = some (bs (acc ++ tailJ r)) := by
  intro r
  induction r with
  | nil =>
    intro p acc k hp hne ha hk
    obtain ⟨m, rfl, hm⟩ := up1 hk
    rw [List.append_nil] at hp
    rw [aquiferref05_join.l0, List.length_map, if_neg (by rw [hp]; omega)]
    simp [tailJ]
  | cons n r ih =>
    intro p acc k hp hne ha hk
    rw [List.length_cons] at hk ha
    obtain ⟨m, rfl, hm⟩ := up1 hk
    have hl := congrArg List.length hp
    rw [List.length_append, List.length_cons] at hl
    have hn : n.length ≤ 5000 := hL n (by rw [hp]; simp)
    have hpp : 0 < p.length := List.length_pos_iff.2 hne
    have e1 : rdOf ByteArray.empty (L.map bs) (p.length : Int) = bs n := by rw [hp]; exact rd_mid p n r
    have e2 : (p ++ [n]).length = p.length + 1 := by simp
    have z0 : (⟨#[47]⟩ : ByteArray) = bs [47] := rfl
    rw [aquiferref05_join.l0, List.length_map, if_pos (by omega), if_pos (by omega), if_pos (by rw [bs_size]; omega), if_pos (by omega), e1, z0, bs_app, bs_app]
    rw [if_pos (by rw [bs_size, bs_size, List.length_append, List.length_singleton]; omega), wrap_succ p.length (by omega), ← e2, ih (p ++ [n]) _ m (by rw [hp]; simp) (by simp) (by simp only [List.length_append, List.length_singleton]; omega) (by omega)]
    simp [tailJ]
theorem Rjoin_eq (L : List (List UInt8)) (hL : ∀ n ∈ L, n.length ≤ 5000) (hlen : L.length ≤ 5000) (k : Nat) (hk : L.length < k) : aquiferref05_join.f k (L.map bs) = some (bs (jn [47] L)) := by
  obtain ⟨m, rfl, hm⟩ := up1 hk
  unfold aquiferref05_join.f
  cases L with
  | nil => rfl
  | cons x r =>
    have hx := hL x (by simp)
    rw [List.length_cons] at hlen hm
    have e1 : rdOf ByteArray.empty ((x :: r).map bs) ((([] : List (List UInt8)).length : Nat) : Int) = bs x := rd_mid [] x r
    have e1' : rdOf ByteArray.empty ((x :: r).map bs) 0 = bs x := e1
    have z0 : (⟨#[]⟩ : ByteArray) = bs [] := rfl
    rw [aquiferref05_join.l0, List.length_map, List.length_cons, if_pos (by omega), if_neg (by omega), if_pos (by omega), e1', z0, bs_app, List.nil_append]
    rw [if_pos (by rw [bs_size, bs_size]; simp only [List.length_nil]; omega)]
    have hw : wrap64 ((0 : Int) + 1) = ((([x] : List (List UInt8)).length : Nat) : Int) := wrap_succ 0 (by omega)
    rw [hw, Rjoin_loop (x :: r) hL (by rw [List.length_cons]; omega) r [x] x m rfl (by simp) (by omega) (by omega), jn_tail]

/-! ### Clean -/
theorem RClean_loop (L : List (List UInt8)) (hL : ∀ n ∈ L, n.length ≤ 4096) (hlen : L.length ≤ 4097) : ∀ (r p a : List (List UInt8)) (k : Nat), L = p ++ r → a.length ≤ p.length → (∀ n ∈ a, n ∈ L) → 2 * r.length + 5000 < k →
    aquiferref05_Clean.l0 k (L.map bs) (a.map bs) (p.length : Int) = some (two (match clN a r with | none => ([], 18) | some ns => sureP (jn [47] ns))) := by
  intro r
  induction r with
  | nil =>
    intro p a k hp ha hm hk
    rw [List.length_nil] at hk
    obtain ⟨m, rfl, hm2⟩ := up1 (show 5000 < k by omega)
    rw [List.append_nil] at hp
    have hp2 : p.length ≤ 4097 := by rw [← hp]; exact hlen
    rw [aquiferref05_Clean.l0, List.length_map, if_neg (by rw [hp]; omega), Rjoin_eq a (fun n hn => Nat.le_trans (hL n (hm n hn)) (by omega)) (by omega) m (by omega), Option.bind_some, Rsure_eq _ _ (by omega), Option.bind_some]
    rfl
  | cons n r ih =>
    intro p a k hp ha hm hk
    rw [List.length_cons] at hk
    obtain ⟨m1, rfl, hm1⟩ := up1 hk
    obtain ⟨m, rfl, hm2⟩ := up1 (show 2 * r.length + 5000 < m1 by omega)
    have hl := congrArg List.length hp
    rw [List.length_append, List.length_cons] at hl
    have hnL : n ∈ L := by rw [hp]; simp
    have e1 : rdOf ByteArray.empty (L.map bs) (p.length : Int) = bs n := by rw [hp]; exact rd_mid p n r
    have e2 : (p ++ [n]).length = p.length + 1 := by simp
    rw [aquiferref05_Clean.l0, List.length_map, if_pos (by omega), if_pos (by omega), e1, ByteArray.toList_eq, bs_data]
    by_cases hd : n = [46, 46]
    · have hne : ¬ (n = [] ∨ n = [46]) := by rw [hd]; decide
      rw [if_pos hd, List.length_map, clN, if_neg hne, if_pos hd]
      by_cases hz : a = []
      · have : ((a.length : Int) == 0) = true := by rw [hz]; rfl
        rw [this, aquiferref05_Clean.j1, if_pos rfl, if_pos hz]
        rfl
      · have hpos : 0 < a.length := List.length_pos_iff.2 hz
        have : ((a.length : Int) == 0) = false := by rw [beq_eq_false_iff_ne]; omega
        rw [this, aquiferref05_Clean.j1, if_neg (by decide), if_pos (by omega), if_pos (by rw [List.length_map]; omega), e1, ByteArray.toList_eq, bs_data, if_pos hd, if_neg hz, List.length_map, wrap_pred a.length (by omega)]
        have e3 : ((a.length : Int) - 1).toNat = a.length - 1 := by omega
        rw [if_pos (by omega), if_pos (by omega), wrap_succ p.length (by omega), ← e2, e3, ← List.map_take, ← List.dropLast_eq_take]
        exact ih (p ++ [n]) a.dropLast m (by rw [hp]; simp) (by rw [List.length_dropLast]; omega) (fun x hx => hm x ((List.dropLast_subset a) hx)) (by omega)
    · rw [if_neg hd, aquiferref05_Clean.j1, if_neg (by decide), if_pos (by omega), if_pos (by rw [List.length_map]; omega), e1, ByteArray.toList_eq, bs_data, if_neg hd, wrap_succ p.length (by omega), ← e2, clN]
      have hskip := ih (p ++ [n]) a m (by rw [hp]; simp) (by omega) hm (by omega)
      by_cases h0 : n = []
      · rw [if_pos h0, if_pos (.inl h0), hskip]
      · rw [if_neg h0]
        by_cases h1 : n = [46]
        · rw [if_pos h1, if_pos (.inr h1), hskip]
        · rw [if_neg h1, if_pos (by rw [List.length_map]; omega), if_neg (fun h => h.elim h0 h1), if_neg hd]
          have e4 : a.map bs ++ [bs n] = (a ++ [n]).map bs := by simp
          rw [e4]
          exact ih (p ++ [n]) (a ++ [n]) m (by rw [hp]; simp) (by rw [List.length_append, List.length_append]; exact Nat.add_le_add_right ha _) (fun x hx => by rcases List.mem_append.1 hx with h | h; exact hm x h; simp at h; rw [h]; exact hnL) (by omega)
theorem RClean_eq (s : ByteArray) (k : Nat) (hk : 20000 ≤ k) : aquiferref05_Clean.f k s = some (two (cleanP s.data.toList)) := by
  unfold aquiferref05_Clean.f cleanP
  by_cases h : 4096 < s.size
  · rw [if_pos (by omega), if_pos (show 4096 < s.data.toList.length from h)]
    rfl
  · rw [if_neg (by omega), if_neg (show ¬ 4096 < s.data.toList.length from h), RNames_eq s k (by omega) (by omega), Option.bind_some]
    have hc := splitL_len s.data.toList
    have hc2 := count_le s.data.toList
    rw [len_size] at hc2
    exact RClean_loop (splitL s.data.toList) (fun n hn => by have := splitL_mem_len _ n hn; rw [len_size] at this; omega) (by omega) (splitL s.data.toList) [] [] k rfl (Nat.le_refl _) (fun n hn => absurd hn (by simp)) (by omega)

/-! ### Parent, Name, Ups -/
theorem parts_mem (s : List UInt8) : ∀ n ∈ partsP s, n.length ≤ 96 := by
  intro n hn
  unfold partsP at hn
  by_cases h0 : s = []
  · rw [if_pos h0] at hn; simp at hn
  · rw [if_neg h0] at hn
    by_cases h : (kindP s).2 = 0
    · rw [if_pos h] at hn
      have := splitL_mem_len s n hn
      have := (kindP_ok s h).1
      omega
    · rw [if_neg h] at hn; simp at hn
theorem parts_join (s : List UInt8) (m k : Nat) (hk : 400 ≤ k) : aquiferref05_join.f k (((partsP s).map bs).take m) = some (bs (jn [47] ((partsP s).take m))) := by
  rw [← List.map_take]
  have := parts_len s
  exact Rjoin_eq _ (fun n hn => Nat.le_trans (parts_mem s n (List.mem_of_mem_take hn)) (by omega)) (by rw [List.length_take]; omega) k (by rw [List.length_take]; omega)
theorem parent_parts (s : List UInt8) : parentP s = if partsP s = [] then ([], false) else (jn [47] ((partsP s).take ((partsP s).length - 1)), true) := by
  unfold partsP
  by_cases h0 : s = []
  · rw [if_pos h0, if_pos rfl, h0]; rfl
  · rw [if_neg h0]
    by_cases h : (kindP s).2 = 0
    · rw [if_pos h]
      obtain ⟨hN, hs⟩ := names_of s h h0
      obtain ⟨x, y, e⟩ := splitL_ne s
      have hpos : 0 < (splitL s).length := by rw [e]; simp
      rw [if_neg (by rw [e]; simp)]
      have := (hN.parent ((splitL s).length - 1) (by omega)).1
      rw [show (splitL s).length - 1 + 1 = (splitL s).length by omega, List.take_length, hs] at this
      exact this
    · rw [if_neg h, if_pos rfl]
      unfold parentP
      rw [if_neg h0, if_neg h]
theorem RParent_eq (s : ByteArray) (k : Nat) (hk : 400 ≤ k) : aquiferref05_Parent.f k s = some (bs (parentP s.data.toList).1, (parentP s.data.toList).2) := by
  unfold aquiferref05_Parent.f
  have hl := parts_len s.data.toList
  rw [RSplit_eq s k hk, Option.bind_some, List.length_map, parent_parts]
  by_cases h : partsP s.data.toList = []
  · rw [if_pos (by rw [h]; rfl), if_pos h]; rfl
  · have hpos : 0 < (partsP s.data.toList).length := List.length_pos_iff.2 h
    rw [if_neg (by omega), if_neg h, wrap_pred _ (by omega), if_pos (by omega), if_pos (by omega)]
    have e : (((partsP s.data.toList).length : Int) - 1).toNat = (partsP s.data.toList).length - 1 := by omega
    rw [e, parts_join _ _ _ hk, Option.bind_some]
def nameP (s : List UInt8) : List UInt8 := (partsP s).getLastD []
theorem RName_eq (s : ByteArray) (k : Nat) (hk : 400 ≤ k) : aquiferref05_Name.f k s = some (bs (nameP s.data.toList)) := by
  unfold aquiferref05_Name.f nameP
  have hl := parts_len s.data.toList
  rw [RSplit_eq s k hk, Option.bind_some, List.length_map]
  by_cases h : partsP s.data.toList = []
  · rw [if_pos (by rw [h]; rfl), h]; rfl
  · have hpos : 0 < (partsP s.data.toList).length := List.length_pos_iff.2 h
    rw [if_neg (by omega), wrap_pred _ (by omega), if_pos (by omega), if_pos (by omega)]
    have e1 : partsP s.data.toList = (partsP s.data.toList).dropLast ++ [(partsP s.data.toList).getLast h] := (List.dropLast_concat_getLast h).symm
    have e2 : ((partsP s.data.toList).length : Int) - 1 = (((partsP s.data.toList).dropLast.length : Nat) : Int) := by rw [List.length_dropLast]; omega
    have e3 := rd_mid (partsP s.data.toList).dropLast ((partsP s.data.toList).getLast h) []
    rw [← e1] at e3
    rw [e2, e3, List.getLastD_eq_getLast?, List.getLast?_eq_some_getLast h]
    rfl
theorem splitL_last : ∀ (u v : List UInt8), (47 : UInt8) ∉ v → splitL (u ++ 47 :: v) = splitL u ++ [v]
  | u, v, h => by rw [splitL_app, splitL_one v h]
theorem Name_eq (s : ByteArray) (k : Nat) (hk : 400 ≤ k) : path_Name.f k s = some (bs (nameP s.data.toList)) := by
  unfold path_Name.f nameP partsP
  rw [is_eq s 0 k hk, Option.bind_some, isP0]
  by_cases h : (kindP s.data.toList).2 = 0
  · have e : ((kindP s.data.toList).2 == 0) = true := by simp [h]
    have h96 : s.size ≤ 96 := (kindP_ok _ h).1
    rw [e, if_pos rfl, if_pos h]
    unfold strings_LastIndexByte.f Ext.strings_LastIndexByte.f
    have e47 : ((47 : UInt8).toNat : Int) = 47 := rfl
    rw [if_pos (by omega), Option.bind_some]
    rcases last_spec s 47 with ⟨h1, h2⟩ | ⟨u, v, h1, h2, h3⟩
    · rw [e47] at h1
      rw [h1, show wrap64 ((-1 : Int) + 1) = 0 from by rw [wrap64_small (by omega) (by omega)]; rfl, if_pos (by omega), if_pos (by omega)]
      have e0 : s.extract (0 : Int).toNat s.size = s := str_eq (by rw [drop_str]; rfl)
      rw [e0, splitL_one _ h2]
      by_cases hn : s.data.toList = []
      · rw [if_pos hn, ← bs_back s, hn]; rfl
      · rw [if_neg hn]; rfl
    · rw [e47] at h3
      have hl := congrArg List.length h1
      rw [List.length_append, List.length_cons, len_size] at hl
      rw [h3, wrap_succ u.length (by omega), if_pos (by omega), if_pos (by omega)]
      clear h3
      have e5 : s.extract (((u.length + 1 : Nat) : Int)).toNat s.size = bs v := str_eq (by
        rw [show (((u.length + 1 : Nat) : Int)).toNat = u.length + 1 by omega, drop_str, h1, bs_data]
        simp)
      rw [e5, if_neg (by rw [h1]; simp), h1, splitL_last u v h2]
      simp
  · have e : ((kindP s.data.toList).2 == 0) = false := by simp [h]
    rw [e, if_neg (by decide), if_neg h]
    split <;> rfl
theorem ups_parts (s : List UInt8) : upsL s = upsN (partsP s) (partsP s).length := by
  unfold upsL partsP
  by_cases h0 : s = []
  · rw [if_pos h0, if_pos h0]; rfl
  · rw [if_neg h0, if_neg h0]
    by_cases h : (kindP s).2 = 0
    · rw [if_pos h, if_pos h]
    · rw [if_neg h, if_neg h]; rfl
theorem RUps_loop (s : List UInt8) : ∀ (m k : Nat) (a : List (List UInt8)), m ≤ (partsP s).length → m + a.length ≤ 8 → m + 400 < k →
    aquiferref05_Ups.l0 k ((partsP s).map bs) (a.map bs) ((m : Int) - 1) = some ((a ++ upsN (partsP s) m).map bs) := by
  intro m
  induction m with
  | zero =>
    intro k a hm ha hk
    obtain ⟨n, rfl, _⟩ := up1 hk
    rw [aquiferref05_Ups.l0, if_neg (by omega)]
    simp [upsN]
  | succ m ih =>
    intro k a hm ha hk
    obtain ⟨n, rfl, hn⟩ := up1 (show m + 1 + 400 < k by omega)
    have e0 : ((m + 1 : Nat) : Int) - 1 = (m : Int) := by omega
    have e1 : ((m : Nat) : Int).toNat = m := by omega
    rw [e0, aquiferref05_Ups.l0, if_pos (by omega), if_pos (by omega), if_pos (by rw [List.length_map]; omega), e1, parts_join _ _ _ (by omega), Option.bind_some, if_pos (by rw [List.length_map]; omega), wrap_pred m (by omega)]
    have e2 : a.map bs ++ [bs (jn [47] ((partsP s).take m))] = (a ++ [jn [47] ((partsP s).take m)]).map bs := by simp
    rw [e2, ih n _ (by omega) (by rw [List.length_append, List.length_singleton]; omega) (by omega), upsN_succ]
    simp
theorem RUps_eq (s : ByteArray) (k : Nat) (hk : 500 ≤ k) : aquiferref05_Ups.f k s = some ((upsL s.data.toList).map bs) := by
  unfold aquiferref05_Ups.f
  have hl := parts_len s.data.toList
  rw [RSplit_eq s k (by omega), Option.bind_some, List.length_map, wrap_pred _ (by omega), ups_parts]
  exact RUps_loop s.data.toList _ k [] (Nat.le_refl _) (by simpa using hl) (by omega)

/-! ### lists held against each other -/
theorem Same_loop (X : List (List UInt8)) (hX : X.length ≤ 100000) : ∀ (r p : List (List UInt8)) (k : Nat), X = p ++ r → r.length < k → aquiferref05_SameTexts.l0 k (X.map bs) (X.map bs) (p.length : Int) = some true := by
  intro r
  induction r with
  | nil =>
    intro p k hp hk
    obtain ⟨m, rfl, hm⟩ := up1 hk
    rw [List.append_nil] at hp
    rw [aquiferref05_SameTexts.l0, List.length_map, if_neg (by rw [hp]; omega)]
  | cons n r ih =>
    intro p k hp hk
    rw [List.length_cons] at hk
    obtain ⟨m, rfl, hm⟩ := up1 hk
    have hl := congrArg List.length hp
    rw [List.length_append, List.length_cons] at hl
    have e2 : (p ++ [n]).length = p.length + 1 := by simp
    rw [aquiferref05_SameTexts.l0, List.length_map, if_pos (by omega), if_pos (by omega), if_pos (by omega), if_pos rfl, wrap_succ p.length (by omega), ← e2]
    exact ih (p ++ [n]) m (by rw [hp]; simp) (by omega)
theorem Same_eq (X : List (List UInt8)) (hX : X.length ≤ 100000) (k : Nat) (hk : X.length < k) : aquiferref05_SameTexts.f k (X.map bs) (X.map bs) = some true := by
  unfold aquiferref05_SameTexts.f
  rw [if_pos rfl]
  exact Same_loop X hX X [] k rfl hk
end Go.Proofs.YtfnbadfehelleaaDoor.PP
