/- The document's Names and Kind of a path, in plain words (ported from the chapter path). -/
import Derived.Test.YtbhioghpgedkeaaDoorPPa
import Derived.Test.YtbhioghpgedkeaaDoorMKbx3
import Derived.Test.YtbhioghpgedkeaaDoorMKbx4
set_option linter.unusedSimpArgs false
set_option linter.unusedVariables false
namespace Go.Proofs.YtbhioghpgedkeaaDoor.PP
open Go.RowKit Go.Proofs.YtbhioghpgedkeaaDoor.MKb Go.Proofs.YtbhioghpgedkeaaDoorW.PrintWords Go.Proofs.YtbhioghpgedkeaaDoorW.PrintLast Go.Proofs.YtbhioghpgedkeaaDoorW.PrintMore


def glue (cur : List UInt8) : List (List UInt8) → List (List UInt8)
  | [] => [cur]
  | h :: t => (cur ++ h) :: t
theorem byte1 (s : ByteArray) (i : Nat) (h : i < s.size) (c : UInt8) (r : List UInt8) (hd : s.data.toList.drop i = c :: r) : s.extract i (i + 1) = bs [c] := by
  apply str_eq
  rw [ext_list, hd, bs_data]
  rfl
theorem RNames_loop (s : ByteArray) (hs : s.size ≤ 100000) : ∀ (d k i : Nat) (A : List (List UInt8)) (cur : List UInt8), i + d = s.size → d < k → A.length ≤ i → cur.length ≤ i →
    aquiferref05_Names.l0 k s ((A ++ [cur]).map bs) (i : Int) = some ((A ++ glue cur (splitL (s.data.toList.drop i))).map bs) := by
  intro d
  induction d with
  | zero =>
    intro k i A cur hi hk hA hc
    obtain ⟨m, rfl, _⟩ := up1 hk
    rw [aquiferref05_Names.l0, if_neg (by omega), List.drop_eq_nil_of_le (by rw [len_size]; omega)]
    simp [splitL, glue]
  | succ d ih =>
    intro k i A cur hi hk hA hc
    obtain ⟨m, rfl, hm⟩ := up1 hk
    obtain ⟨c, h1, h2⟩ := bt_drop s i (by omega)
    rw [aquiferref05_Names.l0, if_pos (by omega), if_pos (by omega), h2, h1, splitL]
    have hlen : ((A ++ [cur]).map bs).length = A.length + 1 := by simp
    by_cases h47 : c = 47
    · rw [if_pos (by rw [h47]; rfl), if_pos (by rw [hlen]; omega), if_pos h47, wrap_succ i (by omega)]
      have e : (A ++ [cur]).map bs ++ [(⟨#[]⟩ : ByteArray)] = ((A ++ [cur]) ++ [[]]).map bs := by simp; rfl
      rw [e, ih m (i + 1) (A ++ [cur]) [] (by omega) (by omega) (by rw [List.length_append, List.length_cons, List.length_nil]; omega) (by simp)]
      obtain ⟨h, t, et⟩ := splitL_ne (s.data.toList.drop (i + 1))
      rw [et]
      simp [glue]
    · have hne : ¬ ((c.toNat : Int) = 47) := fun e => h47 (UInt8.toNat_inj.1 (by show c.toNat = 47; omega))
      rw [if_neg hne, if_neg h47, hlen]
      have hw : wrap64 (((A.length + 1 : Nat) : Int) - 1) = (A.length : Int) := wrap_back A.length (by omega)
      rw [hw, if_pos (by omega), if_pos (by omega), wrap_succ i (by omega), if_pos (by omega), if_pos (by omega)]
      have t1 : (A.length : Int).toNat = A.length := by omega
      have t2 : (i : Int).toNat = i := by omega
      have t3 : ((i + 1 : Nat) : Int).toNat = i + 1 := by omega
      have er : rdOf ByteArray.empty ((A ++ [cur]).map bs) (A.length : Int) = bs cur := rd_mid A cur []
      rw [t1, t2, t3, er, byte1 s i (by omega) c _ h1]
      have z1 : (bs cur).size = cur.length := rfl
      have z2 : (bs [c]).size = 1 := rfl
      rw [if_pos (by rw [z1, z2]; omega)]
      have ea : bs cur ++ bs [c] = bs (cur ++ [c]) := str_eq (by rw [ByteArray.data_append, Array.toList_append]; rfl)
      have es : ((A ++ [cur]).map bs).set A.length (bs cur ++ bs [c]) = (A ++ [cur ++ [c]]).map bs := by
        rw [ea, List.map_append, List.map_append]
        have : A.length = (A.map bs).length := by simp
        rw [this, List.set_append_right _ _ (Nat.le_refl _), Nat.sub_self]
        rfl
      rw [es, ih m (i + 1) A (cur ++ [c]) (by omega) (by omega) (by omega) (by rw [List.length_append, List.length_cons, List.length_nil]; omega)]
      obtain ⟨h, t, et⟩ := splitL_ne (s.data.toList.drop (i + 1))
      rw [et]
      simp [glue, cons1]
theorem RNames_eq (s : ByteArray) (k : Nat) (hs : s.size ≤ 100000) (hk : s.size < k) : aquiferref05_Names.f k s = some ((splitL s.data.toList).map bs) := by
  have := RNames_loop s hs s.size k 0 [] [] (by omega) hk (by simp) (by simp)
  unfold aquiferref05_Names.f
  obtain ⟨h, t, et⟩ := splitL_ne s.data.toList
  rw [List.drop_zero, et] at this
  rw [et]
  exact this

theorem sign_eq : ∀ c : UInt8, aquiferref05_sign.f (c.toNat : Int) = some (signL.contains c) := by
  intro c
  have h : ∀ n : Fin 256, aquiferref05_sign.f ((n.val : Nat) : Int) = some (signL.contains (UInt8.ofNat n.val)) := by decide +kernel
  have := h ⟨c.toNat, c.toNat_lt⟩
  rw [this]
  congr 2
  exact UInt8.ofNat_toNat
def okS (n : Nat) : Nat → List UInt8 → Bool
  | _, [] => true
  | i, c :: r => if c = 46 then (decide (i ≠ 0) && decide (i + 1 ≠ n) && okS n (i + 1) r) else (signL.contains c && okS n (i + 1) r)
def nameEnd (n p : Nat) : Int := if n = 0 then 0 else if 24 < n then 0 else if 1 < p then 0 else 1 + (p : Int)
theorem name_loop (s : ByteArray) (hs : s.size ≤ 100000) : ∀ (d k i p : Nat), i + d = s.size → d < k → p ≤ i →
    aquiferref05_name.l0 k s (p : Int) (i : Int) = some (if okS s.size i (s.data.toList.drop i) then nameEnd s.size (p + (s.data.toList.drop i).count 46) else 0) := by
  intro d
  induction d with
  | zero =>
    intro k i p hi hk hp
    obtain ⟨m, rfl, _⟩ := up1 hk
    rw [aquiferref05_name.l0, if_neg (by omega), List.drop_eq_nil_of_le (by rw [len_size]; omega), okS]
    show _ = some (nameEnd s.size (p + 0))
    unfold nameEnd
    rw [Nat.add_zero]
    by_cases h0 : s.size = 0
    · rw [if_pos (by omega), if_pos h0]
    · rw [if_neg (by omega), if_neg h0]
      by_cases h24 : 24 < s.size
      · rw [if_pos (by omega), if_pos h24]
      · rw [if_neg (by omega), if_neg h24]
        by_cases h1 : 1 < p
        · rw [if_pos (by omega), if_pos h1]
        · rw [if_neg (by omega), if_neg h1, wrap64_small (by omega) (by omega)]
  | succ d ih =>
    intro k i p hi hk hp
    obtain ⟨m, rfl, hm⟩ := up1 hk
    obtain ⟨c, h1, h2⟩ := bt_drop s i (by omega)
    rw [aquiferref05_name.l0, if_pos (by omega), if_pos (by omega), h2, h1, okS]
    by_cases h46 : c = 46
    · rw [if_pos (by rw [h46]; rfl), if_pos h46]
      by_cases h0 : i = 0
      · rw [if_pos (by omega)]
        simp [h0]
      · rw [if_neg (by omega), wrap_pred s.size (by omega)]
        by_cases hl : i + 1 = s.size
        · rw [if_pos (by omega)]
          simp [hl]
        · rw [if_neg (by omega), wrap_succ i (by omega), wrap_succ p (by omega), ih m (i + 1) (p + 1) (by omega) (by omega) (by omega)]
          have e1 : decide (i ≠ 0) = true := by simp [h0]
          have e2 : decide (i + 1 ≠ s.size) = true := by simp [hl]
          rw [e1, e2, Bool.true_and, Bool.true_and, h46, List.count_cons_self]
          rw [show p + 1 + (s.data.toList.drop (i + 1)).count 46 = p + ((s.data.toList.drop (i + 1)).count 46 + 1) by omega]
    · have hne : ¬ ((c.toNat : Int) = 46) := fun e => h46 (UInt8.toNat_inj.1 (by show c.toNat = 46; omega))
      rw [if_neg hne, if_neg h46, sign_eq, Option.bind_some, List.count_cons_of_ne h46]
      cases hc : signL.contains c
      · rw [if_neg (by decide), Bool.false_and]
        rfl
      · rw [if_pos rfl, Bool.true_and, wrap_succ i (by omega), ih m (i + 1) p (by omega) (by omega) (by omega)]
theorem name_f (l : List UInt8) (k : Nat) (hl : l.length ≤ 100000) (hk : l.length < k) : aquiferref05_name.f k (bs l) = some (if okS l.length 0 l then nameEnd l.length (l.count 46) else 0) := by
  have := name_loop (bs l) hl l.length k 0 0 (by show 0 + l.length = l.length; omega) hk (Nat.le_refl _)
  rw [bs_data, List.drop_zero, Nat.zero_add] at this
  exact this
theorem okS_plain (n : Nat) : ∀ (r : List UInt8) (i : Nat), (46 : UInt8) ∉ r → okS n i r = r.all (signL.contains ·)
  | [], _, _ => rfl
  | c :: r, i, h => by
    have hc : ¬ c = 46 := fun e => h (by simp [e])
    rw [okS, if_neg hc, okS_plain n r (i + 1) (fun e => h (by simp [e])), List.all_cons]
theorem okS_cut (n : Nat) : ∀ (u v : List UInt8) (i : Nat), (46 : UInt8) ∉ u → okS n i (u ++ 46 :: v) = (u.all (signL.contains ·) && (decide (i + u.length ≠ 0) && decide (i + u.length + 1 ≠ n) && okS n (i + u.length + 1) v))
  | [], v, i, _ => by rw [List.nil_append, okS, if_pos rfl]; rfl
  | c :: u, v, i, h => by
    have hc : ¬ c = 46 := fun e => h (by simp [e])
    rw [List.cons_append, okS, if_neg hc, okS_cut n u v (i + 1) (fun e => h (by simp [e])), List.all_cons, List.length_cons]
    rw [show i + 1 + u.length = i + (u.length + 1) by omega]
    simp only [Bool.and_assoc]
theorem name_eq (l : List UInt8) (k : Nat) (hl : l.length ≤ 100000) (hk : l.length < k) : aquiferref05_name.f k (bs l) = some (kindN l) := by
  rw [name_f l k hl hk]
  congr 1
  unfold kindN nameEnd
  rcases index_spec l 46 with ⟨_, h2⟩ | ⟨u, v, h1, h2, _⟩
  · rw [if_neg h2, okS_plain _ _ _ h2, List.count_eq_zero.2 h2]
    unfold plainB
    cases l with
    | nil => rfl
    | cons c r =>
      rw [if_neg (by simp : ¬ (c :: r).length = 0)]
      by_cases h24 : 24 < (c :: r).length
      · rw [if_pos h24, if_pos h24]; split <;> rfl
      · rw [if_neg h24, if_neg h24]
        cases (c :: r).all (signL.contains ·) <;> rfl
  · have hm : (46 : UInt8) ∈ l := by rw [h1]; simp
    obtain ⟨g1, g2⟩ := tw u v h2
    rw [← h1] at g1 g2
    rw [if_pos hm, g1, g2, List.tail_cons]
    have hll := congrArg List.length h1
    rw [List.length_append, List.length_cons] at hll
    have hc : l.count 46 = v.count 46 + 1 := by rw [h1, List.count_append, List.count_cons_self, List.count_eq_zero.2 h2]; omega
    have ho : okS l.length 0 l = (u.all (signL.contains ·) && (decide (u.length ≠ 0) && decide (u.length + 1 ≠ l.length) && okS l.length (u.length + 1) v)) := by
      have := okS_cut l.length u v 0 h2
      rw [← h1, Nat.zero_add] at this
      exact this
    rw [ho, hc, if_neg (by omega : ¬ l.length = 0)]
    by_cases h24 : 24 < l.length
    · rw [if_pos h24, if_pos h24]; split <;> rfl
    · rw [if_neg h24, if_neg h24]
      have pu : plainB u = (u.all (signL.contains ·) && decide (u.length ≠ 0)) := by
        unfold plainB
        cases u <;> simp
      by_cases hv : (46 : UInt8) ∈ v
      · have : 1 ≤ v.count 46 := List.count_pos_iff.2 hv
        rw [if_pos (show 1 < v.count 46 + 1 by omega)]
        have pv : plainB v = false := by
          unfold plainB
          have : v.all (signL.contains ·) = false := by
            rw [List.all_eq_false]
            exact ⟨46, hv, by decide⟩
          rw [this, Bool.false_and]
        rw [pv, Bool.and_false]
        split <;> rfl
      · rw [okS_plain _ _ _ hv, List.count_eq_zero.2 hv, if_neg (show ¬ 1 < 0 + 1 by omega)]
        have pv : plainB v = (v.all (signL.contains ·) && decide (u.length + 1 ≠ l.length)) := by
          unfold plainB
          cases v with
          | nil =>
            have : u.length + 1 = l.length := by rw [hll]; rfl
            simp [this]
          | cons c v =>
            have : u.length + 1 ≠ l.length := by rw [hll, List.length_cons]; omega
            simp [this]
        rw [pu, pv]
        cases u.all (signL.contains ·) <;> cases decide (u.length ≠ 0) <;> cases decide (u.length + 1 ≠ l.length) <;> cases v.all (signL.contains ·) <;> rfl

theorem RKind_loop (L : List (List UInt8)) (M : Nat) (hM : M ≤ 100000) (hL : ∀ n ∈ L, n.length ≤ M) (hlen : L.length ≤ 100000) : ∀ (r p : List (List UInt8)) (k : Nat) (t : Int), L = p ++ r → (∀ q n, p = q ++ [n] → t = kindN n) → (p = [] → r ≠ []) → r.length + M + 3 < k →
    aquiferref05_Kind.l0 k (L.map bs) (p.length : Int) = some (match walkK r t with | none => (0, 18) | some t => if 8 < L.length then (0, 7) else (t, 0)) := by
  intro r
  induction r with
  | nil =>
    intro p k t hp ht hne hk
    obtain ⟨m, rfl, hm⟩ := up1 hk
    rw [List.append_nil] at hp
    have hpn : p ≠ [] := fun e => hne e rfl
    obtain ⟨q, n, e⟩ : ∃ q n, p = q ++ [n] := ⟨p.dropLast, p.getLast hpn, (List.dropLast_concat_getLast hpn).symm⟩
    have hl : L.length = q.length + 1 := by rw [hp, e]; simp
    rw [aquiferref05_Kind.l0, List.length_map, if_neg (by rw [hp]; omega), walkK]
    by_cases h8 : 8 < L.length
    · rw [if_pos (by omega)]; simp only [if_pos h8]
    · rw [if_neg (by omega)]
      simp only [if_neg h8]
      rw [hl, wrap_back q.length (by omega), if_pos (by omega), if_pos (by omega)]
      have e1 : rdOf ByteArray.empty (L.map bs) (q.length : Int) = bs n := by rw [hp, e]; exact rd_mid q n []
      have hn : n.length ≤ M := hL n (by rw [hp, e]; simp)
      rw [e1, name_eq n m (by omega) (by omega), Option.bind_some, ht q n e]
  | cons n r ih =>
    intro p k t hp ht hne hk
    rw [List.length_cons] at hk
    obtain ⟨m, rfl, hm⟩ := up1 hk
    have hl := congrArg List.length hp
    rw [List.length_append, List.length_cons] at hl
    have hn : n.length ≤ M := hL n (by rw [hp]; simp)
    rw [aquiferref05_Kind.l0, List.length_map, if_pos (by omega), if_pos (by omega)]
    have e1 : rdOf ByteArray.empty (L.map bs) (p.length : Int) = bs n := by rw [hp]; exact rd_mid p n r
    rw [e1, name_eq n m (by omega) (by omega), Option.bind_some, Option.bind_some, walkK]
    by_cases h0 : kindN n = 0
    · rw [if_pos h0, if_pos h0]
    · rw [if_neg h0, if_neg h0]
      have e2 : (p ++ [n]).length = p.length + 1 := by simp
      have hrec := ih (p ++ [n]) m (kindN n) (by rw [hp]; simp) (fun q x e => by
        obtain ⟨_, h⟩ := List.append_inj' e rfl
        simp at h; rw [h]) (fun e => absurd e (by simp)) (by omega)
      rw [e2] at hrec
      rw [wrap_succ p.length (by omega)]
      by_cases h2 : kindN n = 2
      · rw [if_pos h2]
        by_cases hr : r = []
        · rw [if_neg (by rw [hr, List.length_nil] at hl; omega), hrec, if_neg (fun h => h.2 hr)]
        · have := List.length_pos_iff.2 hr
          rw [if_pos (by omega), if_pos ⟨h2, hr⟩]
      · rw [if_neg h2, hrec, if_neg (fun h => h2 h.1)]
theorem RKind_eq (s : ByteArray) (k : Nat) (hk : 400 ≤ k) : aquiferref05_Kind.f k s = some (kindP s.data.toList) := by
  unfold aquiferref05_Kind.f kindP
  by_cases h96 : 96 < s.size
  · rw [if_pos (by omega), if_pos (show 96 < s.data.toList.length from h96)]
  · rw [if_neg (by omega), if_neg (show ¬ 96 < s.data.toList.length from h96)]
    by_cases hn : s.data.toList = []
    · rw [if_pos ((toList_nil s).2 hn), if_pos hn]
    · rw [if_neg (fun h => hn ((toList_nil s).1 h)), if_neg hn, RNames_eq s k (by omega) (by omega), Option.bind_some]
      have hc := splitL_len s.data.toList
      have hc2 := count_le s.data.toList
      rw [len_size] at hc2
      obtain ⟨x, y, e⟩ := splitL_ne s.data.toList
      exact RKind_loop (splitL s.data.toList) 96 (by omega) (fun n h => by have := splitL_mem_len _ n h; rw [len_size] at this; omega) (by omega) (splitL s.data.toList) [] k 0 rfl (fun q n h => absurd h (by simp)) (fun _ => by rw [e]; simp) (by omega)
theorem Join_eq (L : List (List UInt8)) (s : ByteArray) (h : (jn s.data.toList L).length ≤ 140737488355328) (h2 : L.length ≤ 140737488355328) : strings_Join.f (L.map bs) s = some (bs (jn s.data.toList L)) := by
  unfold strings_Join.f Ext.strings_Join.f Ext.joinB
  rw [back_map, jn_eq, if_pos h, if_pos (by rw [List.length_map]; exact h2)]
  rfl

theorem jn_snoc (sep x : List UInt8) : ∀ (L : List (List UInt8)), L ≠ [] → jn sep (L ++ [x]) = jn sep L ++ sep ++ x
  | [], h => absurd rfl h
  | [y], _ => rfl
  | y :: z :: r, _ => by
    have ih := jn_snoc sep x (z :: r) (by simp)
    rw [List.cons_append, List.cons_append, jn, jn, ← List.cons_append, ih]
    simp
end Go.Proofs.YtbhioghpgedkeaaDoor.PP
