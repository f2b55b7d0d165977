/- Key and Path on both sides, in plain words. -/
import Derived.Test.YtbhioghpgedkeaaDoorKeysR
import Derived.Test.YtbhioghpgedkeaaDoorExtK
import Derived.Test.YtbhioghpgedkeaaDoorMKbx4
import Derived.Test.YtbhioghpgedkeaaDoorMKbx5
import Derived.Test.YtbhioghpgedkeaaDoorMKbx6
set_option linter.unusedSimpArgs false
set_option linter.unusedVariables false
namespace Go.Proofs.YtbhioghpgedkeaaDoor.PP
open Go.RowKit Go.Proofs.YtbhioghpgedkeaaDoor.MIt Go.Proofs.YtbhioghpgedkeaaDoor.MKb Go.Proofs.YtbhioghpgedkeaaDoorW.PrintWords Go.Proofs.YtbhioghpgedkeaaDoorW.PrintLast Go.Proofs.YtbhioghpgedkeaaDoorW.PrintMore

theorem rd_mid56 (p : List S56) (x : S56) (r : List S56) : rd_T56 (p ++ x :: r) (p.length : Int) = x := by
  unfold rd_T56
  simp
/-! ### Key -/
theorem RSplit_eq (s : ByteArray) (k : Nat) (hk : 400 ≤ k) : aquiferref05_Split.f k s = some ((namesP s.data.toList).map bs) := by
  unfold aquiferref05_Split.f aquiferref05_Is.f namesP
  rw [RKind_eq s k hk, Option.bind_some, Option.bind_some]
  by_cases h : (kindP s.data.toList).2 = 0
  · have e : ((kindP s.data.toList).2 == 0) = true := by simp [h]
    have h96 : s.size ≤ 96 := (kindP_ok _ h).1
    rw [e, if_pos rfl]
    by_cases hn : s.data.toList = []
    · rw [if_pos ((toList_nil s).2 hn), if_pos hn]; rfl
    · rw [if_neg (fun h => hn ((toList_nil s).1 h)), if_neg hn, if_pos h, RNames_eq s k (by omega) (by omega)]
      rfl
  · have e : ((kindP s.data.toList).2 == 0) = false := by simp [h]
    rw [e, if_neg (by decide)]
    by_cases hn : s.data.toList = []
    · rw [if_pos hn]; rfl
    · rw [if_neg hn, if_neg h]; rfl
theorem RKey_loop (L : List (List UInt8)) (hL : L.length ≤ 8) : ∀ (r p : List (List UInt8)) (k : Nat) (a : List S56), L = p ++ r → a.length = p.length → r.length < k →
    aquiferref17_Key.l0 k (L.map bs) a (p.length : Int) = some (a ++ r.map partOf, 0)
  | [], p, k, a, h, ha, hk => by
    obtain ⟨m, rfl, _⟩ := up1 hk
    rw [aquiferref17_Key.l0, h]
    rw [if_neg (by simp)]
    simp
  | n :: r, p, k, a, h, ha, hk => by
    obtain ⟨m, rfl, hm⟩ := up1 hk
    have hl : L.length = p.length + (r.length + 1) := by rw [h]; simp
    rw [aquiferref17_Key.l0, if_pos (by rw [List.length_map]; omega), if_pos (by omega), if_pos (by omega), h, rd_mid, ← h, wrap_succ _ (by omega)]
    have := RKey_loop L hL r (p ++ [n]) m (a ++ [partOf n]) (by simp [h]) (by simp [ha]) (by simp only [List.length_cons] at hm; omega)
    rw [List.length_append] at this
    rw [show (((p.length + 1 : Nat)) : Int) = ((p.length + [n].length : Nat) : Int) from rfl]
    refine this.trans ?_
    simp
theorem RKey_eq (s : ByteArray) (k : Nat) (hk : 400 ≤ k) : aquiferref17_Key.f k s = some (keyP s.data.toList) := by
  unfold aquiferref17_Key.f keyP
  rw [RKind_eq s k hk, Option.bind_some]
  by_cases h : (kindP s.data.toList).2 = 0
  · rw [if_pos h, if_pos h, RSplit_eq s k hk, Option.bind_some]
    have := namesP_len s.data.toList
    exact (RKey_loop _ this (namesP s.data.toList) [] k [] rfl rfl (by omega)).trans (by simp)
  · rw [if_neg h, if_neg h]
/-! ### Path -/
def goodPart (x : S56) : Bool := x.f0 == 2 && x.f1 == 0 && !x.f2.data.toList.isEmpty
def namesOf (l : List S56) : List (List UInt8) := l.map (·.f2.data.toList)
def pathP (l : List S56) : List UInt8 × Int :=
  if l.all goodPart then (if (kindP (jn [47] (namesOf l))).2 = 0 ∧ (namesP (jn [47] (namesOf l))).length = l.length then (jn [47] (namesOf l), 0) else ([], 5)) else ([], 5)
def two (x : List UInt8 × Int) : ByteArray × Int := (bs x.1, x.2)
theorem namesOf_bs (l : List S56) : (namesOf l).map bs = l.map (·.f2) := by
  unfold namesOf
  rw [List.map_map]
  rfl
theorem jn_namesOf_len (l : List S56) (h : l.length ≤ 12) (hs : ∀ e ∈ l, e.f2.size ≤ 60) : (jn [47] (namesOf l)).length ≤ 800 := by
  have := jn_len [47] 60 (namesOf l) (fun n hn => by
    obtain ⟨e, he, rfl⟩ := List.mem_map.1 hn
    exact hs e he)
  have e2 : (namesOf l).length = l.length := List.length_map _
  rw [e2] at this
  have h3 : l.length * (60 + [(47 : UInt8)].length) ≤ 12 * 61 := Nat.mul_le_mul h (Nat.le_refl _)
  omega
theorem Path_loop (l : List S56) (hl : l.length ≤ 12) (hs : ∀ e ∈ l, e.f2.size ≤ 60) : ∀ (r p : List S56) (k : Nat), l = p ++ r → p.all goodPart = true → r.length < k →
    inode_Path.l0 k (p.map (·.f2)) l (l.length : Int) (p.length : Int) = some (two (pathP l))
  | [], p, k, h, hp, hk => by
    obtain ⟨m, rfl, _⟩ := up1 hk
    have h' : l = p := by rw [h]; simp
    subst h'
    have hj := jn_namesOf_len l hl hs
    rw [inode_Path.l0, if_neg (by omega), ← namesOf_bs, Join_eq (namesOf l) ⟨#[47]⟩ (by show (jn [47] _).length ≤ _; omega) (by unfold namesOf; rw [List.length_map]; omega), Option.bind_some]
    unfold MKb.path_Kind.f Ext.path_Kind.f MKb.path_Split.f Ext.path_Split.f pathP
    rw [Option.bind_some, bs_data, if_pos hp]
    show (if (kindP (jn [47] (namesOf l))).2 = 0 then _ else _) = _
    by_cases h0 : (kindP (jn [47] (namesOf l))).2 = 0
    · rw [if_pos h0, Option.bind_some]
      show (if ((List.map bs (namesP (jn [47] (namesOf l)))).length : Int) = _ then _ else _) = _
      rw [List.length_map, List.length_map, show (namesOf l).length = l.length from List.length_map _]
      by_cases h1 : (namesP (jn [47] (namesOf l))).length = l.length
      · rw [if_pos (by omega), if_pos ⟨h0, h1⟩]; rfl
      · rw [if_neg (by omega), if_neg (fun h => h1 h.2)]; rfl
    · rw [if_neg h0, if_neg (fun h => h0 h.1)]; rfl
  | x :: r, p, k, h, hp, hk => by
    obtain ⟨m, rfl, hm⟩ := up1 hk
    have hl2 : l.length = p.length + (r.length + 1) := by rw [h]; simp
    have hbad : goodPart x = false → pathP l = ([], 5) := fun hx => by
      unfold pathP
      rw [if_neg]
      rw [h, List.all_append, List.all_cons, hx]
      simp
    rw [inode_Path.l0, if_pos (by omega), if_pos (by omega), if_pos (by omega), h, rd_mid56, ← h]
    by_cases h0 : x.f0 = 2
    · rw [if_pos h0]
      by_cases h1 : x.f1 = 0
      · rw [if_pos h1]
        by_cases h2 : x.f2.data.toList = []
        · rw [if_pos ((toList_nil _).2 h2), hbad (by unfold goodPart; rw [h2]; simp)]; rfl
        · rw [if_neg (fun h => h2 ((toList_nil _).1 h)), if_pos (by rw [List.length_map]; omega), wrap_succ _ (by omega)]
          have hg : goodPart x = true := by
            unfold goodPart
            have : x.f2.data.toList.isEmpty = false := by simpa using h2
            rw [h0, h1, this]; rfl
          have := Path_loop l hl hs r (p ++ [x]) m (by simp [h]) (by rw [List.all_append, hp]; simp [hg]) (by simp only [List.length_cons] at hm; omega)
          rw [List.length_append, List.map_append] at this
          exact this
      · rw [if_neg h1, hbad (by unfold goodPart; simp [h1])]; rfl
    · rw [if_neg h0, hbad (by unfold goodPart; simp [h0])]; rfl
theorem Path_eq (l : List S56) (hl : l.length ≤ 12) (hs : ∀ e ∈ l, e.f2.size ≤ 60) (k : Nat) (hk : 400 ≤ k) : inode_Path.f k l = some (two (pathP l)) :=
  Path_loop l hl hs l [] k rfl rfl (by omega)
/-! ### the document's Path -/
def alike (x y : S56) : Bool := !((!(x.f0 == y.f0)) || ((!(x.f1 == y.f1)) || (!(x.f2.toList == y.f2.toList))))
theorem S56_ext {x y : S56} (h0 : x.f0 = y.f0) (h1 : x.f1 = y.f1) (h2 : x.f2 = y.f2) : x = y := by
  cases x; cases y
  simp only at h0 h1 h2
  rw [h0, h1, h2]
theorem alike_iff (x y : S56) : alike x y = true ↔ x = y := by
  unfold alike
  constructor
  · intro h
    simp only [Bool.not_or, Bool.not_not, Bool.and_eq_true, beq_iff_eq] at h
    refine S56_ext h.1 h.2.1 (str_eq ?_)
    have := h.2.2
    rwa [ByteArray.toList_eq, ByteArray.toList_eq] at this
  · rintro rfl
    simp
instance : DecidableEq S56 := fun x y => decidable_of_iff (alike x y = true) (alike_iff x y)
def rpathP (l : List S56) : List UInt8 × Int :=
  if (kindP (jn [47] (namesOf l))).2 = 0 ∧ (namesP (jn [47] (namesOf l))).map partOf = l then (jn [47] (namesOf l), 0) else ([], 5)
theorem RPath_l1 (l K : List S56) (j : List UInt8) (hK : K.length = l.length) (hl : l.length ≤ 1000) : ∀ (r q p : List S56) (k : Nat), K = p ++ r → l = p ++ q → r.length < k →
    aquiferref17_Path.l1 k l (bs j) K (p.length : Int) = some (if r = q then (bs j, 0) else (bs [], 5))
  | [], q, p, k, h, h', hk => by
    obtain ⟨m, rfl, _⟩ := up1 hk
    have : q = [] := by
      rw [h, h'] at hK
      simp at hK
      exact hK.symm ▸ (by cases q with | nil => rfl | cons a b => simp at hK)
    rw [aquiferref17_Path.l1, if_neg (by rw [h]; simp), this, if_pos rfl]
  | x :: r, [], p, k, h, h', hk => by
    rw [h, h'] at hK
    simp at hK
  | x :: r, y :: q, p, k, h, h', hk => by
    obtain ⟨m, rfl, hm⟩ := up1 hk
    have hl2 : K.length = p.length + (r.length + 1) := by rw [h]; simp
    rw [aquiferref17_Path.l1, if_pos (by omega), if_pos (by omega), if_pos (by omega)]
    have e1 : rd_T56 K (p.length : Int) = x := by rw [h]; exact rd_mid56 p x r
    have e2 : rd_T56 l (p.length : Int) = y := by rw [h']; exact rd_mid56 p y q
    rw [e1, e2]
    by_cases hxy : x = y
    · have ha := (alike_iff x y).2 hxy
      unfold alike at ha
      rw [Bool.not_eq_true'] at ha
      rw [ha, if_neg (by decide), wrap_succ _ (by omega)]
      have := RPath_l1 l K j hK hl r q (p ++ [x]) m (by simp [h]) (by simp [h', hxy]) (by simp only [List.length_cons] at hm; omega)
      rw [List.length_append] at this
      refine this.trans ?_
      rw [hxy]
      by_cases hr : r = q
      · rw [if_pos hr, if_pos (by rw [hr])]
      · rw [if_neg hr, if_neg (fun e => hr (List.cons.inj e).2)]
    · have ha : alike x y = false := by
        cases hh : alike x y
        · rfl
        · exact absurd ((alike_iff x y).1 hh) hxy
      unfold alike at ha
      rw [Bool.not_eq_false'] at ha
      rw [ha, if_pos rfl, if_neg (fun e => hxy (List.cons.inj e).1)]
      rfl
theorem RPath_end (l : List S56) (hl : l.length ≤ 12) (k : Nat) (hk : 400 ≤ k) :
    ((aquiferref17_Key.f (k + 1) (bs (jn [47] (namesOf l)))).bind fun bt147 => (if bt147.2 = 0 then (aquiferref17_Path.j1 (k + 1) l (bs (jn [47] (namesOf l))) bt147.1 ((bt147.1.length : Int) != (l.length : Int))) else (aquiferref17_Path.j1 (k + 1) l (bs (jn [47] (namesOf l))) bt147.1 true))) = some (two (rpathP l)) := by
  rw [RKey_eq _ _ (by omega), Option.bind_some, bs_data]
  unfold keyP rpathP
  by_cases h0 : (kindP (jn [47] (namesOf l))).2 = 0
  · rw [if_pos h0]
    show (if (0 : Int) = 0 then _ else _) = _
    rw [if_pos rfl]
    show aquiferref17_Path.j1 (k + 1) l _ ((namesP (jn [47] (namesOf l))).map partOf) ((((namesP (jn [47] (namesOf l))).map partOf).length : Int) != _) = _
    rw [aquiferref17_Path.j1]
    by_cases h1 : ((namesP (jn [47] (namesOf l))).map partOf).length = l.length
    · have e : ((((namesP (jn [47] (namesOf l))).map partOf).length : Int) != (l.length : Int)) = false := by rw [h1]; simp
      rw [e, if_neg (by decide)]
      have := RPath_l1 l ((namesP (jn [47] (namesOf l))).map partOf) (jn [47] (namesOf l)) h1 (by omega) ((namesP (jn [47] (namesOf l))).map partOf) l [] k rfl rfl (by omega)
      refine this.trans ?_
      by_cases h2 : (namesP (jn [47] (namesOf l))).map partOf = l
      · rw [if_pos h2, if_pos ⟨h0, h2⟩]; rfl
      · rw [if_neg h2, if_neg (fun h => h2 h.2)]; rfl
    · have e : ((((namesP (jn [47] (namesOf l))).map partOf).length : Int) != (l.length : Int)) = true := by
        have : ¬ (((namesP (jn [47] (namesOf l))).map partOf).length : Int) = (l.length : Int) := by omega
        simpa using this
      rw [e, if_pos rfl, if_neg (fun h : _ ∧ _ => h1 (by rw [h.2]))]
      rfl
  · rw [if_neg h0, if_neg (fun h : _ ∧ _ => h0 h.1)]
    show (if (kindP (jn [47] (namesOf l))).2 = 0 then _ else _) = _
    rw [if_neg h0, aquiferref17_Path.j1, if_pos rfl]
    rfl
theorem append_bs (a b : List UInt8) : bs a ++ bs b = bs (a ++ b) := str_eq (by simp [bs])
theorem RPath_loop (l : List S56) (hl : l.length ≤ 12) (hs : ∀ e ∈ l, e.f2.size ≤ 60) : ∀ (r p : List S56) (k : Nat), l = p ++ r → r.length + 402 ≤ k →
    aquiferref17_Path.l0 k l (bs (jn [47] (namesOf p))) (p.length : Int) = some (two (rpathP l))
  | [], p, k, h, hk => by
    obtain ⟨m, rfl⟩ : ∃ m, k = m + 1 + 1 := ⟨k - 2, by omega⟩
    have h' : l = p := by rw [h]; simp
    subst h'
    rw [aquiferref17_Path.l0, if_neg (by omega)]
    exact RPath_end l hl m (by simp only [List.length_nil] at hk; omega)
  | x :: r, p, k, h, hk => by
    obtain ⟨m, rfl⟩ : ∃ m, k = m + 1 := ⟨k - 1, by omega⟩
    have hl2 : l.length = p.length + (r.length + 1) := by rw [h]; simp
    have ih := RPath_loop l hl hs r (p ++ [x]) m (by simp [h]) (by simp only [List.length_cons] at hk; omega)
    have hx : x.f2.size ≤ 60 := hs x (by rw [h]; simp)
    have hp := jn_namesOf_len p (by omega) (fun e he => hs e (by rw [h]; simp [he]))
    have hb : (bs (jn [47] (namesOf p))).size ≤ 800 := hp
    rw [List.length_append] at ih
    rw [aquiferref17_Path.l0, if_pos (by omega)]
    have e1 : rd_T56 l (p.length : Int) = x := by rw [h]; exact rd_mid56 p x r
    rw [e1]
    by_cases h0 : p = []
    · subst h0
      rw [if_neg (by simp), if_pos (by simp), if_pos (by omega)]
      have e2 : bs (jn [47] (namesOf ([] : List S56))) ++ x.f2 = bs (jn [47] (namesOf ([] ++ [x]))) := by
        show bs [] ++ bs x.f2.data.toList = _
        rw [append_bs]; rfl
      rw [e2, wrap_succ _ (by simp)]
      exact ih
    · have hpl : 0 < p.length := List.length_pos_iff.2 h0
      have e3 : (bs (jn [47] (namesOf p)) ++ (⟨#[47]⟩ : ByteArray)) ++ x.f2 = bs (jn [47] (namesOf (p ++ [x]))) := by
        show (bs _ ++ bs [47]) ++ bs x.f2.data.toList = _
        rw [append_bs, append_bs]
        unfold namesOf
        rw [List.map_append, List.map_singleton, jn_snoc [47] _ _ (by simpa using h0)]
      have e4 : (bs (jn [47] (namesOf p)) ++ (⟨#[47]⟩ : ByteArray)).size = (jn [47] (namesOf p)).length + 1 := by
        show (bs _ ++ bs [47]).size = _
        rw [append_bs, bs_size]; simp
      rw [if_pos (by omega), if_pos (by omega), if_pos (by omega), if_pos (by omega), e3, wrap_succ _ (by omega)]
      exact ih
theorem RPath_eq (l : List S56) (hl : l.length ≤ 12) (hs : ∀ e ∈ l, e.f2.size ≤ 60) (k : Nat) (hk : 500 ≤ k) : aquiferref17_Path.f k l = some (two (rpathP l)) :=
  RPath_loop l hl hs l [] k rfl (by omega)
/-! ### both are one -/
theorem kindN_ne {n : List UInt8} (h : kindN n ≠ 0) : n ≠ [] := by
  rintro rfl
  exact h (by decide)
theorem namesP_good {s : List UInt8} (h : (kindP s).2 = 0) : ∀ n ∈ namesP s, n ≠ [] := by
  intro n hn
  unfold namesP at hn
  split at hn
  · exact absurd hn (by simp)
  rename_i hs
  rcases (kindP_ok s h).2 with ⟨h1, _⟩ | ⟨_, _, p, m, h2, h3, h4, h5⟩
  · exact absurd h1 hs
  · rw [h2] at hn
    rcases List.mem_append.1 hn with hn | hn
    · exact kindN_ne (h5 n hn).1
    · rw [List.mem_singleton] at hn
      rw [hn]
      exact kindN_ne (by rw [h3]; exact h4)
theorem jn_count : ∀ (L : List (List UInt8)), L ≠ [] → (jn [47] L).count 47 + 1 = L.length + (L.map (·.count 47)).sum
  | [], h => absurd rfl h
  | [x], _ => by simp [jn]; omega
  | x :: y :: r, _ => by
    have ih := jn_count (y :: r) (by simp)
    rw [jn, List.count_append, List.count_append]
    simp only [List.length_cons, List.map_cons, List.sum_cons, List.count_cons_self, List.count_nil] at ih ⊢
    omega
theorem sum_zero : ∀ (L : List Nat), L.sum = 0 → ∀ n ∈ L, n = 0
  | [], _, n, h => absurd h (by simp)
  | x :: r, h, n, hn => by
    simp only [List.sum_cons] at h
    rcases List.mem_cons.1 hn with rfl | hn
    · omega
    · exact sum_zero r (by omega) n hn
theorem jn_ne (L : List (List UInt8)) (h : L ≠ []) (hn : ∀ n ∈ L, n ≠ []) : jn [47] L ≠ [] := by
  match L, h, hn with
  | [x], _, hn => exact hn x (by simp)
  | x :: y :: r, _, hn =>
    rw [jn]
    simp
theorem path_same (l : List S56) : pathP l = rpathP l := by
  unfold pathP rpathP
  by_cases h0 : (kindP (jn [47] (namesOf l))).2 = 0
  · by_cases h1 : (namesP (jn [47] (namesOf l))).map partOf = l
    · have hg : l.all goodPart = true := by
        rw [← h1, List.all_eq_true]
        intro x hx
        obtain ⟨n, hn, rfl⟩ := List.mem_map.1 hx
        have := namesP_good h0 n hn
        unfold goodPart partOf
        have e : (bs n).data.toList.isEmpty = false := by rw [bs_data]; simpa using this
        rw [e]; rfl
      have hlen : (namesP (jn [47] (namesOf l))).length = l.length := by
        have := congrArg List.length h1
        rwa [List.length_map] at this
      rw [if_pos hg, if_pos ⟨h0, hlen⟩, if_pos ⟨h0, h1⟩]
    · rw [if_neg (c := _ ∧ _ = l) (fun h => h1 h.2)]
      by_cases hg : l.all goodPart = true
      · rw [if_pos hg, if_neg]
        rintro ⟨_, hlen⟩
        refine h1 ?_
        rw [List.all_eq_true] at hg
        have hne : ∀ n ∈ namesOf l, n ≠ [] := by
          intro n hn
          obtain ⟨x, hx, rfl⟩ := List.mem_map.1 hn
          have := hg x hx
          unfold goodPart at this
          simp only [Bool.and_eq_true, Bool.not_eq_true', List.isEmpty_eq_false_iff] at this
          exact this.2
        by_cases hl : l = []
        · subst hl; rfl
        · have hL : namesOf l ≠ [] := by unfold namesOf; simpa using hl
          have hj := jn_ne _ hL hne
          have hsp : namesP (jn [47] (namesOf l)) = splitL (jn [47] (namesOf l)) := by unfold namesP; rw [if_neg hj, if_pos h0]
          rw [hsp] at hlen ⊢
          rw [splitL_len, jn_count _ hL, show (namesOf l).length = l.length from List.length_map _] at hlen
          have hz := sum_zero _ (show ((namesOf l).map (·.count 47)).sum = 0 by omega)
          have hno : ∀ n ∈ namesOf l, (47 : UInt8) ∉ n := by
            intro n hn
            have := hz (n.count 47) (List.mem_map.2 ⟨n, hn, rfl⟩)
            exact List.count_eq_zero.1 this
          rw [splitL_jn _ hL hno]
          unfold namesOf
          rw [List.map_map]
          refine (List.map_congr_left (fun x hx => ?_)).trans (List.map_id l)
          have := hg x hx
          unfold goodPart at this
          simp only [Bool.and_eq_true, beq_iff_eq] at this
          exact S56_ext this.1.1.symm this.1.2.symm rfl
      · rw [if_neg hg]
  · rw [if_neg (c := _ ∧ _ = l) (fun h => h0 h.1), if_neg (c := _ ∧ _ = l.length) (fun h => h0 h.1)]
    split <;> rfl
theorem Same_loop (l : List S56) (hl : l.length ≤ 1000) : ∀ (r p : List S56) (k : Nat), l = p ++ r → r.length < k → aquiferref03_Same.l0 k l l (p.length : Int) = some true
  | [], p, k, h, hk => by
    obtain ⟨m, rfl, _⟩ := up1 hk
    rw [aquiferref03_Same.l0, if_neg (by rw [h]; simp)]
  | x :: r, p, k, h, hk => by
    obtain ⟨m, rfl, hm⟩ := up1 hk
    have hl2 : l.length = p.length + (r.length + 1) := by rw [h]; simp
    rw [aquiferref03_Same.l0, if_pos (by omega), if_pos (by omega), if_pos (by omega)]
    have ha := (alike_iff (rd_T56 l (p.length : Int)) _).2 rfl
    unfold alike at ha
    rw [Bool.not_eq_true'] at ha
    rw [ha, if_neg (by decide), wrap_succ _ (by omega)]
    have := Same_loop l hl r (p ++ [x]) m (by simp [h]) (by simp only [List.length_cons] at hm; omega)
    rw [List.length_append] at this
    exact this
theorem Same_eq (l : List S56) (hl : l.length ≤ 300) (k : Nat) (hk : 400 ≤ k) : aquiferref03_Same.f k l l = some true := by
  unfold aquiferref03_Same.f
  rw [if_pos rfl]
  exact Same_loop l (by omega) l [] k rfl (by omega)
theorem keyP_len (s : List UInt8) : (keyP s).1.length ≤ 8 := by
  unfold keyP
  split
  · rw [List.length_map]; exact namesP_len s
  · simp
theorem Keys_end (s : ByteArray) (l : List S56) (hl : l.length ≤ 12) (hs : ∀ e ∈ l, e.f2.size ≤ 60) (k : Nat) (hk : 501 ≤ k) : aquiferlaw17_InodeKeys.j1 k s l = some true := by
  obtain ⟨k, rfl⟩ : ∃ m, k = m + 1 := ⟨k - 1, by omega⟩
  rw [aquiferlaw17_InodeKeys.j1]
  unfold MKb.inode_Key.f Ext.inode_Key.f
  rw [Option.bind_some, RKey_eq s k (by omega), Option.bind_some, Path_eq l hl hs k (by omega), Option.bind_some, RPath_eq l hl hs k (by omega), Option.bind_some, ← path_same,
    Same_eq _ (by have := keyP_len s.data.toList; omega) k (by omega), Option.bind_some, if_pos rfl, if_pos rfl, if_pos rfl, if_pos rfl]
  rfl
theorem Keys_loop (s : ByteArray) (l1 : List S56) : ∀ (d : Nat) (a : List S56) (k : Nat), a.length + d = 12 → (∀ e ∈ a, e.f2.size ≤ 60) → d + 502 ≤ k → aquiferlaw17_InodeKeys.l0 k s l1 a (a.length : Int) = some true
  | d, a, k, h, ha, hk => by
    obtain ⟨m, rfl⟩ : ∃ m, k = m + 1 := ⟨k - 1, by omega⟩
    rw [aquiferlaw17_InodeKeys.l0]
    by_cases h1 : (a.length : Int) < (l1.length : Int)
    · rw [if_pos h1]
      match d, h, hk with
      | 0, h, hk =>
        rw [if_neg (by omega)]
        exact Keys_end s a (by omega) ha m (by omega)
      | d + 1, h, hk =>
        have hm := mn_le ((rd_T56 l1 (a.length : Int)).f2.size : Int) 60
        rw [if_pos (by omega), if_pos (by omega), if_pos (by omega), if_pos (by omega), if_pos (by omega), wrap_succ _ (by omega)]
        have hmm := hm.1
        have hm2 := hm.2.1
        have hm0 : 0 ≤ mn ((rd_T56 l1 (a.length : Int)).f2.size : Int) 60 := by omega
        generalize mn ((rd_T56 l1 (a.length : Int)).f2.size : Int) 60 = q at hmm hm2 hm0 ⊢
        have := Keys_loop s l1 d (a ++ [(⟨(rd_T56 l1 (a.length : Int)).f0, (rd_T56 l1 (a.length : Int)).f1, ((rd_T56 l1 (a.length : Int)).f2).extract 0 (q : Int).toNat⟩ : S56)]) m (by simp; omega) (fun e he => by
          rcases List.mem_append.1 he with he | he
          · exact ha e he
          · rw [List.mem_singleton] at he
            rw [he]
            show (ByteArray.extract _ 0 q.toNat).size ≤ 60
            rw [ByteArray.size_extract]
            omega) (by omega)
        rw [List.length_append] at this
        exact this
    · rw [if_neg h1]
      exact Keys_end s a (by omega) ha m (by omega)
theorem Keys_eq (a0 : ByteArray) (l1 : List S56) : aquiferlaw17_InodeKeys.f 600 a0 l1 = some true := by
  unfold aquiferlaw17_InodeKeys.f
  have hm := mn_le (a0.size : Int) 200
  rw [if_pos (by omega), if_pos (by omega)]
  exact Keys_loop _ l1 12 [] 600 rfl (fun e he => absurd he (by simp)) (by omega)
end Go.Proofs.YtbhioghpgedkeaaDoor.PP
