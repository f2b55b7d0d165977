/- Parent of a path and what stands above it, in plain words (ported from the chapter path). -/
import Derived.Test.YtbhioghpgedkeaaDoorPPa
import Derived.Test.YtbhioghpgedkeaaDoorMKpx1
set_option linter.unusedSimpArgs false
set_option linter.unusedVariables false
namespace Go.Proofs.YtbhioghpgedkeaaDoor.PP
open Go.RowKit Go.Proofs.YtbhioghpgedkeaaDoor.MKp Go.Proofs.YtbhioghpgedkeaaDoorW.PrintWords Go.Proofs.YtbhioghpgedkeaaDoorW.PrintLast Go.Proofs.YtbhioghpgedkeaaDoorW.PrintMore


theorem last_spec (s : ByteArray) (c : UInt8) : (Lib.lastIndexByte s (c.toNat : Int) = -1 ∧ c ∉ s.data.toList) ∨ ∃ u v, s.data.toList = u ++ c :: v ∧ c ∉ v ∧ Lib.lastIndexByte s (c.toNat : Int) = (u.length : Int) := by
  have get : ∀ j, (h : j < s.data.toList.length) → s.data[j]! = s.data.toList[j] := by
    intro j h
    have h' : j < s.data.size := by simpa using h
    rw [getElem!_pos s.data j h']
    simp
  have inj : ∀ d : UInt8, ((d.toNat : Int) = (c.toNat : Int)) ↔ d = c := by
    intro d
    constructor
    · intro h; exact UInt8.toNat_inj.1 (by omega)
    · intro h; rw [h]
  rcases Lib.lastIndexByte_spec s (c.toNat : Int) with ⟨h1, h2⟩ | ⟨i, hi, h1, h2, h3⟩
  · refine .inl ⟨h1, fun hm => ?_⟩
    obtain ⟨j, hj, e⟩ := List.getElem_of_mem hm
    exact h2 j (by rw [← len_size]; exact hj) ((inj _).2 (by rw [get j hj]; exact e))
  · have hil : i < s.data.toList.length := by rw [len_size]; exact hi
    refine .inr ⟨s.data.toList.take i, s.data.toList.drop (i + 1), ?_, ?_, ?_⟩
    · rw [get i hil] at h2
      rw [← (inj _).1 h2]
      rw [List.getElem_cons_drop, List.take_append_drop]
    · intro hm
      obtain ⟨j, hj, e⟩ := List.getElem_of_mem hm
      rw [List.getElem_drop] at e
      have hlt : i + 1 + j < s.data.toList.length := by rw [List.length_drop] at hj; omega
      exact h3 (i + 1 + j) (by omega) (by rw [← len_size]; exact hlt) ((inj _).2 (by rw [get _ hlt]; exact e))
    · rw [h1, List.length_take]
      congr 1
      omega
theorem last_cut (u v : List UInt8) (c : UInt8) (h : c ∉ v) : Lib.lastIndexByte (bs (u ++ c :: v)) (c.toNat : Int) = (u.length : Int) := by
  rcases last_spec (bs (u ++ c :: v)) c with ⟨_, h2⟩ | ⟨u', v', h1, h2, h3⟩
  · exact absurd (by rw [bs_data]; simp) h2
  · rw [h3]
    rw [bs_data] at h1
    have hv : ∀ (u u' v v' : List UInt8), u ++ c :: v = u' ++ c :: v' → c ∉ v → c ∉ v' → u'.length = u.length := by
      intro u
      induction u with
      | nil =>
        intro u' v v' e hv hv'
        cases u' with
        | nil => rfl
        | cons d u' => simp at e; exact absurd (by rw [e.2]; simp) hv
      | cons d u ih =>
        intro u' v v' e hv hv'
        cases u' with
        | nil => simp at e; exact absurd (by rw [← e.2]; simp) hv'
        | cons d' u' => simp at e; simp [ih u' v v' e.2 hv hv']
    rw [hv u u' v v' h1 h h2]


def parentP (s : List UInt8) : List UInt8 × Bool := if s = [] then ([], false) else if (kindP s).2 = 0 then (s.take (Lib.lastIndexByte (bs s) 47).toNat, true) else ([], false)
theorem toNat_mx (x : Int) : (mx x 0).toNat = x.toNat := by unfold mx; split <;> omega
theorem Parent_eq (s : ByteArray) (k : Nat) (hk : 400 ≤ k) : path_Parent.f s = some (bs (parentP s.data.toList).1, (parentP s.data.toList).2) := by
  unfold path_Parent.f parentP
  by_cases hn : s.data.toList = []
  · rw [if_pos ((toList_nil s).2 hn), if_pos hn]; rfl
  · rw [if_neg (fun h => hn ((toList_nil s).1 h)), if_neg hn, path_is.f, Ext.path_is.f, Option.bind_some, isP0]
    by_cases h : (kindP s.data.toList).2 = 0
    · have e : ((kindP s.data.toList).2 == 0) = true := by simp [h]
      rw [e, if_pos rfl, if_pos h]
      have h96 : s.size ≤ 96 := (kindP_ok _ h).1
      unfold strings_LastIndexByte.f Ext.strings_LastIndexByte.f
      rw [if_pos (by omega), Option.bind_some, bs_back]
      have hb : 0 ≤ mx (Lib.lastIndexByte s 47) 0 ∧ mx (Lib.lastIndexByte s 47) 0 ≤ (s.size : Int) := by
        have e47 : ((47 : UInt8).toNat : Int) = 47 := rfl
        rcases last_spec s 47 with ⟨h1, _⟩ | ⟨u, v, h1, _, h2⟩
        · rw [e47] at h1; rw [h1]; unfold mx; rw [if_pos (by decide)]; omega
        · rw [e47] at h2; rw [h2]
          have hl := congrArg List.length h1
          rw [List.length_append, List.length_cons, len_size] at hl
          clear h2
          unfold mx; rw [if_neg (by omega)]; omega
      rw [if_pos hb.1, if_pos hb.2, toNat_mx]
      have : s.extract 0 (Lib.lastIndexByte s 47).toNat = bs (s.data.toList.take (Lib.lastIndexByte s 47).toNat) := str_eq (by rw [take_str, bs_data])
      rw [this]
    · have e : ((kindP s.data.toList).2 == 0) = false := by simp [h]
      rw [e, if_neg (by decide), if_neg h]
      rfl
theorem jn_snoc (sep x : List UInt8) : ∀ (L : List (List UInt8)), L ≠ [] → jn sep (L ++ [x]) = jn sep L ++ sep ++ x
  | [], h => absurd rfl h
  | [y], _ => rfl
  | y :: z :: r, _ => by
    have ih := jn_snoc sep x (z :: r) (by simp)
    rw [List.cons_append, List.cons_append, jn, jn, ← List.cons_append, ih]
    simp
/-- A path of good names. -/
theorem walkK_good : ∀ (p : List (List UInt8)) (n : List UInt8) (t : Int), kindN n ≠ 0 → (∀ x ∈ p, kindN x ≠ 0 ∧ kindN x ≠ 2) → walkK (p ++ [n]) t = some (kindN n)
  | [], n, t, h, _ => by rw [List.nil_append, walkK, if_neg h, if_neg (fun e => e.2 rfl), walkK]
  | x :: p, n, t, h, hp => by
    rw [List.cons_append, walkK, if_neg (hp x (by simp)).1, if_neg (fun e => (hp x (by simp)).2 e.1)]
    exact walkK_good p n _ h (fun y hy => hp y (by simp [hy]))
theorem kindP_good (s : List UInt8) (hs : s.length ≤ 96) (hn : s ≠ []) (p : List (List UInt8)) (n : List UInt8) (h1 : splitL s = p ++ [n]) (h2 : kindN n ≠ 0) (h3 : ∀ x ∈ p, kindN x ≠ 0 ∧ kindN x ≠ 2) (h8 : (splitL s).length ≤ 8) : kindP s = (kindN n, 0) := by
  unfold kindP
  have hw : walkK (splitL s) 0 = some (kindN n) := by rw [h1]; exact walkK_good p n 0 h2 h3
  rw [if_neg (by omega), if_neg hn, hw]
  exact if_neg (by omega)
theorem take_jn_len (sep : List UInt8) : ∀ (L : List (List UInt8)) (m : Nat), (jn sep (L.take m)).length ≤ (jn sep L).length
  | [], m => by simp
  | [x], 0 => by simp [jn]
  | [x], m + 1 => by simp
  | x :: y :: r, 0 => by simp [jn]
  | x :: y :: r, 1 => by simp [jn]
  | x :: y :: r, m + 2 => by
    have ih := take_jn_len sep (y :: r) (m + 1)
    rw [List.take_succ_cons] at ih
    rw [List.take_succ_cons, List.take_succ_cons, jn, jn]
    simp only [List.length_append]
    omega
/-- What is known of the names of a path that is not empty. -/
structure Names (N : List (List UInt8)) : Prop where
  no : ∀ n ∈ N, (47 : UInt8) ∉ n
  len : N.length ≤ 8
  size : (jn [47] N).length ≤ 96
  good : ∀ j, j < N.length → kindN N[j]! ≠ 0 ∧ (j + 1 < N.length → kindN N[j]! ≠ 2)
theorem names_of (s : List UInt8) (h : (kindP s).2 = 0) (hn : s ≠ []) : Names (splitL s) ∧ jn [47] (splitL s) = s := by
  obtain ⟨h96, ⟨h1, _⟩ | ⟨_, h8, p, n, h2, h3, h4, h5⟩⟩ := kindP_ok s h
  · exact absurd h1 hn
  · refine ⟨⟨splitL_no s, h8, by rw [jn_splitL]; exact h96, fun j hj => ?_⟩, jn_splitL s⟩
    rw [getElem!_pos _ j hj]
    rw [h2] at hj
    simp only [h2]
    rw [List.length_append, List.length_cons, List.length_nil] at hj
    by_cases hjp : j < p.length
    · rw [List.getElem_append_left hjp]
      have := h5 _ (List.getElem_mem hjp)
      exact ⟨this.1, fun _ => this.2⟩
    · rw [List.getElem_append_right (by omega)]
      simp only [List.getElem_singleton]
      refine ⟨by rw [h3]; exact h4, fun h => ?_⟩
      rw [List.length_append, List.length_cons, List.length_nil] at h
      omega
theorem Names.take {N : List (List UInt8)} (h : Names N) (m : Nat) : Names (N.take m) := by
  refine ⟨fun n hn => h.no n (List.mem_of_mem_take hn), by rw [List.length_take]; have := h.len; omega, Nat.le_trans (take_jn_len _ _ _) h.size, fun j hj => ?_⟩
  rw [getElem!_pos _ j hj, List.getElem_take]
  have hj2 : j < min m N.length := by rw [← List.length_take]; exact hj
  have := h.good j (by omega)
  rw [getElem!_pos _ j (by omega)] at this
  exact ⟨this.1, fun h2 => this.2 (by rw [List.length_take] at h2; omega)⟩
theorem Names.ne {N : List (List UInt8)} (h : Names N) (j : Nat) (hj : j < N.length) : N[j] ≠ [] := by
  have := (h.good j hj).1
  rw [getElem!_pos _ j hj] at this
  intro e
  rw [e] at this
  exact this rfl
theorem jn_neN {N : List (List UInt8)} (h : Names N) (hN : N ≠ []) : jn [47] N ≠ [] := by
  cases N with
  | nil => exact absurd rfl hN
  | cons x r =>
    have hx : x ≠ [] := h.ne 0 (by simp)
    cases r with
    | nil => exact hx
    | cons y r => rw [jn]; simp
theorem Names.split {N : List (List UInt8)} (h : Names N) (hN : N ≠ []) : splitL (jn [47] N) = N := splitL_jn N hN h.no
/-- A path of such names is one, of its last name's kind. -/
theorem Names.kind {N : List (List UInt8)} (h : Names N) (hN : N ≠ []) : kindP (jn [47] N) = (kindN (N.getLast hN), 0) := by
  have hl : 0 < N.length := List.length_pos_iff.2 hN
  have e1 : N = N.dropLast ++ [N.getLast hN] := (List.dropLast_concat_getLast hN).symm
  have hlast := h.good (N.length - 1) (by omega)
  rw [getElem!_pos _ (N.length - 1) (by omega)] at hlast
  refine kindP_good _ h.size (jn_neN h hN) N.dropLast (N.getLast hN) (by rw [h.split hN]; exact e1) ?_ ?_ (by rw [h.split hN]; exact h.len)
  · rw [List.getLast_eq_getElem]; exact hlast.1
  · intro x hx
    obtain ⟨j, hj, e⟩ := List.getElem_of_mem hx
    rw [List.getElem_dropLast] at e
    rw [List.length_dropLast] at hj
    have := h.good j (by omega)
    rw [getElem!_pos _ j (by omega), e] at this
    exact ⟨this.1, this.2 (by omega)⟩
theorem Names.parent {N : List (List UInt8)} (h : Names N) (m : Nat) (hm : m + 1 ≤ N.length) : parentP (jn [47] (N.take (m + 1))) = (jn [47] (N.take m), true) ∧ (jn [47] (N.take m)).length < (jn [47] (N.take (m + 1))).length := by
  have ht := h.take (m + 1)
  have hne : N.take (m + 1) ≠ [] := by
    intro e
    have := congrArg List.length e
    rw [List.length_take, List.length_nil] at this
    omega
  have hj := jn_neN ht hne
  have e1 : N.take (m + 1) = N.take m ++ [N[m]] := by rw [List.take_add_one, List.getElem?_eq_getElem (by omega)]; rfl
  have hno : (47 : UInt8) ∉ N[m] := h.no _ (List.getElem_mem _)
  unfold parentP
  rw [if_neg hj, if_pos (by rw [ht.kind hne])]
  by_cases hm0 : m = 0
  · subst hm0
    rw [e1]
    rw [List.take_zero, List.nil_append, jn, jn]
    have e47 : ((47 : UInt8).toNat : Int) = 47 := rfl
    rcases last_spec (bs N[0]) 47 with ⟨h1, _⟩ | ⟨u, v, h1, _, _⟩
    · rw [e47] at h1
      rw [h1]
      exact ⟨rfl, List.length_pos_iff.2 (h.ne 0 (by omega))⟩
    · exact absurd (by rw [← bs_data N[0], h1]; simp) hno
  · have hmne : N.take m ≠ [] := by
      intro e
      have := congrArg List.length e
      rw [List.length_take, List.length_nil] at this
      omega
    rw [e1, jn_snoc _ _ _ hmne]
    have e2 : jn [47] (N.take m) ++ [47] ++ N[m] = jn [47] (N.take m) ++ 47 :: N[m] := by simp
    have e47 : ((47 : UInt8).toNat : Int) = 47 := rfl
    have hlc := last_cut (jn [47] (N.take m)) N[m] 47 hno
    rw [e47] at hlc
    rw [e2, hlc]
    have e3 : ((jn [47] (N.take m)).length : Int).toNat = (jn [47] (N.take m)).length := by omega
    rw [e3, List.take_left]
    exact ⟨rfl, by rw [List.length_append, List.length_cons]; omega⟩
def upsN (N : List (List UInt8)) (m : Nat) : List (List UInt8) := (List.range m).reverse.map fun j => jn [47] (N.take j)
/-- The directories that a path lies in. -/
def upsL (p : List UInt8) : List (List UInt8) := if p = [] then [] else if (kindP p).2 = 0 then upsN (splitL p) (splitL p).length else []
theorem upsN_succ (N : List (List UInt8)) (m : Nat) : upsN N (m + 1) = jn [47] (N.take m) :: upsN N m := by
  unfold upsN
  rw [List.range_succ, List.reverse_append]
  rfl

def mild (n : List UInt8) : Prop := n ≠ [46] ∧ n ≠ [46, 46]
theorem kind_mild (n : List UInt8) (h : kindN n ≠ 0) : n ≠ [] ∧ mild n :=
  ⟨fun e => h (by rw [e]; rfl), fun e => h (by rw [e]; rfl), fun e => h (by rw [e]; rfl)⟩
/-- Which directories a path lies in. -/
theorem mem_ups (d p : List UInt8) : d ∈ upsL p ↔ (kindP p).2 = 0 ∧ p ≠ [] ∧ ∃ j, j < (splitL p).length ∧ d = jn [47] ((splitL p).take j) := by
  unfold upsL
  by_cases hn : p = []
  · rw [if_pos hn]; simp [hn]
  · rw [if_neg hn]
    by_cases hk : (kindP p).2 = 0
    · rw [if_pos hk]
      unfold upsN
      simp only [List.mem_map, List.mem_reverse, List.mem_range]
      exact ⟨fun ⟨j, h1, h2⟩ => ⟨hk, hn, j, h1, h2.symm⟩, fun ⟨_, _, j, h1, h2⟩ => ⟨j, h1, h2.symm⟩⟩
    · rw [if_neg hk]; simp [hk]
end Go.Proofs.YtbhioghpgedkeaaDoor.PP
