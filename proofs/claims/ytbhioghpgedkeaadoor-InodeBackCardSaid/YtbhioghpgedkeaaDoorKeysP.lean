/- Key and Path on both sides, in plain words. -/
import Derived.Test.YtbhioghpgedkeaaDoorKeysR
import Derived.Test.YtbhioghpgedkeaaDoorExtK
import Derived.Test.YtbhioghpgedkeaaDoorMKbx4
import Derived.Test.YtbhioghpgedkeaaDoorMKbx5
import Derived.Test.YtbhioghpgedkeaaDoorMKbx6
set_option linter.unusedSimpArgs false
set_option linter.unusedVariables false
namespace Go.Proofs.YtbhioghpgedkeaaDoor.PP
open Go.RowKit Go.Proofs.YtbhioghpgedkeaaDoor.MIt Go.Proofs.YtbhioghpgedkeaaDoor.MKb Go.Proofs.YtbhioghpgedkeaaDoorW.PrintWords Go.Proofs.YtbhioghpgedkeaaDoorW.PrintLast Go.Proofs.YtbhioghpgedkeaaDoorW.PrintMore

theorem rd_mid56 (p : List S56) (x : S56) (r : List S56) : rd_T56 (p ++ x :: r) (p.length : Int) = x := by
  unfold rd_T56
  simp
def goodPart (x : S56) : Bool := x.f0 == 2 && x.f1 == 0 && !x.f2.data.toList.isEmpty
def namesOf (l : List S56) : List (List UInt8) := l.map (·.f2.data.toList)
def pathP (l : List S56) : List UInt8 × Int :=
  if l.all goodPart then (if (kindP (jn [47] (namesOf l))).2 = 0 ∧ (namesP (jn [47] (namesOf l))).length = l.length then (jn [47] (namesOf l), 0) else ([], 5)) else ([], 5)
def two (x : List UInt8 × Int) : ByteArray × Int := (bs x.1, x.2)
theorem namesOf_bs (l : List S56) : (namesOf l).map bs = l.map (·.f2) := by
  unfold namesOf
  rw [List.map_map]
  rfl
theorem jn_namesOf_len (l : List S56) (h : l.length ≤ 12) (hs : ∀ e ∈ l, e.f2.size ≤ 60) : (jn [47] (namesOf l)).length ≤ 800 := by
  have := jn_len [47] 60 (namesOf l) (fun n hn => by
    obtain ⟨e, he, rfl⟩ := List.mem_map.1 hn
    exact hs e he)
  have e2 : (namesOf l).length = l.length := List.length_map _
  rw [e2] at this
  have h3 : l.length * (60 + [(47 : UInt8)].length) ≤ 12 * 61 := Nat.mul_le_mul h (Nat.le_refl _)
  omega
theorem Path_loop (l : List S56) (hl : l.length ≤ 12) (hs : ∀ e ∈ l, e.f2.size ≤ 60) : ∀ (r p : List S56) (k : Nat), l = p ++ r → p.all goodPart = true → r.length < k →
    inode_Path.l0 k (p.map (·.f2)) l (l.length : Int) (p.length : Int) = some (two (pathP l))
  | [], p, k, h, hp, hk => by
    obtain ⟨m, rfl, _⟩ := up1 hk
    have h' : l = p := by rw [h]; simp
    subst h'
    have hj := jn_namesOf_len l hl hs
    rw [inode_Path.l0, if_neg (by omega), ← namesOf_bs, Join_eq (namesOf l) ⟨#[47]⟩ (by show (jn [47] _).length ≤ _; omega) (by unfold namesOf; rw [List.length_map]; omega), Option.bind_some]
    unfold MKb.path_Kind.f Ext.path_Kind.f MKb.path_Split.f Ext.path_Split.f pathP
    rw [Option.bind_some, bs_data, if_pos hp]
    show (if (kindP (jn [47] (namesOf l))).2 = 0 then _ else _) = _
    by_cases h0 : (kindP (jn [47] (namesOf l))).2 = 0
    · rw [if_pos h0, Option.bind_some]
      show (if ((List.map bs (namesP (jn [47] (namesOf l)))).length : Int) = _ then _ else _) = _
      rw [List.length_map, List.length_map, show (namesOf l).length = l.length from List.length_map _]
      by_cases h1 : (namesP (jn [47] (namesOf l))).length = l.length
      · rw [if_pos (by omega), if_pos ⟨h0, h1⟩]; rfl
      · rw [if_neg (by omega), if_neg (fun h => h1 h.2)]; rfl
    · rw [if_neg h0, if_neg (fun h => h0 h.1)]; rfl
  | x :: r, p, k, h, hp, hk => by
    obtain ⟨m, rfl, hm⟩ := up1 hk
    have hl2 : l.length = p.length + (r.length + 1) := by rw [h]; simp
    have hbad : goodPart x = false → pathP l = ([], 5) := fun hx => by
      unfold pathP
      rw [if_neg]
      rw [h, List.all_append, List.all_cons, hx]
      simp
    rw [inode_Path.l0, if_pos (by omega), if_pos (by omega), if_pos (by omega), h, rd_mid56, ← h]
    by_cases h0 : x.f0 = 2
    · rw [if_pos h0]
      by_cases h1 : x.f1 = 0
      · rw [if_pos h1]
        by_cases h2 : x.f2.data.toList = []
        · rw [if_pos ((toList_nil _).2 h2), hbad (by unfold goodPart; rw [h2]; simp)]; rfl
        · rw [if_neg (fun h => h2 ((toList_nil _).1 h)), if_pos (by rw [List.length_map]; omega), wrap_succ _ (by omega)]
          have hg : goodPart x = true := by
            unfold goodPart
            have : x.f2.data.toList.isEmpty = false := by simpa using h2
            rw [h0, h1, this]; rfl
          have := Path_loop l hl hs r (p ++ [x]) m (by simp [h]) (by rw [List.all_append, hp]; simp [hg]) (by simp only [List.length_cons] at hm; omega)
          rw [List.length_append, List.map_append] at this
          exact this
      · rw [if_neg h1, hbad (by unfold goodPart; simp [h1])]; rfl
    · rw [if_neg h0, hbad (by unfold goodPart; simp [h0])]; rfl
theorem Path_eq (l : List S56) (hl : l.length ≤ 12) (hs : ∀ e ∈ l, e.f2.size ≤ 60) (k : Nat) (hk : 400 ≤ k) : inode_Path.f k l = some (two (pathP l)) :=
  Path_loop l hl hs l [] k rfl rfl (by omega)
def alike (x y : S56) : Bool := !((!(x.f0 == y.f0)) || ((!(x.f1 == y.f1)) || (!(x.f2.toList == y.f2.toList))))
theorem S56_ext {x y : S56} (h0 : x.f0 = y.f0) (h1 : x.f1 = y.f1) (h2 : x.f2 = y.f2) : x = y := by
  cases x; cases y
  simp only at h0 h1 h2
  rw [h0, h1, h2]
theorem alike_iff (x y : S56) : alike x y = true ↔ x = y := by
  unfold alike
  constructor
  · intro h
    simp only [Bool.not_or, Bool.not_not, Bool.and_eq_true, beq_iff_eq] at h
    refine S56_ext h.1 h.2.1 (str_eq ?_)
    have := h.2.2
    rwa [ByteArray.toList_eq, ByteArray.toList_eq] at this
  · rintro rfl
    simp
instance : DecidableEq S56 := fun x y => decidable_of_iff (alike x y = true) (alike_iff x y)
theorem kindN_ne {n : List UInt8} (h : kindN n ≠ 0) : n ≠ [] := by
  rintro rfl
  exact h (by decide)
theorem namesP_good {s : List UInt8} (h : (kindP s).2 = 0) : ∀ n ∈ namesP s, n ≠ [] := by
  intro n hn
  unfold namesP at hn
  split at hn
  · exact absurd hn (by simp)
  rename_i hs
  rcases (kindP_ok s h).2 with ⟨h1, _⟩ | ⟨_, _, p, m, h2, h3, h4, h5⟩
  · exact absurd h1 hs
  · rw [h2] at hn
    rcases List.mem_append.1 hn with hn | hn
    · exact kindN_ne (h5 n hn).1
    · rw [List.mem_singleton] at hn
      rw [hn]
      exact kindN_ne (by rw [h3]; exact h4)
theorem keyP_len (s : List UInt8) : (keyP s).1.length ≤ 8 := by
  unfold keyP
  split
  · rw [List.length_map]; exact namesP_len s
  · simp
end Go.Proofs.YtbhioghpgedkeaaDoor.PP
