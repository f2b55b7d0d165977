/- Moving, in plain words. -/
import Derived.Test.YtfnbadfehelleaaDoorPathSort
import Derived.Test.YtfnbadfehelleaaDoorMPbx4
set_option linter.unusedSimpArgs false
set_option linter.unusedVariables false
namespace Go.Proofs.YtfnbadfehelleaaDoor.PP
open Go.RowKit Go.Proofs.YtfnbadfehelleaaDoor.MPb Go.Proofs.YtfnbadfehelleaaDoorW.PrintWords Go.Proofs.YtfnbadfehelleaaDoorW.PrintLast Go.Proofs.YtfnbadfehelleaaDoorW.PrintMore

def movedP (p a b : List UInt8) : List UInt8 × Int :=
  if ¬ ((kindP a).2 = 0 ∧ (kindP b).2 = 0 ∧ (a = [] → b = [])) then ([], 2) else
  if p = a then sureP b else
  if ¬ a ∈ upsL p then ([], 18) else
  if a = [] then (p, 0) else
  if b = [] then sureP (p.drop (a.length + 1)) else
  sureP (b ++ p.drop a.length)
theorem ups_len (a p : List UInt8) (h : a ∈ upsL p) (ha : a ≠ []) : ∃ r, p = a ++ 47 :: r := by
  obtain ⟨h1, h2, j, h3, h4⟩ := (mem_ups a p).1 h
  obtain ⟨hN, hp⟩ := names_of p h1 h2
  have hj : (splitL p).take j ≠ [] := fun e => ha (by rw [h4, e]; rfl)
  have hd : (splitL p).drop j ≠ [] := by
    intro e
    have := congrArg List.length e
    rw [List.length_drop, List.length_nil] at this
    omega
  refine ⟨jn [47] ((splitL p).drop j), ?_⟩
  have app : ∀ X Y : List (List UInt8), X ≠ [] → Y ≠ [] → jn [47] (X ++ Y) = jn [47] X ++ 47 :: jn [47] Y := by
    intro X
    induction X with
    | nil => intro Y h _; exact absurd rfl h
    | cons x X ih =>
      intro Y _ hY
      by_cases hX : X = []
      · rw [hX, List.cons_append, List.nil_append, jn_cons _ _ _ hY]
        simp [jn]
      · rw [List.cons_append, jn_cons _ _ _ (by simp [hX]), ih Y hX hY, jn_cons _ _ _ hX]
        simp
  rw [h4, ← app _ _ hj hd, List.take_append_drop, hp]
theorem Moved_eq (p a b : ByteArray) (hp : p.size ≤ 300) (ha : a.size ≤ 300) (hb : b.size ≤ 300) (k : Nat) (hk : 1 ≤ k) : path_Moved.f k p a b = some (two (movedP p.data.toList a.data.toList b.data.toList)) := by
  obtain ⟨k, rfl⟩ : ∃ m, k = m + 1 := ⟨k - 1, by omega⟩
  have out : path_Moved.j0 (k + 1) p a b true = some (two ([], 2)) := by rw [path_Moved.j0, if_pos rfl]; rfl
  have fis : ∀ x : ByteArray, path_is.f x 0 = some ((kindP x.data.toList).2 == 0) := fun x => by rw [← isP0]; rfl
  have fsure : ∀ x : ByteArray, path_sure.f x = some (two (sureP x.data.toList)) := fun x => rfl
  unfold path_Moved.f movedP
  rw [fis, fis, Option.bind_some]
  by_cases h1 : (kindP a.data.toList).2 = 0
  · rw [if_pos (by simp [h1]), Option.bind_some]
    by_cases h2 : (kindP b.data.toList).2 = 0
    · rw [if_pos (by simp [h2])]
      have go : (a.data.toList = [] → b.data.toList = []) → path_Moved.j0 (k + 1) p a b false = some (two (if p.data.toList = a.data.toList then sureP b.data.toList else if ¬ a.data.toList ∈ upsL p.data.toList then ([], 18) else if a.data.toList = [] then (p.data.toList, 0) else if b.data.toList = [] then sureP (p.data.toList.drop (a.data.toList.length + 1)) else sureP (b.data.toList ++ p.data.toList.drop a.data.toList.length))) := by
        intro _
        rw [path_Moved.j0, if_neg (by decide)]
        by_cases e1 : p.data.toList = a.data.toList
        · rw [if_pos (by rw [ByteArray.toList_eq, ByteArray.toList_eq]; exact e1), if_pos e1, fsure, Option.bind_some]
        · rw [if_neg (by rw [ByteArray.toList_eq, ByteArray.toList_eq]; exact e1), if_neg e1]
          show ((some (decide (a.data.toList ∈ upsL p.data.toList))).bind _) = _
          rw [Option.bind_some]
          by_cases e2 : a.data.toList ∈ upsL p.data.toList
          · rw [if_pos (decide_eq_true e2), if_neg (show ¬ ¬ (a.data.toList ∈ upsL p.data.toList) from fun h => h e2)]
            by_cases e3 : a.data.toList = []
            · rw [if_pos ((toList_nil a).2 e3), if_pos e3]; rfl
            · rw [if_neg (fun h => e3 ((toList_nil a).1 h)), if_neg e3]
              obtain ⟨r, hr⟩ := ups_len _ _ e2 e3
              have hl := congrArg List.length hr
              rw [List.length_append, List.length_cons, len_size, len_size] at hl
              by_cases e4 : b.data.toList = []
              · rw [if_pos ((toList_nil b).2 e4), if_pos e4, wrap_succ a.size (by omega), if_pos (by omega), if_pos (by omega), fsure, Option.bind_some]
                have t : ((a.size + 1 : Nat) : Int).toNat = a.size + 1 := by omega
                rw [t, drop_str]
                rfl
              · rw [if_neg (fun h => e4 ((toList_nil b).1 h)), if_neg e4, if_pos (by omega), if_pos (by omega), if_pos (by rw [ByteArray.size_extract]; omega), fsure, Option.bind_some]
                have t : ((a.size : Nat) : Int).toNat = a.size := by omega
                rw [t, ByteArray.data_append, Array.toList_append, drop_str]
                rfl
          · rw [if_neg (by simpa using e2), if_pos e2]; rfl
      by_cases h3 : a.data.toList = []
      · rw [if_pos ((toList_nil a).2 h3), nil_ne]
        by_cases h4 : b.data.toList = []
        · have e : (!b.data.toList.isEmpty) = false := by rw [h4]; rfl
          rw [e, go (fun _ => h4), if_neg (show ¬ ¬ ((kindP a.data.toList).2 = 0 ∧ (kindP b.data.toList).2 = 0 ∧ (a.data.toList = [] → b.data.toList = [])) from fun h => h ⟨h1, h2, fun _ => h4⟩)]
        · have e : (!b.data.toList.isEmpty) = true := by
            cases hh : b.data.toList with
            | nil => exact absurd hh h4
            | cons _ _ => rfl
          rw [e, out, if_pos (fun h => h4 (h.2.2 h3))]
      · rw [if_neg (fun h => h3 ((toList_nil a).1 h)), go (fun h => absurd h h3), if_neg (show ¬ ¬ ((kindP a.data.toList).2 = 0 ∧ (kindP b.data.toList).2 = 0 ∧ (a.data.toList = [] → b.data.toList = [])) from fun h => h ⟨h1, h2, fun h => absurd h h3⟩)]
    · rw [if_neg (by simp [h2]), out, if_pos (fun h => h2 h.2.1)]
  · rw [if_neg (by simp [h1]), out, if_pos (fun h => h1 h.1)]
end Go.Proofs.YtfnbadfehelleaaDoor.PP
