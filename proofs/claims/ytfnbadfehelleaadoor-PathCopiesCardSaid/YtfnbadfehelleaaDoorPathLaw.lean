/- Paths in plain words: the laws of what is cleaned. -/
import Derived.Test.YtfnbadfehelleaaDoorPathOps
set_option linter.unusedSimpArgs false
set_option linter.unusedVariables false
namespace Go.Proofs.YtfnbadfehelleaaDoor.PP
open Go.RowKit Go.Proofs.YtfnbadfehelleaaDoor.MPath Go.Proofs.YtfnbadfehelleaaDoorW.PrintWords Go.Proofs.YtfnbadfehelleaaDoorW.PrintLast Go.Proofs.YtfnbadfehelleaaDoorW.PrintMore

theorem splitL_app : ∀ (a b : List UInt8), splitL (a ++ 47 :: b) = splitL a ++ splitL b
  | [], b => by simp [splitL]
  | c :: a, b => by
    have ih := splitL_app a b
    rw [List.cons_append, splitL, splitL]
    by_cases hc : c = 47
    · rw [if_pos hc, if_pos hc, ih]; rfl
    · rw [if_neg hc, if_neg hc, ih]
      obtain ⟨h, t, e⟩ := splitL_ne a
      rw [e]; rfl
theorem splitL_no : ∀ (l : List UInt8), ∀ n ∈ splitL l, (47 : UInt8) ∉ n
  | [], n, h => by simp [splitL] at h; simp [h]
  | c :: r, n, h => by
    have ih := splitL_no r
    rw [splitL] at h
    by_cases hc : c = 47
    · rw [if_pos hc] at h
      rcases List.mem_cons.1 h with rfl | h
      · simp
      · exact ih n h
    · rw [if_neg hc] at h
      obtain ⟨a, b, e⟩ := splitL_ne r
      rw [e, cons1] at h
      rw [e] at ih
      rcases List.mem_cons.1 h with rfl | h
      · intro hm
        rcases List.mem_cons.1 hm with e2 | hm
        · exact hc e2.symm
        · exact ih a (by simp) hm
      · exact ih n (by simp [h])
theorem splitL_jn : ∀ (L : List (List UInt8)), L ≠ [] → (∀ n ∈ L, (47 : UInt8) ∉ n) → splitL (jn [47] L) = L
  | [], h, _ => absurd rfl h
  | [x], _, h => splitL_one x (h x (by simp))
  | x :: y :: r, _, h => by
    have ih := splitL_jn (y :: r) (by simp) (fun n hn => h n (by simp [hn]))
    rw [jn, show x ++ [47] ++ jn [47] (y :: r) = x ++ 47 :: jn [47] (y :: r) by simp, splitL_cut x _ (h x (by simp)), ih]
theorem jn_splitL : ∀ (s : List UInt8), jn [47] (splitL s) = s
  | [] => rfl
  | c :: r => by
    have ih := jn_splitL r
    obtain ⟨h, t, e⟩ := splitL_ne r
    rw [splitL]
    by_cases hc : c = 47
    · rw [if_pos hc, e, jn, ← e, ih, hc]; rfl
    · rw [if_neg hc, e, cons1]
      rw [e] at ih
      cases t with
      | nil => rw [jn] at ih ⊢; rw [ih]
      | cons y t => rw [jn] at ih ⊢; rw [← ih]; simp
theorem clN_app : ∀ (x a y : List (List UInt8)), clN a (x ++ y) = (clN a x).bind fun b => clN b y
  | [], a, y => rfl
  | n :: x, a, y => by
    rw [List.cons_append, clN, clN]
    by_cases h1 : n = [] ∨ n = [46]
    · rw [if_pos h1, if_pos h1]; exact clN_app x a y
    · rw [if_neg h1, if_neg h1]
      by_cases h2 : n = [46, 46]
      · rw [if_pos h2, if_pos h2]
        by_cases h3 : a = []
        · rw [if_pos h3, if_pos h3]; rfl
        · rw [if_neg h3, if_neg h3]; exact clN_app x _ y
      · rw [if_neg h2, if_neg h2]; exact clN_app x _ y
def mild (n : List UInt8) : Prop := n ≠ [46] ∧ n ≠ [46, 46]
def full (L : List (List UInt8)) : List (List UInt8) := L.filter (fun n => !n.isEmpty)
theorem clN_mild : ∀ (L a : List (List UInt8)), (∀ n ∈ L, mild n) → clN a L = some (a ++ full L)
  | [], a, _ => by rw [clN]; simp [full]
  | n :: L, a, h => by
    have hn := h n (by simp)
    have ih := fun a => clN_mild L a (fun x hx => h x (by simp [hx]))
    rw [clN]
    by_cases h1 : n = []
    · rw [if_pos (.inl h1), ih, h1]; rfl
    · rw [if_neg (fun e => e.elim h1 hn.1), if_neg hn.2, ih]
      have : (!n.isEmpty) = true := by cases n with
        | nil => exact absurd rfl h1
        | cons _ _ => rfl
      simp only [full, List.filter_cons, this, if_true]
      simp
theorem mild_nil : mild [] := ⟨by simp, by simp⟩
theorem full_app (a b : List (List UInt8)) : full (a ++ b) = full a ++ full b := List.filter_append ..
theorem clN_jn1 (L a : List (List UInt8)) (h : ∀ n ∈ L, mild n) (hn : ∀ n ∈ L, (47 : UInt8) ∉ n) : clN a (splitL (jn [47] L)) = some (a ++ full L) := by
  cases L with
  | nil => exact clN_mild [[]] a (fun n hn => by simp at hn; rw [hn]; exact mild_nil)
  | cons x r => rw [splitL_jn _ (by simp) hn]; exact clN_mild _ a h
theorem clN_jn2 : ∀ (L a : List (List UInt8)), (∀ n ∈ L, mild n) → (∀ n ∈ L, (47 : UInt8) ∉ n) → clN a (splitL (jn [47, 47] L)) = some (a ++ full L)
  | [], a, h, hn => clN_mild [[]] a (fun n hn => by simp at hn; rw [hn]; exact mild_nil)
  | [x], a, h, hn => by
    rw [jn, splitL_one x (hn x (by simp))]
    exact clN_mild [x] a h
  | x :: y :: r, a, h, hn => by
    have ih := fun a => clN_jn2 (y :: r) a (fun n hx => h n (by simp [hx])) (fun n hx => hn n (by simp [hx]))
    rw [jn, show x ++ [47, 47] ++ jn [47, 47] (y :: r) = x ++ 47 :: ([] ++ 47 :: jn [47, 47] (y :: r)) by simp, splitL_app, splitL_app, splitL_one x (hn x (by simp)), clN_app,
      clN_mild [x] a (fun n hx => h n (by simp at hx; simp [hx])), Option.bind_some, clN_app]
    rw [show splitL [] = [[]] from rfl, clN_mild [[]] _ (fun n hx => by simp at hx; rw [hx]; exact mild_nil), Option.bind_some, ih]
    have e1 : full [[]] = [] := rfl
    have e2 : full (x :: y :: r) = full [x] ++ full (y :: r) := full_app [x] (y :: r)
    rw [e1, e2, List.append_nil, List.append_assoc]
theorem kind_mild (n : List UInt8) (h : kindN n ≠ 0) : n ≠ [] ∧ mild n :=
  ⟨fun e => h (by rw [e]; rfl), fun e => h (by rw [e]; rfl), fun e => h (by rw [e]; rfl)⟩
theorem path_names (c : List UInt8) (h : (kindP c).2 = 0) : (∀ n ∈ splitL c, mild n) ∧ jn [47] (full (splitL c)) = c := by
  obtain ⟨_, ⟨h1, _⟩ | ⟨h1, _, p, n, h2, h3, h4, h5⟩⟩ := kindP_ok c h
  · rw [h1]
    exact ⟨fun n hn => by simp [splitL] at hn; rw [hn]; exact mild_nil, rfl⟩
  · have hall : ∀ x ∈ splitL c, kindN x ≠ 0 := by
      intro x hx
      rw [h2] at hx
      rcases List.mem_append.1 hx with hx | hx
      · exact (h5 x hx).1
      · simp at hx; rw [hx, h3]; exact h4
    refine ⟨fun x hx => (kind_mild x (hall x hx)).2, ?_⟩
    have : full (splitL c) = splitL c := by
      apply List.filter_eq_self.2
      intro x hx
      cases x with
      | nil => exact absurd rfl (kind_mild [] (hall [] hx)).1
      | cons _ _ => rfl
    rw [this, jn_splitL]
theorem sureP_ok (c : List UInt8) (h : (kindP c).2 = 0) : sureP c = (c, 0) := if_pos h
theorem clean_path (c : List UInt8) (h : (kindP c).2 = 0) : cleanP c = (c, 0) := by
  obtain ⟨h1, h2⟩ := path_names c h
  have h3 := (kindP_ok c h).1
  unfold cleanP
  rw [if_neg (by omega), clN_mild _ _ h1]
  show sureP (jn [47] (full (splitL c))) = _
  rw [h2, sureP_ok c h]
theorem sureP_of (x : List UInt8) (h : (sureP x).2 = 0) : (sureP x).1 = x ∧ (kindP x).2 = 0 := by
  unfold sureP at h ⊢
  by_cases hk : (kindP x).2 = 0
  · rw [if_pos hk]; exact ⟨rfl, hk⟩
  · rw [if_neg hk] at h; exact absurd h hk
theorem sureP_bad (x : List UInt8) (h : (sureP x).2 ≠ 0) : (sureP x).1 = [] := by
  unfold sureP at h ⊢
  by_cases hk : (kindP x).2 = 0
  · rw [if_pos hk] at h; exact absurd rfl h
  · rw [if_neg hk]
theorem clean_ok (s : List UInt8) (h : (cleanP s).2 = 0) : (kindP (cleanP s).1).2 = 0 := by
  unfold cleanP at h ⊢
  by_cases hl : 4096 < s.length
  · rw [if_pos hl] at h; exact absurd h (by decide)
  · rw [if_neg hl] at h ⊢
    cases hc : clN [] (splitL s) with
    | none => rw [hc] at h; exact absurd (show (18 : Int) = 0 from h) (by decide)
    | some ns =>
      rw [hc] at h
      have := sureP_of _ h
      show (kindP (sureP (jn [47] ns)).1).2 = 0
      rw [this.1]; exact this.2
theorem clean_bad (s : List UInt8) (h : (cleanP s).2 ≠ 0) : (cleanP s).1 = [] := by
  unfold cleanP at h ⊢
  by_cases hl : 4096 < s.length
  · rw [if_pos hl]
  · rw [if_neg hl] at h ⊢
    cases hc : clN [] (splitL s) with
    | none => rfl
    | some ns => rw [hc] at h; exact sureP_bad _ h
theorem clean_needless (c : List UInt8) (h : (kindP c).2 = 0) (k : Nat) (T : List UInt8) (hT : T = [47, 47] ++ jn [47] ((splitL c).take k) ++ [47, 46, 47, 120, 47, 46, 46, 47] ++ jn [47, 47] ((splitL c).drop k) ++ [47]) (hl : T.length ≤ 4096) : cleanP T = (c, 0) := by
  obtain ⟨h1, h2⟩ := path_names c h
  have hno := splitL_no c
  unfold cleanP
  rw [if_neg (by omega)]
  have e : T = [] ++ 47 :: ([] ++ 47 :: (jn [47] ((splitL c).take k) ++ 47 :: ([46] ++ 47 :: ([120] ++ 47 :: ([46, 46] ++ 47 :: (jn [47, 47] ((splitL c).drop k) ++ 47 :: [])))))) := by rw [hT]; simp
  have hm1 : ∀ a, clN a (splitL []) = some a := fun a => by rw [show splitL [] = [[]] from rfl]; exact (clN_mild [[]] a (fun n hx => by simp at hx; rw [hx]; exact mild_nil)).trans (by simp [full])
  have hm2 : ∀ a, clN a (splitL [46]) = some a := fun a => by rw [show splitL [46] = [[46]] from rfl, clN, if_pos (.inr rfl), clN]
  have hm3 : ∀ a, clN a (splitL [120]) = some (a ++ [[120]]) := fun a => by rw [show splitL [120] = [[120]] from rfl, clN, if_neg (by decide), if_neg (by decide), clN]
  have hm4 : ∀ a, clN (a ++ [[120]]) (splitL [46, 46]) = some a := fun a => by rw [show splitL [46, 46] = [[46, 46]] from rfl, clN, if_neg (by decide), if_pos rfl, if_neg (by simp), clN, List.dropLast_concat]
  rw [e]
  rw [splitL_app, splitL_app, splitL_app, splitL_app, splitL_app, splitL_app, splitL_app]
  rw [clN_app, hm1, Option.bind_some, clN_app, hm1, Option.bind_some, clN_app, clN_jn1 _ _ (fun n hn => h1 n (List.mem_of_mem_take hn)) (fun n hn => hno n (List.mem_of_mem_take hn)), Option.bind_some, clN_app, hm2, Option.bind_some, clN_app, hm3, Option.bind_some, clN_app, hm4, Option.bind_some, clN_app, clN_jn2 _ _ (fun n hn => h1 n (List.mem_of_mem_drop hn)) (fun n hn => hno n (List.mem_of_mem_drop hn)), Option.bind_some, hm1]
  show sureP (jn [47] ([] ++ full ((splitL c).take k) ++ full ((splitL c).drop k))) = _
  rw [List.nil_append, ← full_app, List.take_append_drop, h2, sureP_ok c h]
end Go.Proofs.YtfnbadfehelleaaDoor.PP
