/- What is moved there and back is as it was; what is moved lies where it was moved to, as deep as it lay. For every three texts. -/
import Derived.Test.YtfnbadfehelleaaDoorPathMove
namespace Go.Proofs.YtfnbadfehelleaaDoor.Pure
open Go.RowKit Go.Proofs.YtfnbadfehelleaaDoor.MPb Go.Proofs.YtfnbadfehelleaaDoorW.PrintWords Go.Proofs.YtfnbadfehelleaaDoorW.PrintLast Go.Proofs.YtfnbadfehelleaaDoorW.PrintMore Go.Proofs.YtfnbadfehelleaaDoor.PP

theorem moved_bad (p a b : List UInt8) (h : (movedP p a b).2 ≠ 0) : (movedP p a b).1 = [] := by
  unfold movedP at h ⊢
  split
  · rfl
  · rename_i h1
    rw [if_neg h1] at h
    split
    · rename_i h2; rw [if_pos h2] at h; exact sureP_bad _ h
    · rename_i h2
      rw [if_neg h2] at h
      split
      · rfl
      · rename_i h3
        rw [if_neg h3] at h
        split
        · rename_i h4; rw [if_pos h4] at h; exact absurd rfl h
        · rename_i h4
          rw [if_neg h4] at h
          split
          · rename_i h5; rw [if_pos h5] at h; exact sureP_bad _ h
          · rename_i h5; rw [if_neg h5] at h; exact sureP_bad _ h
theorem moved_ok (p a b : List UInt8) (h : (movedP p a b).2 = 0) : (kindP a).2 = 0 ∧ (kindP b).2 = 0 ∧ (a = [] → b = []) ∧
    ((p = a ∧ (movedP p a b).1 = b) ∨ (p ≠ a ∧ a ∈ upsL p ∧ ((a = [] ∧ (movedP p a b).1 = p) ∨ (a ≠ [] ∧ b = []) ∨ (a ≠ [] ∧ b ≠ [] ∧ (movedP p a b).1 = b ++ p.drop a.length ∧ (kindP (b ++ p.drop a.length)).2 = 0)))) := by
  unfold movedP at h ⊢
  by_cases h1 : (kindP a).2 = 0 ∧ (kindP b).2 = 0 ∧ (a = [] → b = [])
  · refine ⟨h1.1, h1.2.1, h1.2.2, ?_⟩
    rw [if_neg (fun e => e h1)] at h ⊢
    by_cases h2 : p = a
    · rw [if_pos h2]; exact .inl ⟨h2, by rw [sureP_ok b h1.2.1]⟩
    · rw [if_neg h2] at h ⊢
      by_cases h3 : a ∈ upsL p
      · rw [if_neg (fun e => e h3)] at h ⊢
        refine .inr ⟨h2, h3, ?_⟩
        by_cases h4 : a = []
        · rw [if_pos h4]; exact .inl ⟨h4, rfl⟩
        · rw [if_neg h4] at h ⊢
          by_cases h5 : b = []
          · exact .inr (.inl ⟨h4, h5⟩)
          · rw [if_neg h5] at h ⊢
            have := sureP_of _ h
            exact .inr (.inr ⟨h4, h5, this.1, this.2⟩)
      · rw [if_pos h3] at h; exact absurd (show (18 : Int) = 0 from h) (by decide)
  · rw [if_pos h1] at h; exact absurd (show (2 : Int) = 0 from h) (by decide)
theorem moved_kind (p a b : List UInt8) (h : (movedP p a b).2 = 0) : (kindP (movedP p a b).1).2 = 0 := by
  unfold movedP at h ⊢
  by_cases h1 : (kindP a).2 = 0 ∧ (kindP b).2 = 0 ∧ (a = [] → b = [])
  · rw [if_neg (fun e => e h1)] at h ⊢
    by_cases h2 : p = a
    · rw [if_pos h2] at h ⊢; have := sureP_of _ h; rw [this.1]; exact this.2
    · rw [if_neg h2] at h ⊢
      by_cases h3 : a ∈ upsL p
      · rw [if_neg (fun e => e h3)] at h ⊢
        by_cases h4 : a = []
        · rw [if_pos h4]; exact ((mem_ups a p).1 h3).1
        · rw [if_neg h4] at h ⊢
          by_cases h5 : b = []
          · rw [if_pos h5] at h ⊢; have := sureP_of _ h; rw [this.1]; exact this.2
          · rw [if_neg h5] at h ⊢; have := sureP_of _ h; rw [this.1]; exact this.2
      · rw [if_pos h3] at h; exact absurd (show (18 : Int) = 0 from h) (by decide)
  · rw [if_pos h1] at h; exact absurd (show (2 : Int) = 0 from h) (by decide)
theorem names_len (s : List UInt8) (h : (kindP s).2 = 0) : (Ext.namesP s).length ≤ 8 := by
  unfold Ext.namesP
  by_cases hn : s = []
  · rw [if_pos hn]; decide
  · rw [if_neg hn, if_pos h]
    obtain ⟨_, ⟨h1, _⟩ | ⟨_, h8, _⟩⟩ := kindP_ok s h
    · exact absurd h1 hn
    · exact h8
theorem names_eq (s : List UInt8) (h : (kindP s).2 = 0) (hn : s ≠ []) : Ext.namesP s = splitL s := by
  unfold Ext.namesP
  rw [if_neg hn, if_pos h]
/-- There and back. -/
theorem back (p a b : List UInt8) (h : (movedP p a b).2 = 0) (hx : ¬ (b = [] ∧ a ≠ [])) : movedP (movedP p a b).1 b a = (p, 0) ∧ (kindP (movedP p a b).1).2 = 0 ∧ (kindP p).2 = 0 ∧
    ((Ext.namesP (movedP p a b).1).length : Int) - (Ext.namesP b).length = ((Ext.namesP p).length : Int) - (Ext.namesP a).length ∧ ((movedP p a b).1 = b ∨ b ∈ upsL (movedP p a b).1) := by
  obtain ⟨ka, kb, g, hc⟩ := moved_ok p a b h
  have hab : b = [] → a = [] := fun e => Classical.byContradiction fun e2 => hx ⟨e, e2⟩
  rcases hc with ⟨h1, h2⟩ | ⟨h1, h2, h3⟩
  · rw [h2]
    refine ⟨?_, kb, by rw [h1]; exact ka, by rw [h1]; omega, .inl rfl⟩
    unfold movedP
    rw [if_neg (fun e => e ⟨kb, ka, hab⟩), if_pos rfl, sureP_ok a ka, h1]
  · obtain ⟨kp, pn, _⟩ := (mem_ups a p).1 h2
    rcases h3 with ⟨h3, h4⟩ | ⟨h3, h4⟩ | ⟨h3, h4, h5, h6⟩
    · have hb := g h3
      rw [h4, hb, h3]
      refine ⟨?_, kp, kp, rfl, .inr (by rw [← h3]; exact h2)⟩
      unfold movedP
      rw [if_neg (fun e => e ⟨by rw [← h3]; exact ka, by rw [← h3]; exact ka, fun _ => rfl⟩), if_neg pn, if_neg (fun e => e (by rw [← h3]; exact h2)), if_pos rfl]
    · exact absurd ⟨h4, h3⟩ hx
    · obtain ⟨r, hr⟩ := ups_len a p h2 h3
      have hd : p.drop a.length = 47 :: r := by rw [hr]; simp
      rw [h5, hd]
      rw [hd] at h6
      have mn : b ++ 47 :: r ≠ [] := by simp
      have sm := splitL_app b r
      have sp := splitL_app a r
      rw [← hr] at sp
      have hr0 : 0 < (splitL r).length := by
        obtain ⟨x, y, e⟩ := splitL_ne r
        rw [e]; simp
      have hup : b ∈ upsL (b ++ 47 :: r) := by
        rw [mem_ups]
        refine ⟨h6, mn, (splitL b).length, by rw [sm, List.length_append]; omega, ?_⟩
        rw [sm, List.take_left, jn_splitL]
      refine ⟨?_, h6, kp, ?_, .inr hup⟩
      · unfold movedP
        have hne : b ++ 47 :: r ≠ b := fun e => by
          have := congrArg List.length e
          simp at this
        rw [if_neg (fun e => e ⟨kb, ka, hab⟩), if_neg hne, if_neg (fun e => e hup), if_neg h4, if_neg h3]
        have : (b ++ 47 :: r).drop b.length = 47 :: r := by simp
        rw [this, ← hr, sureP_ok p kp]
      · rw [names_eq _ h6 mn, names_eq _ kb h4, names_eq _ kp pn, names_eq _ ka h3, sm, sp, List.length_append, List.length_append]
        omega
theorem PathThere : ∀ (a0 : ByteArray) (a1 : ByteArray) (a2 : ByteArray), a0.size ≤ 140737488351232 → a1.size ≤ 140737488351232 → a2.size ≤ 140737488351232 → ∃ k, aquiferlaw05_PathThere.f k a0 a1 a2 = some true := by
  intro a0 a1 a2 _ _ _
  refine ⟨9, ?_⟩
  obtain ⟨p, hp, hp3⟩ := few_eq a0
  obtain ⟨a, ha, ha3⟩ := few_eq a1
  obtain ⟨b, hb, hb3⟩ := few_eq a2
  have fp : aquiferlaw05_few.f a0 = some p := hp
  have fa : aquiferlaw05_few.f a1 = some a := ha
  have fb : aquiferlaw05_few.f a2 = some b := hb
  have hw : aquiferlaw05_works.f = some true := rfl
  have bad := moved_bad p.data.toList a.data.toList b.data.toList
  have ok := moved_ok p.data.toList a.data.toList b.data.toList
  have mk := moved_kind p.data.toList a.data.toList b.data.toList
  have bk := back p.data.toList a.data.toList b.data.toList
  unfold aquiferlaw05_PathThere.f
  rw [fp, fa, fb, Option.bind_some, Option.bind_some, Option.bind_some, Moved_eq p a b hp3 ha3 hb3 9 (by omega), Option.bind_some]
  rcases hm : movedP p.data.toList a.data.toList b.data.toList with ⟨m, e⟩
  rw [hm] at bad ok bk mk
  have t2 : two (m, e) = (bs m, e) := rfl
  rw [t2]
  by_cases he : e = 0
  · rw [if_pos (show (bs m, e).2 = 0 from he)]
    obtain ⟨ka, kb, g, hc⟩ := ok he
    by_cases hx : b.data.toList = [] ∧ a.data.toList ≠ []
    · obtain ⟨hb0, ha0⟩ := hx
      have hms : (bs m).size ≤ 300 := Nat.le_trans (kindP_ok m (mk he)).1 (by decide)
      show ((path_Moved.f 9 (bs m) b a).bind _) = _
      have h2 : movedP m b.data.toList a.data.toList = ([], 2) := by
        unfold movedP
        exact if_pos (fun h => ha0 (h.2.2 hb0))
      rw [Moved_eq (bs m) b a hms hb3 ha3 9 (by omega), Option.bind_some, bs_data, h2, if_pos ((toList_nil b).2 hb0), nil_ne]
      have e1 : (!a.data.toList.isEmpty) = true := by
        cases hh : a.data.toList with
        | nil => exact absurd hh ha0
        | cons _ _ => rfl
      rw [e1]
      show aquiferlaw05_PathThere.j0 9 p a b (bs m) (bs []) 2 true = some true
      rw [aquiferlaw05_PathThere.j0, if_pos rfl, if_pos rfl, hw]
      rfl
    · obtain ⟨b1, b2, b3, b4, b5⟩ := bk he hx
      have hms : (bs m).size ≤ 300 := Nat.le_trans (kindP_ok m b2).1 (by decide)
      show ((path_Moved.f 9 (bs m) b a).bind _) = _
      rw [Moved_eq (bs m) b a hms hb3 ha3 9 (by omega), Option.bind_some, bs_data, b1]
      have goal : aquiferlaw05_PathThere.j0 9 p a b (bs m) (bs p.data.toList) 0 false = some true := by
        rw [aquiferlaw05_PathThere.j0, if_neg (by decide)]
        show ((some ((Ext.namesP (bs m).data.toList).map bs)).bind fun t141 => (some ((Ext.namesP b.data.toList).map bs)).bind fun t144 => (some ((Ext.namesP p.data.toList).map bs)).bind fun t147 => (some ((Ext.namesP a.data.toList).map bs)).bind fun t150 => _) = _
        rw [Option.bind_some, Option.bind_some, Option.bind_some, Option.bind_some, List.length_map, List.length_map, List.length_map, List.length_map, bs_data]
        have n1 := names_len m b2
        have n2 := names_len _ kb
        have n3 := names_len _ b3
        have n4 := names_len _ ka
        change ((Ext.namesP m).length : Int) - (Ext.namesP b.data.toList).length = ((Ext.namesP p.data.toList).length : Int) - (Ext.namesP a.data.toList).length at b4
        rw [if_pos (show (bs p.data.toList).toList = p.toList from rfl), if_pos rfl, b4, if_pos rfl]
        by_cases hmb : m = b.data.toList
        · rw [if_pos (show (bs m).toList = b.toList by rw [hmb]; rfl), hw]; rfl
        · have hu : b.data.toList ∈ upsL m := b5.resolve_left hmb
          rw [if_neg (show ¬ (bs m).toList = b.toList by rw [ByteArray.toList_eq, ByteArray.toList_eq]; exact hmb)]
          show ((some (decide (b.data.toList ∈ upsL m))).bind _) = _
          rw [Option.bind_some, if_pos (decide_eq_true hu), hw]
          rfl
      by_cases hbn : b.data.toList = []
      · have han : a.data.toList = [] := Classical.byContradiction fun h => hx ⟨hbn, h⟩
        rw [if_pos ((toList_nil b).2 hbn), nil_ne, han]
        exact goal
      · rw [if_neg (fun h => hbn ((toList_nil b).1 h))]
        exact goal
  · rw [if_neg (show ¬ (bs m, e).2 = 0 from he)]
    have : m = [] := bad he
    rw [this, if_pos (show (bs [], e).1.toList = [] by rw [ByteArray.toList_eq]; rfl), hw]
    rfl
end Go.Proofs.YtfnbadfehelleaaDoor.Pure
