/- Copies of files, in plain words: what makes them unlike. -/
import Derived.Test.YtfnbadfehelleaaDoorPathRef3
set_option linter.unusedSimpArgs false
set_option linter.unusedVariables false
namespace Go.Proofs.YtfnbadfehelleaaDoor.PP
open Go.RowKit Go.Proofs.YtfnbadfehelleaaDoor.MPath Go.Proofs.YtfnbadfehelleaaDoorW.PrintWords Go.Proofs.YtfnbadfehelleaaDoorW.PrintLast Go.Proofs.YtfnbadfehelleaaDoorW.PrintMore

theorem uniq (c : UInt8) : ∀ (u u' v v' : List UInt8), u ++ c :: v = u' ++ c :: v' → c ∉ v → c ∉ v' → u = u' ∧ v = v'
  | [], [], v, v', e, _, _ => ⟨rfl, by simpa using e⟩
  | [], d :: u', v, v', e, hv, _ => by simp at e; exact absurd (by rw [e.2]; simp) hv
  | d :: u, [], v, v', e, _, hv' => by simp at e; exact absurd (by rw [← e.2]; simp) hv'
  | d :: u, d' :: u', v, v', e, hv, hv' => by
    simp at e
    obtain ⟨h1, h2⟩ := uniq c u u' v v' e.2 hv hv'
    exact ⟨by rw [e.1, h1], h2⟩
def valD (l : List UInt8) : Nat := l.foldl (fun a c => 10 * a + (c.toNat - 48)) 0
theorem dec_facts : ∀ n : Fin 1000, 1 ≤ n.val → ((decL (n.val : Int)).all (fun c => decide (48 ≤ c ∧ c ≤ 57)) = true ∧ valD (decL (n.val : Int)) = n.val ∧ (decL (n.val : Int)).length ≠ 0) := by decide +kernel
theorem dec_of (n : Int) (h1 : 1 ≤ n) (h2 : n ≤ 999) : (46 : UInt8) ∉ decL n ∧ (47 : UInt8) ∉ decL n ∧ (valD (decL n) : Int) = n := by
  have := dec_facts ⟨n.toNat, by omega⟩ (by show 1 ≤ n.toNat; omega)
  have e : ((n.toNat : Nat) : Int) = n := by omega
  simp only [e] at this
  obtain ⟨ha, hv, _⟩ := this
  rw [List.all_eq_true] at ha
  refine ⟨fun h => ?_, fun h => ?_, by rw [hv, e]⟩
  · have := ha _ h
    exact absurd this (by decide)
  · have := ha _ h
    exact absurd this (by decide)
theorem dec_inj (x y : Int) (hx1 : 1 ≤ x) (hx2 : x ≤ 999) (hy1 : 1 ≤ y) (hy2 : y ≤ 999) (h : decL x = decL y) : x = y := by
  rw [← (dec_of x hx1 hx2).2.2, ← (dec_of y hy1 hy2).2.2, h]
theorem copy_bad (p : List UInt8) (n : Int) (h : (copyP p n).2 ≠ 0) : (copyP p n).1 = [] := by
  unfold copyP at h ⊢
  by_cases hc : isP p 2 = true ∧ 1 ≤ n ∧ n ≤ 999
  · rw [if_pos hc] at h ⊢
    exact sureP_bad _ h
  · rw [if_neg hc]
/-- What a copy's path is made of. -/
theorem copy_ok (p : List UInt8) (n : Int) (h : (copyP p n).2 = 0) : 1 ≤ n ∧ n ≤ 999 ∧ ∃ u v, p = u ++ 46 :: v ∧ (46 : UInt8) ∉ v ∧ (47 : UInt8) ∉ v ∧ (kindP p).2 = 0 ∧ (copyP p n).1 = u ++ 126 :: (decL n ++ 46 :: v) ∧ (kindP (copyP p n).1).2 = 0 ∧
    ((47 : UInt8) ∉ u ∨ ∃ U V, u = U ++ 47 :: V ∧ (47 : UInt8) ∉ V) := by
  unfold copyP at h ⊢
  by_cases hc : isP p 2 = true ∧ 1 ≤ n ∧ n ≤ 999
  · rw [if_pos hc] at h ⊢
    obtain ⟨hi, h1, h2⟩ := hc
    refine ⟨h1, h2, ?_⟩
    have hk2 : (kindP p).2 = 0 ∧ (kindP p).1 = 2 := by
      unfold isP at hi
      simp at hi
      exact hi
    obtain ⟨hs1, hs2⟩ := sureP_of _ h
    rw [hs1]
    obtain ⟨_, h⟩ := kindP_ok p hk2.1
    rcases h with ⟨_, h⟩ | ⟨_, _, P, m, h3, h4, _, h5⟩
    · rw [hk2.2] at h; exact absurd h (by decide)
    · have hdm : (46 : UInt8) ∈ m := kind_dot m (by rw [h4]; exact hk2.2)
      have e46 : ((46 : UInt8).toNat : Int) = 46 := rfl
      rcases last_spec (bs p) 46 with ⟨_, hn⟩ | ⟨u, v, g1, g2, g3⟩
      · exact absurd (splitL_mem p 46 m (by rw [h3]; simp) hdm) hn
      · rw [e46] at g3
        rw [bs_data] at g1
        rw [g3] at hs2 ⊢
        clear g3
        have e2 : ((u.length : Nat) : Int).toNat = u.length := by omega
        have e3 : p.take u.length = u := by rw [g1]; simp
        have e4 : p.drop u.length = 46 :: v := by rw [g1]; simp
        rw [e2, e3, e4] at hs2 ⊢
        have e5 : u ++ [126] ++ decL n ++ 46 :: v = u ++ 126 :: (decL n ++ 46 :: v) := by simp
        rw [e5] at hs2 ⊢
        have hsl : (47 : UInt8) ∉ v ∧ ((47 : UInt8) ∉ u ∨ ∃ U V, u = U ++ 47 :: V ∧ (47 : UInt8) ∉ V) := by
          rcases last_spec (bs p) 47 with ⟨_, hn⟩ | ⟨U, W, f1, f2, _⟩
          · rw [bs_data, g1] at hn
            exact ⟨fun h => hn (by simp [h]), .inl (fun h => hn (by simp [h]))⟩
          · rw [bs_data] at f1
            have hW : W = m := by
              rw [f1, splitL_last U W f2] at h3
              have := (List.append_inj' h3 rfl).2
              simpa using this
            have hdW : (46 : UInt8) ∈ W := by rw [hW]; exact hdm
            rcases last_spec (bs W) 46 with ⟨_, hn⟩ | ⟨V1, V2, k1, k2, _⟩
            · exact absurd hdW hn
            · rw [bs_data] at k1
              have := uniq 46 u (U ++ 47 :: V1) v V2 (by rw [← g1, f1, k1]; simp) g2 k2
              rw [k1] at f2
              exact ⟨by rw [this.2]; exact fun h => f2 (by simp [h]), .inr ⟨U, V1, this.1, fun h => f2 (by simp [h])⟩⟩
        exact ⟨u, v, g1, g2, hsl.1, hk2.1, rfl, hs2, hsl.2⟩
  · rw [if_neg hc] at h
    exact absurd h (by decide)
theorem parent_cut (U V : List UInt8) (hV : (47 : UInt8) ∉ V) (h : (kindP (U ++ 47 :: V)).2 = 0) : parentP (U ++ 47 :: V) = (U, true) := by
  unfold parentP
  have e47 : ((47 : UInt8).toNat : Int) = 47 := rfl
  have hl := last_cut U V 47 hV
  rw [e47] at hl
  rw [if_neg (by simp), if_pos h, hl, Int.toNat_natCast]
  simp
theorem parent_none (V : List UInt8) (hV : (47 : UInt8) ∉ V) (hn : V ≠ []) (h : (kindP V).2 = 0) : parentP V = ([], true) := by
  unfold parentP
  rw [if_neg hn, if_pos h]
  have e47 : ((47 : UInt8).toNat : Int) = 47 := rfl
  rcases last_spec (bs V) 47 with ⟨h1, _⟩ | ⟨u, v, h1, _, _⟩
  · rw [e47] at h1
    rw [h1]
    rfl
  · exact absurd (by rw [← bs_data V, h1]; simp) hV
theorem copy_parent (p : List UInt8) (n : Int) (h : (copyP p n).2 = 0) : parentP (copyP p n).1 = parentP p ∧ (copyP p n).1 ≠ p := by
  obtain ⟨h1, h2, u, v, e, hv1, hv2, hk, ec, hkc, hu⟩ := copy_ok p n h
  obtain ⟨d1, d2, _⟩ := dec_of n h1 h2
  rw [ec] at hkc ⊢
  constructor
  · rcases hu with hu | ⟨U, V, rfl, hV⟩
    · rw [e] at hk ⊢
      exact (parent_none _ (by simp [hu, d2, hv2]) (by simp) hkc).trans (parent_none _ (by simp [hu, hv2]) (by simp) hk).symm
    · have e1 : U ++ 47 :: V ++ 126 :: (decL n ++ 46 :: v) = U ++ 47 :: (V ++ 126 :: (decL n ++ 46 :: v)) := by simp
      have e2 : U ++ 47 :: V ++ 46 :: v = U ++ 47 :: (V ++ 46 :: v) := by simp
      rw [e2] at e
      rw [e1] at hkc ⊢
      rw [e] at hk ⊢
      exact (parent_cut _ _ (by simp [hV, d2, hv2]) hkc).trans (parent_cut _ _ (by simp [hV, hv2]) hk).symm
  · intro e2
    have := congrArg List.length e2
    rw [e] at this
    simp only [List.length_append, List.length_cons] at this
    omega
theorem copy_num (p : List UInt8) (x y : Int) (hx : (copyP p x).2 = 0) (hy : (copyP p y).2 = 0) : (copyP p x).1 = (copyP p y).1 ↔ x = y := by
  constructor
  · intro h
    obtain ⟨a1, a2, u, v, e, hv1, hv2, hk, ec, hkc, hu⟩ := copy_ok p x hx
    obtain ⟨b1, b2, u', v', e', hv1', hv2', hk', ec', hkc', hu'⟩ := copy_ok p y hy
    obtain ⟨rfl, rfl⟩ := uniq 46 u u' v v' (by rw [← e, ← e']) hv1 hv1'
    rw [ec, ec'] at h
    have h := List.append_cancel_left h
    have h := (List.cons.inj h).2
    exact dec_inj x y a1 a2 b1 b2 (List.append_cancel_right h)
  · intro h
    rw [h]
theorem copy_file (p q : List UInt8) (x : Int) (hp : (copyP p x).2 = 0) (hq : (copyP q x).2 = 0) : (copyP p x).1 = (copyP q x).1 ↔ p = q := by
  constructor
  · intro h
    obtain ⟨a1, a2, u, v, e, hv1, hv2, hk, ec, hkc, hu⟩ := copy_ok p x hp
    obtain ⟨b1, b2, u', v', e', hv1', hv2', hk', ec', hkc', hu'⟩ := copy_ok q x hq
    rw [ec, ec'] at h
    have h2 : (u ++ 126 :: decL x) ++ 46 :: v = (u' ++ 126 :: decL x) ++ 46 :: v' := by simpa using h
    obtain ⟨g1, g2⟩ := uniq 46 _ _ v v' h2 hv1 hv1'
    have := List.append_cancel_right g1
    rw [e, e', this, g2]
  · intro h
    rw [h]
end Go.Proofs.YtfnbadfehelleaaDoor.PP
