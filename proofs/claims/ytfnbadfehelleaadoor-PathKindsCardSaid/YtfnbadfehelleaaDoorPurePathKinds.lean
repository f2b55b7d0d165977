/- Any text is a path of the document's kind, or none for its reason; it is cleaned, and parted, as it says. For every text. -/
import Derived.Test.YtfnbadfehelleaaDoorMPbx4
import Derived.Test.YtfnbadfehelleaaDoorPathRef3
namespace Go.Proofs.YtfnbadfehelleaaDoor.Pure
open Go.RowKit Go.Proofs.YtfnbadfehelleaaDoor.MPb Go.Proofs.YtfnbadfehelleaaDoorW.PrintWords Go.Proofs.YtfnbadfehelleaaDoorW.PrintLast Go.Proofs.YtfnbadfehelleaaDoorW.PrintMore Go.Proofs.YtfnbadfehelleaaDoor.PP

theorem same_loop (X : List (List UInt8)) (hX : X.length ≤ 100000) : ∀ (r p : List (List UInt8)) (k : Nat), X = p ++ r → r.length < k → aquiferref05_SameTexts.l0 k (X.map bs) (X.map bs) (p.length : Int) = some true := by
  intro r
  induction r with
  | nil =>
    intro p k hp hk
    obtain ⟨m, rfl, hm⟩ := up1 hk
    rw [List.append_nil] at hp
    rw [aquiferref05_SameTexts.l0, List.length_map, if_neg (by rw [hp]; omega)]
  | cons n r ih =>
    intro p k hp hk
    rw [List.length_cons] at hk
    obtain ⟨m, rfl, hm⟩ := up1 hk
    have hl := congrArg List.length hp
    rw [List.length_append, List.length_cons] at hl
    have e2 : (p ++ [n]).length = p.length + 1 := by simp
    rw [aquiferref05_SameTexts.l0, List.length_map, if_pos (by omega), if_pos (by omega), if_pos (by omega), if_pos rfl, wrap_succ p.length (by omega), ← e2]
    exact ih (p ++ [n]) m (by rw [hp]; simp) (by omega)
theorem same_eq (X : List (List UInt8)) (hX : X.length ≤ 100000) (k : Nat) (hk : X.length < k) : aquiferref05_SameTexts.f k (X.map bs) (X.map bs) = some true := by
  unfold aquiferref05_SameTexts.f
  rw [if_pos rfl]
  exact same_loop X hX X [] k rfl hk
theorem ups_len (s : List UInt8) : (upsL s).length ≤ 8 := by
  rw [ups_parts]
  unfold upsN
  rw [List.length_map, List.length_reverse, List.length_range]
  exact parts_len s
theorem PathKinds : ∀ (a0 : ByteArray), a0.size ≤ 140737488351232 → ∃ k, aquiferlaw05_PathKinds.f k a0 = some true := by
  intro a0 _
  refine ⟨100, ?_⟩
  obtain ⟨a, ha, ha3⟩ := few_eq a0
  have fa : aquiferlaw05_few.f a0 = some a := ha
  have hw : aquiferlaw05_works.f = some true := rfl
  have h1 : path_Kind.f a = some (kindP a.data.toList) := rfl
  have h2 : aquiferref05_Kind.f a = some (kindP a.data.toList) := rfl
  have h3 : path_Clean.f a = some (two (cleanP a.data.toList)) := rfl
  have h4 : aquiferref05_Clean.f a = some (two (cleanP a.data.toList)) := rfl
  have h5 : path_Parent.f a = some (bs (parentP a.data.toList).1, (parentP a.data.toList).2) := rfl
  have h6 : aquiferref05_Parent.f a = some (bs (parentP a.data.toList).1, (parentP a.data.toList).2) := rfl
  have h7 : path_Split.f a = some ((partsP a.data.toList).map bs) := rfl
  have h8 : aquiferref05_Split.f a = some ((partsP a.data.toList).map bs) := rfl
  have h9 : path_Name.f a = some (bs (nameP a.data.toList)) := rfl
  have h10 : aquiferref05_Name.f a = some (bs (nameP a.data.toList)) := rfl
  have hl := ups_len a.data.toList
  have h11 : aquiferlaw05_ups.f a 100 = some ((upsL a.data.toList).map bs) := by
    have e : (upsL a.data.toList).take (100 : Int).toNat = upsL a.data.toList := List.take_of_length_le (by show _ ≤ 100; omega)
    have : aquiferlaw05_ups.f a 100 = some (((upsL a.data.toList).take (100 : Int).toNat).map bs) := by
      unfold aquiferlaw05_ups.f Ext.aquiferlaw05_ups.f
      rw [if_pos ⟨by omega, by omega⟩]
    rw [this, e]
  have h12 : aquiferref05_Ups.f a = some ((upsL a.data.toList).map bs) := rfl
  have hp := parts_len a.data.toList
  unfold aquiferlaw05_PathKinds.f
  rw [fa, Option.bind_some, h1, h2, h3, h4, h5, h6, Option.bind_some, Option.bind_some, Option.bind_some, Option.bind_some, Option.bind_some, Option.bind_some]
  rw [if_pos rfl, if_pos rfl, if_pos rfl, if_pos rfl, h7, h8, Option.bind_some, Option.bind_some, same_eq _ (by omega) _ (by omega), Option.bind_some, if_pos rfl, if_pos rfl, if_pos (beq_self_eq_true _), h9, h10, Option.bind_some, Option.bind_some, if_pos rfl, h11, h12, Option.bind_some, Option.bind_some, same_eq _ (by omega) _ (by omega), Option.bind_some, if_pos rfl, hw]
  rfl
end Go.Proofs.YtfnbadfehelleaaDoor.Pure
