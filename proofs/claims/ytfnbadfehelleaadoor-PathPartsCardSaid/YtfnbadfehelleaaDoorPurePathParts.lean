/- A path is its parent, joined with its last name; it lies below each of its directories, and below nothing else. For every two texts. -/
import Derived.Test.YtfnbadfehelleaaDoorMPbx8
import Derived.Test.YtfnbadfehelleaaDoorPathRef3
namespace Go.Proofs.YtfnbadfehelleaaDoor.Pure
open Go.RowKit Go.Proofs.YtfnbadfehelleaaDoor.MPb Go.Proofs.YtfnbadfehelleaaDoorW.PrintWords Go.Proofs.YtfnbadfehelleaaDoorW.PrintLast Go.Proofs.YtfnbadfehelleaaDoorW.PrintMore Go.Proofs.YtfnbadfehelleaaDoor.PP

theorem ups_len' (s : List UInt8) : (upsL s).length = (partsP s).length := by
  rw [ups_parts]
  unfold upsN
  rw [List.length_map, List.length_reverse, List.length_range]
theorem ups_f (a : ByteArray) (n : Int) (h0 : 1 ≤ n) (h1 : n ≤ 1000) : aquiferlaw05_ups.f a n = some (((upsL a.data.toList).take n.toNat).map bs) := by
  unfold aquiferlaw05_ups.f Ext.aquiferlaw05_ups.f
  rw [if_pos ⟨h0, h1⟩]
theorem below_f (a b : ByteArray) : path_Below.f a b = some (decide (a.data.toList ∈ upsL b.data.toList)) := rfl
theorem parts_of (s : List UInt8) (h : partsP s ≠ []) : s ≠ [] ∧ (kindP s).2 = 0 ∧ partsP s = splitL s := by
  unfold partsP at h ⊢
  by_cases h0 : s = []
  · rw [if_pos h0] at h; exact absurd rfl h
  · rw [if_neg h0] at h ⊢
    by_cases hk : (kindP s).2 = 0
    · rw [if_pos hk]; exact ⟨h0, hk, rfl⟩
    · rw [if_neg hk] at h; exact absurd rfl h
theorem up_dir (N : List (List UInt8)) (h : Names N) (m : Nat) (hm : m < N.length) : kindP (jn [47] (N.take m)) = (1, 0) := by
  by_cases h0 : m = 0
  · rw [h0]; rfl
  · have hne : N.take m ≠ [] := by
      intro e
      have := congrArg List.length e
      rw [List.length_take, List.length_nil] at this
      omega
    rw [(h.take m).kind hne]
    have hlj : (N.take m).length = m := by rw [List.length_take]; omega
    rw [List.getLast_eq_getElem, List.getElem_take]
    have := h.good ((N.take m).length - 1) (by omega)
    rw [getElem!_pos _ _ (by omega)] at this
    rcases kindN_rng (N[(N.take m).length - 1]'(by omega)) with h1 | h1 | h1
    · exact absurd h1 this.1
    · rw [h1]
    · exact absurd h1 (this.2 (by omega))
theorem joined_again (s : List UInt8) (h : partsP s ≠ []) : joinP (parentP s).1 (nameP s) = (s, 0) := by
  obtain ⟨hn, hk, hp⟩ := parts_of s h
  obtain ⟨hN, hs⟩ := names_of s hk hn
  have hsp : splitL s ≠ [] := by rw [← hp]; exact h
  have hpos : 0 < (splitL s).length := List.length_pos_iff.2 hsp
  have e1 : splitL s = (splitL s).take ((splitL s).length - 1) ++ [(splitL s).getLast hsp] := by
    rw [← List.dropLast_eq_take]
    exact (List.dropLast_concat_getLast hsp).symm
  have hname : nameP s = (splitL s).getLast hsp := by
    unfold nameP
    rw [hp, List.getLastD_eq_getLast?, List.getLast?_eq_some_getLast hsp]
    rfl
  have hm : (splitL s).getLast hsp ∈ splitL s := List.getLast_mem hsp
  have hno := hN.no _ hm
  have hne : (splitL s).getLast hsp ≠ [] := by
    rw [List.getLast_eq_getElem]
    exact hN.ne _ (by omega)
  have hup : (parentP s).1 = jn [47] ((splitL s).take ((splitL s).length - 1)) := by
    rw [parent_parts, if_neg h, hp]
  have hd := up_dir _ hN ((splitL s).length - 1) (by omega)
  rw [hup, hname]
  unfold joinP
  rw [hd, if_pos rfl, if_neg (by decide), if_neg (fun e => e.elim hne hno)]
  by_cases h1 : (splitL s).length - 1 = 0
  · have e2 : (splitL s).take ((splitL s).length - 1) = [] := by rw [h1]; rfl
    rw [e2] at e1 ⊢
    have : jn [47] ([] ++ [(splitL s).getLast hsp]) = s := (congrArg (jn [47]) e1).symm.trans hs
    have this : (splitL s).getLast hsp = s := this
    have z : jn [47] [] = [] := rfl
    rw [z, if_pos rfl, this, sureP_ok s hk]
  · have hne2 : (splitL s).take ((splitL s).length - 1) ≠ [] := by
      intro e
      have := congrArg List.length e
      rw [List.length_take, List.length_nil] at this
      omega
    rw [if_neg (jn_ne (hN.take _) hne2), ← jn_snoc _ _ _ hne2, ← e1, hs, sureP_ok s hk]
theorem upsN_last (N : List (List UInt8)) : ∀ m, 0 < m → ∃ r, upsN N m = r ++ [[]] ∧ r.length + 1 = m
  | 1, _ => ⟨[], rfl, rfl⟩
  | m + 2, _ => by
    obtain ⟨r, h1, h2⟩ := upsN_last N (m + 1) (by omega)
    exact ⟨jn [47] (N.take (m + 1)) :: r, by rw [upsN_succ, h1]; rfl, by rw [List.length_cons, h2]⟩
theorem toList_bs (a b : List UInt8) : ((bs a).toList == (bs b).toList) = decide (a = b) := by
  rw [ByteArray.toList_eq, ByteArray.toList_eq, bs_data, bs_data]
  by_cases h : a = b
  · simp [h]
  · simp [h]
theorem parts_loop (p d : List UInt8) (hlen : (upsL p).length ≤ 8) (hpos : 0 < (upsL p).length) : ∀ (r q : List (List UInt8)) (k : Nat), upsL p = q ++ r → r.length < k →
    aquiferlaw05_PathParts.l0 k (bs p) (bs d) (decide (d ∈ q)) ((upsL p).map bs) ((upsL p).length : Int) (q.length : Int) = some true := by
  intro r
  induction r with
  | nil =>
    intro q k hq hk
    obtain ⟨m, rfl, hm⟩ := up1 hk
    rw [List.append_nil] at hq
    have hw : aquiferlaw05_works.f = some true := rfl
    rw [aquiferlaw05_PathParts.l0, if_neg (by rw [hq]; omega), below_f, Option.bind_some, bs_data, bs_data, ← hq, if_pos (beq_self_eq_true _), ups_f _ 1 (by omega) (by omega), Option.bind_some, bs_data, List.length_map, List.length_take, if_pos (by show ((min 1 (upsL p).length : Nat) : Int) = 1; omega), hw]
    rfl
  | cons n r ih =>
    intro q k hq hk
    rw [List.length_cons] at hk
    obtain ⟨m, rfl, hm⟩ := up1 hk
    have hl := congrArg List.length hq
    rw [List.length_append, List.length_cons] at hl
    have hmem : n ∈ upsL p := by rw [hq]; simp
    have e1 : rdOf ByteArray.empty ((upsL p).map bs) (q.length : Int) = bs n := by rw [hq]; exact rd_mid q n r
    have e2 : (q ++ [n]).length = q.length + 1 := by simp
    have e3 : decide (d ∈ q ++ [n]) = (decide (d ∈ q) || decide (n = d)) := by
      rw [← Bool.decide_or, decide_eq_decide, List.mem_append, List.mem_singleton]
      exact ⟨fun h => h.imp id Eq.symm, fun h => h.imp id Eq.symm⟩
    have hrec := ih (q ++ [n]) m (by rw [hq]; simp) (by omega)
    rw [e2, e3] at hrec
    rw [aquiferlaw05_PathParts.l0, if_pos (by omega), if_pos (by omega), if_pos (by rw [List.length_map]; omega), e1, below_f, bs_data, bs_data, Option.bind_some, if_pos (decide_eq_true hmem), Option.bind_some, if_pos (decide_eq_true hmem), wrap_succ q.length (by omega), toList_bs]
    cases hdq : decide (d ∈ q)
    · rw [hdq, Bool.false_or] at hrec
      rw [if_neg (by decide)]
      exact hrec
    · rw [hdq, Bool.true_or] at hrec
      rw [if_pos rfl]
      exact hrec
theorem PathParts : ∀ (a0 : ByteArray) (a1 : ByteArray), a0.size ≤ 140737488351232 → a1.size ≤ 140737488351232 → ∃ k, aquiferlaw05_PathParts.f k a0 a1 = some true := by
  intro a0 a1 _ _
  refine ⟨100, ?_⟩
  obtain ⟨a, ha, ha3⟩ := few_eq a0
  obtain ⟨b, hb, hb3⟩ := few_eq a1
  have fa : aquiferlaw05_few.f a0 = some a := ha
  have fb : aquiferlaw05_few.f a1 = some b := hb
  have hw : aquiferlaw05_works.f = some true := rfl
  obtain ⟨p, rfl⟩ : ∃ p, a = bs p := ⟨_, (bs_back a).symm⟩
  obtain ⟨d, rfl⟩ : ∃ d, b = bs d := ⟨_, (bs_back b).symm⟩
  have h5 : path_Parent.f (bs p) = some (bs (parentP p).1, (parentP p).2) := rfl
  have h7 : path_Split.f (bs p) = some ((partsP p).map bs) := rfl
  have h9 : path_Name.f (bs p) = some (bs (nameP p)) := rfl
  have hul := ups_len' p
  have hpl := parts_len p
  have h11 : aquiferlaw05_ups.f (bs p) 100 = some ((upsL p).map bs) := by
    rw [ups_f _ 100 (by omega) (by omega), bs_data, List.take_of_length_le (by show _ ≤ 100; omega)]
  have hpp : parentP p = if partsP p = [] then ([], false) else (jn [47] ((partsP p).take ((partsP p).length - 1)), true) := parent_parts p
  unfold aquiferlaw05_PathParts.f
  rw [fa, fb, Option.bind_some, Option.bind_some, h5, Option.bind_some]
  by_cases h : partsP p = []
  · rw [if_pos h] at hpp
    rw [h] at hul
    have hu0 : upsL p = [] := List.eq_nil_of_length_eq_zero hul
    have hnm : nameP p = [] := by unfold nameP; rw [h]; rfl
    rw [hpp]
    rw [if_neg (by decide), h11, Option.bind_some, hu0, if_pos (by rfl), h7, Option.bind_some, h, if_pos (by rfl), h9, Option.bind_some, hnm, if_pos (by rw [ByteArray.toList_eq]; rfl), hw]
    rfl
  · rw [if_neg h] at hpp
    have hj := joined_again p h
    have hpos : 0 < (partsP p).length := List.length_pos_iff.2 h
    obtain ⟨hn, hk, hsp⟩ := parts_of p h
    have hps : p.length ≤ 96 := (kindP_ok p hk).1
    have h2 : (parentP p).2 = true := by rw [hpp]
    have hup : (parentP p).1.length ≤ 300 := by
      have := (names_of p hk hn)
      rw [hpp, hsp]
      have h1 := take_jn_len [47] (splitL p) ((splitL p).length - 1)
      rw [this.2] at h1
      show (jn [47] ((splitL p).take ((splitL p).length - 1))).length ≤ 300
      omega
    have hnm : (nameP p).length ≤ 300 := by
      unfold nameP
      rw [List.getLastD_eq_getLast?, List.getLast?_eq_some_getLast h]
      have := parts_mem p _ (List.getLast_mem h)
      show ((partsP p).getLast h).length ≤ 300
      omega
    have hjf : path_Join.f (bs (parentP p).1) (bs (nameP p)) = some (two (joinP (parentP p).1 (nameP p))) := if_pos ⟨hup, hnm⟩
    rw [if_pos h2, h9, Option.bind_some, hjf, Option.bind_some, h11, Option.bind_some, hj]
    rw [if_pos (by rfl), if_pos (by rfl), h7, Option.bind_some, List.length_map, List.length_map, if_pos (by rw [hul]), if_pos (by omega)]
    have hu1 : ∃ r, upsL p = (parentP p).1 :: r := by
      rw [ups_parts, hpp]
      obtain ⟨m, hm⟩ : ∃ m, (partsP p).length = m + 1 := ⟨(partsP p).length - 1, by omega⟩
      rw [hm, upsN_succ]
      exact ⟨_, rfl⟩
    obtain ⟨r, hr⟩ := hu1
    obtain ⟨q, hq, hql⟩ := upsN_last (partsP p) (partsP p).length hpos
    rw [← ups_parts] at hq
    have e0 : rdOf ByteArray.empty ((upsL p).map bs) 0 = bs (parentP p).1 := by rw [hr]; exact rd_mid [] (parentP p).1 r
    have e1 : rdOf ByteArray.empty ((upsL p).map bs) (q.length : Int) = bs [] := by rw [hq]; exact rd_mid q [] []
    have e2 : wrap64 (((upsL p).length : Int) - 1) = (q.length : Int) := by rw [wrap_pred _ (by omega)]; omega
    rw [e0, if_pos rfl, e2, if_pos (by omega), if_pos (by omega), e1]
    have e3 : ((bs []).toList != ([] : List UInt8)) = false := by rw [ByteArray.toList_eq]; rfl
    rw [e3, aquiferlaw05_PathParts.j0, if_neg (by decide), List.length_map]
    exact parts_loop p d (by omega) (by omega) (upsL p) [] 99 rfl (by omega)
end Go.Proofs.YtfnbadfehelleaaDoor.Pure
