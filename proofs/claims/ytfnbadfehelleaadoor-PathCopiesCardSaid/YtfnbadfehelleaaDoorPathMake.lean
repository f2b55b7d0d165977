/- What the program makes of a text (Clean, Join of names), in plain words. -/
import Derived.Test.YtfnbadfehelleaaDoorPathKind
set_option linter.unusedSimpArgs false
set_option linter.unusedVariables false
namespace Go.Proofs.YtfnbadfehelleaaDoor.PP
open Go.RowKit Go.Proofs.YtfnbadfehelleaaDoor.MPath Go.Proofs.YtfnbadfehelleaaDoorW.PrintWords Go.Proofs.YtfnbadfehelleaaDoorW.PrintLast Go.Proofs.YtfnbadfehelleaaDoorW.PrintMore

def jn (sep : List UInt8) : List (List UInt8) → List UInt8
  | [] => []
  | [x] => x
  | x :: y :: r => x ++ sep ++ jn sep (y :: r)
theorem jn_cons (sep x : List UInt8) (r : List (List UInt8)) (h : r ≠ []) : jn sep (x :: r) = x ++ sep ++ jn sep r := by
  cases r with
  | nil => exact absurd rfl h
  | cons y r => rfl
theorem jn_eq (sep : List UInt8) : ∀ L, Lib.join L sep = jn sep L
  | [] => rfl
  | [x] => by rw [Lib.join_one]; rfl
  | x :: y :: r => by
    have ih := jn_eq sep (y :: r)
    rw [jn, ← ih]
    simp [Lib.join, List.intercalate, List.intersperse]
theorem jn_len (sep : List UInt8) (M : Nat) : ∀ L, (∀ n ∈ L, n.length ≤ M) → (jn sep L).length ≤ L.length * (M + sep.length)
  | [], _ => by simp [jn]
  | [x], h => by have := h x (by simp); simp [jn]; omega
  | x :: y :: r, h => by
    have ih := jn_len sep M (y :: r) (fun n hn => h n (by simp [hn]))
    have := h x (by simp)
    rw [jn, List.length_append, List.length_append, List.length_cons, Nat.add_mul]
    omega
theorem back_map (L : List (List UInt8)) : (L.map bs).map (·.data.toList) = L := by
  rw [List.map_map]
  exact (List.map_congr_left (fun x _ => rfl)).trans (List.map_id L)
theorem Join_eq (L : List (List UInt8)) (s : ByteArray) (h : (jn s.data.toList L).length ≤ 140737488355328) (h2 : L.length ≤ 140737488355328) : strings_Join.f (L.map bs) s = some (bs (jn s.data.toList L)) := by
  unfold strings_Join.f Ext.strings_Join.f Ext.joinB
  rw [back_map, jn_eq, if_pos h, if_pos (by rw [List.length_map]; exact h2)]
  rfl

def sureP (p : List UInt8) : List UInt8 × Int := if (kindP p).2 = 0 then (p, 0) else ([], (kindP p).2)
def clN : List (List UInt8) → List (List UInt8) → Option (List (List UInt8))
  | a, [] => some a
  | a, n :: r => if n = [] ∨ n = [46] then clN a r else if n = [46, 46] then (if a = [] then none else clN a.dropLast r) else clN (a ++ [n]) r
def cleanP (s : List UInt8) : List UInt8 × Int :=
  if 4096 < s.length then ([], 3) else
  match clN [] (splitL s) with
  | none => ([], 18)
  | some ns => sureP (jn [47] ns)
def two (x : List UInt8 × Int) : ByteArray × Int := (bs x.1, x.2)
theorem sure_eq (s : ByteArray) (k : Nat) (hk : 400 ≤ k) : path_sure.f k s = some (two (sureP s.data.toList)) := by
  unfold path_sure.f sureP
  rw [Kind_eq s k hk, Option.bind_some]
  by_cases h : (kindP s.data.toList).2 = 0
  · rw [if_pos h, if_pos h]; rfl
  · rw [if_neg h, if_neg h]; rfl
theorem clean_loop (L : List (List UInt8)) (hL : ∀ n ∈ L, n.length ≤ 4096) (hlen : L.length ≤ 4097) : ∀ (r p a : List (List UInt8)) (k : Nat), L = p ++ r → a.length ≤ p.length → (∀ n ∈ a, n ∈ L) → 2 * r.length + 500 < k →
    path_Clean.l0 k (a.map bs) (L.map bs) (L.length : Int) (p.length : Int) = some (two (match clN a r with | none => ([], 18) | some ns => sureP (jn [47] ns))) := by
  intro r
  induction r with
  | nil =>
    intro p a k hp ha hm hk
    rw [List.length_nil] at hk
    obtain ⟨m, rfl, _⟩ := up1 (show 500 < k by omega)
    rw [List.append_nil] at hp
    have hp2 : p.length ≤ 4097 := by rw [← hp]; exact hlen
    have hj := jn_len [47] 4096 a (fun n hn => hL n (hm n hn))
    have hj2 : a.length * (4096 + ([47] : List UInt8).length) ≤ 4097 * 4097 := Nat.mul_le_mul (by omega) (Nat.le_refl _)
    rw [path_Clean.l0, if_neg (by rw [hp]; omega), Join_eq a (⟨#[47]⟩ : ByteArray) (Nat.le_trans hj (by omega)) (by omega), Option.bind_some, sure_eq _ _ (by omega), Option.bind_some]
    rfl
  | cons n r ih =>
    intro p a k hp ha hm hk
    rw [List.length_cons] at hk
    obtain ⟨m1, rfl, hm1⟩ := up1 hk
    obtain ⟨m, rfl, hm2⟩ := up1 (show 2 * r.length + 500 < m1 by omega)
    have hl := congrArg List.length hp
    rw [List.length_append, List.length_cons] at hl
    have hnL : n ∈ L := by rw [hp]; simp
    rw [path_Clean.l0, if_pos (by omega), if_pos (by omega), if_pos (by rw [List.length_map]; omega)]
    have e1 : rdOf ByteArray.empty (L.map bs) (p.length : Int) = bs n := by rw [hp]; exact rd_mid p n r
    rw [e1, ByteArray.toList_eq, bs_data]
    have e2 : (p ++ [n]).length = p.length + 1 := by simp
    have hskip : n = [] ∨ n = [46] → path_Clean.j1 (m + 1) (a.map bs) (bs n) (L.map bs) (L.length : Int) (p.length : Int) true = some (two (match clN a (n :: r) with | none => ([], 18) | some ns => sureP (jn [47] ns))) := by
      intro h
      rw [path_Clean.j1, if_pos rfl, wrap_succ p.length (by omega), ← e2, ih (p ++ [n]) a m (by rw [hp]; simp) (by omega) hm (by omega), clN, if_pos h]
    have hgo : ¬ (n = [] ∨ n = [46]) → path_Clean.j1 (m + 1) (a.map bs) (bs n) (L.map bs) (L.length : Int) (p.length : Int) false = some (two (match clN a (n :: r) with | none => ([], 18) | some ns => sureP (jn [47] ns))) := by
      intro h
      rw [path_Clean.j1, if_neg (by decide), ByteArray.toList_eq, bs_data, List.length_map, clN, if_neg h]
      by_cases hd : n = [46, 46]
      · rw [if_pos hd, if_pos hd]
        by_cases hz : a = []
        · rw [if_pos (by rw [hz]; rfl), if_pos hz]
          rfl
        · have hpos : 0 < a.length := List.length_pos_iff.2 hz
          rw [if_neg (by omega), if_neg hz, wrap_pred a.length (by omega)]
          rw [if_pos (by omega), if_pos (by omega), wrap_succ p.length (by omega), ← e2]
          have e3 : ((a.length : Int) - 1).toNat = a.length - 1 := by omega
          rw [e3, ← List.map_take, ← List.dropLast_eq_take]
          exact ih (p ++ [n]) a.dropLast m (by rw [hp]; simp) (by rw [List.length_dropLast]; omega) (fun x hx => hm x ((List.dropLast_subset a) hx)) (by omega)
      · rw [if_neg hd, if_neg hd, if_pos (by omega), wrap_succ p.length (by omega), ← e2]
        have e4 : a.map bs ++ [bs n] = (a ++ [n]).map bs := by simp
        rw [e4]
        exact ih (p ++ [n]) (a ++ [n]) m (by rw [hp]; simp) (by rw [List.length_append, List.length_append]; exact Nat.add_le_add_right ha _) (fun x hx => by rcases List.mem_append.1 hx with h | h; exact hm x h; simp at h; rw [h]; exact hnL) (by omega)
    by_cases h0 : n = []
    · rw [if_pos h0]
      exact hskip (.inl h0)
    · rw [if_neg h0]
      by_cases h1 : n = [46]
      · have : (n == [46]) = true := by simp [h1]
        rw [this]
        exact hskip (.inr h1)
      · have : (n == [46]) = false := by simp [h1]
        rw [this]
        exact hgo (fun h => h.elim h0 h1)
theorem Clean_eq (s : ByteArray) (k : Nat) (hk : 20000 ≤ k) : path_Clean.f k s = some (two (cleanP s.data.toList)) := by
  unfold path_Clean.f cleanP
  by_cases h : 4096 < s.size
  · rw [if_pos (by omega), if_pos (show 4096 < s.data.toList.length from h)]
    rfl
  · rw [if_neg (by omega), if_neg (show ¬ 4096 < s.data.toList.length from h), split_eq s k (by omega) (by omega), Option.bind_some]
    have hc := splitL_len s.data.toList
    have hc2 := count_le s.data.toList
    rw [len_size] at hc2
    have := clean_loop (splitL s.data.toList) (fun n hn => by have := splitL_mem_len _ n hn; rw [len_size] at this; omega) (by omega) (splitL s.data.toList) [] [] k rfl (Nat.le_refl _) (fun n hn => absurd hn (by simp)) (by omega)
    rw [List.length_map]
    exact this
end Go.Proofs.YtfnbadfehelleaaDoor.PP
