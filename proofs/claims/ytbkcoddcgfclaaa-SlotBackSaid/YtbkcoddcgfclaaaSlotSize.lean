/- Nodes in plain words: how many bytes they have. -/
import Derived.Test.YtbkcoddcgfclaaaSlotPure
set_option linter.unusedSimpArgs false
set_option linter.unusedVariables false
namespace Go.Proofs.Ytbkcoddcgfclaaa.SP
open Go.RowKit Go.Proofs.Ytbkcoddcgfclaaa.MSlot Go.Proofs.Ytbkcoddcgfclaaa.Ext Go.Proofs.YtbkcoddcgfclaaaW.PrintWords Go.Proofs.YtbkcoddcgfclaaaW.PrintLast Go.Proofs.YtbkcoddcgfclaaaW.PrintMore

def sumC (l : List S43) : Nat := (l.map lenC).sum
def sumK (l : List ByteArray) : Nat := (l.map (fun k => 5 + k.size)).sum
def sizeN (leaf : Bool) (cells : List S43) (keys : List ByteArray) : Nat := 2 + sumC cells + sumK keys + if leaf then 0 else 4
theorem size_l1 (leaf : Bool) (cells : List S43) (keys : List ByteArray) (kids : List Int) (hkk : keys.length ≤ 1000) (hb : ∀ k ∈ keys, k.size ≤ 1000) : ∀ (r p : List ByteArray) (k t : Nat), keys = p ++ r → t + r.length * 1005 ≤ 1000000000 → r.length < k →
    slot_size.l1 k (t : Int) keys (keys.length : Int) (p.length : Int) leaf cells keys kids = some (((t + sumK r + if leaf then 0 else 4 : Nat)) : Int) := by
  intro r
  induction r with
  | nil =>
    intro p k t hp ht hk2
    rw [List.length_nil] at ht
    obtain ⟨m, rfl, hm⟩ := up1 hk2
    rw [List.append_nil] at hp
    rw [slot_size.l1, if_neg (by rw [hp]; omega)]
    cases leaf
    · rw [if_neg (by decide), if_neg (by decide), w64 (by omega) (by omega)]
      simp [sumK]
    · rw [if_pos rfl, if_pos rfl]
      simp [sumK]
  | cons n r ih =>
    intro p k t hp ht hk2
    rw [List.length_cons] at hk2 ht
    obtain ⟨m, rfl, hm⟩ := up1 hk2
    have hl := congrArg List.length hp
    rw [List.length_append, List.length_cons] at hl
    have e1 : rdOf ByteArray.empty keys (p.length : Int) = n := by rw [hp]; exact rdS_mid p n r
    have e2 : (p ++ [n]).length = p.length + 1 := by simp
    have hn := hb n (by rw [hp]; simp)
    have ew : wrap64 ((t : Int) + wrap64 (5 + (n.size : Int))) = ((t + (5 + n.size) : Nat) : Int) := by
      rw [w64 (x := 5 + (n.size : Int)) (by omega) (by omega), w64 (by omega) (by omega)]
      omega
    rw [slot_size.l1, if_pos (by omega), if_pos (by omega), if_pos (by omega), e1, w_succ p.length (by omega), ew, ← e2, ih (p ++ [n]) m (t + (5 + n.size)) (by rw [hp]; simp) (by omega) (by omega)]
    have : sumK (n :: r) = 5 + n.size + sumK r := by simp [sumK]
    rw [this]
    exact congrArg (fun n : Nat => some (n : Int)) (by omega)
theorem size_l0 (leaf : Bool) (cells : List S43) (keys : List ByteArray) (kids : List Int) (hc : cells.length ≤ 1000) (hkk : keys.length ≤ 1000) (hb : ∀ k ∈ keys, k.size ≤ 1000) (hs : ∀ c ∈ cells, c.f0.size ≤ 1000 ∧ c.f1.size ≤ 1000) : ∀ (r p : List S43) (k t : Nat), cells = p ++ r → t + r.length * 2005 ≤ 500000000 → r.length + keys.length + 1 < k →
    slot_size.l0 k (t : Int) cells (cells.length : Int) (p.length : Int) leaf cells keys kids = some (((t + sumC r + sumK keys + if leaf then 0 else 4 : Nat)) : Int) := by
  intro r
  induction r with
  | nil =>
    intro p k t hp ht hk2
    have ht2 : t ≤ 500000000 := by simpa using ht
    rw [List.length_nil] at hk2
    clear ht
    obtain ⟨m, rfl, hm⟩ := up1 hk2
    rw [List.append_nil] at hp
    rw [slot_size.l0, if_neg (by rw [hp]; omega)]
    have hm2 : keys.length * 1005 ≤ 1000 * 1005 := Nat.mul_le_mul_right _ hkk
    have hm3 : t + keys.length * 1005 ≤ 1000000000 := Nat.le_trans (Nat.add_le_add ht2 hm2) (by decide)
    have hm4 : keys.length < m := by omega
    have := size_l1 leaf cells keys kids hkk hb keys [] m t rfl hm3 hm4
    have z : ((([] : List ByteArray).length : Nat) : Int) = 0 := rfl
    rw [z] at this
    rw [this]
    simp [sumC]
  | cons n r ih =>
    intro p k t hp ht hk2
    rw [List.length_cons] at hk2 ht
    obtain ⟨m, rfl, hm⟩ := up1 hk2
    have hl := congrArg List.length hp
    rw [List.length_append, List.length_cons] at hl
    have e1 : rd_T43 cells (p.length : Int) = n := by rw [hp]; exact rd43_mid p n r
    have e2 : (p ++ [n]).length = p.length + 1 := by simp
    obtain ⟨hn0, hn1⟩ := hs n (by rw [hp]; simp)
    have hb0 : n.f0.size ≤ 140737488355328 := Nat.le_trans hn0 (by decide)
    have hb1 : n.f1.size ≤ 140737488355328 := Nat.le_trans hn1 (by decide)
    have hlen : lenC n ≤ 2003 := by unfold lenC; split <;> omega
    have hb2 : t + lenC n + r.length * 2005 ≤ 500000000 := by omega
    have hb3 : r.length + keys.length + 1 < m := by omega
    have hb4 : p.length ≤ 1000000000000 := by omega
    have hb5 : (p.length : Int) < (cells.length : Int) := by omega
    have ew : wrap64 ((t : Int) + (lenC n : Int)) = ((t + lenC n : Nat) : Int) := by
      have h1 : t ≤ 500000000 := by omega
      have h2 : (t : Int) + (lenC n : Int) = ((t + lenC n : Nat) : Int) := (Int.natCast_add t (lenC n)).symm
      rw [h2]
      exact w64 (by omega) (by omega)
    rw [slot_size.l0, if_pos hb5, if_pos (Int.natCast_nonneg _), if_pos hb5, e1, length_eq n hb0 hb1, Option.bind_some, w_succ p.length hb4, ew, ← e2, ih (p ++ [n]) m (t + lenC n) (by rw [hp]; simp) hb2 hb3]
    have : sumC (n :: r) = lenC n + sumC r := by simp [sumC]
    rw [this]
    exact congrArg (fun n : Nat => some (n : Int)) (by omega)
theorem size_eq (leaf : Bool) (cells : List S43) (keys : List ByteArray) (kids : List Int) (hc : cells.length ≤ 1000) (hkk : keys.length ≤ 1000) (hb : ∀ k ∈ keys, k.size ≤ 1000) (hs : ∀ c ∈ cells, c.f0.size ≤ 1000 ∧ c.f1.size ≤ 1000) (k : Nat) (h : cells.length + keys.length + 1 < k) :
    slot_size.f k leaf cells keys kids = some (sizeN leaf cells keys : Int) := by
  unfold slot_size.f sizeN
  exact size_l0 leaf cells keys kids hc hkk hb hs cells [] k 2 rfl (by omega) h
end Go.Proofs.Ytbkcoddcgfclaaa.SP
