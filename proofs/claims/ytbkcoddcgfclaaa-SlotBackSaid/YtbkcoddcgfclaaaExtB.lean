/- Contracts of layer 11's functions in plain words. -/
import Derived.Test.YtbkcoddcgfclaaaSlotFew
import Derived.Test.YtbkcoddcgfclaaaMSlotx7
set_option linter.unusedSimpArgs false
set_option linter.unusedVariables false
namespace Go.Proofs.Ytbkcoddcgfclaaa.Ext
open Go.Proofs.Ytbkcoddcgfclaaa.MSlot Go.RowKit Go.Proofs.YtbkcoddcgfclaaaW.PrintWords Go.Proofs.YtbkcoddcgfclaaaW.PrintLast Go.Proofs.YtbkcoddcgfclaaaW.PrintMore Go.Proofs.Ytbkcoddcgfclaaa.SP

/-- A node that is not beyond what the laws look at, by far. -/
def mild (l0_1 : List S43) (l0_2 : List ByteArray) (l0_3 : List Int) : Bool := decide (l0_1.length ≤ 1000000000) && decide (l0_2.length ≤ 1000000000) && decide (l0_3.length ≤ 1000000000) && l0_1.all (fun c => decide (c.f0.size ≤ 140737488355328) && decide (c.f1.size ≤ 140737488355328))
theorem mild_of {l0_1 : List S43} {l0_2 : List ByteArray} {l0_3 : List Int} (h : mild l0_1 l0_2 l0_3 = true) : l0_1.length ≤ 1000000000 ∧ l0_2.length ≤ 1000000000 ∧ l0_3.length ≤ 1000000000 ∧ ∀ c ∈ l0_1, c.f0.size ≤ 140737488355328 ∧ c.f1.size ≤ 140737488355328 := by
  unfold mild at h
  simp only [Bool.and_eq_true, decide_eq_true_eq, List.all_eq_true] at h
  exact ⟨h.1.1.1, h.1.1.2, h.1.2, h.2⟩
def slot_Check.f (a0_0 : Bool) (l0_1 : List (S43)) (l0_2 : List ByteArray) (l0_3 : List Int) : Option (Int) := if mild l0_1 l0_2 l0_3 = true then some (if checkB a0_0 l0_1 l0_2 l0_3 = true then 0 else 2) else none
theorem slot_Check.calls (a0_0 : Bool) (A0_1 : Option Addr) (c0_1 : Nat) (l0_1 : List (S43)) (A0_2 : Option Addr) (c0_2 : Nat) (l0_2 : List ByteArray) (A0_3 : Option Addr) (c0_3 : Nat) (l0_3 : List Int) (r : Int) (w : World) (hr0_1 : Kd.C k43 w A0_1 l0_1.length l0_1) (hc0_1 : l0_1.length ≤ c0_1) (hr0_2 : Kd.C Kd.string w A0_2 l0_2.length l0_2) (hc0_2 : l0_2.length ≤ c0_2) (hr0_3 : Kd.C (Kd.int .i64) w A0_3 l0_3.length l0_3) (hc0_3 : l0_3.length ≤ c0_3) (h : slot_Check.f a0_0 l0_1 l0_2 l0_3 = some r) :
    Calls Try.prog 15 #[.agg #[.bool a0_0, .slice A0_1 l0_1.length c0_1, .slice A0_2 l0_2.length c0_2, .slice A0_3 l0_3.length c0_3]] w fun e w' => e = .returned (.int .i64 r) ∧ Below w.heap.size w w' := by
  unfold slot_Check.f at h
  by_cases hg : mild l0_1 l0_2 l0_3 = true
  · rw [if_pos hg] at h
    obtain ⟨h1, h2, h3, h4⟩ := mild_of hg
    exact MSlot.slot_Check.calls (l0_1.length + l0_2.length + l0_3.length + 1000) a0_0 A0_1 c0_1 l0_1 A0_2 c0_2 l0_2 A0_3 c0_3 l0_3 r w hr0_1 hc0_1 hr0_2 hc0_2 hr0_3 hc0_3 ((Check_eq a0_0 l0_1 l0_2 l0_3 h1 h2 h3 h4 _ (by omega)).trans h)
  · rw [if_neg hg] at h
    cases h
def slot_Encode.f (a0_0 : Bool) (l0_1 : List (S43)) (l0_2 : List ByteArray) (l0_3 : List Int) : Option (ByteArray × Int) := if mild l0_1 l0_2 l0_3 = true then some (encodeN a0_0 l0_1 l0_2 l0_3) else none
theorem slot_Encode.calls (a0_0 : Bool) (A0_1 : Option Addr) (c0_1 : Nat) (l0_1 : List (S43)) (A0_2 : Option Addr) (c0_2 : Nat) (l0_2 : List ByteArray) (A0_3 : Option Addr) (c0_3 : Nat) (l0_3 : List Int) (r1 : ByteArray) (r2 : Int) (w : World) (hr0_1 : Kd.C k43 w A0_1 l0_1.length l0_1) (hc0_1 : l0_1.length ≤ c0_1) (hr0_2 : Kd.C Kd.string w A0_2 l0_2.length l0_2) (hc0_2 : l0_2.length ≤ c0_2) (hr0_3 : Kd.C (Kd.int .i64) w A0_3 l0_3.length l0_3) (hc0_3 : l0_3.length ≤ c0_3) (h : slot_Encode.f a0_0 l0_1 l0_2 l0_3 = some (r1, r2)) :
    Calls Try.prog 17 #[.agg #[.bool a0_0, .slice A0_1 l0_1.length c0_1, .slice A0_2 l0_2.length c0_2, .slice A0_3 l0_3.length c0_3]] w fun e w' => e = .returned (.tuple #[.string r1, .int .i64 r2]) ∧ Below w.heap.size w w' := by
  unfold slot_Encode.f at h
  by_cases hg : mild l0_1 l0_2 l0_3 = true
  · rw [if_pos hg] at h
    obtain ⟨h1, h2, h3, h4⟩ := mild_of hg
    exact MSlot.slot_Encode.calls (l0_1.length + l0_2.length + l0_3.length + 1000) a0_0 A0_1 c0_1 l0_1 A0_2 c0_2 l0_2 A0_3 c0_3 l0_3 r1 r2 w hr0_1 hc0_1 hr0_2 hc0_2 hr0_3 hc0_3 ((Encode_eq a0_0 l0_1 l0_2 l0_3 h1 h2 h3 h4 _ (by omega)).trans h)
  · rw [if_neg hg] at h
    cases h
/-- A node whose parts may be. -/
def small (l0_1 : List S43) (l0_2 : List ByteArray) : Bool := decide (l0_1.length ≤ 1000) && decide (l0_2.length ≤ 1000) && l0_1.all (fun c => decide (c.f0.size ≤ 1000) && decide (c.f1.size ≤ 1000)) && l0_2.all (fun k => decide (k.size ≤ 1000))
theorem small_of {l0_1 : List S43} {l0_2 : List ByteArray} (h : small l0_1 l0_2 = true) : l0_1.length ≤ 1000 ∧ l0_2.length ≤ 1000 ∧ (∀ c ∈ l0_1, c.f0.size ≤ 1000 ∧ c.f1.size ≤ 1000) ∧ ∀ k ∈ l0_2, k.size ≤ 1000 := by
  unfold small at h
  simp only [Bool.and_eq_true, decide_eq_true_eq, List.all_eq_true] at h
  exact ⟨h.1.1.1, h.1.1.2, h.1.2, h.2⟩
def slot_size.f (a0_0 : Bool) (l0_1 : List (S43)) (l0_2 : List ByteArray) (l0_3 : List Int) : Option (Int) := if small l0_1 l0_2 = true then some ((sizeN a0_0 l0_1 l0_2 : Int)) else none
theorem slot_size.calls (a0_0 : Bool) (A0_1 : Option Addr) (c0_1 : Nat) (l0_1 : List (S43)) (A0_2 : Option Addr) (c0_2 : Nat) (l0_2 : List ByteArray) (A0_3 : Option Addr) (c0_3 : Nat) (l0_3 : List Int) (r : Int) (w : World) (hr0_1 : Kd.C k43 w A0_1 l0_1.length l0_1) (hc0_1 : l0_1.length ≤ c0_1) (hr0_2 : Kd.C Kd.string w A0_2 l0_2.length l0_2) (hc0_2 : l0_2.length ≤ c0_2) (hr0_3 : Kd.C (Kd.int .i64) w A0_3 l0_3.length l0_3) (hc0_3 : l0_3.length ≤ c0_3) (h : slot_size.f a0_0 l0_1 l0_2 l0_3 = some r) :
    Calls Try.prog 23 #[.agg #[.bool a0_0, .slice A0_1 l0_1.length c0_1, .slice A0_2 l0_2.length c0_2, .slice A0_3 l0_3.length c0_3]] w fun e w' => e = .returned (.int .i64 r) ∧ Below w.heap.size w w' := by
  unfold slot_size.f at h
  by_cases hg : small l0_1 l0_2 = true
  · rw [if_pos hg] at h
    obtain ⟨h1, h2, h3, h4⟩ := small_of hg
    exact MSlot.slot_size.calls (l0_1.length + l0_2.length + l0_3.length + 1000) a0_0 A0_1 c0_1 l0_1 A0_2 c0_2 l0_2 A0_3 c0_3 l0_3 r w hr0_1 hc0_1 hr0_2 hc0_2 hr0_3 hc0_3 ((size_eq a0_0 l0_1 l0_2 l0_3 h1 h2 h4 h3 _ (by omega)).trans h)
  · rw [if_neg hg] at h
    cases h
theorem Size_eq (leaf : Bool) (cells : List S43) (keys : List ByteArray) (kids : List Int) (hc : cells.length ≤ 1000000000) (hkk : keys.length ≤ 1000000000) (hk : kids.length ≤ 1000000000) (hs : ∀ c ∈ cells, c.f0.size ≤ 140737488355328 ∧ c.f1.size ≤ 140737488355328) (k : Nat) (h : cells.length + keys.length + kids.length + 300 < k) :
    MSlot.slot_Size.f k leaf cells keys kids = some (if checkB leaf cells keys kids = true then (sizeN leaf cells keys : Int) else 0) := by
  unfold MSlot.slot_Size.f
  rw [Check_eq leaf cells keys kids hc hkk hk hs k (by omega), Option.bind_some]
  by_cases hch : checkB leaf cells keys kids = true
  · rw [if_pos hch, if_pos rfl, if_pos hch]
    obtain ⟨h1, h2, h3, h4, h5, h6⟩ := check_parts hch
    have hsz : ∀ c ∈ cells, c.f0.size ≤ 1000 ∧ c.f1.size ≤ 1000 := fun c hc => by
      have := cellB_size (adjC_all cells none h4 c hc)
      omega
    have hsk : ∀ c ∈ keys, c.size ≤ 1000 := fun c hc => by
      have := keyB_size (adjK_all keys none h5 c hc)
      omega
    rw [size_eq leaf cells keys kids (by omega) (by omega) hsk hsz k (by omega), Option.bind_some]
  · rw [if_neg hch, if_neg (by decide), if_neg hch]
def slot_Size.f (a0_0 : Bool) (l0_1 : List (S43)) (l0_2 : List ByteArray) (l0_3 : List Int) : Option (Int) := if mild l0_1 l0_2 l0_3 = true then some (if checkB a0_0 l0_1 l0_2 l0_3 = true then (sizeN a0_0 l0_1 l0_2 : Int) else 0) else none
theorem slot_Size.calls (a0_0 : Bool) (A0_1 : Option Addr) (c0_1 : Nat) (l0_1 : List (S43)) (A0_2 : Option Addr) (c0_2 : Nat) (l0_2 : List ByteArray) (A0_3 : Option Addr) (c0_3 : Nat) (l0_3 : List Int) (r : Int) (w : World) (hr0_1 : Kd.C k43 w A0_1 l0_1.length l0_1) (hc0_1 : l0_1.length ≤ c0_1) (hr0_2 : Kd.C Kd.string w A0_2 l0_2.length l0_2) (hc0_2 : l0_2.length ≤ c0_2) (hr0_3 : Kd.C (Kd.int .i64) w A0_3 l0_3.length l0_3) (hc0_3 : l0_3.length ≤ c0_3) (h : slot_Size.f a0_0 l0_1 l0_2 l0_3 = some r) :
    Calls Try.prog 16 #[.agg #[.bool a0_0, .slice A0_1 l0_1.length c0_1, .slice A0_2 l0_2.length c0_2, .slice A0_3 l0_3.length c0_3]] w fun e w' => e = .returned (.int .i64 r) ∧ Below w.heap.size w w' := by
  unfold slot_Size.f at h
  by_cases hg : mild l0_1 l0_2 l0_3 = true
  · rw [if_pos hg] at h
    obtain ⟨h1, h2, h3, h4⟩ := mild_of hg
    exact MSlot.slot_Size.calls (l0_1.length + l0_2.length + l0_3.length + 1000) a0_0 A0_1 c0_1 l0_1 A0_2 c0_2 l0_2 A0_3 c0_3 l0_3 r w hr0_1 hc0_1 hr0_2 hc0_2 hr0_3 hc0_3 ((Size_eq a0_0 l0_1 l0_2 l0_3 h1 h2 h3 h4 _ (by omega)).trans h)
  · rw [if_neg hg] at h
    cases h
def aquiferlaw11_Few.f (a0_0 : Bool) (l0_1 : List (S43)) (l0_2 : List ByteArray) (l0_3 : List Int) : Option (Bool × (List (S43)) × List ByteArray × List Int) := some (a0_0, fewC l0_1, fewK l0_2, l0_3.take 21)
theorem aquiferlaw11_Few.calls (a0_0 : Bool) (A0_1 : Option Addr) (c0_1 : Nat) (l0_1 : List (S43)) (A0_2 : Option Addr) (c0_2 : Nat) (l0_2 : List ByteArray) (A0_3 : Option Addr) (c0_3 : Nat) (l0_3 : List Int) (r1 : Bool) (r2 : List (S43)) (r3 : List ByteArray) (r4 : List Int) (w : World) (hr0_1 : Kd.C k43 w A0_1 l0_1.length l0_1) (hc0_1 : l0_1.length ≤ c0_1) (hr0_2 : Kd.C Kd.string w A0_2 l0_2.length l0_2) (hc0_2 : l0_2.length ≤ c0_2) (hr0_3 : Kd.C (Kd.int .i64) w A0_3 l0_3.length l0_3) (hc0_3 : l0_3.length ≤ c0_3) (h : aquiferlaw11_Few.f a0_0 l0_1 l0_2 l0_3 = some (r1, r2, r3, r4)) :
    Calls Try.prog 8 #[.agg #[.bool a0_0, .slice A0_1 l0_1.length c0_1, .slice A0_2 l0_2.length c0_2, .slice A0_3 l0_3.length c0_3]] w fun e w' => ∃ v1_ v2_ v3_ : Value, e = .returned (.agg #[.bool r1, v1_, v2_, v3_]) ∧ Kd.R k43 43 w' w.heap.size (fun _ => True) v1_ r2 ∧ Kd.R Kd.string 9 w' w.heap.size (fun _ => True) v2_ r3 ∧ Kd.R (Kd.int .i64) 3 w' w.heap.size (fun _ => True) v3_ r4 ∧ Below w.heap.size w w' := by
  unfold aquiferlaw11_Few.f at h
  exact MSlot.aquiferlaw11_Few.calls (2 * l0_1.length + l0_2.length + 5) a0_0 A0_1 c0_1 l0_1 A0_2 c0_2 l0_2 A0_3 c0_3 l0_3 r1 r2 r3 r4 w hr0_1 hc0_1 hr0_2 hc0_2 hr0_3 hc0_3 ((Few_eq a0_0 l0_1 l0_2 l0_3 _ (by omega)).trans h)
theorem s43_ext (a b : S43) (h0 : a.f0 = b.f0) (h1 : a.f1 = b.f1) (h2 : a.f2 = b.f2) (h3 : a.f3 = b.f3) : a = b := by
  cases a; cases b
  simp only at h0 h1 h2 h3
  rw [h0, h1, h2, h3]
instance : DecidableEq S43 := fun a b =>
  if h : a.f0.data = b.f0.data ∧ a.f1.data = b.f1.data ∧ a.f2 = b.f2 ∧ a.f3 = b.f3 then isTrue (s43_ext a b (congrArg ByteArray.mk h.1) (congrArg ByteArray.mk h.2.1) h.2.2.1 h.2.2.2)
  else isFalse (fun e => h (by rw [e]; exact ⟨rfl, rfl, rfl, rfl⟩))
/-- Only of nodes that are alike something is said. -/
def alike (a0_0 : Bool) (l0_1 : List S43) (l0_2 : List ByteArray) (l0_3 : List Int) (a1_0 : Bool) (l1_1 : List S43) (l1_2 : List ByteArray) (l1_3 : List Int) : Bool := decide (a0_0 = a1_0) && decide (l0_1 = l1_1) && decide (l0_2.map (·.data.toList) = l1_2.map (·.data.toList)) && decide (l0_3 = l1_3) && mild l0_1 l0_2 l0_3
theorem strs_eq : ∀ (a b : List ByteArray), a.map (·.data.toList) = b.map (·.data.toList) → a = b
  | [], [], _ => rfl
  | [], _ :: _, h => by simp at h
  | _ :: _, [], h => by simp at h
  | ⟨⟨x⟩⟩ :: a, ⟨⟨y⟩⟩ :: b, h => by
    simp at h
    rw [h.1, strs_eq a b (by simpa using h.2)]
def aquiferref11_Same.f (a0_0 : Bool) (l0_1 : List (S43)) (l0_2 : List ByteArray) (l0_3 : List Int) (a1_0 : Bool) (l1_1 : List (S43)) (l1_2 : List ByteArray) (l1_3 : List Int) : Option (Bool) := if alike a0_0 l0_1 l0_2 l0_3 a1_0 l1_1 l1_2 l1_3 = true then some (true) else none
theorem aquiferref11_Same.calls (a0_0 : Bool) (A0_1 : Option Addr) (c0_1 : Nat) (l0_1 : List (S43)) (A0_2 : Option Addr) (c0_2 : Nat) (l0_2 : List ByteArray) (A0_3 : Option Addr) (c0_3 : Nat) (l0_3 : List Int) (a1_0 : Bool) (A1_1 : Option Addr) (c1_1 : Nat) (l1_1 : List (S43)) (A1_2 : Option Addr) (c1_2 : Nat) (l1_2 : List ByteArray) (A1_3 : Option Addr) (c1_3 : Nat) (l1_3 : List Int) (r : Bool) (w : World) (hr0_1 : Kd.C k43 w A0_1 l0_1.length l0_1) (hc0_1 : l0_1.length ≤ c0_1) (hr0_2 : Kd.C Kd.string w A0_2 l0_2.length l0_2) (hc0_2 : l0_2.length ≤ c0_2) (hr0_3 : Kd.C (Kd.int .i64) w A0_3 l0_3.length l0_3) (hc0_3 : l0_3.length ≤ c0_3) (hr1_1 : Kd.C k43 w A1_1 l1_1.length l1_1) (hc1_1 : l1_1.length ≤ c1_1) (hr1_2 : Kd.C Kd.string w A1_2 l1_2.length l1_2) (hc1_2 : l1_2.length ≤ c1_2) (hr1_3 : Kd.C (Kd.int .i64) w A1_3 l1_3.length l1_3) (hc1_3 : l1_3.length ≤ c1_3) (h : aquiferref11_Same.f a0_0 l0_1 l0_2 l0_3 a1_0 l1_1 l1_2 l1_3 = some r) :
    Calls Try.prog 13 #[.agg #[.bool a0_0, .slice A0_1 l0_1.length c0_1, .slice A0_2 l0_2.length c0_2, .slice A0_3 l0_3.length c0_3], .agg #[.bool a1_0, .slice A1_1 l1_1.length c1_1, .slice A1_2 l1_2.length c1_2, .slice A1_3 l1_3.length c1_3]] w fun e w' => e = .returned (.bool r) ∧ Below w.heap.size w w' := by
  unfold aquiferref11_Same.f at h
  by_cases hg : alike a0_0 l0_1 l0_2 l0_3 a1_0 l1_1 l1_2 l1_3 = true
  · rw [if_pos hg] at h
    unfold alike at hg
    simp only [Bool.and_eq_true, decide_eq_true_eq] at hg
    obtain ⟨⟨⟨⟨rfl, rfl⟩, h2⟩, rfl⟩, hm⟩ := hg
    obtain rfl := strs_eq _ _ h2
    obtain ⟨m1, m2, m3, _⟩ := mild_of hm
    exact MSlot.aquiferref11_Same.calls (l0_1.length + l0_2.length + l0_3.length + 1000) a0_0 A0_1 c0_1 l0_1 A0_2 c0_2 l0_2 A0_3 c0_3 l0_3 a0_0 A1_1 c1_1 l0_1 A1_2 c1_2 l0_2 A1_3 c1_3 l0_3 r w hr0_1 hc0_1 hr0_2 hc0_2 hr0_3 hc0_3 hr1_1 hc1_1 hr1_2 hc1_2 hr1_3 hc1_3 ((Same_refl a0_0 l0_1 l0_2 l0_3 m1 m2 m3 _ (by omega)).trans h)
  · rw [if_neg hg] at h
    cases h
end Go.Proofs.Ytbkcoddcgfclaaa.Ext
