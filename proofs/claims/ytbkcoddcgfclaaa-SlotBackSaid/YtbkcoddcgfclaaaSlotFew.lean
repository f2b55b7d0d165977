/- What a law looks at of a node; the bytes of a node; nodes that are alike. -/
import Derived.Test.YtbkcoddcgfclaaaMSlotx2
import Derived.Test.YtbkcoddcgfclaaaMSlotx7
import Derived.Test.YtbkcoddcgfclaaaMSlotx6
import Derived.Test.YtbkcoddcgfclaaaSlotSize
set_option linter.unusedSimpArgs false
set_option linter.unusedVariables false
namespace Go.Proofs.Ytbkcoddcgfclaaa.SP
open Go.RowKit Go.Proofs.Ytbkcoddcgfclaaa.MSlot Go.Proofs.Ytbkcoddcgfclaaa.Ext Go.Proofs.YtbkcoddcgfclaaaW.PrintWords Go.Proofs.YtbkcoddcgfclaaaW.PrintLast Go.Proofs.YtbkcoddcgfclaaaW.PrintMore

def cut1 (s : ByteArray) : ByteArray := s.extract 0 (mn (s.size : Int) 170).toNat
theorem cut1_size (s : ByteArray) : (cut1 s).size ≤ 170 := by
  have h : mn (s.size : Int) 170 ≤ 170 := by unfold mn; split <;> omega
  unfold cut1
  rw [ByteArray.size_extract]
  omega
theorem few1_eq (s : ByteArray) : aquiferlaw11_Few_1.f s = some (cut1 s) := by
  have h : 0 ≤ mn (s.size : Int) 170 ∧ mn (s.size : Int) 170 ≤ (s.size : Int) := by unfold mn; split <;> omega
  unfold aquiferlaw11_Few_1.f cut1
  rw [if_pos h.1, if_pos h.2]
def cutC (c : S43) : S43 := ⟨cut1 c.f0, cut1 c.f1, c.f2, c.f3⟩
def fewC (l : List S43) : List S43 := (l.take 20).map cutC
def fewK (l : List ByteArray) : List ByteArray := (l.take 20).map cut1
theorem Few_end (kids : List Int) (leaf : Bool) (a : List S43) (b : List ByteArray) : (if 0 ≤ (mn (kids.length : Int) 21) then (if (mn (kids.length : Int) 21) ≤ (kids.length : Int) then (if ([] : List Int).length + (kids.take ((mn (kids.length : Int) 21) : Int).toNat).length < 17592186044416 then (some (leaf, a, b, (([] : List Int) ++ (kids.take ((mn (kids.length : Int) 21) : Int).toNat)))) else (none)) else (none)) else (none)) = some (leaf, a, b, kids.take 21) := by
  have h : 0 ≤ mn (kids.length : Int) 21 ∧ mn (kids.length : Int) 21 ≤ (kids.length : Int) ∧ (mn (kids.length : Int) 21).toNat = min 21 kids.length := by unfold mn; split <;> omega
  rw [if_pos h.1, if_pos h.2.1, h.2.2, if_pos (by rw [List.length_take, List.length_nil]; omega), List.nil_append]
  have : kids.take (min 21 kids.length) = kids.take 21 := by
    rw [List.take_eq_take_iff]
    omega
  rw [this]
theorem Few_l1 (leaf : Bool) (cells : List S43) (keys : List ByteArray) (kids : List Int) (acc : List S43) : ∀ (r p : List ByteArray) (k : Nat) (a : List ByteArray), keys = p ++ r → a.length = p.length → p.length ≤ 20 → r.length < k →
    aquiferlaw11_Few.l1 k (p.length : Int) leaf cells keys kids leaf acc a = some (leaf, acc, a ++ (r.take (20 - p.length)).map cut1, kids.take 21) := by
  intro r
  induction r with
  | nil =>
    intro p k a hp ha hp20 hk2
    obtain ⟨m, rfl, hm⟩ := up1 hk2
    rw [List.append_nil] at hp
    rw [aquiferlaw11_Few.l1, if_neg (by rw [hp]; omega), Few_end kids]
    simp
  | cons n r ih =>
    intro p k a hp ha hp20 hk2
    rw [List.length_cons] at hk2
    obtain ⟨m, rfl, hm⟩ := up1 hk2
    have hl := congrArg List.length hp
    rw [List.length_append, List.length_cons] at hl
    rw [aquiferlaw11_Few.l1, if_pos (by omega)]
    by_cases h20 : p.length < 20
    · have e1 : rdOf ByteArray.empty keys (p.length : Int) = n := by rw [hp]; exact rdS_mid p n r
      have e2 : (p ++ [n]).length = p.length + 1 := by simp
      rw [if_pos (by omega), if_pos (by omega), e1, few1_eq, Option.bind_some, if_pos (by omega), w_succ p.length (by omega), ← e2, ih (p ++ [n]) m (a ++ [cut1 n]) (by rw [hp]; simp) (by simp [ha]) (by rw [e2]; omega) (by omega), e2]
      have : 20 - p.length = (20 - (p.length + 1)) + 1 := by omega
      rw [this, List.take_succ_cons, List.map_cons, List.append_assoc]
      rfl
    · rw [if_neg (by omega), Few_end kids]
      have : 20 - p.length = 0 := by omega
      rw [this]
      simp
theorem Few_l0 (leaf : Bool) (cells : List S43) (keys : List ByteArray) (kids : List Int) : ∀ (r p : List S43) (k : Nat) (a : List S43), cells = p ++ r → a.length = p.length → p.length ≤ 20 → 2 * r.length + keys.length + 2 < k →
    aquiferlaw11_Few.l0 k (p.length : Int) leaf cells keys kids leaf a = some (leaf, a ++ (r.take (20 - p.length)).map cutC, fewK keys, kids.take 21) := by
  intro r
  induction r with
  | nil =>
    intro p k a hp ha hp20 hk2
    rw [List.length_nil] at hk2
    obtain ⟨m1, rfl, hm1⟩ := up1 hk2
    obtain ⟨m, rfl, hm⟩ := up1 (show keys.length + 1 < m1 by omega)
    rw [List.append_nil] at hp
    have := Few_l1 leaf cells keys kids a keys [] m [] rfl rfl (by simp) (by omega)
    have z : ((([] : List ByteArray).length : Nat) : Int) = 0 := rfl
    rw [z] at this
    rw [aquiferlaw11_Few.l0, if_neg (by rw [hp]; omega), aquiferlaw11_Few.j1, if_neg (by decide), this]
    simp [fewK]
  | cons n r ih =>
    intro p k a hp ha hp20 hk2
    rw [List.length_cons] at hk2
    obtain ⟨m1, rfl, hm1⟩ := up1 hk2
    obtain ⟨m, rfl, hm⟩ := up1 (show 2 * r.length + keys.length + 3 < m1 by omega)
    have hl := congrArg List.length hp
    rw [List.length_append, List.length_cons] at hl
    rw [aquiferlaw11_Few.l0, if_pos (by omega), aquiferlaw11_Few.j1]
    by_cases h20 : p.length < 20
    · have e1 : rd_T43 cells (p.length : Int) = n := by rw [hp]; exact rd43_mid p n r
      have e2 : (p ++ [n]).length = p.length + 1 := by simp
      rw [if_pos (decide_eq_true (by omega)), if_pos (by omega), if_pos (by omega), e1, few1_eq, few1_eq, Option.bind_some, Option.bind_some, if_pos (by omega), w_succ p.length (by omega), ← e2, ih (p ++ [n]) m (a ++ [(⟨cut1 n.f0, cut1 n.f1, n.f2, n.f3⟩ : S43)]) (by rw [hp]; simp) (by simp [ha]) (by rw [e2]; omega) (by omega), e2]
      have : 20 - p.length = (20 - (p.length + 1)) + 1 := by omega
      rw [this, List.take_succ_cons, List.map_cons, List.append_assoc]
      rfl
    · have e : decide ((p.length : Int) < 20) = false := decide_eq_false (by omega)
      have := Few_l1 leaf cells keys kids a keys [] m [] rfl rfl (by simp) (by omega)
      have z : ((([] : List ByteArray).length : Nat) : Int) = 0 := rfl
      rw [z] at this
      rw [e, if_neg (by decide), this]
      have : 20 - p.length = 0 := by omega
      rw [this]
      simp [fewK]
theorem Few_eq (leaf : Bool) (cells : List S43) (keys : List ByteArray) (kids : List Int) (k : Nat) (h : 2 * cells.length + keys.length + 2 < k) :
    aquiferlaw11_Few.f k leaf cells keys kids = some (leaf, fewC cells, fewK keys, kids.take 21) := by
  unfold aquiferlaw11_Few.f
  exact Few_l0 leaf cells keys kids cells [] k [] rfl rfl (by simp) h

def textL (s : ByteArray) : List Int := ((s.size : Int) % 256) :: bytesOf s
def fourL (n : Int) : List Int := [n % 256, (n / 256) % 256, (n / 65536) % 256, (n / 16777216) % 256]
theorem text_eq (l : List Int) (s : ByteArray) (h : l.length + s.size ≤ 1000000000) : slot_text.f l s = some (l ++ textL s) := by
  unfold slot_text.f textL
  rw [if_pos (by omega), Option.bind_some, if_pos (by rw [List.length_append, List.length_singleton]; omega), List.append_assoc]
  rfl
theorem four_eq (l : List Int) (n : Int) (h : l.length ≤ 1000000000) : slot_four.f l n = some (l ++ fourL n) := by
  unfold slot_four.f fourL
  rw [Option.bind_some, if_pos (by simp only [List.length_cons, List.length_nil]; omega)]
theorem textL_len (s : ByteArray) : (textL s).length = 1 + s.size := by unfold textL; rw [List.length_cons, bytesOf_length]; omega
theorem fourL_len (n : Int) : (fourL n).length = 4 := rfl
def encC (c : S43) : List Int := textL c.f0 ++ if 0 < c.f2 then 1 :: (fourL c.f3 ++ fourL c.f2) else 0 :: textL c.f1
theorem encC_len (c : S43) : (encC c).length = lenC c := by
  unfold encC lenC
  rw [List.length_append, textL_len]
  split
  · rw [List.length_cons, List.length_append, fourL_len, fourL_len]; omega
  · rw [List.length_cons, textL_len]; omega
theorem Encode_l1 (cells : List S43) (hc : cells.length ≤ 1000) (hs : ∀ c ∈ cells, c.f0.size ≤ 1000 ∧ c.f1.size ≤ 1000) : ∀ (r p : List S43) (k : Nat) (a : List Int), cells = p ++ r → a.length + r.length * 3000 ≤ 100000000 → r.length < k →
    slot_Encode.l1 k a cells (cells.length : Int) (p.length : Int) = some (strOfNums (a ++ r.flatMap encC), 0) := by
  intro r
  induction r with
  | nil =>
    intro p k a hp ha hk2
    obtain ⟨m, rfl, hm⟩ := up1 hk2
    rw [List.append_nil] at hp
    rw [slot_Encode.l1, if_neg (by rw [hp]; omega)]
    simp
  | cons n r ih =>
    intro p k a hp ha hk2
    rw [List.length_cons] at hk2 ha
    obtain ⟨m, rfl, hm⟩ := up1 hk2
    have hl := congrArg List.length hp
    rw [List.length_append, List.length_cons] at hl
    have e1 : rd_T43 cells (p.length : Int) = n := by rw [hp]; exact rd43_mid p n r
    have e2 : (p ++ [n]).length = p.length + 1 := by simp
    obtain ⟨hn0, hn1⟩ := hs n (by rw [hp]; simp)
    have hlen : (encC n).length ≤ 2003 := by rw [encC_len]; unfold lenC; split <;> omega
    have hrec := ih (p ++ [n]) m (a ++ encC n) (by rw [hp]; simp) (by rw [List.length_append]; omega) (by omega)
    have hassoc : a ++ encC n ++ r.flatMap encC = a ++ (n :: r).flatMap encC := by simp
    rw [e2, hassoc] at hrec
    rw [slot_Encode.l1, if_pos (by omega), if_pos (by omega), if_pos (by omega), e1, text_eq a n.f0 (by omega), Option.bind_some, w_succ p.length (by omega)]
    by_cases h2 : 0 < n.f2
    · rw [if_pos h2, if_pos (by rw [List.length_append, textL_len]; omega), four_eq _ _ (by rw [List.length_append, List.length_append, textL_len, List.length_singleton]; omega), Option.bind_some, four_eq _ _ (by rw [List.length_append, List.length_append, List.length_append, textL_len, List.length_singleton, fourL_len]; omega), Option.bind_some]
      have : a ++ textL n.f0 ++ [1] ++ fourL n.f3 ++ fourL n.f2 = a ++ encC n := by
        unfold encC
        rw [if_pos h2]
        simp
      rw [this]
      exact hrec
    · rw [if_neg h2, if_pos (by rw [List.length_append, textL_len]; omega), text_eq _ _ (by rw [List.length_append, List.length_append, textL_len, List.length_singleton]; omega), Option.bind_some]
      have : a ++ textL n.f0 ++ [0] ++ textL n.f1 = a ++ encC n := by
        unfold encC
        rw [if_neg h2]
        simp
      rw [this]
      exact hrec
def encB : List ByteArray → List Int → List Int
  | k :: r, n :: s => textL k ++ fourL n ++ encB r s
  | _, _ => []
theorem Encode_l0 (leaf : Bool) (cells : List S43) (keys : List ByteArray) (kids : List Int) (hkk : keys.length ≤ 1000) (hb : ∀ k ∈ keys, k.size ≤ 1000) (hkd : kids.length = keys.length + 1) : ∀ (r p : List ByteArray) (k : Nat) (a : List Int), keys = p ++ r → a.length + r.length * 3000 ≤ 100000000 → r.length < k →
    slot_Encode.l0 k a keys (keys.length : Int) (p.length : Int) leaf cells keys kids = some (strOfNums (a ++ encB r (kids.drop (p.length + 1))), 0) := by
  intro r
  induction r with
  | nil =>
    intro p k a hp ha hk2
    obtain ⟨m, rfl, hm⟩ := up1 hk2
    rw [List.append_nil] at hp
    rw [slot_Encode.l0, if_neg (by rw [hp]; omega)]
    simp [encB]
  | cons n r ih =>
    intro p k a hp ha hk2
    rw [List.length_cons] at hk2 ha
    obtain ⟨m, rfl, hm⟩ := up1 hk2
    have hl := congrArg List.length hp
    rw [List.length_append, List.length_cons] at hl
    have e1 : rdOf ByteArray.empty keys (p.length : Int) = n := by rw [hp]; exact rdS_mid p n r
    have e2 : (p ++ [n]).length = p.length + 1 := by simp
    have hn := hb n (by rw [hp]; simp)
    have hdrop : kids.drop (p.length + 1) = kids[p.length + 1]'(by omega) :: kids.drop (p.length + 1 + 1) := List.drop_eq_getElem_cons (by omega)
    have e3 : rd kids ((p.length + 1 : Nat) : Int) = kids[p.length + 1]'(by omega) := by
      unfold rd
      rw [Int.toNat_natCast, List.getD_eq_getElem?_getD, List.getElem?_eq_getElem (by omega)]
      rfl
    have hrec := ih (p ++ [n]) m (a ++ (textL n ++ fourL (kids[p.length + 1]'(by omega)))) (by rw [hp]; simp) (by rw [List.length_append, List.length_append, textL_len, fourL_len]; omega) (by omega)
    rw [e2] at hrec
    rw [slot_Encode.l0, if_pos (by omega), if_pos (by omega), if_pos (by omega), e1, text_eq a n (by omega), Option.bind_some, w_succ p.length (by omega), if_pos (by omega), if_pos (by omega), e3, four_eq _ _ (by rw [List.length_append, textL_len]; omega), Option.bind_some, hdrop, encB, List.append_assoc, hrec]
    simp
def encN (leaf : Bool) (cells : List S43) (keys : List ByteArray) (kids : List Int) : List Int :=
  if leaf then [1, (cells.length : Int) % 256] ++ cells.flatMap encC else [2, (keys.length : Int) % 256] ++ fourL (rd kids 0) ++ encB keys (kids.drop 1)
def encodeN (leaf : Bool) (cells : List S43) (keys : List ByteArray) (kids : List Int) : ByteArray × Int :=
  if checkB leaf cells keys kids = true then (if 500 < sizeN leaf cells keys then (⟨#[]⟩, 3) else (strOfNums (encN leaf cells keys kids), 0)) else (⟨#[]⟩, 2)
theorem adjC_all : ∀ (l : List S43) (p : Option S43), adjC p l = true → ∀ c ∈ l, cellB c = true
  | [], _, _, c, h => by simp at h
  | d :: l, p, h, c, hc => by
    rw [adjC_cons] at h
    simp only [Bool.and_eq_true] at h
    rcases List.mem_cons.1 hc with rfl | hc
    · exact h.1.1
    · exact adjC_all l _ h.2 c hc
theorem adjK_all : ∀ (l : List ByteArray) (p : Option ByteArray), adjK p l = true → ∀ c ∈ l, keyB c = true
  | [], _, _, c, h => by simp at h
  | d :: l, p, h, c, hc => by
    rw [adjK_cons] at h
    simp only [Bool.and_eq_true] at h
    rcases List.mem_cons.1 hc with rfl | hc
    · exact h.1.1
    · exact adjK_all l _ h.2 c hc
theorem keyB_size {s : ByteArray} (h : keyB s = true) : 1 ≤ s.size ∧ s.size ≤ 140 := by
  unfold keyB at h
  simpa using h
theorem cellB_size {c : S43} (h : cellB c = true) : 1 ≤ c.f0.size ∧ c.f0.size ≤ 140 ∧ c.f1.size ≤ 157 ∧ lenC c ≤ 160 := by
  unfold cellB at h
  by_cases h2 : c.f2 = 0
  · rw [if_pos h2] at h
    simp only [Bool.and_eq_true, decide_eq_true_eq] at h
    obtain ⟨⟨hk, _⟩, hl⟩ := h
    have hk2 := keyB_size hk
    have : lenC c = 3 + c.f0.size + c.f1.size := by unfold lenC; rw [if_neg (by omega)]
    omega
  · rw [if_neg h2] at h
    simp only [Bool.and_eq_true, decide_eq_true_eq] at h
    obtain ⟨⟨⟨⟨hk, hi⟩, _⟩, _⟩, hv⟩ := h
    have hk2 := keyB_size hk
    unfold idB at hi
    simp only [Bool.and_eq_true, decide_eq_true_eq] at hi
    have hv2 : c.f1.toList = [] := by simpa using hv
    have hz : c.f1.size = 0 := by
      rw [ByteArray.toList_eq] at hv2
      have := congrArg List.length hv2
      exact this
    have : lenC c = 10 + c.f0.size := by unfold lenC; rw [if_pos (by omega)]
    omega
theorem check_parts {leaf : Bool} {cells : List S43} {keys : List ByteArray} {kids : List Int} (h : checkB leaf cells keys kids = true) : cells.length ≤ 255 ∧ keys.length ≤ 255 ∧ shapeB leaf cells keys kids = true ∧ adjC none cells = true ∧ adjK none keys = true ∧ kids.all idB = true := by
  unfold checkB at h
  simp only [Bool.and_eq_true, decide_eq_true_eq] at h
  exact ⟨h.1.1.1.1.1, h.1.1.1.1.2, h.1.1.1.2, h.1.1.2, h.1.2, h.2⟩
theorem Encode_eq (leaf : Bool) (cells : List S43) (keys : List ByteArray) (kids : List Int) (hc : cells.length ≤ 1000000000) (hkk : keys.length ≤ 1000000000) (hk : kids.length ≤ 1000000000) (hs : ∀ c ∈ cells, c.f0.size ≤ 140737488355328 ∧ c.f1.size ≤ 140737488355328) (k : Nat) (h : cells.length + keys.length + kids.length + 300 < k) :
    slot_Encode.f k leaf cells keys kids = some (encodeN leaf cells keys kids) := by
  unfold slot_Encode.f encodeN
  rw [Check_eq leaf cells keys kids hc hkk hk hs k (by omega), Option.bind_some]
  by_cases hch : checkB leaf cells keys kids = true
  · rw [if_pos hch, if_pos rfl, if_pos hch]
    obtain ⟨h1, h2, h3, h4, h5, h6⟩ := check_parts hch
    have hsz : ∀ c ∈ cells, c.f0.size ≤ 1000 ∧ c.f1.size ≤ 1000 := fun c hc => by
      have := cellB_size (adjC_all cells none h4 c hc)
      omega
    have hsk : ∀ c ∈ keys, c.size ≤ 1000 := fun c hc => by
      have := keyB_size (adjK_all keys none h5 c hc)
      omega
    rw [size_eq leaf cells keys kids (by omega) (by omega) hsk hsz k (by omega), Option.bind_some]
    by_cases h500 : 500 < sizeN leaf cells keys
    · rw [if_pos (by omega), if_pos h500]
    · rw [if_neg (by omega), if_neg h500]
      unfold encN
      cases leaf
      · rw [if_neg (show ¬ (false = true) by decide), if_neg (show ¬ (false = true) by decide)]
        unfold shapeB at h3
        simp at h3
        rw [if_pos (by omega), four_eq _ _ (by simp only [List.length_cons, List.length_nil]; omega), Option.bind_some]
        have := Encode_l0 false cells keys kids (by omega) hsk h3.2 keys [] k ([2, (keys.length : Int) % 256] ++ fourL (rd kids 0)) rfl (by simp only [List.length_append, List.length_cons, List.length_nil, fourL_len]; omega) (by omega)
        exact this
      · rw [if_pos (show true = true from rfl), if_pos (show true = true from rfl)]
        exact Encode_l1 cells (by omega) hsz cells [] k [1, (cells.length : Int) % 256] rfl (by simp only [List.length_cons, List.length_nil]; omega) (by omega)
  · rw [if_neg hch, if_neg (by decide), if_neg hch]

theorem Same_l2 (leaf : Bool) (cells : List S43) (keys : List ByteArray) (kids : List Int) (hk : kids.length ≤ 1000000000) : ∀ (r p : List Int) (k : Nat), kids = p ++ r → r.length < k → aquiferref11_Same.l2 k (p.length : Int) leaf cells keys kids leaf cells keys kids = some true := by
  intro r
  induction r with
  | nil =>
    intro p k hp hk2
    obtain ⟨m, rfl, hm⟩ := up1 hk2
    rw [List.append_nil] at hp
    rw [aquiferref11_Same.l2, if_neg (by rw [hp]; omega)]
  | cons n r ih =>
    intro p k hp hk2
    rw [List.length_cons] at hk2
    obtain ⟨m, rfl, hm⟩ := up1 hk2
    have hl := congrArg List.length hp
    rw [List.length_append, List.length_cons] at hl
    have e2 : (p ++ [n]).length = p.length + 1 := by simp
    rw [aquiferref11_Same.l2, if_pos (by omega), if_pos (by omega), if_pos (by omega), if_pos rfl, w_succ p.length (by omega), ← e2]
    exact ih (p ++ [n]) m (by rw [hp]; simp) (by omega)
theorem Same_l1 (leaf : Bool) (cells : List S43) (keys : List ByteArray) (kids : List Int) (hkk : keys.length ≤ 1000000000) (hk : kids.length ≤ 1000000000) : ∀ (r p : List ByteArray) (k : Nat), keys = p ++ r → r.length + kids.length + 1 < k → aquiferref11_Same.l1 k (p.length : Int) leaf cells keys kids leaf cells keys kids = some true := by
  intro r
  induction r with
  | nil =>
    intro p k hp hk2
    rw [List.length_nil] at hk2
    obtain ⟨m, rfl, hm⟩ := up1 hk2
    rw [List.append_nil] at hp
    rw [aquiferref11_Same.l1, if_neg (by rw [hp]; omega)]
    exact Same_l2 leaf cells keys kids hk kids [] m rfl (by omega)
  | cons n r ih =>
    intro p k hp hk2
    rw [List.length_cons] at hk2
    obtain ⟨m, rfl, hm⟩ := up1 hk2
    have hl := congrArg List.length hp
    rw [List.length_append, List.length_cons] at hl
    have e2 : (p ++ [n]).length = p.length + 1 := by simp
    rw [aquiferref11_Same.l1, if_pos (by omega), if_pos (by omega), if_pos (by omega), if_pos rfl, w_succ p.length (by omega), ← e2]
    exact ih (p ++ [n]) m (by rw [hp]; simp) (by omega)
theorem Same_l0 (leaf : Bool) (cells : List S43) (keys : List ByteArray) (kids : List Int) (hc : cells.length ≤ 1000000000) (hkk : keys.length ≤ 1000000000) (hk : kids.length ≤ 1000000000) : ∀ (r p : List S43) (k : Nat), cells = p ++ r → r.length + keys.length + kids.length + 2 < k → aquiferref11_Same.l0 k (p.length : Int) leaf cells keys kids leaf cells keys kids = some true := by
  intro r
  induction r with
  | nil =>
    intro p k hp hk2
    rw [List.length_nil] at hk2
    obtain ⟨m, rfl, hm⟩ := up1 hk2
    rw [List.append_nil] at hp
    rw [aquiferref11_Same.l0, if_neg (by rw [hp]; omega)]
    exact Same_l1 leaf cells keys kids hkk hk keys [] m rfl (by omega)
  | cons n r ih =>
    intro p k hp hk2
    rw [List.length_cons] at hk2
    obtain ⟨m, rfl, hm⟩ := up1 hk2
    have hl := congrArg List.length hp
    rw [List.length_append, List.length_cons] at hl
    have e2 : (p ++ [n]).length = p.length + 1 := by simp
    rw [aquiferref11_Same.l0, if_pos (by omega), if_pos (by omega), if_pos (by omega), if_neg (by simp), w_succ p.length (by omega), ← e2]
    exact ih (p ++ [n]) m (by rw [hp]; simp) (by omega)
theorem Same_refl (leaf : Bool) (cells : List S43) (keys : List ByteArray) (kids : List Int) (hc : cells.length ≤ 1000000000) (hkk : keys.length ≤ 1000000000) (hk : kids.length ≤ 1000000000) (k : Nat) (h : cells.length + keys.length + kids.length + 4 < k) :
    aquiferref11_Same.f k leaf cells keys kids leaf cells keys kids = some true := by
  obtain ⟨k1, rfl, h1⟩ := up1 h
  have e1 : ((kids.length : Int) != (kids.length : Int)) = false := by simp
  have e0 : ¬ (leaf != leaf) = true := by simp
  unfold aquiferref11_Same.f
  rw [if_neg e0, if_pos rfl, if_pos rfl, e1, aquiferref11_Same.j0, if_neg (by decide)]
  exact Same_l0 leaf cells keys kids hc hkk hk cells [] k1 rfl (by omega)
end Go.Proofs.Ytbkcoddcgfclaaa.SP
