/- Nodes in plain words: what may be, and how many bytes it has. -/
import Derived.Test.YtbkcoddcgfclaaaMSlotx4
import Derived.Test.YtbkcoddcgfclaaaMSlotx5
import Derived.Test.YtbkcoddcgfclaaaExt
set_option linter.unusedSimpArgs false
set_option linter.unusedVariables false
namespace Go.Proofs.Ytbkcoddcgfclaaa.SP
open Go.RowKit Go.Proofs.Ytbkcoddcgfclaaa.MSlot Go.Proofs.Ytbkcoddcgfclaaa.Ext Go.Proofs.YtbkcoddcgfclaaaW.PrintWords Go.Proofs.YtbkcoddcgfclaaaW.PrintLast Go.Proofs.YtbkcoddcgfclaaaW.PrintMore

theorem up1 {k n : Nat} (h : n < k) : ∃ m, k = m + 1 ∧ n ≤ m := ⟨k - 1, by omega, by omega⟩
theorem w64 {x : Int} (h0 : -9223372036854775808 ≤ x) (h1 : x ≤ 9223372036854775807) : wrap64 x = x := by unfold wrap64; omega
theorem w_succ (i : Nat) (h : i ≤ 1000000000000) : wrap64 ((i : Int) + 1) = ((i + 1 : Nat) : Int) := by rw [w64 (by omega) (by omega)]; omega
theorem w_pred (i : Nat) (h : i ≤ 1000000000000) : wrap64 (((i + 1 : Nat) : Int) - 1) = (i : Int) := by rw [w64 (by omega) (by omega)]; omega
theorem rd43_mid (p : List S43) (c : S43) (r : List S43) : rd_T43 (p ++ c :: r) (p.length : Int) = c := by
  rw [rd_at _ p.length (by simp)]
  simp
theorem rdS_mid (p : List ByteArray) (c : ByteArray) (r : List ByteArray) : rdOf ByteArray.empty (p ++ c :: r) (p.length : Int) = c := by
  unfold rdOf
  rw [Int.toNat_natCast, List.getD_eq_getElem?_getD]
  simp
theorem rdI_mid (p : List Int) (c : Int) (r : List Int) : rd (p ++ c :: r) (p.length : Int) = c := by
  unfold rd
  rw [Int.toNat_natCast, List.getD_eq_getElem?_getD]
  simp

def keyB (s : ByteArray) : Bool := decide (1 ≤ s.size) && decide (s.size ≤ 140)
def idB (n : Int) : Bool := decide (1 ≤ n) && decide (n ≤ 2147483647)
def lenC (c : S43) : Nat := if 0 < c.f2 then 10 + c.f0.size else 3 + c.f0.size + c.f1.size
def cellB (c : S43) : Bool := if c.f2 = 0 then keyB c.f0 && (c.f3 == 0) && decide (lenC c ≤ 160) else keyB c.f0 && idB c.f2 && decide (0 ≤ c.f3) && decide (c.f3 ≤ 16384) && (c.f1.toList == [])
def less (a b : ByteArray) : Bool := Op.bytesLess a.toList b.toList
theorem key_eq (s : ByteArray) : slot_key.f s = some (keyB s) := by
  unfold slot_key.f keyB
  by_cases h : 1 ≤ s.size
  · rw [if_pos (by omega), decide_eq_true h, Bool.true_and]
    congr 1
    rw [decide_eq_decide]
    omega
  · rw [if_neg (by omega), decide_eq_false h, Bool.false_and]
theorem id_eq' (n : Int) : slot_id.f n = some (idB n) := by
  unfold slot_id.f idB
  by_cases h : 1 ≤ n
  · rw [if_pos (by omega), decide_eq_true h, Bool.true_and]
  · rw [if_neg (by omega), decide_eq_false h, Bool.false_and]
theorem length_eq (c : S43) (h0 : c.f0.size ≤ 140737488355328) (h1 : c.f1.size ≤ 140737488355328) : slot_length.f c.f0 c.f1 c.f2 c.f3 = some (lenC c : Int) := by
  unfold slot_length.f lenC
  by_cases h : 0 < c.f2
  · rw [if_pos (by omega), if_pos h, w64 (by omega) (by omega)]
    congr 1
  · rw [if_neg (by omega), if_neg h, w64 (x := 3 + (c.f0.size : Int)) (by omega) (by omega), w64 (by omega) (by omega)]
    congr 1
theorem cell_eq (c : S43) (h0 : c.f0.size ≤ 140737488355328) (h1 : c.f1.size ≤ 140737488355328) : slot_cell.f c.f0 c.f1 c.f2 c.f3 = some (cellB c) := by
  unfold slot_cell.f cellB
  by_cases h : c.f2 = 0
  · rw [if_pos h, if_pos h, key_eq, Option.bind_some]
    cases keyB c.f0
    · rfl
    · rw [if_pos rfl, Bool.true_and]
      by_cases h3 : c.f3 = 0
      · have e : (c.f3 == 0) = true := by rw [h3]; rfl
        rw [if_pos h3, length_eq c h0 h1, Option.bind_some, e, Bool.true_and]
        congr 1
        rw [decide_eq_decide]
        omega
      · have e : (c.f3 == 0) = false := beq_eq_false_iff_ne.2 h3
        rw [if_neg h3, e]
        rfl
  · rw [if_neg h, if_neg h, key_eq, Option.bind_some]
    cases keyB c.f0
    · rfl
    · rw [if_pos rfl, id_eq', Option.bind_some]
      cases idB c.f2
      · rfl
      · rw [if_pos rfl, Bool.true_and, Bool.true_and]
        by_cases h3 : 0 ≤ c.f3
        · rw [if_pos (by omega), decide_eq_true h3, Bool.true_and]
          by_cases h4 : c.f3 ≤ 16384
          · rw [if_pos h4, decide_eq_true h4, Bool.true_and]
          · rw [if_neg h4, decide_eq_false h4]; rfl
        · rw [if_neg (by omega), decide_eq_false h3]; rfl
/-- Keys that may be, each more than the one ahead. -/
def adjK : Option ByteArray → List ByteArray → Bool
  | _, [] => true
  | p, k :: r => keyB k && (match p with | none => true | some q => less q k) && adjK (some k) r
def adjC : Option S43 → List S43 → Bool
  | _, [] => true
  | p, c :: r => cellB c && (match p with | none => true | some q => less q.f0 c.f0) && adjC (some c) r
theorem adjK_cons (p : Option ByteArray) (k : ByteArray) (r : List ByteArray) : adjK p (k :: r) = (keyB k && (match p with | none => true | some q => less q k) && adjK (some k) r) := by cases p <;> rfl
theorem adjC_cons (p : Option S43) (c : S43) (r : List S43) : adjC p (c :: r) = (cellB c && (match p with | none => true | some q => less q.f0 c.f0) && adjC (some c) r) := by cases p <;> rfl
def shapeB (leaf : Bool) (cells : List S43) (keys : List ByteArray) (kids : List Int) : Bool :=
  if leaf then decide (keys.length = 0) && decide (kids.length = 0) else decide (cells.length = 0) && decide (kids.length = keys.length + 1)
def checkB (leaf : Bool) (cells : List S43) (keys : List ByteArray) (kids : List Int) : Bool :=
  decide (cells.length ≤ 255) && decide (keys.length ≤ 255) && shapeB leaf cells keys kids && adjC none cells && adjK none keys && kids.all idB
theorem last_snoc {α : Type} (p : List α) (c : α) : (p ++ [c]).getLast? = some c := by simp
theorem Check_l2 (kids : List Int) (hk : kids.length ≤ 1000000000) : ∀ (r p : List Int) (k : Nat) (b : Bool), kids = p ++ r → r.length < k →
    slot_Check.l2 k b kids (kids.length : Int) (p.length : Int) = some (if (b && r.all idB) = true then 0 else 2) := by
  intro r
  induction r with
  | nil =>
    intro p k b hp hk2
    obtain ⟨m, rfl, hm⟩ := up1 hk2
    rw [List.append_nil] at hp
    rw [slot_Check.l2, if_neg (by rw [hp]; omega), List.all_nil, Bool.and_true]
    cases b <;> rfl
  | cons n r ih =>
    intro p k b hp hk2
    rw [List.length_cons] at hk2
    obtain ⟨m, rfl, hm⟩ := up1 hk2
    have hl := congrArg List.length hp
    rw [List.length_append, List.length_cons] at hl
    have e1 : rd kids (p.length : Int) = n := by rw [hp]; exact rdI_mid p n r
    have e2 : (p ++ [n]).length = p.length + 1 := by simp
    have hrec := fun b => ih (p ++ [n]) m b (by rw [hp]; simp) (by omega)
    rw [e2] at hrec
    rw [slot_Check.l2, if_pos (by omega), if_pos (by omega), if_pos (by omega), e1, w_succ p.length (by omega), id_eq', Option.bind_some, hrec, hrec, List.all_cons]
    cases b
    · rw [if_neg (by decide), Bool.false_and, Bool.false_and]
    · rw [if_pos rfl, Bool.true_and]
theorem Check_l1 (leaf : Bool) (cells : List S43) (keys : List ByteArray) (kids : List Int) (hkk : keys.length ≤ 1000000000) (hk : kids.length ≤ 1000000000) : ∀ (r p : List ByteArray) (k : Nat) (b : Bool), keys = p ++ r → r.length + kids.length + 1 < k →
    slot_Check.l1 k b keys (keys.length : Int) (p.length : Int) leaf cells keys kids = some (if (b && adjK p.getLast? r && kids.all idB) = true then 0 else 2) := by
  intro r
  induction r with
  | nil =>
    intro p k b hp hk2
    rw [List.length_nil] at hk2
    obtain ⟨m, rfl, hm⟩ := up1 hk2
    rw [List.append_nil] at hp
    rw [slot_Check.l1, if_neg (by rw [hp]; omega)]
    have := Check_l2 kids hk kids [] m b rfl (by omega)
    have e : adjK p.getLast? [] = true := by cases p.getLast? <;> rfl
    rw [e, Bool.and_true]
    exact this
  | cons n r ih =>
    intro p k b hp hk2
    rw [List.length_cons] at hk2
    obtain ⟨m, rfl, hm⟩ := up1 hk2
    have hl := congrArg List.length hp
    rw [List.length_append, List.length_cons] at hl
    have e1 : rdOf ByteArray.empty keys (p.length : Int) = n := by rw [hp]; exact rdS_mid p n r
    have e2 : (p ++ [n]).length = p.length + 1 := by simp
    have hrec := fun b => ih (p ++ [n]) m b (by rw [hp]; simp) (by omega)
    rw [e2, last_snoc] at hrec
    rw [slot_Check.l1, if_pos (by omega), if_pos (by omega), if_pos (by omega), e1, w_succ p.length (by omega)]
    cases b
    · rw [if_neg (by decide), hrec, Bool.false_and, Bool.false_and, Bool.false_and, Bool.false_and]
    · rw [if_pos rfl, key_eq, Option.bind_some, adjK_cons]
      cases keyB n
      · rw [if_neg (by decide), hrec]
        simp
      · rw [if_pos rfl, hrec]
        by_cases h0 : p = []
        · rw [if_pos (by rw [h0]; rfl), h0]
          simp
        · obtain ⟨q, z, e⟩ : ∃ q z, p = q ++ [z] := ⟨p.dropLast, p.getLast h0, (List.dropLast_concat_getLast h0).symm⟩
          have hpl : p.length = q.length + 1 := by rw [e]; simp
          have ez : rdOf ByteArray.empty keys (q.length : Int) = z := by rw [hp, e, List.append_assoc]; exact rdS_mid q z (n :: r)
          rw [if_neg (by omega), hpl, w_pred q.length (by omega), if_pos (by omega), if_pos (by omega), ez]
          rw [hpl] at hrec
          rw [hrec, e, last_snoc]
          unfold less
          simp
theorem Check_l0 (leaf : Bool) (cells : List S43) (keys : List ByteArray) (kids : List Int) (hc : cells.length ≤ 1000000000) (hkk : keys.length ≤ 1000000000) (hk : kids.length ≤ 1000000000) (hs : ∀ c ∈ cells, c.f0.size ≤ 140737488355328 ∧ c.f1.size ≤ 140737488355328) : ∀ (r p : List S43) (k : Nat) (b : Bool), cells = p ++ r → r.length + keys.length + kids.length + 2 < k →
    slot_Check.l0 k b cells (cells.length : Int) (p.length : Int) leaf cells keys kids = some (if (b && adjC p.getLast? r && adjK none keys && kids.all idB) = true then 0 else 2) := by
  intro r
  induction r with
  | nil =>
    intro p k b hp hk2
    rw [List.length_nil] at hk2
    obtain ⟨m, rfl, hm⟩ := up1 hk2
    rw [List.append_nil] at hp
    rw [slot_Check.l0, if_neg (by rw [hp]; omega)]
    have := Check_l1 leaf cells keys kids hkk hk keys [] m b rfl (by omega)
    have e : adjC p.getLast? [] = true := by cases p.getLast? <;> rfl
    rw [e, Bool.and_true]
    exact this
  | cons n r ih =>
    intro p k b hp hk2
    rw [List.length_cons] at hk2
    obtain ⟨m, rfl, hm⟩ := up1 hk2
    have hl := congrArg List.length hp
    rw [List.length_append, List.length_cons] at hl
    have e1 : rd_T43 cells (p.length : Int) = n := by rw [hp]; exact rd43_mid p n r
    have e2 : (p ++ [n]).length = p.length + 1 := by simp
    have hsn := hs n (by rw [hp]; simp)
    have hrec := fun b => ih (p ++ [n]) m b (by rw [hp]; simp) (by omega)
    rw [e2, last_snoc] at hrec
    rw [slot_Check.l0, if_pos (by omega), if_pos (by omega), if_pos (by omega), e1, w_succ p.length (by omega)]
    cases b
    · rw [if_neg (by decide), hrec, Bool.false_and, Bool.false_and, Bool.false_and, Bool.false_and, Bool.false_and, Bool.false_and]
    · rw [if_pos rfl, cell_eq n hsn.1 hsn.2, Option.bind_some, adjC_cons]
      cases cellB n
      · rw [if_neg (by decide), hrec]
        simp
      · rw [if_pos rfl, hrec]
        by_cases h0 : p = []
        · rw [if_pos (by rw [h0]; rfl), h0]
          simp
        · obtain ⟨q, z, e⟩ : ∃ q z, p = q ++ [z] := ⟨p.dropLast, p.getLast h0, (List.dropLast_concat_getLast h0).symm⟩
          have hpl : p.length = q.length + 1 := by rw [e]; simp
          have ez : rd_T43 cells (q.length : Int) = z := by rw [hp, e, List.append_assoc]; exact rd43_mid q z (n :: r)
          rw [if_neg (by omega), hpl, w_pred q.length (by omega), if_pos (by omega), if_pos (by omega), ez]
          rw [hpl] at hrec
          rw [hrec, e, last_snoc]
          unfold less
          simp
theorem Check_eq (leaf : Bool) (cells : List S43) (keys : List ByteArray) (kids : List Int) (hc : cells.length ≤ 1000000000) (hkk : keys.length ≤ 1000000000) (hk : kids.length ≤ 1000000000) (hs : ∀ c ∈ cells, c.f0.size ≤ 140737488355328 ∧ c.f1.size ≤ 140737488355328) (k : Nat) (h : cells.length + keys.length + kids.length + 5 < k) :
    slot_Check.f k leaf cells keys kids = some (if checkB leaf cells keys kids = true then 0 else 2) := by
  obtain ⟨k1, rfl, h1⟩ := up1 h
  obtain ⟨k2, rfl, h2⟩ := up1 (show cells.length + keys.length + kids.length + 4 < k1 by omega)
  have hl : ∀ b, slot_Check.l0 k2 b cells (cells.length : Int) 0 leaf cells keys kids = some (if (b && adjC none cells && adjK none keys && kids.all idB) = true then 0 else 2) := fun b =>
    Check_l0 leaf cells keys kids hc hkk hk hs cells [] k2 b rfl (by omega)
  have hj : ∀ b, slot_Check.j0 (k2 + 1 + 1) b leaf cells keys kids = some (if (b && shapeB leaf cells keys kids && adjC none cells && adjK none keys && kids.all idB) = true then 0 else 2) := by
    intro b
    rw [slot_Check.j0, slot_Check.j1, slot_Check.j1, slot_Check.j1, hl, hl, hl]
    unfold shapeB
    cases leaf
    · rw [if_neg (show ¬ (false = true) by decide), if_neg (show ¬ (false = true) by decide)]
      cases b
      · rw [if_neg (show ¬ (false = true) by decide)]; rfl
      · rw [if_pos (show true = true from rfl), Bool.true_and]
        by_cases h0 : cells.length = 0
        · rw [if_pos (by omega), decide_eq_true h0, Bool.true_and, w_succ keys.length (by omega)]
          have : ((kids.length : Int) == ((keys.length + 1 : Nat) : Int)) = decide (kids.length = keys.length + 1) := by
            rw [Bool.eq_iff_iff]; simp; omega
          rw [this]
        · rw [if_neg (by omega), decide_eq_false h0]; rfl
    · rw [if_pos (show true = true from rfl), if_pos (show true = true from rfl)]
      cases b
      · rw [if_neg (show ¬ (false = true) by decide)]; rfl
      · rw [if_pos (show true = true from rfl), Bool.true_and]
        by_cases h0 : keys.length = 0
        · rw [if_pos (by omega), decide_eq_true h0, Bool.true_and]
          have : ((kids.length : Int) == 0) = decide (kids.length = 0) := by
            rw [Bool.eq_iff_iff]; simp
          rw [this]
        · rw [if_neg (by omega), decide_eq_false h0]; rfl
  unfold slot_Check.f checkB
  rw [hj, hj]
  by_cases h5 : cells.length ≤ 255
  · rw [if_pos (by omega), decide_eq_true h5, Bool.true_and]
    have : decide ((keys.length : Int) ≤ 255) = decide (keys.length ≤ 255) := by rw [decide_eq_decide]; omega
    rw [this]
  · rw [if_neg (by omega), decide_eq_false h5]
    rfl

end Go.Proofs.Ytbkcoddcgfclaaa.SP
