/- Decode, in plain words: what Encode wrote is read as it was; cut off, or with a byte more, it is none. -/
import Derived.Test.YtbkcoddcgfclaaaRestU
import Derived.Test.YtbkcoddcgfclaaaExtB
set_option linter.unusedSimpArgs false
set_option linter.unusedVariables false
namespace Go.Proofs.Ytbkcoddcgfclaaa.SP
open Go.Proofs.Ytbkcoddcgfclaaa.MSlot Go.RowKit Go.Proofs.Ytbkcoddcgfclaaa.Ext Go.Proofs.YtbkcoddcgfclaaaW.PrintWords Go.Proofs.YtbkcoddcgfclaaaW.PrintLast Go.Proofs.YtbkcoddcgfclaaaW.PrintMore

def decLeaf : Nat → RS → List S43 × RS
  | 0, s => ([], s)
  | n + 1, s => if s.b = true then ([], s) else ((rCell s).1 :: (decLeaf n (rCell s).2).1, (decLeaf n (rCell s).2).2)
def decBr : Nat → RS → (List ByteArray × List Int) × RS
  | 0, s => (([], []), s)
  | n + 1, s => if s.b = true then (([], []), s) else ((ofL (rText s).1 :: (decBr n (rFour (rText s).2).2).1.1, ((rFour (rText s).2).1 : Int) :: (decBr n (rFour (rText s).2).2).1.2), (decBr n (rFour (rText s).2).2).2)
/-- What is read of a node: its kind, its parts, and what is left. -/
structure DN where
  kind : Nat
  xs : List S43
  ks : List ByteArray
  ds : List Int
  s : RS
def decN (l : List UInt8) : DN :=
  let k := rByte ⟨l, false⟩
  let n := rByte k.2
  if k.1 = 1 then ⟨k.1, (decLeaf n.1 n.2).1, [], [], (decLeaf n.1 n.2).2⟩
  else ⟨k.1, [], (decBr n.1 (rFour n.2).2).1.1, ((rFour n.2).1 : Int) :: (decBr n.1 (rFour n.2).2).1.2, (decBr n.1 (rFour n.2).2).2⟩
def DN.leaf (d : DN) : Bool := decide (d.kind = 1)
def DN.good (d : DN) : Bool := !d.s.b && decide (d.s.l = []) && (d.leaf || decide (d.kind = 2)) && checkB d.leaf d.xs d.ks d.ds

def encU (leaf : Bool) (cells : List S43) (keys : List ByteArray) (kids : List Int) : List UInt8 := (encN leaf cells keys kids).map u8
theorem leaf_enc : ∀ (cells : List S43) (r : List UInt8), (∀ c ∈ cells, cellB c = true) → decLeaf cells.length ⟨(cells.flatMap encC).map u8 ++ r, false⟩ = (cells, ⟨r, false⟩)
  | [], r, _ => rfl
  | c :: cells, r, h => by
    have hc := h c (by simp)
    have ih := leaf_enc cells r (fun x hx => h x (by simp [hx]))
    rw [List.length_cons, decLeaf, if_neg (by simp), List.flatMap_cons, List.map_append, encCU_eq, List.append_assoc, cell_enc c hc, ih]
theorem br_enc : ∀ (keys : List ByteArray) (kids : List Int) (r : List UInt8), kids.length = keys.length → (∀ k ∈ keys, keyB k = true) → (∀ n ∈ kids, idB n = true) → decBr keys.length ⟨(encB keys kids).map u8 ++ r, false⟩ = ((keys, kids), ⟨r, false⟩)
  | [], [], r, _, _, _ => rfl
  | [], _ :: _, r, h, _, _ => by simp at h
  | _ :: _, [], r, h, _, _ => by simp at h
  | k :: keys, n :: kids, r, hl, hk, hn => by
    have h1 := keyB_size (hk k (by simp))
    have h2 := hn n (by simp)
    unfold idB at h2
    simp only [Bool.and_eq_true, decide_eq_true_eq] at h2
    have ih := br_enc keys kids r (by simpa using hl) (fun x hx => hk x (by simp [hx])) (fun x hx => hn x (by simp [hx]))
    rw [List.length_cons, decBr, if_neg (by simp), encB, List.map_append, List.map_append, textU_eq, List.append_assoc, List.append_assoc, rText_enc k (by omega)]
    simp only
    obtain ⟨p1, p2⟩ := rFour_enc n (by omega) (by omega) ((encB keys kids).map u8 ++ r) false
    unfold fourU at p1 p2
    rw [p2, p1, ih, ofL_data]
theorem dec_enc {leaf : Bool} {cells : List S43} {keys : List ByteArray} {kids : List Int} (h : checkB leaf cells keys kids = true) (r : List UInt8) : decN (encU leaf cells keys kids ++ r) = ⟨if leaf then 1 else 2, cells, keys, kids, ⟨r, false⟩⟩ := by
  obtain ⟨n1, n2, n3, n4, n5, n6⟩ := check_parts h
  unfold shapeB at n3
  unfold encU encN decN
  cases leaf
  · simp only [Bool.false_eq_true, if_false, Bool.and_eq_true, decide_eq_true_eq] at n3
    obtain ⟨m1, m2⟩ := n3
    have hc := List.eq_nil_of_length_eq_zero m1
    obtain ⟨d, ds, rfl⟩ : ∃ d ds, kids = d :: ds := by
      cases kids with
      | nil => simp at m2
      | cons d ds => exact ⟨d, ds, rfl⟩
    have hall := List.all_eq_true.1 n6
    have hd := hall d (by simp)
    unfold idB at hd
    simp only [Bool.and_eq_true, decide_eq_true_eq] at hd
    simp only [Bool.false_eq_true, if_false, List.map_append, List.map_cons, List.map_nil, List.cons_append, List.nil_append, List.append_assoc]
    rw [rByte_cons]
    simp only
    rw [rByte_cons]
    simp only
    have e2 : (u8 2).toNat = 2 := rfl
    have e3 : (u8 ((keys.length : Int) % 256)).toNat = keys.length := by
      have := u8_nat (n := (keys.length : Int) % 256) (by omega) (by omega)
      omega
    have hr0 : rd (d :: ds) 0 = d := rfl
    rw [e2, e3, if_neg (by decide), hr0]
    obtain ⟨p1, p2⟩ := rFour_enc d (by omega) (by omega) ((encB keys ds).map u8 ++ r) false
    unfold fourU at p1 p2
    have hdr : (d :: ds).drop 1 = ds := rfl
    rw [hdr, p2, p1, br_enc keys ds r (by simpa using m2) (adjK_all keys none n5) (fun n hn => hall n (by simp [hn])), hc]
  · simp only [if_true, Bool.and_eq_true, decide_eq_true_eq] at n3
    obtain ⟨m1, m2⟩ := n3
    have hk := List.eq_nil_of_length_eq_zero m1
    have hd := List.eq_nil_of_length_eq_zero m2
    subst hk hd
    simp only [if_true, List.map_append, List.map_cons, List.map_nil, List.cons_append, List.nil_append, List.append_assoc]
    rw [rByte_cons]
    simp only
    rw [rByte_cons]
    simp only
    have e2 : (u8 1).toNat = 1 := rfl
    have e3 : (u8 ((cells.length : Int) % 256)).toNat = cells.length := by
      have := u8_nat (n := (cells.length : Int) % 256) (by omega) (by omega)
      omega
    rw [e2, e3, if_pos rfl, leaf_enc cells r (adjC_all cells none n4)]

theorem bad_take {n : Nat} {s : RS} (h : s.b = true) : (rTake n s).2.b = true := by
  unfold rTake
  split
  · rfl
  · exact h
theorem bad_text {s : RS} (h : s.b = true) : (rText s).2.b = true := bad_take (bad_take h)
theorem bad_byte {s : RS} (h : s.b = true) : (rByte s).2.b = true := bad_take h
theorem bad_four {s : RS} (h : s.b = true) : (rFour s).2.b = true := bad_take h
theorem bad_cell2 {s : RS} (h : (rByte (rText s).2).2.b = true) : (rCell s).2.b = true := by
  unfold rCell
  simp only
  split
  · exact bad_text h
  · split
    · have := bad_four (bad_four h)
      simp [this]
    · rfl
theorem bad_cell1 {s : RS} (h : (rText s).2.b = true) : (rCell s).2.b = true := bad_cell2 (bad_byte h)
theorem bad_leaf {n : Nat} {s : RS} (h : s.b = true) : (decLeaf n s).2.b = true := by
  cases n with
  | zero => exact h
  | succ n => rw [decLeaf, if_pos h]; exact h
theorem bad_br {n : Nat} {s : RS} (h : s.b = true) : (decBr n s).2.b = true := by
  cases n with
  | zero => exact h
  | succ n => rw [decBr, if_pos h]; exact h
/-- The same is read where the bytes are there; else it is told. -/
def Upto {α : Type} (q : List UInt8) (x y : α × RS) : Prop := x.2.b = true ∨ (x.1 = y.1 ∧ x.2.b = y.2.b ∧ y.2.l = x.2.l ++ q)
def RSq (q : List UInt8) (s t : RS) : Prop := s.b = t.b ∧ t.l = s.l ++ q
theorem upto_take (q : List UInt8) (n : Nat) {s t : RS} (h : RSq q s t) : Upto q (rTake n s) (rTake n t) := by
  obtain ⟨h1, h2⟩ := h
  unfold rTake
  by_cases hs : s.l.length < n
  · rw [if_pos hs]; exact .inl rfl
  · rw [if_neg hs, if_neg (by rw [h2, List.length_append]; omega)]
    refine .inr ⟨?_, h1, ?_⟩
    · rw [h2, List.take_append_of_le_length (by omega)]
    · rw [h2]; simp only; rw [List.drop_append_of_le_length (by omega)]
theorem upto_byte (q : List UInt8) {s t : RS} (h : RSq q s t) : Upto q (rByte s) (rByte t) := by
  rcases upto_take q 1 h with h | ⟨h1, h2, h3⟩
  · exact .inl h
  · exact .inr ⟨by unfold rByte; rw [h1], h2, h3⟩
theorem upto_four (q : List UInt8) {s t : RS} (h : RSq q s t) : Upto q (rFour s) (rFour t) := by
  rcases upto_take q 4 h with h | ⟨h1, h2, h3⟩
  · exact .inl h
  · exact .inr ⟨by unfold rFour; rw [h1], h2, h3⟩
theorem upto_text (q : List UInt8) {s t : RS} (h : RSq q s t) : Upto q (rText s) (rText t) := by
  unfold rText
  rcases upto_byte q h with h | ⟨h1, h2, h3⟩
  · exact .inl (bad_take h)
  · rw [h1]
    exact upto_take q _ ⟨h2, h3⟩
theorem rCell_0 {s : RS} (h : (rByte (rText s).2).1 = 0) : rCell s = (⟨ofL (rText s).1, ofL (rText (rByte (rText s).2).2).1, 0, 0⟩, (rText (rByte (rText s).2).2).2) := by
  unfold rCell
  rw [if_pos h]
theorem rCell_1 {s : RS} (h : (rByte (rText s).2).1 = 1) : rCell s = (⟨ofL (rText s).1, ⟨#[]⟩, ((rFour (rFour (rByte (rText s).2).2).2).1 : Nat), ((rFour (rByte (rText s).2).2).1 : Nat)⟩, ⟨(rFour (rFour (rByte (rText s).2).2).2).2.l, (rFour (rFour (rByte (rText s).2).2).2).2.b || ((rFour (rFour (rByte (rText s).2).2).2).1 == 0)⟩) := by
  unfold rCell
  rw [if_neg (by omega), if_pos h]
theorem rCell_2 {s : RS} (h0 : (rByte (rText s).2).1 ≠ 0) (h : (rByte (rText s).2).1 ≠ 1) : rCell s = (⟨ofL (rText s).1, ⟨#[]⟩, 0, 0⟩, ⟨(rByte (rText s).2).2.l, true⟩) := by
  unfold rCell
  rw [if_neg h0, if_neg h]
theorem upto_mk {α : Type} {q : List UInt8} {x y : α} {s t : RS} (h1 : x = y) (h2 : s.b = t.b) (h3 : t.l = s.l ++ q) : Upto q (x, s) (y, t) := .inr ⟨h1, h2, h3⟩
theorem upto_cell (q : List UInt8) {s t : RS} (h : RSq q s t) : Upto q (rCell s) (rCell t) := by
  rcases upto_text q h with h0 | ⟨a1, a2, a3⟩
  · exact .inl (bad_cell1 h0)
  · rcases upto_byte q ⟨a2, a3⟩ with h0 | ⟨b1, b2, b3⟩
    · exact .inl (bad_cell2 h0)
    · by_cases k0 : (rByte (rText s).2).1 = 0
      · rcases upto_text q ⟨b2, b3⟩ with h0 | ⟨c1, c2, c3⟩
        · rw [rCell_0 k0]; exact .inl h0
        · rw [rCell_0 k0, rCell_0 (b1.symm.trans k0)]; exact upto_mk (by rw [a1, c1]) c2 c3
      · by_cases k1 : (rByte (rText s).2).1 = 1
        · rcases upto_four q ⟨b2, b3⟩ with h0 | ⟨c1, c2, c3⟩
          · have := bad_four h0
            rw [rCell_1 k1, this]
            exact .inl rfl
          · rcases upto_four q ⟨c2, c3⟩ with h0 | ⟨d1, d2, d3⟩
            · rw [rCell_1 k1, h0]
              exact .inl rfl
            · rw [rCell_1 k1, rCell_1 (b1.symm.trans k1)]
              exact upto_mk (by rw [a1, c1, d1]) (by simp only [d1, d2]) d3
        · rw [rCell_2 k0 k1]
          exact .inl rfl
theorem upto_leaf (q : List UInt8) : ∀ (n : Nat) (s t : RS), RSq q s t → Upto q (decLeaf n s) (decLeaf n t)
  | 0, s, t, h => .inr ⟨rfl, h.1, h.2⟩
  | n + 1, s, t, h => by
    by_cases hb : s.b = true
    · exact .inl (bad_leaf hb)
    · rw [decLeaf, decLeaf, if_neg hb, if_neg (by rw [← h.1]; exact hb)]
      rcases upto_cell q h with h0 | ⟨a1, a2, a3⟩
      · exact .inl (bad_leaf h0)
      · rcases upto_leaf q n _ _ ⟨a2, a3⟩ with h0 | ⟨b1, b2, b3⟩
        · exact .inl h0
        · exact .inr ⟨by simp only [a1, b1], b2, b3⟩
theorem upto_br (q : List UInt8) : ∀ (n : Nat) (s t : RS), RSq q s t → Upto q (decBr n s) (decBr n t)
  | 0, s, t, h => .inr ⟨rfl, h.1, h.2⟩
  | n + 1, s, t, h => by
    by_cases hb : s.b = true
    · exact .inl (bad_br hb)
    · rw [decBr, decBr, if_neg hb, if_neg (by rw [← h.1]; exact hb)]
      rcases upto_text q h with h0 | ⟨a1, a2, a3⟩
      · exact .inl (bad_br (bad_take h0))
      · rcases upto_four q ⟨a2, a3⟩ with h0 | ⟨c1, c2, c3⟩
        · exact .inl (bad_br h0)
        · rcases upto_br q n _ _ ⟨c2, c3⟩ with h0 | ⟨b1, b2, b3⟩
          · exact .inl h0
          · exact .inr ⟨by simp only [a1, c1, b1], b2, b3⟩
/-- Cut off: something is lacking, or the rest is still to be read behind the whole. -/
theorem upto_dec (p q : List UInt8) : (decN p).s.b = true ∨ (decN (p ++ q)).s.l = (decN p).s.l ++ q := by
  have h0 : RSq q ⟨p, false⟩ ⟨p ++ q, false⟩ := ⟨rfl, rfl⟩
  unfold decN
  simp only
  rcases upto_byte q h0 with h | ⟨a1, a2, a3⟩
  · left
    split
    · exact bad_leaf (bad_take h)
    · exact bad_br (bad_take (bad_take h))
  · rw [← a1]
    rcases upto_byte q ⟨a2, a3⟩ with h | ⟨b1, b2, b3⟩
    · left
      split
      · exact bad_leaf h
      · exact bad_br (bad_take h)
    · rw [← b1]
      by_cases hk : (rByte ⟨p, false⟩).1 = 1
      · rw [if_pos hk, if_pos hk]
        rcases upto_leaf q _ _ _ ⟨b2, b3⟩ with h | ⟨_, _, c3⟩
        · exact .inl h
        · exact .inr c3
      · rw [if_neg hk, if_neg hk]
        rcases upto_four q ⟨b2, b3⟩ with h | ⟨c1, c2, c3⟩
        · exact .inl (bad_br h)
        · rcases upto_br q _ _ _ ⟨c2, c3⟩ with h | ⟨_, _, d3⟩
          · exact .inl h
          · exact .inr d3
theorem good_enc {leaf : Bool} {cells : List S43} {keys : List ByteArray} {kids : List Int} (h : checkB leaf cells keys kids = true) : (decN (encU leaf cells keys kids)).good = true ∧ decN (encU leaf cells keys kids) = ⟨if leaf then 1 else 2, cells, keys, kids, ⟨[], false⟩⟩ := by
  have := dec_enc h []
  rw [List.append_nil] at this
  rw [this]
  refine ⟨?_, rfl⟩
  unfold DN.good DN.leaf
  cases leaf
  · simp [h]
  · simp [h]
theorem bad_more {leaf : Bool} {cells : List S43} {keys : List ByteArray} {kids : List Int} (h : checkB leaf cells keys kids = true) (r : List UInt8) (hr : r ≠ []) : (decN (encU leaf cells keys kids ++ r)).good = false := by
  rw [dec_enc h r]
  unfold DN.good
  simp [hr]
theorem bad_less {leaf : Bool} {cells : List S43} {keys : List ByteArray} {kids : List Int} (h : checkB leaf cells keys kids = true) (n : Nat) (hn : n < (encU leaf cells keys kids).length) : (decN ((encU leaf cells keys kids).take n)).good = false := by
  have hd : (encU leaf cells keys kids).drop n ≠ [] := by
    intro e
    have := congrArg List.length e
    rw [List.length_drop, List.length_nil] at this
    omega
  rcases upto_dec ((encU leaf cells keys kids).take n) ((encU leaf cells keys kids).drop n) with h1 | h1
  · unfold DN.good
    rw [h1]
    rfl
  · rw [List.take_append_drop, (good_enc h).2] at h1
    have := congrArg List.length h1
    rw [List.length_append, List.length_nil] at this
    have h2 : 0 < ((encU leaf cells keys kids).drop n).length := List.length_pos_iff.2 hd
    omega
end Go.Proofs.Ytbkcoddcgfclaaa.SP
