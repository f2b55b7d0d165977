/- Reading bytes, in plain words: a text with its size ahead, a number of four bytes, a cell, a node. -/
import Derived.Test.YtbkcoddcgfclaaaRestP
import Derived.Test.YtbkcoddcgfclaaaSlotFew
set_option linter.unusedSimpArgs false
set_option linter.unusedVariables false
namespace Go.Proofs.Ytbkcoddcgfclaaa.SP
open Go.Proofs.Ytbkcoddcgfclaaa.MSlot Go.RowKit Go.Proofs.Ytbkcoddcgfclaaa.Ext Go.Proofs.YtbkcoddcgfclaaaW.PrintWords Go.Proofs.YtbkcoddcgfclaaaW.PrintLast Go.Proofs.YtbkcoddcgfclaaaW.PrintMore

def ofL (l : List UInt8) : ByteArray := ⟨l.toArray⟩
theorem ofL_size (l : List UInt8) : (ofL l).size = l.length := rfl
theorem ofL_data (s : ByteArray) : ofL s.data.toList = s := by cases s; rfl
theorem ofL_toList (l : List UInt8) : (ofL l).data.toList = l := rfl
theorem ofL_take (l : List UInt8) (n : Nat) : (ofL l).extract 0 n = ofL (l.take n) := by
  have h : ((ofL l).extract 0 n).data.toList = l.take n := by simp [ofL]
  rw [← ofL_data ((ofL l).extract 0 n), h]
theorem ofL_drop (l : List UInt8) (n : Nat) : (ofL l).extract n (ofL l).size = ofL (l.drop n) := by
  have h : ((ofL l).extract n (ofL l).size).data.toList = l.drop n := by
    simp only [ofL, ByteArray.size, ByteArray.data_extract, Array.toList_extract, List.extract_eq_take_drop, List.size_toArray]
    rw [List.take_of_length_le (by simp)]
  rw [← ofL_data ((ofL l).extract n (ofL l).size), h]
theorem ofL_bt (l : List UInt8) (i : Nat) (h : i < l.length) : bt (ofL l) (i : Int) = ((l[i]).toNat : Int) := by
  unfold bt
  rw [dif_pos (by rw [Int.toNat_natCast]; exact h)]
  simp only [Int.toNat_natCast]
  rfl

/-- What is still to be read, and whether there were too few. -/
structure RS where
  l : List UInt8
  b : Bool
def rTake (n : Nat) (s : RS) : List UInt8 × RS := if s.l.length < n then (List.replicate n 0, ⟨[], true⟩) else (s.l.take n, ⟨s.l.drop n, s.b⟩)
theorem rTake_len (n : Nat) (s : RS) : (rTake n s).1.length = n := by
  unfold rTake
  split
  · simp
  · simp; omega
theorem rep_zero : ∀ n : Nat, Lib.repeatL [0] n = List.replicate n 0
  | 0 => rfl
  | n + 1 => by
    have := Lib.repeatL_add [0] 1 n
    rw [Nat.add_comm 1 n] at this
    rw [this, Lib.repeatL_one, rep_zero n]
    rfl
theorem take_eq (s : RS) (n : Nat) (hn : n ≤ 100000) (hl : s.l.length ≤ 1000000) : MSd.slot_rest_take.f (ofL s.l) s.b (n : Int) = some (ofL (rTake n s).1, ofL (rTake n s).2.l, (rTake n s).2.b) := by
  unfold MSd.slot_rest_take.f rTake
  rw [ofL_size]
  by_cases h : s.l.length < n
  · rw [if_pos (by omega), if_pos h]
    unfold MSd.strings_Repeat.f Ext.strings_Repeat.f
    rw [if_pos ⟨by omega, by omega, by decide⟩]
    simp only [Option.bind_some, Int.toNat_natCast]
    rw [show Lib.repeatL [0] n = List.replicate n 0 from rep_zero n]
    rfl
  · rw [if_neg (by omega), if_neg h, if_pos (by omega), if_pos (by omega), Int.toNat_natCast, ofL_take]
    have := ofL_drop s.l n
    rw [ofL_size] at this
    rw [this]
def rByte (s : RS) : Nat × RS := (((rTake 1 s).1.headD 0).toNat, (rTake 1 s).2)
theorem rByte_le (s : RS) : (rByte s).1 ≤ 255 := by
  unfold rByte
  have := UInt8.toNat_lt ((rTake 1 s).1.headD 0)
  simp only
  omega
theorem getD_head {l : List UInt8} (h : 0 < l.length) : l[0] = l.headD 0 := by cases l with | nil => simp at h | cons a r => rfl
theorem byte_eq (s : RS) (hl : s.l.length ≤ 1000000) : MSd.slot_rest_byte.f (ofL s.l) s.b = some (((rByte s).1 : Int), ofL (rByte s).2.l, (rByte s).2.b) := by
  unfold MSd.slot_rest_byte.f
  have h := take_eq s 1 (by omega) hl
  rw [show (1 : Int) = ((1 : Nat) : Int) from rfl, h]
  simp only [Option.bind_some]
  have hlen := rTake_len 1 s
  rw [ofL_size, hlen, if_pos (by decide)]
  have hb := ofL_bt (rTake 1 s).1 0 (by rw [hlen]; decide)
  rw [show ((0 : Nat) : Int) = 0 from rfl] at hb
  rw [hb, getD_head (by omega)]
  have := rByte_le s
  unfold rByte at this ⊢
  simp only at this ⊢
  rw [show wrap64 ((((rTake 1 s).1.headD 0).toNat : Nat) : Int) = ((((rTake 1 s).1.headD 0).toNat : Nat) : Int) from by unfold wrap64; omega]
def four4 : List UInt8 → Nat
  | [a, b, c, d] => a.toNat + 256 * b.toNat + 65536 * c.toNat + 16777216 * d.toNat
  | _ => 0
def rFour (s : RS) : Nat × RS := (four4 (rTake 4 s).1, (rTake 4 s).2)
theorem four4_lt (l : List UInt8) : four4 l < 4294967296 := by
  unfold four4
  split
  · rename_i a b c d
    have := UInt8.toNat_lt a
    have := UInt8.toNat_lt b
    have := UInt8.toNat_lt c
    have := UInt8.toNat_lt d
    omega
  · omega
theorem w64n (n : Nat) (h : n < 9223372036854775808) : wrap64 (n : Int) = (n : Int) := by unfold wrap64; omega
theorem or_join (i : Nat) (hi : i ≤ 40) (x y : Nat) (hx : x < 2 ^ i) (hy : y < 256) : bits .or .i64 (x : Int) ((y * 2 ^ i : Nat) : Int) = ((x + y * 2 ^ i : Nat) : Int) := by
  have h63 : ∀ n : Int, 0 ≤ n → n < 2 ^ 63 → IntKind.i64.wrap n = n := by
    intro n h0 h1
    rw [IntKind.wrap_i64]
    omega
  have hp : (2 : Nat) ^ i ≤ 2 ^ 40 := Nat.pow_le_pow_right (by decide) hi
  have hm : y * 2 ^ i < 2 ^ 48 := Nat.lt_of_lt_of_le (Nat.mul_lt_mul_of_lt_of_le hy hp (by decide)) (by decide)
  rw [(bits_nat .i64 63 (by decide) h63 x (y * 2 ^ i) (by omega) (by omega)).2]
  rw [Nat.or_comm, Nat.mul_comm y, ← Nat.two_pow_add_eq_or_of_lt hx y, Nat.mul_comm]
  omega
theorem four_of (a b c d : Nat) (ha : a < 256) (hb : b < 256) (hc : c < 256) (hd : d < 256) :
    bits .or .i64 (bits .or .i64 (bits .or .i64 (wrap64 (a : Int)) (wrap64 ((wrap64 (b : Int)) * 256))) (wrap64 ((wrap64 (c : Int)) * 65536))) (wrap64 ((wrap64 (d : Int)) * 16777216)) = ((a + 256 * b + 65536 * c + 16777216 * d : Nat) : Int) := by
  rw [w64n a (by omega), w64n b (by omega), w64n c (by omega), w64n d (by omega)]
  rw [show ((b : Int) * 256) = ((b * 2 ^ 8 : Nat) : Int) by omega, show ((c : Int) * 65536) = ((c * 2 ^ 16 : Nat) : Int) by omega, show ((d : Int) * 16777216) = ((d * 2 ^ 24 : Nat) : Int) by omega]
  rw [w64n _ (by omega), w64n _ (by omega), w64n _ (by omega)]
  rw [or_join 8 (by decide) a b (by omega) hb, or_join 16 (by decide) _ c (by omega) hc, or_join 24 (by decide) _ d (by omega) hd]
  omega
theorem list4 {l : List UInt8} (h : l.length = 4) : ∃ a b c d, l = [a, b, c, d] := by
  match l, h with
  | [a, b, c, d], _ => exact ⟨a, b, c, d, rfl⟩
theorem fourR_eq (s : RS) (hl : s.l.length ≤ 1000000) : MSd.slot_rest_four.f (ofL s.l) s.b = some (((rFour s).1 : Int), ofL (rFour s).2.l, (rFour s).2.b) := by
  unfold MSd.slot_rest_four.f
  have h := take_eq s 4 (by omega) hl
  rw [show (4 : Int) = ((4 : Nat) : Int) from rfl, h]
  simp only [Option.bind_some]
  have hlen := rTake_len 4 s
  rw [ofL_size, hlen, if_pos (by decide), if_pos (by decide), if_pos (by decide), if_pos (by decide)]
  unfold rFour
  obtain ⟨a, b, c, d, e⟩ := list4 hlen
  rw [e]
  have b0 : bt (ofL [a, b, c, d]) 0 = (a.toNat : Int) := ofL_bt [a, b, c, d] 0 (by simp)
  have b1 : bt (ofL [a, b, c, d]) 1 = (b.toNat : Int) := ofL_bt [a, b, c, d] 1 (by simp)
  have b2 : bt (ofL [a, b, c, d]) 2 = (c.toNat : Int) := ofL_bt [a, b, c, d] 2 (by simp)
  have b3 : bt (ofL [a, b, c, d]) 3 = (d.toNat : Int) := ofL_bt [a, b, c, d] 3 (by simp)
  rw [b0, b1, b2, b3, four_of _ _ _ _ (UInt8.toNat_lt a) (UInt8.toNat_lt b) (UInt8.toNat_lt c) (UInt8.toNat_lt d)]
  rfl
def rText (s : RS) : List UInt8 × RS := rTake (rByte s).1 (rByte s).2
theorem rTake_l (n : Nat) (s : RS) : (rTake n s).2.l.length ≤ s.l.length := by
  unfold rTake
  split
  · simp
  · simp
theorem text_eqR (s : RS) (hl : s.l.length ≤ 1000000) : MSd.slot_rest_text.f (ofL s.l) s.b = some (ofL (rText s).1, ofL (rText s).2.l, (rText s).2.b) := by
  unfold MSd.slot_rest_text.f
  rw [byte_eq s hl]
  simp only [Option.bind_some]
  have h1 := rByte_le s
  have h2 : (rByte s).2.l.length ≤ s.l.length := rTake_l 1 s
  rw [take_eq (rByte s).2 (rByte s).1 (by omega) (by omega)]
  rfl
def rCell (s : RS) : S43 × RS :=
  let t := rText s
  let k := rByte t.2
  if k.1 = 0 then (⟨ofL t.1, ofL (rText k.2).1, 0, 0⟩, (rText k.2).2)
  else if k.1 = 1 then (⟨ofL t.1, ⟨#[]⟩, ((rFour (rFour k.2).2).1 : Nat), ((rFour k.2).1 : Nat)⟩, ⟨(rFour (rFour k.2).2).2.l, (rFour (rFour k.2).2).2.b || ((rFour (rFour k.2).2).1 == 0)⟩)
  else (⟨ofL t.1, ⟨#[]⟩, 0, 0⟩, ⟨k.2.l, true⟩)

def u8 (n : Int) : UInt8 := UInt8.ofNat n.toNat
theorem u8_nat {n : Int} (h0 : 0 ≤ n) (h1 : n < 256) : (((u8 n).toNat : Nat) : Int) = n := by
  unfold u8
  rw [UInt8.toNat_ofNat']
  omega
theorem u8_back (b : UInt8) : u8 (b.toNat : Int) = b := by
  unfold u8
  rw [Int.toNat_natCast, UInt8.ofNat_toNat]
def textU (s : ByteArray) : List UInt8 := u8 ((s.size : Int) % 256) :: s.data.toList
theorem textU_eq (s : ByteArray) : (textL s).map u8 = textU s := by
  unfold textL textU bytesOf
  rw [List.map_cons, List.map_map]
  congr 1
  conv => rhs; rw [← List.map_id s.data.toList]
  exact List.map_congr_left (fun b _ => u8_back b)
def fourU (n : Int) : List UInt8 := (fourL n).map u8
def encCU (c : S43) : List UInt8 := textU c.f0 ++ if 0 < c.f2 then 1 :: (fourU c.f3 ++ fourU c.f2) else 0 :: textU c.f1
theorem encCU_eq (c : S43) : (encC c).map u8 = encCU c := by
  unfold encC encCU
  rw [List.map_append, textU_eq]
  split
  · rw [List.map_cons, List.map_append]; rfl
  · rw [List.map_cons, textU_eq]; rfl
theorem rTake_app (n : Nat) (a r : List UInt8) (b : Bool) (h : a.length = n) : rTake n ⟨a ++ r, b⟩ = (a, ⟨r, b⟩) := by
  unfold rTake
  simp only [List.length_append]
  rw [if_neg (by omega), ← h, List.take_left, List.drop_left]
theorem rByte_cons (x : UInt8) (r : List UInt8) (b : Bool) : rByte ⟨x :: r, b⟩ = (x.toNat, ⟨r, b⟩) := by
  unfold rByte
  have := rTake_app 1 [x] r b rfl
  rw [List.singleton_append] at this
  rw [this]
  rfl
theorem rText_enc (s : ByteArray) (h : s.size ≤ 255) (r : List UInt8) (b : Bool) : rText ⟨textU s ++ r, b⟩ = (s.data.toList, ⟨r, b⟩) := by
  unfold rText textU
  rw [List.cons_append, rByte_cons]
  have e : (u8 ((s.size : Int) % 256)).toNat = s.size := by
    have := u8_nat (n := (s.size : Int) % 256) (by omega) (by omega)
    omega
  rw [e]
  exact rTake_app s.size s.data.toList r b (by rw [Array.length_toList]; rfl)
theorem rFour_enc (n : Int) (h0 : 0 ≤ n) (h1 : n < 4294967296) (r : List UInt8) (b : Bool) : (((rFour ⟨fourU n ++ r, b⟩).1 : Nat) : Int) = n ∧ (rFour ⟨fourU n ++ r, b⟩).2 = ⟨r, b⟩ := by
  unfold rFour
  rw [rTake_app 4 (fourU n) r b rfl]
  refine ⟨?_, rfl⟩
  unfold fourU fourL four4
  simp only [List.map_cons, List.map_nil]
  have e0 := u8_nat (n := n % 256) (by omega) (by omega)
  have e1 := u8_nat (n := (n / 256) % 256) (by omega) (by omega)
  have e2 := u8_nat (n := (n / 65536) % 256) (by omega) (by omega)
  have e3 := u8_nat (n := (n / 16777216) % 256) (by omega) (by omega)
  omega
theorem cell_enc (c : S43) (h : cellB c = true) (r : List UInt8) (b : Bool) : rCell ⟨encCU c ++ r, b⟩ = (c, ⟨r, b⟩) := by
  obtain ⟨z1, z2, z3, z4⟩ := cellB_size h
  have hd : ∀ s : ByteArray, ofL s.data.toList = s := ofL_data
  unfold rCell encCU
  simp only
  rw [List.append_assoc, rText_enc c.f0 (by omega)]
  simp only
  unfold cellB at h
  by_cases h2 : 0 < c.f2
  · rw [if_pos h2, List.cons_append, rByte_cons]
    simp only
    rw [if_neg (by decide), if_pos (by decide)]
    rw [if_neg (by omega)] at h
    simp only [Bool.and_eq_true, decide_eq_true_eq] at h
    obtain ⟨⟨⟨⟨_, hid⟩, h3a⟩, h3b⟩, h1⟩ := h
    unfold idB at hid
    simp only [Bool.and_eq_true, decide_eq_true_eq] at hid
    rw [List.append_assoc]
    obtain ⟨p1, p2⟩ := rFour_enc c.f3 h3a (by omega) (fourU c.f2 ++ r) b
    rw [p2]
    obtain ⟨q1, q2⟩ := rFour_enc c.f2 (by omega) (by omega) r b
    rw [q2, p1, q1, hd]
    have hne : ((rFour ⟨fourU c.f2 ++ r, b⟩).1 == 0) = false := beq_eq_false_iff_ne.2 (by omega)
    rw [hne, Bool.or_false]
    have hf1 : c.f1 = ⟨#[]⟩ := by
      have h1' : c.f1.toList = [] := by simpa using h1
      rw [ByteArray.toList_eq] at h1'
      rw [← hd c.f1, h1']
      rfl
    rw [← hf1]
  · rw [if_neg h2, List.cons_append, rByte_cons]
    simp only
    rw [if_pos (by decide), rText_enc c.f1 (by omega)]
    have h20 : c.f2 = 0 := by
      by_cases h0 : c.f2 = 0
      · exact h0
      · rw [if_neg h0] at h
        simp only [Bool.and_eq_true, decide_eq_true_eq] at h
        have hid := h.1.1.1.2
        unfold idB at hid
        simp only [Bool.and_eq_true, decide_eq_true_eq] at hid
        omega
    rw [if_pos h20] at h
    simp only [Bool.and_eq_true, decide_eq_true_eq, beq_iff_eq] at h
    have h30 := h.1.2
    simp only [hd]
    rw [← h20]
    conv => lhs; rw [show (⟨c.f0, c.f1, c.f2, c.f2⟩ : S43) = ⟨c.f0, c.f1, c.f2, c.f3⟩ by rw [h30, h20]]
end Go.Proofs.Ytbkcoddcgfclaaa.SP
