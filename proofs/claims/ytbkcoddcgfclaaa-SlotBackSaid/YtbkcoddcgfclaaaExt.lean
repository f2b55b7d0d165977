/- Contracts of functions of layer 11 and of Go's library that the printer does not print: Repeat, the search of a key. -/
import Derived.Test.YtbkcoddcgfclaaaShelf
import Derived.Test.YtbkcoddcgfclaaaSlices
import Derived.IntWalk
set_option linter.unusedSimpArgs false
set_option linter.unusedVariables false
namespace Go.Proofs.Ytbkcoddcgfclaaa.Ext
open Go.Proofs.Ytbkcoddcgfclaaa.MSlot Go.RowKit Go.Proofs.YtbkcoddcgfclaaaW.PrintWords Go.Proofs.YtbkcoddcgfclaaaW.PrintLast Go.Proofs.YtbkcoddcgfclaaaW.PrintMore

def strings_Repeat.f (a0 : ByteArray) (a1 : Int) : Option (ByteArray) := if 0 ≤ a1 ∧ a1 ≤ 100000 ∧ a0.size ≤ 1000 then some ⟨(Lib.repeatL a0.data.toList a1.toNat).toArray⟩ else none
theorem strings_Repeat.calls (a0 : ByteArray) (a1 : Int) (r : ByteArray) (w : World) (h : strings_Repeat.f a0 a1 = some r) :
    Calls Try.prog 62 #[.string a0, .int .i64 a1] w fun e w' => e = .returned (.string r) ∧ Below w.heap.size w w' := by
  unfold strings_Repeat.f at h
  by_cases hc : 0 ≤ a1 ∧ a1 ≤ 100000 ∧ a0.size ≤ 1000
  · rw [if_pos hc] at h
    obtain rfl := Option.some.inj h
    obtain ⟨h0, h1, h2⟩ := hc
    obtain ⟨c, rfl⟩ := Int.eq_ofNat_of_zero_le h0
    have hm : a0.size * c ≤ 1000 * 100000 := Nat.mul_le_mul h2 (by omega)
    exact Try.strings_Repeat a0 c w (by omega) (by omega)
  · rw [if_neg hc] at h
    cases h

def cmpB (a b : ByteArray) : Int := Lib.compareBytes a.data.toList b.data.toList
set_option maxHeartbeats 1000000 in
theorem cmp37 (a b : ByteArray) (c d : Int) (k : ByteArray) (w : World) :
    Calls Try.prog 37 #[.agg #[.string a, .string b, .int .i64 c, .int .i64 d], .string k] w fun e w' => e = .returned (.int .i64 (cmpB a k)) ∧ Below w.heap.size w w' := by
  go_enter Try.func37, Try.ntmps37
  go_wp2_with (go_at_call 38; refine (Try.strings_Compare a k _).mono ?_; rintro e w' ⟨rfl, rfl⟩)
  go_ret
  exact ⟨rfl, (Below.refl _ _).alloc (Nat.le_refl _) _⟩
def Low (l : List S43) (k : ByteArray) (i : Nat) : Prop := ∀ x, x < i → cmpB (rd_T43 l (x : Int)).f0 k < 0
def High (l : List S43) (k : ByteArray) (i : Nat) : Prop := ∀ x, i ≤ x → x < l.length → ¬ cmpB (rd_T43 l (x : Int)).f0 k < 0
def Found (l : List S43) (k : ByteArray) (B : Nat) (w : World) (e : Ending) (w' : World) : Prop := ∃ i : Nat, i ≤ l.length ∧ Low l k i ∧ High l k i ∧ e = .returned (.tuple #[.int .i64 i, .bool (decide (i < l.length) && decide (cmpB (rd_T43 l (i : Int)).f0 k = 0))]) ∧ Below B w w'
set_option maxHeartbeats 4000000 in
set_option maxRecDepth 100000 in
theorem bsf (A0 : Option Addr) (c0 : Nat) (l0 : List S43) (key : ByteArray) (w : World) (hr0 : Kd.C k43 w A0 l0.length l0) (hc0 : l0.length ≤ c0) (hl : l0.length ≤ 1000000)
    (hm : ∀ x y : Nat, x ≤ y → y < l0.length → cmpB (rd_T43 l0 (y : Int)).f0 key < 0 → cmpB (rd_T43 l0 (x : Int)).f0 key < 0) :
    Calls Try.prog 36 #[.slice A0 l0.length c0, .string key, .func (.func 37) #[] #[]] w (Found l0 key w.heap.size w) := by
  have HR := Lib.hid hr0
  have HM := Lib.hid hm
  have HB0 := Lib.hid (Below.refl w.heap.size w)
  clear hr0 hm
  go_enter Try.func36, Try.ntmps36
  go_wp2
  go_loopw [9, 10] (fun i j wr => ∃ a b : Nat, a ≤ b ∧ b ≤ l0.length ∧ i = .int .i64 a ∧ j = .int .i64 b ∧ Hid (Low l0 key a) ∧ Hid (High l0 key b) ∧ Hid (Below w.heap.size w wr))
    (fun i j _ => (intOf j - intOf i).toNat)
  case atStart => exact ⟨0, l0.length, Nat.zero_le _, Nat.le_refl _, rfl, rfl, Lib.hid (fun x hx => absurd hx (Nat.not_lt_zero _)), Lib.hid (fun x h1 h2 => absurd h2 (by omega)), HB0⟩
  case round =>
    obtain ⟨a, b, hab, hb, rfl, rfl, HLo, HHi, HB⟩ := hrel
    have hC := Kd.C_below HR.out HB.out
    by_cases hlt : a < b
    · obtain ⟨m, hmq⟩ : ∃ m : Nat, ((a : Int) + (b : Int)) / 2 = (m : Int) := ⟨((a + b) / 2 : Nat), by omega⟩
      have hma : a ≤ m := by omega
      have hmb : m < b := by omega
      obtain ⟨ad, rfl, hk0, hk1, hk2, hk3⟩ := at_T43 hC (((a : Int) + (b : Int)) / 2) (by omega) (by omega)
      rw [show (((a : Int) + (b : Int)) / 2).toNat = (a + b) / 2 by omega] at hk0 hk1 hk2 hk3
      clear hC
      have h0 : (0 : Int) ≤ ((a : Int) + (b : Int)) / 2 := by omega
      have h1 : ((a : Int) + (b : Int)) / 2 < (l0.length : Int) := by omega
      have HE := Lib.hid hmq
      have hw : IntKind.i64.wrap (((a : Int) + (b : Int)) / 2 + 1) = ((a : Int) + (b : Int)) / 2 + 1 := IntWalk.i64_in _ (by omega)
      clear hmq
      by_cases hlow : cmpB (rd_T43 l0 (((a : Int) + (b : Int)) / 2)).f0 key < 0
      · go_wp2_with (go_at_call 37; refine (cmp37 _ _ _ _ _ _).mono ?_; rintro e w1 ⟨rfl, hb1⟩; have HB1 := Lib.hid (below_then HB.out HB.out.size hb1); clear hb1)
        go_roundw
        case rel =>
          refine ⟨m + 1, b, by omega, hb, by rw [HE.out]; go_num, rfl, Lib.hid (fun x hx => ?_), HHi, HB1⟩
          exact HM.out x m (by omega) (by omega) (by rw [← HE.out]; exact hlow)
        case measure => simp [intOf]; omega
      · go_wp2_with (go_at_call 37; refine (cmp37 _ _ _ _ _ _).mono ?_; rintro e w1 ⟨rfl, hb1⟩; have HB1 := Lib.hid (below_then HB.out HB.out.size hb1); clear hb1)
        go_roundw
        case rel =>
          refine ⟨a, m, hma, by omega, rfl, by rw [HE.out], HLo, Lib.hid (fun x h1 h2 h3 => ?_), HB1⟩
          have h4 := HM.out m x h1 h2 h3
          rw [HE.out] at hlow
          omega
        case measure => simp [intOf]; omega
    · obtain rfl : a = b := by omega
      by_cases hal : a < l0.length
      · obtain ⟨ad, rfl, hk0, hk1, hk2, hk3⟩ := at_T43 hC (a : Int) (by omega) (by omega)
        rw [Int.toNat_natCast] at hk0 hk1 hk2 hk3
        clear hC
        go_wp2_with (go_at_call 37; refine (cmp37 _ _ _ _ _ _).mono ?_; rintro e w1 ⟨rfl, hb1⟩; have HB1 := Lib.hid (below_then HB.out HB.out.size hb1); clear hb1)
        go_ret2
        exact ⟨a, by omega, HLo.out, HHi.out, by simp [hal]; rfl, HB1.out⟩
      · clear hC
        go_wp2
        go_ret2
        exact ⟨a, by omega, HLo.out, HHi.out, by simp [hal], HB.out⟩
theorem compareBytes_trans : ∀ a b c : List UInt8, Lib.compareBytes a b = -1 → Lib.compareBytes b c ≤ 0 → Lib.compareBytes a c = -1
  | [], [], _, h, _ => by simp [Lib.compareBytes] at h
  | [], _ :: _, [], _, h => by simp [Lib.compareBytes] at h
  | [], _ :: _, _ :: _, _, _ => rfl
  | _ :: _, [], _, h, _ => by simp [Lib.compareBytes] at h
  | x :: a, y :: b, [], _, h => by simp [Lib.compareBytes] at h
  | x :: a, y :: b, z :: c, h1, h2 => by
    have ih := compareBytes_trans a b c
    unfold Lib.compareBytes at h1 h2 ⊢
    by_cases hxy : x < y
    · rw [if_pos hxy] at h1
      by_cases hyz : y < z
      · rw [if_pos (UInt8.lt_trans hxy hyz)]
      · rw [if_neg hyz] at h2
        by_cases hzy : z < y
        · rw [if_pos hzy] at h2; omega
        · have : y = z := UInt8.le_antisymm (UInt8.not_lt.1 hzy) (UInt8.not_lt.1 hyz)
          subst this
          rw [if_pos hxy]
    · rw [if_neg hxy] at h1
      by_cases hyx : y < x
      · rw [if_pos hyx] at h1; omega
      · have : x = y := UInt8.le_antisymm (UInt8.not_lt.1 hyx) (UInt8.not_lt.1 hxy)
        subst this
        rw [if_neg hyx] at h1
        by_cases hyz : x < z
        · rw [if_pos hyz]
        · rw [if_neg hyz] at h2 ⊢
          by_cases hzy : z < x
          · rw [if_pos hzy] at h2; omega
          · rw [if_neg hzy] at h2 ⊢
            exact ih h1 h2
def Rise (l : List S43) : Prop := l.Pairwise (fun a b => cmpB a.f0 b.f0 = -1)
instance (l : List S43) : Decidable (Rise l) := by unfold Rise; infer_instance
theorem rd_at (l : List S43) (x : Nat) (h : x < l.length) : rd_T43 l (x : Int) = l[x] := by
  unfold rd_T43
  rw [Int.toNat_natCast, List.getD_eq_getElem?_getD, List.getElem?_eq_getElem h]
  rfl
theorem rise_mono {l : List S43} (h : Rise l) (k : ByteArray) (x y : Nat) (hxy : x ≤ y) (hy : y < l.length) (hc : cmpB (rd_T43 l (y : Int)).f0 k < 0) : cmpB (rd_T43 l (x : Int)).f0 k < 0 := by
  by_cases he : x = y
  · rw [he]; exact hc
  · rw [rd_at l y hy] at hc
    rw [rd_at l x (by omega)]
    have h1 := List.pairwise_iff_getElem.1 h x y (by omega) hy (by omega)
    have h2 := compareBytes_trans _ _ k.data.toList h1 (by unfold cmpB at hc; omega)
    unfold cmpB
    omega
/-- How many keys are less. -/
def posK (l : List S43) (k : ByteArray) : Nat := (l.takeWhile (fun c => decide (cmpB c.f0 k < 0))).length
theorem posK_eq (k : ByteArray) : ∀ (l : List S43) (i : Nat), i ≤ l.length → Low l k i → High l k i → posK l k = i
  | [], i, hi, _, _ => by simp [posK] at hi ⊢; omega
  | c :: l, 0, _, _, hH => by
    have := hH 0 (Nat.le_refl _) (by simp)
    rw [rd_at _ 0 (by simp)] at this
    have e : decide (cmpB c.f0 k < 0) = false := decide_eq_false this
    simp [posK, List.takeWhile_cons, e]
  | c :: l, i + 1, hi, hL, hH => by
    have h0 := hL 0 (by omega)
    rw [rd_at _ 0 (by simp)] at h0
    have e : decide (cmpB c.f0 k < 0) = true := decide_eq_true h0
    have ih := posK_eq k l i (by simpa using hi) (fun x hx => by
      have := hL (x + 1) (by omega)
      rwa [rd_at _ (x + 1) (by simp at hi ⊢; omega), List.getElem_cons_succ, ← rd_at l x (by simp at hi; omega)] at this) (fun x h1 h2 => by
      have := hH (x + 1) (by omega) (by simp; omega)
      rwa [rd_at _ (x + 1) (by simp; omega), List.getElem_cons_succ, ← rd_at l x h2] at this)
    simp only [posK, List.takeWhile_cons, e, if_true, List.length_cons]
    unfold posK at ih
    omega
def hasK (l : List S43) (k : ByteArray) : Bool := decide (posK l k < l.length) && decide (cmpB (rd_T43 l (posK l k : Int)).f0 k = 0)
def slot_Find.f (a0_0 : Bool) (l0_1 : List S43) (l0_2 : List ByteArray) (l0_3 : List Int) (a1 : ByteArray) : Option (Int × Bool) := if a0_0 = true ∧ l0_1.length ≤ 1000000 ∧ Rise l0_1 then some (posK l0_1 a1, hasK l0_1 a1) else none
set_option maxHeartbeats 4000000 in
set_option maxRecDepth 100000 in
theorem slot_Find.calls (a0_0 : Bool) (A0_1 : Option Addr) (c0_1 : Nat) (l0_1 : List S43) (A0_2 : Option Addr) (c0_2 : Nat) (l0_2 : List ByteArray) (A0_3 : Option Addr) (c0_3 : Nat) (l0_3 : List Int) (a1 : ByteArray) (r1 : Int) (r2 : Bool) (w : World) (hr0_1 : Kd.C k43 w A0_1 l0_1.length l0_1) (hc0_1 : l0_1.length ≤ c0_1) (hr0_2 : Kd.C Kd.string w A0_2 l0_2.length l0_2) (hc0_2 : l0_2.length ≤ c0_2) (hr0_3 : Kd.C (Kd.int .i64) w A0_3 l0_3.length l0_3) (hc0_3 : l0_3.length ≤ c0_3) (h : slot_Find.f a0_0 l0_1 l0_2 l0_3 a1 = some (r1, r2)) :
    Calls Try.prog 19 #[.agg #[.bool a0_0, .slice A0_1 l0_1.length c0_1, .slice A0_2 l0_2.length c0_2, .slice A0_3 l0_3.length c0_3], .string a1] w fun e w' => e = .returned (.tuple #[.int .i64 r1, .bool r2]) ∧ Below w.heap.size w w' := by
  unfold slot_Find.f at h
  by_cases hc : a0_0 = true ∧ l0_1.length ≤ 1000000 ∧ Rise l0_1
  · rw [if_pos hc] at h
    injection h with h
    injection h with h1 h2
    subst h1 h2
    obtain ⟨rfl, hl, hR⟩ := hc
    have HR := Lib.hid hr0_1
    have HI := Lib.hid hR
    clear hr0_1 hr0_2 hr0_3 hR
    go_enter Try.func19, Try.ntmps19
    go_wp2_with (go_at_call 36; refine (bsf A0_1 c0_1 l0_1 a1 _ (Kd.C_alloc HR.out _) hc0_1 hl (rise_mono HI.out a1)).mono ?_; rintro e w1 ⟨i, hi, hLo, hHi, rfl, hb⟩; obtain rfl := posK_eq a1 l0_1 i hi hLo hHi; have HB := Lib.hid hb; clear hLo hHi hb)
    go_ret2
    exact ⟨rfl, below_then ((Below.refl _ w).alloc (Nat.le_refl _) _) (by simp) HB.out⟩
  · rw [if_neg hc] at h
    cases h
end Go.Proofs.Ytbkcoddcgfclaaa.Ext
