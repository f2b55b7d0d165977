/- Contracts of functions of Go's library, in the form that the printed functions take. Where an answer is 'none' nothing is said. -/
import Derived.Test.YtfnbadfehelleaaDoorShelf
import Derived.Test.YtfnbadfehelleaaDoorWMore
import Derived.WalkKit
import Derived.BigCall
import Derived.Lib.Hide
import Derived.Laws.Slices
import Derived.Lib.ConvBytes
import Derived.Deep.LoopGhost
set_option linter.unusedSimpArgs false
set_option linter.unusedVariables false
namespace Go.Proofs.YtfnbadfehelleaaDoor.Ext
open Go.RowKit Go.Proofs.YtfnbadfehelleaaDoorW.PrintWords

def strings_Compare.f (a0 : ByteArray) (a1 : ByteArray) : Option (Int) := some (Lib.compareBytes a0.data.toList a1.data.toList)
theorem strings_Compare.calls (a0 : ByteArray) (a1 : ByteArray) (r : Int) (w : World) (h : strings_Compare.f a0 a1 = some r) :
    Calls Tryd.prog 44 #[.string a0, .string a1] w fun e w' => e = .returned (.int .i64 r) ∧ Drawn0 w w' := by
  obtain rfl := Option.some.inj h
  refine (Tryd.strings_Compare a0 a1 w).mono ?_
  rintro e w' ⟨rfl, rfl⟩
  exact ⟨rfl, ⟨0, rfl⟩⟩
/-- The one byte of a text of one byte. -/
def byteOf (s : ByteArray) : Option UInt8 := match s.data.toList with
  | [c] => some c
  | _ => none
theorem byteOf_some {s : ByteArray} {c : UInt8} (h : byteOf s = some c) : s = ⟨#[c]⟩ := by
  obtain ⟨⟨l⟩⟩ := s
  unfold byteOf at h
  match l, h with
  | [d], h => simp at h; rw [h]
def stringslite_Index.f (a0 : ByteArray) (a1 : ByteArray) : Option (Int) := (byteOf a1).bind fun c => some (Lib.indexByte a0.data.toList c)
theorem stringslite_Index.calls (a0 : ByteArray) (a1 : ByteArray) (r : Int) (w : World) (h : stringslite_Index.f a0 a1 = some r) :
    Calls Tryd.prog 73 #[.string a0, .string a1] w fun e w' => e = .returned (.int .i64 r) ∧ Drawn0 w w' := by
  obtain ⟨c, hc, h⟩ := Option.bind_eq_some_iff.mp h
  obtain rfl := byteOf_some hc
  obtain rfl := Option.some.inj h
  refine (Tryd.stringslite_Index_one a0 c w).mono ?_
  rintro e w' ⟨rfl, rfl⟩
  exact ⟨rfl, ⟨0, rfl⟩⟩
def strings_Count.f (a0 : ByteArray) (a1 : ByteArray) : Option (Int) := (byteOf a1).bind fun c => some (Lib.countByte a0.data.toList c : Int)
theorem strings_Count.calls (a0 : ByteArray) (a1 : ByteArray) (r : Int) (w : World) (h : strings_Count.f a0 a1 = some r) :
    Calls Tryd.prog 57 #[.string a0, .string a1] w fun e w' => e = .returned (.int .i64 r) ∧ Drawn0 w w' := by
  obtain ⟨c, hc, h⟩ := Option.bind_eq_some_iff.mp h
  obtain rfl := byteOf_some hc
  obtain rfl := Option.some.inj h
  refine (Tryd.strings_Count_one a0 c w).mono ?_
  rintro e w' ⟨rfl, rfl⟩
  exact ⟨rfl, ⟨0, rfl⟩⟩
def strings_explode.f (_a0 : ByteArray) (_a1 : Int) : Option (List ByteArray) := none
theorem strings_explode.calls (a0 : ByteArray) (a1 : Int) (r : List ByteArray) (w : World) (h : strings_explode.f a0 a1 = some r) :
    Calls Tryd.prog 56 #[.string a0, .int .i64 a1] w fun e w' => ∃ v0_ : Value, e = .returned (v0_) ∧ Kd.R Kd.string 9 w' w.heap.size (fun _ => True) v0_ r ∧ Below w.heap.size w w' := by cases h
def strings_IndexByte.f (a0 : ByteArray) (a1 : Int) : Option (Int) := some (Lib.indexByte a0.data.toList a1.toNat.toUInt8)
theorem strings_IndexByte.calls (a0 : ByteArray) (a1 : Int) (r : Int) (w : World) (h : strings_IndexByte.f a0 a1 = some r) :
    Calls Tryd.prog 69 #[.string a0, .int .u8 a1] w fun e w' => e = .returned (.int .i64 r) ∧ Drawn0 w w' := by
  obtain rfl := Option.some.inj h
  refine (Tryd.strings_IndexByte a0 a1 w).mono ?_
  rintro e w' ⟨rfl, rfl⟩
  exact ⟨rfl, ⟨0, rfl⟩⟩
def strings_LastIndexByte.f (a0 : ByteArray) (a1 : Int) : Option (Int) := if a0.size < 4611686018427387904 then some (Lib.lastIndexByte a0 a1) else none
theorem strings_LastIndexByte.calls (a0 : ByteArray) (a1 : Int) (r : Int) (w : World) (h : strings_LastIndexByte.f a0 a1 = some r) :
    Calls Tryd.prog 42 #[.string a0, .int .u8 a1] w fun e w' => e = .returned (.int .i64 r) ∧ Drawn0 w w' := by
  unfold strings_LastIndexByte.f at h
  split at h
  · rename_i hs
    obtain rfl := Option.some.inj h
    refine (Tryd.strings_LastIndexByte a0 a1 hs w).mono ?_
    rintro e w' ⟨rfl, rfl⟩
    exact ⟨rfl, ⟨0, rfl⟩⟩
  · cases h
def joinB (l : List ByteArray) (s : ByteArray) : List UInt8 := Lib.join (l.map (·.data.toList)) s.data.toList
def strings_Join.f (l0 : List ByteArray) (a1 : ByteArray) : Option (ByteArray) := if (joinB l0 a1).length ≤ 140737488355328 then (if l0.length ≤ 140737488355328 then some ⟨(joinB l0 a1).toArray⟩ else none) else none
theorem strings_Join.calls (A0 : Option Addr) (c0 : Nat) (l0 : List ByteArray) (a1 : ByteArray) (r : ByteArray) (w : World) (hr0 : Kd.C Kd.string w A0 l0.length l0) (hc0 : l0.length ≤ c0) (h : strings_Join.f l0 a1 = some r) :
    Calls Tryd.prog 15 #[.slice A0 l0.length c0, .string a1] w fun e w' => e = .returned (.string r) ∧ Below w.heap.size w w' := by
  unfold strings_Join.f at h
  split at h
  · rename_i hs
    split at h
    · rename_i hl
      obtain rfl := Option.some.inj h
      match l0, hr0, hc0, hs, hl with
      | [], _, _, _, _ =>
        refine (Tryd.strings_Join_none A0 c0 a1 w).mono ?_
        rintro e w' ⟨rfl, rfl⟩
        exact ⟨rfl, Below.refl _ _⟩
      | x :: l, hr0, hc0, hs, hl =>
        obtain ⟨_, _, hh⟩ := hr0
        obtain ⟨ad, rfl, hc⟩ := hh (by simp)
        have cell : ∀ (j : Nat) y, (x :: l)[j]? = some y → w.cell? (ad.add j) = some (.string y) := fun j y hj => by
          obtain ⟨c, _, hk, hu⟩ := hc j y hj
          have hk' : c = [.string y] := hk
          have hk2 := hu 0 (.string y) (by rw [hk']; rfl)
          have h1 : Kd.string.sz = 1 := rfl
          rw [h1, Nat.mul_one, Nat.add_zero] at hk2
          exact hk2
        have h0 := cell 0 x rfl
        obtain ⟨b, o, sp⟩ := ad
        cases sp with
        | some q =>
          exfalso
          simp [World.cell?, Addr.add] at h0
          split at h0 <;> simp at h0
        | none =>
          refine (Tryd.strings_Join b o c0 (x :: l) a1 w (fun j y hj => by
            have h3 := cell j y hj
            have h4 : (⟨b, o, none⟩ : Addr).add j = ⟨b, o + j, none⟩ := by
              simp only [Addr.add]
              split
              · rename_i hj0
                rw [hj0]; rfl
              · rfl
            rw [h4] at h3
            exact h3) (World.block_lt_of_cell? w _ h0) hl hc0 hs).mono ?_
          rintro e w' ⟨rfl, hb⟩
          exact ⟨rfl, hb⟩
    · cases h
  · cases h
def fnz : List Int → Nat → Int
  | [], _ => -1
  | x :: r, k => if x = 48 then fnz r (k + 1) else (k : Int)
theorem fnz_step (xs : List Int) (k : Nat) (h : k < xs.length) : fnz (xs.drop k) k = if xs.getD k 0 = 48 then fnz (xs.drop (k + 1)) (k + 1) else (k : Int) := by
  rw [List.drop_eq_getElem_cons h, fnz, List.getD_eq_getElem?_getD, List.getElem?_eq_getElem h]
  rfl
theorem fnz_end (xs : List Int) (k : Nat) (h : ¬ k < xs.length) : fnz (xs.drop k) k = -1 := by
  rw [List.drop_eq_nil_of_le (by omega)]
  rfl
theorem ret_int {k : IntKind} {a b : Int} (h : a = b) : Ending.returned (.int k a) = .returned (.int k b) := by rw [h]
set_option maxHeartbeats 1000000 in
theorem idx_walk (b o c : Nat) (xs : List Int) (hc : xs.length ≤ c) (hl : xs.length ≤ 1000) (w : World) (hcell : ∀ i, i < xs.length → w.cell? ⟨b, o + i, none⟩ = some (.int .u8 (xs.getD i 0))) :
    Calls Tryd.prog 62 #[.slice (some ⟨b, o, none⟩) xs.length c, .func (.func 63) #[] #[]] w fun e w' => e = .returned (.int .i64 (fnz xs 0)) ∧ w' = w := by
  obtain ⟨R, hR⟩ : ∃ R, R = fnz xs 0 := ⟨_, rfl⟩
  rw [← hR]
  have HR := Lib.hid hR
  clear hR
  have HC := Lib.hid hcell
  clear hcell
  go_enter Tryd.func62, Tryd.ntmps62
  go_wp2
  go_loop [8] (fun i => ∃ k : Nat, k ≤ xs.length ∧ i = .int .i64 k ∧ Hid (fnz (xs.drop k) k = R)) (fun i => xs.length - (intOf i).toNat)
  case atStart => exact ⟨0, by omega, rfl, Lib.hid (by rw [HR.out]; rfl)⟩
  case round =>
    obtain ⟨k, hk, rfl, hx⟩ := hrel
    by_cases hlt : k < xs.length
    · have hcl := HC.out k hlt
      have HF := Lib.hid (fnz_step xs k hlt)
      by_cases h48 : ((xs.getD k 0) != 48) = true
      · generalize xs.getD k 0 = x at hcl HF h48
        go_wp2
        go_ret
        have hne : ¬ x = 48 := by simpa using h48
        have h1 := HF.out
        rw [if_neg hne, hx.out] at h1
        exact ⟨ret_int h1.symm, rfl⟩
      · have h48' : ((xs.getD k 0) != 48) = false := by simpa using h48
        generalize xs.getD k 0 = x at hcl HF h48'
        go_wp2
        go_round
        have he : x = 48 := by simpa using h48'
        case rel => exact ⟨k + 1, by omega, by go_num, Lib.hid (by have h1 := HF.out; rw [if_pos he, hx.out] at h1; exact h1.symm)⟩
        case measure => simp [intOf]; omega
    · have h1 := fnz_end xs k hlt
      have H1 := Lib.hid h1
      clear h1
      go_wp2
      go_ret
      exact ⟨ret_int (by rw [← hx.out, H1.out]), rfl⟩
theorem idx_walk' (b o c len : Nat) (xs : List Int) (hlen : xs.length = len) (hc : len ≤ c) (hl : len ≤ 1000) (w : World) (hcell : ∀ i, i < len → w.cell? ⟨b, o + i, none⟩ = some (.int .u8 (xs.getD i 0))) :
    Calls Tryd.prog 62 #[.slice (some ⟨b, o, none⟩) len c, .func (.func 63) #[] #[]] w fun e w' => e = .returned (.int .i64 (fnz xs 0)) ∧ w' = w := by
  subst hlen
  exact idx_walk b o c xs hc hl w hcell
/-- The digits of a number from 1 to 999. -/
def dig3 (n : Int) : List Int := [48 + n / 100, 48 + n / 10 % 10, 48 + n % 10]
def decB (n : Int) : List Int := (dig3 n).drop (fnz (dig3 n) 0).toNat
theorem dig3_idx (n : Int) (h0 : 1 ≤ n) (h1 : n ≤ 999) : 0 ≤ fnz (dig3 n) 0 ∧ fnz (dig3 n) 0 ≤ 2 := by
  unfold dig3
  simp only [fnz]
  split
  · split
    · split
      · omega
      · omega
    · omega
  · omega
set_option maxHeartbeats 1000000 in
theorem decimal_walk (n : Int) (h0 : 1 ≤ n) (h1 : n ≤ 999) (w : World) :
    Calls Tryd.prog 43 #[.int .i64 n] w fun e w' => e = .returned (.string (strOfNums (decB n))) ∧ Below w.heap.size w w' := by
  have hi := dig3_idx n h0 h1
  obtain ⟨k, hk⟩ : ∃ k : Nat, fnz (dig3 n) 0 = (k : Int) := ⟨(fnz (dig3 n) 0).toNat, by omega⟩
  have hdec : decB n = (dig3 n).drop k := by unfold decB; rw [hk]; rfl
  rw [hk] at hi
  rw [hdec]
  clear hdec
  have HK := Lib.hid hk
  clear hk
  have hk3 : k = 0 ∨ k = 1 ∨ k = 2 := by omega
  clear hi
  have hb : (w.alloc (.cells #[Value.int IntKind.u8 (48 + n / 100), Value.int IntKind.u8 (48 + n / 10 % 10), Value.int IntKind.u8 (48 + n % 10)] 5)).heap[w.heap.size]? = some (.cells #[Value.int IntKind.u8 (48 + n / 100), Value.int IntKind.u8 (48 + n / 10 % 10), Value.int IntKind.u8 (48 + n % 10)] 5) := heap_alloc_new _ _
  have hcl : ∀ i, i < 3 → (w.alloc (.cells #[Value.int IntKind.u8 (48 + n / 100), Value.int IntKind.u8 (48 + n / 10 % 10), Value.int IntKind.u8 (48 + n % 10)] 5)).cell? ⟨w.heap.size, 0 + i, none⟩ = some (.int .u8 ((dig3 n).getD i 0)) := by
    intro i hi
    unfold World.cell?
    rw [hb]
    match i, hi with
    | 0, _ => rfl
    | 1, _ => rfl
    | 2, _ => rfl
  have HCL := Lib.hid hcl
  clear hcl hb
  have conv : ∀ j, j ≤ 2 → (convert 55 9 (.slice (some ⟨w.heap.size, j, none⟩) (3 - j) (3 - j))).run Tryd.prog (w.alloc (.cells #[Value.int IntKind.u8 (48 + n / 100), Value.int IntKind.u8 (48 + n / 10 % 10), Value.int IntKind.u8 (48 + n % 10)] 5)) = .ok (.string (strOfNums ((dig3 n).drop j))) (w.alloc (.cells #[Value.int IntKind.u8 (48 + n / 100), Value.int IntKind.u8 (48 + n / 10 % 10), Value.int IntKind.u8 (48 + n % 10)] 5)) := by
    intro j hj
    have hlen : ((dig3 n).drop j).length = 3 - j := by rw [List.length_drop]; rfl
    refine string_of_reads Tryd.underlying55 Tryd.underlying5 Tryd.underlying9 ⟨hlen, ?_, fun _ => ⟨_, rfl, fun i hi => ?_⟩⟩
    · omega
    · have ha : (⟨w.heap.size, j, none⟩ : Addr).add i = ⟨w.heap.size, 0 + (j + i), none⟩ := by
        rw [Nat.zero_add]
        simp only [Addr.add]
        split
        · rename_i h0
          rw [h0]; rfl
        · rfl
      rw [ha, HCL.out (j + i) (by omega)]
      simp only [List.getD_eq_getElem?_getD, List.getElem?_drop]
  have HV := Lib.hid conv
  clear conv
  rcases hk3 with rfl | rfl | rfl
  all_goals
    go_enter Tryd.func43, Tryd.ntmps43
    go_wp2_with (go_at_call 62; fail)
    refine (idx_walk' w.heap.size 0 3 3 (dig3 n) rfl (Nat.le_refl _) (by omega) _ HCL.out).mono ?_
    rintro e w1 ⟨rfl, rfl⟩
    rw [HK.out]
    have c0 := HV.out 0 (by omega)
    have c1 := HV.out 1 (by omega)
    have c2 := HV.out 2 (by omega)
    go_wp2
    go_ret
    exact ⟨rfl, (Below.refl _ _).alloc (Nat.le_refl _) _⟩
def path_decimal.f (a0 : Int) : Option (ByteArray) := if 1 ≤ a0 then (if a0 ≤ 999 then some (strOfNums (decB a0)) else none) else none
theorem path_decimal.calls (a0 : Int) (r : ByteArray) (w : World) (h : path_decimal.f a0 = some r) :
    Calls Tryd.prog 43 #[.int .i64 a0] w fun e w' => e = .returned (.string r) ∧ Below w.heap.size w w' := by
  unfold path_decimal.f at h
  split at h
  · rename_i h0
    split at h
    · rename_i h1
      obtain rfl := Option.some.inj h
      exact decimal_walk a0 h0 h1 w
    · cases h
  · cases h
end Go.Proofs.YtfnbadfehelleaaDoor.Ext
