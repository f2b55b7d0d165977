/- Contracts of functions of Go's library, in the form that the printed functions take. Where an answer is 'none' nothing is said. -/
import Derived.Test.YtbhioghpgedkeaaDoorShelf
import Derived.Test.YtbhioghpgedkeaaDoorWMore
import Derived.WalkKit
import Derived.BigCall
import Derived.Lib.Hide
import Derived.Laws.Slices
import Derived.Lib.ConvBytes
import Derived.Deep.LoopGhost
set_option linter.unusedSimpArgs false
set_option linter.unusedVariables false
namespace Go.Proofs.YtbhioghpgedkeaaDoor.Ext
open Go.RowKit Go.Proofs.YtbhioghpgedkeaaDoorW.PrintWords

def strings_Compare.f (a0 : ByteArray) (a1 : ByteArray) : Option (Int) := some (Lib.compareBytes a0.data.toList a1.data.toList)
theorem strings_Compare.calls (a0 : ByteArray) (a1 : ByteArray) (r : Int) (w : World) (h : strings_Compare.f a0 a1 = some r) :
    Calls Tryd.prog 37 #[.string a0, .string a1] w fun e w' => e = .returned (.int .i64 r) ∧ Drawn0 w w' := by
  obtain rfl := Option.some.inj h
  refine (Tryd.strings_Compare a0 a1 w).mono ?_
  rintro e w' ⟨rfl, rfl⟩
  exact ⟨rfl, ⟨0, rfl⟩⟩
/-- The one byte of a text of one byte. -/
def byteOf (s : ByteArray) : Option UInt8 := match s.data.toList with
  | [c] => some c
  | _ => none
theorem byteOf_some {s : ByteArray} {c : UInt8} (h : byteOf s = some c) : s = ⟨#[c]⟩ := by
  obtain ⟨⟨l⟩⟩ := s
  unfold byteOf at h
  match l, h with
  | [d], h => simp at h; rw [h]
def stringslite_Index.f (a0 : ByteArray) (a1 : ByteArray) : Option (Int) := (byteOf a1).bind fun c => some (Lib.indexByte a0.data.toList c)
theorem stringslite_Index.calls (a0 : ByteArray) (a1 : ByteArray) (r : Int) (w : World) (h : stringslite_Index.f a0 a1 = some r) :
    Calls Tryd.prog 110 #[.string a0, .string a1] w fun e w' => e = .returned (.int .i64 r) ∧ Drawn0 w w' := by
  obtain ⟨c, hc, h⟩ := Option.bind_eq_some_iff.mp h
  obtain rfl := byteOf_some hc
  obtain rfl := Option.some.inj h
  refine (Tryd.stringslite_Index_one a0 c w).mono ?_
  rintro e w' ⟨rfl, rfl⟩
  exact ⟨rfl, ⟨0, rfl⟩⟩
def strings_Count.f (a0 : ByteArray) (a1 : ByteArray) : Option (Int) := (byteOf a1).bind fun c => some (Lib.countByte a0.data.toList c : Int)
theorem strings_Count.calls (a0 : ByteArray) (a1 : ByteArray) (r : Int) (w : World) (h : strings_Count.f a0 a1 = some r) :
    Calls Tryd.prog 99 #[.string a0, .string a1] w fun e w' => e = .returned (.int .i64 r) ∧ Drawn0 w w' := by
  obtain ⟨c, hc, h⟩ := Option.bind_eq_some_iff.mp h
  obtain rfl := byteOf_some hc
  obtain rfl := Option.some.inj h
  refine (Tryd.strings_Count_one a0 c w).mono ?_
  rintro e w' ⟨rfl, rfl⟩
  exact ⟨rfl, ⟨0, rfl⟩⟩
def strings_explode.f (_a0 : ByteArray) (_a1 : Int) : Option (List ByteArray) := none
theorem strings_explode.calls (a0 : ByteArray) (a1 : Int) (r : List ByteArray) (w : World) (h : strings_explode.f a0 a1 = some r) :
    Calls Tryd.prog 98 #[.string a0, .int .i64 a1] w fun e w' => ∃ v0_ : Value, e = .returned (v0_) ∧ Kd.R Kd.string 9 w' w.heap.size (fun _ => True) v0_ r ∧ Below w.heap.size w w' := by cases h
def strings_IndexByte.f (a0 : ByteArray) (a1 : Int) : Option (Int) := some (Lib.indexByte a0.data.toList a1.toNat.toUInt8)
theorem strings_IndexByte.calls (a0 : ByteArray) (a1 : Int) (r : Int) (w : World) (h : strings_IndexByte.f a0 a1 = some r) :
    Calls Tryd.prog 103 #[.string a0, .int .u8 a1] w fun e w' => e = .returned (.int .i64 r) ∧ Drawn0 w w' := by
  obtain rfl := Option.some.inj h
  refine (Tryd.strings_IndexByte a0 a1 w).mono ?_
  rintro e w' ⟨rfl, rfl⟩
  exact ⟨rfl, ⟨0, rfl⟩⟩
def joinB (l : List ByteArray) (s : ByteArray) : List UInt8 := Lib.join (l.map (·.data.toList)) s.data.toList
def strings_Join.f (l0 : List ByteArray) (a1 : ByteArray) : Option (ByteArray) := if (joinB l0 a1).length ≤ 140737488355328 then (if l0.length ≤ 140737488355328 then some ⟨(joinB l0 a1).toArray⟩ else none) else none
theorem strings_Join.calls (A0 : Option Addr) (c0 : Nat) (l0 : List ByteArray) (a1 : ByteArray) (r : ByteArray) (w : World) (hr0 : Kd.C Kd.string w A0 l0.length l0) (hc0 : l0.length ≤ c0) (h : strings_Join.f l0 a1 = some r) :
    Calls Tryd.prog 59 #[.slice A0 l0.length c0, .string a1] w fun e w' => e = .returned (.string r) ∧ Below w.heap.size w w' := by
  unfold strings_Join.f at h
  split at h
  · rename_i hs
    split at h
    · rename_i hl
      obtain rfl := Option.some.inj h
      match l0, hr0, hc0, hs, hl with
      | [], _, _, _, _ =>
        refine (Tryd.strings_Join_none A0 c0 a1 w).mono ?_
        rintro e w' ⟨rfl, rfl⟩
        exact ⟨rfl, Below.refl _ _⟩
      | x :: l, hr0, hc0, hs, hl =>
        obtain ⟨_, _, hh⟩ := hr0
        obtain ⟨ad, rfl, hc⟩ := hh (by simp)
        have cell : ∀ (j : Nat) y, (x :: l)[j]? = some y → w.cell? (ad.add j) = some (.string y) := fun j y hj => by
          obtain ⟨c, _, hk, hu⟩ := hc j y hj
          have hk' : c = [.string y] := hk
          have hk2 := hu 0 (.string y) (by rw [hk']; rfl)
          have h1 : Kd.string.sz = 1 := rfl
          rw [h1, Nat.mul_one, Nat.add_zero] at hk2
          exact hk2
        have h0 := cell 0 x rfl
        obtain ⟨b, o, sp⟩ := ad
        cases sp with
        | some q =>
          exfalso
          simp [World.cell?, Addr.add] at h0
          split at h0 <;> simp at h0
        | none =>
          refine (Tryd.strings_Join b o c0 (x :: l) a1 w (fun j y hj => by
            have h3 := cell j y hj
            have h4 : (⟨b, o, none⟩ : Addr).add j = ⟨b, o + j, none⟩ := by
              simp only [Addr.add]
              split
              · rename_i hj0
                rw [hj0]; rfl
              · rfl
            rw [h4] at h3
            exact h3) (World.block_lt_of_cell? w _ h0) hl hc0 hs).mono ?_
          rintro e w' ⟨rfl, hb⟩
          exact ⟨rfl, hb⟩
    · cases h
  · cases h
end Go.Proofs.YtbhioghpgedkeaaDoor.Ext
