/- Contracts of keycode.text (a Builder in a loop) and strings.Compare, in the form that the printed functions take. -/
import Derived.Test.YthpleebfhanahaaShelf
import Derived.Test.YthpleebfhanahaaWMore
import Derived.WalkKit
import Derived.BigCall
import Derived.Deep.LoopGhost
import Derived.Lib.Hide
namespace Go.Proofs.Ythpleebfhanahaa.Ext
open Go.RowKit Go.Proofs.YthpleebfhanahaaW.PrintWords

/-- What 'text' reads: the bytes that are left, what was read, how many bytes are behind. -/
def txt : List UInt8 → List UInt8 → Nat → ByteArray × Int × Bool
  | [], _, _ => (⟨#[]⟩, 0, false)
  | [_], _, _ => (⟨#[]⟩, 0, false)
  | c :: d :: r, acc, i =>
    if c = 0 then (if d = 1 then (⟨acc.toArray⟩, (i : Int) + 2, true) else if d = 255 then txt r (acc ++ [0]) (i + 2) else (⟨#[]⟩, 0, false))
    else txt (d :: r) (acc ++ [c]) (i + 1)

theorem drop_two (s : ByteArray) (k : Nat) (h : k + 1 < s.size) : s.data.toList.drop k = s[k] :: s[k + 1] :: s.data.toList.drop (k + 2) := by
  have h1 : k < s.data.toList.length := by simpa using Nat.lt_of_succ_lt h
  have h2 : k + 1 < s.data.toList.length := by simpa using h
  rw [List.drop_eq_getElem_cons h1, List.drop_eq_getElem_cons h2]
  rfl
theorem txt_end (s : ByteArray) (k : Nat) (acc : List UInt8) (h : ¬ k + 1 < s.size) : txt (s.data.toList.drop k) acc k = (⟨#[]⟩, 0, false) := by
  have : (s.data.toList.drop k).length ≤ 1 := by simp; omega
  match hd : s.data.toList.drop k, this with
  | [], _ => rfl
  | [_], _ => rfl
  | _ :: _ :: _, h => simp at h
theorem u8_ext (a b : UInt8) (h : (a.toNat : Int) = (b.toNat : Int)) : a = b := UInt8.toNat_inj.mp (by omega)
theorem txt_plain (s : ByteArray) (k : Nat) (acc : List UInt8) (h : k + 1 < s.size) (h0 : ((s[k].toNat : Int) != 0) = true) :
    txt (s.data.toList.drop k) acc k = txt (s.data.toList.drop (k + 1)) (acc ++ [s[k]]) (k + 1) := by
  have hne : s[k] ≠ 0 := by
    intro e; rw [e] at h0; simp at h0
  have h1 : k + 1 < s.data.toList.length := by simpa using h
  rw [drop_two s k h, txt, if_neg hne]
  rw [List.drop_eq_getElem_cons h1]
  rfl
theorem txt_ends (s : ByteArray) (k : Nat) (acc : List UInt8) (h : k + 1 < s.size) (h0 : ((s[k].toNat : Int) != 0) = false) (h1 : ((s[k + 1].toNat : Int) == 1) = true) :
    txt (s.data.toList.drop k) acc k = (⟨acc.toArray⟩, (k : Int) + 2, true) := by
  have e0 : s[k] = 0 := u8_ext _ _ (by simpa using h0)
  have e1 : s[k + 1] = 1 := u8_ext _ _ (by simpa using h1)
  rw [drop_two s k h, txt, if_pos e0, if_pos e1]
theorem txt_bad (s : ByteArray) (k : Nat) (acc : List UInt8) (h : k + 1 < s.size) (h0 : ((s[k].toNat : Int) != 0) = false) (h1 : ((s[k + 1].toNat : Int) == 1) = false) (h2 : ((s[k + 1].toNat : Int) != 255) = true) :
    txt (s.data.toList.drop k) acc k = (⟨#[]⟩, 0, false) := by
  have e0 : s[k] = 0 := u8_ext _ _ (by simpa using h0)
  have e1 : s[k + 1] ≠ 1 := by intro e; rw [e] at h1; simp at h1
  have e2 : s[k + 1] ≠ 255 := by intro e; rw [e] at h2; simp at h2
  rw [drop_two s k h, txt, if_pos e0, if_neg e1, if_neg e2]
theorem txt_more (s : ByteArray) (k : Nat) (acc : List UInt8) (h : k + 1 < s.size) (h0 : ((s[k].toNat : Int) != 0) = false) (h1 : ((s[k + 1].toNat : Int) == 1) = false) (h2 : ((s[k + 1].toNat : Int) != 255) = false) :
    txt (s.data.toList.drop k) acc k = txt (s.data.toList.drop (k + 2)) (acc ++ [0]) (k + 2) := by
  have e0 : s[k] = 0 := u8_ext _ _ (by simpa using h0)
  have e1 : s[k + 1] ≠ 1 := by intro e; rw [e] at h1; simp at h1
  have e2 : s[k + 1] = 255 := u8_ext _ _ (by simpa using h2)
  rw [drop_two s k h, txt, if_pos e0, if_neg e1, if_pos e2]

set_option maxHeartbeats 4000000 in
set_option maxRecDepth 1000000 in
theorem text_walk (s : ByteArray) (w : World) (hs : s.size ≤ 140737488351232) :
    Calls Try.prog 34 #[.string s] w fun e w' => e = .returned (.tuple #[.string (txt s.data.toList [] 0).1, .int .i64 (txt s.data.toList [] 0).2.1, .bool (txt s.data.toList [] 0).2.2]) ∧ Below w.heap.size w w' := by
  have HX : Hid (s.data.toList.drop 0 = s.data.toList) := Lib.hid rfl
  obtain ⟨R, hR⟩ : ∃ R, R = txt s.data.toList [] 0 := ⟨_, rfl⟩
  rw [← hR]
  have HR := Lib.hid hR
  clear hR
  go_enter Try.func34, Try.ntmps34
  go_wp2
  go_loopw [6] (fun i wr => ∃ (k : Nat) (acc : List UInt8), i = .int .i64 k ∧ Lib.IsBuilderF 62 5 w.heap.size w.heap.size (Lib.byteCells acc) wr ∧ Below w.heap.size w wr ∧ Hid (txt (s.data.toList.drop k) acc k = R) ∧ acc.length ≤ k ∧ k ≤ s.size) (fun i _ => s.size - (intOf i).toNat)
  case atStart =>
    exact ⟨0, [], rfl, Lib.IsBuilderF.of (Lib.fresh_isBuilder 62 5 w), (Below.refl _ w).alloc (Nat.le_refl _) _, Lib.hid (by rw [HX.out, HR.out]), by simp, by omega⟩
  case round =>
    obtain ⟨k, acc, rfl, hI, hbw, hx, hal, hks⟩ := hrel
    have hsz : w.heap.size ≤ wr.heap.size := hbw.size
    by_cases hlt : k + 1 < s.size
    · have hlt0 : k < s.size := by omega
      by_cases h0 : ((s[k].toNat : Int) != 0) = true
      · have HN := Lib.hid (txt_plain s k acc hlt h0)
        go_wp2_with (go_at_call 37; refine (Try.Builder_WriteByte_k w.heap.size w.heap.size _ _ _ hI (by rw [Lib.byteCells_length]; omega) hsz).mono ?_)
        rintro e W1 ⟨rfl, h1, b1, k1⟩
        go_wp2
        go_roundw
        case rel =>
          refine ⟨k + 1, acc ++ [s[k]], by go_num, ?_, hbw.trans b1, Lib.hid (HN.out.symm.trans hx.out), by simp; omega, by omega⟩
          rw [Lib.byteCells_append]; exact Or.inr h1
        case measure => simp [intOf]; omega
      · have h0' : ((s[k].toNat : Int) != 0) = false := by simpa using h0
        by_cases h1 : ((s[k + 1].toNat : Int) == 1) = true
        · have HN := Lib.hid (txt_ends s k acc hlt h0' h1)
          go_wp2_with (go_at_call 38; refine (Try.Builder_String_any_k w.heap.size w.heap.size acc _ hI (by omega)).mono ?_)
          rintro e W1 ⟨rfl, _, b1, _⟩
          go_wp2
          go_ret3
          rw [← hx.out, HN.out]
          exact ⟨rfl, hbw.trans b1⟩
        · have h1' : ((s[k + 1].toNat : Int) == 1) = false := by simpa using h1
          by_cases h2 : ((s[k + 1].toNat : Int) != 255) = true
          · have HN := Lib.hid (txt_bad s k acc hlt h0' h1' h2)
            go_wp2
            go_ret3
            rw [← hx.out, HN.out]
            exact ⟨rfl, hbw⟩
          · have h2' : ((s[k + 1].toNat : Int) != 255) = false := by simpa using h2
            have HN := Lib.hid (txt_more s k acc hlt h0' h1' h2')
            go_wp2_with (go_at_call 37; refine (Try.Builder_WriteByte_k w.heap.size w.heap.size _ _ _ hI (by rw [Lib.byteCells_length]; omega) hsz).mono ?_)
            rintro e W1 ⟨rfl, hh, b1, k1⟩
            go_wp2
            go_roundw
            case rel =>
              refine ⟨k + 2, acc ++ [0], by go_num, ?_, hbw.trans b1, Lib.hid (HN.out.symm.trans hx.out), by simp; omega, by omega⟩
              rw [Lib.byteCells_append]; exact Or.inr hh
            case measure => simp [intOf]; omega
    · have HN := Lib.hid (txt_end s k acc hlt)
      go_wp2
      go_ret3
      rw [← hx.out, HN.out]
      exact ⟨rfl, hbw⟩

def strings_Compare.f (a0 : ByteArray) (a1 : ByteArray) : Option (Int) := some (Lib.compareBytes a0.data.toList a1.data.toList)
theorem strings_Compare.calls (a0 : ByteArray) (a1 : ByteArray) (r : Int) (w : World) (h : strings_Compare.f a0 a1 = some r) :
    Calls Try.prog 17 #[.string a0, .string a1] w fun e w' => e = .returned (.int .i64 r) ∧ Drawn0 w w' := by
  obtain rfl := Option.some.inj h
  refine (Try.strings_Compare a0 a1 w).mono ?_
  rintro e w' ⟨rfl, rfl⟩
  exact ⟨rfl, ⟨0, rfl⟩⟩

def keycode_text.f (a0 : ByteArray) : Option (ByteArray × Int × Bool) := if a0.size ≤ 140737488351232 then some (txt a0.data.toList [] 0) else none
theorem keycode_text.calls (a0 : ByteArray) (r1 : ByteArray) (r2 : Int) (r3 : Bool) (w : World) (h : keycode_text.f a0 = some (r1, r2, r3)) :
    Calls Try.prog 34 #[.string a0] w fun e w' => e = .returned (.tuple #[.string r1, .int .i64 r2, .bool r3]) ∧ Below w.heap.size w w' := by
  unfold keycode_text.f at h
  by_cases hs : a0.size ≤ 140737488351232
  · rw [if_pos hs] at h
    refine (text_walk a0 w hs).mono ?_
    rintro e w' ⟨rfl, hb⟩
    rw [Option.some.inj h]
    exact ⟨rfl, hb⟩
  · rw [if_neg hs] at h
    exact absurd h (by simp)
end Go.Proofs.Ythpleebfhanahaa.Ext
