/- The program's functions of layer 5, as the plain words say them, for the laws behind. -/
import Derived.Test.YtfnbadfehelleaaDoorMPathx2
import Derived.Test.YtfnbadfehelleaaDoorMPathx3
import Derived.Test.YtfnbadfehelleaaDoorUps2
import Derived.Test.YtfnbadfehelleaaDoorPathRef3
set_option linter.unusedSimpArgs false
set_option linter.unusedVariables false
namespace Go.Proofs.YtfnbadfehelleaaDoor.Ext
open Go.RowKit Go.Proofs.YtfnbadfehelleaaDoorW.PrintWords Go.Proofs.YtfnbadfehelleaaDoorW.PrintLast Go.Proofs.YtfnbadfehelleaaDoorW.PrintMore Go.Proofs.YtfnbadfehelleaaDoor.PP

def aquiferlaw05_few.f (a0 : ByteArray) : Option (ByteArray) := MPath.aquiferlaw05_few.f a0
theorem aquiferlaw05_few.calls (a0 : ByteArray) (r : ByteArray) (w : World) (h : aquiferlaw05_few.f a0 = some r) :
    Calls Tryd.prog 10 #[.string a0] w fun e w' => e = .returned (.string r) ∧ Below w.heap.size w w' := by
  exact MPath.aquiferlaw05_few.calls a0 r w h
def path_Below.f (a0 : ByteArray) (a1 : ByteArray) : Option (Bool) := Ups.path_Below.f a0 a1
theorem path_Below.calls (a0 : ByteArray) (a1 : ByteArray) (r : Bool) (w : World) (h : path_Below.f a0 a1 = some r) :
    Calls Tryd.prog 19 #[.string a0, .string a1] w fun e w' => e = .returned (.bool r) ∧ Below w.heap.size w w' := by
  exact Ups.path_Below.calls a0 a1 r w h
def path_Kind.f (a0 : ByteArray) : Option (Int × Int) := some (kindP a0.data.toList)
theorem path_Kind.calls (a0 : ByteArray) (r1 : Int) (r2 : Int) (w : World) (h : path_Kind.f a0 = some (r1, r2)) :
    Calls Tryd.prog 13 #[.string a0] w fun e w' => e = .returned (.tuple #[.int .i64 r1, .int .i64 r2]) ∧ Below w.heap.size w w' := by
  exact MPath.path_Kind.calls 400 a0 r1 r2 w ((Kind_eq a0 400 (Nat.le_refl _)).trans h)
def path_Compare.f (a0 : ByteArray) (a1 : ByteArray) : Option (Int) := if a0.size ≤ 90000 ∧ a1.size ≤ 90000 then some (cmpN (splitL a0.data.toList) (splitL a1.data.toList)) else none
theorem path_Compare.calls (a0 : ByteArray) (a1 : ByteArray) (r : Int) (w : World) (h : path_Compare.f a0 a1 = some r) :
    Calls Tryd.prog 18 #[.string a0, .string a1] w fun e w' => e = .returned (.int .i64 r) ∧ Below w.heap.size w w' := by
  unfold path_Compare.f at h
  by_cases hs : a0.size ≤ 90000 ∧ a1.size ≤ 90000
  · rw [if_pos hs] at h
    exact MPath.path_Compare.calls 90005 a0 a1 r w ((Compare_eq a0 a1 90005 hs.1 hs.2 (by omega) (by omega)).trans h)
  · rw [if_neg hs] at h
    cases h
def aquiferlaw05_works.f  : Option (Bool) := some true
theorem aquiferlaw05_works.calls (r : Bool) (w : World) (h : aquiferlaw05_works.f = some r) :
    Calls Tryd.prog 12 #[] w fun e w' => e = .returned (.bool r) ∧ Below w.heap.size w w' := by
  exact MPath.aquiferlaw05_works.calls 20000 r w ((works_eq 20000 (Nat.le_refl _)).trans h)
def path_is.f (a0 : ByteArray) (a1 : Int) : Option (Bool) := some (isP a0.data.toList a1)
theorem path_is.calls (a0 : ByteArray) (a1 : Int) (r : Bool) (w : World) (h : path_is.f a0 a1 = some r) :
    Calls Tryd.prog 41 #[.string a0, .int .i64 a1] w fun e w' => e = .returned (.bool r) ∧ Below w.heap.size w w' := by
  exact MPath.path_is.calls 400 a0 a1 r w ((is_eq a0 a1 400 (Nat.le_refl _)).trans h)
def path_sure.f (a0 : ByteArray) : Option (ByteArray × Int) := some (two (sureP a0.data.toList))
theorem path_sure.calls (a0 : ByteArray) (r1 : ByteArray) (r2 : Int) (w : World) (h : path_sure.f a0 = some (r1, r2)) :
    Calls Tryd.prog 35 #[.string a0] w fun e w' => e = .returned (.tuple #[.string r1, .int .i64 r2]) ∧ Below w.heap.size w w' := by
  exact MPath.path_sure.calls 400 a0 r1 r2 w ((sure_eq a0 400 (Nat.le_refl _)).trans h)
def namesP (s : List UInt8) : List (List UInt8) := if s = [] then [] else if (kindP s).2 = 0 then splitL s else []
theorem Split_eq (s : ByteArray) (k : Nat) (hk : 400 ≤ k) : MPath.path_Split.f k s = some ((namesP s.data.toList).map bs) := by
  unfold MPath.path_Split.f namesP
  by_cases hn : s.data.toList = []
  · rw [if_pos ((toList_nil s).2 hn), if_pos hn]; rfl
  · rw [if_neg (fun h => hn ((toList_nil s).1 h)), if_neg hn, is_eq s 0 k hk, Option.bind_some, isP0]
    by_cases h : (kindP s.data.toList).2 = 0
    · have e : ((kindP s.data.toList).2 == 0) = true := by simp [h]
      have h96 : s.size ≤ 96 := (kindP_ok _ h).1
      rw [e, if_pos rfl, if_pos h, split_eq s k (by omega) (by omega)]
      rfl
    · have e : ((kindP s.data.toList).2 == 0) = false := by simp [h]
      rw [e, if_neg (by decide), if_neg h]
      rfl
def path_Split.f (a0 : ByteArray) : Option (List ByteArray) := some ((namesP a0.data.toList).map bs)
theorem path_Split.calls (a0 : ByteArray) (r : List ByteArray) (w : World) (h : path_Split.f a0 = some r) :
    Calls Tryd.prog 24 #[.string a0] w fun e w' => ∃ v0_ : Value, e = .returned (v0_) ∧ Kd.R Kd.string 9 w' w.heap.size (fun _ => True) v0_ r ∧ Below w.heap.size w w' := by
  exact MPath.path_Split.calls 400 a0 r w ((Split_eq a0 400 (Nat.le_refl _)).trans h)
def path_Join.f (a0 : ByteArray) (a1 : ByteArray) : Option (ByteArray × Int) := if a0.size ≤ 300 ∧ a1.size ≤ 300 then some (two (joinP a0.data.toList a1.data.toList)) else none
theorem path_Join.calls (a0 : ByteArray) (a1 : ByteArray) (r1 : ByteArray) (r2 : Int) (w : World) (h : path_Join.f a0 a1 = some (r1, r2)) :
    Calls Tryd.prog 30 #[.string a0, .string a1] w fun e w' => e = .returned (.tuple #[.string r1, .int .i64 r2]) ∧ Below w.heap.size w w' := by
  unfold path_Join.f at h
  by_cases hs : a0.size ≤ 300 ∧ a1.size ≤ 300
  · rw [if_pos hs] at h
    exact MPath.path_Join.calls 500 a0 a1 r1 r2 w ((Join_path_eq a0 a1 500 hs.1 hs.2 (Nat.le_refl _)).trans h)
  · rw [if_neg hs] at h
    cases h
def aquiferref05_Join.f (a0 : ByteArray) (a1 : ByteArray) : Option (ByteArray × Int) := if a0.size ≤ 300 ∧ a1.size ≤ 300 then some (two (joinP a0.data.toList a1.data.toList)) else none
theorem aquiferref05_Join.calls (a0 : ByteArray) (a1 : ByteArray) (r1 : ByteArray) (r2 : Int) (w : World) (h : aquiferref05_Join.f a0 a1 = some (r1, r2)) :
    Calls Tryd.prog 31 #[.string a0, .string a1] w fun e w' => e = .returned (.tuple #[.string r1, .int .i64 r2]) ∧ Below w.heap.size w w' := by
  unfold aquiferref05_Join.f at h
  by_cases hs : a0.size ≤ 300 ∧ a1.size ≤ 300
  · rw [if_pos hs] at h
    exact MPath.aquiferref05_Join.calls 500 a0 a1 r1 r2 w ((RJoin_eq a0 a1 500 hs.1 hs.2 (Nat.le_refl _)).trans h)
  · rw [if_neg hs] at h
    cases h
def aquiferref05_Below.f (a0 : ByteArray) (a1 : ByteArray) : Option (Bool) := some (decide (a0.data.toList ∈ upsL a1.data.toList))
theorem aquiferref05_Below.calls (a0 : ByteArray) (a1 : ByteArray) (r : Bool) (w : World) (h : aquiferref05_Below.f a0 a1 = some r) :
    Calls Tryd.prog 32 #[.string a0, .string a1] w fun e w' => e = .returned (.bool r) ∧ Below w.heap.size w w' := by
  exact MPath.aquiferref05_Below.calls 500 a0 a1 r w ((RBelow_eq a0 a1 500 (Nat.le_refl _)).trans h)
def aquiferref05_Compare.f (a0 : ByteArray) (a1 : ByteArray) : Option (Int) := if a0.size ≤ 300 ∧ a1.size ≤ 300 then some (cmpN (splitL a0.data.toList) (splitL a1.data.toList)) else none
theorem aquiferref05_Compare.calls (a0 : ByteArray) (a1 : ByteArray) (r : Int) (w : World) (h : aquiferref05_Compare.f a0 a1 = some r) :
    Calls Tryd.prog 33 #[.string a0, .string a1] w fun e w' => e = .returned (.int .i64 r) ∧ Below w.heap.size w w' := by
  unfold aquiferref05_Compare.f at h
  by_cases hs : a0.size ≤ 300 ∧ a1.size ≤ 300
  · rw [if_pos hs] at h
    exact MPath.aquiferref05_Compare.calls 700 a0 a1 r w ((RCompare_eq a0 a1 700 hs.1 hs.2 (Nat.le_refl _)).trans h)
  · rw [if_neg hs] at h
    cases h
def aquiferref05_Kind.f (a0 : ByteArray) : Option (Int × Int) := some (kindP a0.data.toList)
theorem aquiferref05_Kind.calls (a0 : ByteArray) (r1 : Int) (r2 : Int) (w : World) (h : aquiferref05_Kind.f a0 = some (r1, r2)) :
    Calls Tryd.prog 20 #[.string a0] w fun e w' => e = .returned (.tuple #[.int .i64 r1, .int .i64 r2]) ∧ Below w.heap.size w w' := by
  exact MPath.aquiferref05_Kind.calls 400 a0 r1 r2 w ((RKind_eq a0 400 (Nat.le_refl _)).trans h)
def path_Clean.f (a0 : ByteArray) : Option (ByteArray × Int) := some (two (cleanP a0.data.toList))
theorem path_Clean.calls (a0 : ByteArray) (r1 : ByteArray) (r2 : Int) (w : World) (h : path_Clean.f a0 = some (r1, r2)) :
    Calls Tryd.prog 11 #[.string a0] w fun e w' => e = .returned (.tuple #[.string r1, .int .i64 r2]) ∧ Below w.heap.size w w' := by
  exact MPath.path_Clean.calls 20000 a0 r1 r2 w ((Clean_eq a0 20000 (Nat.le_refl _)).trans h)
def aquiferref05_Clean.f (a0 : ByteArray) : Option (ByteArray × Int) := some (two (cleanP a0.data.toList))
theorem aquiferref05_Clean.calls (a0 : ByteArray) (r1 : ByteArray) (r2 : Int) (w : World) (h : aquiferref05_Clean.f a0 = some (r1, r2)) :
    Calls Tryd.prog 21 #[.string a0] w fun e w' => e = .returned (.tuple #[.string r1, .int .i64 r2]) ∧ Below w.heap.size w w' := by
  exact MPath.aquiferref05_Clean.calls 20000 a0 r1 r2 w ((RClean_eq a0 20000 (Nat.le_refl _)).trans h)
def path_Parent.f (a0 : ByteArray) : Option (ByteArray × Bool) := some (bs (parentP a0.data.toList).1, (parentP a0.data.toList).2)
theorem path_Parent.calls (a0 : ByteArray) (r1 : ByteArray) (r2 : Bool) (w : World) (h : path_Parent.f a0 = some (r1, r2)) :
    Calls Tryd.prog 17 #[.string a0] w fun e w' => e = .returned (.tuple #[.string r1, .bool r2]) ∧ Below w.heap.size w w' := by
  exact MPath.path_Parent.calls 400 a0 r1 r2 w ((Parent_eq a0 400 (Nat.le_refl _)).trans h)
def aquiferref05_Parent.f (a0 : ByteArray) : Option (ByteArray × Bool) := some (bs (parentP a0.data.toList).1, (parentP a0.data.toList).2)
theorem aquiferref05_Parent.calls (a0 : ByteArray) (r1 : ByteArray) (r2 : Bool) (w : World) (h : aquiferref05_Parent.f a0 = some (r1, r2)) :
    Calls Tryd.prog 22 #[.string a0] w fun e w' => e = .returned (.tuple #[.string r1, .bool r2]) ∧ Below w.heap.size w w' := by
  exact MPath.aquiferref05_Parent.calls 400 a0 r1 r2 w ((RParent_eq a0 400 (Nat.le_refl _)).trans h)
def aquiferref05_Split.f (a0 : ByteArray) : Option (List ByteArray) := some ((partsP a0.data.toList).map bs)
theorem aquiferref05_Split.calls (a0 : ByteArray) (r : List ByteArray) (w : World) (h : aquiferref05_Split.f a0 = some r) :
    Calls Tryd.prog 25 #[.string a0] w fun e w' => ∃ v0_ : Value, e = .returned (v0_) ∧ Kd.R Kd.string 9 w' w.heap.size (fun _ => True) v0_ r ∧ Below w.heap.size w w' := by
  exact MPath.aquiferref05_Split.calls 400 a0 r w ((RSplit_eq a0 400 (Nat.le_refl _)).trans h)
def path_Name.f (a0 : ByteArray) : Option (ByteArray) := some (bs (nameP a0.data.toList))
theorem path_Name.calls (a0 : ByteArray) (r : ByteArray) (w : World) (h : path_Name.f a0 = some r) :
    Calls Tryd.prog 26 #[.string a0] w fun e w' => e = .returned (.string r) ∧ Below w.heap.size w w' := by
  exact MPath.path_Name.calls 400 a0 r w ((Name_eq a0 400 (Nat.le_refl _)).trans h)
def aquiferref05_Name.f (a0 : ByteArray) : Option (ByteArray) := some (bs (nameP a0.data.toList))
theorem aquiferref05_Name.calls (a0 : ByteArray) (r : ByteArray) (w : World) (h : aquiferref05_Name.f a0 = some r) :
    Calls Tryd.prog 27 #[.string a0] w fun e w' => e = .returned (.string r) ∧ Below w.heap.size w w' := by
  exact MPath.aquiferref05_Name.calls 400 a0 r w ((RName_eq a0 400 (Nat.le_refl _)).trans h)
def aquiferlaw05_ups.f (a0 : ByteArray) (a1 : Int) : Option (List ByteArray) := if 1 ≤ a1 ∧ a1 ≤ 1000 then some (((upsL a0.data.toList).take a1.toNat).map bs) else none
theorem aquiferlaw05_ups.calls (a0 : ByteArray) (a1 : Int) (r : List ByteArray) (w : World) (h : aquiferlaw05_ups.f a0 a1 = some r) :
    Calls Tryd.prog 28 #[.string a0, .int .i64 a1] w fun e w' => ∃ v0_ : Value, e = .returned (v0_) ∧ Kd.R Kd.string 9 w' w.heap.size (fun _ => True) v0_ r ∧ Below w.heap.size w w' := by
  unfold aquiferlaw05_ups.f at h
  by_cases hs : 1 ≤ a1 ∧ a1 ≤ 1000
  · rw [if_pos hs] at h
    obtain rfl := Option.some.inj h
    rw [List.map_take]
    exact Ups.ups28 400 a0 a1 _ w hs.1 hs.2 (Ups.chain_up a0) (by rw [List.length_map, ups_parts]; unfold upsN; rw [List.length_map, List.length_reverse, List.length_range]; have := parts_len a0.data.toList; omega)
  · rw [if_neg hs] at h
    cases h
def aquiferref05_Ups.f (a0 : ByteArray) : Option (List ByteArray) := some ((upsL a0.data.toList).map bs)
theorem aquiferref05_Ups.calls (a0 : ByteArray) (r : List ByteArray) (w : World) (h : aquiferref05_Ups.f a0 = some r) :
    Calls Tryd.prog 29 #[.string a0] w fun e w' => ∃ v0_ : Value, e = .returned (v0_) ∧ Kd.R Kd.string 9 w' w.heap.size (fun _ => True) v0_ r ∧ Below w.heap.size w w' := by
  exact MPath.aquiferref05_Ups.calls 500 a0 r w ((RUps_eq a0 500 (Nat.le_refl _)).trans h)
end Go.Proofs.YtfnbadfehelleaaDoor.Ext
