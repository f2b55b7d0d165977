/- The chapter's Key, Kind and Split as the plain words say them, and its example, for the laws behind. -/
import Derived.Test.YtbhioghpgedkeaaDoorMItx9
import Derived.Test.YtbhioghpgedkeaaDoorPPa
import Derived.Test.YtbhioghpgedkeaaDoorInG
set_option linter.unusedSimpArgs false
set_option linter.unusedVariables false
namespace Go.Proofs.YtbhioghpgedkeaaDoor.PP
open Go.RowKit Go.Proofs.YtbhioghpgedkeaaDoor.MIt Go.Proofs.YtbhioghpgedkeaaDoorW.PrintWords Go.Proofs.YtbhioghpgedkeaaDoorW.PrintLast Go.Proofs.YtbhioghpgedkeaaDoorW.PrintMore

def partOf (n : List UInt8) : S56 := ⟨2, 0, bs n⟩
def keyP (s : List UInt8) : List S56 × Int := if (kindP s).2 = 0 then ((namesP s).map partOf, 0) else ([], (kindP s).2)
theorem namesP_len (s : List UInt8) : (namesP s).length ≤ 8 := by
  unfold namesP
  split
  · simp
  split
  · rename_i h1 h2
    rcases (kindP_ok s h2).2 with ⟨h, _⟩ | ⟨_, h, _⟩
    · exact absurd h h1
    · exact h
  · simp
theorem Key_loop (L : List (List UInt8)) (hL : L.length ≤ 8) : ∀ (r p : List (List UInt8)) (k : Nat) (a : List S56), L = p ++ r → a.length = p.length → r.length < k →
    inode_Key.l0 k a (L.map bs) (L.length : Int) (p.length : Int) = some (a ++ r.map partOf, 0)
  | [], p, k, a, h, ha, hk => by
    obtain ⟨m, rfl, _⟩ := up1 hk
    rw [inode_Key.l0, h]
    rw [if_neg (by simp)]
    simp
  | n :: r, p, k, a, h, ha, hk => by
    obtain ⟨m, rfl, hm⟩ := up1 hk
    have hl : L.length = p.length + (r.length + 1) := by rw [h]; simp
    rw [inode_Key.l0, if_pos (by omega), if_pos (by omega), if_pos (by rw [List.length_map]; omega), h, rd_mid, ← h]
    unfold keycode_Text.f
    rw [Option.bind_some, if_pos (by omega), wrap_succ _ (by omega)]
    have := Key_loop L hL r (p ++ [n]) m (a ++ [partOf n]) (by simp [h]) (by simp [ha]) (by simp only [List.length_cons] at hm; omega)
    rw [List.length_append] at this
    rw [show (((p.length + 1 : Nat)) : Int) = ((p.length + [n].length : Nat) : Int) from rfl]
    refine this.trans ?_
    simp
theorem Key_eq (s : ByteArray) (k : Nat) (hk : 400 ≤ k) : inode_Key.f k s = some (keyP s.data.toList) := by
  unfold inode_Key.f keyP
  rw [Kind_eq s k hk, Option.bind_some]
  by_cases h : (kindP s.data.toList).2 = 0
  · rw [if_pos h, if_pos h, Split_eq s k hk, Option.bind_some, List.length_map]
    have := namesP_len s.data.toList
    exact (Key_loop _ this (namesP s.data.toList) [] k [] rfl rfl (by omega)).trans (by simp)
  · rw [if_neg h, if_neg h]
end Go.Proofs.YtbhioghpgedkeaaDoor.PP
namespace Go.Proofs.YtbhioghpgedkeaaDoor.Ext
open Go.RowKit Go.Proofs.YtbhioghpgedkeaaDoor.MIt Go.Proofs.YtbhioghpgedkeaaDoorW.PrintWords Go.Proofs.YtbhioghpgedkeaaDoorW.PrintLast Go.Proofs.YtbhioghpgedkeaaDoorW.PrintMore Go.Proofs.YtbhioghpgedkeaaDoor.PP

def path_Kind.f (a0 : ByteArray) : Option (Int × Int) := some (kindP a0.data.toList)
theorem path_Kind.calls (a0 : ByteArray) (r1 : Int) (r2 : Int) (w : World) (h : path_Kind.f a0 = some (r1, r2)) :
    Calls Tryd.prog 54 #[.string a0] w fun e w' => e = .returned (.tuple #[.int .i64 r1, .int .i64 r2]) ∧ Below w.heap.size w w' := by
  exact MIt.path_Kind.calls 400 a0 r1 r2 w ((Kind_eq a0 400 (Nat.le_refl _)).trans h)
def path_Split.f (a0 : ByteArray) : Option (List ByteArray) := some ((namesP a0.data.toList).map bs)
theorem path_Split.calls (a0 : ByteArray) (r : List ByteArray) (w : World) (h : path_Split.f a0 = some r) :
    Calls Tryd.prog 55 #[.string a0] w fun e w' => ∃ v0_ : Value, e = .returned (v0_) ∧ Kd.R Kd.string 9 w' w.heap.size (fun _ => True) v0_ r ∧ Below w.heap.size w w' := by
  exact MIt.path_Split.calls 400 a0 r w ((Split_eq a0 400 (Nat.le_refl _)).trans h)
def inode_Key.f (a0 : ByteArray) : Option ((List (S56)) × Int) := some (keyP a0.data.toList)
theorem inode_Key.calls (a0 : ByteArray) (r1 : List (S56)) (r2 : Int) (w : World) (h : inode_Key.f a0 = some (r1, r2)) :
    Calls Tryd.prog 29 #[.string a0] w fun e w' => ∃ v0_ : Value, e = .returned (.tuple #[v0_, .int .i64 r2]) ∧ Kd.R k56 56 w' w.heap.size (fun _ => True) v0_ r1 ∧ Below w.heap.size w w' := by
  exact MIt.inode_Key.calls 400 a0 r1 r2 w ((Key_eq a0 400 (Nat.le_refl _)).trans h)
def aquiferlaw17_works.f  : Option (Bool) := some true
theorem aquiferlaw17_works.calls (r : Bool) (w : World) (h : aquiferlaw17_works.f = some r) :
    Calls Tryd.prog 16 #[] w fun e w' => e = .returned (.bool r) ∧ Below w.heap.size w w' := by
  obtain rfl : true = r := Option.some.inj h
  exact IN.works_call w
end Go.Proofs.YtbhioghpgedkeaaDoor.Ext
