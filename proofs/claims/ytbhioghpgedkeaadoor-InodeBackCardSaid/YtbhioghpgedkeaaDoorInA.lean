/- Inodes, archs and digests as values and in variables: a digest is a list of 32 numbers. -/
import Derived.Test.YtbhioghpgedkeaaDoorMItx3
import Derived.Deep.MidRow
import Derived.Deep.RegionHeld3
import Derived.StillTactics
import Derived.Deep.CutBlock
import Derived.ChangeKeysEq
import Derived.Lib.Hide
set_option linter.unusedSimpArgs false
set_option linter.unusedVariables false
namespace Go.Proofs.YtbhioghpgedkeaaDoor.IN
open Go.RowKit Go.Proofs.YtbhioghpgedkeaaDoor.MIt Go.Proofs.YtbhioghpgedkeaaDoorW.PrintWords Go.Proofs.YtbhioghpgedkeaaDoorW.PrintLast Go.Proofs.YtbhioghpgedkeaaDoorW.PrintMore

structure IV where
  k : Int
  sz : Int
  s : List Int
  c : Int
  v : Int
  o : Int
  deriving DecidableEq
structure AV where
  v : Int
  sz : Int
  s : List Int
  deriving DecidableEq
def dg (s : List Int) : List Value := s.map (fun x => .int .u8 x)
def ic (n : IV) : List Value := .int .i64 n.k :: .int .i64 n.sz :: (dg n.s ++ [.int .i64 n.c, .int .i64 n.v, .int .i64 n.o])
def ac (a : AV) : List Value := .int .i64 a.v :: .int .i64 a.sz :: dg a.s
theorem dg_len {s : List Int} (h : s.length = 32) : (dg s).length = 32 := by simp [dg, h]
theorem ic_len {n : IV} (h : n.s.length = 32) : (ic n).length = 37 := by simp [ic, dg, h]
theorem ac_len {a : AV} (h : a.s.length = 32) : (ac a).length = 34 := by simp [ac, dg, h]
theorem ic_0 (n : IV) : (ic n)[0]? = some (.int .i64 n.k) := rfl
theorem ic_1 (n : IV) : (ic n)[1]? = some (.int .i64 n.sz) := rfl
theorem ic_s (n : IV) (h : n.s.length = 32) (j : Nat) (u : Value) (hj : (dg n.s)[j]? = some u) : (ic n)[2 + j]? = some u := by
  have hl : j < (dg n.s).length := (List.getElem?_eq_some_iff.1 hj).1
  rw [show 2 + j = j + 1 + 1 by omega]
  show (dg n.s ++ [_, _, _])[j]? = _
  rw [List.getElem?_append_left hl]
  exact hj
theorem ic_tl (n : IV) (h : n.s.length = 32) (j : Nat) : (ic n)[34 + j]? = [Value.int .i64 n.c, .int .i64 n.v, .int .i64 n.o][j]? := by
  rw [show 34 + j = 32 + j + 1 + 1 by omega]
  show (dg n.s ++ [_, _, _])[32 + j]? = _
  rw [List.getElem?_append_right (by rw [dg_len h]; omega), dg_len h]
  congr 1
  omega
theorem ac_s (a : AV) (j : Nat) (u : Value) (hj : (dg a.s)[j]? = some u) : (ac a)[2 + j]? = some u := by
  rw [show 2 + j = j + 1 + 1 by omega]
  exact hj
/-- An inode lies in a variable. -/
def isI (W : World) (g : Nat) (n : IV) : Prop := W.heap[g]? = some (.cells (ic n).toArray 24 (0, 0))
def isA (W : World) (g : Nat) (a : AV) : Prop := W.heap[g]? = some (.cells (ac a).toArray 26 (0, 0))
def isD (W : World) (g : Nat) (s : List Int) : Prop := W.heap[g]? = some (.cells (dg s).toArray 22 (0, 0))
section
variable {W W' : World} {g : Nat} {n : IV} {a : AV} {s : List Int}
theorem isI.below (h : isI W g n) (hb : Below W.heap.size W W') : isI W' g n := blk_below h hb
theorem isA.below (h : isA W g a) (hb : Below W.heap.size W W') : isA W' g a := blk_below h hb
theorem isD.below (h : isD W g s) (hb : Below W.heap.size W W') : isD W' g s := blk_below h hb
theorem isI.at (h : isI W g n) (j : Nat) : W.cell? ⟨g, j, none⟩ = (ic n)[j]? := by rw [blk_cell h j]; simp
theorem isA.at (h : isA W g a) (j : Nat) : W.cell? ⟨g, j, none⟩ = (ac a)[j]? := by rw [blk_cell h j]; simp
theorem isD.at (h : isD W g s) (j : Nat) : W.cell? ⟨g, j, none⟩ = (dg s)[j]? := by rw [blk_cell h j]; simp
theorem isI.k (h : isI W g n) : W.cell? ⟨g, 0, none⟩ = some (.int .i64 n.k) := h.at 0
theorem isI.sz (h : isI W g n) : W.cell? ⟨g, 1, none⟩ = some (.int .i64 n.sz) := h.at 1
theorem isI.c (h : isI W g n) (hn : n.s.length = 32) : W.cell? ⟨g, 34, none⟩ = some (.int .i64 n.c) := (h.at 34).trans (ic_tl n hn 0)
theorem isI.v (h : isI W g n) (hn : n.s.length = 32) : W.cell? ⟨g, 35, none⟩ = some (.int .i64 n.v) := (h.at 35).trans (ic_tl n hn 1)
theorem isI.o (h : isI W g n) (hn : n.s.length = 32) : W.cell? ⟨g, 36, none⟩ = some (.int .i64 n.o) := (h.at 36).trans (ic_tl n hn 2)
theorem isA.v (h : isA W g a) : W.cell? ⟨g, 0, none⟩ = some (.int .i64 a.v) := h.at 0
theorem isA.sz (h : isA W g a) : W.cell? ⟨g, 1, none⟩ = some (.int .i64 a.sz) := h.at 1
theorem isI.whole (h : isI W g n) : W.rangeAt g 0 (ic n) := fun j v hv => by rw [Nat.zero_add, h.at j]; exact hv
theorem isA.whole (h : isA W g a) : W.rangeAt g 0 (ac a) := fun j v hv => by rw [Nat.zero_add, h.at j]; exact hv
theorem isD.whole (h : isD W g s) : W.rangeAt g 0 (dg s) := fun j v hv => by rw [Nat.zero_add, h.at j]; exact hv
theorem isI.sum (h : isI W g n) (hn : n.s.length = 32) : W.rangeAt g 2 (dg n.s) := fun j v hv => by rw [h.at (2 + j)]; exact ic_s n hn j v hv
theorem isA.sum (h : isA W g a) : W.rangeAt g 2 (dg a.s) := fun j v hv => by rw [h.at (2 + j)]; exact ac_s a j v hv
end
end Go.Proofs.YtbhioghpgedkeaaDoor.IN
