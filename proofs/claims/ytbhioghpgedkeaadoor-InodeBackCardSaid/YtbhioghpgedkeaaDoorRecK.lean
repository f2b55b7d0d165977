/- The law InodeArchs' walk. -/
import Derived.Lib.SlBuf
import Derived.Laws.CopyOwn
import Derived.Laws.CopyRow
import Derived.Test.YtbhioghpgedkeaaDoorRecE
import Derived.Test.YtbhioghpgedkeaaDoorMKfx4
import Derived.Test.YtbhioghpgedkeaaDoorPPa
import Derived.Test.YtbhioghpgedkeaaDoorWLast
import Derived.Test.YtbhioghpgedkeaaDoorMKfx3
set_option linter.unusedSimpArgs false
set_option linter.unusedVariables false
namespace Go.Proofs.YtbhioghpgedkeaaDoor.IN
open Go.RowKit Go.Proofs.YtbhioghpgedkeaaDoor.MIt Go.Proofs.YtbhioghpgedkeaaDoor.MKf Go.Proofs.YtbhioghpgedkeaaDoorW.PrintWords Go.Proofs.YtbhioghpgedkeaaDoorW.PrintLast Go.Proofs.YtbhioghpgedkeaaDoorW.PrintMore

def z32 : List Int := List.replicate 32 0
set_option maxRecDepth 100000 in
def z32L : List Value := .int .u8 0 :: .int .u8 0 :: .int .u8 0 :: .int .u8 0 :: .int .u8 0 :: .int .u8 0 :: .int .u8 0 :: .int .u8 0 :: .int .u8 0 :: .int .u8 0 :: .int .u8 0 :: .int .u8 0 :: .int .u8 0 :: .int .u8 0 :: .int .u8 0 :: .int .u8 0 :: .int .u8 0 :: .int .u8 0 :: .int .u8 0 :: .int .u8 0 :: .int .u8 0 :: .int .u8 0 :: .int .u8 0 :: .int .u8 0 :: .int .u8 0 :: .int .u8 0 :: .int .u8 0 :: .int .u8 0 :: .int .u8 0 :: .int .u8 0 :: .int .u8 0 :: [.int .u8 0]
theorem z32_eq : dg z32 = z32L := by kernel_rfl
/-- The first 32 bytes of a text laid over z. -/
def lay (s : ByteArray) (z : List Int) : List Int := (s.data.toList.map (fun b : UInt8 => (b.toNat : Int))).take 32 ++ z.drop (min s.size 32)
theorem lay_len (s : ByteArray) (z : List Int) (hz : z.length = 32) : (lay s z).length = 32 := by
  unfold lay
  have : s.data.toList.length = s.size := rfl
  simp only [List.length_append, List.length_take, List.length_map, List.length_drop, hz, this]
  omega
theorem setRow_same {w : World} {g : Nat} {old cs : Array Value} {t : TypeId} {fr : Nat × Nat} (h : w.heap[g]? = some (.cells old t fr)) : (w.setRow g cs).heap[g]? = some (.cells cs t fr) := setRow_heap w g old cs t fr h
theorem isD.setRow {w : World} {g : Nat} {z s : List Int} (h : isD w g z) : isD (w.setRow g (dg s).toArray) g s := setRow_same h
theorem dg_one (s : List Int) : (dg s).toArray.all (·.oneCell') = true := all_oneCell_toArray (by
  intro v hv
  obtain ⟨x, _, rfl⟩ := List.mem_map.1 hv
  rfl)
theorem ac_one (a : AV) : (ac a).toArray.all (·.oneCell') = true := all_oneCell_toArray (by
  intro v hv
  unfold ac at hv
  rcases List.mem_cons.1 hv with rfl | hv
  · rfl
  rcases List.mem_cons.1 hv with rfl | hv
  · rfl
  obtain ⟨x, _, rfl⟩ := List.mem_map.1 hv
  rfl)
theorem sz5 : ∃ i, Tryd.prog.info? 5 = some i ∧ i.size = 1 := by
  have h : (Tryd.prog.info? 5).map (·.size) = some 1 := by kernel_rfl
  cases hq : Tryd.prog.info? 5 with
  | none => rw [hq] at h; cases h
  | some i => exact ⟨i, rfl, by rw [hq] at h; exact Option.some.inj h⟩
theorem copy22 (w : World) (g : Nat) (z : List Int) (hz : z.length = 32) (s : ByteArray) (ty : TypeId) (hD : isD w g z) :
    (Builtin.copy_ #[79, 9] ty #[.slice (some ⟨g, 0, none⟩) 32 32, .string s]).run Tryd.prog w = .ok (goInt (Nat.min s.size 32)) (w.setRow g (dg (lay s z)).toArray) := by
  obtain ⟨i, hq, hi⟩ := sz5
  have hvs : ((s.data.toList.map fun b : UInt8 => Value.int .u8 (b.toNat : Int)).take (Nat.min s.size 32)) = dg ((s.data.toList.map (fun b : UInt8 => (b.toNat : Int))).take 32) := by
    unfold dg
    rw [List.map_take, List.map_map]
    rcases Nat.le_total s.size 32 with h | h
    · rw [show s.size.min 32 = s.size from Nat.min_eq_left h, List.take_of_length_le (by rw [List.length_map]; exact Nat.le_refl _), List.take_of_length_le (by rw [List.length_map]; exact h)]
      rfl
    · rw [show s.size.min 32 = 32 from Nat.min_eq_right h]
      rfl
  have hl : (dg ((s.data.toList.map (fun b : UInt8 => (b.toNat : Int))).take 32)).length = min s.size 32 := by
    unfold dg
    have : s.data.toList.length = s.size := rfl
    rw [List.length_map, List.length_take, List.length_map, this, Nat.min_comm]
  have hst := run_storeCells_at (P := Tryd.prog) g 0 22 (dg ((s.data.toList.map (fun b : UInt8 => (b.toNat : Int))).take 32)) 0 (dg z).toArray w hD (by rw [hl, List.size_toArray, dg_len hz]; omega) (by
    intro v hv
    obtain ⟨x, _, rfl⟩ := List.mem_map.1 hv
    rfl)
  rw [hl] at hst
  simp only [Nat.add_zero, Nat.zero_add, List.take_zero, List.nil_append] at hst
  have he : dg ((s.data.toList.map (fun b : UInt8 => (b.toNat : Int))).take 32) ++ (dg z).drop (min s.size 32) = dg (lay s z) := by
    unfold lay dg
    rw [List.map_append, List.map_drop]
  simp [Builtin.copy_, run_underlying Tryd.underlying79, Builtin.lenOf, Builtin.firstCells, sizeOf, typeInfo, hq, hi]
  rw [hvs, hst, he]
  rfl
def sumOf (L : List S75) : List Int × Bool := (lay (textOf L 3).1 z32, !(textOf L 3).2 || ((textOf L 3).1.size : Int) == 32)
theorem sumOf_len (L : List S75) : (sumOf L).1.length = 32 := lay_len _ _ rfl
set_option maxHeartbeats 4000000 in
set_option maxRecDepth 100000 in
theorem number_call (A : Option Addr) (cap : Nat) (L : List S75) (tag : Int) (hL : L.length ≤ 1000) (w : World) (hC : Kd.C k75 w A L.length L) :
    Calls Tryd.prog 50 #[.slice A L.length cap, .int .i64 tag] w fun e W' => e = .returned (.int .i64 (numOf L tag).1) ∧ Below w.heap.size w W' := by
  have HN := Lib.hid (fnum_call A cap L tag hL w hC)
  clear hC
  generalize numOf L tag = r at HN
  obtain ⟨r1, r2⟩ := r
  go_enter Tryd.func50, Tryd.ntmps50
  go_wp2_with (first | (go_at_call 71; (with_reducible refine HN.out.mono ?_); rintro e w2 ⟨rfl, hb2⟩; have HB := Lib.hid hb2; clear hb2))
  go_ret
  exact ⟨rfl, HB.out⟩
set_option maxHeartbeats 4000000 in
set_option maxRecDepth 100000 in
theorem sum_call (A : Option Addr) (cap : Nat) (L : List S75) (hL : L.length ≤ 1000) (w : World) (hC : Kd.C k75 w A L.length L) :
    Calls Tryd.prog 49 #[.slice A L.length cap] w fun e W' => e = .returned (.tuple #[.agg (dg (sumOf L).1).toArray, .bool (sumOf L).2]) ∧ Below w.heap.size w W' := by
  have HC0 := Lib.hid hC
  have HT := Lib.hid (fun W hc => ftext_call A cap L 3 hL W hc)
  have HL := Lib.hid (sumOf_len L)
  clear hC
  unfold sumOf at HL ⊢
  generalize textOf L 3 = r at HT HL ⊢
  obtain ⟨s, th⟩ := r
  have HE := Lib.hid (congrArg List.toArray z32_eq)
  unfold z32L at HE
  go_enter Tryd.func49, Tryd.ntmps49
  go_upto_region 1 with fail
  rw [← HE.out]
  have HD := Lib.hid (show isD (w.alloc (.cells (dg z32).toArray 22)) w.heap.size z32 from heap_alloc_new _ _)
  have HB := Lib.hid (show Below w.heap.size w (w.alloc (.cells (dg z32).toArray 22)) from below_alloc (Below.refl _ _) _)
  have HC := Lib.hid (Kd.C_below HC0.out HB.out)
  clear HC0 HE
  generalize w.alloc (.cells (dg z32).toArray 22) = w1 at HD HB HC ⊢
  go_upto_region 2 with (first | (go_at_call 70; (with_reducible refine (HT.out _ HC.out).mono ?_); rintro e w2 ⟨rfl, hb2⟩; have HD2 := Lib.hid (isD.below HD.out hb2); have HB2 := Lib.hid (below_box HB.out hb2); clear hb2))
  clear HD HB HC HT
  go_upto_region 3 with (first | ((with_reducible refine gate_builtin (b := .copy) (xs := #[.tmp 11, .tmp 12]) rfl ?_); refine Lib.wpList_copy_run _ rfl _ _ 79 9 rfl _ _ rfl rfl (copy22 _ w.heap.size z32 rfl s _ HD2.out) ?_; have HD3 := Lib.hid (isD.setRow (s := lay s z32) HD2.out); have HB3 := Lib.hid (below_setRow HB2.out (Nat.le_refl _) (dg (lay s z32)).toArray)))
  clear HD2 HB2
  generalize w2.setRow w.heap.size (dg (lay s z32)).toArray = w3 at HD3 HB3 ⊢
  have HR := Lib.hid (lay_len s z32 rfl)
  clear HL
  have hsz : (Tryd.prog.info? 22).map (·.size) = some (dg (lay s z32)).toArray.size := by rw [List.size_toArray, dg_len HR.out]; kernel_rfl
  cases th
  ·
    go_wp2_with (first | ((with_reducible refine gate_dst (N := 14) rfl ?_); refine wpList_load_row rfl 22 (.tmp 2) rfl w.heap.size (by rfl) 22 (dg (lay s z32)).toArray (0, 0) _ HD3.out Tryd.underlying22 rfl hsz ?_) | (refine wpList_store_row rfl 22 (.tmp 2) (.tmp 14) rfl w.heap.size (dg (lay s z32)).toArray (by rfl) (by rfl) 22 _ HD3.out hsz rfl (dg_one _) ?_))
    have HD4 := isD.setRow (s := lay s z32) HD3.out
    have HB4 := below_setRow HB3.out (Nat.le_refl _) (dg (lay s z32)).toArray
    refine bodyPost_ret (results_ct rfl _ _ w.heap.size 22 (dg (lay s z32)).toArray (0, 0) _ rfl HD4 Tryd.underlying22 rfl hsz) rfl ?_
    exact ⟨by first | rfl | (rw [hq]; rfl), HB4⟩
  · cases hq : ((s.size : Int) == 32)
    ·
      go_wp2_with (first | ((with_reducible refine gate_dst (N := 14) rfl ?_); refine wpList_load_row rfl 22 (.tmp 2) rfl w.heap.size (by rfl) 22 (dg (lay s z32)).toArray (0, 0) _ HD3.out Tryd.underlying22 rfl hsz ?_) | (refine wpList_store_row rfl 22 (.tmp 2) (.tmp 14) rfl w.heap.size (dg (lay s z32)).toArray (by rfl) (by rfl) 22 _ HD3.out hsz rfl (dg_one _) ?_))
      have HD4 := isD.setRow (s := lay s z32) HD3.out
      have HB4 := below_setRow HB3.out (Nat.le_refl _) (dg (lay s z32)).toArray
      refine bodyPost_ret (results_ct rfl _ _ w.heap.size 22 (dg (lay s z32)).toArray (0, 0) _ rfl HD4 Tryd.underlying22 rfl hsz) rfl ?_
      exact ⟨by first | rfl | (rw [hq]; rfl), HB4⟩
    ·
      go_wp2_with (first | ((with_reducible refine gate_dst (N := 14) rfl ?_); refine wpList_load_row rfl 22 (.tmp 2) rfl w.heap.size (by rfl) 22 (dg (lay s z32)).toArray (0, 0) _ HD3.out Tryd.underlying22 rfl hsz ?_) | (refine wpList_store_row rfl 22 (.tmp 2) (.tmp 14) rfl w.heap.size (dg (lay s z32)).toArray (by rfl) (by rfl) 22 _ HD3.out hsz rfl (dg_one _) ?_))
      have HD4 := isD.setRow (s := lay s z32) HD3.out
      have HB4 := below_setRow HB3.out (Nat.le_refl _) (dg (lay s z32)).toArray
      refine bodyPost_ret (results_ct rfl _ _ w.heap.size 22 (dg (lay s z32)).toArray (0, 0) _ rfl HD4 Tryd.underlying22 rfl hsz) rfl ?_
      exact ⟨by first | rfl | (rw [hq]; rfl), HB4⟩
end Go.Proofs.YtbhioghpgedkeaaDoor.IN
namespace Go.Proofs.YtbhioghpgedkeaaDoor.IN
open Go.RowKit Go.Proofs.YtbhioghpgedkeaaDoor.MIt Go.Proofs.YtbhioghpgedkeaaDoor.MKf Go.Proofs.YtbhioghpgedkeaaDoorW.PrintWords Go.Proofs.YtbhioghpgedkeaaDoorW.PrintLast Go.Proofs.YtbhioghpgedkeaaDoorW.PrintMore

theorem rd75 (p : List S75) (x : S75) (r : List S75) : rd_T75 (p ++ x :: r) (p.length : Int) = x := by
  unfold rd_T75
  simp
end Go.Proofs.YtbhioghpgedkeaaDoor.IN
namespace Go.Proofs.YtbhioghpgedkeaaDoor.IN
open Go.RowKit Go.Proofs.YtbhioghpgedkeaaDoor.MIt Go.Proofs.YtbhioghpgedkeaaDoor.MKf Go.Proofs.YtbhioghpgedkeaaDoorW.PrintWords Go.Proofs.YtbhioghpgedkeaaDoorW.PrintLast Go.Proofs.YtbhioghpgedkeaaDoorW.PrintMore

def alikeF (x y : S75) : Bool := !((!(x.f0 == y.f0)) || ((!(x.f1 == y.f1)) || ((!(x.f2 == y.f2)) || (!(x.f3.toList == y.f3.toList)))))
theorem alikeF_iff (x y : S75) : alikeF x y = true ↔ x = y := by
  unfold alikeF
  constructor
  · intro h
    simp only [Bool.not_or, Bool.not_not, Bool.and_eq_true, beq_iff_eq] at h
    obtain ⟨h0, h1, h2, h3⟩ := h
    rw [ByteArray.toList_eq, ByteArray.toList_eq] at h3
    have h4 := PP.str_eq h3
    cases x; cases y
    simp only at h0 h1 h2 h4
    rw [h0, h1, h2, h4]
  · rintro rfl
    simp
instance : DecidableEq S75 := fun x y => decidable_of_iff (alikeF x y = true) (alikeF_iff x y)
theorem same_loop (a b : List S75) (ha : a.length ≤ 1000) (hab : a.length = b.length) : ∀ (r q p : List S75) (k : Nat), a = p ++ r → b = p ++ q → r.length < k → inode_same.l0 k a b (a.length : Int) (p.length : Int) = some (decide (r = q))
  | [], q, p, k, h, h', hk => by
    obtain ⟨m, rfl, _⟩ := PP.up1 hk
    have : q = [] := by
      rw [h, h'] at hab
      simp at hab
      cases q with
      | nil => rfl
      | cons c d => simp at hab
    rw [inode_same.l0, if_neg (by rw [h]; simp), this]
    rfl
  | x :: r, [], p, k, h, h', hk => by
    rw [h, h'] at hab
    simp at hab
  | x :: r, y :: q, p, k, h, h', hk => by
    obtain ⟨m, rfl, hm⟩ := PP.up1 hk
    have hl2 : a.length = p.length + (r.length + 1) := by rw [h]; simp
    have e1 : rd_T75 a (p.length : Int) = x := by rw [h]; exact rd75 p x r
    have e2 : rd_T75 b (p.length : Int) = y := by rw [h']; exact rd75 p y q
    rw [inode_same.l0, if_pos (by omega), if_pos (by omega), if_pos (by omega), if_pos (by omega), e1, e2]
    by_cases hxy : x = y
    · have hq := (alikeF_iff x y).2 hxy
      unfold alikeF at hq
      rw [Bool.not_eq_true'] at hq
      rw [hq, if_neg (by decide), PP.wrap_succ _ (by omega)]
      have := same_loop a b ha hab r q (p ++ [x]) m (by simp [h]) (by simp [h', hxy]) (by simp only [List.length_cons] at hm; omega)
      rw [List.length_append] at this
      refine this.trans ?_
      rw [hxy]
      simp
    · have hq : alikeF x y = false := by
        cases hh : alikeF x y
        · rfl
        · exact absurd ((alikeF_iff x y).1 hh) hxy
      unfold alikeF at hq
      rw [Bool.not_eq_false'] at hq
      rw [hq, if_pos rfl, decide_eq_false (fun e => hxy (List.cons.inj e).1)]
theorem same_eq (a b : List S75) (ha : a.length ≤ 1000) : inode_same.f 1001 a b = some (decide (a = b)) := by
  unfold inode_same.f
  by_cases h : a.length = b.length
  · rw [if_pos (by omega)]
    exact same_loop a b ha h a b [] 1001 rfl rfl (by omega)
  · rw [if_neg (by omega), decide_eq_false (fun e => h (by rw [e]))]
def zA : AV := ⟨0, 0, z32⟩
set_option maxRecDepth 100000 in
def zAL : List Value := .int .i64 0 :: .int .i64 0 :: z32L
theorem zA_eq : ac zA = zAL := by
  unfold ac zA zAL
  rw [z32_eq]
def archOf (L : List S75) : AV := ⟨(numOf L 5).1, (numOf L 2).1, lay (textOf L 3).1 z32⟩
theorem archOf_len (L : List S75) : (archOf L).s.length = 32 := lay_len _ _ rfl
def decA (L : List S75) : AV × Int := if (sumOf L).2 = true ∧ archOk (archOf L) = true ∧ archRec (archOf L) = L then (archOf L, 0) else (zA, 5)
theorem archRec_len (a : AV) : (archRec a).length ≤ 3 := by
  unfold archRec numF textF
  simp only [List.length_append]
  split <;> split <;> simp
theorem archE_len (a : AV) : (archE a).1.length ≤ 3 := by
  unfold archE
  split
  · exact archRec_len a
  · simp
theorem archRec_text (a : AV) : textOf (archRec a) 3 = (strOfNums a.s, true) := by
  have h1 : ∀ t n, (numF t n).filter (isF 3 1) = [] := by
    intro t n
    unfold numF
    split
    · simp [isF]
    · rfl
  unfold textOf archRec textF
  rw [List.filter_append, List.filter_append, h1, h1]
  rfl
set_option maxRecDepth 100000 in
set_option maxHeartbeats 4000000 in
theorem built26 (v sz : Int) (s : List Int) (hs : s.length = 32) : Tryd.prog.built 26 [(0, .int .i64 v), (1, .int .i64 sz), (2, .agg (dg s).toArray)] = some (ac ⟨v, sz, s⟩).toArray := by
  match s, hs with
  | [x0, x1, x2, x3, x4, x5, x6, x7, x8, x9, x10, x11, x12, x13, x14, x15, x16, x17, x18, x19, x20, x21, x22, x23, x24, x25, x26, x27, x28, x29, x30, x31], _ => exact (show _ = _ from by kernel_rfl)
theorem build26_run (v sz : Int) (s : List Int) (hs : s.length = 32) (w : World) : (Instr.build 26 #[(0, .int .i64 v), (1, .int .i64 sz), (2, .agg (dg s).toArray)]).run Tryd.prog w = .ok (.agg (ac ⟨v, sz, s⟩).toArray) w :=
  run_build w 26 _ _ (built26 v sz s hs)
theorem size26 {a : AV} (h : a.s.length = 32) : (Tryd.prog.info? 26).map (·.size) = some (ac a).toArray.size := by rw [List.size_toArray, ac_len h]; kernel_rfl
theorem isA.setRow {w : World} {g : Nat} {z a : AV} (h : isA w g z) : isA (w.setRow g (ac a).toArray) g a := setRow_same h
theorem isA.setRow_far {w : World} {g k : Nat} {a : AV} (h : isA w k a) (hk : k ≠ g) (cs : Array Value) : isA (w.setRow g cs) k a := (setRow_other w g k cs hk).trans h
theorem alloc26_run (w : World) : (Instr.alloc 26 true (.tuple #[])).run Tryd.prog w = .ok (.pointer (some ⟨w.heap.size, 0, none⟩)) (w.alloc (.cells (ac zA).toArray 26)) := by
  rw [zA_eq]
  unfold zAL z32L
  go_simp
theorem store26_run (w : World) (g : Nat) (z a : AV) (hz : z.s.length = 32) (ha : a.s.length = 32) (hg : isA w g z) : (Instr.storeAt 26 (.pointer (some ⟨g, 0, none⟩)) (.agg (ac a).toArray)).run Tryd.prog w = .ok () (w.setRow g (ac a).toArray) := by
  simp only [Instr.storeAt, Instr.sureAddr, Sem.run_bind, Sem.run_pure, Result.andThen_ok, run_storeVar_row w g 26 26 (ac z).toArray (ac a).toArray hg (size26 ha) (by rw [List.size_toArray, List.size_toArray, ac_len hz, ac_len ha]) (ac_one a)]
theorem exec_build {P : Program} {w : World} {ρ : Operand → Value} {o : Oper} (t : TypeId) (parts : Array (Nat × Operand)) (vs : Array (Nat × Value)) {v : Value} (ho : o.op = .build t parts) (hm : parts.map (fun (i, x) => (i, ρ x)) = vs) (hr : (Instr.build t vs).run P w = .ok v w) : (execOp ρ o).run P w = .ok (.value v) w := by
  subst hm
  unfold execOp
  simp only [ho, Sem.run_bind, hr, Result.andThen_ok, Sem.run_pure]
theorem exec_store {P : Program} {w w' : World} {ρ : Operand → Value} {o : Oper} (t : TypeId) (x y : Operand) {p u : Value} (ho : o.op = .store t x y) (hx : ρ x = p) (hy : ρ y = u) (hr : (Instr.storeAt t p u).run P w = .ok () w') : (execOp ρ o).run P w = .ok .skip w' := by
  subst hx
  subst hy
  unfold execOp
  simp only [ho, Sem.run_bind, hr, Result.andThen_ok, Sem.run_pure]
theorem exec_alloc {P : Program} {w w' : World} {ρ : Operand → Value} {o : Oper} (t : TypeId) {v : Value} (ho : o.op = .alloc t) (hr : (Instr.alloc t true (.tuple #[])).run P w = .ok v w') : (execOp ρ o).run P w = .ok (.value v) w' := by
  unfold execOp
  simp only [ho, Sem.run_bind, hr, Result.andThen_ok, Sem.run_pure]
/-- What holds behind each step: the result's variable g0, the digest's g5. -/
def DSt (w : World) (g0 g5 : Nat) (d : List Int) (w' : World) : Prop := isD w' g5 d ∧ isA w' g0 zA ∧ Below w.heap.size w w'
theorem DSt.dd {w w' : World} {g0 g5 : Nat} {d : List Int} (h : DSt w g0 g5 d w') : isD w' g5 d := h.1
theorem DSt.aa {w w' : World} {g0 g5 : Nat} {d : List Int} (h : DSt w g0 g5 d w') : isA w' g0 zA := h.2.1
theorem DSt.bb {w w' : World} {g0 g5 : Nat} {d : List Int} (h : DSt w g0 g5 d w') : Below w.heap.size w w' := h.2.2
theorem DSt.below {w w' w'' : World} {g0 g5 : Nat} {d : List Int} (h : DSt w g0 g5 d w') (hb : Below w'.heap.size w' w'') : DSt w g0 g5 d w'' := ⟨h.1.below hb, h.2.1.below hb, below_box h.2.2 hb⟩
end Go.Proofs.YtbhioghpgedkeaaDoor.IN
namespace Go.Proofs.YtbhioghpgedkeaaDoor.IN
open Go.RowKit Go.Proofs.YtbhioghpgedkeaaDoor.MIt Go.Proofs.YtbhioghpgedkeaaDoor.MKf Go.Proofs.YtbhioghpgedkeaaDoorW.PrintWords Go.Proofs.YtbhioghpgedkeaaDoorW.PrintLast Go.Proofs.YtbhioghpgedkeaaDoorW.PrintMore

set_option maxHeartbeats 8000000 in
set_option maxRecDepth 100000 in
theorem decA_call (A : Option Addr) (cap : Nat) (L : List S75) (hL : L.length ≤ 1000) (hcap : L.length ≤ cap) (w : World) (hC : Kd.C k75 w A L.length L) :
    Calls Tryd.prog 21 #[.slice A L.length cap] w fun e W' => e = .returned (.tuple #[.agg (ac (decA L).1).toArray, .int .i64 (decA L).2]) ∧ Below w.heap.size w W' := by
  have HC0 := Lib.hid hC
  have HSU := Lib.hid (fun W hc => sum_call A cap L hL W hc)
  have HN5 := Lib.hid (fun W hc => number_call A cap L 5 hL W hc)
  have HN2 := Lib.hid (fun W hc => number_call A cap L 2 hL W hc)
  have HAL := Lib.hid (archOf_len L)
  have HDL := Lib.hid (sumOf_len L)
  have HEA := Lib.hid (fun W => encA_call (archOf L) HAL.out W)
  have HSM := Lib.hid (same_eq (archE (archOf L)).1 L (by have := archE_len (archOf L); omega))
  have hdec : decA L = if (sumOf L).2 = true ∧ archOk (archOf L) = true ∧ archRec (archOf L) = L then (archOf L, 0) else (zA, 5) := rfl
  have harch : archOf L = ⟨(numOf L 5).1, (numOf L 2).1, (sumOf L).1⟩ := rfl
  have HE := Lib.hid (congrArg List.toArray z32_eq)
  have HE26 := Lib.hid (congrArg List.toArray zA_eq)
  unfold z32L at HE
  unfold zAL z32L at HE26
  clear hC
  obtain ⟨d, hd⟩ : ∃ d, d = (sumOf L).1 := ⟨_, rfl⟩
  rw [← hd] at HDL HSU harch
  clear hd
  obtain ⟨ok, hok⟩ : ∃ ok, ok = (sumOf L).2 := ⟨_, rfl⟩
  rw [← hok] at HSU hdec
  clear hok
  obtain ⟨n5, hn5⟩ : ∃ n5, n5 = (numOf L 5).1 := ⟨_, rfl⟩
  obtain ⟨n2, hn2⟩ : ∃ n2, n2 = (numOf L 2).1 := ⟨_, rfl⟩
  rw [← hn5] at HN5 harch
  rw [← hn2] at HN2 harch
  clear hn5 hn2
  have HB26 := Lib.hid (show ∀ W : World, (Instr.build 26 #[(0, .int .i64 n5), (1, .int .i64 n2), (2, .agg (dg d).toArray)]).run Tryd.prog W = .ok (.agg (ac (archOf L)).toArray) W from fun W => by rw [harch]; exact build26_run n5 n2 d HDL.out W)
  clear harch
  generalize archOf L = a at HAL HEA HSM HB26 hdec
  have HEN := Lib.hid (show archE a = if archOk a then (archRec a, 0) else ([], 2) from rfl)
  have HDEC := Lib.hid hdec
  clear hdec
  go_enter Tryd.func21, Tryd.ntmps21
  go_upto_region 2 with fail
  rw [← HE26.out]
  have HA0 := Lib.hid (show isA (w.alloc (.cells (ac zA).toArray 26)) w.heap.size zA from heap_alloc_new _ _)
  have HB0 := Lib.hid (show Below w.heap.size w (w.alloc (.cells (ac zA).toArray 26)) from below_alloc (Below.refl _ _) _)
  generalize w.alloc (.cells (ac zA).toArray 26) = w1 at HA0 HB0 ⊢
  go_upto_region 3 with (first | (go_at_call 49; (with_reducible refine (HSU.out _ (Kd.C_below HC0.out HB0.out)).mono ?_); rintro e w2 ⟨rfl, hb2⟩; have HA2 := Lib.hid (isA.below HA0.out hb2); have HB2 := Lib.hid (below_box HB0.out hb2); clear hb2) | (refine wpList_store_row rfl 22 (.tmp 5) (.tmp 14) rfl w2.heap.size (dg d).toArray (by rfl) (by rfl) 22 _ (heap_alloc_new _ _) (by rw [List.size_toArray, dg_len HDL.out]; kernel_rfl) (by have := dg_len HDL.out; simp only [List.size_toArray, this]; rfl) (dg_one d) ?_; rw [World.setRow_alloc_new]))
  have HQ := Lib.hid (show DSt w w.heap.size w2.heap.size d (w2.alloc (.cells (dg d).toArray 22)).drew from ⟨heap_alloc_new _ _, blk_drew (blk_alloc HA2.out _), below_drew1 (below_then HB2.out HB2.out.size (below_alloc (Below.refl _ _) _))⟩)
  have hg0 : w.heap.size ≠ w2.heap.size := Nat.ne_of_lt (lt_of_block HA2.out)
  clear HA0 HB0 HA2 HB2 HE HSU
  refine start_ (n := 8) (S := DSt w w.heap.size w2.heap.size d) (ds := [7]) #[false, false, false, false, false, false, false, false] (by kernel_rfl) rfl rfl HQ.out (fun hHeld => ?_)
  clear HQ
  generalize (w2.alloc (.cells (dg d).toArray 22)).drew = w3 at hHeld ⊢
  generalize w2.heap.size = g5 at hHeld hg0 ⊢
  refine pure_ (i := 0) (N := some 16) (v := ?_) (a' := ?_) #[true, false, false, false, false, false, false, false] rfl rfl (by kernel_rfl) (fun _ _ _ h => h) (Or.inl ⟨by rfl, ?_⟩) ?_ ?_
  rotate_left
  · intro w'
    go_simp
    with_reducible rfl
  rotate_left
  · simp only [Act.put, List.setIfInBounds_toArray, List.set_cons_zero, List.set_cons_succ, i64_w, i32_w]
    rfl
  refine pure_ (i := 2) (N := some 18) (v := ?_) (a' := ?_) #[true, false, true, false, false, false, false, false] rfl rfl (by kernel_rfl) (fun _ _ _ h => h) (Or.inl ⟨by rfl, ?_⟩) ?_ ?_
  rotate_left
  · intro w'
    go_simp
    with_reducible rfl
  rotate_left
  · simp only [Act.put, List.setIfInBounds_toArray, List.set_cons_zero, List.set_cons_succ, i64_w, i32_w]
    rfl
  refine take_ (i := 4) (N := some 20) (v := .agg (dg d).toArray) (a' := ?_) #[true, false, true, false, true, false, false, false] rfl rfl (by kernel_rfl) (fun _ _ _ h => h) (yieldsIf_load_mid (by rfl) 22 (.tmp 5) rfl g5 0 (by rfl) (dg d) _ (fun w h => isD.whole (DSt.dd h)) Tryd.underlying22 rfl (by rw [dg_len HDL.out]; kernel_rfl)) hHeld ?_ ?_
  rotate_left
  · simp only [Act.put, List.setIfInBounds_toArray, List.set_cons_zero, List.set_cons_succ, i64_w, i32_w]
    rfl
  refine join_ 1 #[true, true, true, true, true, true, true, false] (fun g : Nat => [(17, Value.int .i64 n5), (19, Value.int .i64 n2), (21, Value.agg (ac a).toArray), (7, Value.pointer (some ⟨g, 0, none⟩))]) (fun g w' => DSt w w.heap.size g5 d w' ∧ isA w' g zA ∧ w.heap.size < g ∧ g5 < g) ?cont ?_
  rotate_left
  intro HJ
  have HJJ := Lib.hid HJ
  clear HJ
  refine two_ (i := 1) (j := 6) (Ni := some 17) (Nj := some 7) #[true, true, true, false, true, false, false, false] #[true, false, true, false, true, false, true, false] rfl rfl rfl rfl (by kernel_rfl) (by decide) (by decide) (fun K hK => ?_) (fun K hK => ?_)
  · refine goes_ Tryd.func50 (by kernel_rfl) rfl #[.slice A L.length cap, .int .i64 5] (by rfl) rfl rfl (by first | rfl | (simp only [List.map_toArray, List.map_cons, List.map_nil]; done) | (simp only [List.map_toArray, List.map_cons, List.map_nil]; rfl)) ?_
    (with_reducible refine (HN5.out _ (Kd.C_below HC0.out (DSt.bb hHeld))).mono ?_)
    rintro e w5 ⟨rfl, hb⟩
    refine ⟨_, rfl, ?_⟩
    have hq := DSt.below hHeld hb
    clear hb hHeld
    refine hK.out _ _ hq (fun hHeld => ?_)
    clear hK K hq
    refine norm_ (a' := ?_) ?_ ?_
    rotate_left
    · show Act.put _ (some 17) _ = _
      simp only [Act.put, List.setIfInBounds_toArray, List.set_cons_zero, List.set_cons_succ, i64_w, i32_w]
      rfl
    refine two_ (i := 3) (j := 6) (Ni := some 19) (Nj := some 7) #[true, true, true, true, true, false, false, false] #[true, true, true, false, true, false, true, false] rfl rfl rfl rfl (by kernel_rfl) (by decide) (by decide) (fun K hK => ?_) (fun K hK => ?_)
    · refine goes_ Tryd.func50 (by kernel_rfl) rfl #[.slice A L.length cap, .int .i64 2] (by rfl) rfl rfl (by first | rfl | (simp only [List.map_toArray, List.map_cons, List.map_nil]; done) | (simp only [List.map_toArray, List.map_cons, List.map_nil]; rfl)) ?_
      (with_reducible refine (HN2.out _ (Kd.C_below HC0.out (DSt.bb hHeld))).mono ?_)
      rintro e w5 ⟨rfl, hb⟩
      refine ⟨_, rfl, ?_⟩
      have hq := DSt.below hHeld hb
      clear hb hHeld
      refine hK.out _ _ hq (fun hHeld => ?_)
      clear hK K hq
      refine norm_ (a' := ?_) ?_ ?_
      rotate_left
      · show Act.put _ (some 19) _ = _
        simp only [Act.put, List.setIfInBounds_toArray, List.set_cons_zero, List.set_cons_succ, i64_w, i32_w]
        rfl
      refine pure_ (i := 5) (N := some 21) (v := .agg (ac a).toArray) (a' := ?_) #[true, true, true, true, true, true, false, false] rfl rfl (by kernel_rfl) (fun _ _ _ h => h) (Or.inl ⟨by rfl, ?_⟩) ?_ ?_
      · intro W
        exact exec_build 26 _ _ rfl (by simp only [List.map_toArray, List.map_cons, List.map_nil]; rfl) (HB26.out W)
      rotate_left
      · simp only [Act.put, List.setIfInBounds_toArray, List.set_cons_zero, List.set_cons_succ, i64_w, i32_w]
        rfl
      refine one_ (i := 6) (N := some 7) #[true, true, true, true, true, true, true, false] rfl rfl (by kernel_rfl) (by decide) (fun K hK => ?_)
      refine value_ (by rfl) rfl (exec_alloc 26 rfl (alloc26_run _)) ?_
      have hq := DSt.below hHeld (below_alloc (Below.refl _ _) (.cells (ac zA).toArray 26))
      refine hK.out _ _ hq (fun hHeld2 => ?_)
      clear hK K hq
      have HG := Lib.hid (show isA (w5.alloc (.cells (ac zA).toArray 26)) w5.heap.size zA from heap_alloc_new _ _)
      have hlt1 := lt_of_block (DSt.aa hHeld)
      have hlt2 := lt_of_block (DSt.dd hHeld)
      clear hHeld
      have hHeld := hHeld2
      clear hHeld2
      refine norm_ (a' := ?_) ?_ ?_
      rotate_left
      · show Act.put _ (some 7) _ = _
        simp only [Act.put, List.setIfInBounds_toArray, List.set_cons_zero, List.set_cons_succ, i64_w, i32_w]
        rfl
      exact HJJ.out _ _ ⟨hHeld, HG.out, hlt1, hlt2⟩
    · refine value_ (by rfl) rfl (exec_alloc 26 rfl (alloc26_run _)) ?_
      have hq := DSt.below hHeld (below_alloc (Below.refl _ _) (.cells (ac zA).toArray 26))
      refine hK.out _ _ hq (fun hHeld2 => ?_)
      clear hK K hq
      have HG := Lib.hid (show isA (w5.alloc (.cells (ac zA).toArray 26)) w5.heap.size zA from heap_alloc_new _ _)
      have hlt1 := lt_of_block (DSt.aa hHeld)
      have hlt2 := lt_of_block (DSt.dd hHeld)
      clear hHeld
      have hHeld := hHeld2
      clear hHeld2
      refine norm_ (a' := ?_) ?_ ?_
      rotate_left
      · show Act.put _ (some 7) _ = _
        simp only [Act.put, List.setIfInBounds_toArray, List.set_cons_zero, List.set_cons_succ, i64_w, i32_w]
        rfl
      refine one_ (i := 3) (N := some 19) #[true, true, true, true, true, false, true, false] rfl rfl (by kernel_rfl) (by decide) (fun K hK => ?_)
      refine goes_ Tryd.func50 (by kernel_rfl) rfl #[.slice A L.length cap, .int .i64 2] (by rfl) rfl rfl (by first | rfl | (simp only [List.map_toArray, List.map_cons, List.map_nil]; done) | (simp only [List.map_toArray, List.map_cons, List.map_nil]; rfl)) ?_
      (with_reducible refine (HN2.out _ (Kd.C_below HC0.out (DSt.bb hHeld))).mono ?_)
      rintro e w5 ⟨rfl, hb⟩
      refine ⟨_, rfl, ?_⟩
      have hq := DSt.below hHeld hb
      have HG1 := Lib.hid (isA.below HG.out hb)
      clear HG
      have HG := HG1
      clear HG1
      clear hb hHeld
      refine hK.out _ _ hq (fun hHeld => ?_)
      clear hK K hq
      refine norm_ (a' := ?_) ?_ ?_
      rotate_left
      · show Act.put _ (some 19) _ = _
        simp only [Act.put, List.setIfInBounds_toArray, List.set_cons_zero, List.set_cons_succ, i64_w, i32_w]
        rfl
      refine pure_ (i := 5) (N := some 21) (v := .agg (ac a).toArray) (a' := ?_) #[true, true, true, true, true, true, true, false] rfl rfl (by kernel_rfl) (fun _ _ _ h => h) (Or.inl ⟨by rfl, ?_⟩) ?_ ?_
      · intro W
        exact exec_build 26 _ _ rfl (by simp only [List.map_toArray, List.map_cons, List.map_nil]; rfl) (HB26.out W)
      rotate_left
      · simp only [Act.put, List.setIfInBounds_toArray, List.set_cons_zero, List.set_cons_succ, i64_w, i32_w]
        rfl
      exact HJJ.out _ _ ⟨hHeld, HG.out, hlt1, hlt2⟩
  · refine value_ (by rfl) rfl (exec_alloc 26 rfl (alloc26_run _)) ?_
    have hq := DSt.below hHeld (below_alloc (Below.refl _ _) (.cells (ac zA).toArray 26))
    refine hK.out _ _ hq (fun hHeld2 => ?_)
    clear hK K hq
    have HG := Lib.hid (show isA (w3.alloc (.cells (ac zA).toArray 26)) w3.heap.size zA from heap_alloc_new _ _)
    have hlt1 := lt_of_block (DSt.aa hHeld)
    have hlt2 := lt_of_block (DSt.dd hHeld)
    clear hHeld
    have hHeld := hHeld2
    clear hHeld2
    refine norm_ (a' := ?_) ?_ ?_
    rotate_left
    · show Act.put _ (some 7) _ = _
      simp only [Act.put, List.setIfInBounds_toArray, List.set_cons_zero, List.set_cons_succ, i64_w, i32_w]
      rfl
    refine one_ (i := 1) (N := some 17) #[true, true, true, false, true, false, true, false] rfl rfl (by kernel_rfl) (by decide) (fun K hK => ?_)
    refine goes_ Tryd.func50 (by kernel_rfl) rfl #[.slice A L.length cap, .int .i64 5] (by rfl) rfl rfl (by first | rfl | (simp only [List.map_toArray, List.map_cons, List.map_nil]; done) | (simp only [List.map_toArray, List.map_cons, List.map_nil]; rfl)) ?_
    (with_reducible refine (HN5.out _ (Kd.C_below HC0.out (DSt.bb hHeld))).mono ?_)
    rintro e w5 ⟨rfl, hb⟩
    refine ⟨_, rfl, ?_⟩
    have hq := DSt.below hHeld hb
    have HG1 := Lib.hid (isA.below HG.out hb)
    clear HG
    have HG := HG1
    clear HG1
    clear hb hHeld
    refine hK.out _ _ hq (fun hHeld => ?_)
    clear hK K hq
    refine norm_ (a' := ?_) ?_ ?_
    rotate_left
    · show Act.put _ (some 17) _ = _
      simp only [Act.put, List.setIfInBounds_toArray, List.set_cons_zero, List.set_cons_succ, i64_w, i32_w]
      rfl
    refine one_ (i := 3) (N := some 19) #[true, true, true, true, true, false, true, false] rfl rfl (by kernel_rfl) (by decide) (fun K hK => ?_)
    refine goes_ Tryd.func50 (by kernel_rfl) rfl #[.slice A L.length cap, .int .i64 2] (by rfl) rfl rfl (by first | rfl | (simp only [List.map_toArray, List.map_cons, List.map_nil]; done) | (simp only [List.map_toArray, List.map_cons, List.map_nil]; rfl)) ?_
    (with_reducible refine (HN2.out _ (Kd.C_below HC0.out (DSt.bb hHeld))).mono ?_)
    rintro e w5 ⟨rfl, hb⟩
    refine ⟨_, rfl, ?_⟩
    have hq := DSt.below hHeld hb
    have HG1 := Lib.hid (isA.below HG.out hb)
    clear HG
    have HG := HG1
    clear HG1
    clear hb hHeld
    refine hK.out _ _ hq (fun hHeld => ?_)
    clear hK K hq
    refine norm_ (a' := ?_) ?_ ?_
    rotate_left
    · show Act.put _ (some 19) _ = _
      simp only [Act.put, List.setIfInBounds_toArray, List.set_cons_zero, List.set_cons_succ, i64_w, i32_w]
      rfl
    refine pure_ (i := 5) (N := some 21) (v := .agg (ac a).toArray) (a' := ?_) #[true, true, true, true, true, true, true, false] rfl rfl (by kernel_rfl) (fun _ _ _ h => h) (Or.inl ⟨by rfl, ?_⟩) ?_ ?_
    · intro W
      exact exec_build 26 _ _ rfl (by simp only [List.map_toArray, List.map_cons, List.map_nil]; rfl) (HB26.out W)
    rotate_left
    · simp only [Act.put, List.setIfInBounds_toArray, List.set_cons_zero, List.set_cons_succ, i64_w, i32_w]
      rfl
    exact HJJ.out _ _ ⟨hHeld, HG.out, hlt1, hlt2⟩
  case cont =>
    rintro g w6 ⟨hHeld, HG, hlt1, hlt2⟩
    refine norm_ (a' := ?_) ?_ ?_
    rotate_left
    · simp only [putAll, Act.put, List.setIfInBounds_toArray, List.set_cons_zero, List.set_cons_succ]
      rfl
    refine last_ (i := 7) (N := none) #[true, true, true, true, true, true, true, true] rfl rfl (by kernel_rfl) (by decide) (fun K hK => ?_)
    refine skip_ (by rfl) rfl (exec_store 26 _ _ rfl rfl rfl (store26_run w6 g zA a rfl HAL.out HG)) ?_
    refine hK.out _ _ ?_
    clear hK K
    refine done_ (by kernel_rfl) ?_
    have HB6 := Lib.hid (below_setRow (DSt.bb hHeld) (Nat.le_of_lt hlt1) (ac a).toArray)
    have HG6 := Lib.hid (isA.setRow (a := a) HG)
    have HA6 := Lib.hid (isA.setRow_far (DSt.aa hHeld) (Nat.ne_of_lt hlt1) (ac a).toArray)
    clear hHeld HG
    generalize w6.setRow g (ac a).toArray = w7 at HB6 HG6 HA6 ⊢
    cases ok
    ·
      have hfin : decA L = (zA, 5) := by rw [HDEC.out]; exact if_neg (fun h => Bool.noConfusion h.1)
      go_upto_region 5 with (first | ((with_reducible refine gate_dst (N := 23) rfl ?_); (try (refine gate_guard (by rfl) ?_; dsimp only)); refine wpList_load_row rfl 26 (.tmp 7) rfl g (by rfl) 26 (ac a).toArray (0, 0) _ HG6.out Tryd.underlying26 rfl (by rw [List.size_toArray, ac_len HAL.out]; kernel_rfl) ?_) | (go_at_call 19; (with_reducible refine (HEA.out _).mono ?_); rintro e w8 ⟨v8, rfl, hr8, hb8⟩; have HA8 := Lib.hid (isA.below HA6.out hb8); have HG8 := Lib.hid (isA.below HG6.out hb8); have HB8 := Lib.hid (below_box HB6.out hb8); obtain ⟨A8, c8, eo8⟩ := Kd.R_slice hr8; subst eo8; have HR8 := Lib.hid (Kd.R_reads' hr8); clear hr8 hb8))
      go_upto_region 6 with (fail)
      have HA9 := Lib.hid (show isA w8 w.heap.size zA from HA8.out)
      have HG9 := Lib.hid (show isA w8 g a from HG8.out)
      have HB9 := Lib.hid (show Below w.heap.size w w8 from HB8.out)
      go_wp2_with (first | (refine wpList_store_row rfl 26 (.tmp 2) (.tmp 39) rfl w.heap.size (ac zA).toArray (by rfl) (congrArg Value.agg HE26.out.symm) 26 _ HA9.out (size26 rfl) rfl (ac_one zA) ?_))
      have HD := isA.setRow (a := zA) HA9.out
      have HF := below_setRow HB9.out (Nat.le_refl _) (ac zA).toArray
      refine bodyPost_ret (results_ct rfl _ _ w.heap.size 26 (ac zA).toArray (0, 0) _ rfl HD Tryd.underlying26 rfl (size26 rfl)) rfl ?_
      rw [hfin]
      exact ⟨rfl, HF⟩
    cases hk : archOk a
    ·
      have hfin : decA L = (zA, 5) := by rw [HDEC.out]; exact if_neg (fun h => by rw [hk] at h; exact Bool.noConfusion h.2.1)
      have he : archE a = ([], 2) := by rw [HEN.out, hk]; rfl
      rw [he] at HEA HSM
      go_upto_region 5 with (first | ((with_reducible refine gate_dst (N := 23) rfl ?_); (try (refine gate_guard (by rfl) ?_; dsimp only)); refine wpList_load_row rfl 26 (.tmp 7) rfl g (by rfl) 26 (ac a).toArray (0, 0) _ HG6.out Tryd.underlying26 rfl (by rw [List.size_toArray, ac_len HAL.out]; kernel_rfl) ?_) | (go_at_call 19; (with_reducible refine (HEA.out _).mono ?_); rintro e w8 ⟨v8, rfl, hr8, hb8⟩; have HA8 := Lib.hid (isA.below HA6.out hb8); have HG8 := Lib.hid (isA.below HG6.out hb8); have HB8 := Lib.hid (below_box HB6.out hb8); obtain ⟨A8, c8, eo8⟩ := Kd.R_slice hr8; subst eo8; have HR8 := Lib.hid (Kd.R_reads' hr8); clear hr8 hb8))
      go_upto_region 6 with (fail)
      have HA9 := Lib.hid (show isA w8 w.heap.size zA from HA8.out)
      have HG9 := Lib.hid (show isA w8 g a from HG8.out)
      have HB9 := Lib.hid (show Below w.heap.size w w8 from HB8.out)
      go_wp2_with (first | (refine wpList_store_row rfl 26 (.tmp 2) (.tmp 39) rfl w.heap.size (ac zA).toArray (by rfl) (congrArg Value.agg HE26.out.symm) 26 _ HA9.out (size26 rfl) rfl (ac_one zA) ?_))
      have HD := isA.setRow (a := zA) HA9.out
      have HF := below_setRow HB9.out (Nat.le_refl _) (ac zA).toArray
      refine bodyPost_ret (results_ct rfl _ _ w.heap.size 26 (ac zA).toArray (0, 0) _ rfl HD Tryd.underlying26 rfl (size26 rfl)) rfl ?_
      rw [hfin]
      exact ⟨rfl, HF⟩
    have he : archE a = (archRec a, 0) := by rw [HEN.out, hk]; rfl
    rw [he] at HEA HSM
    cases hs : decide (archRec a = L)
    ·
      have hfin : decA L = (zA, 5) := by rw [HDEC.out]; exact if_neg (fun h => by rw [decide_eq_false_iff_not] at hs; exact hs h.2.2)
      have HSM := Lib.hid (show inode_same.f 1001 (archRec a) L = some false from HSM.out.trans (congrArg some hs))
      clear hs hk he
      go_upto_region 5 with (first | ((with_reducible refine gate_dst (N := 23) rfl ?_); (try (refine gate_guard (by rfl) ?_; dsimp only)); refine wpList_load_row rfl 26 (.tmp 7) rfl g (by rfl) 26 (ac a).toArray (0, 0) _ HG6.out Tryd.underlying26 rfl (by rw [List.size_toArray, ac_len HAL.out]; kernel_rfl) ?_) | (go_at_call 19; (with_reducible refine (HEA.out _).mono ?_); rintro e w8 ⟨v8, rfl, hr8, hb8⟩; have HA8 := Lib.hid (isA.below HA6.out hb8); have HG8 := Lib.hid (isA.below HG6.out hb8); have HB8 := Lib.hid (below_box HB6.out hb8); obtain ⟨A8, c8, eo8⟩ := Kd.R_slice hr8; subst eo8; have HR8 := Lib.hid (Kd.R_reads' hr8); clear hr8 hb8))
      go_upto_region 6 with (first | (go_at_call 51; (with_reducible refine (inode_same.calls 1001 A8 c8 (archRec a) A cap L false _ HR8.out.2.2 HR8.out.2.1 (Kd.C_below HC0.out HB8.out) hcap HSM.out).mono ?_); rintro e w9 ⟨rfl, ⟨nd9, rfl⟩⟩))
      have HA9 := Lib.hid (show isA (w8.drewN nd9) w.heap.size zA from blk_drewN HA8.out _)
      have HG9 := Lib.hid (show isA (w8.drewN nd9) g a from blk_drewN HG8.out _)
      have HB9 := Lib.hid (show Below w.heap.size w (w8.drewN nd9) from pw_below_drewN HB8.out _)
      go_wp2_with (first | (refine wpList_store_row rfl 26 (.tmp 2) (.tmp 39) rfl w.heap.size (ac zA).toArray (by rfl) (congrArg Value.agg HE26.out.symm) 26 _ HA9.out (size26 rfl) rfl (ac_one zA) ?_))
      have HD := isA.setRow (a := zA) HA9.out
      have HF := below_setRow HB9.out (Nat.le_refl _) (ac zA).toArray
      refine bodyPost_ret (results_ct rfl _ _ w.heap.size 26 (ac zA).toArray (0, 0) _ rfl HD Tryd.underlying26 rfl (size26 rfl)) rfl ?_
      rw [hfin]
      exact ⟨rfl, HF⟩
    ·
      have hfin : decA L = (a, 0) := by rw [HDEC.out]; exact if_pos ⟨rfl, hk, of_decide_eq_true hs⟩
      have HSM := Lib.hid (show inode_same.f 1001 (archRec a) L = some true from HSM.out.trans (congrArg some hs))
      clear hs hk he
      go_upto_region 5 with (first | ((with_reducible refine gate_dst (N := 23) rfl ?_); (try (refine gate_guard (by rfl) ?_; dsimp only)); refine wpList_load_row rfl 26 (.tmp 7) rfl g (by rfl) 26 (ac a).toArray (0, 0) _ HG6.out Tryd.underlying26 rfl (by rw [List.size_toArray, ac_len HAL.out]; kernel_rfl) ?_) | (go_at_call 19; (with_reducible refine (HEA.out _).mono ?_); rintro e w8 ⟨v8, rfl, hr8, hb8⟩; have HA8 := Lib.hid (isA.below HA6.out hb8); have HG8 := Lib.hid (isA.below HG6.out hb8); have HB8 := Lib.hid (below_box HB6.out hb8); obtain ⟨A8, c8, eo8⟩ := Kd.R_slice hr8; subst eo8; have HR8 := Lib.hid (Kd.R_reads' hr8); clear hr8 hb8))
      go_upto_region 7 with (first | (go_at_call 51; (with_reducible refine (inode_same.calls 1001 A8 c8 (archRec a) A cap L true _ HR8.out.2.2 HR8.out.2.1 (Kd.C_below HC0.out HB8.out) hcap HSM.out).mono ?_); rintro e w9 ⟨rfl, ⟨nd9, rfl⟩⟩))
      have HA9 := Lib.hid (show isA (w8.drewN nd9) w.heap.size zA from blk_drewN HA8.out _)
      have HG9 := Lib.hid (show isA (w8.drewN nd9) g a from blk_drewN HG8.out _)
      have HB9 := Lib.hid (show Below w.heap.size w (w8.drewN nd9) from pw_below_drewN HB8.out _)
      go_wp2_with (first | ((with_reducible refine gate_dst (N := 40) rfl ?_); (try (refine gate_guard (by rfl) ?_; dsimp only)); refine wpList_load_row rfl 26 (.tmp 7) rfl g (by rfl) 26 (ac a).toArray (0, 0) _ HG9.out Tryd.underlying26 rfl (by rw [List.size_toArray, ac_len HAL.out]; kernel_rfl) ?_) | (refine wpList_store_row rfl 26 (.tmp 2) (.tmp 40) rfl w.heap.size (ac a).toArray (by rfl) (by rfl) 26 _ HA9.out (size26 HAL.out) (by rw [List.size_toArray, List.size_toArray, ac_len HAL.out]; rfl) (ac_one a) ?_))
      have HD := isA.setRow (a := a) HA9.out
      have HF := below_setRow HB9.out (Nat.le_refl _) (ac a).toArray
      refine bodyPost_ret (results_ct rfl _ _ w.heap.size 26 (ac a).toArray (0, 0) _ rfl HD Tryd.underlying26 rfl (size26 HAL.out)) rfl ?_
      rw [hfin]
      exact ⟨rfl, HF⟩
end Go.Proofs.YtbhioghpgedkeaaDoor.IN
namespace Go.Proofs.YtbhioghpgedkeaaDoor.IN
open Go.RowKit Go.Proofs.YtbhioghpgedkeaaDoor.MIt Go.Proofs.YtbhioghpgedkeaaDoor.MKf Go.Proofs.YtbhioghpgedkeaaDoorW.PrintWords Go.Proofs.YtbhioghpgedkeaaDoorW.PrintLast Go.Proofs.YtbhioghpgedkeaaDoorW.PrintMore

theorem wpList_exec_value {P : Program} {ops : Array Oper} {rest : List Oper} {o : Oper} {a : Act} {w w' : World} {Q : Exit → Act → World → Prop} {v : Value} (hgd : o.guard = none) (hr : (execOp a.eval o).run P w = .ok (.value v) w') (h : wpList P ops Q rest (a.put o.dst v) w') : wpList P ops Q (o :: rest) a w :=
  wpList_plain hgd fun K hK => by
    unfold Oper.wp
    rw [hr]
    exact hK _ _ h
end Go.Proofs.YtbhioghpgedkeaaDoor.IN
namespace Go.Proofs.YtbhioghpgedkeaaDoor.IN
open Go.RowKit Go.Proofs.YtbhioghpgedkeaaDoor.MIt Go.Proofs.YtbhioghpgedkeaaDoor.MKf Go.Proofs.YtbhioghpgedkeaaDoorW.PrintWords Go.Proofs.YtbhioghpgedkeaaDoorW.PrintLast Go.Proofs.YtbhioghpgedkeaaDoorW.PrintMore

theorem part_as (w : World) (a : AV) (h : a.s.length = 32) : (part 22 (ac a).toArray 2).run Tryd.prog w = .ok (.agg (dg a.s).toArray) w := by
  have hagg : (isAgg 22).run Tryd.prog w = .ok true w := by
    unfold isAgg
    rw [Sem.run_bind, run_underlying Tryd.underlying22 w]
    rfl
  obtain ⟨i22, h22⟩ : ∃ i22, Tryd.prog.info? 22 = some i22 := Option.isSome_iff_exists.1 (by kernel_rfl)
  have hsz : (sizeOf 22).run Tryd.prog w = .ok 32 w := by
    rw [run_sizeOf w h22]
    rw [show Tryd.prog.cellsOf 22 = 32 by kernel_rfl]
  have e : (ac a).toArray.extract 2 (2 + 32) = (dg a.s).toArray := by
    rw [List.extract_toArray, List.extract_eq_take_drop]
    refine congrArg List.toArray ?_
    show List.take 32 (dg a.s) = dg a.s
    exact List.take_of_length_le (by rw [dg_len h]; exact Nat.le_refl _)
  unfold part
  rw [Sem.run_bind, hagg, Result.andThen_ok]
  rw [if_pos rfl, Sem.run_bind, hsz, Result.andThen_ok, Sem.run_pure, e]
theorem eq26 (d : Nat) (w : World) {a b : AV} (ha : a.s.length = 32) (hb : b.s.length = 32) :
    (Op.equalIn (d + 3) 26 (.agg (ac a).toArray) (.agg (ac b).toArray)).run Tryd.prog w = .ok (decide (a = b)) w := by
  have e : decide (a = b) = (a.v == b.v && (a.sz == b.sz && decide (a.s = b.s))) := by
    rw [Bool.eq_iff_iff]
    cases a; cases b
    simp
  rw [e]
  refine eqA_of Tryd.underlying26 (by kernel_rfl) ?_
  refine eqf_cons (by rfl) (part_i w _ 0 _ rfl) (part_i w _ 0 _ rfl) (run_equalIn_int (P := Tryd.prog) w _ 3 .i64 .i64 _ _ Tryd.underlying3) ?_
  refine eqf_cons (by rfl) (part_i w _ 1 _ rfl) (part_i w _ 1 _ rfl) (run_equalIn_int (P := Tryd.prog) w _ 3 .i64 .i64 _ _ Tryd.underlying3) ?_
  exact eqf_last (by rfl) (part_as w a ha) (part_as w b hb) (eq22 d w ha hb)
end Go.Proofs.YtbhioghpgedkeaaDoor.IN
