/- The law InodeBack's walk. -/
import Derived.Laws.Bits128
import Derived.Laws.BitsLemmas
import Derived.Laws.BitsAllLaws
import Derived.Test.YtbhioghpgedkeaaDoorRecE
import Derived.Deep.LoopGhost
import Derived.Test.YtbhioghpgedkeaaDoorRecP
import Derived.Test.YtbhioghpgedkeaaDoorKeysP
set_option linter.unusedSimpArgs false
set_option linter.unusedVariables false
namespace Go.Proofs.YtbhioghpgedkeaaDoor.IN
open Go.RowKit Go.Proofs.YtbhioghpgedkeaaDoor.MIt Go.Proofs.YtbhioghpgedkeaaDoor.MKf Go.Proofs.YtbhioghpgedkeaaDoorW.PrintWords Go.Proofs.YtbhioghpgedkeaaDoorW.PrintLast Go.Proofs.YtbhioghpgedkeaaDoorW.PrintMore

/-- A number's bytes: seven bits each, the low ones first. -/
def numB (n : Nat) : List Int := if h : 127 < n then ((n : Int) % 128 + 128) :: numB (n / 128) else [(n : Int)]
termination_by n
decreasing_by omega
theorem numB_big {n : Nat} (h : 127 < n) : numB n = ((n : Int) % 128 + 128) :: numB (n / 128) := by rw [numB, dif_pos h]
theorem numB_small {n : Nat} (h : ¬ 127 < n) : numB n = [(n : Int)] := by rw [numB, dif_neg h]
theorem numB_len (k n : Nat) (h : n < 128 ^ k) (hk : 0 < k) : (numB n).length ≤ k := by
  induction k generalizing n with
  | zero => omega
  | succ k ih =>
    by_cases hn : 127 < n
    · rw [numB_big hn, List.length_cons]
      have h2 : n / 128 < 128 ^ k := by
        rw [Nat.pow_succ] at h
        exact Nat.div_lt_of_lt_mul (by omega)
      have hk0 : 0 < k := by
        rcases Nat.eq_zero_or_pos k with rfl | h0
        · simp at h; omega
        · exact h0
      have := ih _ h2 hk0
      omega
    · rw [numB_small hn]; simp
/-- Blocks of other types than a byte's stay. -/
def Keep5 (w w' : World) : Prop := w.heap.size ≤ w'.heap.size ∧ ∀ (k : Nat) (c : Array Value) (t : TypeId), t ≠ 5 → w.heap[k]? = some (.cells c t (0, 0)) → w'.heap[k]? = some (.cells c t (0, 0))
theorem Keep5.refl (w : World) : Keep5 w w := ⟨Nat.le_refl _, fun _ _ _ _ h => h⟩
theorem Keep5.trans {w w' w'' : World} (h : Keep5 w w') (h' : Keep5 w' w'') : Keep5 w w'' := ⟨Nat.le_trans h.1 h'.1, fun k c t ht hh => h'.2 k c t ht (h.2 k c t ht hh)⟩
/-- Bytes of the call's own (from base on). -/
structure ByR (w : World) (base : Nat) (v : Value) (xs : List Int) : Prop where
  o : w.ownsRow base 5 1 v xs.length (nums .u8 xs)
theorem ByR.keep {w w1 : World} {base : Nat} {v : Value} {xs : List Int} (h : ByR w base v xs) (hg : w.grownBy w1 v.ownBlock) : Keep5 w w1 := by
  refine ⟨hg.size, fun k c t ht hh => (hg.block k (lt_of_block hh) (fun e => ?_)).trans hh⟩
  obtain ⟨c', fr', h'⟩ := own_ty h.o e.symm
  rw [hh] at h'
  injection h' with h'
  injection h' with _ h'
  exact ht h'
theorem ByR.slice {w : World} {base : Nat} {v : Value} {xs : List Int} (h : ByR w base v xs) : ∃ A c, v = .slice A xs.length c := by
  rcases h.o.2 with ⟨rfl, h0⟩ | ⟨g, cap, cur, rfl, _⟩
  · exact ⟨none, 0, by rw [h0]⟩
  · exact ⟨_, _, rfl⟩
theorem info5 : (Tryd.prog.info? 5).map (fun i => (i.zero, i.size, i.bytes)) = some (some (.int .u8 0), 1, 1) := by kernel_rfl
theorem u8_127 (n : Nat) : bits .or .u8 ((n : Int) % 256) 128 = (n : Int) % 128 + 128 := by
  have h : ∀ a : Fin 256, a.val ||| 128 = a.val % 128 + 128 := by decide +kernel
  have h1 := h ⟨n % 256, by omega⟩
  simp only at h1
  rw [show ((n : Int) % 256) = ((n % 256 : Nat) : Int) by omega, show (128 : Int) = ((128 : Nat) : Int) by rfl, u8_or_nat _ _ (by omega) (by omega), h1]
  omega
set_option maxHeartbeats 4000000 in
set_option maxRecDepth 100000 in
theorem bnum_call (base : Nat) (v : Value) (xs : List Int) (n : Nat) (hn : n < 1099511627777) (w0 w : World) (hR : ByR w base v xs) (hB : Below base w0 w) (hbase : base ≤ w.heap.size) (hl : xs.length ≤ 10000) :
    Calls Tryd.prog 68 #[v, .int .i64 (n : Int)] w fun e w' => ∃ v', e = .returned v' ∧ ByR w' base v' (xs ++ numB n) ∧ Below base w0 w' ∧ base ≤ w'.heap.size ∧ Keep5 w w' := by
  obtain ⟨A, c, rfl⟩ := hR.slice
  have HR := Lib.hid hR
  have HB := Lib.hid hB
  have HLN := Lib.hid (numB_len 6 n (by omega) (by omega))
  clear hR hB
  go_enter Tryd.func68, Tryd.ntmps68
  go_wp2
  go_loopw [0, 1] (fun u i wr => ∃ (m : Nat) (ys : List Int) (A : Option Addr) (c : Nat), u = .slice A ys.length c ∧ i = .int .i64 (m : Int) ∧ m ≤ n ∧ Hid (ByR wr base u ys) ∧ Hid (Below base w0 wr) ∧ base ≤ wr.heap.size ∧ Hid (Keep5 w wr) ∧ Hid (xs ++ numB n = ys ++ numB m))
    (fun _ i _ => (intOf i).toNat)
  case atStart => exact ⟨n, xs, A, c, rfl, rfl, Nat.le_refl _, HR, HB, hbase, Lib.hid (Keep5.refl _), Lib.hid rfl⟩
  case round =>
    clear HR HB hbase
    obtain ⟨m, ys, A, c, rfl, rfl, hm, HR, HB, hbase, HK, HE⟩ := hrel
    have hlen : ys.length ≤ 10010 := by
      have h1 := congrArg List.length HE.out
      have := HLN.out
      simp only [List.length_append] at h1
      omega
    by_cases hg : 127 < m
    · have c1 : decide ((m : Int) > 127) = true := by simp; omega
      have c2 := u8_127 m
      go_wp2_with (first | ((with_reducible refine gate_builtin (b := .append) (xs := #[.tmp 9, .tmp 13]) rfl ?_); at_builtin; refine print_append_num (w0 := w0) base rfl (.tmp 9) (.tmp 13) 79 5 .u8 1 rfl Tryd.underlying79 info5 (by decide) _ ys ((m : Int) % 128 + 128) rfl rfl HR.out.o HB.out hbase (by omega) ?_; intro v1 w1 ho_ hb_ hg_ ht_; have HR1 := Lib.hid (ByR.mk ho_); have HB1 := Lib.hid hb_; have HK1 := Lib.hid (HR.out.keep hg_); clear ho_ hb_ hg_ ht_; obtain ⟨A1, c1', eo⟩ := HR1.out.slice; subst eo))
      go_roundw
      case rel =>
        refine ⟨m / 128, ys ++ [(m : Int) % 128 + 128], A1, c1', by rw [List.length_append]; rfl, by rw [Int.natCast_ediv]; rfl, by omega, Lib.hid ?_, HB1, Nat.le_trans hbase (HK1.out).1, Lib.hid (HK.out.trans HK1.out), Lib.hid ?_⟩
        · have := HR1.out
          rwa [List.length_append] at this
        · rw [HE.out, numB_big hg, List.append_assoc]
          rfl
      case measure =>
        show ((m : Int) / 128).toNat < ((m : Int)).toNat
        omega
    · have c1 : decide ((m : Int) > 127) = false := by simp; omega
      have c2 : (m : Int) % 256 = m := by omega
      go_wp2_with (first | ((with_reducible refine gate_builtin (b := .append) (xs := #[.tmp 15, .tmp 18]) rfl ?_); at_builtin; refine print_append_num (w0 := w0) base rfl (.tmp 15) (.tmp 18) 79 5 .u8 1 rfl Tryd.underlying79 info5 (by decide) _ ys ((m : Int)) rfl rfl HR.out.o HB.out hbase (by omega) ?_; intro v1 w1 ho_ hb_ hg_ ht_; have HR1 := Lib.hid (ByR.mk ho_); have HB1 := Lib.hid hb_; have HK1 := Lib.hid (HR.out.keep hg_); clear ho_ hb_ hg_ ht_; obtain ⟨A1, c1', eo⟩ := HR1.out.slice; subst eo))
      go_ret
      refine ⟨_, rfl, ?_, HB1.out, Nat.le_trans hbase (HK1.out).1, HK.out.trans HK1.out⟩
      rw [HE.out, numB_small hg]
      have := HR1.out
      rwa [List.length_append] at this
end Go.Proofs.YtbhioghpgedkeaaDoor.IN
namespace Go.Proofs.YtbhioghpgedkeaaDoor.IN
open Go.RowKit Go.Proofs.YtbhioghpgedkeaaDoor.MIt Go.Proofs.YtbhioghpgedkeaaDoor.MKf Go.Proofs.YtbhioghpgedkeaaDoorW.PrintWords Go.Proofs.YtbhioghpgedkeaaDoorW.PrintLast Go.Proofs.YtbhioghpgedkeaaDoorW.PrintMore

/-- The bytes that are still to be read lie in the variable g. -/
def isRest (w : World) (g : Nat) (xs : List Int) : Prop := w.heap[g]? = some (.cells #[.string (strOfNums xs)] 105 (0, 0))
theorem sn_toList (xs : List Int) : (strOfNums xs).toList = xs.map fun n => UInt8.ofNat n.toNat := by
  rw [ByteArray.toList_eq]
  rfl
theorem sn_extract (xs : List Int) (a b : Nat) : (strOfNums xs).extract a b = strOfNums ((xs.take b).drop a) := by
  apply ByteArray.ext
  apply Array.ext'
  rw [ByteArray.data_extract, Array.toList_extract]
  simp [strOfNums, List.extract_eq_take_drop, List.drop_take, List.map_take, List.map_drop]
theorem sn_drop (xs ys : List Int) : (strOfNums (xs ++ ys)).extract xs.length (xs.length + ys.length) = strOfNums ys := by
  rw [sn_extract]
  congr 1
  rw [List.take_of_length_le (by simp), List.drop_left]
theorem sn_take (xs ys : List Int) : (strOfNums (xs ++ ys)).extract 0 xs.length = strOfNums xs := by
  rw [sn_extract]
  congr 1
  simp
theorem sn_get (c : Int) (xs : List Int) (h0 : 0 ≤ c) (h1 : c < 256) (h : 0 < (strOfNums (c :: xs)).size) : (((strOfNums (c :: xs))[0]'h).toNat : Int) = c := by
  show ((UInt8.ofNat c.toNat).toNat : Int) = c
  rw [UInt8.toNat_ofNat']
  omega
set_option maxHeartbeats 4000000 in
set_option maxRecDepth 100000 in
theorem rbyte_call (g : Nat) (c : Int) (xs : List Int) (h0 : 0 ≤ c) (h1 : c < 256) (hl : xs.length ≤ 1000000) (w : World) (h : isRest w g (c :: xs)) :
    Calls Tryd.prog 87 #[.pointer (some ⟨g, 0, none⟩)] w fun e w' => e = .returned (.tuple #[.int .u8 c, .bool true]) ∧ w' = w.setCell ⟨g, 0, none⟩ (.string (strOfNums xs)) := by
  have x0 := (blk_cell h 0).trans rfl
  have f0 := blk_frozen h 0
  have hz : (strOfNums (c :: xs)).size = xs.length + 1 := strOfNums_size _
  have hg := fun h => sn_get c xs h0 h1 h
  have he := sn_drop [c] xs
  have ce : (strOfNums (c :: xs)).toList.isEmpty = false := by rw [sn_toList]; rfl
  simp only [List.cons_append, List.nil_append, List.length_cons, List.length_nil] at he
  rw [show 0 + 1 + xs.length = xs.length + 1 by omega, show 0 + 1 = 1 from rfl] at he
  have HE := Lib.hid he
  have HG := Lib.hid hg
  clear he hg h
  revert x0 hz HE HG ce
  generalize strOfNums (c :: xs) = s
  intro x0 hz ce HE HG
  go_enter Tryd.func87, Tryd.ntmps87
  go_wp2
  go_ret2
  exact ⟨congrArg (fun x => Ending.returned (.tuple #[.int .u8 x, .bool true])) (HG.out (by omega)), congrArg (fun x => w.setCell ⟨g, 0, none⟩ (.string x)) HE.out⟩
set_option maxHeartbeats 4000000 in
set_option maxRecDepth 100000 in
theorem rtext_call (g : Nat) (n : Nat) (xs ys : List Int) (hn : xs.length = n) (hn2 : n ≤ 4096) (hl : ys.length ≤ 1000000) (w : World) (h : isRest w g (xs ++ ys)) :
    Calls Tryd.prog 89 #[.pointer (some ⟨g, 0, none⟩), .int .i64 (n : Int)] w fun e w' => e = .returned (.tuple #[.string (strOfNums xs), .bool true]) ∧ w' = w.setCell ⟨g, 0, none⟩ (.string (strOfNums ys)) := by
  have x0 := (blk_cell h 0).trans rfl
  have f0 := blk_frozen h 0
  have hz : (strOfNums (xs ++ ys)).size = n + ys.length := by rw [strOfNums_size, List.length_append, hn]
  have he := sn_drop xs ys
  have ht := sn_take xs ys
  rw [hn] at he ht
  have HE := Lib.hid he
  have HT := Lib.hid ht
  clear he ht h
  revert x0 hz HE HT
  generalize strOfNums (xs ++ ys) = s
  intro x0 hz HE HT
  have c1 : decide ((n : Int) > ((n + ys.length : Nat) : Int)) = false := by simp; omega
  have c2 : decide ((n : Int) > 4096) = false := by simp; omega
  go_enter Tryd.func89, Tryd.ntmps89
  go_wp2
  go_ret2
  exact ⟨congrArg (fun x => Ending.returned (.tuple #[.string x, .bool true])) HT.out, congrArg (fun x => w.setCell ⟨g, 0, none⟩ (.string x)) HE.out⟩
/-- Behind a part of the reading: the rest lies in g; all else is as it was. -/
structure Rd (g : Nat) (w w' : World) (xs : List Int) : Prop where
  r : isRest w' g xs
  z : w'.heap.size = w.heap.size
  k : ∀ k, k ≠ g → w'.heap[k]? = w.heap[k]?
  b : ∀ (base : Nat) (w0 : World), base ≤ g → Below base w0 w → Below base w0 w'
theorem Rd.refl {g : Nat} {w : World} {xs : List Int} (h : isRest w g xs) : Rd g w w xs := ⟨h, rfl, fun _ _ => rfl, fun _ _ _ h => h⟩
theorem Rd.put {g : Nat} {w w' : World} {xs ys : List Int} (h : Rd g w w' xs) : Rd g w (w'.setCell ⟨g, 0, none⟩ (.string (strOfNums ys))) ys :=
  ⟨blk_put h.r 0 _ rfl, (World.size_setCell _ _ _).trans h.z, fun k hk => (Below.heap_setCell _ _ _ _ hk).trans (h.k k hk), fun base w0 hb hw => (h.b base w0 hb hw).setCell (p := ⟨g, 0, none⟩) hb _⟩
theorem wrap_nat (n : Nat) (h : n ≤ 9223372036854775807) : wrap64 (n : Int) = n := by unfold wrap64; omega
theorem and127 (m : Nat) (h : m < 256) : bits .and .u8 (m : Int) 127 = ((m % 128 : Nat) : Int) := by
  have h0 : ∀ a : Fin 256, a.val &&& 127 = a.val % 128 := by decide +kernel
  have h1 := h0 ⟨m, h⟩
  simp only at h1
  rw [show (127 : Int) = ((127 : Nat) : Int) from rfl, u8_and_nat _ _ h (by omega), h1]
theorem num_hi (m : Nat) : ∃ C : Int, (m : Int) % 128 + 128 = C ∧ 0 ≤ C ∧ C < 256 ∧ bits .and .u8 C 127 = ((m % 128 : Nat) : Int) ∧ decide (C < 128) = false := by
  have an := and127 (m % 128 + 128) (by omega)
  rw [show (m % 128 + 128) % 128 = m % 128 by omega] at an
  exact ⟨((m % 128 + 128 : Nat) : Int), by omega, by omega, by omega, an, by simp; omega⟩
theorem num_lo (m : Nat) (h : ¬ 127 < m) : 0 ≤ (m : Int) ∧ (m : Int) < 256 ∧ bits .and .u8 (m : Int) 127 = (m : Int) ∧ decide ((m : Int) < 128) = true := by
  have an := and127 m (by omega)
  rw [show m % 128 = m by omega] at an
  exact ⟨by omega, by omega, an, by simp; omega⟩
theorem five_hi (n m i : Nat) (hm : m = n / 2 ^ (7 * i)) (hn : n < 1099511627777) (hi : i ≤ 5) (h : 127 < m) : i + 1 ≤ 5 := by
  apply Classical.byContradiction
  intro h5
  obtain rfl : i = 5 := by omega
  have h1 : n / 2 ^ (7 * 5) ≤ 1099511627776 / 2 ^ (7 * 5) := Nat.div_le_div_right (by omega)
  rw [← hm] at h1
  have h3 : (1099511627776 : Nat) / 2 ^ (7 * 5) = 32 := by decide +kernel
  omega
theorem next_hi (n m i : Nat) (hm : m = n / 2 ^ (7 * i)) : m / 128 = n / 2 ^ (7 * (i + 1)) := by
  rw [hm, Nat.div_div_eq_div_mul, show 7 * (i + 1) = 7 * i + 7 by omega, Nat.pow_add]
theorem or_low (i a q : Nat) (ha : a < 2 ^ i) (hb : 2 ^ i * q + a < 2 ^ 63) : bits .or .i64 (a : Int) ((2 ^ i * q : Nat) : Int) = ((2 ^ i * q + a : Nat) : Int) := by
  rw [(bits_nat .i64 63 (by decide) (fun n h0 h1 => IntWalk.i64_in n (by omega)) a (2 ^ i * q) (by omega) (by omega)).2, Nat.or_comm, ← Nat.two_pow_add_eq_or_of_lt ha q]
theorem pow_split (n i : Nat) : n % 2 ^ (7 * (i + 1)) = 2 ^ (7 * i) * (n / 2 ^ (7 * i) % 128) + n % 2 ^ (7 * i) := by
  rw [show 7 * (i + 1) = 7 * i + 7 by omega, Nat.pow_add, Nat.mod_mul, Nat.add_comm]
theorem pow_le5 (i : Nat) (hi : i ≤ 5) : 2 ^ (7 * i) ≤ 34359738368 := Nat.le_trans (Nat.pow_le_pow_right (by decide) (show 7 * i ≤ 35 by omega)) (by decide)
/-- What a round adds. -/
theorem num_step (n i m c : Nat) (hi : i ≤ 5) (hm : m = n / 2 ^ (7 * i)) (hn : n < 1099511627777) (hc : c = m % 128) :
    ∃ P : Int, wrap64 ((c : Int) * 2 ^ (7 * i)) = P ∧ bits .or .i64 ((n % 2 ^ (7 * i) : Nat) : Int) P = ((n % 2 ^ (7 * (i + 1)) : Nat) : Int) := by
  have hp := pow_le5 i hi
  have h0 : 0 < 2 ^ (7 * i) := Nat.two_pow_pos _
  have hle : n % 2 ^ (7 * (i + 1)) ≤ n := Nat.mod_le _ _
  rw [pow_split, ← hm, ← hc] at hle ⊢
  refine ⟨((2 ^ (7 * i) * c : Nat) : Int), ?_, or_low _ _ _ (Nat.mod_lt _ h0) (by omega)⟩
  have e : (c : Int) * 2 ^ (7 * i) = ((2 ^ (7 * i) * c : Nat) : Int) := by rw [Int.natCast_mul, Int.natCast_pow, Int.mul_comm]; rfl
  rw [e]
  exact wrap_nat _ (by omega)
theorem last_lo (n m i : Nat) (hm : m = n / 2 ^ (7 * i)) (h : ¬ 127 < m) : n % 2 ^ (7 * (i + 1)) = n := by
  apply Nat.mod_eq_of_lt
  rw [show 7 * (i + 1) = 7 * i + 7 by omega, Nat.pow_add]
  have h0 : 0 < 2 ^ (7 * i) := Nat.two_pow_pos _
  have h2 : n / 2 ^ (7 * i) < 2 ^ 7 := by rw [← hm]; exact Nat.lt_of_not_le (fun h3 => h h3)
  have h3 := (Nat.div_lt_iff_lt_mul h0).1 h2
  rwa [Nat.mul_comm] at h3
set_option maxHeartbeats 4000000 in
set_option maxRecDepth 100000 in
theorem rnum_call (g : Nat) (n : Nat) (hn : n < 1099511627777) (xs : List Int) (hl : xs.length ≤ 900000) (w : World) (h : isRest w g (numB n ++ xs)) :
    Calls Tryd.prog 88 #[.pointer (some ⟨g, 0, none⟩)] w fun e w' => e = .returned (.tuple #[.int .i64 (n : Int), .bool true]) ∧ Rd g w w' xs := by
  have HR := Lib.hid (Rd.refl h)
  have HN := Lib.hid hn
  clear h hn
  go_enter Tryd.func88, Tryd.ntmps88
  go_wp2
  go_loopw [4, 5] (fun a s wr => ∃ (i m : Nat) (A : Int), a = .int .i64 A ∧ s = .int .i64 ((7 * i : Nat) : Int) ∧ i ≤ 5 ∧ Hid (A = ((n % 2 ^ (7 * i) : Nat) : Int)) ∧ Hid (m = n / 2 ^ (7 * i)) ∧ Hid (0 < i → 0 < m) ∧ Hid (Rd g w wr (numB m ++ xs)))
    (fun _ s _ => 63 - (intOf s).toNat)
  case atStart => exact ⟨0, n, 0, rfl, rfl, by omega, Lib.hid (by rw [Nat.mul_zero, Nat.pow_zero, Nat.mod_one]; rfl), Lib.hid (by simp), Lib.hid (by omega), HR⟩
  case round =>
    clear HR
    obtain ⟨i, m, A, rfl, rfl, hi, HA, HM, HM0, HR⟩ := hrel
    have hi7 : 7 * i ≤ 35 := by omega
    have hmn : m ≤ 1099511627776 := by have h1 := HM.out; have h2 := HN.out; have := Nat.div_le_self n (2 ^ (7 * i)); omega
    have hnl : (numB (m / 128)).length ≤ 6 := numB_len 6 _ (by have := Nat.div_le_self m 128; omega) (by omega)
    have HL := Lib.hid (show (numB (m / 128) ++ xs).length ≤ 1000000 by rw [List.length_append]; omega)
    obtain ⟨c, Hc⟩ : ∃ c, c = m % 128 := ⟨_, rfl⟩
    obtain ⟨P, hP, hO⟩ := num_step n i m c hi HM.out HN.out Hc
    rw [← HA.out] at hO
    have w1 : wrap64 (c : Int) = c := wrap_nat c (by rw [Hc]; exact Nat.le_trans (Nat.le_of_lt (Nat.mod_lt _ (by decide))) (by decide))
    by_cases hg : 127 < m
    · rw [numB_big hg] at HR
      have HI := Lib.hid (five_hi n m i HM.out HN.out hi hg)
      obtain ⟨C, hC, hb1, hb0, an, lt⟩ := num_hi m
      rw [hC] at HR
      rw [← Hc] at an
      have HB1 := Lib.hid hb1
      have HB0 := Lib.hid hb0
      have HG := Lib.hid hg
      clear Hc hg hb1 hb0 hC
      go_upto_region 6 with (first | (go_at_call 87; (with_reducible refine (rbyte_call g C (numB (m / 128) ++ xs) HB1.out HB0.out HL.out _ (HR.out.r)).mono ?_); rintro e w2 ⟨rfl, rfl⟩; have HR2 := Lib.hid (HR.out.put (ys := numB (m / 128) ++ xs))))
      clear HR
      generalize wr.setCell ⟨g, 0, none⟩ (.string (strOfNums (numB (m / 128) ++ xs))) = w2 at HR2 ⊢
      go_wp2
      go_roundw
      case rel => exact ⟨i + 1, m / 128, ((n % 2 ^ (7 * (i + 1)) : Nat) : Int), by (first | rfl | simp), by (first | rfl | simp), HI.out, Lib.hid rfl, Lib.hid (next_hi n m i HM.out), Lib.hid (fun _ => Nat.div_pos HG.out (by decide)), HR2⟩
      case measure =>
        show 63 - (7 * (i : Int) + 7).toNat < 63 - ((7 * i : Nat) : Int).toNat
        omega
    · rw [numB_small hg] at HR
      obtain ⟨hb1, hb0, an, lt⟩ := num_lo m hg
      have hcm : c = m := Hc.trans (Nat.mod_eq_of_lt (Nat.lt_of_not_le (fun h3 => hg (Nat.lt_of_succ_le h3))))
      subst hcm
      have HB1 := Lib.hid hb1
      have HB0 := Lib.hid hb0
      have HG := Lib.hid hg
      have HF := Lib.hid (last_lo n c i HM.out HG.out)
      rw [HF.out] at hO
      clear Hc hg hb1 hb0
      go_upto_region 6 with (first | (go_at_call 87; (with_reducible refine (rbyte_call g (c : Int) xs HB1.out HB0.out (Nat.le_trans hl (by decide)) _ (HR.out.r)).mono ?_); rintro e w2 ⟨rfl, rfl⟩; have HR2 := Lib.hid (HR.out.put (ys := xs))))
      clear HR
      generalize wr.setCell ⟨g, 0, none⟩ (.string (strOfNums xs)) = w2 at HR2 ⊢
      have n1 : decide ((n : Int) ≥ 0) = true := by simp
      have n2 : decide ((n : Int) ≤ 4611686018427387904) = true := by have := HN.out; simp; omega
      by_cases h0 : c = 0
      · have hi0 : i = 0 := Nat.eq_zero_of_not_pos (fun h => Nat.lt_irrefl _ (h0 ▸ HM0.out h))
        subst hi0
        subst h0
        have hn0 : n = 0 := by have := HM.out; rw [Nat.mul_zero, Nat.pow_zero, Nat.div_one] at this; exact this.symm
        subst hn0
        have hA : A = 0 := HA.out
        subst hA
        have z1 : bits .and .u8 0 127 = 0 := by decide
        have z2 : bits .or .i64 0 0 = 0 := by decide
        clear hO hP an
        go_wp2
        go_ret2
        exact ⟨rfl, HR2.out⟩
      · have n3 : decide ((c : Int) > 0) = true := decide_eq_true (Int.natCast_pos.2 (Nat.pos_of_ne_zero h0))
        go_wp2
        go_ret2
        exact ⟨rfl, HR2.out⟩
end Go.Proofs.YtbhioghpgedkeaaDoor.IN
namespace Go.Proofs.YtbhioghpgedkeaaDoor.IN
open Go.RowKit Go.Proofs.YtbhioghpgedkeaaDoor.MIt Go.Proofs.YtbhioghpgedkeaaDoor.MKf Go.Proofs.YtbhioghpgedkeaaDoorW.PrintWords Go.Proofs.YtbhioghpgedkeaaDoorW.PrintLast Go.Proofs.YtbhioghpgedkeaaDoorW.PrintMore

/-- Behind a read field: what lay there before, but the rest, stays. -/
structure Rx (g : Nat) (w w' : World) (xs : List Int) : Prop where
  r : isRest w' g xs
  z : w.heap.size ≤ w'.heap.size
  k : ∀ k, k < w.heap.size → k ≠ g → w'.heap[k]? = w.heap[k]?
  b : ∀ (base : Nat) (w0 : World), base ≤ g → base ≤ w.heap.size → Below base w0 w → Below base w0 w'
theorem Rx.refl {g : Nat} {w : World} {xs : List Int} (h : isRest w g xs) : Rx g w w xs := ⟨h, Nat.le_refl _, fun _ _ _ => rfl, fun _ _ _ _ h => h⟩
theorem Rx.rd {g : Nat} {w w' w'' : World} {xs ys : List Int} (h : Rx g w w' xs) (hr : Rd g w' w'' ys) : Rx g w w'' ys :=
  ⟨hr.r, by rw [hr.z]; exact h.z, fun k hk hg => (hr.k k hg).trans (h.k k hk hg), fun base w0 hb hs hw => hr.b base w0 hb (h.b base w0 hb hs hw)⟩
theorem Rx.put {g : Nat} {w w' : World} {xs ys : List Int} (h : Rx g w w' xs) : Rx g w (w'.setCell ⟨g, 0, none⟩ (.string (strOfNums ys))) ys :=
  h.rd (Rd.refl h.r).put
theorem Rx.alloc {g : Nat} {w w' : World} {xs : List Int} (h : Rx g w w' xs) (o : Obj) : Rx g w (w'.alloc o) xs :=
  ⟨blk_alloc h.r o, Nat.le_trans h.z (by simp), fun k hk hg => (Below.heap_alloc w' o k (Nat.lt_of_lt_of_le hk h.z)).trans (h.k k hk hg), fun base w0 hb hs hw => (h.b base w0 hb hs hw).alloc (Nat.le_trans hs h.z) o⟩
theorem Rx.far {g : Nat} {w w' : World} {xs : List Int} (h : Rx g w w' xs) {k : Nat} (hk : w.heap.size ≤ k) (hg : k ≠ g) (j : Nat) (v : Value) : Rx g w (w'.setCell ⟨k, j, none⟩ v) xs :=
  ⟨(Below.heap_setCell _ _ _ _ (by show g ≠ k; omega)).trans h.r, by rw [World.size_setCell]; exact h.z, fun l hl hlg => (Below.heap_setCell _ _ _ _ (by show l ≠ k; omega)).trans (h.k l hl hlg), fun base w0 hb hs hw => (h.b base w0 hb hs hw).setCell (p := ⟨k, j, none⟩) (Nat.le_trans hs hk) v⟩
theorem bytes_str (y : ByteArray) : strOfNums (bytesOf y) = y := by
  apply ByteArray.ext
  apply Array.ext'
  rw [strOfNums_data]
  rw [bytesOf, List.map_map]
  exact (List.map_congr_left (fun b _ => by simp)).trans (List.map_id _)
/-- A field's bytes. -/
def fbI (x : S75) : List Int := (2 * x.f0 + x.f1) :: (if x.f1 = 0 then numB x.f2.toNat else numB x.f3.size ++ bytesOf x.f3)
structure okF (x : S75) : Prop where
  t0 : 1 ≤ x.f0
  t1 : x.f0 ≤ 63
  k : (x.f1 = 0 ∧ x.f3 = ⟨#[]⟩ ∧ 0 ≤ x.f2 ∧ x.f2 < 1099511627777) ∨ (x.f1 = 1 ∧ x.f2 = 0 ∧ x.f3.size ≤ 4096)
theorem tag_facts (t k : Int) (h0 : 1 ≤ t) (h1 : t ≤ 63) (hk : k = 0 ∨ k = 1) : ∃ C : Int, 2 * t + k = C ∧ 0 ≤ C ∧ C < 256 ∧ C / 2 = t ∧ bits .and .u8 C 1 = k ∧ wrap64 t = t ∧ wrap64 k = k ∧ decide (t < 1) = false ∧ decide (t > 63) = false := by
  refine ⟨_, rfl, by omega, by omega, by omega, ?_, by unfold wrap64; omega, by unfold wrap64; omega, by simp; omega, by simp; omega⟩
  obtain ⟨n, hn⟩ := Int.eq_ofNat_of_zero_le (show 0 ≤ 2 * t + k by omega)
  rw [hn, show (1 : Int) = ((1 : Nat) : Int) from rfl, u8_and_nat _ _ (by omega) (by omega), Nat.and_one_is_mod]
  omega
set_option maxHeartbeats 4000000 in
set_option maxRecDepth 100000 in
theorem rfield_call (g : Nat) (x : S75) (hx : okF x) (xs : List Int) (hl : xs.length ≤ 800000) (w : World) (h : isRest w g (fbI x ++ xs)) :
    Calls Tryd.prog 69 #[.pointer (some ⟨g, 0, none⟩)] w fun e w' => e = .returned (.tuple #[.agg (fc x).toArray, .bool true]) ∧ Rx g w w' xs := by
  obtain ⟨t, k, n, s⟩ := x
  obtain ⟨h0, h1, hk⟩ := hx
  simp only at h0 h1 hk
  have hgw := blk_lt h
  have HGW := Lib.hid hgw
  unfold fbI fc at *
  simp only at h ⊢
  obtain ⟨C, hC, hb1, hb0, dv, an, w1, w2, d1, d2⟩ := tag_facts t k h0 h1 (by rcases hk with ⟨e, _⟩ | ⟨e, _⟩ <;> simp [e])
  rw [hC] at h
  have HB1 := Lib.hid hb1
  have HB0 := Lib.hid hb0
  clear hC hb1 hb0 h0 h1
  have HR := Lib.hid ((Rx.refl h).alloc (.cells #[.int .i64 0, .int .i64 0, .int .i64 0, .string ⟨#[]⟩] 75))
  have HZ := Lib.hid (show (w.alloc (.cells #[.int .i64 0, .int .i64 0, .int .i64 0, .string ⟨#[]⟩] 75)).heap[w.heap.size]? = some (.cells #[.int .i64 0, .int .i64 0, .int .i64 0, .string ⟨#[]⟩] 75 (0, 0)) from heap_alloc_new _ _)
  clear h
  rcases hk with ⟨rfl, rfl, hn0, hn1⟩ | ⟨rfl, rfl, hs⟩
  · simp only [if_pos] at HR
    obtain ⟨m, rfl⟩ := Int.eq_ofNat_of_zero_le hn0
    have HM := Lib.hid (show m < 1099511627777 by omega)
    have HL1 := Lib.hid (show (numB m ++ xs).length ≤ 1000000 by rw [List.length_append]; have := numB_len 6 m (by omega) (by omega); omega)
    clear hn0 hn1
    go_enter Tryd.func69, Tryd.ntmps69
    go_upto_region 2 with (first | (go_at_call 87; (with_reducible refine (rbyte_call g C (numB m ++ xs) HB1.out HB0.out HL1.out _ (HR.out.r)).mono ?_); rintro e w2 ⟨rfl, e2⟩; have HR2 := Lib.hid (show Rx g w w2 (numB m ++ xs) from e2 ▸ HR.out.put); have HZ2 := Lib.hid (show w2.heap[w.heap.size]? = some (.cells #[.int .i64 0, .int .i64 0, .int .i64 0, .string ⟨#[]⟩] 75 (0, 0)) from e2 ▸ (Below.heap_setCell _ _ _ _ (by show w.heap.size ≠ g; have := HGW.out; omega)).trans HZ.out); clear e2))
    clear HR HZ
    go_upto_region 3 with fail
    have HR3 := Lib.hid (HR2.out.alloc (.cells #[.int .i64 t, .int .i64 0, .int .i64 0, .string ⟨#[]⟩] 75))
    have HZ3 := Lib.hid (blk_alloc HZ2.out (.cells #[.int .i64 t, .int .i64 0, .int .i64 0, .string ⟨#[]⟩] 75))
    have HF3 := Lib.hid (heap_alloc_new w2 (.cells #[.int .i64 t, .int .i64 0, .int .i64 0, .string ⟨#[]⟩] 75))
    have HG2 := Lib.hid (blk_lt HZ2.out)
    clear HR2 HZ2
    generalize w2.alloc (.cells #[.int .i64 t, .int .i64 0, .int .i64 0, .string ⟨#[]⟩] 75) = w3 at HR3 HZ3 HF3 ⊢
    generalize w2.heap.size = gf at HF3 HG2 ⊢
    have hne : gf ≠ g := by have := HGW.out; have := HG2.out; omega
    have hne2 : gf ≠ w.heap.size := by have := HG2.out; omega
    go_upto_region 5 with (first | (go_at_call 88; (with_reducible refine (rnum_call g m HM.out xs (by omega) _ HR3.out.r).mono ?_); rintro e w4 ⟨rfl, hrd⟩; have HR4 := Lib.hid (HR3.out.rd hrd); have HF4 := Lib.hid ((hrd.k gf hne).trans HF3.out); have HZ4 := Lib.hid ((hrd.k w.heap.size (by have := HGW.out; omega)).trans HZ3.out); clear hrd))
    clear HR3 HZ3 HF3
    have x0 := (blk_cell HF4.out 0).trans rfl
    have x1 := (blk_cell HF4.out 1).trans rfl
    have x2 := (blk_cell HF4.out 2).trans rfl
    have f2 := blk_frozen HF4.out 2
    go_upto_region 9 with fail
    have HR5 := Lib.hid (HR4.out.far (k := gf) (by have := HG2.out; omega) hne 2 (.int .i64 (m : Int)))
    have HF5 := Lib.hid (blk_put HF4.out 2 (.int .i64 (m : Int)) rfl)
    have HZ5 := Lib.hid ((Below.heap_setCell w4 ⟨gf, 2, none⟩ (.int .i64 (m : Int)) _ (fun e => hne2 e.symm)).trans HZ4.out)
    clear HR4 HF4 HZ4 x0 x1 x2 f2
    generalize w4.setCell ⟨gf, 2, none⟩ (.int .i64 (m : Int)) = w5 at HR5 HF5 HZ5 ⊢
    have x0 := (blk_cell HF5.out 0).trans rfl
    have x1 := (blk_cell HF5.out 1).trans rfl
    have x2 := (blk_cell HF5.out 2).trans rfl
    have x3 := (blk_cell HF5.out 3).trans rfl
    have HNE2 := Lib.hid hne2
    have HZL := Lib.hid (Nat.le_refl w.heap.size)
    obtain ⟨gz, egz⟩ : ∃ gz, gz = w.heap.size := ⟨_, rfl⟩
    rw [← egz] at HZ5 ⊢
    have HGZ := Lib.hid egz
    clear egz
    have y0 := (blk_cell HZ5.out 0).trans rfl
    have y1 := (blk_cell HZ5.out 1).trans rfl
    have y2 := (blk_cell HZ5.out 2).trans rfl
    have y3 := (blk_cell HZ5.out 3).trans rfl
    have z0 := blk_frozen HZ5.out 0
    have z1 := blk_frozen HZ5.out 1
    have z2 := blk_frozen HZ5.out 2
    have z3 := blk_frozen HZ5.out 3
    go_wp2
    have HZ6 := Lib.hid (blk_put (blk_put (blk_put (blk_put HZ5.out 0 (.int .i64 t) rfl) 1 (.int .i64 0) rfl) 2 (.int .i64 (m : Int)) rfl) 3 (.string ⟨#[]⟩) rfl)
    have hgz : w.heap.size ≤ gz := by rw [HGZ.out]; exact Nat.le_refl _
    have hgn : gz ≠ g := by have := HGW.out; omega
    have HR6 := Lib.hid ((((HR5.out.far hgz hgn 0 (.int .i64 t)).far hgz hgn 1 (.int .i64 0)).far hgz hgn 2 (.int .i64 (m : Int))).far hgz hgn 3 (.string ⟨#[]⟩))
    clear HR5 HZ5 HF5 y0 y1 y2 y3 x0 x1 x2 x3 z0 z1 z2 z3
    revert HZ6 HR6
    generalize (((w5.setCell ⟨gz, 0, none⟩ (.int .i64 t)).setCell ⟨gz, 1, none⟩ (.int .i64 0)).setCell ⟨gz, 2, none⟩ (.int .i64 (m : Int))).setCell ⟨gz, 3, none⟩ (.string ⟨#[]⟩) = w6
    intro HZ6 HR6
    have y0 := (blk_cell HZ6.out 0).trans rfl
    have y1 := (blk_cell HZ6.out 1).trans rfl
    have y2 := (blk_cell HZ6.out 2).trans rfl
    have y3 := (blk_cell HZ6.out 3).trans rfl
    refine bodyPost_ret (v := .tuple #[.agg #[.int .i64 t, .int .i64 0, .int .i64 (m : Int), .string ⟨#[]⟩], .bool true]) ?_ rfl ⟨rfl, HR6.out⟩
    simp [results, Tryd.f69, go_sem, y0, y1, y2, y3]
  · have HM := Lib.hid (show s.size < 1099511627777 by omega)
    have HSL := Lib.hid hs
    have hbl := bytesOf_length s
    have HBL := Lib.hid hbl
    have HBS := Lib.hid (bytes_str s)
    have HL0 := Lib.hid (show (bytesOf s ++ xs).length ≤ 900000 by rw [List.length_append]; omega)
    have HL1 := Lib.hid (show (numB s.size ++ (bytesOf s ++ xs)).length ≤ 1000000 by rw [List.length_append]; have := numB_len 6 s.size (by omega) (by omega); have := HL0.out; omega)
    rw [if_neg (by decide)] at HR
    rw [List.cons_append, List.append_assoc] at HR
    clear hs hbl
    go_enter Tryd.func69, Tryd.ntmps69
    go_upto_region 2 with (first | (go_at_call 87; (with_reducible refine (rbyte_call g C (numB s.size ++ (bytesOf s ++ xs)) HB1.out HB0.out HL1.out _ (HR.out.r)).mono ?_); rintro e w2 ⟨rfl, e2⟩; have HR2 := Lib.hid (show Rx g w w2 (numB s.size ++ (bytesOf s ++ xs)) from e2 ▸ HR.out.put); have HZ2 := Lib.hid (show w2.heap[w.heap.size]? = some (.cells #[.int .i64 0, .int .i64 0, .int .i64 0, .string ⟨#[]⟩] 75 (0, 0)) from e2 ▸ (Below.heap_setCell _ _ _ _ (by show w.heap.size ≠ g; have := HGW.out; omega)).trans HZ.out); clear e2))
    clear HR HZ
    go_upto_region 3 with fail
    have HR3 := Lib.hid (HR2.out.alloc (.cells #[.int .i64 t, .int .i64 1, .int .i64 0, .string ⟨#[]⟩] 75))
    have HZ3 := Lib.hid (blk_alloc HZ2.out (.cells #[.int .i64 t, .int .i64 1, .int .i64 0, .string ⟨#[]⟩] 75))
    have HF3 := Lib.hid (heap_alloc_new w2 (.cells #[.int .i64 t, .int .i64 1, .int .i64 0, .string ⟨#[]⟩] 75))
    have HG2 := Lib.hid (blk_lt HZ2.out)
    clear HR2 HZ2
    generalize w2.alloc (.cells #[.int .i64 t, .int .i64 1, .int .i64 0, .string ⟨#[]⟩] 75) = w3 at HR3 HZ3 HF3 ⊢
    generalize w2.heap.size = gf at HF3 HG2 ⊢
    have hne : gf ≠ g := by have := HGW.out; have := HG2.out; omega
    have hne2 : gf ≠ w.heap.size := by have := HG2.out; omega
    go_upto_region 5 with (first | (go_at_call 88; (with_reducible refine (rnum_call g s.size HM.out (bytesOf s ++ xs) HL0.out _ HR3.out.r).mono ?_); rintro e w4 ⟨rfl, hrd⟩; have HR4 := Lib.hid (HR3.out.rd hrd); have HF4 := Lib.hid ((hrd.k gf hne).trans HF3.out); have HZ4 := Lib.hid ((hrd.k w.heap.size (by have := HGW.out; omega)).trans HZ3.out); clear hrd))
    clear HR3 HZ3 HF3
    have x0 := (blk_cell HF4.out 0).trans rfl
    have x1 := (blk_cell HF4.out 1).trans rfl
    go_upto_region 10 with fail
    clear x0 x1
    obtain ⟨gz, egz⟩ : ∃ gz, gz = w.heap.size := ⟨_, rfl⟩
    rw [← egz] at HZ4 hne2 ⊢
    have HGZ := Lib.hid egz
    have hgf : w.heap.size ≤ gf := by have := HG2.out; omega
    have hgz : w.heap.size ≤ gz := by rw [egz]; exact Nat.le_refl _
    have hgn : gz ≠ g := by have := HGW.out; omega
    clear egz
    have x3 := (blk_cell HF4.out 3).trans rfl
    have f3 := blk_frozen HF4.out 3
    go_upto_region 11 with (first | (go_at_call 89; (with_reducible refine (rtext_call g s.size (bytesOf s) xs HBL.out HSL.out (by omega) _ HR4.out.r).mono ?_); rintro e w5 ⟨rfl, e5⟩; have HR5 := Lib.hid (show Rx g w w5 xs from e5 ▸ HR4.out.put); have HF5 := Lib.hid (show w5.heap[gf]? = _ from e5 ▸ (Below.heap_setCell w4 ⟨g, 0, none⟩ (.string (strOfNums xs)) _ hne).trans HF4.out); have HZ5 := Lib.hid (show w5.heap[gz]? = _ from e5 ▸ (Below.heap_setCell w4 ⟨g, 0, none⟩ (.string (strOfNums xs)) _ hgn).trans HZ4.out); have x3 := (blk_cell HF5.out 3).trans rfl; have f3 := blk_frozen HF5.out 3; clear e5; rw [HBS.out]))
    clear x3 f3 HR4 HF4 HZ4
    have HR6 := Lib.hid (HR5.out.far hgf hne 3 (.string s))
    have HF6 := Lib.hid (blk_put HF5.out 3 (.string s) rfl)
    have HZ6 := Lib.hid ((Below.heap_setCell w5 ⟨gf, 3, none⟩ (.string s) _ (fun e => hne2 e.symm)).trans HZ5.out)
    clear HR5 HF5 HZ5 x3 f3
    generalize w5.setCell ⟨gf, 3, none⟩ (.string s) = w6 at HR6 HF6 HZ6 ⊢
    have x0 := (blk_cell HF6.out 0).trans rfl
    have x1 := (blk_cell HF6.out 1).trans rfl
    have x2 := (blk_cell HF6.out 2).trans rfl
    have x3 := (blk_cell HF6.out 3).trans rfl
    have y0 := (blk_cell HZ6.out 0).trans rfl
    have y1 := (blk_cell HZ6.out 1).trans rfl
    have y2 := (blk_cell HZ6.out 2).trans rfl
    have y3 := (blk_cell HZ6.out 3).trans rfl
    have z0 := blk_frozen HZ6.out 0
    have z1 := blk_frozen HZ6.out 1
    have z2 := blk_frozen HZ6.out 2
    have z3 := blk_frozen HZ6.out 3
    go_wp2
    have HZ7 := Lib.hid (blk_put (blk_put (blk_put (blk_put HZ6.out 0 (.int .i64 t) rfl) 1 (.int .i64 1) rfl) 2 (.int .i64 0) rfl) 3 (.string s) rfl)
    have HR7 := Lib.hid ((((HR6.out.far hgz hgn 0 (.int .i64 t)).far hgz hgn 1 (.int .i64 1)).far hgz hgn 2 (.int .i64 0)).far hgz hgn 3 (.string s))
    clear HR6 HZ6 HF6 y0 y1 y2 y3 x0 x1 x2 x3 z0 z1 z2 z3
    revert HZ7 HR7
    generalize (((w6.setCell ⟨gz, 0, none⟩ (.int .i64 t)).setCell ⟨gz, 1, none⟩ (.int .i64 1)).setCell ⟨gz, 2, none⟩ (.int .i64 0)).setCell ⟨gz, 3, none⟩ (.string s) = w7
    intro HZ7 HR7
    have y0 := (blk_cell HZ7.out 0).trans rfl
    have y1 := (blk_cell HZ7.out 1).trans rfl
    have y2 := (blk_cell HZ7.out 2).trans rfl
    have y3 := (blk_cell HZ7.out 3).trans rfl
    refine bodyPost_ret (v := .tuple #[.agg #[.int .i64 t, .int .i64 1, .int .i64 0, .string s], .bool true]) ?_ rfl ⟨rfl, HR7.out⟩
    simp [results, Tryd.f69, go_sem, y0, y1, y2, y3]
end Go.Proofs.YtbhioghpgedkeaaDoor.IN
namespace Go.Proofs.YtbhioghpgedkeaaDoor.IN
open Go.RowKit Go.Deep Go.Proofs.YtbhioghpgedkeaaDoor.MIt Go.Proofs.YtbhioghpgedkeaaDoor.MKf Go.Proofs.YtbhioghpgedkeaaDoorW.PrintWords Go.Proofs.YtbhioghpgedkeaaDoorW.PrintLast Go.Proofs.YtbhioghpgedkeaaDoorW.PrintMore

/-- Tags that do not fall. -/
def rises (a : Int) : List S75 → Prop
  | [] => True
  | x :: r => a ≤ x.f0 ∧ rises x.f0 r
def lastT (a : Int) : List S75 → Int
  | [] => a
  | x :: r => lastT x.f0 r
theorem rest_grown {w w1 : World} {g base : Nat} {xs : List Int} {v : Value} {ok : Nat → Prop} {L : List S75} (h : isRest w g xs) (hR : Kd.R k75 75 w base ok v L) (hg : w.grownBy w1 v.ownBlock) : isRest w1 g xs := by
  refine (hg.block g (lt_of_block h) (fun e => ?_)).trans h
  obtain ⟨inner, ho, _⟩ := hR.2
  obtain ⟨c', fr', h'⟩ := own_ty ho e.symm
  have h2 : w.heap[g]? = some (.cells #[.string (strOfNums xs)] 105 (0, 0)) := h
  rw [h2] at h'
  injection h' with h'
  injection h' with _ h'
  exact absurd h' (by decide)
/-- The loop's state: p is read, r is to come. -/
structure BdSt (w wr : World) (g : Nat) (v : Value) (p r : List S75) : Prop where
  rest : isRest wr g (r.flatMap fbI)
  hg : w.heap.size ≤ g
  row : Kd.R k75 75 wr w.heap.size (fun _ => True) v p
  b : Below w.heap.size w wr
theorem BdSt.field {w wr w2 : World} {g : Nat} {v : Value} {p r : List S75} {x : S75} (h : BdSt w wr g v p (x :: r)) (hx : Rx g wr w2 (r.flatMap fbI)) : BdSt w w2 g v p r :=
  ⟨hx.r, h.hg, Kd.R_mono (Kd.R_step (Kd.R_types h.row h.rest (by decide)) (fun k ho hlt => hx.k k hlt ho.2)) (fun _ h => h.1), hx.b _ _ h.hg h.b.size h.b⟩
theorem BdSt.alloc {w wr : World} {g : Nat} {v : Value} {p r : List S75} (h : BdSt w wr g v p r) (o : Obj) : BdSt w (wr.alloc o) g v p r :=
  ⟨blk_alloc h.rest o, h.hg, Kd.R_alloc h.row _, below_alloc h.b o⟩
theorem BdSt.turn {w wr : World} {g : Nat} {v : Value} {p r : List S75} (h : BdSt w wr g v p r) : BdSt w (wr.alloc (.cells #[.string (strOfNums (r.flatMap fbI))] 105)) wr.heap.size v p r :=
  ⟨heap_alloc_new _ _, h.b.size, Kd.R_alloc h.row _, below_alloc h.b _⟩
theorem rfield_call' (g : Nat) (x : S75) (hx : okF x) (xs : List Int) (hl : xs.length ≤ 800000) (w : World) (h : isRest w g (fbI x ++ xs)) :
    Calls Tryd.prog 69 #[.pointer (some ⟨g, 0, none⟩)] w fun e w' => e = .returned (.tuple #[.agg #[.int .i64 x.f0, .int .i64 x.f1, .int .i64 x.f2, .string x.f3], .bool true]) ∧ Rx g w w' xs := rfield_call g x hx xs hl w h
theorem lastT_app (a : Int) (p : List S75) (x : S75) : lastT a (p ++ [x]) = x.f0 := by
  induction p generalizing a with
  | nil => rfl
  | cons y p ih => exact ih y.f0
theorem fl_len (L p r : List S75) (h : L = p ++ r) (n : Nat) (hn : (L.flatMap fbI).length ≤ n) : (r.flatMap fbI).length ≤ n := by
  rw [h, List.flatMap_append, List.length_append] at hn
  omega
set_option maxHeartbeats 4000000 in
set_option maxRecDepth 100000 in
theorem fdec_call (L : List S75) (hok : ∀ x ∈ L, okF x) (hr : rises 0 L) (hLn : L.length ≤ 100) (hsz : (L.flatMap fbI).length ≤ 65536) (w : World) :
    Calls Tryd.prog 40 #[.string (strOfNums (L.flatMap fbI))] w fun e w' => ∃ v, e = .returned (.tuple #[v, .int .i64 0]) ∧ Kd.R k75 75 w' w.heap.size (fun _ => True) v L ∧ Below w.heap.size w w' := by
  have hz : (strOfNums (L.flatMap fbI)).size = (L.flatMap fbI).length := strOfNums_size _
  have c1 : decide (((strOfNums (L.flatMap fbI)).size : Int) > 65536) = false := decide_eq_false (by rw [hz]; omega)
  obtain ⟨s, hs⟩ : ∃ s, s = strOfNums (L.flatMap fbI) := ⟨_, rfl⟩
  rw [← hs] at c1 ⊢
  have HS := Lib.hid hs
  have HOK := Lib.hid hok
  have HRI := Lib.hid hr
  have HSZ := Lib.hid hsz
  clear hs hok hr hsz hz
  go_enter Tryd.func40, Tryd.ntmps40
  go_upto_block 0 with fail
  have HD0 := Lib.hid (show BdSt w (w.alloc (.cells #[.string s] 105)) w.heap.size (.slice none 0 0) [] L from ⟨by rw [HS.out]; exact heap_alloc_new _ _, Nat.le_refl _, Kd.R_nil _ _ _ _ _, below_alloc (Below.refl _ _) _⟩)
  generalize w.alloc (.cells #[.string s] 105) = w1 at HD0 ⊢
  obtain ⟨g0, hg0⟩ : ∃ g0, g0 = w.heap.size := ⟨_, rfl⟩
  rw [← hg0] at HD0 ⊢
  clear hg0
  clear c1
  go_wp2
  go_loopg [4, 5, 6] L.length (fun k o a q wr => ∃ (p r : List S75) (g : Nat), r.length = k ∧ a = .int .i64 (lastT 0 p) ∧ q = .pointer (some ⟨g, 0, none⟩) ∧ Hid (L = p ++ r) ∧ Hid (rises (lastT 0 p) r) ∧ Hid (BdSt w wr g o p r))
  case atStart => exact ⟨[], L, _, rfl, rfl, rfl, Lib.hid rfl, HRI, HD0⟩
  case round =>
    obtain ⟨p, r, g, hk, rfl, rfl, HL, HRr, HD⟩ := hrel
    subst hk
    clear HD0
    cases r with
    | nil =>
      obtain ⟨sr, hsr⟩ : ∃ sr, sr = strOfNums (([] : List S75).flatMap fbI) := ⟨_, rfl⟩
      have x0 : wr.cell? ⟨g, 0, none⟩ = some (.string sr) := by rw [hsr]; exact (blk_cell HD.out.rest 0).trans rfl
      have ce : sr.toList.isEmpty = true := by rw [hsr, sn_toList]; rfl
      clear hsr
      go_wp2
      go_ret2
      refine ⟨_, rfl, ?_, HD.out.b⟩
      rw [HL.out, List.append_nil]
      exact HD.out.row
    | cons x r =>
      have hx := HOK.out x (by rw [HL.out]; simp)
      have HX := Lib.hid hx
      have HLr := Lib.hid (show (r.flatMap fbI).length ≤ 800000 from Nat.le_trans (fl_len L (p ++ [x]) r (by rw [HL.out]; simp) _ HSZ.out) (by decide))
      have hpl : p.length ≤ 100 := by have h1 := congrArg List.length HL.out; rw [List.length_append] at h1; omega
      have lt1 : decide (x.f0 < lastT 0 p) = false := decide_eq_false (by have := HRr.out.1; omega)
      have HRr2 := Lib.hid (show rises (lastT 0 (p ++ [x])) r by rw [lastT_app]; exact HRr.out.2)
      obtain ⟨sr, hsr⟩ : ∃ sr, sr = strOfNums ((x :: r).flatMap fbI) := ⟨_, rfl⟩
      have x0 : wr.cell? ⟨g, 0, none⟩ = some (.string sr) := by rw [hsr]; exact (blk_cell HD.out.rest 0).trans rfl
      have ce : sr.toList.isEmpty = false := by rw [hsr, sn_toList, List.flatMap_cons]; rfl
      clear hsr
      clear hx
      go_upto_region 7 with fail
      clear x0 ce
      go_upto_region 8 with (first | (go_at_call 69; (with_reducible refine (rfield_call' g x HX.out (r.flatMap fbI) HLr.out _ HD.out.rest).mono ?_); rintro e w2 ⟨rfl, hx2⟩; have HD2 := Lib.hid (HD.out.field hx2); clear hx2))
      clear HD
      have HD3 := Lib.hid (HD2.out.alloc (.cells #[.int .i64 x.f0, .int .i64 x.f1, .int .i64 x.f2, .string x.f3] 75))
      have HF3 := Lib.hid (heap_alloc_new w2 (.cells #[.int .i64 x.f0, .int .i64 x.f1, .int .i64 x.f2, .string x.f3] 75))
      clear HD2
      generalize w2.alloc (.cells #[.int .i64 x.f0, .int .i64 x.f1, .int .i64 x.f2, .string x.f3] 75) = w3 at HD3 HF3 ⊢
      generalize w2.heap.size = gf at HF3 ⊢
      have y0 := (blk_cell HF3.out 0).trans rfl
      have y1 := (blk_cell HF3.out 1).trans rfl
      have y2 := (blk_cell HF3.out 2).trans rfl
      have y3 := (blk_cell HF3.out 3).trans rfl
      have hbase := HD3.out.b.size
      go_upto_region 12 with (first | ((with_reducible refine gate_builtin (b := .append) (xs := #[.tmp 29, .tmp 31]) rfl ?_); at_builtin; refine Kd.R_append k75 (w0 := w) w.heap.size rfl (.tmp 29) (.tmp 31) 34 75 (.agg #[(.int .i64 0), (.int .i64 0), (.int .i64 0), (.string ⟨#[]⟩)]) 40 rfl Tryd.underlying34 info75 rfl (by decide) (by omega) u4 p x [.int .i64 x.f0, .int .i64 x.f1, .int .i64 x.f2, .string x.f3] (fun _ => True) (fun _ => False) rfl rfl ?aP (fun _ hk => hk.elim) ?aF ?aO ?aB ?aS ?aL ?_; (case aP => exact k75_mkM _ _ _ x); (case aB => exact HD3.out.b); (case aF => exact (fun _ _ => trivial)); (case aO => exact HD3.out.row); (case aS => exact hbase); (case aL => omega); intro v1 w4 ho1_ hb1_ hg1_ _; have HD4 := Lib.hid (show BdSt w w4 g v1 (p ++ [x]) r from ⟨rest_grown HD3.out.rest HD3.out.row hg1_, HD3.out.hg, ho1_, hb1_⟩); clear ho1_ hb1_ hg1_))
      clear y0 y1 y2 y3 HD3 HF3
      obtain ⟨sr2, hsr2⟩ : ∃ sr, sr = strOfNums (r.flatMap fbI) := ⟨_, rfl⟩
      have x0 : w4.cell? ⟨g, 0, none⟩ = some (.string sr2) := by rw [hsr2]; exact (blk_cell HD4.out.rest 0).trans rfl
      have HD5 := Lib.hid HD4.out.turn
      rw [← hsr2] at HD5
      clear hsr2 HD4
      go_wp2
      go_roundg r.length
      case measure => simp
      case rel => exact ⟨p ++ [x], r, _, rfl, by rw [lastT_app], rfl, Lib.hid (by rw [HL.out]; simp), HRr2, HD5⟩
end Go.Proofs.YtbhioghpgedkeaaDoor.IN
namespace Go.Proofs.YtbhioghpgedkeaaDoor.IN
open Go.RowKit Go.Proofs.YtbhioghpgedkeaaDoor.MIt Go.Proofs.YtbhioghpgedkeaaDoor.MKf Go.Proofs.YtbhioghpgedkeaaDoorW.PrintWords Go.Proofs.YtbhioghpgedkeaaDoorW.PrintLast Go.Proofs.YtbhioghpgedkeaaDoorW.PrintMore

set_option maxHeartbeats 4000000 in
set_option maxRecDepth 100000 in
theorem why_call (x : S75) (hx : okF x) (a : Int) (ha : a ≤ x.f0) (w : World) :
    Calls Tryd.prog 67 #[.agg #[.int .i64 x.f0, .int .i64 x.f1, .int .i64 x.f2, .string x.f3], .int .i64 a] w fun e w' => e = .returned (.int .i64 0) ∧ Below w.heap.size w w' := by
  obtain ⟨t, k, n, s⟩ := x
  obtain ⟨h0, h1, hk⟩ := hx
  simp only at h0 h1 hk ha ⊢
  have d1 : decide (t < 1) = false := decide_eq_false (by omega)
  have d2 : decide (t > 63) = false := decide_eq_false (by omega)
  have d3 : decide (t < a) = false := decide_eq_false (by omega)
  clear h0 h1 ha
  rcases hk with ⟨rfl, rfl, hn0, hn1⟩ | ⟨rfl, rfl, hs⟩
  · have d4 : decide (n ≥ 0) = true := decide_eq_true hn0
    have d5 : decide (n ≤ 4611686018427387904) = true := decide_eq_true (by omega)
    have hB := below_alloc (Below.refl w.heap.size w) (.cells #[.int .i64 t, .int .i64 0, .int .i64 n, .string ⟨#[]⟩] 75)
    have HB := Lib.hid hB
    have HF := Lib.hid (heap_alloc_new w (.cells #[.int .i64 t, .int .i64 0, .int .i64 n, .string ⟨#[]⟩] 75))
    clear hn0 hn1 hB
    go_enter Tryd.func67, Tryd.ntmps67
    go_upto_region 1 with fail
    generalize w.alloc (.cells #[.int .i64 t, .int .i64 0, .int .i64 n, .string ⟨#[]⟩] 75) = w1 at HB HF ⊢
    generalize w.heap.size = gb at HF ⊢
    have y0 := (blk_cell HF.out 0).trans rfl
    have y1 := (blk_cell HF.out 1).trans rfl
    have y2 := (blk_cell HF.out 2).trans rfl
    have y3 := (blk_cell HF.out 3).trans rfl
    go_wp2
    go_ret
    exact ⟨rfl, HB.out⟩
  · have d4 : decide ((s.size : Int) > 4096) = false := decide_eq_false (by omega)
    have hB := below_alloc (Below.refl w.heap.size w) (.cells #[.int .i64 t, .int .i64 1, .int .i64 0, .string s] 75)
    have HB := Lib.hid hB
    have HF := Lib.hid (heap_alloc_new w (.cells #[.int .i64 t, .int .i64 1, .int .i64 0, .string s] 75))
    clear hs hB
    go_enter Tryd.func67, Tryd.ntmps67
    go_upto_region 1 with fail
    generalize w.alloc (.cells #[.int .i64 t, .int .i64 1, .int .i64 0, .string s] 75) = w1 at HB HF ⊢
    generalize w.heap.size = gb at HF ⊢
    have y0 := (blk_cell HF.out 0).trans rfl
    have y1 := (blk_cell HF.out 1).trans rfl
    have y2 := (blk_cell HF.out 2).trans rfl
    have y3 := (blk_cell HF.out 3).trans rfl
    go_wp2
    go_ret
    exact ⟨rfl, HB.out⟩
theorem bd_measure (a p r : Nat) (h : a = p + (r + 1)) (hw : wrap64 ((p : Int) + 1) = (p : Int) + 1) : a - ixOf (.int .i64 (wrap64 ((p : Int) + 1))) < a - ixOf (.int .i64 (p : Int)) := by
  rw [hw]
  show a - ((p : Int) + 1).toNat < a - (p : Int).toNat
  omega
theorem byr_appstr {w0 w : World} {base : Nat} {v : Value} {xs : List Int} {ty : TypeId} (h : ByR w base v xs) (hB : Below base w0 w) (s : ByteArray) (hl : xs.length + s.size ≤ 140737488355328) (hb : base ≤ w.heap.size) :
    ∃ v1 w1, (Builtin.append_ #[79, 9] ty #[v, .string s]).run Tryd.prog w = .ok v1 w1 ∧ ByR w1 base v1 (xs ++ bytesOf s) ∧ Below base w0 w1 ∧ Keep5 w w1 := by
  obtain ⟨i0, hi, hzz⟩ := Option.map_eq_some_iff.1 info5
  simp only [Prod.mk.injEq] at hzz
  obtain ⟨hz0, hz1, hz2⟩ := hzz
  obtain ⟨v1, w1, hr, ho, hg, _⟩ := Lib.run_append_own_string (P := Tryd.prog) w base 79 9 ty 5 i0 Tryd.underlying79 Tryd.underlying9 hi hz0 hz1 hz2 v xs.length (nums .u8 xs) h.o s (by simp only [maxLen]; omega) hl hb
  refine ⟨v1, w1, hr, ⟨?_⟩, hB.grown hg hb (own_base h.o), h.keep hg⟩
  have hl2 : (xs ++ bytesOf s).length = xs.length + s.size := by rw [List.length_append, bytesOf_length]
  have hc : nums .u8 (xs ++ bytesOf s) = nums .u8 xs ++ Lib.strCells s := by
    rw [nums_append]
    exact congrArg (nums .u8 xs ++ ·) (show (s.data.toList.map fun b => (b.toNat : Int)).map (Value.int .u8) = _ by rw [List.map_map]; rfl)
  rw [hl2, hc]
  exact ho
theorem exec_append2 {P : Program} {w w' : World} {ρ : Operand → Value} {o : Oper} (s x : Operand) (t u : TypeId) {v y v' : Value} (ho : o.op = .call { callee := .builtin .append, args := #[s, x], argTypes := #[t, u] }) (hs : ρ s = v) (hx : ρ x = y) (hr : (Builtin.append_ #[t, u] o.type #[v, y]).run P w = .ok v' w') : (execOp ρ o).run P w = .ok (.value v') w' := by
  unfold execOp
  simp only [ho, resolve, invoke, builtin, Sem.run_bind, Sem.run_pure, Result.andThen_ok, List.map_toArray, List.map_cons, List.map_nil, hs, hx, hr]
/-- The loop's state: so many bytes are written. -/
structure BeSt (w wr : World) (v : Value) (ys : List Int) : Prop where
  o : ByR wr w.heap.size v ys
  b : Below w.heap.size w wr
theorem BeSt.below {w wr w2 : World} {v : Value} {ys : List Int} (h : BeSt w wr v ys) (hb : Below wr.heap.size wr w2) : BeSt w w2 v ys :=
  ⟨⟨own_move h.o.o (fun k hk => hb.block k (own_lt h.o.o k hk))⟩, below_box h.b hb⟩
theorem byte_facts (t k : Int) (h0 : 1 ≤ t) (h1 : t ≤ 63) (hk : k = 0 ∨ k = 1) : ∃ C : Int, 2 * t + k = C ∧ wrap64 (2 * t) = 2 * t ∧ wrap64 C = C ∧ C % 256 = C ∧ wrap64 (2 * t + k) = C := by
  refine ⟨_, rfl, ?_, ?_, by omega, ?_⟩ <;> unfold wrap64 <;> omega
theorem fb_num (x : S75) (h : x.f1 = 0) : fbI x = (2 * x.f0 + x.f1) :: numB x.f2.toNat := by unfold fbI; rw [if_pos h]
theorem fb_text (x : S75) (h : x.f1 = 1) : fbI x = (2 * x.f0 + x.f1) :: (numB x.f3.size ++ bytesOf x.f3) := by unfold fbI; rw [if_neg (by rw [h]; decide)]
set_option maxHeartbeats 4000000 in
set_option maxRecDepth 100000 in
theorem fenc_call (A : Option Addr) (cap : Nat) (L : List S75) (hok : ∀ x ∈ L, okF x) (hr : rises 0 L) (hLn : L.length ≤ 100) (hsz : (L.flatMap fbI).length ≤ 9000) (w : World) (hC : Kd.C k75 w A L.length L) :
    Calls Tryd.prog 39 #[.slice A L.length cap] w fun e w' => e = .returned (.tuple #[.string (strOfNums (L.flatMap fbI)), .int .i64 0]) ∧ Below w.heap.size w w' := by
  have HC := Lib.hid hC
  have HOK := Lib.hid hok
  have HRI := Lib.hid hr
  have HSZ := Lib.hid hsz
  have HE0 := Lib.hid (show BeSt w w (.slice none 0 0) [] from ⟨⟨by simp [nums], .inl ⟨rfl, rfl⟩⟩, Below.refl _ _⟩)
  clear hC hok hr hsz
  go_enter Tryd.func39, Tryd.ntmps39
  go_upto_block 0 with fail
  go_wp2
  go_loopw [4, 5, 11] (fun v a i wr => ∃ (p r : List S75), i = .int .i64 (p.length : Int) ∧ a = .int .i64 (lastT 0 p) ∧ Hid (L = p ++ r) ∧ Hid (rises (lastT 0 p) r) ∧ Hid (BeSt w wr v (p.flatMap fbI)))
    (fun _ _ i _ => L.length - ixOf i)
  case atStart => exact ⟨[], L, rfl, rfl, Lib.hid rfl, HRI, HE0⟩
  case round =>
    obtain ⟨p, r, rfl, rfl, HL, HRr, HE⟩ := hrel
    clear HE0
    cases r with
    | nil =>
      have c1 : decide ((p.length : Int) < (L.length : Int)) = false := by rw [HL.out]; simp
      have c4 : (p.length < L.length) = False := eq_false (by rw [HL.out]; simp)
      have HPL := Lib.hid (show p = L by rw [HL.out]; simp)
      rw [HPL.out] at HE
      obtain ⟨B, hB⟩ : ∃ B, B = L.flatMap fbI := ⟨_, rfl⟩
      rw [← hB] at HE
      have HBB := Lib.hid hB
      have HSB := Lib.hid (show B.length ≤ 9000 by rw [hB]; exact HSZ.out)
      clear hB
      obtain ⟨A2, c2, eo⟩ := HE.out.o.slice
      subst eo
      have c3 : decide ((B.length : Int) > 65536) = false := decide_eq_false (by have := HSB.out; omega)
      have hcv : (convert 79 9 (.slice A2 B.length c2)).run Tryd.prog wr = .ok (.string (strOfNums B)) wr := string_of_reads Tryd.underlying79 Tryd.underlying5 Tryd.underlying9 (own_reads' HE.out.o.o)
      go_wp2
      go_ret2
      exact ⟨congrArg (fun z => Ending.returned (.tuple #[.string (strOfNums z), .int .i64 0])) HBB.out, HE.out.b⟩
    | cons x r =>
      have hx := HOK.out x (by rw [HL.out]; simp)
      have HX := Lib.hid hx
      obtain ⟨C, hC, hw1, hw2, hw3, hw4⟩ := byte_facts x.f0 x.f1 hx.t0 hx.t1 (by rcases hx.k with ⟨e, _⟩ | ⟨e, _⟩ <;> simp [e])
      have hlen : L.length = p.length + (r.length + 1) := by rw [HL.out]; simp
      have c1 : decide ((p.length : Int) < (L.length : Int)) = true := decide_eq_true (by omega)
      have c2 : ((p.length : Int) < (L.length : Int)) = True := eq_true (by omega)
      have c3 : (p.length < L.length) = True := eq_true (by omega)
      have HWP := Lib.hid (show wrap64 ((p.length : Int) + 1) = (p.length : Int) + 1 by unfold wrap64; omega)
      have HLEN := Lib.hid hlen
      have HA := Lib.hid (HRr.out.1)
      have HRr2 := Lib.hid (show rises (lastT 0 (p ++ [x])) r by rw [lastT_app]; exact HRr.out.2)
      have HCx := Lib.hid hC
      have HP := Lib.hid (show (p.flatMap fbI).length ≤ 9000 by have := HSZ.out; rw [HL.out, List.flatMap_append, List.length_append] at this; omega)
      obtain ⟨ad, hA, e0, e1, e2, e3⟩ := at75 (HL.out ▸ Kd.C_below HC.out HE.out.b)
      subst hA
      have hx := Lib.hid hx
      clear hC hlen
      go_upto_region 6 with fail
      clear e0 e1 e2 e3
      have HE1 := Lib.hid (HE.out.below (below_alloc (Below.refl _ _) (.cells #[.int .i64 x.f0, .int .i64 x.f1, .int .i64 x.f2, .string x.f3] 75)))
      have HF1 := Lib.hid (heap_alloc_new wr (.cells #[.int .i64 x.f0, .int .i64 x.f1, .int .i64 x.f2, .string x.f3] 75))
      clear HE
      generalize wr.alloc (.cells #[.int .i64 x.f0, .int .i64 x.f1, .int .i64 x.f2, .string x.f3] 75) = w1 at HE1 HF1 ⊢
      generalize wr.heap.size = gf at HF1 ⊢
      have y0 := (blk_cell HF1.out 0).trans rfl
      have y1 := (blk_cell HF1.out 1).trans rfl
      have y2 := (blk_cell HF1.out 2).trans rfl
      have y3 := (blk_cell HF1.out 3).trans rfl
      go_upto_region 7 with (first | (go_at_call 67; (with_reducible refine (why_call x HX.out (lastT 0 p) HA.out _).mono ?_); rintro e w2 ⟨rfl, hb⟩; have HE2 := Lib.hid (HE1.out.below hb); have HF2 := Lib.hid (blk_below HF1.out hb); clear hb))
      clear y0 y1 y2 y3 HE1 HF1
      have y0 := (blk_cell HF2.out 0).trans rfl
      have y1 := (blk_cell HF2.out 1).trans rfl
      have hbase := HE2.out.b.size
      go_upto_region 11 with (first | ((with_reducible refine gate_builtin (b := .append) (xs := #[.tmp 23, .tmp 31]) rfl ?_); at_builtin; refine print_append_num (w0 := w) w.heap.size rfl (.tmp 23) (.tmp 31) 79 5 .u8 1 rfl Tryd.underlying79 info5 (by decide) _ (p.flatMap fbI) C rfl rfl HE2.out.o.o HE2.out.b hbase (by have := HP.out; omega) ?_; intro v1 w3 ho_ hb_ hg_ ht_; have HE3 := Lib.hid (show BeSt w w3 v1 (p.flatMap fbI ++ [C]) from ⟨⟨ho_⟩, hb_⟩); have HF3 := Lib.hid ((HE2.out.o.keep hg_).2 _ _ _ (by decide) HF2.out); clear ho_ hb_ hg_ ht_))
      clear y0 y1 HE2 HF2 hbase
      have hpe : (p ++ [x]).flatMap fbI = p.flatMap fbI ++ fbI x := by rw [List.flatMap_append]; simp
      rcases hx.out.k with ⟨hk0, hs0, hn0, hn1⟩ | ⟨hk1, hn1, hs1⟩
      · obtain ⟨m, hm⟩ := Int.eq_ofNat_of_zero_le hn0
        rw [fb_num x hk0, hm, HCx.out, Int.toNat_natCast] at hpe
        rw [hk0, hm] at HF3
        have HPE := Lib.hid hpe
        have HM := Lib.hid (show m < 1099511627777 by omega)
        clear hpe hx hk0 hs0 hn0 hn1 hm HX
        have y1 := (blk_cell HF3.out 1).trans rfl
        have y2 := (blk_cell HF3.out 2).trans rfl
        go_wp2_with (first | (go_at_call 68; (with_reducible refine (bnum_call w.heap.size v1 (p.flatMap fbI ++ [C]) m HM.out w _ HE3.out.o HE3.out.b HE3.out.b.size (by have := HP.out; rw [List.length_append, List.length_cons, List.length_nil]; omega)).mono ?_); rintro e w4 ⟨v4, rfl, ho_, hb_, _, _⟩; have HE4 := Lib.hid (show BeSt w w4 v4 ((p ++ [x]).flatMap fbI) by rw [HPE.out]; rw [List.append_assoc] at ho_; exact ⟨ho_, hb_⟩); clear ho_ hb_))
        go_roundw
        case rel => exact ⟨p ++ [x], r, congrArg (Value.int .i64) (HWP.out.trans (by simp)), by rw [lastT_app], Lib.hid (by rw [HL.out]; simp), HRr2, HE4⟩
        case measure => exact bd_measure L.length p.length r.length HLEN.out HWP.out
      · rw [fb_text x hk1, HCx.out] at hpe
        rw [hk1, hn1] at HF3
        have HPE := Lib.hid hpe
        have HSL := Lib.hid hs1
        clear hpe hx hk1 hs1 hn1 HX
        generalize x.f3 = sx at HPE HSL HF3 ⊢
        have y1 := (blk_cell HF3.out 1).trans rfl
        go_upto_region 13 with fail
        have HNL := Lib.hid (numB_len 6 sx.size (by have := HSL.out; omega) (by omega))
        refine start_ (n := 9) (S := fun w' => w'.heap[gf]? = some (.cells #[.int .i64 x.f0, .int .i64 1, .int .i64 0, .string sx] 75 (0, 0))) (ds := []) #[false, false, false, false, false, false, false, false, false] (by kernel_rfl) rfl rfl (blk_drew HF3.out) (fun hHeld => ?_)
        have HE4 := Lib.hid (HE3.out.below (below_drew1 (Below.refl _ _)))
        clear HE3 HF3
        generalize w3.drew = w4 at hHeld HE4 ⊢
        refine pure_ (i := 0) (N := some 40) (v := ?_) (a' := ?_) #[true, false, false, false, false, false, false, false, false] rfl rfl (by kernel_rfl) (fun _ _ _ h => h) (Or.inl ⟨by rfl, ?_⟩) ?_ ?_
        rotate_left
        · intro w'
          go_simp
          with_reducible rfl
        rotate_left
        · simp only [Act.put, List.setIfInBounds_toArray, List.set_cons_zero, List.set_cons_succ, i64_w, i32_w]
          rfl
        refine pure_ (i := 1) (N := some 41) (v := ?_) (a' := ?_) #[true, true, false, false, false, false, false, false, false] rfl rfl (by kernel_rfl) (fun _ _ _ h => h) (Or.inl ⟨by rfl, ?_⟩) ?_ ?_
        rotate_left
        · intro w'
          go_simp
          with_reducible rfl
        rotate_left
        · simp only [Act.put, List.setIfInBounds_toArray, List.set_cons_zero, List.set_cons_succ, i64_w, i32_w]
          rfl
        refine take_ (i := 2) (N := some 42) (v := ?_) (a' := ?_) #[true, true, true, false, false, false, false, false, false] rfl rfl (by kernel_rfl) (fun _ _ _ h => h) (Or.inl ⟨by rfl, ?_⟩) hHeld ?_ ?_
        rotate_left
        · rintro w' h
          have h3 : w'.cell? ⟨gf, 3, none⟩ = some (.string sx) := (blk_cell h 3).trans rfl
          go_simp
          with_reducible rfl
        rotate_left
        · simp only [Act.put, List.setIfInBounds_toArray, List.set_cons_zero, List.set_cons_succ, i64_w, i32_w]
          rfl
        refine pure_ (i := 3) (N := some 43) (v := ?_) (a' := ?_) #[true, true, true, true, false, false, false, false, false] rfl rfl (by kernel_rfl) (fun _ _ _ h => h) (Or.inl ⟨by rfl, ?_⟩) ?_ ?_
        rotate_left
        · intro w'
          go_simp
          with_reducible rfl
        rotate_left
        · simp only [Act.put, List.setIfInBounds_toArray, List.set_cons_zero, List.set_cons_succ, i64_w, i32_w]
          rfl
        refine pure_ (i := 5) (N := some 45) (v := ?_) (a' := ?_) #[true, true, true, true, false, true, false, false, false] rfl rfl (by kernel_rfl) (fun _ _ _ h => h) (Or.inl ⟨by rfl, ?_⟩) ?_ ?_
        rotate_left
        · intro w'
          go_simp
          with_reducible rfl
        rotate_left
        · simp only [Act.put, List.setIfInBounds_toArray, List.set_cons_zero, List.set_cons_succ, i64_w, i32_w]
          rfl
        refine take_ (i := 6) (N := some 46) (v := ?_) (a' := ?_) #[true, true, true, true, false, true, true, false, false] rfl rfl (by kernel_rfl) (fun _ _ _ h => h) (Or.inl ⟨by rfl, ?_⟩) hHeld ?_ ?_
        rotate_left
        · rintro w' h
          have h3 : w'.cell? ⟨gf, 3, none⟩ = some (.string sx) := (blk_cell h 3).trans rfl
          go_simp
          with_reducible rfl
        rotate_left
        · simp only [Act.put, List.setIfInBounds_toArray, List.set_cons_zero, List.set_cons_succ, i64_w, i32_w]
          rfl
        refine one_ (i := 4) (N := some 44) #[true, true, true, true, true, true, true, false, false] rfl rfl (by kernel_rfl) (by decide) (fun K hK => ?_)
        refine goes_ Tryd.func68 (by kernel_rfl) rfl #[v1, .int .i64 (sx.size : Int)] (by rfl) rfl rfl (by first | rfl | (simp only [List.map_toArray, List.map_cons, List.map_nil]; done) | (simp only [List.map_toArray, List.map_cons, List.map_nil]; rfl)) ?_
        (with_reducible refine (bnum_call w.heap.size v1 (p.flatMap fbI ++ [C]) sx.size (by have := HSL.out; omega) w _ HE4.out.o HE4.out.b HE4.out.b.size (by have := HP.out; rw [List.length_append, List.length_cons, List.length_nil]; omega)).mono ?_)
        rintro e w5 ⟨v5, rfl, ho_, hb_, hz_, hk_⟩
        refine ⟨_, rfl, ?_⟩
        have HO5 := Lib.hid ho_
        have HB5 := Lib.hid hb_
        have hS5 := hk_.2 _ _ _ (by decide) hHeld
        clear ho_ hb_ hz_ hk_ hHeld
        refine hK.out _ _ hS5 (fun hHeld => ?_)
        clear hK K
        refine norm_ (a' := ?_) ?_ ?_
        rotate_left
        · show Act.put _ (some 44) _ = _
          simp only [Act.put, List.setIfInBounds_toArray, List.set_cons_zero, List.set_cons_succ, i64_w, i32_w]
          rfl
        clear hS5
        obtain ⟨v6, w6, hr6, HO6, HB6, HK6⟩ := byr_appstr (ty := 79) HO5.out HB5.out sx (by have := HP.out; have := HNL.out; have := HSL.out; rw [List.length_append, List.length_append, List.length_cons, List.length_nil]; omega) HB5.out.size
        refine one_ (i := 7) (N := some 47) #[true, true, true, true, true, true, true, true, false] rfl rfl (by kernel_rfl) (by decide) (fun K hK => ?_)
        refine value_ (by rfl) rfl (exec_append2 (.tmp 44) (.tmp 46) 79 9 rfl rfl rfl hr6) ?_
        have hS6 := HK6.2 _ _ _ (by decide) hHeld
        clear hHeld hr6
        refine hK.out _ _ hS6 (fun hHeld => ?_)
        clear hK K
        refine norm_ (a' := ?_) ?_ ?_
        rotate_left
        · show Act.put _ (some 47) _ = _
          simp only [Act.put, List.setIfInBounds_toArray, List.set_cons_zero, List.set_cons_succ, i64_w, i32_w]
          rfl
        clear hS6 hHeld
        refine pure_ (i := 8) (N := some 4) (v := ?_) (a' := ?_) #[true, true, true, true, true, true, true, true, true] rfl rfl (by kernel_rfl) (fun _ _ _ h => h) (Or.inl ⟨by rfl, ?_⟩) ?_ ?_
        rotate_left
        · intro w'
          go_simp
          with_reducible rfl
        rotate_left
        · simp only [Act.put, List.setIfInBounds_toArray, List.set_cons_zero, List.set_cons_succ, i64_w, i32_w]
          rfl
        refine done_ (by kernel_rfl) ?_
        have HE7 := Lib.hid (show BeSt w w6 v6 ((p ++ [x]).flatMap fbI) by rw [HPE.out]; rw [List.append_assoc, List.append_assoc] at HO6; exact ⟨HO6, HB6⟩)
        clear HO6 HB6 HK6 HO5 HB5
        go_wp2
        go_roundw
        case rel => exact ⟨p ++ [x], r, congrArg (Value.int .i64) (HWP.out.trans (by simp)), by rw [lastT_app], Lib.hid (by rw [HL.out]; simp), HRr2, HE7⟩
        case measure => exact bd_measure L.length p.length r.length HLEN.out HWP.out
end Go.Proofs.YtbhioghpgedkeaaDoor.IN
namespace Go.Proofs.YtbhioghpgedkeaaDoor.IN
open Go.RowKit Go.Proofs.YtbhioghpgedkeaaDoor.MIt Go.Proofs.YtbhioghpgedkeaaDoor.MKf Go.Proofs.YtbhioghpgedkeaaDoorW.PrintWords Go.Proofs.YtbhioghpgedkeaaDoorW.PrintLast Go.Proofs.YtbhioghpgedkeaaDoorW.PrintMore

def byteL (s : List Int) : Prop := s.length = 32 ∧ ∀ x ∈ s, 0 ≤ x ∧ x < 256
theorem sn_bytes : ∀ (s : List Int), (∀ x ∈ s, 0 ≤ x ∧ x < 256) → (strOfNums s).data.toList.map (fun b : UInt8 => (b.toNat : Int)) = s
  | [], _ => rfl
  | x :: s, h => by
    have ih := sn_bytes s (fun y hy => h y (by simp [hy]))
    have hx := h x (by simp)
    rw [strOfNums_data] at ih ⊢
    rw [List.map_cons, List.map_cons, ih]
    congr 1
    rw [UInt8.toNat_ofNat']
    omega
theorem lay_back (s : List Int) (h : byteL s) : lay (strOfNums s) z32 = s := by
  unfold lay
  rw [sn_bytes s h.2, List.take_of_length_le (by rw [h.1]; omega), strOfNums_size, h.1]
  simp [z32]
theorem lay_none : lay ⟨#[]⟩ z32 = z32 := rfl
theorem fnum (t tag v : Int) : (numF t v).filter (isF tag 0) = if t = tag then numF t v else [] := by
  unfold numF isF
  by_cases h0 : 0 < v
  · rw [if_pos h0]
    by_cases h : t = tag
    · rw [if_pos h]; simp [h]
    · rw [if_neg h]; simp [h]
  · rw [if_neg h0]; simp
theorem fsum (n : IV) (tag : Int) : (sumF n).filter (isF tag 0) = [] := by
  unfold sumF textF isF
  split <;> simp
theorem ftext (tag : Int) (s : ByteArray) : (textF 3 s).filter (isF tag 0) = [] := by
  unfold textF isF
  simp
theorem one_num (t v : Int) (h : 0 ≤ v) : (match numF t v with | x :: _ => (x.f2, true) | [] => ((0 : Int), false)).1 = v := by
  unfold numF
  by_cases h0 : 0 < v
  · rw [if_pos h0]
  · rw [if_neg h0]
    show (0 : Int) = v
    omega
theorem encRec_nums (n : IV) (h1 : 0 ≤ n.k) (h2 : 0 ≤ n.sz) (h3 : 0 ≤ n.c) (h4 : 0 ≤ n.v) (h5 : 0 ≤ n.o) :
    (numOf (encRec n) 1).1 = n.k ∧ (numOf (encRec n) 2).1 = n.sz ∧ (numOf (encRec n) 4).1 = n.c ∧ (numOf (encRec n) 5).1 = n.v ∧ (numOf (encRec n) 6).1 = n.o := by
  refine ⟨?_, ?_, ?_, ?_, ?_⟩
  · refine Eq.trans ?_ (one_num 1 n.k h1)
    unfold numOf encRec
    simp only [List.filter_append, fnum, fsum]
    simp
    rfl
  · refine Eq.trans ?_ (one_num 2 n.sz h2)
    unfold numOf encRec
    simp only [List.filter_append, fnum, fsum]
    simp
    rfl
  · refine Eq.trans ?_ (one_num 4 n.c h3)
    unfold numOf encRec
    simp only [List.filter_append, fnum, fsum]
    simp
    rfl
  · refine Eq.trans ?_ (one_num 5 n.v h4)
    unfold numOf encRec
    simp only [List.filter_append, fnum, fsum]
    simp
    rfl
  · refine Eq.trans ?_ (one_num 6 n.o h5)
    unfold numOf encRec
    simp only [List.filter_append, fnum, fsum]
    simp
    rfl
theorem szB_iff {x : Int} (h : szB x = true) : 0 ≤ x ∧ x ≤ 4096 := by
  unfold szB at h
  simpa using h
theorem stB_iff {x : Int} (h : stB x = true) : 0 ≤ x ∧ x ≤ 1099511627776 := by
  unfold stB at h
  simpa using h
/-- Of an inode that may be. -/
theorem ok_facts (n : IV) (h : okB n = true) : (n.k = 1 ∨ n.k = 2) ∧ (0 ≤ n.sz ∧ n.sz ≤ 4096) ∧ (0 ≤ n.c ∧ n.c ≤ 1099511627776) ∧ (0 ≤ n.v ∧ n.v ≤ 1099511627776) ∧ (0 ≤ n.o ∧ n.o ≤ 1099511627776) ∧ (n.k ≠ 2 → n.s = z32) := by
  unfold okB at h
  rw [Bool.or_eq_true] at h
  rcases h with h | h
  · have e : n = dirI := of_decide_eq_true h
    rw [e]
    exact ⟨.inl rfl, by decide, by decide, by decide, by decide, fun _ => rfl⟩
  · unfold fileB at h
    simp only [Bool.and_eq_true, beq_iff_eq] at h
    obtain ⟨h1, h2, ⟨h3, h4, h5⟩, h6⟩ := h
    exact ⟨.inr h1, szB_iff h2, stB_iff h3, stB_iff h4, stB_iff h5, fun h => absurd h1 h⟩
theorem inode_back (n : IV) (h : okB n = true) (hs : byteL n.s) : decI (encRec n) = (n, 0) := by
  rw [decI_same]
  obtain ⟨hk, hsz, hc, hv, ho, hz⟩ := ok_facts n h
  obtain ⟨e1, e2, e3, e4, e5⟩ := encRec_nums n (by omega) hsz.1 hc.1 hv.1 ho.1
  have ht : lay (textOf (encRec n) 3).1 z32 = n.s := by
    rw [encRec_text]
    by_cases h2 : n.k = 2
    · rw [if_pos h2]; exact lay_back n.s hs
    · rw [if_neg h2, hz h2]; exact lay_none
  have e : inodeOf (encRec n) = n := by
    unfold inodeOf
    rw [e1, e2, e3, e4, e5, ht]
  unfold rdecI
  rw [e, if_pos ⟨h, rfl⟩]
theorem archRec_nums (a : AV) (h2 : 0 ≤ a.sz) (h4 : 0 ≤ a.v) : (numOf (archRec a) 2).1 = a.sz ∧ (numOf (archRec a) 5).1 = a.v := by
  refine ⟨?_, ?_⟩
  · refine Eq.trans ?_ (one_num 2 a.sz h2)
    unfold numOf archRec
    simp only [List.filter_append, fnum, ftext]
    simp
    rfl
  · refine Eq.trans ?_ (one_num 5 a.v h4)
    unfold numOf archRec
    simp only [List.filter_append, fnum, ftext]
    simp
    rfl
theorem arch_back (a : AV) (h : archOk a = true) (hs : byteL a.s) : decA (archRec a) = (a, 0) := by
  have h' := h
  unfold archOk at h'
  simp only [Bool.and_eq_true] at h'
  obtain ⟨h1, h2, _⟩ := h'
  obtain ⟨e2, e5⟩ := archRec_nums a (szB_iff h1).1 (stB_iff h2).1
  have e : archOf (archRec a) = a := by
    unfold archOf
    rw [e2, e5, archRec_text, lay_back a.s hs]
  have e4 : (sumOf (archRec a)).2 = true := by
    unfold sumOf
    rw [archRec_text, strOfNums_size, hs.1]
    rfl
  unfold decA
  rw [e, if_pos ⟨e4, h, rfl⟩]
theorem okF_num (t v : Int) (h0 : 1 ≤ t) (h1 : t ≤ 63) (hv : v ≤ 1099511627776) : ∀ x ∈ numF t v, okF x := by
  intro x hx
  unfold numF at hx
  split at hx
  · rename_i h
    rw [List.mem_singleton] at hx
    subst hx
    exact ⟨h0, h1, .inl ⟨rfl, rfl, by show (0 : Int) ≤ v; omega, by show v < 1099511627777; omega⟩⟩
  · exact absurd hx (by simp)
theorem okF_text (s : List Int) (h : s.length = 32) : ∀ x ∈ textF 3 (strOfNums s), okF x := by
  intro x hx
  unfold textF at hx
  rw [List.mem_singleton] at hx
  subst hx
  exact ⟨show (1 : Int) ≤ 3 by decide, show (3 : Int) ≤ 63 by decide, .inr ⟨rfl, rfl, by show (strOfNums s).size ≤ 4096; rw [strOfNums_size, h]; decide⟩⟩
theorem rises_app : ∀ (L M : List S75) (a : Int), rises a (L ++ M) ↔ rises a L ∧ rises (lastT a L) M
  | [], M, a => by simp [rises, lastT]
  | x :: L, M, a => by
    show a ≤ x.f0 ∧ rises x.f0 (L ++ M) ↔ (a ≤ x.f0 ∧ rises x.f0 L) ∧ rises (lastT x.f0 L) M
    rw [rises_app L M x.f0, and_assoc]
/-- Rises from a, ends at b at most. -/
def seg (a b : Int) (L : List S75) : Prop := ∀ c, c ≤ a → rises c L ∧ lastT c L ≤ b
theorem seg_app {a b c d : Int} {L M : List S75} (h : seg a b L) (h' : seg c d M) (hbc : b ≤ c) (hd : b ≤ d) : seg a d (L ++ M) := by
  intro x hx
  obtain ⟨h1, h2⟩ := h x hx
  obtain ⟨h3, h4⟩ := h' (lastT x L) (by omega)
  refine ⟨(rises_app L M x).2 ⟨h1, h3⟩, ?_⟩
  have e : lastT x (L ++ M) = lastT (lastT x L) M := by
    clear h h' h1 h2 h3 h4 hx
    induction L generalizing x with
    | nil => rfl
    | cons y L ih => exact ih y.f0
  rw [e]
  exact h4
theorem seg_num (t v : Int) : seg t t (numF t v) := by
  intro c hc
  unfold numF
  split
  · exact ⟨⟨hc, trivial⟩, Int.le_refl _⟩
  · exact ⟨trivial, hc⟩
theorem seg_sum (n : IV) : seg 3 3 (sumF n) := by
  intro c hc
  unfold sumF textF
  split
  · exact ⟨⟨hc, trivial⟩, Int.le_refl _⟩
  · exact ⟨trivial, hc⟩
theorem encRec_ok (n : IV) (h : okB n = true) (hs : n.s.length = 32) : (∀ x ∈ encRec n, okF x) ∧ rises 0 (encRec n) := by
  obtain ⟨hk, hsz, hc, hv, ho, hz⟩ := ok_facts n h
  constructor
  · intro x hx
    unfold encRec at hx
    simp only [List.mem_append] at hx
    rcases hx with ((((hx | hx) | hx) | hx) | hx) | hx
    · exact okF_num 1 n.k (by decide) (by decide) (by omega) x hx
    · exact okF_num 2 n.sz (by decide) (by decide) (by omega) x hx
    · unfold sumF at hx
      split at hx
      · exact okF_text n.s hs x hx
      · exact absurd hx (by simp)
    · exact okF_num 4 n.c (by decide) (by decide) (by omega) x hx
    · exact okF_num 5 n.v (by decide) (by decide) (by omega) x hx
    · exact okF_num 6 n.o (by decide) (by decide) (by omega) x hx
  · unfold encRec
    exact (seg_app (seg_app (seg_app (seg_app (seg_app (seg_num 1 n.k) (seg_num 2 n.sz) (by decide) (by decide)) (seg_sum n) (by decide) (by decide)) (seg_num 4 n.c) (by decide) (by decide)) (seg_num 5 n.v) (by decide) (by decide)) (seg_num 6 n.o) (by decide) (by decide) 0 (by decide)).1
theorem fbI_len (x : S75) (h : okF x) (hs : x.f3.size ≤ 32) : (fbI x).length ≤ 50 := by
  rcases h.k with ⟨h1, _, h3, h4⟩ | ⟨h1, _, _⟩
  · rw [fb_num x h1, List.length_cons]
    have := numB_len 6 x.f2.toNat (by omega) (by decide)
    omega
  · rw [fb_text x h1, List.length_cons, List.length_append, bytesOf_length]
    have := numB_len 6 x.f3.size (by omega) (by decide)
    omega
theorem fl_le : ∀ (L : List S75), (∀ x ∈ L, (fbI x).length ≤ 50) → (L.flatMap fbI).length ≤ L.length * 50
  | [], _ => by simp
  | x :: L, h => by
    rw [List.flatMap_cons, List.length_append, List.length_cons]
    have := fl_le L (fun y hy => h y (by simp [hy]))
    have := h x (by simp)
    omega
theorem encRec_f3 (n : IV) (hs : n.s.length = 32) : ∀ x ∈ encRec n, x.f3.size ≤ 32 := by
  intro x hx
  have h0 : ∀ t v, x ∈ numF t v → x.f3.size ≤ 32 := by
    intro t v h
    unfold numF at h
    split at h
    · rw [List.mem_singleton] at h
      subst h
      exact Nat.zero_le _
    · exact absurd h (by simp)
  unfold encRec at hx
  simp only [List.mem_append] at hx
  rcases hx with ((((hx | hx) | hx) | hx) | hx) | hx
  · exact h0 _ _ hx
  · exact h0 _ _ hx
  · unfold sumF textF at hx
    split at hx
    · rw [List.mem_singleton] at hx
      subst hx
      show (strOfNums n.s).size ≤ 32
      rw [strOfNums_size, hs]
      exact Nat.le_refl _
    · exact absurd hx (by simp)
  · exact h0 _ _ hx
  · exact h0 _ _ hx
  · exact h0 _ _ hx
theorem encRec_bytes (n : IV) (h : okB n = true) (hs : n.s.length = 32) : ((encRec n).flatMap fbI).length ≤ 300 := by
  have h1 := fl_le (encRec n) (fun x hx => fbI_len x ((encRec_ok n h hs).1 x hx) (encRec_f3 n hs x hx))
  have h2 := encRec_len n
  omega
end Go.Proofs.YtbhioghpgedkeaaDoor.IN
namespace Go.Proofs.YtbhioghpgedkeaaDoor.PP
open Go.RowKit Go.Proofs.YtbhioghpgedkeaaDoor.MIt Go.Proofs.YtbhioghpgedkeaaDoorW.PrintWords Go.Proofs.YtbhioghpgedkeaaDoorW.PrintLast Go.Proofs.YtbhioghpgedkeaaDoorW.PrintMore
theorem namesP_jn (s : List UInt8) (h : (kindP s).2 = 0) : jn [47] (namesP s) = s := by
  unfold namesP
  by_cases hs : s = []
  · rw [if_pos hs, hs]; rfl
  · rw [if_neg hs, if_pos h]; exact jn_splitL s
theorem kindN_le {n : List UInt8} (h : kindN n ≠ 0) : n.length ≤ 24 := by
  unfold kindN at h
  split at h
  · exact absurd rfl h
  · omega
theorem namesP_le {s : List UInt8} (h : (kindP s).2 = 0) : ∀ n ∈ namesP s, n.length ≤ 24 := by
  intro n hn
  unfold namesP at hn
  split at hn
  · exact absurd hn (by simp)
  rename_i hs
  rcases (kindP_ok s h).2 with ⟨h1, _⟩ | ⟨_, _, p, m, h2, h3, h4, h5⟩
  · exact absurd h1 hs
  · rw [h2] at hn
    rcases List.mem_append.1 hn with hn | hn
    · exact kindN_le (h5 n hn).1
    · rw [List.mem_singleton] at hn
      rw [hn]
      exact kindN_le (by rw [h3]; exact h4)
theorem key_back (s : List UInt8) (h : (keyP s).2 = 0) : pathP (keyP s).1 = (s, 0) ∧ (keyP s).1.length ≤ 8 ∧ ∀ e ∈ (keyP s).1, e.f2.size ≤ 60 := by
  have hk : (kindP s).2 = 0 := by
    unfold keyP at h
    split at h
    · assumption
    · exact h
  have e : (keyP s).1 = (namesP s).map partOf := by unfold keyP; rw [if_pos hk]
  have e2 : namesOf ((namesP s).map partOf) = namesP s := by
    unfold namesOf
    rw [List.map_map]
    exact (List.map_congr_left (fun n _ => rfl)).trans (List.map_id _)
  have hg : ((namesP s).map partOf).all goodPart = true := by
    rw [List.all_eq_true]
    intro x hx
    obtain ⟨n, hn, rfl⟩ := List.mem_map.1 hx
    have hne := namesP_good hk n hn
    unfold goodPart partOf
    cases n with
    | nil => exact absurd rfl hne
    | cons c r => rfl
  refine ⟨?_, keyP_len s, ?_⟩
  · rw [e]
    unfold pathP
    rw [if_pos hg, e2, namesP_jn s hk, if_pos ⟨hk, (List.length_map _).symm⟩]
  · rw [e]
    intro x hx
    obtain ⟨n, hn, rfl⟩ := List.mem_map.1 hx
    have := namesP_le hk n hn
    show n.length ≤ 60
    omega
end Go.Proofs.YtbhioghpgedkeaaDoor.PP
namespace Go.Proofs.YtbhioghpgedkeaaDoor.IN
open Go.RowKit Go.Proofs.YtbhioghpgedkeaaDoor.MIt Go.Proofs.YtbhioghpgedkeaaDoor.MKf Go.Proofs.YtbhioghpgedkeaaDoorW.PrintWords Go.Proofs.YtbhioghpgedkeaaDoorW.PrintLast Go.Proofs.YtbhioghpgedkeaaDoorW.PrintMore
attribute [local go_sem] max2_int min2_int max_two min_two max_three min_three max_four min_four

structure BwSt (w wc : World) (g3 g4 : Nat) (n : IV) (a : AV) : Prop where
  i : isI wc g3 n
  a : isA wc g4 a
  b : Below w.heap.size w wc
theorem BwSt.below {w wc w' : World} {g3 g4 : Nat} {n : IV} {a : AV} (h : BwSt w wc g3 g4 n a) (hb : Below wc.heap.size wc w') : BwSt w w' g3 g4 n a := ⟨h.i.below hb, h.a.below hb, below_box h.b hb⟩
set_option maxHeartbeats 8000000 in
set_option maxRecDepth 100000 in
theorem back_call (n : IV) (hn : byteL n.s) (a : AV) (ha : byteL a.s) (p : ByteArray) (w : World) :
    Calls Tryd.prog 9 #[.agg (ic n).toArray, .agg (ac a).toArray, .string p] w fun e w' => e = .returned (.bool true) ∧ Below w.heap.size w w' := by
  have HM := Lib.hid hn.1
  have HMA := Lib.hid ha.1
  have HBN := Lib.hid hn
  have HBA := Lib.hid ha
  have HW := Lib.hid works_call
  clear hn ha
  go_enter Tryd.func9, Tryd.ntmps9
  go_upto_region 2 with (first | ((with_reducible refine gate_dst (N := 3) rfl ?_); refine box_event ?hg (N := 3) ?hd (cs := (ic n).toArray) (t := 24) ?hr ?_; (case hd => rfl); (case hg => rfl); (case hr => first | (go_simp; done) | (go_simp; rfl)); intro g3 hg_ w1 hbox_ hb_; have HI := Lib.hid hbox_; have HIb := Lib.hid hb_; have HIg := Lib.hid hg_; clear hbox_ hb_ hg_) | ((with_reducible refine gate_dst (N := 4) rfl ?_); refine box_event ?hg (N := 4) ?hd (cs := (ac a).toArray) (t := 26) ?hr ?_; (case hd => rfl); (case hg => rfl); (case hr => first | (go_simp; done) | (go_simp; rfl)); intro g4 hg_ w2 hbox_ hb_; have HA := Lib.hid hbox_; have HAb := Lib.hid hb_; have HAg := Lib.hid hg_; clear hbox_ hb_ hg_))
  generalize p.extract 0 (if (200 : Int) < (p.size : Int) then (200 : Int) else (p.size : Int)).toNat = q
  generalize (if (200 : Int) < (p.size : Int) then (200 : Int) else (p.size : Int)) = mm
  have HS := Lib.hid (show BwSt w w2 g3 g4 n a from ⟨isI.below HI.out HAb.out, HA.out, below_box HIb.out HAb.out⟩)
  clear HI HIb HIg HA HAb HAg
  have HE := Lib.hid (enc_call n HM.out)
  obtain ⟨l, el, hel⟩ : ∃ l el, encE n = (l, el) := ⟨_, _, rfl⟩
  rw [hel] at HE
  have HEQ := Lib.hid hel
  clear hel
  have HI := Lib.hid HS.out.i
  go_upto_if 34 with (first | ((with_reducible refine gate_dst (N := 29) rfl ?_); (try (refine gate_guard (by rfl) ?_; dsimp only)); refine wpList_load_row rfl 24 (.tmp 3) rfl g3 (by rfl) 24 (ic n).toArray (0, 0) _ HI.out Tryd.underlying24 rfl (by rw [List.size_toArray, ic_len HM.out]; kernel_rfl) ?_) | (go_at_call 24; (with_reducible refine (HE.out _).mono ?_); rintro e w3 ⟨v3, rfl, hr3, hb3⟩; obtain ⟨A3, c3, eo3⟩ := Kd.R_slice hr3; subst eo3; have HR3 := Lib.hid (Kd.R_reads' hr3); have HS3 := Lib.hid (HS.out.below hb3); clear hr3 hb3))
  clear HI HS HE
  go_cut [] (fun wc => Hid (BwSt w wc g3 g4 n a))
  case first =>
    cases hk : okB n
    · have he := HEQ.out
      rw [show encE n = ([], 2) by unfold encE; rw [hk]; rfl, Prod.mk.injEq] at he
      obtain ⟨rfl, rfl⟩ := he
      clear hk
      go_wp2
      go_meet
      exact HS3
    · have HOK := Lib.hid (encRec_ok n hk HM.out)
      have HBY := Lib.hid (encRec_bytes n hk HM.out)
      have HBK := Lib.hid (inode_back n hk HBN.out)
      have he := HEQ.out
      rw [show encE n = (encRec n, 0) by unfold encE; rw [hk]; rfl, Prod.mk.injEq] at he
      obtain ⟨e1, rfl⟩ := he
      have HEL := Lib.hid (encRec_len n)
      rw [e1] at HOK HBY HBK HEL
      clear hk e1 HEQ
      go_upto_region 5 with (first | (go_at_call 39; (with_reducible refine (fenc_call A3 c3 l HOK.out.1 HOK.out.2 (by have := HEL.out; omega) (by have := HBY.out; omega) _ HR3.out.2.2).mono ?_); rintro e w4 ⟨rfl, hb4⟩; have HS4 := Lib.hid (HS3.out.below hb4); clear hb4))
      clear HR3 HS3
      go_upto_region 6 with (first | (go_at_call 40; (with_reducible refine (fdec_call l HOK.out.1 HOK.out.2 (by have := HEL.out; omega) (by have := HBY.out; omega) _).mono ?_); rintro e w5 ⟨v5, rfl, hr5, hb5⟩; obtain ⟨A5, c5, eo5⟩ := Kd.R_slice hr5; subst eo5; have HR5 := Lib.hid (Kd.R_reads' hr5); have HS5 := Lib.hid (HS4.out.below hb5); clear hr5 hb5))
      clear HS4
      have hdec := fun (W : World) hC => decI_call A5 c5 l (by have := HEL.out; omega) HR5.out.2.1 W hC
      rw [HBK.out] at hdec
      have HD := Lib.hid hdec
      clear hdec
      go_upto_region 7 with (first | (go_at_call 26; (with_reducible refine (HD.out _ HR5.out.2.2).mono ?_); rintro e w6 ⟨rfl, hb6⟩; have HS6 := Lib.hid (HS5.out.below hb6); clear hb6) | ((with_reducible refine gate_dst (N := 13) rfl ?_); refine wpList_exec_value rfl (exec_alloc 24 rfl (alloc24_run _)) ?_) | (refine wpList_store_row rfl 24 (.tmp 13) (.tmp 48) rfl w6.heap.size (ic n).toArray (by rfl) (by rfl) 24 _ (heap_alloc_new _ _) (size24 HM.out) (by rw [List.size_toArray, List.size_toArray, ic_len HM.out]; rfl) (ic_one n) ?_; rw [World.setRow_alloc_new]))
      clear HS5 HR5 HD
      have HS7 := Lib.hid (HS6.out.below (below_alloc (Below.refl _ _) (.cells (ic n).toArray 24)))
      have HG7 := Lib.hid (show isI (w6.alloc (.cells (ic n).toArray 24)) w6.heap.size n from heap_alloc_new _ _)
      clear HS6
      generalize w6.alloc (.cells (ic n).toArray 24) = w7 at HS7 HG7 ⊢
      generalize w6.heap.size = g13 at HG7 ⊢
      have HI7 := Lib.hid HS7.out.i
      have hq : ∀ W : World, (Op.equalIn 10000 24 (.agg (ic n).toArray) (.agg (ic n).toArray)).run Tryd.prog W = .ok true W := fun W => (eq24 9997 W HM.out HM.out).trans (by rw [decide_eq_true rfl])
      go_wp2_with (first | ((with_reducible refine gate_dst (N := 61) rfl ?_); (try (refine gate_guard (by rfl) ?_; dsimp only)); refine wpList_load_row rfl 24 (.tmp 13) rfl g13 (by rfl) 24 (ic n).toArray (0, 0) _ HG7.out Tryd.underlying24 rfl (by rw [List.size_toArray, ic_len HM.out]; kernel_rfl) ?_) | ((with_reducible refine gate_dst (N := 62) rfl ?_); (try (refine gate_guard (by rfl) ?_; dsimp only)); refine wpList_load_row rfl 24 (.tmp 3) rfl g3 (by rfl) 24 (ic n).toArray (0, 0) _ HI7.out Tryd.underlying24 rfl (by rw [List.size_toArray, ic_len HM.out]; kernel_rfl) ?_))
      go_meet
      exact HS7
  case rest =>
  clear HR3 HS3 HEQ
  have HS := Lib.hid hcut.out
  clear hcut
  have HE := Lib.hid (encA_call a HMA.out)
  obtain ⟨l2, el2, hel⟩ : ∃ l el, archE a = (l, el) := ⟨_, _, rfl⟩
  rw [hel] at HE
  have HEQ := Lib.hid hel
  clear hel
  have HA := Lib.hid HS.out.a
  go_upto_if 71 with (first | ((with_reducible refine gate_dst (N := 66) rfl ?_); (try (refine gate_guard (by rfl) ?_; dsimp only)); refine wpList_load_row rfl 26 (.tmp 4) rfl g4 (by rfl) 26 (ac a).toArray (0, 0) _ HA.out Tryd.underlying26 rfl (by rw [List.size_toArray, ac_len HMA.out]; kernel_rfl) ?_) | (go_at_call 19; (with_reducible refine (HE.out _).mono ?_); rintro e w3 ⟨v3, rfl, hr3, hb3⟩; obtain ⟨A4, c4, eo3⟩ := Kd.R_slice hr3; subst eo3; have HR3 := Lib.hid (Kd.R_reads' hr3); have HS3 := Lib.hid (HS.out.below hb3); clear hr3 hb3))
  clear HA HS HE
  go_cut [] (fun wc => Hid (BwSt w wc g3 g4 n a))
  case first =>
    cases hk : archOk a
    · have he := HEQ.out
      rw [show archE a = ([], 2) by unfold archE; rw [hk]; rfl, Prod.mk.injEq] at he
      obtain ⟨rfl, rfl⟩ := he
      clear hk
      go_wp2
      go_meet
      exact HS3
    · have HBK := Lib.hid (arch_back a hk HBA.out)
      have he := HEQ.out
      rw [show archE a = (archRec a, 0) by unfold archE; rw [hk]; rfl, Prod.mk.injEq] at he
      obtain ⟨e1, rfl⟩ := he
      have HEL := Lib.hid (archRec_len a)
      rw [e1] at HBK HEL
      clear hk e1 HEQ
      have hdec := fun (W : World) hC => decA_call A4 c4 l2 (by have := HEL.out; omega) HR3.out.2.1 W hC
      rw [HBK.out] at hdec
      have HD := Lib.hid hdec
      clear hdec
      go_upto_region 12 with (first | (go_at_call 21; (with_reducible refine (HD.out _ HR3.out.2.2).mono ?_); rintro e w6 ⟨rfl, hb6⟩; have HS6 := Lib.hid (HS3.out.below hb6); clear hb6) | ((with_reducible refine gate_dst (N := 17) rfl ?_); refine wpList_exec_value rfl (exec_alloc 26 rfl (alloc26_run _)) ?_) | (refine wpList_store_row rfl 26 (.tmp 17) (.tmp 75) rfl w6.heap.size (ac a).toArray (by rfl) (by rfl) 26 _ (heap_alloc_new _ _) (size26 HMA.out) (by rw [List.size_toArray, List.size_toArray, ac_len HMA.out]; rfl) (ac_one a) ?_; rw [World.setRow_alloc_new]))
      clear HS3 HR3 HD
      have HS7 := Lib.hid (HS6.out.below (below_alloc (Below.refl _ _) (.cells (ac a).toArray 26)))
      have HG7 := Lib.hid (show isA (w6.alloc (.cells (ac a).toArray 26)) w6.heap.size a from heap_alloc_new _ _)
      clear HS6
      generalize w6.alloc (.cells (ac a).toArray 26) = w7 at HS7 HG7 ⊢
      generalize w6.heap.size = g13 at HG7 ⊢
      have HI7 := Lib.hid HS7.out.a
      have hq : ∀ W : World, (Op.equalIn 10000 26 (.agg (ac a).toArray) (.agg (ac a).toArray)).run Tryd.prog W = .ok true W := fun W => (eq26 9997 W HMA.out HMA.out).trans (by rw [decide_eq_true rfl])
      go_wp2_with (first | ((with_reducible refine gate_dst (N := 80) rfl ?_); (try (refine gate_guard (by rfl) ?_; dsimp only)); refine wpList_load_row rfl 26 (.tmp 17) rfl g13 (by rfl) 26 (ac a).toArray (0, 0) _ HG7.out Tryd.underlying26 rfl (by rw [List.size_toArray, ac_len HMA.out]; kernel_rfl) ?_) | ((with_reducible refine gate_dst (N := 81) rfl ?_); (try (refine gate_guard (by rfl) ?_; dsimp only)); refine wpList_load_row rfl 26 (.tmp 4) rfl g4 (by rfl) 26 (ac a).toArray (0, 0) _ HI7.out Tryd.underlying26 rfl (by rw [List.size_toArray, ac_len HMA.out]; kernel_rfl) ?_))
      go_meet
      exact HS7
  case rest =>
  clear HR3 HS3 HEQ
  have HS := Lib.hid hcut.out.b
  clear hcut
  obtain ⟨l3, el3, hel⟩ : ∃ l el, PP.keyP q.data.toList = (l, el) := ⟨_, _, rfl⟩
  have HEQ := Lib.hid hel
  have HE := Lib.hid (fun W => Ext.inode_Key.calls q l3 el3 W (congrArg some hel))
  clear hel
  go_upto_if 90 with (first | (go_at_call 29; (with_reducible refine (HE.out _).mono ?_); rintro e w3 ⟨v3, rfl, hr3, hb3⟩; obtain ⟨A6, c6, eo3⟩ := Kd.R_slice hr3; subst eo3; have HR3 := Lib.hid (Kd.R_reads' hr3); have HS3 := Lib.hid (below_box HS.out hb3); clear hr3 hb3))
  clear HS HE
  go_cut [] (fun wc => Hid (Below w.heap.size w wc))
  case first =>
    by_cases hk : el3 = 0
    · subst hk
      have hb := PP.key_back q.data.toList (by rw [HEQ.out])
      rw [HEQ.out] at hb
      obtain ⟨h1, h2, h3⟩ := hb
      have hp : MKb.inode_Path.f 400 l3 = some (q, 0) := (PP.Path_eq l3 (by show l3.length ≤ 12; have h2 : l3.length ≤ 8 := h2; omega) h3 400 (Nat.le_refl _)).trans (by rw [h1]; rfl)
      have HP := Lib.hid (fun W hC => MKb.inode_Path.calls 400 A6 c6 l3 q 0 W hC HR3.out.2.1 hp)
      clear h1 h2 h3 hp
      go_wp2_with (first | (go_at_call 31; (with_reducible refine (HP.out _ HR3.out.2.2).mono ?_); rintro e w6 ⟨rfl, hb6⟩; have HS6 := Lib.hid (below_box HS3.out hb6); clear hb6))
      go_meet
      exact HS6
    · have c1 : (el3 == 0) = false := by simpa using hk
      go_wp2
      go_meet
      exact HS3
  case rest =>
  clear HR3 HS3 HEQ
  have HS := Lib.hid hcut.out
  clear hcut
  go_wp2_with (first | (go_at_call 16; (with_reducible refine (HW.out _).mono ?_); rintro e w6 ⟨rfl, hb6⟩; have HS6 := Lib.hid (below_box HS.out hb6); clear hb6))
  go_ret
  exact ⟨rfl, HS6.out⟩
end Go.Proofs.YtbhioghpgedkeaaDoor.IN
