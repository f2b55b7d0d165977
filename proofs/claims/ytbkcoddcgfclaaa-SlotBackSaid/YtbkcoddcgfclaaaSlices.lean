/- slices.Clone, Grow, Concat at the seat's three element types: contracts of their walks. (Printed by gen.py.) -/
import Derived.Test.YtbkcoddcgfclaaaMSlotx0
import Derived.Lib.SliceRun
import Derived.Lib.Hide
import Derived.WalkSpells
set_option linter.unusedSimpArgs false
set_option linter.unusedVariables false
namespace Go.Proofs.Ytbkcoddcgfclaaa.Ext
open Go.Proofs.Ytbkcoddcgfclaaa.MSlot Go.RowKit Go.Proofs.YtbkcoddcgfclaaaW.PrintWords Go.Proofs.YtbkcoddcgfclaaaW.PrintLast Go.Proofs.YtbkcoddcgfclaaaW.PrintMore

theorem at_sl {α : Type} {d : Kd α} {e : Nat} {w : World} {A : Option Addr} {n : Nat} {xs : List (List α)} (h : Kd.C (Kd.slice e d) w A n xs) (k : Nat) (hk : k < xs.length) :
    ∃ ad A0 c0, A = some ad ∧ w.cell? (ad.add k) = some (.slice A0 (xs[k]'hk).length c0) ∧ (xs[k]'hk).length ≤ c0 ∧ d.C w A0 (xs[k]'hk).length (xs[k]'hk) := by
  have hn := h.1
  obtain ⟨ad, c, e', _, hK, hc⟩ := Kd.C_get h [] (k : Int) (by omega) (by omega)
  have hx : xs.getD (k : Int).toNat [] = xs[k]'hk := by
    rw [Int.toNat_natCast, List.getD_eq_getElem?_getD, List.getElem?_eq_getElem hk]
    rfl
  rw [hx] at hK
  obtain ⟨A0, c0, rfl, l0, g0⟩ := hK
  refine ⟨ad, A0, c0, e', ?_, l0, g0⟩
  have hq := hc 0 _ rfl
  simpa [Kd.slice] using hq
theorem flat_take {α : Type} (ll : List (List α)) (k : Nat) (hk : k < ll.length) : (ll.take (k + 1)).flatten = (ll.take k).flatten ++ ll[k] := by
  rw [List.take_succ_eq_append_getElem hk, List.flatten_append, List.flatten_singleton]
/-- How many stand in the first k rows. -/
def fLen {α : Type} (ll : List (List α)) (k : Nat) : Nat := (ll.take k).flatten.length
theorem fLen_succ {α : Type} (ll : List (List α)) (k : Nat) (hk : k < ll.length) : fLen ll (k + 1) = fLen ll k + ll[k].length := by
  unfold fLen
  rw [flat_take ll k hk, List.length_append]
theorem flat_len {α : Type} (M : Nat) : ∀ (ll : List (List α)), (∀ l ∈ ll, l.length ≤ M) → ll.flatten.length ≤ ll.length * M
  | [], _ => by simp
  | l :: ll, h => by
    have h1 := h l (by simp)
    have h2 := flat_len M ll (fun x hx => h x (by simp [hx]))
    simp only [List.flatten_cons, List.length_append, List.length_cons, Nat.add_mul]
    omega
def slices_Clone_aquifer_api_Cell_aquifer_api_Cell.f (l0 : List S43) : Option (List S43) := if l0.length ≤ 1000000 then some l0 else none
set_option maxHeartbeats 2000000 in
theorem slices_Clone_aquifer_api_Cell_aquifer_api_Cell.calls (A0 : Option Addr) (c0 : Nat) (l0 : List S43) (r : List S43) (w : World) (hr0 : Kd.C k43 w A0 l0.length l0) (hc0 : l0.length ≤ c0) (h : slices_Clone_aquifer_api_Cell_aquifer_api_Cell.f l0 = some r) :
    Calls Try.prog 45 #[.slice A0 l0.length c0] w fun e w' => ∃ v0_ : Value, e = .returned (v0_) ∧ Kd.R k43 43 w' w.heap.size (fun _ => True) v0_ r ∧ Below w.heap.size w w' := by
  unfold slices_Clone_aquifer_api_Cell_aquifer_api_Cell.f at h
  by_cases hl : l0.length ≤ 1000000
  · rw [if_pos hl] at h
    obtain rfl := Option.some.inj h
    clear h
    have HR := Lib.hid hr0
    clear hr0
    cases A0 with
    | none =>
      have hn : l0 = [] := by
        have h3 := HR.out.2.2
        cases l0 with
        | nil => rfl
        | cons x l => obtain ⟨ad, e, _⟩ := h3 (by simp); cases e
      clear HR
      subst hn
      have heq : ∀ W : World, (binOp .eql 22 (.slice none 0 c0) (.slice none 0 0)).run Try.prog W = .ok (.bool true) W := fun W => Lib.run_eql_slice_nil (P := Try.prog) W 22 43 none 0 c0 0 0 Try.underlying22
      clear hc0 hl
      show Calls Try.prog 45 #[.slice none 0 c0] w _
      go_enter Try.func45, Try.ntmps45
      go_wp2
      go_ret
      exact ⟨_, rfl, Kd.R_nil _ _ _ _ _, Below.refl _ _⟩
    | some ad =>
      have heq : ∀ W : World, (binOp .eql 22 (.slice (some ad) l0.length c0) (.slice none 0 0)).run Try.prog W = .ok (.bool false) W := fun W => Lib.run_eql_slice_nil (P := Try.prog) W 22 43 (some ad) l0.length c0 0 0 Try.underlying22
      have HL := Lib.hid hl
      clear hl
      go_enter Try.func45, Try.ntmps45
      go_wp2_with (first | ((with_reducible refine gate_builtin (b := .append) (xs := #[.tmp 5, .tmp 6]) rfl ?_); at_builtin; refine Kd.R_append_rows k43 (w0 := w) w.heap.size rfl (.tmp 5) (.tmp 6) 22 43 (.agg #[(.string ⟨#[]⟩), (.string ⟨#[]⟩), (.int .i64 0), (.int .i64 0)]) 48 rfl Try.underlying22 info43 rfl (by decide) (by omega) (.slice (some ⟨w.heap.size, 0, none⟩) 0 0) [] l0 (some ad) l0.length c0 (fun _ => True) (fun _ => False) rfl rfl ⟨fun _ _ => trivial, OwnRow.lit w w.heap.size (Reps.none _ _) (Nat.le_refl _) (by simp)⟩ (Kd.C_alloc HR.out _) (fun _ _ h => h) (fun _ hk => hk.elim) (fun _ _ => trivial) (below_alloc (Below.refl _ _) _) (by simp) (by have := HL.out; simp only [List.length_nil]; omega) ?_; intro v1 w1 ho hb hg hat; have HO := Lib.hid ho; have HB := Lib.hid hb; clear ho hb hg hat))
      go_ret
      exact ⟨_, rfl, by simpa using HO.out, HB.out⟩
  · rw [if_neg hl] at h
    cases h
set_option maxHeartbeats 2000000 in
set_option maxRecDepth 100000 in
theorem slices_Grow_aquifer_api_Cell_aquifer_api_Cell.nil (n : Nat) (hn : n ≤ 1000000000) (w : World) :
    Calls Try.prog 53 #[.slice none 0 0, .int .i64 n] w fun e w' => ∃ v0_ : Value, e = .returned (v0_) ∧ Kd.R k43 43 w' w.heap.size (fun _ => True) v0_ [] ∧ Below w.heap.size w w' := by
  obtain ⟨i0, hi0, _, _, _⟩ := info_parts info43
  have hcut0 := cut_to (P := Try.prog) 22 43 .i64 Try.underlying22 hi0 none 0 0 0 (by omega) (by omega) (by omega)
  by_cases h0 : n = 0
  · subst h0
    clear hcut0
    go_enter Try.func53, Try.ntmps53
    go_wp2
    go_ret
    exact ⟨_, rfl, Kd.R_nil _ _ _ _ _, Below.refl _ _⟩
  · have h1 : 0 < n := by omega
    have h1' : (0 : Int) < (n : Int) := by omega
    go_enter Try.func53, Try.ntmps53
    go_wp2_with (first | ((with_reducible refine gate_builtin (b := .append) (xs := #[.tmp 20, .tmp 21]) rfl ?_); at_builtin; refine Kd.R_append_zeros k43 (w0 := w) w.heap.size rfl (.tmp 20) (.tmp 21) 22 3 43 (.agg #[(.string ⟨#[]⟩), (.string ⟨#[]⟩), (.int .i64 0), (.int .i64 0)]) 48 rfl Try.underlying22 Try.underlying3 info43 rfl (by decide) (by omega) (.slice none 0 0) [] z43 (n : Int) (fun _ => True) rfl rfl ⟨_, _, rfl, rfl, ⟨_, _, rfl, rfl, ⟨_, _, rfl, rfl, rfl⟩⟩⟩ (fun _ _ => trivial) (Kd.R_nil _ _ _ _ _) (by omega) (Below.refl _ _) (Nat.le_refl _) (by simp only [List.length_nil]; omega) ?_; intro v1 w1 ho hb hg hat; obtain ⟨A1, c1, rfl⟩ := Kd.R_slice ho; have hc1 := (Kd.R_reads' ho).2.1; have HO := Lib.hid ho; have HB := Lib.hid hb; have hcut1 := cut_to (P := Try.prog) 22 43 .i64 Try.underlying22 hi0 A1 _ c1 0 (by omega) (by omega) hc1; clear ho hb hg hat hc1))
    go_ret
    exact ⟨_, rfl, by have := Kd.R_take (m := 0) HO.out (Nat.zero_le _); simpa using this, HB.out⟩
def slices_Concat_aquifer_api_Cell_aquifer_api_Cell.f (l0 : List (List S43)) : Option (List S43) := if l0.length ≤ 900 ∧ ∀ l ∈ l0, l.length ≤ 1000000 then some l0.flatten else none
set_option maxHeartbeats 4000000 in
set_option maxRecDepth 100000 in
theorem slices_Concat_aquifer_api_Cell_aquifer_api_Cell.calls (A0 : Option Addr) (c0 : Nat) (l0 : List (List S43)) (r : List S43) (w : World) (hr0 : Kd.C (Kd.slice 43 k43) w A0 l0.length l0) (hc0 : l0.length ≤ c0) (h : slices_Concat_aquifer_api_Cell_aquifer_api_Cell.f l0 = some r) :
    Calls Try.prog 28 #[.slice A0 l0.length c0] w fun e w' => ∃ v0_ : Value, e = .returned (v0_) ∧ Kd.R k43 43 w' w.heap.size (fun _ => True) v0_ r ∧ Below w.heap.size w w' := by
  unfold slices_Concat_aquifer_api_Cell_aquifer_api_Cell.f at h
  by_cases hl : l0.length ≤ 900 ∧ ∀ l ∈ l0, l.length ≤ 1000000
  · rw [if_pos hl] at h
    obtain rfl := Option.some.inj h
    clear h
    obtain ⟨hl1, hl2⟩ := hl
    have HL := Lib.hid hl2
    have HR := Lib.hid hr0
    have hsum : ∀ k, fLen l0 k ≤ 900000000 := by
      intro k
      unfold fLen
      have h1 := flat_len 1000000 (l0.take k) (fun l hl => hl2 l (List.mem_of_mem_take hl))
      have h2 : (l0.take k).length * 1000000 ≤ 900 * 1000000 := Nat.mul_le_mul_right _ (by rw [List.length_take]; omega)
      omega
    have HS := Lib.hid hsum
    clear hl2 hr0 hsum
    go_enter Try.func28, Try.ntmps28
    go_wp2
    go_loop [3, 11] (fun t i => ∃ k : Nat, k ≤ l0.length ∧ i = .int .i64 k ∧ t = .int .i64 (fLen l0 k : Nat)) (fun _ i => l0.length - (intOf i).toNat)
    case atStart => exact ⟨0, Nat.zero_le _, rfl, rfl⟩
    case round =>
      obtain ⟨k, hk, rfl, rfl⟩ := hrel
      have hsk := HS.out k
      by_cases hlt : k < l0.length
      · obtain ⟨ad, A1, c1, rfl, hcell, hle, hC⟩ := at_sl HR.out k hlt
        have hsk1 := HS.out (k + 1)
        have hf := fLen_succ l0 k hlt
        rw [hf] at hsk1
        have HF := Lib.hid hf
        clear hf hC
        go_wp2
        go_round
        case rel => exact ⟨k + 1, by omega, by go_num, by rw [HF.out]; go_num⟩
        case measure => simp [intOf]; omega
      · have hkl : k = l0.length := by omega
        subst hkl
        go_wp2_with (first | (go_at_call 53; refine (slices_Grow_aquifer_api_Cell_aquifer_api_Cell.nil (fLen l0 l0.length) (by omega) _).mono ?_; rintro e w1 ⟨v1, rfl, ho1, hb1⟩; have HO1 := Lib.hid ho1; have HB1 := Lib.hid hb1; clear ho1 hb1))
        go_loopw [6, 27] (fun v i wr => ∃ k : Nat, k ≤ l0.length ∧ i = .int .i64 k ∧ Hid (Kd.R k43 43 wr w.heap.size (fun _ => True) v (l0.take k).flatten) ∧ Hid (Below w.heap.size w wr)) (fun _ i _ => l0.length - (intOf i).toNat)
        case atStart => exact ⟨0, Nat.zero_le _, rfl, HO1, HB1⟩
        case round =>
          obtain ⟨j, hj, rfl, HOr, HBr⟩ := hrel
          by_cases hlt : j < l0.length
          · obtain ⟨ad, A1, c1, rfl, hcell, hle, hC⟩ := at_sl (Kd.C_below HR.out HBr.out) j hlt
            have hsk1 := HS.out (j + 1)
            rw [fLen_succ l0 j hlt] at hsk1
            unfold fLen at hsk1
            have HK1 := Lib.hid hsk1
            clear hsk1
            have hf := flat_take l0 j hlt
            have HF := Lib.hid hf
            have HC := Lib.hid hC
            clear hf hC
            go_wp2_with (first | ((with_reducible refine gate_builtin (b := .append) (xs := #[.tmp 31, .tmp 32]) rfl ?_); at_builtin; refine Kd.R_append_rows k43 (w0 := w) w.heap.size rfl (.tmp 31) (.tmp 32) 22 43 (.agg #[(.string ⟨#[]⟩), (.string ⟨#[]⟩), (.int .i64 0), (.int .i64 0)]) 48 rfl Try.underlying22 info43 rfl (by decide) (by omega) _ (l0.take j).flatten l0[j] A1 l0[j].length c1 (fun _ => True) (fun _ => False) rfl rfl HOr.out HC.out (fun _ _ h => h) (fun _ hk => hk.elim) (fun _ _ => trivial) HBr.out (HBr.out.size) (by have := HK1.out; omega) ?_; intro v2 w2 ho hb hg hat; have HO2 := Lib.hid ho; have HB2 := Lib.hid hb; clear ho hb hg hat))
            go_roundw
            case rel => exact ⟨j + 1, by omega, by go_num, by rw [HF.out]; exact HO2, HB2⟩
            case measure => simp [intOf]; omega
          · have hjl : j = l0.length := by omega
            subst hjl
            go_wp2
            go_ret
            exact ⟨_, rfl, by have := HOr.out; rwa [List.take_length] at this, HBr.out⟩
  · rw [if_neg hl] at h
    cases h
def slices_Clone_string_string.f (l0 : List ByteArray) : Option (List ByteArray) := if l0.length ≤ 1000000 then some l0 else none
set_option maxHeartbeats 2000000 in
theorem slices_Clone_string_string.calls (A0 : Option Addr) (c0 : Nat) (l0 : List ByteArray) (r : List ByteArray) (w : World) (hr0 : Kd.C Kd.string w A0 l0.length l0) (hc0 : l0.length ≤ c0) (h : slices_Clone_string_string.f l0 = some r) :
    Calls Try.prog 46 #[.slice A0 l0.length c0] w fun e w' => ∃ v0_ : Value, e = .returned (v0_) ∧ Kd.R Kd.string 9 w' w.heap.size (fun _ => True) v0_ r ∧ Below w.heap.size w w' := by
  unfold slices_Clone_string_string.f at h
  by_cases hl : l0.length ≤ 1000000
  · rw [if_pos hl] at h
    obtain rfl := Option.some.inj h
    clear h
    have HR := Lib.hid hr0
    clear hr0
    cases A0 with
    | none =>
      have hn : l0 = [] := by
        have h3 := HR.out.2.2
        cases l0 with
        | nil => rfl
        | cons x l => obtain ⟨ad, e, _⟩ := h3 (by simp); cases e
      clear HR
      subst hn
      have heq : ∀ W : World, (binOp .eql 23 (.slice none 0 c0) (.slice none 0 0)).run Try.prog W = .ok (.bool true) W := fun W => Lib.run_eql_slice_nil (P := Try.prog) W 23 9 none 0 c0 0 0 Try.underlying23
      clear hc0 hl
      show Calls Try.prog 46 #[.slice none 0 c0] w _
      go_enter Try.func46, Try.ntmps46
      go_wp2
      go_ret
      exact ⟨_, rfl, Kd.R_nil _ _ _ _ _, Below.refl _ _⟩
    | some ad =>
      have heq : ∀ W : World, (binOp .eql 23 (.slice (some ad) l0.length c0) (.slice none 0 0)).run Try.prog W = .ok (.bool false) W := fun W => Lib.run_eql_slice_nil (P := Try.prog) W 23 9 (some ad) l0.length c0 0 0 Try.underlying23
      have HL := Lib.hid hl
      clear hl
      go_enter Try.func46, Try.ntmps46
      go_wp2_with (first | ((with_reducible refine gate_builtin (b := .append) (xs := #[.tmp 5, .tmp 6]) rfl ?_); at_builtin; refine Kd.R_append_rows Kd.string (w0 := w) w.heap.size rfl (.tmp 5) (.tmp 6) 23 9 (.string ⟨#[]⟩) 16 rfl Try.underlying23 info9 rfl (by decide) (by omega) (.slice (some ⟨w.heap.size, 0, none⟩) 0 0) [] l0 (some ad) l0.length c0 (fun _ => True) (fun _ => False) rfl rfl ⟨fun _ _ => trivial, OwnRow.lit w w.heap.size (Reps.none _ _) (Nat.le_refl _) (by simp)⟩ (Kd.C_alloc HR.out _) (fun _ _ h => h) (fun _ hk => hk.elim) (fun _ _ => trivial) (below_alloc (Below.refl _ _) _) (by simp) (by have := HL.out; simp only [List.length_nil]; omega) ?_; intro v1 w1 ho hb hg hat; have HO := Lib.hid ho; have HB := Lib.hid hb; clear ho hb hg hat))
      go_ret
      exact ⟨_, rfl, by simpa using HO.out, HB.out⟩
  · rw [if_neg hl] at h
    cases h
set_option maxHeartbeats 2000000 in
set_option maxRecDepth 100000 in
theorem slices_Grow_string_string.nil (n : Nat) (hn : n ≤ 1000000000) (w : World) :
    Calls Try.prog 54 #[.slice none 0 0, .int .i64 n] w fun e w' => ∃ v0_ : Value, e = .returned (v0_) ∧ Kd.R Kd.string 9 w' w.heap.size (fun _ => True) v0_ [] ∧ Below w.heap.size w w' := by
  obtain ⟨i0, hi0, _, _, _⟩ := info_parts info9
  have hcut0 := cut_to (P := Try.prog) 23 9 .i64 Try.underlying23 hi0 none 0 0 0 (by omega) (by omega) (by omega)
  by_cases h0 : n = 0
  · subst h0
    clear hcut0
    go_enter Try.func54, Try.ntmps54
    go_wp2
    go_ret
    exact ⟨_, rfl, Kd.R_nil _ _ _ _ _, Below.refl _ _⟩
  · have h1 : 0 < n := by omega
    have h1' : (0 : Int) < (n : Int) := by omega
    go_enter Try.func54, Try.ntmps54
    go_wp2_with (first | ((with_reducible refine gate_builtin (b := .append) (xs := #[.tmp 20, .tmp 21]) rfl ?_); at_builtin; refine Kd.R_append_zeros Kd.string (w0 := w) w.heap.size rfl (.tmp 20) (.tmp 21) 23 3 9 (.string ⟨#[]⟩) 16 rfl Try.underlying23 Try.underlying3 info9 rfl (by decide) (by omega) (.slice none 0 0) [] ⟨#[]⟩ (n : Int) (fun _ => True) rfl rfl rfl (fun _ _ => trivial) (Kd.R_nil _ _ _ _ _) (by omega) (Below.refl _ _) (Nat.le_refl _) (by simp only [List.length_nil]; omega) ?_; intro v1 w1 ho hb hg hat; obtain ⟨A1, c1, rfl⟩ := Kd.R_slice ho; have hc1 := (Kd.R_reads' ho).2.1; have HO := Lib.hid ho; have HB := Lib.hid hb; have hcut1 := cut_to (P := Try.prog) 23 9 .i64 Try.underlying23 hi0 A1 _ c1 0 (by omega) (by omega) hc1; clear ho hb hg hat hc1))
    go_ret
    exact ⟨_, rfl, by have := Kd.R_take (m := 0) HO.out (Nat.zero_le _); simpa using this, HB.out⟩
def slices_Concat_string_string.f (l0 : List (List ByteArray)) : Option (List ByteArray) := if l0.length ≤ 900 ∧ ∀ l ∈ l0, l.length ≤ 1000000 then some l0.flatten else none
set_option maxHeartbeats 4000000 in
set_option maxRecDepth 100000 in
theorem slices_Concat_string_string.calls (A0 : Option Addr) (c0 : Nat) (l0 : List (List ByteArray)) (r : List ByteArray) (w : World) (hr0 : Kd.C (Kd.slice 9 Kd.string) w A0 l0.length l0) (hc0 : l0.length ≤ c0) (h : slices_Concat_string_string.f l0 = some r) :
    Calls Try.prog 29 #[.slice A0 l0.length c0] w fun e w' => ∃ v0_ : Value, e = .returned (v0_) ∧ Kd.R Kd.string 9 w' w.heap.size (fun _ => True) v0_ r ∧ Below w.heap.size w w' := by
  unfold slices_Concat_string_string.f at h
  by_cases hl : l0.length ≤ 900 ∧ ∀ l ∈ l0, l.length ≤ 1000000
  · rw [if_pos hl] at h
    obtain rfl := Option.some.inj h
    clear h
    obtain ⟨hl1, hl2⟩ := hl
    have HL := Lib.hid hl2
    have HR := Lib.hid hr0
    have hsum : ∀ k, fLen l0 k ≤ 900000000 := by
      intro k
      unfold fLen
      have h1 := flat_len 1000000 (l0.take k) (fun l hl => hl2 l (List.mem_of_mem_take hl))
      have h2 : (l0.take k).length * 1000000 ≤ 900 * 1000000 := Nat.mul_le_mul_right _ (by rw [List.length_take]; omega)
      omega
    have HS := Lib.hid hsum
    clear hl2 hr0 hsum
    go_enter Try.func29, Try.ntmps29
    go_wp2
    go_loop [3, 11] (fun t i => ∃ k : Nat, k ≤ l0.length ∧ i = .int .i64 k ∧ t = .int .i64 (fLen l0 k : Nat)) (fun _ i => l0.length - (intOf i).toNat)
    case atStart => exact ⟨0, Nat.zero_le _, rfl, rfl⟩
    case round =>
      obtain ⟨k, hk, rfl, rfl⟩ := hrel
      have hsk := HS.out k
      by_cases hlt : k < l0.length
      · obtain ⟨ad, A1, c1, rfl, hcell, hle, hC⟩ := at_sl HR.out k hlt
        have hsk1 := HS.out (k + 1)
        have hf := fLen_succ l0 k hlt
        rw [hf] at hsk1
        have HF := Lib.hid hf
        clear hf hC
        go_wp2
        go_round
        case rel => exact ⟨k + 1, by omega, by go_num, by rw [HF.out]; go_num⟩
        case measure => simp [intOf]; omega
      · have hkl : k = l0.length := by omega
        subst hkl
        go_wp2_with (first | (go_at_call 54; refine (slices_Grow_string_string.nil (fLen l0 l0.length) (by omega) _).mono ?_; rintro e w1 ⟨v1, rfl, ho1, hb1⟩; have HO1 := Lib.hid ho1; have HB1 := Lib.hid hb1; clear ho1 hb1))
        go_loopw [6, 27] (fun v i wr => ∃ k : Nat, k ≤ l0.length ∧ i = .int .i64 k ∧ Hid (Kd.R Kd.string 9 wr w.heap.size (fun _ => True) v (l0.take k).flatten) ∧ Hid (Below w.heap.size w wr)) (fun _ i _ => l0.length - (intOf i).toNat)
        case atStart => exact ⟨0, Nat.zero_le _, rfl, HO1, HB1⟩
        case round =>
          obtain ⟨j, hj, rfl, HOr, HBr⟩ := hrel
          by_cases hlt : j < l0.length
          · obtain ⟨ad, A1, c1, rfl, hcell, hle, hC⟩ := at_sl (Kd.C_below HR.out HBr.out) j hlt
            have hsk1 := HS.out (j + 1)
            rw [fLen_succ l0 j hlt] at hsk1
            unfold fLen at hsk1
            have HK1 := Lib.hid hsk1
            clear hsk1
            have hf := flat_take l0 j hlt
            have HF := Lib.hid hf
            have HC := Lib.hid hC
            clear hf hC
            go_wp2_with (first | ((with_reducible refine gate_builtin (b := .append) (xs := #[.tmp 31, .tmp 32]) rfl ?_); at_builtin; refine Kd.R_append_rows Kd.string (w0 := w) w.heap.size rfl (.tmp 31) (.tmp 32) 23 9 (.string ⟨#[]⟩) 16 rfl Try.underlying23 info9 rfl (by decide) (by omega) _ (l0.take j).flatten l0[j] A1 l0[j].length c1 (fun _ => True) (fun _ => False) rfl rfl HOr.out HC.out (fun _ _ h => h) (fun _ hk => hk.elim) (fun _ _ => trivial) HBr.out (HBr.out.size) (by have := HK1.out; omega) ?_; intro v2 w2 ho hb hg hat; have HO2 := Lib.hid ho; have HB2 := Lib.hid hb; clear ho hb hg hat))
            go_roundw
            case rel => exact ⟨j + 1, by omega, by go_num, by rw [HF.out]; exact HO2, HB2⟩
            case measure => simp [intOf]; omega
          · have hjl : j = l0.length := by omega
            subst hjl
            go_wp2
            go_ret
            exact ⟨_, rfl, by have := HOr.out; rwa [List.take_length] at this, HBr.out⟩
  · rw [if_neg hl] at h
    cases h
def slices_Clone_int_int.f (l0 : List Int) : Option (List Int) := if l0.length ≤ 1000000 then some l0 else none
set_option maxHeartbeats 2000000 in
theorem slices_Clone_int_int.calls (A0 : Option Addr) (c0 : Nat) (l0 : List Int) (r : List Int) (w : World) (hr0 : Kd.C (Kd.int .i64) w A0 l0.length l0) (hc0 : l0.length ≤ c0) (h : slices_Clone_int_int.f l0 = some r) :
    Calls Try.prog 47 #[.slice A0 l0.length c0] w fun e w' => ∃ v0_ : Value, e = .returned (v0_) ∧ Kd.R (Kd.int .i64) 3 w' w.heap.size (fun _ => True) v0_ r ∧ Below w.heap.size w w' := by
  unfold slices_Clone_int_int.f at h
  by_cases hl : l0.length ≤ 1000000
  · rw [if_pos hl] at h
    obtain rfl := Option.some.inj h
    clear h
    have HR := Lib.hid hr0
    clear hr0
    cases A0 with
    | none =>
      have hn : l0 = [] := by
        have h3 := HR.out.2.2
        cases l0 with
        | nil => rfl
        | cons x l => obtain ⟨ad, e, _⟩ := h3 (by simp); cases e
      clear HR
      subst hn
      have heq : ∀ W : World, (binOp .eql 24 (.slice none 0 c0) (.slice none 0 0)).run Try.prog W = .ok (.bool true) W := fun W => Lib.run_eql_slice_nil (P := Try.prog) W 24 3 none 0 c0 0 0 Try.underlying24
      clear hc0 hl
      show Calls Try.prog 47 #[.slice none 0 c0] w _
      go_enter Try.func47, Try.ntmps47
      go_wp2
      go_ret
      exact ⟨_, rfl, Kd.R_nil _ _ _ _ _, Below.refl _ _⟩
    | some ad =>
      have heq : ∀ W : World, (binOp .eql 24 (.slice (some ad) l0.length c0) (.slice none 0 0)).run Try.prog W = .ok (.bool false) W := fun W => Lib.run_eql_slice_nil (P := Try.prog) W 24 3 (some ad) l0.length c0 0 0 Try.underlying24
      have HL := Lib.hid hl
      clear hl
      go_enter Try.func47, Try.ntmps47
      go_wp2_with (first | ((with_reducible refine gate_builtin (b := .append) (xs := #[.tmp 5, .tmp 6]) rfl ?_); at_builtin; refine Kd.R_append_rows (Kd.int .i64) (w0 := w) w.heap.size rfl (.tmp 5) (.tmp 6) 24 3 (.int .i64 0) 8 rfl Try.underlying24 info3 rfl (by decide) (by omega) (.slice (some ⟨w.heap.size, 0, none⟩) 0 0) [] l0 (some ad) l0.length c0 (fun _ => True) (fun _ => False) rfl rfl ⟨fun _ _ => trivial, OwnRow.lit w w.heap.size (Reps.none _ _) (Nat.le_refl _) (by simp)⟩ (Kd.C_alloc HR.out _) (fun _ _ h => h) (fun _ hk => hk.elim) (fun _ _ => trivial) (below_alloc (Below.refl _ _) _) (by simp) (by have := HL.out; simp only [List.length_nil]; omega) ?_; intro v1 w1 ho hb hg hat; have HO := Lib.hid ho; have HB := Lib.hid hb; clear ho hb hg hat))
      go_ret
      exact ⟨_, rfl, by simpa using HO.out, HB.out⟩
  · rw [if_neg hl] at h
    cases h
set_option maxHeartbeats 2000000 in
set_option maxRecDepth 100000 in
theorem slices_Grow_int_int.nil (n : Nat) (hn : n ≤ 1000000000) (w : World) :
    Calls Try.prog 55 #[.slice none 0 0, .int .i64 n] w fun e w' => ∃ v0_ : Value, e = .returned (v0_) ∧ Kd.R (Kd.int .i64) 3 w' w.heap.size (fun _ => True) v0_ [] ∧ Below w.heap.size w w' := by
  obtain ⟨i0, hi0, _, _, _⟩ := info_parts info3
  have hcut0 := cut_to (P := Try.prog) 24 3 .i64 Try.underlying24 hi0 none 0 0 0 (by omega) (by omega) (by omega)
  by_cases h0 : n = 0
  · subst h0
    clear hcut0
    go_enter Try.func55, Try.ntmps55
    go_wp2
    go_ret
    exact ⟨_, rfl, Kd.R_nil _ _ _ _ _, Below.refl _ _⟩
  · have h1 : 0 < n := by omega
    have h1' : (0 : Int) < (n : Int) := by omega
    go_enter Try.func55, Try.ntmps55
    go_wp2_with (first | ((with_reducible refine gate_builtin (b := .append) (xs := #[.tmp 20, .tmp 21]) rfl ?_); at_builtin; refine Kd.R_append_zeros (Kd.int .i64) (w0 := w) w.heap.size rfl (.tmp 20) (.tmp 21) 24 3 3 (.int .i64 0) 8 rfl Try.underlying24 Try.underlying3 info3 rfl (by decide) (by omega) (.slice none 0 0) [] 0 (n : Int) (fun _ => True) rfl rfl rfl (fun _ _ => trivial) (Kd.R_nil _ _ _ _ _) (by omega) (Below.refl _ _) (Nat.le_refl _) (by simp only [List.length_nil]; omega) ?_; intro v1 w1 ho hb hg hat; obtain ⟨A1, c1, rfl⟩ := Kd.R_slice ho; have hc1 := (Kd.R_reads' ho).2.1; have HO := Lib.hid ho; have HB := Lib.hid hb; have hcut1 := cut_to (P := Try.prog) 24 3 .i64 Try.underlying24 hi0 A1 _ c1 0 (by omega) (by omega) hc1; clear ho hb hg hat hc1))
    go_ret
    exact ⟨_, rfl, by have := Kd.R_take (m := 0) HO.out (Nat.zero_le _); simpa using this, HB.out⟩
def slices_Concat_int_int.f (l0 : List (List Int)) : Option (List Int) := if l0.length ≤ 900 ∧ ∀ l ∈ l0, l.length ≤ 1000000 then some l0.flatten else none
set_option maxHeartbeats 4000000 in
set_option maxRecDepth 100000 in
theorem slices_Concat_int_int.calls (A0 : Option Addr) (c0 : Nat) (l0 : List (List Int)) (r : List Int) (w : World) (hr0 : Kd.C (Kd.slice 3 (Kd.int .i64)) w A0 l0.length l0) (hc0 : l0.length ≤ c0) (h : slices_Concat_int_int.f l0 = some r) :
    Calls Try.prog 30 #[.slice A0 l0.length c0] w fun e w' => ∃ v0_ : Value, e = .returned (v0_) ∧ Kd.R (Kd.int .i64) 3 w' w.heap.size (fun _ => True) v0_ r ∧ Below w.heap.size w w' := by
  unfold slices_Concat_int_int.f at h
  by_cases hl : l0.length ≤ 900 ∧ ∀ l ∈ l0, l.length ≤ 1000000
  · rw [if_pos hl] at h
    obtain rfl := Option.some.inj h
    clear h
    obtain ⟨hl1, hl2⟩ := hl
    have HL := Lib.hid hl2
    have HR := Lib.hid hr0
    have hsum : ∀ k, fLen l0 k ≤ 900000000 := by
      intro k
      unfold fLen
      have h1 := flat_len 1000000 (l0.take k) (fun l hl => hl2 l (List.mem_of_mem_take hl))
      have h2 : (l0.take k).length * 1000000 ≤ 900 * 1000000 := Nat.mul_le_mul_right _ (by rw [List.length_take]; omega)
      omega
    have HS := Lib.hid hsum
    clear hl2 hr0 hsum
    go_enter Try.func30, Try.ntmps30
    go_wp2
    go_loop [3, 11] (fun t i => ∃ k : Nat, k ≤ l0.length ∧ i = .int .i64 k ∧ t = .int .i64 (fLen l0 k : Nat)) (fun _ i => l0.length - (intOf i).toNat)
    case atStart => exact ⟨0, Nat.zero_le _, rfl, rfl⟩
    case round =>
      obtain ⟨k, hk, rfl, rfl⟩ := hrel
      have hsk := HS.out k
      by_cases hlt : k < l0.length
      · obtain ⟨ad, A1, c1, rfl, hcell, hle, hC⟩ := at_sl HR.out k hlt
        have hsk1 := HS.out (k + 1)
        have hf := fLen_succ l0 k hlt
        rw [hf] at hsk1
        have HF := Lib.hid hf
        clear hf hC
        go_wp2
        go_round
        case rel => exact ⟨k + 1, by omega, by go_num, by rw [HF.out]; go_num⟩
        case measure => simp [intOf]; omega
      · have hkl : k = l0.length := by omega
        subst hkl
        go_wp2_with (first | (go_at_call 55; refine (slices_Grow_int_int.nil (fLen l0 l0.length) (by omega) _).mono ?_; rintro e w1 ⟨v1, rfl, ho1, hb1⟩; have HO1 := Lib.hid ho1; have HB1 := Lib.hid hb1; clear ho1 hb1))
        go_loopw [6, 27] (fun v i wr => ∃ k : Nat, k ≤ l0.length ∧ i = .int .i64 k ∧ Hid (Kd.R (Kd.int .i64) 3 wr w.heap.size (fun _ => True) v (l0.take k).flatten) ∧ Hid (Below w.heap.size w wr)) (fun _ i _ => l0.length - (intOf i).toNat)
        case atStart => exact ⟨0, Nat.zero_le _, rfl, HO1, HB1⟩
        case round =>
          obtain ⟨j, hj, rfl, HOr, HBr⟩ := hrel
          by_cases hlt : j < l0.length
          · obtain ⟨ad, A1, c1, rfl, hcell, hle, hC⟩ := at_sl (Kd.C_below HR.out HBr.out) j hlt
            have hsk1 := HS.out (j + 1)
            rw [fLen_succ l0 j hlt] at hsk1
            unfold fLen at hsk1
            have HK1 := Lib.hid hsk1
            clear hsk1
            have hf := flat_take l0 j hlt
            have HF := Lib.hid hf
            have HC := Lib.hid hC
            clear hf hC
            go_wp2_with (first | ((with_reducible refine gate_builtin (b := .append) (xs := #[.tmp 31, .tmp 32]) rfl ?_); at_builtin; refine Kd.R_append_rows (Kd.int .i64) (w0 := w) w.heap.size rfl (.tmp 31) (.tmp 32) 24 3 (.int .i64 0) 8 rfl Try.underlying24 info3 rfl (by decide) (by omega) _ (l0.take j).flatten l0[j] A1 l0[j].length c1 (fun _ => True) (fun _ => False) rfl rfl HOr.out HC.out (fun _ _ h => h) (fun _ hk => hk.elim) (fun _ _ => trivial) HBr.out (HBr.out.size) (by have := HK1.out; omega) ?_; intro v2 w2 ho hb hg hat; have HO2 := Lib.hid ho; have HB2 := Lib.hid hb; clear ho hb hg hat))
            go_roundw
            case rel => exact ⟨j + 1, by omega, by go_num, by rw [HF.out]; exact HO2, HB2⟩
            case measure => simp [intOf]; omega
          · have hjl : j = l0.length := by omega
            subst hjl
            go_wp2
            go_ret
            exact ⟨_, rfl, by have := HOr.out; rwa [List.take_length] at this, HBr.out⟩
  · rw [if_neg hl] at h
    cases h
end Go.Proofs.Ytbkcoddcgfclaaa.Ext
