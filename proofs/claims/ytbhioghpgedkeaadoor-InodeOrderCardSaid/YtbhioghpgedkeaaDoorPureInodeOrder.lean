/- The law InodeOrder answers true for every input: its plain statement. -/
import Derived.Test.YtbhioghpgedkeaaDoorPPu
import Derived.Test.YtbhioghpgedkeaaDoorMKox2
import Derived.Test.YtbhioghpgedkeaaDoorExtK
import Derived.Test.YtbhioghpgedkeaaDoorMKox1
import Derived.Test.YtbhioghpgedkeaaDoorMKox3
set_option linter.unusedSimpArgs false
set_option linter.unusedVariables false
namespace Go.Proofs.YtbhioghpgedkeaaDoor.PP
open Go.RowKit Go.Proofs.YtbhioghpgedkeaaDoor.MIt Go.Proofs.YtbhioghpgedkeaaDoor.MKo Go.Proofs.YtbhioghpgedkeaaDoorW.PrintWords Go.Proofs.YtbhioghpgedkeaaDoorW.PrintLast Go.Proofs.YtbhioghpgedkeaaDoorW.PrintMore

def cmpN : List (List UInt8) → List (List UInt8) → Int
  | [], [] => 0
  | [], _ :: _ => -1
  | _ :: _, [] => 1
  | a :: x, b :: y => if Lib.compareBytes a b = 0 then cmpN x y else Lib.compareBytes a b
theorem cmp_loop (X Y : List (List UInt8)) (hX : X.length ≤ 100000) (hY : Y.length ≤ 100000) : ∀ (r1 r2 p q : List (List UInt8)) (k : Nat), X = p ++ r1 → Y = q ++ r2 → p.length = q.length → r1.length < k →
    MKo.path_Compare.l0 k (X.map bs) (Y.map bs) (mn (X.length : Int) (Y.length : Int)) (p.length : Int) = some (cmpN r1 r2) := by
  intro r1
  induction r1 with
  | nil =>
    intro r2 p q k h1 h2 h3 hk
    obtain ⟨m, rfl, _⟩ := up1 hk
    have l1 := congrArg List.length h1
    have l2 := congrArg List.length h2
    rw [List.length_append] at l1 l2
    rw [List.length_nil] at l1
    have hm : mn (X.length : Int) (Y.length : Int) = X.length := mn_left (X.length : Int) (Y.length : Int) (by omega)
    rw [MKo.path_Compare.l0, hm, if_neg (by omega), List.length_map, List.length_map]
    unfold MKo.cmp_Compare_int.f MKo.cmp_isNaN_int.f
    have n1 : ((X.length : Int) != (X.length : Int)) = false := by simp
    have n2 : ((Y.length : Int) != (Y.length : Int)) = false := by simp
    rw [Option.bind_some, Option.bind_some, n1, n2, if_neg (by decide), if_neg (by decide)]
    cases r2 with
    | nil => rw [List.length_nil] at l2; rw [if_neg (by omega), if_neg (by omega)]; rfl
    | cons b r2 => rw [List.length_cons] at l2; rw [if_pos (by omega)]; rfl
  | cons a r1 ih =>
    intro r2 p q k h1 h2 h3 hk
    rw [List.length_cons] at hk
    obtain ⟨m, rfl, hm⟩ := up1 hk
    have l1 := congrArg List.length h1
    have l2 := congrArg List.length h2
    rw [List.length_append] at l1 l2
    rw [List.length_cons] at l1
    cases r2 with
    | nil =>
      rw [List.length_nil] at l2
      have hm : mn (X.length : Int) (Y.length : Int) = Y.length := by unfold mn; rw [if_pos (by omega)]
      rw [MKo.path_Compare.l0, hm, if_neg (by omega), List.length_map, List.length_map]
      unfold MKo.cmp_Compare_int.f MKo.cmp_isNaN_int.f
      have n1 : ((X.length : Int) != (X.length : Int)) = false := by simp
      have n2 : ((Y.length : Int) != (Y.length : Int)) = false := by simp
      rw [Option.bind_some, Option.bind_some, n1, n2, if_neg (by decide), if_neg (by decide), if_neg (by omega), if_pos (by omega)]
      rfl
    | cons b r2 =>
      rw [List.length_cons] at l2
      have hmn := mn_le (X.length : Int) (Y.length : Int)
      have hlt : (p.length : Int) < mn (X.length : Int) (Y.length : Int) := by
        obtain ⟨_, _, h | h⟩ := hmn
        · rw [h]; omega
        · rw [h]; omega
      clear hmn
      rw [MKo.path_Compare.l0, if_pos hlt, if_pos (by omega), if_pos (by rw [List.length_map]; omega), if_pos (by rw [List.length_map]; omega)]
      have e1 : rdOf ByteArray.empty (X.map bs) (p.length : Int) = bs a := by rw [h1]; exact rd_mid p a r1
      have e2 : rdOf ByteArray.empty (Y.map bs) (p.length : Int) = bs b := by rw [h2, h3]; exact rd_mid q b r2
      rw [e1, e2]
      unfold MKo.strings_Compare.f Ext.strings_Compare.f
      rw [bs_data, bs_data, Option.bind_some, cmpN]
      by_cases hc : Lib.compareBytes a b = 0
      · rw [if_pos hc, if_pos hc, wrap_succ p.length (by omega)]
        have e3 : (p ++ [a]).length = p.length + 1 := by simp
        have := ih r2 (p ++ [a]) (q ++ [b]) m (by rw [h1]; simp) (by rw [h2]; simp) (by simp [h3]) (by omega)
        rw [e3] at this
        exact this
      · rw [if_neg hc, if_neg hc]

theorem cb_neg : ∀ (a b : List UInt8), Lib.compareBytes a b = - Lib.compareBytes b a
  | [], [] => rfl
  | [], _ :: _ => rfl
  | _ :: _, [] => rfl
  | x :: a, y :: b => by
    have ih := cb_neg a b
    unfold Lib.compareBytes
    by_cases h1 : x < y
    · rw [if_pos h1, if_neg (UInt8.lt_asymm h1), if_pos h1]
    · by_cases h2 : y < x
      · rw [if_neg h1, if_pos h2, if_pos h2]
        rfl
      · rw [if_neg h1, if_neg h2, if_neg h2, if_neg h1]
        exact ih
theorem cb_eq : ∀ (a b : List UInt8), Lib.compareBytes a b = 0 → a = b
  | [], [], _ => rfl
  | [], _ :: _, h => absurd h (by show ¬ ((-1 : Int) = 0); decide)
  | _ :: _, [], h => absurd h (by show ¬ ((1 : Int) = 0); decide)
  | x :: a, y :: b, h => by
    unfold Lib.compareBytes at h
    by_cases h1 : x < y
    · rw [if_pos h1] at h; exact absurd h (by decide)
    · by_cases h2 : y < x
      · rw [if_neg h1, if_pos h2] at h; exact absurd h (by decide)
      · rw [if_neg h1, if_neg h2] at h
        have : x = y := UInt8.le_antisymm (UInt8.not_lt.1 h2) (UInt8.not_lt.1 h1)
        rw [this, cb_eq a b h]
theorem cb_refl : ∀ (a : List UInt8), Lib.compareBytes a a = 0
  | [] => rfl
  | x :: a => by
    unfold Lib.compareBytes
    rw [if_neg (UInt8.lt_irrefl x), if_neg (UInt8.lt_irrefl x)]
    exact cb_refl a
theorem cb_rng : ∀ (a b : List UInt8), Lib.compareBytes a b = -1 ∨ Lib.compareBytes a b = 0 ∨ Lib.compareBytes a b = 1
  | [], [] => .inr (.inl rfl)
  | [], _ :: _ => .inl rfl
  | _ :: _, [] => .inr (.inr rfl)
  | x :: a, y :: b => by
    unfold Lib.compareBytes
    split
    · exact .inl rfl
    · split
      · exact .inr (.inr rfl)
      · exact cb_rng a b
theorem Compare_eq (a b : ByteArray) (k : Nat) (ha : a.size ≤ 1000) (hb : b.size ≤ 1000) (hk1 : a.size + 5 ≤ k) : MKo.path_Compare.f k a b = some (cmpN (splitL a.data.toList) (splitL b.data.toList)) := by
  unfold MKo.path_Compare.f MKo.strings_Split.f Ext.strings_Split.f
  have c1 := splitL_len a.data.toList
  have c2 := splitL_len b.data.toList
  have d1 := count_le a.data.toList
  have d2 := count_le b.data.toList
  rw [len_size] at d1 d2
  rw [if_pos ⟨ha, rfl⟩, if_pos ⟨hb, rfl⟩, Option.bind_some, Option.bind_some, List.length_map, List.length_map]
  exact cmp_loop _ _ (by omega) (by omega) _ _ [] [] k rfl rfl rfl (by omega)
end Go.Proofs.YtbhioghpgedkeaaDoor.PP
namespace Go.Proofs.YtbhioghpgedkeaaDoor.PP
open Go.RowKit Go.Proofs.YtbhioghpgedkeaaDoor.MIt Go.Proofs.YtbhioghpgedkeaaDoor.MKo Go.Proofs.YtbhioghpgedkeaaDoorW.PrintWords Go.Proofs.YtbhioghpgedkeaaDoorW.PrintLast Go.Proofs.YtbhioghpgedkeaaDoorW.PrintMore

theorem rd_o56 (p : List S56) (x : S56) (r : List S56) : rd_T56 (p ++ x :: r) (p.length : Int) = x := by
  unfold rd_T56
  simp
/-! ### the bytes of a key of texts without a nought -/
def encL : List (List UInt8) → List UInt8
  | [] => []
  | n :: r => 32 :: (n ++ 0 :: 1 :: encL r)
theorem encL_app : ∀ (a b : List (List UInt8)), encL (a ++ b) = encL a ++ encL b
  | [], b => rfl
  | n :: r, b => by
    rw [List.cons_append, encL, encL_app r b, encL]
    simp
theorem encL_len : ∀ (L : List (List UInt8)), L ≠ [] → (encL L).length + 1 = (jn [47] L).length + 2 * L.length + 2
  | [], h => absurd rfl h
  | [x], _ => by simp [encL, jn]
  | x :: y :: r, _ => by
    have ih := encL_len (y :: r) (by simp)
    rw [encL, jn]
    simp only [List.length_cons, List.length_append, List.length_nil] at ih ⊢
    omega
theorem cmp_nz : ∀ (t u x y : List UInt8), (0 : UInt8) ∉ t → (0 : UInt8) ∉ u → Lib.compareBytes (t ++ 0 :: x) (u ++ 0 :: y) = if Lib.compareBytes t u = 0 then Lib.compareBytes x y else Lib.compareBytes t u
  | [], [], x, y, _, _ => by simp [Lib.compareBytes]
  | [], b :: u, x, y, _, hu => by
    have hb : (0 : UInt8) < b := by
      have : b ≠ 0 := fun h => hu (by simp [h])
      rw [UInt8.lt_iff_toNat_lt]
      have h2 : b.toNat ≠ 0 := fun h => this (UInt8.toNat_inj.1 h)
      show 0 < b.toNat
      omega
    rw [List.nil_append, List.cons_append, Lib.compareBytes, Lib.compareBytes, if_pos hb]
    rfl
  | a :: t, [], x, y, ht, _ => by
    have hb : (0 : UInt8) < a := by
      have : a ≠ 0 := fun h => ht (by simp [h])
      rw [UInt8.lt_iff_toNat_lt]
      have h2 : a.toNat ≠ 0 := fun h => this (UInt8.toNat_inj.1 h)
      show 0 < a.toNat
      omega
    have hn : ¬ a < 0 := by
      rw [UInt8.lt_iff_toNat_lt]
      show ¬ a.toNat < 0
      omega
    rw [List.nil_append, List.cons_append, Lib.compareBytes, Lib.compareBytes, if_neg hn, if_pos hb]
    rfl
  | a :: t, b :: u, x, y, ht, hu => by
    rw [List.cons_append, List.cons_append, Lib.compareBytes, Lib.compareBytes]
    by_cases h1 : a < b
    · rw [if_pos h1, if_pos h1]; rfl
    · rw [if_neg h1, if_neg h1]
      by_cases h2 : b < a
      · rw [if_pos h2, if_pos h2]; rfl
      · rw [if_neg h2, if_neg h2]
        exact cmp_nz t u x y (fun h => ht (by simp [h])) (fun h => hu (by simp [h]))
theorem cmp_enc : ∀ (L M : List (List UInt8)), (∀ n ∈ L, (0 : UInt8) ∉ n) → (∀ n ∈ M, (0 : UInt8) ∉ n) → Lib.compareBytes (encL L) (encL M) = cmpN L M
  | [], [], _, _ => rfl
  | [], b :: M, _, _ => rfl
  | a :: L, [], _, _ => rfl
  | a :: L, b :: M, hL, hM => by
    have ih := cmp_enc L M (fun n h => hL n (by simp [h])) (fun n h => hM n (by simp [h]))
    rw [encL, encL, cmpN, Lib.compareBytes, if_neg (by decide), if_neg (by decide), cmp_nz a b _ _ (hL a (by simp)) (hM b (by simp))]
    have h1 : Lib.compareBytes (1 :: encL L) (1 :: encL M) = Lib.compareBytes (encL L) (encL M) := by
      rw [Lib.compareBytes, if_neg (by decide), if_neg (by decide)]
    rw [h1, ih]
/-! ### Encode -/
def nats (l : List UInt8) : List Int := l.map (fun c => (c.toNat : Int))
theorem nats_app (a b : List UInt8) : nats (a ++ b) = nats a ++ nats b := List.map_append
theorem nats_len (a : List UInt8) : (nats a).length = a.length := List.length_map _
theorem str_nats (l : List UInt8) : strOfNums (nats l) = bs l := by
  unfold strOfNums nats bs
  congr 2
  rw [List.map_map]
  refine (List.map_congr_left (fun c _ => ?_)).trans (List.map_id l)
  simp [byte_back]
theorem put_loop (n : List UInt8) (hz : (0 : UInt8) ∉ n) (hn : n.length ≤ 1000) : ∀ (r p : List UInt8) (k : Nat) (a : List Int), n = p ++ r → a.length + r.length ≤ 100000 → r.length < k →
    keycode_put.l1 k a (n.length : Int) (p.length : Int) 2 0 (bs n) = some (a ++ nats r ++ [0, 1])
  | [], p, k, a, h, ha, hk => by
    obtain ⟨m, rfl, _⟩ := up1 hk
    have h' : n = p := by rw [h]; simp
    subst h'
    rw [keycode_put.l1, if_neg (by omega)]
    show (if a.length + ([0, 1] : List Int).length < _ then _ else _) = _
    rw [if_pos (by simp only [List.length_nil, List.length_cons] at ha ⊢; omega)]
    simp [nats]
  | c :: r, p, k, a, h, ha, hk => by
    obtain ⟨m, rfl, hm⟩ := up1 hk
    have hl : n.length = p.length + (r.length + 1) := by rw [h]; simp
    simp only [List.length_cons] at ha hm
    have hb : bt (bs n) (p.length : Int) = (c.toNat : Int) := by
      obtain ⟨c', h1, h2⟩ := bt_drop (bs n) p.length (by rw [bs_size]; omega)
      rw [bs_data, h, List.drop_left] at h1
      have := (List.cons.inj h1).1
      rw [this]
      exact h2
    have hc : ¬ ((c.toNat : Int) = 0) := by
      intro e
      have : c.toNat = 0 := by omega
      exact hz (by rw [h, UInt8.toNat_inj.1 (show c.toNat = (0 : UInt8).toNat from this)]; simp)
    rw [keycode_put.l1, if_pos (by omega), if_pos (by omega), if_pos (by rw [bs_size]; omega), if_pos (by omega), hb]
    show (if (c.toNat : Int) = 0 then _ else _) = _
    rw [if_neg hc, wrap_succ _ (by omega)]
    have := put_loop n hz hn r (p ++ [c]) m (a ++ [(c.toNat : Int)]) (by simp [h]) (by simp only [List.length_append, List.length_cons, List.length_nil]; omega) (by omega)
    rw [List.length_append] at this
    refine this.trans ?_
    simp [nats]
theorem put_eq (n : List UInt8) (hz : (0 : UInt8) ∉ n) (hn : n.length ≤ 1000) (k : Nat) (hk : n.length < k) (a : List Int) (ha : a.length ≤ 90000) : keycode_put.f k a 2 0 (bs n) = some (a ++ nats (32 :: (n ++ [0, 1]))) := by
  unfold keycode_put.f
  rw [if_neg (by decide), if_pos (by omega), bs_size]
  have := put_loop n hz hn n [] k (a ++ [32]) rfl (by simp only [List.length_append, List.length_cons, List.length_nil]; omega) hk
  refine this.trans ?_
  simp [nats]
theorem Enc_loop (L : List (List UInt8)) (hz : ∀ n ∈ L, (0 : UInt8) ∉ n) (hn : ∀ n ∈ L, n.length ≤ 100) (hL : L.length ≤ 16) (hE : (encL L).length ≤ 140) : ∀ (r p : List (List UInt8)) (k : Nat), L = p ++ r → r.length + 102 ≤ k →
    keycode_Encode.l0 k (nats (encL p)) (L.map partOf) (L.length : Int) (p.length : Int) = some (bs (encL L), 0)
  | [], p, k, h, hk => by
    obtain ⟨m, rfl⟩ : ∃ m, k = m + 1 := ⟨k - 1, by omega⟩
    have h' : L = p := by rw [h]; simp
    subst h'
    rw [keycode_Encode.l0, if_neg (by omega), if_neg (by rw [nats_len]; omega), str_nats]
  | n :: r, p, k, h, hk => by
    obtain ⟨m, rfl⟩ : ∃ m, k = m + 1 := ⟨k - 1, by omega⟩
    have hl : L.length = p.length + (r.length + 1) := by rw [h]; simp
    simp only [List.length_cons] at hk
    have hnm : n ∈ L := by rw [h]; simp
    have e : rd_T56 (L.map partOf) (p.length : Int) = partOf n := by
      rw [h, List.map_append, List.map_cons]
      have := rd_o56 (p.map partOf) (partOf n) (r.map partOf)
      rwa [List.length_map] at this
    have hp : (encL p).length ≤ 140 := by
      rw [h, encL_app, List.length_append] at hE
      omega
    rw [keycode_Encode.l0, if_pos (by omega), if_pos (by omega), if_pos (by rw [List.length_map]; omega), e]
    have hw : keycode_why.f (partOf n).f0 (partOf n).f1 (partOf n).f2 = some 0 := by
      unfold keycode_why.f
      show (if (2 : Int) = 1 then _ else _) = _
      rw [if_neg (by decide), if_pos (show (partOf n).f0 = 2 from rfl), if_pos (show (partOf n).f1 = 0 from rfl)]
      show (if ((bs n).size : Int) > 120 then _ else _) = _
      rw [if_neg (by rw [bs_size]; have := hn n hnm; omega)]
    rw [hw, Option.bind_some, if_pos rfl]
    show (keycode_put.f m _ 2 0 (bs n)).bind _ = _
    rw [put_eq n (hz n hnm) (by have := hn n hnm; omega) m (by have := hn n hnm; omega) _ (by rw [nats_len]; omega), Option.bind_some, wrap_succ _ (by omega)]
    have := Enc_loop L hz hn hL hE r (p ++ [n]) m (by simp [h]) (by omega)
    rw [List.length_append, encL_app, nats_app] at this
    exact this
theorem Encode_eq (L : List (List UInt8)) (hz : ∀ n ∈ L, (0 : UInt8) ∉ n) (hn : ∀ n ∈ L, n.length ≤ 100) (hL : L.length ≤ 16) (hE : (encL L).length ≤ 140) (k : Nat) (hk : 200 ≤ k) : keycode_Encode.f k (L.map partOf) = some (bs (encL L), 0) := by
  unfold keycode_Encode.f
  rw [if_neg (by rw [List.length_map]; omega), List.length_map]
  exact Enc_loop L hz hn hL hE L [] k rfl (by omega)
/-! ### a path's names -/
theorem kindN_nz {n : List UInt8} (h : kindN n ≠ 0) : (0 : UInt8) ∉ n ∧ n ≠ [] := by
  refine ⟨fun h0 => ?_, fun e => h (by rw [e]; decide)⟩
  unfold kindN at h
  split at h
  · exact h rfl
  split at h
  · rename_i h1 h2
    split at h
    · rename_i h3
      rw [Bool.and_eq_true] at h3
      unfold plainB at h3
      simp only [Bool.and_eq_true, List.all_eq_true] at h3
      have hs : ∀ c ∈ n, c = 46 ∨ signL.contains c = true := by
        intro c hc
        rw [← List.takeWhile_append_dropWhile (p := (· != 46)) (l := n)] at hc
        rcases List.mem_append.1 hc with hc | hc
        · exact .inr (h3.1.1 c hc)
        · cases hd : n.dropWhile (· != 46) with
          | nil => rw [hd] at hc; exact absurd hc (by simp)
          | cons a b =>
            rw [hd] at hc
            rcases List.mem_cons.1 hc with rfl | hc
            · left
              have := List.head_dropWhile_not (p := (· != (46 : UInt8))) (l := n) (by rw [hd]; simp)
              simp only [hd, List.head_cons] at this
              simpa using this
            · exact .inr (h3.2.1 c (by rw [hd]; exact hc))
      rcases hs 0 h0 with e | e
      · exact absurd e (by decide)
      · exact absurd e (by decide)
    · exact h rfl
  · split at h
    · rename_i h3
      unfold plainB at h3
      simp only [Bool.and_eq_true, List.all_eq_true] at h3
      exact absurd (h3.1 0 h0) (by decide)
    · exact h rfl
theorem namesP_nz {s : List UInt8} (h : (kindP s).2 = 0) : ∀ n ∈ namesP s, (0 : UInt8) ∉ n ∧ n ≠ [] := by
  intro n hn
  unfold namesP at hn
  split at hn
  · exact absurd hn (by simp)
  rename_i hs
  rcases (kindP_ok s h).2 with ⟨h1, _⟩ | ⟨_, _, p, m, h2, h3, h4, h5⟩
  · exact absurd h1 hs
  · rw [h2] at hn
    rcases List.mem_append.1 hn with hn | hn
    · exact kindN_nz (h5 n hn).1
    · rw [List.mem_singleton] at hn
      rw [hn]
      exact kindN_nz (by rw [h3]; exact h4)
theorem namesP_enc {s : List UInt8} (h : (kindP s).2 = 0) : (encL (namesP s)).length ≤ 140 ∧ ∀ n ∈ namesP s, n.length ≤ 100 := by
  have h96 := (kindP_ok s h).1
  have h8 := namesP_len s
  by_cases hs : s = []
  · subst hs
    exact ⟨by decide, fun n hn => absurd hn (by simp [namesP])⟩
  have e : namesP s = splitL s := by unfold namesP; rw [if_neg hs, if_pos h]
  constructor
  · have hne : namesP s ≠ [] := by
      obtain ⟨a, b, hh⟩ := splitL_ne s
      rw [e, hh]; simp
    have := encL_len _ hne
    rw [e, jn_splitL] at this
    rw [e] at h8 ⊢
    omega
  · intro n hn
    rw [e] at hn
    have := splitL_mem_len s n hn
    omega
theorem cmp_names {p q : List UInt8} (hp : (kindP p).2 = 0) (hq : (kindP q).2 = 0) : cmpN (splitL p) (splitL q) = cmpN (namesP p) (namesP q) := by
  have one : ∀ {s : List UInt8}, (kindP s).2 = 0 → s ≠ [] → namesP s = splitL s := fun h hs => by unfold namesP; rw [if_neg hs, if_pos h]
  have nz : ∀ {s : List UInt8}, (kindP s).2 = 0 → s ≠ [] → ∃ a b c r, splitL s = (a :: b) :: r := fun {s} h hs => by
    obtain ⟨x, r, hh⟩ := splitL_ne s
    have := (namesP_nz h x (by rw [one h hs, hh]; simp)).2
    cases x with
    | nil => exact absurd rfl this
    | cons a b => exact ⟨a, b, (), r, hh⟩
  by_cases h1 : p = []
  · by_cases h2 : q = []
    · subst h1; subst h2; rfl
    · obtain ⟨a, b, _, r, hh⟩ := nz hq h2
      rw [h1, one hq h2, hh]
      rfl
  · by_cases h2 : q = []
    · obtain ⟨a, b, _, r, hh⟩ := nz hp h1
      rw [h2, one hp h1, hh]
      rfl
    · rw [one hp h1, one hq h2]
theorem below_names {p q : List UInt8} (h : p ∈ upsL q) : ∃ r, namesP q = namesP p ++ r := by
  obtain ⟨hq, hq0, j, hj, rfl⟩ := (mem_ups p q).1 h
  have e : namesP q = splitL q := by unfold namesP; rw [if_neg hq0, if_pos hq]
  refine ⟨(splitL q).drop j, ?_⟩
  rw [e]
  suffices hh : namesP (jn [47] ((splitL q).take j)) = (splitL q).take j by rw [hh, List.take_append_drop]
  obtain ⟨hN, hjn⟩ := names_of q hq hq0
  have hT := hN.take j
  by_cases h0 : (splitL q).take j = []
  · rw [h0]; rfl
  · unfold namesP
    rw [if_neg (jn_neN hT h0), hT.kind h0, if_pos rfl, hT.split h0]
/-! ### the law -/
theorem prefix_eq (a b : List UInt8) : strings_HasPrefix.f (bs (a ++ b)) (bs a) = some true := by
  unfold strings_HasPrefix.f stringslite_HasPrefix.f
  have h1 : (bs (a ++ b)).size = a.length + b.length := by rw [bs_size]; simp
  have h2 : (bs a).size = a.length := bs_size a
  have h3 : ((bs (a ++ b)).extract 0 (((bs a).size : Int)).toNat).toList = (bs a).toList := by
    rw [ByteArray.toList_eq, ByteArray.toList_eq, take_str, bs_data, bs_data, h2]
    simp
  rw [if_pos (by omega), if_pos (by omega), if_pos (by omega), h3, Option.bind_some]
  simp
theorem Order_eq (a0 a1 : ByteArray) : aquiferlaw17_InodeOrder.f 1000 a0 a1 = some true := by
  unfold aquiferlaw17_InodeOrder.f
  have hm0 := mn_le (a0.size : Int) 200
  have hm1 := mn_le (a1.size : Int) 200
  rw [if_pos (by omega), if_pos (by omega), if_pos (by omega), if_pos (by omega)]
  have z0 : (a0.extract 0 ((mn (a0.size : Int) 200) : Int).toNat).size ≤ 200 := by rw [ByteArray.size_extract]; omega
  have z1 : (a1.extract 0 ((mn (a1.size : Int) 200) : Int).toNat).size ≤ 200 := by rw [ByteArray.size_extract]; omega
  generalize a0.extract 0 ((mn (a0.size : Int) 200) : Int).toNat = p at z0 ⊢
  generalize a1.extract 0 ((mn (a1.size : Int) 200) : Int).toNat = q at z1 ⊢
  unfold MKo.inode_Key.f Ext.inode_Key.f
  rw [Option.bind_some, Option.bind_some]
  have e : ∀ s : List UInt8, (keyP s).2 = (kindP s).2 := fun s => by
    unfold keyP
    split
    · rename_i h; exact h.symm
    · rfl
  have e2 : ∀ s : List UInt8, (kindP s).2 = 0 → (keyP s).1 = (namesP s).map partOf := fun s h => by
    unfold keyP
    rw [if_pos h]
  rw [e, e]
  have hj : aquiferlaw17_InodeOrder.j0 1000 p q (keyP p.data.toList).1 (keyP q.data.toList).1 true = some true := by
    rw [aquiferlaw17_InodeOrder.j0, if_pos rfl]
    rfl
  by_cases hp : (kindP p.data.toList).2 = 0
  · rw [if_pos hp]
    by_cases hq : (kindP q.data.toList).2 = 0
    · have hb : ((kindP q.data.toList).2 != 0) = false := by simp [hq]
      obtain ⟨lp, np⟩ := namesP_enc hp
      obtain ⟨lq, nq⟩ := namesP_enc hq
      have dp := namesP_nz hp
      have dq := namesP_nz hq
      have cp := namesP_len p.data.toList
      have cq := namesP_len q.data.toList
      rw [hb, aquiferlaw17_InodeOrder.j0, if_neg (by decide), e2 _ hp, e2 _ hq,
        Encode_eq _ (fun n h => (dp n h).1) np (by omega) lp 999 (by omega), Option.bind_some, Encode_eq _ (fun n h => (dq n h).1) nq (by omega) lq 999 (by omega), Option.bind_some]
      have h2 : aquiferlaw17_InodeOrder.j2 998 p q (bs (encL (namesP p.data.toList))) (bs (encL (namesP q.data.toList))) false = some true := by
        rw [aquiferlaw17_InodeOrder.j2, if_neg (by decide)]
        unfold MKo.strings_Compare.f Ext.strings_Compare.f
        rw [Option.bind_some, Compare_eq p q 997 (by omega) (by omega) (by omega), Option.bind_some, bs_data, bs_data, cmp_enc _ _ (fun n h => (dp n h).1) (fun n h => (dq n h).1), ← cmp_names hp hq, if_pos rfl]
        rfl
      show (if (0 : Int) = 0 then aquiferlaw17_InodeOrder.j1 999 p q _ _ ((0 : Int) != 0) else _) = _
      rw [if_pos rfl, aquiferlaw17_InodeOrder.j1, if_neg (by decide)]
      unfold MKo.path_Below.f Ext.path_Below.f Ups.path_Below.f Ups.belowP
      rw [Option.bind_some]
      by_cases hB : p.data.toList ∈ upsL q.data.toList
      · rw [if_pos (decide_eq_true hB)]
        obtain ⟨r, hr⟩ := below_names hB
        have := prefix_eq (encL (namesP p.data.toList)) (encL r)
        rw [← encL_app, ← hr] at this
        rw [this, Option.bind_some]
        exact h2
      · rw [if_neg (by simp [hB])]
        exact h2
    · have hb : ((kindP q.data.toList).2 != 0) = true := by simp [hq]
      rw [hb]
      exact hj
  · rw [if_neg hp]
    exact hj
end Go.Proofs.YtbhioghpgedkeaaDoor.PP
namespace Go.Proofs.YtbhioghpgedkeaaDoor.Pure
open Go.Proofs.YtbhioghpgedkeaaDoor.MIt Go.RowKit Go.Proofs.YtbhioghpgedkeaaDoor.MKo Go.Proofs.YtbhioghpgedkeaaDoorW.PrintWords Go.Proofs.YtbhioghpgedkeaaDoorW.PrintLast Go.Proofs.YtbhioghpgedkeaaDoorW.PrintMore

theorem InodeOrder : ∀ (a0 : ByteArray) (a1 : ByteArray), a0.size ≤ 140737488351232 → a1.size ≤ 140737488351232 → ∃ k : Nat, aquiferlaw17_InodeOrder.f k a0 a1 = some true :=
  fun a0 a1 _ _ => ⟨1000, PP.Order_eq a0 a1⟩
end Go.Proofs.YtbhioghpgedkeaaDoor.Pure
