/- Texts of one family in one file: PureOrders, PureBytes, PureTexts. -/
import Derived.Test.YtjcgfgppdlnmpaaDoorMT3
import Derived.WideShapes
import Derived.Laws.Strings
import Derived.Test.YtjcgfgppdlnmpaaDoorMT4
import Derived.Laws.BitsAllLaws
import Derived.Test.YtjcgfgppdlnmpaaDoorMT5
import Derived.Lib.ItoaMem
import Derived.Lib.Strings
import Derived.Lib.SmallJoins
/-
  The plain law of KeyOrders: for any three keys the printed functions answer true.
-/
namespace Go.Proofs.YtjcgfgppdlnmpaaDoor.Pure
open Go.RowKit Go.Proofs.YtjcgfgppdlnmpaaDoor.PKey Go.Proofs.YtjcgfgppdlnmpaaDoorW.PrintWords Go.Proofs.YtjcgfgppdlnmpaaDoorW.PrintLast

/-! ### comparing bytes -/
theorem cb_range : ∀ a b : List UInt8, Lib.compareBytes a b = -1 ∨ Lib.compareBytes a b = 0 ∨ Lib.compareBytes a b = 1
  | [], [] => by simp [Lib.compareBytes]
  | [], _ :: _ => by simp [Lib.compareBytes]
  | _ :: _, [] => by simp [Lib.compareBytes]
  | x :: a, y :: b => by
    unfold Lib.compareBytes
    split
    · simp
    · split
      · simp
      · exact cb_range a b

theorem cb_zero : ∀ a b : List UInt8, Lib.compareBytes a b = 0 ↔ a = b
  | [], [] => by simp [Lib.compareBytes]
  | [], _ :: _ => by simp [Lib.compareBytes]
  | _ :: _, [] => by simp [Lib.compareBytes]
  | x :: a, y :: b => by
    unfold Lib.compareBytes
    have ih := cb_zero a b
    split
    · rename_i h
      have : x ≠ y := fun e => by subst e; exact UInt8.lt_irrefl _ h
      simp [this]
    · rename_i h
      split
      · rename_i h2
        have : x ≠ y := fun e => by subst e; exact UInt8.lt_irrefl _ h2
        simp [this]
      · rename_i h2
        have : x = y := UInt8.le_antisymm (UInt8.not_lt.1 h2) (UInt8.not_lt.1 h)
        simp [this, ih]

theorem cb_anti : ∀ a b : List UInt8, Lib.compareBytes b a = - Lib.compareBytes a b
  | [], [] => by simp [Lib.compareBytes]
  | [], _ :: _ => by simp [Lib.compareBytes]
  | _ :: _, [] => by simp [Lib.compareBytes]
  | x :: a, y :: b => by
    unfold Lib.compareBytes
    have ih := cb_anti a b
    by_cases h : x < y
    · have h2 : ¬ y < x := fun h3 => UInt8.lt_irrefl _ (UInt8.lt_trans h h3)
      simp [h, h2]
    · by_cases h2 : y < x
      · simp [h, h2]
      · simp [h, h2, ih]

/-- Of no two steps up and one down. -/
theorem cb_trans : ∀ a b c : List UInt8, Lib.compareBytes a b ≤ 0 → Lib.compareBytes b c ≤ 0 → Lib.compareBytes a c ≤ 0
  | [], _, [] => by simp [Lib.compareBytes]
  | [], _, _ :: _ => by simp [Lib.compareBytes]
  | _ :: _, [], _ => by simp [Lib.compareBytes]
  | _ :: _, _ :: _, [] => by simp [Lib.compareBytes]
  | x :: a, y :: b, z :: c => by
    unfold Lib.compareBytes
    have ih := cb_trans a b c
    by_cases h1 : x < y
    · by_cases h2 : y < z
      · simp [h1, h2, UInt8.lt_trans h1 h2]
      · by_cases h3 : z < y
        · simp [h2, h3]
        · have : y = z := UInt8.le_antisymm (UInt8.not_lt.1 h3) (UInt8.not_lt.1 h2)
          subst this
          simp [h1]
    · by_cases h3 : y < x
      · simp [h1, h3]
      · have : x = y := UInt8.le_antisymm (UInt8.not_lt.1 h3) (UInt8.not_lt.1 h1)
        subst this
        by_cases h2 : x < z
        · simp [h2]
        · by_cases h4 : z < x
          · simp [h2, h4]
          · simpa [h1, h2, h4] using ih

/-! ### key.Compare -/
def kcmp (s : Int) (a : ByteArray) (t : Int) (b : ByteArray) : Int := if s < t then -1 else if t < s then 1 else Lib.compareBytes a.data.toList b.data.toList

theorem kcmp_range (s : Int) (a : ByteArray) (t : Int) (b : ByteArray) : kcmp s a t b = -1 ∨ kcmp s a t b = 0 ∨ kcmp s a t b = 1 := by
  unfold kcmp
  split
  · simp
  · split
    · simp
    · exact cb_range _ _

theorem kcmp_anti (s : Int) (a : ByteArray) (t : Int) (b : ByteArray) : kcmp t b s a = - kcmp s a t b := by
  unfold kcmp
  have := cb_anti a.data.toList b.data.toList
  by_cases h : s < t
  · have h2 : ¬ t < s := by omega
    simp [h, h2]
  · by_cases h2 : t < s
    · simp [h, h2]
    · simp [h, h2, this]

theorem bytes_ext {a b : ByteArray} (h : a.data.toList = b.data.toList) : a = b := Go.WideShapes.bytes_inj h

theorem kcmp_zero (s : Int) (a : ByteArray) (t : Int) (b : ByteArray) : kcmp s a t b = 0 ↔ s = t ∧ a = b := by
  unfold kcmp
  by_cases h : s < t
  · simp [h]; intro e; omega
  · by_cases h2 : t < s
    · simp [h, h2]; intro e; omega
    · have : s = t := by omega
      simp only [h, h2, if_false, cb_zero]
      exact ⟨fun e => ⟨this, bytes_ext e⟩, fun e => by rw [e.2]⟩

theorem kcmp_trans (s : Int) (a : ByteArray) (t : Int) (b : ByteArray) (u : Int) (c : ByteArray) (h1 : kcmp s a t b ≤ 0) (h2 : kcmp t b u c ≤ 0) : kcmp s a u c ≤ 0 := by
  unfold kcmp at *
  have z := cb_trans a.data.toList b.data.toList c.data.toList
  by_cases e1 : s < t
  · by_cases e2 : t < u
    · have : s < u := by omega
      simp [this]
    · by_cases e3 : u < t
      · simp [e2, e3] at h2
      · have : s < u := by omega
        simp [this]
  · by_cases e4 : t < s
    · simp [e1, e4] at h1
    · have : s = t := by omega
      subst this
      by_cases e2 : s < u
      · simp [e2]
      · by_cases e3 : u < s
        · simp [e2, e3] at h2
        · simp only [e1, e2, e3, if_false] at h1 h2 ⊢
          exact z h1 h2

theorem compare_u16 (a b : Int) : cmp_Compare_uint16.f a b = some (if a < b then -1 else if b < a then 1 else 0) := by
  simp only [cmp_Compare_uint16.f, cmp_isNaN_uint16.f, bne_self_eq_false, Option.bind_some, Bool.false_eq_true, if_false]
  split
  · rfl
  · by_cases h : b < a
    · simp [h]
    · simp [h]

theorem or_two (k : Nat) (hk : 3 ≤ k) (x y : Int) : cmp_Or_int.f k [x, y] = some (if x = 0 then y else x) := by
  obtain ⟨k, rfl⟩ : ∃ m, k = m + 3 := ⟨k - 3, by omega⟩
  unfold cmp_Or_int.f
  have w1 : wrap64 (0 + 1) = 1 := by unfold wrap64; omega
  have w2 : wrap64 (1 + 1) = 2 := by unfold wrap64; omega
  have r0 : rd [x, y] 0 = x := rfl
  have r1 : rd [x, y] 1 = y := rfl
  simp only [cmp_Or_int.l0, List.length_cons, List.length_nil, w1, w2, r0, r1]
  by_cases h : x = 0
  · by_cases h2 : y = 0
    · simp [h, h2]
    · simp [h, h2]
  · simp [h]

theorem compare_is (k : Nat) (hk : 3 ≤ k) (s : Int) (a : ByteArray) (t : Int) (b : ByteArray) : key_Compare.f k s a t b = some (kcmp s a t b) := by
  unfold key_Compare.f strings_Compare.f
  rw [compare_u16]
  simp only [Option.bind_some]
  rw [or_two k hk]
  simp only [Option.bind_some]
  unfold kcmp
  by_cases h : s < t
  · simp [h]
  · by_cases h2 : t < s
    · simp [h, h2]
    · simp [h, h2]

/-! ### the reference's Compare -/
theorem wrap_id {x : Int} (h0 : -9223372036854775808 ≤ x) (h1 : x ≤ 9223372036854775807) : wrap64 x = x := by
  unfold wrap64
  omega

theorem bt_list (a : ByteArray) (i : Nat) (h : i < a.data.toList.length) : bt a (i : Int) = ((a.data.toList[i]'h).toNat : Int) := by
  unfold bt
  have h' : (i : Int).toNat < a.size := by simpa using h
  rw [dif_pos h']
  rfl

theorem size_list (a : ByteArray) : a.data.toList.length = a.size := by simp

theorem ref_loop (s : Int) (a b : ByteArray) (ha : a.size ≤ 9223372036854775807) (d : Nat) : ∀ (k i : Nat), a.size - i ≤ d → i ≤ a.size → i ≤ b.size → 2 * d + 2 ≤ k →
    convoyref02_Compare.l0 k (i : Int) s a s b = some (Lib.compareBytes (a.data.toList.drop i) (b.data.toList.drop i)) := by
  induction d with
  | zero =>
    intro k i hd hi hj hk
    obtain ⟨k, rfl⟩ : ∃ m, k = m + 2 := ⟨k - 2, by omega⟩
    have e : i = a.size := by omega
    simp only [convoyref02_Compare.l0]
    rw [if_neg (by omega)]
    simp only [convoyref02_Compare.j1, Bool.false_eq_true, if_false]
    rw [show a.data.toList.drop i = [] from List.drop_eq_nil_of_le (by rw [size_list]; omega)]
    by_cases hb : i < b.size
    · rw [if_pos (by omega)]
      have : b.data.toList.drop i ≠ [] := by
        intro e
        have := List.drop_eq_nil_iff.1 e
        rw [size_list] at this
        omega
      cases h : b.data.toList.drop i with
      | nil => exact absurd h this
      | cons y r => rfl
    · rw [if_neg (by omega), if_neg (by omega), show b.data.toList.drop i = [] from List.drop_eq_nil_of_le (by rw [size_list]; omega)]
      rfl
  | succ d ih =>
    intro k i hd hi hj hk
    obtain ⟨k, rfl⟩ : ∃ m, k = m + 2 := ⟨k - 2, by omega⟩
    by_cases hai : i < a.size
    · have hla : i < a.data.toList.length := by rw [size_list]; exact hai
      simp only [convoyref02_Compare.l0]
      rw [if_pos (by omega)]
      by_cases hbi : i < b.size
      · have hlb : i < b.data.toList.length := by rw [size_list]; exact hbi
        rw [decide_eq_true (by omega)]
        simp only [convoyref02_Compare.j1, if_true]
        rw [if_pos (by omega), if_pos (by omega), if_pos (by omega), bt_list a i hla, bt_list b i hlb]
        rw [List.drop_eq_getElem_cons hla, List.drop_eq_getElem_cons hlb]
        unfold Lib.compareBytes
        by_cases h1 : (a.data.toList[i]) < (b.data.toList[i])
        · rw [if_pos (by have := UInt8.lt_iff_toNat_lt.1 h1; omega), if_pos h1]
        · rw [if_neg (by have h3 : ¬ (a.data.toList[i]).toNat < (b.data.toList[i]).toNat := fun h => h1 (UInt8.lt_iff_toNat_lt.2 h)
                         omega), if_neg h1]
          by_cases h2 : (b.data.toList[i]) < (a.data.toList[i])
          · rw [if_pos (by have := UInt8.lt_iff_toNat_lt.1 h2; omega), if_pos h2]
          · rw [if_neg (by have h3 : ¬ (b.data.toList[i]).toNat < (a.data.toList[i]).toNat := fun h => h2 (UInt8.lt_iff_toNat_lt.2 h)
                           omega), if_neg h2]
            rw [wrap_id (by omega) (by omega)]
            have := ih k (i + 1) (by omega) (by omega) (by omega) (by omega)
            rw [show (((i + 1 : Nat)) : Int) = (i : Int) + 1 from by omega] at this
            exact this
      · rw [decide_eq_false (by omega)]
        simp only [convoyref02_Compare.j1, Bool.false_eq_true, if_false]
        rw [if_neg (by omega), if_pos (by omega), List.drop_eq_getElem_cons hla, show b.data.toList.drop i = [] from List.drop_eq_nil_of_le (by rw [size_list]; omega)]
        rfl
    · have := ih (k + 2) i (by omega) hi hj (by omega)
      exact this

theorem ref_compare_is (k : Nat) (s : Int) (a : ByteArray) (t : Int) (b : ByteArray) (ha : a.size ≤ 9223372036854775807) (hk : 2 * a.size + 2 ≤ k) :
    convoyref02_Compare.f k s a t b = some (kcmp s a t b) := by
  unfold convoyref02_Compare.f kcmp
  by_cases h : s = t
  · subst h
    rw [if_pos rfl, if_neg (Int.lt_irrefl s), if_neg (Int.lt_irrefl s)]
    have := ref_loop s a b ha a.size k 0 (by omega) (by omega) (by omega) hk
    simpa using this
  · rw [if_neg h]
    by_cases h1 : s < t
    · simp [h1]
    · simp only [h1, if_false]
      rw [if_pos (by omega)]

theorem awake_is (k : Nat) (hk : 3 ≤ k) : convoylaw02_awake.f k = some true := by
  unfold convoylaw02_awake.f
  have h1 : key_Text.f 7 (⟨#[97, 58, 98]⟩ : ByteArray) = some (⟨#[55, 58, 97, 58, 98]⟩, 0) := by decide +kernel
  rw [h1]
  simp only [Option.bind_some]
  rw [if_pos (by decide +kernel), if_pos trivial, compare_is k hk]
  rfl

theorem KeyOrders (a0 : Int) (a1 : ByteArray) (b0 : Int) (b1 : ByteArray) (c0 : Int) (c1 : ByteArray) (ha : a1.size ≤ 9223372036854775807) :
    ∃ k, convoylaw02_KeyOrders.f k a0 a1 b0 b1 c0 c1 = some true := by
  refine ⟨2 * a1.size + 3, ?_⟩
  unfold convoylaw02_KeyOrders.f
  rw [compare_is _ (by omega), compare_is _ (by omega), compare_is _ (by omega), awake_is _ (by omega)]
  simp only [Option.bind_some, if_true, convoylaw02_given.f]
  rw [ref_compare_is _ _ _ _ _ ha (by omega)]
  simp only [Option.bind_some, if_true]
  rw [compare_is _ (by omega)]
  simp only [Option.bind_some]
  have hr := kcmp_range a0 a1 b0 b1
  rw [if_pos (by rw [kcmp_anti, wrap_id (by omega) (by omega)])]
  have hz := kcmp_zero a0 a1 b0 b1
  have hb : (a0 == b0 && (a1.toList == b1.toList)) = (kcmp a0 a1 b0 b1 == 0) := by
    rw [Bool.eq_iff_iff]
    simp only [Bool.and_eq_true, beq_iff_eq, hz]
    constructor
    · rintro ⟨h1, h2⟩
      refine ⟨h1, ?_⟩
      apply bytes_ext
      rw [← ByteArray.toList_eq, ← ByteArray.toList_eq]
      exact h2
    · rintro ⟨h1, h2⟩
      exact ⟨h1, by rw [h2]⟩
  rw [hb]
  simp only [bne_self_eq_false, Bool.false_eq_true, if_false]
  by_cases h1 : kcmp a0 a1 b0 b1 > 0
  · rw [if_pos h1]
  · rw [if_neg h1]
    by_cases h2 : kcmp b0 b1 c0 c1 > 0
    · rw [if_pos h2]
    · rw [if_neg h2, decide_eq_true (kcmp_trans a0 a1 b0 b1 c0 c1 (by omega) (by omega))]

/-- The walk: the law's call, for any three keys. -/
theorem KeyOrders_walk (a0_0 : Int) (a0_1 : ByteArray) (a1_0 : Int) (a1_1 : ByteArray) (a2_0 : Int) (a2_1 : ByteArray) (w : World)
    (_ : 0 ≤ a0_0) (_ : a0_0 ≤ 65535) (ha : a0_1.size ≤ 140737488351232) (_ : 0 ≤ a1_0) (_ : a1_0 ≤ 65535) (_ : a1_1.size ≤ 140737488351232) (_ : 0 ≤ a2_0) (_ : a2_0 ≤ 65535) (_ : a2_1.size ≤ 140737488351232) :
    Calls Tryd.prog 3 #[.agg #[.int .u16 a0_0, .string a0_1], .agg #[.int .u16 a1_0, .string a1_1], .agg #[.int .u16 a2_0, .string a2_1]] w fun e w' => e = .returned (.bool true) ∧ Below w.heap.size w w' := by
  obtain ⟨k, hk⟩ := KeyOrders a0_0 a0_1 a1_0 a1_1 a2_0 a2_1 (by omega)
  exact convoylaw02_KeyOrders.calls k _ _ _ _ _ _ true w ⟨rfl⟩ hk

end Go.Proofs.YtjcgfgppdlnmpaaDoor.Pure

/-
  The plain laws of KeyBytes and KeyHashes: for any key the printed functions answer true.
-/
namespace Go.Proofs.YtjcgfgppdlnmpaaDoor.Pure
set_option linter.unusedVariables false
open Go.RowKit Go.Proofs.YtjcgfgppdlnmpaaDoor.PKey Go.Proofs.YtjcgfgppdlnmpaaDoorW.PrintWords Go.Proofs.YtjcgfgppdlnmpaaDoorW.PrintLast

theorem u16_id {x : Int} (h0 : 0 ≤ x) (h1 : x < 65536) : IntKind.u16.wrap x = x := by
  rw [IntKind.wrap_u16]; omega
theorem u64_id {x : Int} (h0 : 0 ≤ x) (h1 : x < 18446744073709551616) : IntKind.u64.wrap x = x := by
  rw [IntKind.wrap_u64]; omega
theorem u64_rng (x : Int) : 0 ≤ IntKind.u64.wrap x ∧ IntKind.u64.wrap x < 18446744073709551616 := by
  rw [IntKind.wrap_u64]; omega

/-- Two bytes, put together by 'or' or by a sum. -/
theorem or_sum (x y : Int) (hx : 0 ≤ x) (hx1 : x ≤ 255) (hy : 0 ≤ y) (hy1 : y ≤ 255) :
    Go.bits .or .u16 (IntKind.u16.wrap x) (IntKind.u16.wrap ((IntKind.u16.wrap y) * 256)) = IntKind.u16.wrap ((IntKind.u16.wrap x) + (IntKind.u16.wrap (256 * (IntKind.u16.wrap y)))) := by
  rw [u16_id hx (by omega), u16_id hy (by omega), u16_id (x := y * 256) (by omega) (by omega), u16_id (x := 256 * y) (by omega) (by omega), u16_id (x := x + 256 * y) (by omega) (by omega),
    u16_or x (y * 256) hx (by omega) (by omega) (by omega)]
  have e : (y * 256).toNat = 2 ^ 8 * y.toNat := by omega
  rw [e, Nat.or_comm, ← Nat.two_pow_add_eq_or_of_lt (by omega)]
  omega

theorem key_take_j (k : Nat) (s : ByteArray) (at_ : Int) (b : Bool) : key_Take.j0 k s at_ b = convoyref02_Take.j0 k s at_ b := by
  cases k with
  | zero => rfl
  | succ k =>
    simp only [key_Take.j0, convoyref02_Take.j0]
    cases b with
    | true => rfl
    | false =>
      have r1 := bt_range s at_
      have r2 := bt_range s (wrap64 (at_ + 1))
      rw [or_sum _ _ r1.1 r1.2 r2.1 r2.2]

theorem take_is (k : Nat) (s : ByteArray) (at_ : Int) : key_Take.f k s at_ = convoyref02_Take.f k s at_ := by
  unfold key_Take.f convoyref02_Take.f
  by_cases h1 : at_ < 0
  · rw [if_pos h1, if_pos h1, key_take_j]
  · by_cases h2 : at_ > (s.size : Int)
    · rw [if_neg h1, if_neg h1, if_pos h2, if_pos h2, key_take_j]
    · rw [if_neg h1, if_neg h1, if_neg h2, if_neg h2, key_take_j]

/-- Take answers, at any place. -/
theorem take_some (k : Nat) (hk : 1 ≤ k) (s : ByteArray) (at_ : Int) (hs : s.size ≤ 140737488351232) : ∃ r, convoyref02_Take.f k s at_ = some r := by
  obtain ⟨k, rfl⟩ : ∃ m, k = m + 1 := ⟨k - 1, by omega⟩
  unfold convoyref02_Take.f
  by_cases h1 : at_ < 0
  · rw [if_pos h1]; exact ⟨_, rfl⟩
  by_cases h2 : at_ > (s.size : Int)
  · rw [if_neg h1, if_pos h2]; exact ⟨_, rfl⟩
  rw [if_neg h1, if_neg h2, wrap_id (by omega) (by omega)]
  by_cases h3 : (s.size : Int) - at_ < 3
  · rw [decide_eq_true h3]; exact ⟨_, rfl⟩
  rw [decide_eq_false h3]
  have r2 := bt_range s (at_ + 2)
  simp only [convoyref02_Take.j0, Bool.false_eq_true, if_false]
  rw [wrap_id (x := at_ + 2) (by omega) (by omega), wrap_id (x := bt s (at_ + 2)) (by omega) (by omega), wrap_id (x := (s.size : Int) - at_) (by omega) (by omega),
    wrap_id (x := (s.size : Int) - at_ - 3) (by omega) (by omega), wrap_id (x := at_ + 1) (by omega) (by omega), wrap_id (x := at_ + 3) (by omega) (by omega),
    wrap_id (x := at_ + 3 + bt s (at_ + 2)) (by omega) (by omega)]
  rw [if_pos (by omega), if_pos (by omega)]
  by_cases h4 : bt s (at_ + 2) > 64
  · rw [if_pos h4]; exact ⟨_, rfl⟩
  rw [if_neg h4]
  by_cases h5 : (s.size : Int) - at_ - 3 < bt s (at_ + 2)
  · rw [if_pos h5]; exact ⟨_, rfl⟩
  rw [if_neg h5, if_pos (by omega), if_pos (by omega), if_pos (by omega), if_pos (by omega), if_pos (by omega), if_pos (by omega), if_pos (by omega)]
  exact ⟨_, rfl⟩

theorem nums_len (l : List Int) : (strOfNums l).size = l.length := by
  show (List.map (fun n => UInt8.ofNat n.toNat) l).toArray.size = l.length
  simp

/-- A key's bytes, by the code and by the document. -/
theorem told_is (a0 : Int) (a1 : ByteArray) (h0 : 0 ≤ a0) (h1 : a0 ≤ 65535) (hs : a1.size ≤ 140737488351232) : ∃ t, key_told.f a0 a1 = some t ∧ convoyref02_Bytes.f a0 a1 = some t ∧ t.size = 3 + a1.size := by
  refine ⟨strOfNums [a0 % 256, (a0 / 256) % 256, (a1.size : Int) % 256] ++ a1, ?_, ?_, ?_⟩
  · unfold key_told.f
    simp only [Option.bind_some]
    rw [if_pos (by rw [nums_len]; simp; omega)]
  · unfold convoyref02_Bytes.f
    simp only [Option.bind_some]
    have e1 : Int.tmod a0 256 = a0 % 256 := Int.tmod_eq_emod_of_nonneg h0
    have e2 : Int.tdiv a0 256 = a0 / 256 := Int.tdiv_eq_ediv_of_nonneg h0
    rw [e1, e2, u16_id (by omega) (by omega), if_pos (by rw [nums_len]; simp; omega), show a0 % 256 % 256 = a0 % 256 from by omega]
  · rw [ByteArray.size_append, nums_len]; rfl

theorem KeyBytes (a0 : Int) (a1 s : ByteArray) (at_ : Int) (h0 : 0 ≤ a0) (h1 : a0 ≤ 65535) (ha : a1.size ≤ 140737488351232) (hs : s.size ≤ 140737488351232) :
    ∃ k, convoylaw02_KeyBytes.f k a0 a1 s at_ = some true := by
  refine ⟨4, ?_⟩
  obtain ⟨t, t1, t2, _⟩ := told_is a0 a1 h0 h1 ha
  obtain ⟨r, hr⟩ := take_some 3 (by omega) s at_ hs
  unfold convoylaw02_KeyBytes.f
  rw [awake_is _ (by omega)]
  simp only [Option.bind_some, if_true]
  have j0 : convoylaw02_KeyBytes.j0 4 s at_ false = some true := by
    simp only [convoylaw02_KeyBytes.j0, Bool.false_eq_true, if_false]
    rw [take_is 3 s at_, hr]
    simp [convoylaw02_given.f]
  have j1 : convoylaw02_KeyBytes.j1 4 s at_ false = some true := by
    simp only [convoylaw02_KeyBytes.j1, Bool.false_eq_true, if_false]
    rw [take_is 3 s at_, hr]
    simp [convoylaw02_given.f]
  unfold key_Bytes.f key_Check.f
  by_cases hl : (a1.size : Int) > 64
  · rw [if_pos hl]
    simp only [Option.bind_some]
    rw [if_neg (by decide)]
    simp only [Option.bind_some]
    rw [if_pos hl, if_pos (by decide +kernel)]
    exact j0
  · rw [if_neg hl]
    simp only [Option.bind_some]
    rw [if_pos trivial, t1]
    simp only [Option.bind_some, convoylaw02_given.f]
    rw [if_neg hl, t2]
    simp only [Option.bind_some, if_true]
    exact j1

theorem KeyBytes_walk (a0_0 : Int) (a0_1 : ByteArray) (a1 : ByteArray) (a2 : Int) (w : World)
    (h0 : 0 ≤ a0_0) (h1 : a0_0 ≤ 65535) (ha : a0_1.size ≤ 140737488351232) (hs : a1.size ≤ 140737488351232) (_ : -9223372036854775808 ≤ a2) (_ : a2 ≤ 9223372036854775807) :
    Calls Tryd.prog 5 #[.agg #[.int .u16 a0_0, .string a0_1], .string a1, .int .i64 a2] w fun e w' => e = .returned (.bool true) ∧ Below w.heap.size w w' := by
  obtain ⟨k, hk⟩ := KeyBytes a0_0 a0_1 a1 a2 h0 h1 ha hs
  exact convoylaw02_KeyBytes.calls k _ _ _ _ true w ⟨rfl⟩ hk

/-! ### KeyHashes -/
theorem over_is (d : Nat) : ∀ (k : Nat) (x n i : Int), n - i = d → 0 ≤ i → n ≤ 64 → d < k → 0 ≤ x → x < 18446744073709551616 → convoyref02_over.l0 k x n i = some (x / 2 ^ d) := by
  induction d with
  | zero =>
    intro k x n i hd h0 hn hk hx hx1
    obtain ⟨k, rfl⟩ : ∃ m, k = m + 1 := ⟨k - 1, by omega⟩
    simp only [convoyref02_over.l0]
    rw [if_neg (by omega)]
    simp
  | succ d ih =>
    intro k x n i hd h0 hn hk hx hx1
    obtain ⟨k, rfl⟩ : ∃ m, k = m + 1 := ⟨k - 1, by omega⟩
    simp only [convoyref02_over.l0]
    rw [if_pos (by omega), Int.tdiv_eq_ediv_of_nonneg hx, u64_id (by omega) (by omega), wrap_id (by omega) (by omega)]
    rw [ih k (x / 2) n (i + 1) (by omega) (by omega) hn (by omega) (by omega) (by omega)]
    rw [Int.ediv_ediv_of_nonneg (by omega), Int.pow_succ, Int.mul_comm]

theorem over_f (k : Nat) (x : Int) (n : Nat) (hn : n ≤ 64) (hk : n < k) (hx : 0 ≤ x) (hx1 : x < 18446744073709551616) : convoyref02_over.f k x n = some (x / 2 ^ n) :=
  over_is n k x n 0 (by omega) (by omega) (by omega) hk hx hx1

theorem over_32 (k : Nat) (x : Int) (hk : 32 < k) (hx : 0 ≤ x) (hx1 : x < 18446744073709551616) : convoyref02_over.f k x 32 = some (x / 4294967296) := over_f k x 32 (by omega) hk hx hx1
theorem over_29 (k : Nat) (x : Int) (hk : 29 < k) (hx : 0 ≤ x) (hx1 : x < 18446744073709551616) : convoyref02_over.f k x 29 = some (x / 536870912) := over_f k x 29 (by omega) hk hx hx1

theorem xor_rng (a b : Int) (h1 : 0 ≤ a) (h2 : a < 18446744073709551616) (h3 : 0 ≤ b) (h4 : b < 18446744073709551616) : 0 ≤ Go.bits .xor .u64 a b ∧ Go.bits .xor .u64 a b < 18446744073709551616 := by
  rw [u64_xor a b h1 h2 h3 h4]
  have := Nat.xor_lt_two_pow (x := a.toNat) (y := b.toNat) (n := 64) (by omega) (by omega)
  omega

/-- The loops of the two hashes go side by side. -/
theorem hash_loop (t : ByteArray) (ht : t.size ≤ 9223372036854775807) (d : Nat) : ∀ (k : Nat) (h i : Int), (t.size : Int) - i = d → 0 ≤ i → d + 34 ≤ k → 0 ≤ h → h < 18446744073709551616 →
    ∃ r, key_Hash.l0 k h t (t.size : Int) i = some r ∧ convoyref02_Hash.l0 k h t i = some r ∧ 0 ≤ r ∧ r < 18446744073709551616 := by
  induction d with
  | zero =>
    intro k h i hd h0 hk hh hh1
    obtain ⟨k, rfl⟩ : ∃ m, k = m + 1 := ⟨k - 1, by omega⟩
    simp only [key_Hash.l0, convoyref02_Hash.l0]
    rw [if_neg (by omega), if_neg (by omega), over_32 k h (by omega) hh hh1]
    simp only [Option.bind_some]
    have w1 := u64_rng ((Go.bits .xor .u64 h (h / 4294967296)) * 11400714819323198485)
    rw [over_29 k _ (by omega) w1.1 w1.2]
    simp only [Option.bind_some]
    exact ⟨_, rfl, rfl, xor_rng _ _ w1.1 w1.2 (by omega) (by omega)⟩
  | succ d ih =>
    intro k h i hd h0 hk hh hh1
    obtain ⟨k, rfl⟩ : ∃ m, k = m + 1 := ⟨k - 1, by omega⟩
    simp only [key_Hash.l0, convoyref02_Hash.l0]
    rw [if_pos (by omega), if_pos (by omega), if_pos (by omega), if_pos (by omega), if_pos (by omega), wrap_id (by omega) (by omega)]
    have w1 := u64_rng ((Go.bits .xor .u64 h (IntKind.u64.wrap (bt t i))) * 1099511628211)
    exact ih k _ (i + 1) (by omega) (by omega) (by omega) w1.1 w1.2

theorem hash_is (k : Nat) (a0 : Int) (a1 : ByteArray) (h0 : 0 ≤ a0) (h1 : a0 ≤ 65535) (hs : a1.size ≤ 140737488351232) (hk : a1.size + 37 ≤ k) :
    ∃ r, key_Hash.f k a0 a1 = some r ∧ convoyref02_Hash.f k a0 a1 = some r ∧ 0 ≤ r ∧ r < 18446744073709551616 := by
  obtain ⟨t, t1, t2, ht⟩ := told_is a0 a1 h0 h1 hs
  unfold key_Hash.f convoyref02_Hash.f
  rw [t1, t2]
  simp only [Option.bind_some]
  exact hash_loop t (by omega) t.size k _ 0 (by omega) (by omega) (by omega) (by omega) (by omega)

/-- The part, by the product of 128 bits and by the document. -/
theorem part_num (h n : Int) (h0 : 0 ≤ h) (h1 : h < 18446744073709551616) (n0 : 1 ≤ n) (n1 : n ≤ 65536) :
    h / 4294967296 * 4294967296 * n / 18446744073709551616 = h / 4294967296 * n / 4294967296 := by
  have e : h / 4294967296 * 4294967296 * n = h / 4294967296 * n * 4294967296 := by rw [Int.mul_assoc, Int.mul_comm 4294967296 n, ← Int.mul_assoc]
  rw [e]
  omega

theorem part_is (k : Nat) (a0 : Int) (a1 : ByteArray) (n : Int) (h0 : 0 ≤ a0) (h1 : a0 ≤ 65535) (hs : a1.size ≤ 140737488351232) (hk : a1.size + 38 ≤ k) (n0 : 1 ≤ n) (n1 : n ≤ 65536) :
    ∃ h, key_Part.f k a0 a1 n = some (h / 4294967296 * n / 4294967296, 0) ∧ convoyref02_Part.f k a0 a1 n = some (h / 4294967296 * n / 4294967296) ∧ 0 ≤ h ∧ h < 18446744073709551616 := by
  obtain ⟨k, rfl⟩ : ∃ m, k = m + 1 := ⟨k - 1, by omega⟩
  obtain ⟨h, e1, _, g0, g1⟩ := hash_is k a0 a1 h0 h1 hs (by omega)
  obtain ⟨h', _, e2, _, _⟩ := hash_is (k + 1) a0 a1 h0 h1 hs (by omega)
  have e3 : convoyref02_Hash.f (k + 1) a0 a1 = some h := by
    obtain ⟨h2, e4, e5, _, _⟩ := hash_is k a0 a1 h0 h1 hs (by omega)
    rw [e1] at e4
    obtain rfl := Option.some.inj e4
    exact convoyref02_Hash.mono a0 a1 k _ e5
  have hb : 0 ≤ h / 4294967296 * n ∧ h / 4294967296 * n < 281474976710656 := by
    have x0 : 0 ≤ h / 4294967296 := by omega
    have x1 : h / 4294967296 ≤ 4294967295 := by omega
    refine ⟨Int.mul_nonneg x0 (by omega), ?_⟩
    have := Int.mul_le_mul x1 n1 (by omega) (by omega)
    omega
  refine ⟨h, ?_, ?_, g0, g1⟩
  · unfold key_Part.f
    rw [if_neg (by omega), decide_eq_false (by omega)]
    simp only [key_Part.j0, Bool.false_eq_true, if_false]
    rw [e1]
    simp only [Option.bind_some]
    rw [u64_id (x := h / 4294967296 * 4294967296) (by omega) (by omega), u64_id (x := n) (by omega) (by omega)]
    unfold bits_Mul64.f
    rw [if_pos (by omega)]
    simp only [Option.bind_some]
    rw [part_num h n g0 g1 n0 n1, wrap_id (by omega) (by omega)]
  · unfold convoyref02_Part.f
    rw [e3]
    simp only [Option.bind_some]
    rw [over_32 (k + 1) h (by omega) g0 g1]
    simp only [Option.bind_some]
    rw [u64_id (x := n) (by omega) (by omega), u64_id (x := h / 4294967296 * n) (by omega) (by omega),
      over_32 (k + 1) _ (by omega) hb.1 (by omega)]
    simp only [Option.bind_some]
    rw [wrap_id (by omega) (by omega)]

theorem KeyHashes (a0 : Int) (a1 : ByteArray) (n : Int) (h0 : 0 ≤ a0) (h1 : a0 ≤ 65535) (hs : a1.size ≤ 140737488351232) :
    ∃ k, convoylaw02_KeyHashes.f k a0 a1 n = some true := by
  refine ⟨a1.size + 40, ?_⟩
  obtain ⟨r, e1, e2, _, _⟩ := hash_is (a1.size + 40) a0 a1 h0 h1 hs (by omega)
  unfold convoylaw02_KeyHashes.f
  rw [awake_is _ (by omega), e1]
  simp only [Option.bind_some, if_true, convoylaw02_given.f]
  rw [e2]
  simp only [Option.bind_some, bne_self_eq_false, convoylaw02_KeyHashes.j0, Bool.false_eq_true, if_false]
  by_cases c1 : n < 1
  · rw [show key_Part.f (a1.size + 39) a0 a1 n = some (0, 1) from by unfold key_Part.f; rw [if_pos c1]; rfl]
    simp only [Option.bind_some]
    rw [if_pos c1]
    rfl
  by_cases c2 : n > 65536
  · rw [show key_Part.f (a1.size + 39) a0 a1 n = some (0, 1) from by unfold key_Part.f; rw [if_neg c1, decide_eq_true c2]; rfl]
    simp only [Option.bind_some]
    rw [if_neg c1, decide_eq_true c2]
    rfl
  obtain ⟨h, p1, _, _, _⟩ := part_is (a1.size + 39) a0 a1 n h0 h1 hs (by omega) (by omega) (by omega)
  obtain ⟨h', q1, p2, _, _⟩ := part_is (a1.size + 38) a0 a1 n h0 h1 hs (by omega) (by omega) (by omega)
  have q3 := key_Part.mono a0 a1 n (a1.size + 38) _ q1
  rw [p1] at q3
  simp only [Option.some.injEq, Prod.mk.injEq] at q3
  rw [p1]
  simp only [Option.bind_some]
  rw [if_neg c1, decide_eq_false c2]
  simp only [convoylaw02_KeyHashes.j1, Bool.false_eq_true, if_false, convoylaw02_given.f, Option.bind_some]
  rw [p2]
  simp only [Option.bind_some]
  rw [if_pos q3.1]
  rfl

theorem KeyHashes_walk (a0_0 : Int) (a0_1 : ByteArray) (a1 : Int) (w : World)
    (h0 : 0 ≤ a0_0) (h1 : a0_0 ≤ 65535) (ha : a0_1.size ≤ 140737488351232) (_ : -9223372036854775808 ≤ a1) (_ : a1 ≤ 9223372036854775807) :
    Calls Tryd.prog 6 #[.agg #[.int .u16 a0_0, .string a0_1], .int .i64 a1] w fun e w' => e = .returned (.bool true) ∧ Below w.heap.size w w' := by
  obtain ⟨k, hk⟩ := KeyHashes a0_0 a0_1 a1 h0 h1 ha
  exact convoylaw02_KeyHashes.calls k _ _ _ true w ⟨rfl⟩ hk

end Go.Proofs.YtjcgfgppdlnmpaaDoor.Pure

/-
  The plain laws of KeyTexts and KeyBack: for any key and text the printed functions answer true.
-/
namespace Go.Proofs.YtjcgfgppdlnmpaaDoor.Pure
set_option linter.unusedVariables false
open Go.RowKit Go.Proofs.YtjcgfgppdlnmpaaDoor.PKey Go.Proofs.YtjcgfgppdlnmpaaDoorW.PrintWords Go.Proofs.YtjcgfgppdlnmpaaDoorW.PrintLast

/-! ### the two parsers side by side -/
/-- What the two answers have to do with one another. -/
def Alike (x : Int × ByteArray × Int × Int) (y : Int × ByteArray × Int) : Prop :=
  (0 ≤ y.2.2 ∧ x = (0, ⟨#[]⟩, y.2.2, 20)) ∨ (y.2.2 = -1 ∧ x = (y.1, y.2.1, 0, 0))

theorem end_alike (s : ByteArray) (hs : s.size ≤ 140737488351232) (k1 k2 : Nat) (n i : Int) (h0 : 0 ≤ i) (h1 : i ≤ s.size) (c : Bool) (hc : c = false → i < s.size) :
    ∃ x y, key_Parse.j3 (k1 + 1) s n i c = some x ∧ convoyref02_Parse.j2 (k2 + 1) s n i c = some y ∧ Alike x y := by
  cases c with
  | true => exact ⟨_, _, rfl, rfl, .inl ⟨h0, rfl⟩⟩
  | false =>
    have := hc rfl
    simp only [key_Parse.j3, convoyref02_Parse.j2, Bool.false_eq_true, if_false]
    rw [wrap_id (x := (s.size : Int) - i) (by omega) (by omega), wrap_id (x := (s.size : Int) - i - 1) (by omega) (by omega), wrap_id (x := i + 1) (by omega) (by omega), wrap_id (x := i + 1 + 64) (by omega) (by omega)]
    by_cases h : (s.size : Int) - i - 1 > 64
    · rw [if_pos h, if_pos h]
      exact ⟨_, _, rfl, rfl, .inl ⟨by show 0 ≤ i + 1 + 64; omega, rfl⟩⟩
    · rw [if_neg h, if_neg h, if_pos (by omega), if_pos (by omega), if_pos (by omega), if_pos (by omega)]
      exact ⟨_, _, rfl, rfl, .inr ⟨rfl, rfl⟩⟩

theorem digit_num (c n : Int) (h0 : 48 ≤ c) (h1 : c ≤ 57) (hn : 0 ≤ n) (hn1 : n ≤ 65535) : wrap64 ((wrap64 (10 * n)) + ((c - 48) % 256)) = 10 * n + (c - 48) := by
  rw [wrap_id (x := 10 * n) (by omega) (by omega), wrap_id (by omega) (by omega)]
  omega

theorem parse_alike (s : ByteArray) (hs : s.size ≤ 140737488351232) (d : Nat) : ∀ (k1 k2 : Nat) (n i : Int), (s.size : Int) - i ≤ d → 0 ≤ i → i ≤ s.size → 0 ≤ n → n ≤ 65535 → 3 * d + 4 ≤ k1 → 2 * d + 4 ≤ k2 →
    ∃ x y, key_Parse.l0 k1 s n i = some x ∧ convoyref02_Parse.l0 k2 s n i = some y ∧ Alike x y := by
  induction d with
  | zero =>
    intro k1 k2 n i hd h0 h1 hn hn1 hk1 hk2
    obtain ⟨k1, rfl⟩ : ∃ m, k1 = m + 3 := ⟨k1 - 3, by omega⟩
    obtain ⟨k2, rfl⟩ : ∃ m, k2 = m + 3 := ⟨k2 - 3, by omega⟩
    have e : i = (s.size : Int) := by omega
    simp only [key_Parse.l0, convoyref02_Parse.l0]
    rw [if_neg (by omega), if_neg (by omega)]
    simp only [key_Parse.j1, convoyref02_Parse.j1, Bool.false_eq_true, if_false]
    rw [if_pos e, if_pos e]
    by_cases hz : i = 0
    · rw [if_pos hz]; exact end_alike s hs k1 k2 n i h0 h1 true (by simp)
    · rw [if_neg hz]; exact end_alike s hs k1 k2 n i h0 h1 true (by simp)
  | succ d ih =>
    intro k1 k2 n i hd h0 h1 hn hn1 hk1 hk2
    obtain ⟨k1, rfl⟩ : ∃ m, k1 = m + 3 := ⟨k1 - 3, by omega⟩
    obtain ⟨k2, rfl⟩ : ∃ m, k2 = m + 3 := ⟨k2 - 3, by omega⟩
    by_cases hlt : i < (s.size : Int)
    · have hb := bt_range s i
      simp only [key_Parse.l0, convoyref02_Parse.l0]
      rw [if_pos hlt, if_pos hlt, if_pos h0, if_pos h0]
      by_cases g1 : bt s i ≥ 48
      · rw [if_pos g1]
        by_cases g2 : bt s i ≤ 57
        · -- a digit
          rw [decide_eq_true g2, show (bt s i != 58) = true from bne_iff_ne.2 (by omega)]
          simp only [key_Parse.j1, convoyref02_Parse.j1, if_true]
          rw [if_pos h0, if_pos hlt, if_neg (show ¬ bt s i < 48 by omega), if_neg (show ¬ bt s i > 57 by omega)]
          have fin : ∀ c : Bool, (c = true → n = 0 ∧ 0 < i) → (c = false → ¬ (0 < i ∧ n = 0)) → ∃ x y, key_Parse.j2 (k1 + 1) s n i c = some x ∧
              (if i > 0 then (if n = 0 then (some ((0 : Int), (⟨#[]⟩ : ByteArray), i)) else (if (wrap64 ((wrap64 (10 * n)) + ((bt s i - 48) % 256))) > 65535 then (some (0, (⟨#[]⟩ : ByteArray), i)) else (convoyref02_Parse.l0 (k2 + 1) s (wrap64 ((wrap64 (10 * n)) + ((bt s i - 48) % 256))) (wrap64 (i + 1))))) else (if (wrap64 ((wrap64 (10 * n)) + ((bt s i - 48) % 256))) > 65535 then (some (0, (⟨#[]⟩ : ByteArray), i)) else (convoyref02_Parse.l0 (k2 + 1) s (wrap64 ((wrap64 (10 * n)) + ((bt s i - 48) % 256))) (wrap64 (i + 1))))) = some y ∧ Alike x y := by
            intro c hc hc'
            cases c with
            | true =>
              obtain ⟨e1, e2⟩ := hc rfl
              rw [if_pos e2, if_pos e1]
              exact ⟨_, _, rfl, rfl, .inl ⟨h0, rfl⟩⟩
            | false =>
              have hz := hc' rfl
              simp only [key_Parse.j2, Bool.false_eq_true, if_false]
              rw [if_pos h0, if_pos hlt, digit_num _ _ g1 g2 hn hn1, wrap_id (x := i + 1) (by omega) (by omega)]
              have tail : ∃ x y, (if 10 * n + (bt s i - 48) > 65535 then some ((0 : Int), (⟨#[]⟩ : ByteArray), i, (20 : Int)) else key_Parse.l0 k1 s (10 * n + (bt s i - 48)) (i + 1)) = some x ∧
                  (if 10 * n + (bt s i - 48) > 65535 then some ((0 : Int), (⟨#[]⟩ : ByteArray), i) else convoyref02_Parse.l0 (k2 + 1) s (10 * n + (bt s i - 48)) (i + 1)) = some y ∧ Alike x y := by
                by_cases hbig : 10 * n + (bt s i - 48) > 65535
                · rw [if_pos hbig, if_pos hbig]
                  exact ⟨_, _, rfl, rfl, .inl ⟨h0, rfl⟩⟩
                · rw [if_neg hbig, if_neg hbig]
                  exact ih k1 (k2 + 1) _ (i + 1) (by omega) (by omega) (by omega) (by omega) (by omega) (by omega) (by omega)
              by_cases hi : i > 0
              · rw [if_pos hi, if_neg (show ¬ n = 0 by omega)]; exact tail
              · rw [if_neg hi]; exact tail
          by_cases hi : i > 0
          · rw [if_pos hi]
            refine fin (n == 0) (fun h => ⟨beq_iff_eq.1 h, hi⟩) (fun h => ?_)
            have := beq_eq_false_iff_ne.1 h
            omega
          · rw [if_neg hi]
            exact fin false (fun h => by cases h) (fun _ => by omega)
        · -- above the digits
          rw [decide_eq_false g2]
          simp only [key_Parse.j1, Bool.false_eq_true, if_false]
          by_cases g3 : bt s i = 58
          · rw [show (bt s i != 58) = false from bne_eq_false_iff_eq.2 g3]
            simp only [convoyref02_Parse.j1, Bool.false_eq_true, if_false]
            by_cases hz : i = 0
            · rw [if_pos hz, if_neg (show ¬ i = (s.size : Int) by omega), show (i == 0) = true from beq_iff_eq.2 hz]
              exact end_alike s hs k1 k2 n i h0 h1 true (by simp)
            · rw [if_neg hz, if_neg (show ¬ i = (s.size : Int) by omega), if_pos h0, if_pos hlt, if_neg (show ¬ i = (s.size : Int) by omega), show (i == 0) = false from beq_eq_false_iff_ne.2 hz]
              exact end_alike s hs k1 k2 n i h0 h1 false (fun _ => hlt)
          · rw [show (bt s i != 58) = true from bne_iff_ne.2 g3]
            simp only [convoyref02_Parse.j1, if_true]
            refine ⟨(0, ⟨#[]⟩, i, 20), (0, ⟨#[]⟩, i), ?_, ?_, .inl ⟨h0, rfl⟩⟩
            · by_cases hz : i = 0
              · rw [if_pos hz]; rfl
              · rw [if_neg hz, if_neg (show ¬ i = (s.size : Int) by omega), if_pos h0, if_pos hlt]; rfl
            · rw [if_pos h0, if_pos hlt, if_neg (show ¬ bt s i < 48 by omega), if_pos (show bt s i > 57 by omega)]
      · -- below the digits
        rw [if_neg g1]
        simp only [key_Parse.j1, Bool.false_eq_true, if_false]
        rw [show (bt s i != 58) = true from bne_iff_ne.2 (by omega)]
        simp only [convoyref02_Parse.j1, if_true]
        refine ⟨(0, ⟨#[]⟩, i, 20), (0, ⟨#[]⟩, i), ?_, ?_, .inl ⟨h0, rfl⟩⟩
        · by_cases hz : i = 0
          · rw [if_pos hz]; rfl
          · rw [if_neg hz, if_neg (show ¬ i = (s.size : Int) by omega), if_pos h0, if_pos hlt]; rfl
        · rw [if_pos h0, if_pos hlt, if_pos (show bt s i < 48 by omega)]
    · exact ih (k1 + 3) (k2 + 3) n i (by omega) h0 h1 hn hn1 (by omega) (by omega)

/-! ### the digits -/
theorem digits_loop (u : Nat) : ∀ (k : Nat) (acc : ByteArray), u ≤ 65535 → acc.size + u < 4611686018427387904 → u + 1 ≤ k → ∃ t, convoyref02_digits.l0 k (u : Int) acc = some t ∧ t.data.toList = Lib.decDigits u ++ acc.data.toList := by
  induction u using Nat.strongRecOn with
  | _ u ih =>
    intro k acc hu hacc hk
    obtain ⟨k, rfl⟩ : ∃ m, k = m + 1 := ⟨k - 1, by omega⟩
    have app : ∀ d : Int, (strOfNums [d] ++ acc).size = acc.size + 1 := fun d => by rw [ByteArray.size_append, nums_len]; simp; omega
    simp only [convoyref02_digits.l0]
    by_cases h : (u : Int) ≥ 10
    · rw [if_pos h]
      simp only [Option.bind_some]
      rw [if_pos (by rw [nums_len]; simp; omega), Int.tdiv_eq_ediv_of_nonneg (by omega), wrap_id (x := (u : Int) / 10) (by omega) (by omega), Int.tmod_eq_emod_of_nonneg (by omega), wrap_id (x := 48 + (u : Int) % 10) (by omega) (by omega)]
      obtain ⟨t, h1, h2⟩ := ih (u / 10) (by omega) k (strOfNums [(48 + (u : Int) % 10) % 256] ++ acc) (by omega) (by rw [app]; omega) (by omega)
      refine ⟨t, by rw [← h1, show ((u / 10 : Nat) : Int) = (u : Int) / 10 from by omega], ?_⟩
      rw [h2, Lib.decDigits.eq_def u, dif_neg (by omega)]
      have e : (strOfNums [(48 + (u : Int) % 10) % 256] ++ acc).data.toList = UInt8.ofNat (48 + u % 10) :: acc.data.toList := by
        rw [Go.Joins.data_append]
        show [UInt8.ofNat ((48 + (u : Int) % 10) % 256).toNat] ++ acc.data.toList = _
        rw [show ((48 + (u : Int) % 10) % 256).toNat = 48 + u % 10 from by omega]
        rfl
      rw [e]
      simp
    · rw [if_neg h]
      simp only [Option.bind_some]
      rw [if_pos (by rw [nums_len]; simp; omega), wrap_id (x := 48 + (u : Int)) (by omega) (by omega)]
      refine ⟨_, rfl, ?_⟩
      rw [Go.Joins.data_append, Lib.decDigits_one (by omega)]
      show [UInt8.ofNat ((48 + (u : Int)) % 256).toNat] ++ acc.data.toList = _
      rw [show ((48 + (u : Int)) % 256).toNat = 48 + u from by omega]

theorem digits_is (u : Nat) (hu : u ≤ 65535) (k : Nat) (hk : u + 1 ≤ k) : convoyref02_digits.f k (u : Int) = some ⟨(Lib.decDigits u).toArray⟩ := by
  obtain ⟨t, h1, h2⟩ := digits_loop u k ⟨#[]⟩ hu (by show 0 + u < _; omega) hk
  unfold convoyref02_digits.f
  rw [h1]
  congr 1
  apply bytes_ext
  simpa using h2

theorem dec_len (u : Nat) (hu : u ≤ 65535) : (Lib.decDigits u).length ≤ 5 := by
  rw [Lib.decDigits_length]
  have h : ∀ k, u < 10 ^ (k + 1) → Lib.nDigits u ≤ k + 1 := by
    intro k
    induction k generalizing u with
    | zero => intro h; rw [Lib.nDigits_small (by simpa using h)]; exact Nat.le_refl _
    | succ k ih =>
      intro h
      by_cases hs : u < 10
      · rw [Lib.nDigits_small hs]; omega
      · rw [Lib.nDigits_big hs]
        have := ih (u / 10) (by omega) (by rw [Nat.pow_succ] at h; omega)
        omega
  exact h 4 (by omega)

/-- A key's text. -/
def textOf (u : Nat) (name : ByteArray) : ByteArray := ((⟨(Lib.decDigits u).toArray⟩ : ByteArray) ++ (⟨#[58]⟩ : ByteArray)) ++ name

theorem itoaG_is (u : Nat) (hu : u ≤ 65535) : strconv_ItoaG.f (wrap64 (u : Int)) = some ⟨(Lib.decDigits u).toArray⟩ := by
  rw [wrap_id (by omega) (by omega)]
  unfold strconv_ItoaG.f
  rw [if_pos (by omega), Lib.itoa_nonneg]

theorem size_dec (u : Nat) : (⟨(Lib.decDigits u).toArray⟩ : ByteArray).size = (Lib.decDigits u).length := by
  show (Lib.decDigits u).toArray.size = _
  simp
theorem size_dec_colon (u : Nat) : ((⟨(Lib.decDigits u).toArray⟩ : ByteArray) ++ (⟨#[58]⟩ : ByteArray)).size = (Lib.decDigits u).length + 1 := by
  rw [ByteArray.size_append, size_dec]
  rfl

theorem text_is (u : Nat) (name : ByteArray) (hu : u ≤ 65535) (hs : name.size ≤ 140737488351232) :
    PKeyT.key_Text.f (u : Int) name = if (name.size : Int) > 64 then some (⟨#[]⟩, 20) else some (textOf u name, 0) := by
  have hl := dec_len u hu
  unfold PKeyT.key_Text.f key_Check.f
  rw [itoaG_is u hu]
  by_cases h : (name.size : Int) > 64
  · rw [if_pos h, if_pos h]
    simp only [Option.bind_some]
    rw [if_neg (show ¬ (20 : Int) = 0 by decide)]
  · rw [if_neg h, if_neg h]
    simp only [Option.bind_some]
    rw [if_pos trivial, if_pos (by rw [size_dec]; omega), if_pos (by rw [size_dec_colon]; omega)]
    rfl

theorem ref_text_is (k : Nat) (u : Nat) (name : ByteArray) (hu : u ≤ 65535) (hs : name.size ≤ 140737488351232) (hk : u + 1 ≤ k) :
    convoyref02_Text.f k (u : Int) name = if (name.size : Int) > 64 then some (⟨#[]⟩, false) else some (textOf u name, true) := by
  have hl := dec_len u hu
  unfold convoyref02_Text.f
  by_cases h : (name.size : Int) > 64
  · rw [if_pos h, if_pos h]
  · rw [if_neg h, if_neg h, wrap_id (by omega) (by omega), digits_is u hu k hk]
    simp only [Option.bind_some]
    rw [if_pos (by rw [size_dec]; omega), if_pos (by rw [size_dec_colon]; omega)]
    rfl

theorem KeyTexts (a0 : Int) (a1 s : ByteArray) (h0 : 0 ≤ a0) (h1 : a0 ≤ 65535) (ha : a1.size ≤ 140737488351232) (hs : s.size ≤ 140737488351232) :
    ∃ k, PKeyT.convoylaw02_KeyTexts.f k a0 a1 s = some true := by
  obtain ⟨u, rfl⟩ := Int.eq_ofNat_of_zero_le h0
  have hu : u ≤ 65535 := by omega
  refine ⟨3 * s.size + u + 10, ?_⟩
  have j : PKeyT.convoylaw02_KeyTexts.j0 (3 * s.size + u + 10) s false = some true := by
    simp only [PKeyT.convoylaw02_KeyTexts.j0, Bool.false_eq_true, if_false]
    obtain ⟨x, y, e1, e2, al⟩ := parse_alike s hs s.size (3 * s.size + u + 9) (3 * s.size + u + 9) 0 0 (by omega) (by omega) (by omega) (by omega) (by omega) (by omega) (by omega)
    unfold key_Parse.f convoyref02_Parse.f
    rw [e1, e2]
    simp only [Option.bind_some]
    rcases al with ⟨g1, rfl⟩ | ⟨g1, rfl⟩
    · rw [if_pos g1]
      simp only
      rw [if_pos (by decide +kernel), if_pos trivial]
      rfl
    · rw [if_neg (by omega)]
      simp [convoylaw02_given.f]
  unfold PKeyT.convoylaw02_KeyTexts.f
  rw [awake_is _ (by omega)]
  simp only [Option.bind_some, if_true]
  rw [text_is u a1 hu ha]
  unfold key_Check.f
  by_cases h : (a1.size : Int) > 64
  · rw [if_pos h, if_pos h]
    simp only [Option.bind_some, convoylaw02_given.f]
    rw [ref_text_is _ u a1 hu ha (by omega), if_pos h]
    simp only [Option.bind_some]
    rw [if_pos trivial, if_neg (by decide), if_pos trivial, if_neg (by decide)]
    exact j
  · rw [if_neg h, if_neg h]
    simp only [Option.bind_some, convoylaw02_given.f]
    rw [ref_text_is _ u a1 hu ha (by omega), if_neg h]
    simp only [Option.bind_some]
    rw [if_pos trivial, if_neg (by decide), if_pos trivial, if_pos trivial]
    exact j

theorem KeyTexts_walk (a0_0 : Int) (a0_1 : ByteArray) (a1 : ByteArray) (w : World)
    (h0 : 0 ≤ a0_0) (h1 : a0_0 ≤ 65535) (ha : a0_1.size ≤ 140737488351232) (hs : a1.size ≤ 140737488351232) (HT : Lib.TabIs Tryd.prog w "internal/strconv.uint64pow10" .u64 Lib.pow10Tab) :
    Calls Tryd.prog 4 #[.agg #[.int .u16 a0_0, .string a0_1], .string a1] w fun e w' => e = .returned (.bool true) ∧ Below w.heap.size w w' := by
  obtain ⟨k, hk⟩ := KeyTexts a0_0 a0_1 a1 h0 h1 ha hs
  exact PKeyT.convoylaw02_KeyTexts.calls k _ _ _ true w ⟨rfl⟩ ⟨HT⟩ hk

end Go.Proofs.YtjcgfgppdlnmpaaDoor.Pure
