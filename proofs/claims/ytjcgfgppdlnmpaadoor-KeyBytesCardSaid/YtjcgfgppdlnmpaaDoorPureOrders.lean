/-
  The plain law of KeyOrders: for any three keys the printed functions answer true.
-/
import Derived.Test.YtjcgfgppdlnmpaaDoorPKeyx9
import Derived.WideShapes
import Derived.Laws.Strings
namespace Go.Proofs.YtjcgfgppdlnmpaaDoor.Pure
open Go.RowKit Go.Proofs.YtjcgfgppdlnmpaaDoor.PKey Go.Proofs.YtjcgfgppdlnmpaaDoorW.PrintWords Go.Proofs.YtjcgfgppdlnmpaaDoorW.PrintLast

/-! ### comparing bytes -/
theorem cb_range : ∀ a b : List UInt8, Lib.compareBytes a b = -1 ∨ Lib.compareBytes a b = 0 ∨ Lib.compareBytes a b = 1
  | [], [] => by simp [Lib.compareBytes]
  | [], _ :: _ => by simp [Lib.compareBytes]
  | _ :: _, [] => by simp [Lib.compareBytes]
  | x :: a, y :: b => by
    unfold Lib.compareBytes
    split
    · simp
    · split
      · simp
      · exact cb_range a b

theorem cb_zero : ∀ a b : List UInt8, Lib.compareBytes a b = 0 ↔ a = b
  | [], [] => by simp [Lib.compareBytes]
  | [], _ :: _ => by simp [Lib.compareBytes]
  | _ :: _, [] => by simp [Lib.compareBytes]
  | x :: a, y :: b => by
    unfold Lib.compareBytes
    have ih := cb_zero a b
    split
    · rename_i h
      have : x ≠ y := fun e => by subst e; exact UInt8.lt_irrefl _ h
      simp [this]
    · rename_i h
      split
      · rename_i h2
        have : x ≠ y := fun e => by subst e; exact UInt8.lt_irrefl _ h2
        simp [this]
      · rename_i h2
        have : x = y := UInt8.le_antisymm (UInt8.not_lt.1 h2) (UInt8.not_lt.1 h)
        simp [this, ih]

theorem cb_anti : ∀ a b : List UInt8, Lib.compareBytes b a = - Lib.compareBytes a b
  | [], [] => by simp [Lib.compareBytes]
  | [], _ :: _ => by simp [Lib.compareBytes]
  | _ :: _, [] => by simp [Lib.compareBytes]
  | x :: a, y :: b => by
    unfold Lib.compareBytes
    have ih := cb_anti a b
    by_cases h : x < y
    · have h2 : ¬ y < x := fun h3 => UInt8.lt_irrefl _ (UInt8.lt_trans h h3)
      simp [h, h2]
    · by_cases h2 : y < x
      · simp [h, h2]
      · simp [h, h2, ih]

/-- Of no two steps up and one down. -/
theorem cb_trans : ∀ a b c : List UInt8, Lib.compareBytes a b ≤ 0 → Lib.compareBytes b c ≤ 0 → Lib.compareBytes a c ≤ 0
  | [], _, [] => by simp [Lib.compareBytes]
  | [], _, _ :: _ => by simp [Lib.compareBytes]
  | _ :: _, [], _ => by simp [Lib.compareBytes]
  | _ :: _, _ :: _, [] => by simp [Lib.compareBytes]
  | x :: a, y :: b, z :: c => by
    unfold Lib.compareBytes
    have ih := cb_trans a b c
    by_cases h1 : x < y
    · by_cases h2 : y < z
      · simp [h1, h2, UInt8.lt_trans h1 h2]
      · by_cases h3 : z < y
        · simp [h2, h3]
        · have : y = z := UInt8.le_antisymm (UInt8.not_lt.1 h3) (UInt8.not_lt.1 h2)
          subst this
          simp [h1]
    · by_cases h3 : y < x
      · simp [h1, h3]
      · have : x = y := UInt8.le_antisymm (UInt8.not_lt.1 h3) (UInt8.not_lt.1 h1)
        subst this
        by_cases h2 : x < z
        · simp [h2]
        · by_cases h4 : z < x
          · simp [h2, h4]
          · simpa [h1, h2, h4] using ih

/-! ### key.Compare -/
def kcmp (s : Int) (a : ByteArray) (t : Int) (b : ByteArray) : Int := if s < t then -1 else if t < s then 1 else Lib.compareBytes a.data.toList b.data.toList

theorem kcmp_range (s : Int) (a : ByteArray) (t : Int) (b : ByteArray) : kcmp s a t b = -1 ∨ kcmp s a t b = 0 ∨ kcmp s a t b = 1 := by
  unfold kcmp
  split
  · simp
  · split
    · simp
    · exact cb_range _ _

theorem kcmp_anti (s : Int) (a : ByteArray) (t : Int) (b : ByteArray) : kcmp t b s a = - kcmp s a t b := by
  unfold kcmp
  have := cb_anti a.data.toList b.data.toList
  by_cases h : s < t
  · have h2 : ¬ t < s := by omega
    simp [h, h2]
  · by_cases h2 : t < s
    · simp [h, h2]
    · simp [h, h2, this]

theorem bytes_ext {a b : ByteArray} (h : a.data.toList = b.data.toList) : a = b := Go.WideShapes.bytes_inj h

theorem kcmp_zero (s : Int) (a : ByteArray) (t : Int) (b : ByteArray) : kcmp s a t b = 0 ↔ s = t ∧ a = b := by
  unfold kcmp
  by_cases h : s < t
  · simp [h]; intro e; omega
  · by_cases h2 : t < s
    · simp [h, h2]; intro e; omega
    · have : s = t := by omega
      simp only [h, h2, if_false, cb_zero]
      exact ⟨fun e => ⟨this, bytes_ext e⟩, fun e => by rw [e.2]⟩

theorem kcmp_trans (s : Int) (a : ByteArray) (t : Int) (b : ByteArray) (u : Int) (c : ByteArray) (h1 : kcmp s a t b ≤ 0) (h2 : kcmp t b u c ≤ 0) : kcmp s a u c ≤ 0 := by
  unfold kcmp at *
  have z := cb_trans a.data.toList b.data.toList c.data.toList
  by_cases e1 : s < t
  · by_cases e2 : t < u
    · have : s < u := by omega
      simp [this]
    · by_cases e3 : u < t
      · simp [e2, e3] at h2
      · have : s < u := by omega
        simp [this]
  · by_cases e4 : t < s
    · simp [e1, e4] at h1
    · have : s = t := by omega
      subst this
      by_cases e2 : s < u
      · simp [e2]
      · by_cases e3 : u < s
        · simp [e2, e3] at h2
        · simp only [e1, e2, e3, if_false] at h1 h2 ⊢
          exact z h1 h2

theorem compare_u16 (a b : Int) : cmp_Compare_uint16.f a b = some (if a < b then -1 else if b < a then 1 else 0) := by
  simp only [cmp_Compare_uint16.f, cmp_isNaN_uint16.f, bne_self_eq_false, Option.bind_some, Bool.false_eq_true, if_false]
  split
  · rfl
  · by_cases h : b < a
    · simp [h]
    · simp [h]

theorem or_two (k : Nat) (hk : 3 ≤ k) (x y : Int) : cmp_Or_int.f k [x, y] = some (if x = 0 then y else x) := by
  obtain ⟨k, rfl⟩ : ∃ m, k = m + 3 := ⟨k - 3, by omega⟩
  unfold cmp_Or_int.f
  have w1 : wrap64 (0 + 1) = 1 := by unfold wrap64; omega
  have w2 : wrap64 (1 + 1) = 2 := by unfold wrap64; omega
  have r0 : rd [x, y] 0 = x := rfl
  have r1 : rd [x, y] 1 = y := rfl
  simp only [cmp_Or_int.l0, List.length_cons, List.length_nil, w1, w2, r0, r1]
  by_cases h : x = 0
  · by_cases h2 : y = 0
    · simp [h, h2]
    · simp [h, h2]
  · simp [h]

theorem compare_is (k : Nat) (hk : 3 ≤ k) (s : Int) (a : ByteArray) (t : Int) (b : ByteArray) : key_Compare.f k s a t b = some (kcmp s a t b) := by
  unfold key_Compare.f strings_Compare.f
  rw [compare_u16]
  simp only [Option.bind_some]
  rw [or_two k hk]
  simp only [Option.bind_some]
  unfold kcmp
  by_cases h : s < t
  · simp [h]
  · by_cases h2 : t < s
    · simp [h, h2]
    · simp [h, h2]

/-! ### the reference's Compare -/
theorem wrap_id {x : Int} (h0 : -9223372036854775808 ≤ x) (h1 : x ≤ 9223372036854775807) : wrap64 x = x := by
  unfold wrap64
  omega

theorem bt_list (a : ByteArray) (i : Nat) (h : i < a.data.toList.length) : bt a (i : Int) = ((a.data.toList[i]'h).toNat : Int) := by
  unfold bt
  have h' : (i : Int).toNat < a.size := by simpa using h
  rw [dif_pos h']
  rfl

theorem size_list (a : ByteArray) : a.data.toList.length = a.size := by simp

theorem ref_loop (s : Int) (a b : ByteArray) (ha : a.size ≤ 9223372036854775807) (d : Nat) : ∀ (k i : Nat), a.size - i ≤ d → i ≤ a.size → i ≤ b.size → 2 * d + 2 ≤ k →
    convoyref02_Compare.l0 k (i : Int) s a s b = some (Lib.compareBytes (a.data.toList.drop i) (b.data.toList.drop i)) := by
  induction d with
  | zero =>
    intro k i hd hi hj hk
    obtain ⟨k, rfl⟩ : ∃ m, k = m + 2 := ⟨k - 2, by omega⟩
    have e : i = a.size := by omega
    simp only [convoyref02_Compare.l0]
    rw [if_neg (by omega)]
    simp only [convoyref02_Compare.j1, Bool.false_eq_true, if_false]
    rw [show a.data.toList.drop i = [] from List.drop_eq_nil_of_le (by rw [size_list]; omega)]
    by_cases hb : i < b.size
    · rw [if_pos (by omega)]
      have : b.data.toList.drop i ≠ [] := by
        intro e
        have := List.drop_eq_nil_iff.1 e
        rw [size_list] at this
        omega
      cases h : b.data.toList.drop i with
      | nil => exact absurd h this
      | cons y r => rfl
    · rw [if_neg (by omega), if_neg (by omega), show b.data.toList.drop i = [] from List.drop_eq_nil_of_le (by rw [size_list]; omega)]
      rfl
  | succ d ih =>
    intro k i hd hi hj hk
    obtain ⟨k, rfl⟩ : ∃ m, k = m + 2 := ⟨k - 2, by omega⟩
    by_cases hai : i < a.size
    · have hla : i < a.data.toList.length := by rw [size_list]; exact hai
      simp only [convoyref02_Compare.l0]
      rw [if_pos (by omega)]
      by_cases hbi : i < b.size
      · have hlb : i < b.data.toList.length := by rw [size_list]; exact hbi
        rw [decide_eq_true (by omega)]
        simp only [convoyref02_Compare.j1, if_true]
        rw [if_pos (by omega), if_pos (by omega), if_pos (by omega), bt_list a i hla, bt_list b i hlb]
        rw [List.drop_eq_getElem_cons hla, List.drop_eq_getElem_cons hlb]
        unfold Lib.compareBytes
        by_cases h1 : (a.data.toList[i]) < (b.data.toList[i])
        · rw [if_pos (by have := UInt8.lt_iff_toNat_lt.1 h1; omega), if_pos h1]
        · rw [if_neg (by have h3 : ¬ (a.data.toList[i]).toNat < (b.data.toList[i]).toNat := fun h => h1 (UInt8.lt_iff_toNat_lt.2 h)
                         omega), if_neg h1]
          by_cases h2 : (b.data.toList[i]) < (a.data.toList[i])
          · rw [if_pos (by have := UInt8.lt_iff_toNat_lt.1 h2; omega), if_pos h2]
          · rw [if_neg (by have h3 : ¬ (b.data.toList[i]).toNat < (a.data.toList[i]).toNat := fun h => h2 (UInt8.lt_iff_toNat_lt.2 h)
                           omega), if_neg h2]
            rw [wrap_id (by omega) (by omega)]
            have := ih k (i + 1) (by omega) (by omega) (by omega) (by omega)
            rw [show (((i + 1 : Nat)) : Int) = (i : Int) + 1 from by omega] at this
            exact this
      · rw [decide_eq_false (by omega)]
        simp only [convoyref02_Compare.j1, Bool.false_eq_true, if_false]
        rw [if_neg (by omega), if_pos (by omega), List.drop_eq_getElem_cons hla, show b.data.toList.drop i = [] from List.drop_eq_nil_of_le (by rw [size_list]; omega)]
        rfl
    · have := ih (k + 2) i (by omega) hi hj (by omega)
      exact this

theorem ref_compare_is (k : Nat) (s : Int) (a : ByteArray) (t : Int) (b : ByteArray) (ha : a.size ≤ 9223372036854775807) (hk : 2 * a.size + 2 ≤ k) :
    convoyref02_Compare.f k s a t b = some (kcmp s a t b) := by
  unfold convoyref02_Compare.f kcmp
  by_cases h : s = t
  · subst h
    rw [if_pos rfl, if_neg (Int.lt_irrefl s), if_neg (Int.lt_irrefl s)]
    have := ref_loop s a b ha a.size k 0 (by omega) (by omega) (by omega) hk
    simpa using this
  · rw [if_neg h]
    by_cases h1 : s < t
    · simp [h1]
    · simp only [h1, if_false]
      rw [if_pos (by omega)]

theorem awake_is (k : Nat) (hk : 3 ≤ k) : convoylaw02_awake.f k = some true := by
  unfold convoylaw02_awake.f
  have h1 : key_Text.f 7 (⟨#[97, 58, 98]⟩ : ByteArray) = some (⟨#[55, 58, 97, 58, 98]⟩, 0) := by decide +kernel
  rw [h1]
  simp only [Option.bind_some]
  rw [if_pos (by decide +kernel), if_pos trivial, compare_is k hk]
  rfl

theorem KeyOrders (a0 : Int) (a1 : ByteArray) (b0 : Int) (b1 : ByteArray) (c0 : Int) (c1 : ByteArray) (ha : a1.size ≤ 9223372036854775807) :
    ∃ k, convoylaw02_KeyOrders.f k a0 a1 b0 b1 c0 c1 = some true := by
  refine ⟨2 * a1.size + 3, ?_⟩
  unfold convoylaw02_KeyOrders.f
  rw [compare_is _ (by omega), compare_is _ (by omega), compare_is _ (by omega), awake_is _ (by omega)]
  simp only [Option.bind_some, if_true, convoylaw02_given.f]
  rw [ref_compare_is _ _ _ _ _ ha (by omega)]
  simp only [Option.bind_some, if_true]
  rw [compare_is _ (by omega)]
  simp only [Option.bind_some]
  have hr := kcmp_range a0 a1 b0 b1
  rw [if_pos (by rw [kcmp_anti, wrap_id (by omega) (by omega)])]
  have hz := kcmp_zero a0 a1 b0 b1
  have hb : (a0 == b0 && (a1.toList == b1.toList)) = (kcmp a0 a1 b0 b1 == 0) := by
    rw [Bool.eq_iff_iff]
    simp only [Bool.and_eq_true, beq_iff_eq, hz]
    constructor
    · rintro ⟨h1, h2⟩
      refine ⟨h1, ?_⟩
      apply bytes_ext
      rw [← ByteArray.toList_eq, ← ByteArray.toList_eq]
      exact h2
    · rintro ⟨h1, h2⟩
      exact ⟨h1, by rw [h2]⟩
  rw [hb]
  simp only [bne_self_eq_false, Bool.false_eq_true, if_false]
  by_cases h1 : kcmp a0 a1 b0 b1 > 0
  · rw [if_pos h1]
  · rw [if_neg h1]
    by_cases h2 : kcmp b0 b1 c0 c1 > 0
    · rw [if_pos h2]
    · rw [if_neg h2, decide_eq_true (kcmp_trans a0 a1 b0 b1 c0 c1 (by omega) (by omega))]

/-- The walk: the law's call, for any three keys. -/
theorem KeyOrders_walk (a0_0 : Int) (a0_1 : ByteArray) (a1_0 : Int) (a1_1 : ByteArray) (a2_0 : Int) (a2_1 : ByteArray) (w : World)
    (_ : 0 ≤ a0_0) (_ : a0_0 ≤ 65535) (ha : a0_1.size ≤ 140737488351232) (_ : 0 ≤ a1_0) (_ : a1_0 ≤ 65535) (_ : a1_1.size ≤ 140737488351232) (_ : 0 ≤ a2_0) (_ : a2_0 ≤ 65535) (_ : a2_1.size ≤ 140737488351232) :
    Calls Tryd.prog 3 #[.agg #[.int .u16 a0_0, .string a0_1], .agg #[.int .u16 a1_0, .string a1_1], .agg #[.int .u16 a2_0, .string a2_1]] w fun e w' => e = .returned (.bool true) ∧ Below w.heap.size w w' := by
  obtain ⟨k, hk⟩ := KeyOrders a0_0 a0_1 a1_0 a1_1 a2_0 a2_1 (by omega)
  exact convoylaw02_KeyOrders.calls k _ _ _ _ _ _ true w ⟨rfl⟩ hk

end Go.Proofs.YtjcgfgppdlnmpaaDoor.Pure
