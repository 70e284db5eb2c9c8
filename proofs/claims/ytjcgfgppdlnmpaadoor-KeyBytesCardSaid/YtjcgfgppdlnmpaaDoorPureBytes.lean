/-
  The plain laws of KeyBytes and KeyHashes: for any key the printed functions answer true.
-/
import Derived.Test.YtjcgfgppdlnmpaaDoorPureOrders
import Derived.Test.YtjcgfgppdlnmpaaDoorPKeyx13
import Derived.Test.YtjcgfgppdlnmpaaDoorPKeyx24
import Derived.Laws.BitsAllLaws
namespace Go.Proofs.YtjcgfgppdlnmpaaDoor.Pure
set_option linter.unusedVariables false
open Go.RowKit Go.Proofs.YtjcgfgppdlnmpaaDoor.PKey Go.Proofs.YtjcgfgppdlnmpaaDoorW.PrintWords Go.Proofs.YtjcgfgppdlnmpaaDoorW.PrintLast

theorem u16_id {x : Int} (h0 : 0 ≤ x) (h1 : x < 65536) : IntKind.u16.wrap x = x := by
  rw [IntKind.wrap_u16]; omega
theorem u64_id {x : Int} (h0 : 0 ≤ x) (h1 : x < 18446744073709551616) : IntKind.u64.wrap x = x := by
  rw [IntKind.wrap_u64]; omega
theorem u64_rng (x : Int) : 0 ≤ IntKind.u64.wrap x ∧ IntKind.u64.wrap x < 18446744073709551616 := by
  rw [IntKind.wrap_u64]; omega

/-- Two bytes, put together by 'or' or by a sum. -/
theorem or_sum (x y : Int) (hx : 0 ≤ x) (hx1 : x ≤ 255) (hy : 0 ≤ y) (hy1 : y ≤ 255) :
    Go.bits .or .u16 (IntKind.u16.wrap x) (IntKind.u16.wrap ((IntKind.u16.wrap y) * 256)) = IntKind.u16.wrap ((IntKind.u16.wrap x) + (IntKind.u16.wrap (256 * (IntKind.u16.wrap y)))) := by
  rw [u16_id hx (by omega), u16_id hy (by omega), u16_id (x := y * 256) (by omega) (by omega), u16_id (x := 256 * y) (by omega) (by omega), u16_id (x := x + 256 * y) (by omega) (by omega),
    u16_or x (y * 256) hx (by omega) (by omega) (by omega)]
  have e : (y * 256).toNat = 2 ^ 8 * y.toNat := by omega
  rw [e, Nat.or_comm, ← Nat.two_pow_add_eq_or_of_lt (by omega)]
  omega

theorem key_take_j (k : Nat) (s : ByteArray) (at_ : Int) (b : Bool) : key_Take.j0 k s at_ b = convoyref02_Take.j0 k s at_ b := by
  cases k with
  | zero => rfl
  | succ k =>
    simp only [key_Take.j0, convoyref02_Take.j0]
    cases b with
    | true => rfl
    | false =>
      have r1 := bt_range s at_
      have r2 := bt_range s (wrap64 (at_ + 1))
      rw [or_sum _ _ r1.1 r1.2 r2.1 r2.2]

theorem take_is (k : Nat) (s : ByteArray) (at_ : Int) : key_Take.f k s at_ = convoyref02_Take.f k s at_ := by
  unfold key_Take.f convoyref02_Take.f
  by_cases h1 : at_ < 0
  · rw [if_pos h1, if_pos h1, key_take_j]
  · by_cases h2 : at_ > (s.size : Int)
    · rw [if_neg h1, if_neg h1, if_pos h2, if_pos h2, key_take_j]
    · rw [if_neg h1, if_neg h1, if_neg h2, if_neg h2, key_take_j]

/-- Take answers, at any place. -/
theorem take_some (k : Nat) (hk : 1 ≤ k) (s : ByteArray) (at_ : Int) (hs : s.size ≤ 140737488351232) : ∃ r, convoyref02_Take.f k s at_ = some r := by
  obtain ⟨k, rfl⟩ : ∃ m, k = m + 1 := ⟨k - 1, by omega⟩
  unfold convoyref02_Take.f
  by_cases h1 : at_ < 0
  · rw [if_pos h1]; exact ⟨_, rfl⟩
  by_cases h2 : at_ > (s.size : Int)
  · rw [if_neg h1, if_pos h2]; exact ⟨_, rfl⟩
  rw [if_neg h1, if_neg h2, wrap_id (by omega) (by omega)]
  by_cases h3 : (s.size : Int) - at_ < 3
  · rw [decide_eq_true h3]; exact ⟨_, rfl⟩
  rw [decide_eq_false h3]
  have r2 := bt_range s (at_ + 2)
  simp only [convoyref02_Take.j0, Bool.false_eq_true, if_false]
  rw [wrap_id (x := at_ + 2) (by omega) (by omega), wrap_id (x := bt s (at_ + 2)) (by omega) (by omega), wrap_id (x := (s.size : Int) - at_) (by omega) (by omega),
    wrap_id (x := (s.size : Int) - at_ - 3) (by omega) (by omega), wrap_id (x := at_ + 1) (by omega) (by omega), wrap_id (x := at_ + 3) (by omega) (by omega),
    wrap_id (x := at_ + 3 + bt s (at_ + 2)) (by omega) (by omega)]
  rw [if_pos (by omega), if_pos (by omega)]
  by_cases h4 : bt s (at_ + 2) > 64
  · rw [if_pos h4]; exact ⟨_, rfl⟩
  rw [if_neg h4]
  by_cases h5 : (s.size : Int) - at_ - 3 < bt s (at_ + 2)
  · rw [if_pos h5]; exact ⟨_, rfl⟩
  rw [if_neg h5, if_pos (by omega), if_pos (by omega), if_pos (by omega), if_pos (by omega), if_pos (by omega), if_pos (by omega), if_pos (by omega)]
  exact ⟨_, rfl⟩

theorem nums_len (l : List Int) : (strOfNums l).size = l.length := by
  show (List.map (fun n => UInt8.ofNat n.toNat) l).toArray.size = l.length
  simp

/-- A key's bytes, by the code and by the document. -/
theorem told_is (a0 : Int) (a1 : ByteArray) (h0 : 0 ≤ a0) (h1 : a0 ≤ 65535) (hs : a1.size ≤ 140737488351232) : ∃ t, key_told.f a0 a1 = some t ∧ convoyref02_Bytes.f a0 a1 = some t ∧ t.size = 3 + a1.size := by
  refine ⟨strOfNums [a0 % 256, (a0 / 256) % 256, (a1.size : Int) % 256] ++ a1, ?_, ?_, ?_⟩
  · unfold key_told.f
    simp only [Option.bind_some]
    rw [if_pos (by rw [nums_len]; simp; omega)]
  · unfold convoyref02_Bytes.f
    simp only [Option.bind_some]
    have e1 : Int.tmod a0 256 = a0 % 256 := Int.tmod_eq_emod_of_nonneg h0
    have e2 : Int.tdiv a0 256 = a0 / 256 := Int.tdiv_eq_ediv_of_nonneg h0
    rw [e1, e2, u16_id (by omega) (by omega), if_pos (by rw [nums_len]; simp; omega), show a0 % 256 % 256 = a0 % 256 from by omega]
  · rw [ByteArray.size_append, nums_len]; rfl

theorem KeyBytes (a0 : Int) (a1 s : ByteArray) (at_ : Int) (h0 : 0 ≤ a0) (h1 : a0 ≤ 65535) (ha : a1.size ≤ 140737488351232) (hs : s.size ≤ 140737488351232) :
    ∃ k, convoylaw02_KeyBytes.f k a0 a1 s at_ = some true := by
  refine ⟨4, ?_⟩
  obtain ⟨t, t1, t2, _⟩ := told_is a0 a1 h0 h1 ha
  obtain ⟨r, hr⟩ := take_some 3 (by omega) s at_ hs
  unfold convoylaw02_KeyBytes.f
  rw [awake_is _ (by omega)]
  simp only [Option.bind_some, if_true]
  have j0 : convoylaw02_KeyBytes.j0 4 s at_ false = some true := by
    simp only [convoylaw02_KeyBytes.j0, Bool.false_eq_true, if_false]
    rw [take_is 3 s at_, hr]
    simp [convoylaw02_given.f]
  have j1 : convoylaw02_KeyBytes.j1 4 s at_ false = some true := by
    simp only [convoylaw02_KeyBytes.j1, Bool.false_eq_true, if_false]
    rw [take_is 3 s at_, hr]
    simp [convoylaw02_given.f]
  unfold key_Bytes.f key_Check.f
  by_cases hl : (a1.size : Int) > 64
  · rw [if_pos hl]
    simp only [Option.bind_some]
    rw [if_neg (by decide)]
    simp only [Option.bind_some]
    rw [if_pos hl, if_pos (by decide +kernel)]
    exact j0
  · rw [if_neg hl]
    simp only [Option.bind_some]
    rw [if_pos trivial, t1]
    simp only [Option.bind_some, convoylaw02_given.f]
    rw [if_neg hl, t2]
    simp only [Option.bind_some, if_true]
    exact j1

theorem KeyBytes_walk (a0_0 : Int) (a0_1 : ByteArray) (a1 : ByteArray) (a2 : Int) (w : World)
    (h0 : 0 ≤ a0_0) (h1 : a0_0 ≤ 65535) (ha : a0_1.size ≤ 140737488351232) (hs : a1.size ≤ 140737488351232) (_ : -9223372036854775808 ≤ a2) (_ : a2 ≤ 9223372036854775807) :
    Calls Tryd.prog 5 #[.agg #[.int .u16 a0_0, .string a0_1], .string a1, .int .i64 a2] w fun e w' => e = .returned (.bool true) ∧ Below w.heap.size w w' := by
  obtain ⟨k, hk⟩ := KeyBytes a0_0 a0_1 a1 a2 h0 h1 ha hs
  exact convoylaw02_KeyBytes.calls k _ _ _ _ true w ⟨rfl⟩ hk

/-! ### KeyHashes -/
theorem over_is (d : Nat) : ∀ (k : Nat) (x n i : Int), n - i = d → 0 ≤ i → n ≤ 64 → d < k → 0 ≤ x → x < 18446744073709551616 → convoyref02_over.l0 k x n i = some (x / 2 ^ d) := by
  induction d with
  | zero =>
    intro k x n i hd h0 hn hk hx hx1
    obtain ⟨k, rfl⟩ : ∃ m, k = m + 1 := ⟨k - 1, by omega⟩
    simp only [convoyref02_over.l0]
    rw [if_neg (by omega)]
    simp
  | succ d ih =>
    intro k x n i hd h0 hn hk hx hx1
    obtain ⟨k, rfl⟩ : ∃ m, k = m + 1 := ⟨k - 1, by omega⟩
    simp only [convoyref02_over.l0]
    rw [if_pos (by omega), Int.tdiv_eq_ediv_of_nonneg hx, u64_id (by omega) (by omega), wrap_id (by omega) (by omega)]
    rw [ih k (x / 2) n (i + 1) (by omega) (by omega) hn (by omega) (by omega) (by omega)]
    rw [Int.ediv_ediv_of_nonneg (by omega), Int.pow_succ, Int.mul_comm]

theorem over_f (k : Nat) (x : Int) (n : Nat) (hn : n ≤ 64) (hk : n < k) (hx : 0 ≤ x) (hx1 : x < 18446744073709551616) : convoyref02_over.f k x n = some (x / 2 ^ n) :=
  over_is n k x n 0 (by omega) (by omega) (by omega) hk hx hx1

theorem over_32 (k : Nat) (x : Int) (hk : 32 < k) (hx : 0 ≤ x) (hx1 : x < 18446744073709551616) : convoyref02_over.f k x 32 = some (x / 4294967296) := over_f k x 32 (by omega) hk hx hx1
theorem over_29 (k : Nat) (x : Int) (hk : 29 < k) (hx : 0 ≤ x) (hx1 : x < 18446744073709551616) : convoyref02_over.f k x 29 = some (x / 536870912) := over_f k x 29 (by omega) hk hx hx1

theorem xor_rng (a b : Int) (h1 : 0 ≤ a) (h2 : a < 18446744073709551616) (h3 : 0 ≤ b) (h4 : b < 18446744073709551616) : 0 ≤ Go.bits .xor .u64 a b ∧ Go.bits .xor .u64 a b < 18446744073709551616 := by
  rw [u64_xor a b h1 h2 h3 h4]
  have := Nat.xor_lt_two_pow (x := a.toNat) (y := b.toNat) (n := 64) (by omega) (by omega)
  omega

/-- The loops of the two hashes go side by side. -/
theorem hash_loop (t : ByteArray) (ht : t.size ≤ 9223372036854775807) (d : Nat) : ∀ (k : Nat) (h i : Int), (t.size : Int) - i = d → 0 ≤ i → d + 34 ≤ k → 0 ≤ h → h < 18446744073709551616 →
    ∃ r, key_Hash.l0 k h t (t.size : Int) i = some r ∧ convoyref02_Hash.l0 k h t i = some r ∧ 0 ≤ r ∧ r < 18446744073709551616 := by
  induction d with
  | zero =>
    intro k h i hd h0 hk hh hh1
    obtain ⟨k, rfl⟩ : ∃ m, k = m + 1 := ⟨k - 1, by omega⟩
    simp only [key_Hash.l0, convoyref02_Hash.l0]
    rw [if_neg (by omega), if_neg (by omega), over_32 k h (by omega) hh hh1]
    simp only [Option.bind_some]
    have w1 := u64_rng ((Go.bits .xor .u64 h (h / 4294967296)) * 11400714819323198485)
    rw [over_29 k _ (by omega) w1.1 w1.2]
    simp only [Option.bind_some]
    exact ⟨_, rfl, rfl, xor_rng _ _ w1.1 w1.2 (by omega) (by omega)⟩
  | succ d ih =>
    intro k h i hd h0 hk hh hh1
    obtain ⟨k, rfl⟩ : ∃ m, k = m + 1 := ⟨k - 1, by omega⟩
    simp only [key_Hash.l0, convoyref02_Hash.l0]
    rw [if_pos (by omega), if_pos (by omega), if_pos (by omega), if_pos (by omega), if_pos (by omega), wrap_id (by omega) (by omega)]
    have w1 := u64_rng ((Go.bits .xor .u64 h (IntKind.u64.wrap (bt t i))) * 1099511628211)
    exact ih k _ (i + 1) (by omega) (by omega) (by omega) w1.1 w1.2

theorem hash_is (k : Nat) (a0 : Int) (a1 : ByteArray) (h0 : 0 ≤ a0) (h1 : a0 ≤ 65535) (hs : a1.size ≤ 140737488351232) (hk : a1.size + 37 ≤ k) :
    ∃ r, key_Hash.f k a0 a1 = some r ∧ convoyref02_Hash.f k a0 a1 = some r ∧ 0 ≤ r ∧ r < 18446744073709551616 := by
  obtain ⟨t, t1, t2, ht⟩ := told_is a0 a1 h0 h1 hs
  unfold key_Hash.f convoyref02_Hash.f
  rw [t1, t2]
  simp only [Option.bind_some]
  exact hash_loop t (by omega) t.size k _ 0 (by omega) (by omega) (by omega) (by omega) (by omega)

/-- The part, by the product of 128 bits and by the document. -/
theorem part_num (h n : Int) (h0 : 0 ≤ h) (h1 : h < 18446744073709551616) (n0 : 1 ≤ n) (n1 : n ≤ 65536) :
    h / 4294967296 * 4294967296 * n / 18446744073709551616 = h / 4294967296 * n / 4294967296 := by
  have e : h / 4294967296 * 4294967296 * n = h / 4294967296 * n * 4294967296 := by rw [Int.mul_assoc, Int.mul_comm 4294967296 n, ← Int.mul_assoc]
  rw [e]
  omega

theorem part_is (k : Nat) (a0 : Int) (a1 : ByteArray) (n : Int) (h0 : 0 ≤ a0) (h1 : a0 ≤ 65535) (hs : a1.size ≤ 140737488351232) (hk : a1.size + 38 ≤ k) (n0 : 1 ≤ n) (n1 : n ≤ 65536) :
    ∃ h, key_Part.f k a0 a1 n = some (h / 4294967296 * n / 4294967296, 0) ∧ convoyref02_Part.f k a0 a1 n = some (h / 4294967296 * n / 4294967296) ∧ 0 ≤ h ∧ h < 18446744073709551616 := by
  obtain ⟨k, rfl⟩ : ∃ m, k = m + 1 := ⟨k - 1, by omega⟩
  obtain ⟨h, e1, _, g0, g1⟩ := hash_is k a0 a1 h0 h1 hs (by omega)
  obtain ⟨h', _, e2, _, _⟩ := hash_is (k + 1) a0 a1 h0 h1 hs (by omega)
  have e3 : convoyref02_Hash.f (k + 1) a0 a1 = some h := by
    obtain ⟨h2, e4, e5, _, _⟩ := hash_is k a0 a1 h0 h1 hs (by omega)
    rw [e1] at e4
    obtain rfl := Option.some.inj e4
    exact convoyref02_Hash.mono a0 a1 k _ e5
  have hb : 0 ≤ h / 4294967296 * n ∧ h / 4294967296 * n < 281474976710656 := by
    have x0 : 0 ≤ h / 4294967296 := by omega
    have x1 : h / 4294967296 ≤ 4294967295 := by omega
    refine ⟨Int.mul_nonneg x0 (by omega), ?_⟩
    have := Int.mul_le_mul x1 n1 (by omega) (by omega)
    omega
  refine ⟨h, ?_, ?_, g0, g1⟩
  · unfold key_Part.f
    rw [if_neg (by omega), decide_eq_false (by omega)]
    simp only [key_Part.j0, Bool.false_eq_true, if_false]
    rw [e1]
    simp only [Option.bind_some]
    rw [u64_id (x := h / 4294967296 * 4294967296) (by omega) (by omega), u64_id (x := n) (by omega) (by omega)]
    unfold bits_Mul64.f
    rw [if_pos (by omega)]
    simp only [Option.bind_some]
    rw [part_num h n g0 g1 n0 n1, wrap_id (by omega) (by omega)]
  · unfold convoyref02_Part.f
    rw [e3]
    simp only [Option.bind_some]
    rw [over_32 (k + 1) h (by omega) g0 g1]
    simp only [Option.bind_some]
    rw [u64_id (x := n) (by omega) (by omega), u64_id (x := h / 4294967296 * n) (by omega) (by omega),
      over_32 (k + 1) _ (by omega) hb.1 (by omega)]
    simp only [Option.bind_some]
    rw [wrap_id (by omega) (by omega)]

theorem KeyHashes (a0 : Int) (a1 : ByteArray) (n : Int) (h0 : 0 ≤ a0) (h1 : a0 ≤ 65535) (hs : a1.size ≤ 140737488351232) :
    ∃ k, convoylaw02_KeyHashes.f k a0 a1 n = some true := by
  refine ⟨a1.size + 40, ?_⟩
  obtain ⟨r, e1, e2, _, _⟩ := hash_is (a1.size + 40) a0 a1 h0 h1 hs (by omega)
  unfold convoylaw02_KeyHashes.f
  rw [awake_is _ (by omega), e1]
  simp only [Option.bind_some, if_true, convoylaw02_given.f]
  rw [e2]
  simp only [Option.bind_some, bne_self_eq_false, convoylaw02_KeyHashes.j0, Bool.false_eq_true, if_false]
  by_cases c1 : n < 1
  · rw [show key_Part.f (a1.size + 39) a0 a1 n = some (0, 1) from by unfold key_Part.f; rw [if_pos c1]; rfl]
    simp only [Option.bind_some]
    rw [if_pos c1]
    rfl
  by_cases c2 : n > 65536
  · rw [show key_Part.f (a1.size + 39) a0 a1 n = some (0, 1) from by unfold key_Part.f; rw [if_neg c1, decide_eq_true c2]; rfl]
    simp only [Option.bind_some]
    rw [if_neg c1, decide_eq_true c2]
    rfl
  obtain ⟨h, p1, _, _, _⟩ := part_is (a1.size + 39) a0 a1 n h0 h1 hs (by omega) (by omega) (by omega)
  obtain ⟨h', q1, p2, _, _⟩ := part_is (a1.size + 38) a0 a1 n h0 h1 hs (by omega) (by omega) (by omega)
  have q3 := key_Part.mono a0 a1 n (a1.size + 38) _ q1
  rw [p1] at q3
  simp only [Option.some.injEq, Prod.mk.injEq] at q3
  rw [p1]
  simp only [Option.bind_some]
  rw [if_neg c1, decide_eq_false c2]
  simp only [convoylaw02_KeyHashes.j1, Bool.false_eq_true, if_false, convoylaw02_given.f, Option.bind_some]
  rw [p2]
  simp only [Option.bind_some]
  rw [if_pos q3.1]
  rfl

theorem KeyHashes_walk (a0_0 : Int) (a0_1 : ByteArray) (a1 : Int) (w : World)
    (h0 : 0 ≤ a0_0) (h1 : a0_0 ≤ 65535) (ha : a0_1.size ≤ 140737488351232) (_ : -9223372036854775808 ≤ a1) (_ : a1 ≤ 9223372036854775807) :
    Calls Tryd.prog 6 #[.agg #[.int .u16 a0_0, .string a0_1], .int .i64 a1] w fun e w' => e = .returned (.bool true) ∧ Below w.heap.size w w' := by
  obtain ⟨k, hk⟩ := KeyHashes a0_0 a0_1 a1 h0 h1 ha
  exact convoylaw02_KeyHashes.calls k _ _ _ true w ⟨rfl⟩ hk

end Go.Proofs.YtjcgfgppdlnmpaaDoor.Pure
