/-
  Contracts of the mixing and the parting of numbers, in the shape of the printed ones: what tick.Mix and the document's Mix compute is one function, and so with the parts.
-/
import Derived.Test.YtljckmiphkoipaaShelf
import Derived.Test.YtljckmiphkoipaaWMore
import Derived.Tactics
import Derived.Tactics2
import Derived.WalkKit
import Derived.Deep.LoopGhost
import Derived.IntWalk
import Derived.Laws.BitsLemmas
namespace Go.Proofs.Ytljckmiphkoipaa
set_option linter.unusedVariables false
set_option linter.unusedSimpArgs false
open Go.RowKit Go.Proofs.YtljckmiphkoipaaW.PrintWords

theorem drawn_trans {a b c : World} (h : Drawn0 a b) (k : Drawn0 b c) : Drawn0 a c := by
  obtain ⟨n, rfl⟩ := h
  obtain ⟨m, rfl⟩ := k
  exact ⟨n + m, World.drewN_drewN _ _ _⟩
def in64 (a : Int) : Prop := 0 ≤ a ∧ a ≤ 18446744073709551615
theorem in64_wrap (a : Int) : in64 (IntKind.u64.wrap a) := by rw [IntKind.wrap_u64]; exact ⟨by omega, by omega⟩

set_option maxRecDepth 100000 in
set_option maxHeartbeats 4000000 in
theorem shift_calls (a n m : Int) (w : World) (ha : in64 a) (h0 : 0 ≤ n) (h1 : n ≤ 64) (hm : m = 2 ^ n.toNat) :
    Calls Try.prog 113 #[.int .u64 a, .int .i64 n] w fun e w' => e = .returned (.int .u64 (a / m)) ∧ Drawn0 w w' := by
  have H := Aside0.mk (And.intro ha (And.intro h0 (And.intro h1 hm)))
  clear ha h0 h1 hm
  go_enter Try.func113, Try.ntmps113
  go_wp2
  go_loopg [0, 5] (n.toNat + 1) (fun kq v0 v5 w' => ∃ (i : Int) (x : Int), v0 = .int .u64 x ∧ v5 = .int .i64 i ∧ Aside0 (0 ≤ i ∧ i ≤ n ∧ (n - i).toNat < kq ∧ x = a / 2 ^ i.toNat) ∧ Aside0 (Drawn0 w w'))
  case atStart => exact ⟨0, a, rfl, rfl, ⟨by omega, H.out.2.1, by omega, by simp⟩, ⟨Drawn0.refl _⟩⟩
  case round =>
    obtain ⟨i, x, rfl, rfl, hi, hD⟩ := hrel
    by_cases hin : i < n
    · have hlt : decide (i < n) = true := decide_eq_true hin
      replace hin := Aside0.mk hin
      have hx : in64 x := by
        rw [hi.out.2.2.2]
        have h2 : (0 : Int) < 2 ^ i.toNat := Int.pow_pos (by omega)
        exact ⟨Int.ediv_nonneg H.out.1.1 (by omega), Int.le_trans (Int.ediv_le_self _ H.out.1.1) H.out.1.2⟩
      have hq : IntKind.u64.wrap (Int.tdiv x 2) = x / 2 := IntWalk.u64_quo x 2 ⟨hx.1, hx.2, by omega⟩
      replace hx := Aside0.mk hx
      go_wp2
      go_roundg (n - i).toNat
      case measure => exact hi.out.2.2.1
      case rel =>
        have hw : wrap64 (i + 1) = i + 1 := by unfold wrap64; have := hi.out; have := H.out; omega
        refine ⟨i + 1, x / 2, by simp [hq], by simp [hw], ⟨by have := hi.out; omega, by have := hin.out; omega, by have := hin.out; omega, ?_⟩, hD⟩
        rw [hi.out.2.2.2, show (i + 1).toNat = i.toNat + 1 by have := hi.out; omega, Int.pow_succ, Int.ediv_ediv_of_nonneg (Int.le_of_lt (Int.pow_pos (by omega)))]
    · have hlt : decide (i < n) = false := decide_eq_false hin
      replace hin := Aside0.mk hin
      go_wp2
      go_ret
      refine ⟨?_, hD.out⟩
      have : i = n := by have := hin.out; have := hi.out; omega
      rw [hi.out.2.2.2, this, H.out.2.2.2]
      rfl

def mix1 (a : Int) : Int := IntKind.u64.wrap (Go.bits .xor .u64 a (a / 1073741824) * 13787848793156543929)
def mix2 (a : Int) : Int := IntKind.u64.wrap (Go.bits .xor .u64 a (a / 134217728) * 10723151780598845931)
def mix3 (a : Int) : Int := Go.bits .xor .u64 a (a / 2147483648)
def mixv (a : Int) : Int := mix3 (mix2 (mix1 a))
def convoyref22_Mix.f (a0 : Int) : Option Int := if 0 ≤ a0 ∧ a0 ≤ 18446744073709551615 then some (mixv a0) else none
def tick_Mix.f (a0 : Int) : Option Int := if 0 ≤ a0 ∧ a0 ≤ 18446744073709551615 then some (mixv a0) else none

set_option maxRecDepth 100000 in
set_option maxHeartbeats 4000000 in
theorem tick_Mix.calls (a0 : Int) (r : Int) (w : World) (h : tick_Mix.f a0 = some r) :
    Calls Try.prog 93 #[.int .u64 a0] w fun e w' => e = .returned (.int .u64 r) ∧ Drawn0 w w' := by
  unfold tick_Mix.f at h
  split at h
  · obtain rfl := Option.some.inj h
    clear h
    unfold mixv mix3 mix2 mix1
    go_enter Try.func93, Try.ntmps93
    go_wp2
    go_ret
    exact ⟨by first | rfl | (simp; done), Drawn0.refl _⟩
  · cases h
set_option maxRecDepth 100000 in
set_option maxHeartbeats 4000000 in
theorem convoyref22_Mix.calls (a0 : Int) (r : Int) (w : World) (h : convoyref22_Mix.f a0 = some r) :
    Calls Try.prog 102 #[.int .u64 a0] w fun e w' => e = .returned (.int .u64 r) ∧ Drawn0 w w' := by
  unfold convoyref22_Mix.f at h
  split at h
  · rename_i hr
    obtain rfl := Option.some.inj h
    clear h
    obtain ⟨b1, hb1⟩ : ∃ b1, b1 = mix1 a0 := ⟨_, rfl⟩
    obtain ⟨b2, hb2⟩ : ∃ b2, b2 = mix2 b1 := ⟨_, rfl⟩
    have r1 : in64 b1 := by rw [hb1]; exact in64_wrap _
    have r2 : in64 b2 := by rw [hb2]; exact in64_wrap _
    have e1 : IntKind.u64.wrap (Go.bits .xor .u64 a0 (a0 / 1073741824) * 13787848793156543929) = b1 := hb1.symm
    have e2 : IntKind.u64.wrap (Go.bits .xor .u64 b1 (b1 / 134217728) * 10723151780598845931) = b2 := hb2.symm
    have s0 := fun w => shift_calls a0 30 1073741824 w hr (by omega) (by omega) (by decide)
    have s1 := fun w => shift_calls b1 27 134217728 w r1 (by omega) (by omega) (by decide)
    have s2 := fun w => shift_calls b2 31 2147483648 w r2 (by omega) (by omega) (by decide)
    have hres : mixv a0 = Go.bits .xor .u64 b2 (b2 / 2147483648) := by unfold mixv mix3; rw [← hb1, ← hb2]
    rw [hres]
    replace hb1 := Aside0.mk hb1
    replace hb2 := Aside0.mk hb2
    clear hres
    go_enter Try.func102, Try.ntmps102
    go_wp2_with (first
      | (go_at_call 113; with_reducible refine (s0 _).mono ?_; rintro e w' ⟨rfl, hd⟩; replace hd := Aside0.mk hd)
      | (go_at_call 113; with_reducible refine (s1 _).mono ?_; rintro e w' ⟨rfl, hd1⟩; replace hd1 := Aside0.mk hd1)
      | (go_at_call 113; with_reducible refine (s2 _).mono ?_; rintro e w' ⟨rfl, hd2⟩; replace hd2 := Aside0.mk hd2))
    go_ret
    exact ⟨by first | rfl | (simp; done), drawn_trans hd.out (drawn_trans hd1.out hd2.out)⟩
  · cases h

def partv (x n : Int) : Int := x * n / 18446744073709551616
def tick_Part.f (a0 a1 : Int) : Option (Int × Int) := if (0 ≤ a0 ∧ a0 ≤ 18446744073709551615) ∧ (1 ≤ a1 ∧ a1 ≤ 65536) then some (partv a0 a1, 0) else none
def convoyref22_part.f (a0 a1 : Int) : Option Int := if (0 ≤ a0 ∧ a0 ≤ 18446744073709551615) ∧ (1 ≤ a1 ∧ a1 ≤ 65536) then some (partv a0 a1) else none

theorem partv_range {x n : Int} (hx : in64 x) (h0 : 1 ≤ n) : 0 ≤ partv x n ∧ partv x n < n := by
  unfold partv
  refine ⟨Int.ediv_nonneg (Int.mul_nonneg hx.1 (by omega)) (by omega), ?_⟩
  rw [Int.ediv_lt_iff_lt_mul (by omega), Int.mul_comm x n]
  exact Int.mul_lt_mul_of_pos_left (by have := hx.2; omega) (by omega)

set_option maxRecDepth 100000 in
set_option maxHeartbeats 4000000 in
theorem tick_Part.calls (a0 a1 r1 r2 : Int) (w : World) (h : tick_Part.f a0 a1 = some (r1, r2)) :
    Calls Try.prog 94 #[.int .u64 a0, .int .i64 a1] w fun e w' => e = .returned (.tuple #[.int .i64 r1, .int .i64 r2]) ∧ Drawn0 w w' := by
  unfold tick_Part.f at h
  split at h
  · rename_i hr
    obtain ⟨⟨x0, x1⟩, y0, y1⟩ := hr
    simp only [Option.some.injEq, Prod.mk.injEq] at h
    obtain ⟨rfl, rfl⟩ := h
    have hpr := partv_range (x := a0) (n := a1) ⟨x0, x1⟩ y0
    have hlt : decide (a1 < 1) = false := decide_eq_false (by omega)
    have e1 : IntKind.u64.wrap a1 = a1 := IntWalk.u64_in _ ⟨by omega, by omega⟩
    obtain ⟨p, hp⟩ : ∃ p, p = partv a0 a1 := ⟨_, rfl⟩
    have e2 : wrap64 p = p := by unfold wrap64; omega
    have hm : ∀ w, ∃ u : Nat, Calls Try.prog 111 #[.int .u64 a0, .int .u64 a1] w fun e w' => e = .returned (.tuple #[.int .u64 p, .int .u64 (u : Int)]) ∧ w' = w := by
      intro w
      obtain ⟨x, rfl⟩ := Int.eq_ofNat_of_zero_le x0
      obtain ⟨y, rfl⟩ := Int.eq_ofNat_of_zero_le (show (0 : Int) ≤ a1 by omega)
      refine ⟨x * y % 18446744073709551616, (Try.bits_Mul64 x y (by omega) (by omega) w).mono ?_⟩
      rintro e w' ⟨rfl, rfl⟩
      refine ⟨?_, rfl⟩
      rw [hp, partv, Int.natCast_ediv, Int.natCast_mul]
      rfl
    rw [← hp]
    replace hp := Aside0.mk hp
    clear hpr x0 x1 y0 y1
    obtain ⟨u, hm⟩ := hm w
    go_enter Try.func94, Try.ntmps94
    go_wp2_with (go_at_call 111; with_reducible refine hm.mono ?_; rintro e w' ⟨rfl, rfl⟩)
    go_ret2
    exact ⟨by first | rfl | (simp [e2]; done), Drawn0.refl _⟩
  · cases h

set_option maxRecDepth 100000 in
set_option maxHeartbeats 4000000 in
theorem convoyref22_part.calls (a0 a1 r : Int) (w : World) (h : convoyref22_part.f a0 a1 = some r) :
    Calls Try.prog 103 #[.int .u64 a0, .int .i64 a1] w fun e w' => e = .returned (.int .i64 r) ∧ Drawn0 w w' := by
  unfold convoyref22_part.f at h
  split at h
  · rename_i hr
    obtain ⟨hx, y0, y1⟩ := hr
    obtain rfl := Option.some.inj h
    clear h
    have hpr := partv_range (x := a0) (n := a1) hx y0
    obtain ⟨hi, hhi⟩ : ∃ hi, hi = a0 / 4294967296 := ⟨_, rfl⟩
    obtain ⟨lo, hlo⟩ : ∃ lo, lo = a0 % 4294967296 := ⟨_, rfl⟩
    have hx0 := hx.1
    have hx1 := hx.2
    have b1 : 0 ≤ hi ∧ hi ≤ 4294967295 := by omega
    have b2 : 0 ≤ lo ∧ lo ≤ 4294967295 := by omega
    have bm1 : 0 ≤ hi * a1 ∧ hi * a1 ≤ 4294967295 * 65536 := ⟨Int.mul_nonneg b1.1 (by omega), Int.mul_le_mul b1.2 y1 (by omega) (by omega)⟩
    have bm2 : 0 ≤ lo * a1 ∧ lo * a1 ≤ 4294967295 * 65536 := ⟨Int.mul_nonneg b2.1 (by omega), Int.mul_le_mul b2.2 y1 (by omega) (by omega)⟩
    obtain ⟨q, hq⟩ : ∃ q, q = lo * a1 / 4294967296 := ⟨_, rfl⟩
    have bq : 0 ≤ q ∧ q ≤ 65536 := by omega
    obtain ⟨p, hp⟩ : ∃ p, p = partv a0 a1 := ⟨_, rfl⟩
    have key : (hi * a1 + q) / 4294967296 = p := by
      rw [hp, partv]
      have e : a0 * a1 = hi * a1 * 4294967296 + lo * a1 := by
        have : a0 = hi * 4294967296 + lo := by omega
        rw [this, Int.add_mul, Int.mul_assoc, Int.mul_comm 4294967296 a1, ← Int.mul_assoc]
      generalize hi * a1 = X at *
      generalize lo * a1 = Y at *
      rw [e]
      omega
    have e0 : IntKind.u64.wrap (Int.tmod a0 4294967296) = lo := by rw [Int.tmod_eq_emod_of_nonneg hx0, ← hlo]; exact IntWalk.u64_in _ ⟨by omega, by omega⟩
    have e0' : Int.tmod a0 4294967296 = lo := by rw [Int.tmod_eq_emod_of_nonneg hx0, ← hlo]
    have e1 : IntKind.u64.wrap a1 = a1 := IntWalk.u64_in _ ⟨by omega, by omega⟩
    have e3 : IntKind.u64.wrap (hi * a1) = hi * a1 := IntWalk.u64_in _ ⟨by omega, by omega⟩
    have e4 : IntKind.u64.wrap (lo * a1) = lo * a1 := IntWalk.u64_in _ ⟨by omega, by omega⟩
    have e5 : IntKind.u64.wrap (hi * a1 + q) = hi * a1 + q := IntWalk.u64_in _ ⟨by omega, by omega⟩
    have e6 : wrap64 p = p := by unfold wrap64; omega
    have s0 := fun w => shift_calls a0 32 4294967296 w hx (by omega) (by omega) (by decide)
    have s1 := fun w => shift_calls (lo * a1) 32 4294967296 w ⟨by omega, by omega⟩ (by omega) (by omega) (by decide)
    have s2 := fun w => shift_calls (hi * a1 + q) 32 4294967296 w ⟨by omega, by omega⟩ (by omega) (by omega) (by decide)
    rw [← hhi] at s0
    rw [← hq] at s1
    rw [key] at s2
    rw [← hp]
    have H := Aside0.mk (And.intro hp (And.intro hq (And.intro hlo hhi)))
    clear hp hq hlo hhi bm1 bm2 b1 b2 bq hpr key hx hx0 hx1 y0 y1
    go_enter Try.func103, Try.ntmps103
    go_wp2_with (first
      | (go_at_call 113; with_reducible refine (s0 _).mono ?_; rintro e w' ⟨rfl, hd⟩; replace hd := Aside0.mk hd)
      | (go_at_call 113; with_reducible refine (s1 _).mono ?_; rintro e w' ⟨rfl, hd1⟩; replace hd1 := Aside0.mk hd1)
      | (go_at_call 113; with_reducible refine (s2 _).mono ?_; rintro e w' ⟨rfl, hd2⟩; replace hd2 := Aside0.mk hd2))
    go_ret
    exact ⟨by first | rfl | (simp [e6]; done), drawn_trans hd.out (drawn_trans hd1.out hd2.out)⟩
  · cases h
end Go.Proofs.Ytljckmiphkoipaa
