/-
  The ready ones: New, Wake, Rest, Peek, Pick.
-/
import Derived.Test.YtljckmiphkoipaaReady1
namespace Go.Proofs.Ytljckmiphkoipaa
set_option linter.unusedVariables false
set_option linter.unusedSimpArgs false
open Go.RowKit Go.MapKept Go.Maps Go.Proofs.YtljckmiphkoipaaW.PrintWords Go.Proofs.YtljckmiphkoipaaW.PrintLast Go.Proofs.YtljckmiphkoipaaW.PrintMore

theorem new_policy (w : World) (policy lot : Int) (v : Value) (hp : policy < 0 ∨ 4 < policy) : Calls Try.prog 12 #[.int .i64 policy, .int .u64 lot, v] w fun e w' => e = .returned (.tuple #[.pointer none, .int .i64 220]) ∧ w' = w := by
  by_cases h1 : policy < 0
  · have d1 : decide (policy < 0) = true := decide_eq_true h1
    clear h1 hp
    go_enter Try.func12, Try.ntmps12
    go_wp2
    go_ret2
    exact ⟨rfl, rfl⟩
  · have d1 : decide (policy < 0) = false := decide_eq_false h1
    have d2 : decide (4 < policy) = true := decide_eq_true (by omega)
    clear h1 hp
    go_enter Try.func12, Try.ntmps12
    go_wp2
    go_ret2
    exact ⟨rfl, rfl⟩
theorem new_many (w : World) (policy lot : Int) (v : Value) (zs : List Int) (hv : IntsAt w v zs) (hp : 0 ≤ policy ∧ policy ≤ 4) (hl : 65536 < zs.length) : Calls Try.prog 12 #[.int .i64 policy, .int .u64 lot, v] w fun e w' => e = .returned (.tuple #[.pointer none, .int .i64 3]) ∧ w' = w := by
  have d1 : decide (policy < 0) = false := decide_eq_false (by omega)
  have d2 : decide (4 < policy) = false := decide_eq_false (by omega)
  obtain ⟨A, c, rfl⟩ : ∃ A c, v = .slice A zs.length c := by
    rcases hv with ⟨A, c, rfl, rfl⟩ | ⟨gb, off, cap, rfl, _⟩
    · exact ⟨_, _, rfl⟩
    · exact ⟨_, _, rfl⟩
  have d3 : decide ((65536 : Int) < (zs.length : Int)) = true := decide_eq_true (by omega)
  have d3' : decide (65536 < zs.length) = true := decide_eq_true hl
  clear hp hl hv
  go_enter Try.func12, Try.ntmps12
  go_wp2
  go_ret2
  exact ⟨rfl, rfl⟩
theorem new_calls (w : World) (policy lot : Int) (v : Value) (zs : List Int) (hv : IntsAt w v zs) (hp : 0 ≤ policy ∧ policy ≤ 4) (hl : zs.length ≤ 65536) (hlot : in64 lot) : Calls Try.prog 12 #[.int .i64 policy, .int .u64 lot, v] w fun e w' =>
    ∃ g, e = .returned (.tuple #[.pointer (some ⟨g, 0, none⟩), .int .i64 0]) ∧ IsReady w' w.heap.size g (fun k => w.heap.size ≤ k) 0 ⟨policy, lot, zs, [], []⟩ ∧ Below w.heap.size w w' := by
  have d1 : decide (policy < 0) = false := decide_eq_false (by omega)
  have d2 : decide (4 < policy) = false := decide_eq_false (by omega)
  have hc := clone_at hv (by omega)
  obtain ⟨A, c, rfl⟩ : ∃ A c, v = .slice A zs.length c := by
    rcases hv with ⟨A, c, rfl, rfl⟩ | ⟨gb, off, cap, rfl, _⟩
    · exact ⟨_, _, rfl⟩
    · exact ⟨_, _, rfl⟩
  have d3 : decide ((65536 : Int) < (zs.length : Int)) = false := decide_eq_false (by omega)
  have d3' : decide (65536 < zs.length) = false := decide_eq_false (by omega)
  replace hl := Aside0.mk hl
  replace hlot := Aside0.mk hlot
  clear hp hv
  go_enter Try.func12, Try.ntmps12
  go_wp2_with (first
    | (go_at_call 69; refine hc.mono ?_; rintro e w1 ⟨v2, rfl, hR, hB⟩; obtain ⟨A2, cc2, rfl, _⟩ := Kd.R_reads hR; replace hR := Aside0.mk hR; replace hB := Aside0.mk hB)
    | (go_at_call 38; refine (newTurns_calls _).mono ?_; rintro e w2 ⟨b, rfl, hb, hT, hB2⟩; replace hT := Aside0.mk hT; replace hB2 := Aside0.mk hB2; replace hb := Aside0.mk hb))
  go_ret2
  have s1 : w.heap.size ≤ w1.heap.size := hB.out.size
  have s2 : w1.heap.size ≤ w2.heap.size := hB2.out.size
  have hb' := hb.out
  have hl2 := hT.out.lt
  have b3 : Below w2.heap.size w2 (w2.alloc (.cells #[.int .i64 policy, .int .u64 lot, .slice A2 zs.length cc2, .slice none 0 0, .pointer (some ⟨b + 2, 0, none⟩)] 106 (0, 0))) := (Below.refl _ _).alloc (Nat.le_refl _) _
  refine ⟨w2.heap.size, by simp, ⟨b, .slice A2 zs.length cc2, .slice none 0 0, heap_alloc_new w2 _, hT.out.only (Only.ofBelow (F := fun _ => False) b3) (fun _ _ h => h), ?_, Kd.R_nil _ _ _ _ _, by omega, fun k hk => by have := hk.1; omega, fun hk => by have := hk.2; omega, ⟨by omega, by omega⟩, hlot.out, hl.out⟩, ?_⟩
  · have r1 := Kd.R_bound hR.out
    have r2 := Kd.R_below (Kd.R_below r1 hB2.out) b3
    refine Kd.R_mono r2 (fun k hk => ⟨hk.2.1, by have := hk.2.2.1; omega, fun ht => by have := ht.1; have := hk.2.2.1; omega, by simp [Value.ownBlock]⟩)
  · exact (hB.out.trans (hB2.out.mono s1)).trans (b3.mono (by omega))

section
variable (w : World) (base g : Nat) (Q : Nat → Prop) (n x : Int) (m : RM)

def putL (l : List Int) (x : Int) : List Int := if x ∈ l ∨ 65536 ≤ l.length then l else l ++ [x]
def putE (l : List Int) (x : Int) : Int := if x ∈ l then 40 else if 65536 ≤ l.length then 3 else 0
theorem put_calls (b : Nat) (l : List Int) (h : IsTurns w b l n) (hx : goodI x) (hn : n < 4611686018427387904) : Calls Try.prog 47 #[.pointer (some ⟨b + 2, 0, none⟩), .int .i64 x] w fun e w' => e = .returned (.int .i64 (putE l x)) ∧ IsTurns w' b (putL l x) (n + 1) ∧ Only (tfoot b) w w' := by
  unfold putE putL
  by_cases hm : x ∈ l
  · simp only [hm, true_or, if_true]
    refine (put_there w b l n x h hx hm).mono ?_
    rintro e w' ⟨rfl, rfl⟩
    exact ⟨rfl, h.more (by omega), Only.refl _ _⟩
  · by_cases hf : 65536 ≤ l.length
    · simp only [hm, hf, or_true, if_true, if_false]
      refine (put_full w b l n x h hx hm (by have := h.few; omega)).mono ?_
      rintro e w' ⟨rfl, rfl⟩
      exact ⟨rfl, h.more (by omega), Only.refl _ _⟩
    · simp only [hm, hf, or_self, if_false]
      exact put_new w b l n x h hx hm (by omega) hn
theorem drop_calls (b : Nat) (l : List Int) (h : IsTurns w b l n) (hx : goodI x) : Calls Try.prog 44 #[.pointer (some ⟨b + 2, 0, none⟩), .int .i64 x] w fun e w' => e = .returned (.bool (decide (x ∈ l))) ∧ IsTurns w' b (l.filter (fun y => decide (y ≠ x))) n ∧ Only (tfoot b) w w' := by
  by_cases hm : x ∈ l
  · simp only [hm, decide_true]
    exact drop_in w b l n x h hx hm
  · simp only [hm, decide_false]
    refine (drop_not w b l n x h hx hm).mono ?_
    rintro e w' ⟨rfl, rfl⟩
    refine ⟨rfl, ?_, Only.refl _ _⟩
    rw [List.filter_eq_self.2 (fun y hy => by simp; rintro rfl; exact hm hy)]
    exact h

def wakeM (m : RM) (x : Int) : RM := { m with l := putL m.l x }
def restM (m : RM) (x : Int) : RM := { m with l := m.l.filter (fun y => decide (y ≠ x)) }
theorem wake_calls (h : IsReady w base g Q n m) (hx : goodI x) (hn : n < 4611686018427387904) : Calls Try.prog 14 #[.pointer (some ⟨g, 0, none⟩), .int .i64 x] w fun e w' => e = .returned (.int .i64 (putE m.l x)) ∧ IsReady w' base g Q (n + 1) (wakeM m x) ∧ Only Q w w' := by
  obtain ⟨b, v2, v3, h⟩ := h
  have c4 : w.cell? ⟨g, 4, none⟩ = some (.pointer (some ⟨b + 2, 0, none⟩)) := (blk_cell h.blk 4).trans rfl
  have hc := put_calls w n x b m.l h.turns hx hn
  generalize he : putE m.l x = r at hc ⊢
  replace h := Aside0.mk h
  clear hx hn he
  go_enter Try.func14, Try.ntmps14
  go_wp2_with (go_at_call 47; refine hc.mono ?_; rintro e w1 ⟨rfl, hT, hO⟩; replace hT := Aside0.mk hT; replace hO := Aside0.mk hO)
  go_ret
  have h := h.out
  refine ⟨rfl, ⟨b, v2, v3, (hO.out.block _ (blk_lt h.blk) h.bg).trans h.blk, hT.out, R_only h.picks hO.out (fun k hk => hk.2.2.1), R_only h.told hO.out (fun k hk => hk.2.2.1), h.qg, h.qb, h.bg, h.base, h.lot, h.few⟩, hO.out.mono (fun k _ hk => h.qb k hk)⟩
theorem rest_calls (h : IsReady w base g Q n m) (hx : goodI x) : Calls Try.prog 52 #[.pointer (some ⟨g, 0, none⟩), .int .i64 x] w fun e w' => e = .returned (.bool (decide (x ∈ m.l))) ∧ IsReady w' base g Q n (restM m x) ∧ Only Q w w' := by
  obtain ⟨b, v2, v3, h⟩ := h
  have c4 : w.cell? ⟨g, 4, none⟩ = some (.pointer (some ⟨b + 2, 0, none⟩)) := (blk_cell h.blk 4).trans rfl
  have hc := drop_calls w n x b m.l h.turns hx
  generalize he : decide (x ∈ m.l) = r at hc ⊢
  replace h := Aside0.mk h
  clear hx he
  go_enter Try.func52, Try.ntmps52
  go_wp2_with (go_at_call 44; refine hc.mono ?_; rintro e w1 ⟨rfl, hT, hO⟩; replace hT := Aside0.mk hT; replace hO := Aside0.mk hO)
  go_ret
  have h := h.out
  refine ⟨rfl, ⟨b, v2, v3, (hO.out.block _ (blk_lt h.blk) h.bg).trans h.blk, hT.out, R_only h.picks hO.out (fun k hk => hk.2.2.1), R_only h.told hO.out (fun k hk => hk.2.2.1), h.qg, h.qb, h.bg, h.base, h.lot, h.few⟩, hO.out.mono (fun k _ hk => h.qb k hk)⟩
end
end Go.Proofs.Ytljckmiphkoipaa
