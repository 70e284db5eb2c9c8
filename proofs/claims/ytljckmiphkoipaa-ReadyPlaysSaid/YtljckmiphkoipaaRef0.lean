/-
  The document's ready ones (a struct of three slices): New, Wake, Rest, as plain functions over lists; what lies is never written.
-/
import Derived.Test.YtljckmiphkoipaaReady8
import Derived.Test.YtljckmiphkoipaaPRdx20
import Derived.Test.YtljckmiphkoipaaPRdx22
namespace Go.Proofs.Ytljckmiphkoipaa
set_option linter.unusedVariables false
set_option linter.unusedSimpArgs false
open Go.RowKit Go.MapKept Go.Maps Go.Proofs.YtljckmiphkoipaaW.PrintWords Go.Proofs.YtljckmiphkoipaaW.PrintLast Go.Proofs.YtljckmiphkoipaaW.PrintMore

/-- The document's struct: the picks that are left lie below the entry's heap; the two lists are of one's own. -/
structure RefV (w0 : World) (base : Nat) (P : Nat → Prop) (w : World) (v : Value) (m : RM) : Prop where
  shape : ∃ Ap cp lv tv, v = .agg #[.int .i64 m.policy, .int .u64 m.lot, .slice Ap m.picks.length cp, lv, tv] ∧ m.picks.length ≤ cp ∧ (Kd.int .i64).C w0 Ap m.picks.length m.picks ∧ (Kd.int .i64).R 3 w base P lv m.l ∧ (Kd.int .i64).R 3 w base P tv m.told
theorem RefV.below {w0 w w' : World} {base : Nat} {P : Nat → Prop} {v : Value} {m : RM} (h : RefV w0 base P w v m) (hb : Below w.heap.size w w') : RefV w0 base P w' v m := by
  obtain ⟨Ap, cp, lv, tv, h1, h2, h3, h4, h5⟩ := h.shape
  exact ⟨Ap, cp, lv, tv, h1, h2, h3, Kd.R_below h4 hb, Kd.R_below h5 hb⟩
theorem RefV.only {F : Nat → Prop} {w0 w w' : World} {base : Nat} {P : Nat → Prop} {v : Value} {m : RM} (h : RefV w0 base P w v m) (ho : Only F w w') (hF : ∀ k, P k → ¬ F k) : RefV w0 base P w' v m := by
  obtain ⟨Ap, cp, lv, tv, h1, h2, h3, h4, h5⟩ := h.shape
  exact ⟨Ap, cp, lv, tv, h1, h2, h3, R_only h4 ho hF, R_only h5 ho hF⟩
theorem RefV.mono {w0 w : World} {base : Nat} {P P' : Nat → Prop} {v : Value} {m : RM} (h : RefV w0 base P w v m) (hp : ∀ k, P k → P' k) : RefV w0 base P' w v m := by
  obtain ⟨Ap, cp, lv, tv, h1, h2, h3, h4, h5⟩ := h.shape
  exact ⟨Ap, cp, lv, tv, h1, h2, h3, Kd.R_mono h4 hp, Kd.R_mono h5 hp⟩

theorem rfnew_good (w : World) (base : Nat) (P : Nat → Prop) (pol seed : Int) (Ap : Option Addr) (cp : Nat) (ps : List Int) (w0 : World) (hpol : 0 ≤ pol ∧ pol ≤ 4) (hl : ps.length ≤ 65536) (hc : ps.length ≤ cp) (hC : (Kd.int .i64).C w0 Ap ps.length ps) :
    Calls Try.prog 49 #[.int .i64 pol, .int .u64 seed, .slice Ap ps.length cp] w fun e w' => ∃ v, e = .returned (.tuple #[v, .int .i64 0]) ∧ RefV w0 base P w' v ⟨pol, seed, ps, [], []⟩ ∧ Below w.heap.size w w' := by
  have d1 : decide (pol < 0) = false := decide_eq_false (by omega)
  have d2 : decide (4 < pol) = false := decide_eq_false (by omega)
  have d3 : decide ((65536 : Int) < (ps.length : Int)) = false := decide_eq_false (by omega)
  have d4 : decide (65536 < ps.length) = false := decide_eq_false (by omega)
  replace hC := Aside0.mk hC
  replace hc := Aside0.mk hc
  clear hpol hl
  go_enter Try.func49, Try.ntmps49
  go_wp2
  (try simp only [Exit.inBlock, Exit.then])
  refine bodyPost_ret (results_ct rfl _ _ w.heap.size 80 #[.int .i64 pol, .int .u64 seed, .slice Ap ps.length cp, .slice none 0 0, .slice none 0 0] (0, 0) _ rfl (heap_alloc_new w _) Try.underlying80 rfl (by kernel_rfl)) rfl ?_
  exact ⟨_, rfl, ⟨Ap, cp, _, _, rfl, hc.out, hC.out, Kd.R_nil _ _ _ _ _, Kd.R_nil _ _ _ _ _⟩, (Below.refl _ _).alloc (Nat.le_refl _) _⟩
/-- It may not be. -/
theorem rfnew_bad (w : World) (pol seed : Int) (Ap : Option Addr) (cp n : Nat) (hbad : (pol < 0 ∨ 4 < pol) ∨ 65536 < n) :
    Calls Try.prog 49 #[.int .i64 pol, .int .u64 seed, .slice Ap n cp] w fun e w' => e = .returned (.tuple #[.agg #[.int .i64 0, .int .u64 0, .slice none 0 0, .slice none 0 0, .slice none 0 0], .int .i64 (if pol < 0 ∨ 4 < pol then 220 else 3)]) ∧ Below w.heap.size w w' := by
  by_cases h1 : pol < 0
  · have d1 : decide (pol < 0) = true := decide_eq_true h1
    rw [if_pos (.inl h1)]
    clear h1 hbad
    go_enter Try.func49, Try.ntmps49
    go_wp2
    (try simp only [Exit.inBlock, Exit.then])
    refine bodyPost_ret (results_ct rfl _ _ w.heap.size 80 #[.int .i64 0, .int .u64 0, .slice none 0 0, .slice none 0 0, .slice none 0 0] (0, 0) _ rfl (heap_alloc_new w _) Try.underlying80 rfl (by kernel_rfl)) rfl ?_
    exact ⟨rfl, (Below.refl _ _).alloc (Nat.le_refl _) _⟩
  · have d1 : decide (pol < 0) = false := decide_eq_false h1
    by_cases h2 : 4 < pol
    · have d2 : decide (4 < pol) = true := decide_eq_true h2
      rw [if_pos (.inr h2)]
      clear h1 hbad h2
      go_enter Try.func49, Try.ntmps49
      go_wp2
      (try simp only [Exit.inBlock, Exit.then])
      refine bodyPost_ret (results_ct rfl _ _ w.heap.size 80 #[.int .i64 0, .int .u64 0, .slice none 0 0, .slice none 0 0, .slice none 0 0] (0, 0) _ rfl (heap_alloc_new w _) Try.underlying80 rfl (by kernel_rfl)) rfl ?_
      exact ⟨rfl, (Below.refl _ _).alloc (Nat.le_refl _) _⟩
    · have d2 : decide (4 < pol) = false := decide_eq_false h2
      have d3 : decide ((65536 : Int) < (n : Int)) = true := decide_eq_true (by omega)
      have d4 : decide (65536 < n) = true := decide_eq_true (by omega)
      rw [if_neg (by omega)]
      clear h1 hbad h2
      go_enter Try.func49, Try.ntmps49
      go_wp2
      (try simp only [Exit.inBlock, Exit.then])
      refine bodyPost_ret (results_ct rfl _ _ w.heap.size 80 #[.int .i64 0, .int .u64 0, .slice none 0 0, .slice none 0 0, .slice none 0 0] (0, 0) _ rfl (heap_alloc_new w _) Try.underlying80 rfl (by kernel_rfl)) rfl ?_
      exact ⟨rfl, (Below.refl _ _).alloc (Nat.le_refl _) _⟩

/-- Where a number stands. -/
def findV (l : List Int) (x : Int) : Int := if x ∈ l then Lib.idxOf l x else -1
theorem find_loop (l : List Int) (x : Int) (hl : l.length ≤ 9223372036854775806) : ∀ (d : Nat) (i : Int), 0 ≤ i → (l.length : Int) - i = d → (∀ j : Nat, (j : Int) < i → l.getD j 0 ≠ x) → PRd.convoyref22_Find.l0 (d + 1) x l (l.length : Int) i = some (findV l x)
  | 0, i, h0, h1, hn => by
    unfold PRd.convoyref22_Find.l0
    rw [if_neg (by omega)]
    have : x ∉ l := by
      intro hx
      obtain ⟨k, h2, h3, _⟩ := first_of hx
      exact hn k (by omega) h3
    rw [findV, if_neg this]
  | d + 1, i, h0, h1, hn => by
    unfold PRd.convoyref22_Find.l0
    rw [if_pos (by omega), if_pos h0, if_pos (by omega)]
    by_cases he : rd l i = x
    · rw [if_pos he]
      have hx : x ∈ l := by
        rw [← he]; unfold rd
        rw [List.getD_eq_getElem?_getD, List.getElem?_eq_getElem (by omega)]; exact List.getElem_mem _
      obtain ⟨k, h2, h3, h4, h5⟩ := idxOf_spec hx
      rw [findV, if_pos hx, h3]
      have : (k : Int) = i := by
        rcases Int.lt_trichotomy (k : Int) i with h | h | h
        · exact absurd h4 (hn k h)
        · exact h
        · exact absurd he (by have := h5 i.toNat (by omega); exact this)
      rw [this]
    · rw [if_neg he, w64 _ (by omega)]
      exact find_loop l x hl d (i + 1) (by omega) (by omega) (fun j hj e => by
        by_cases hji : (j : Int) < i
        · exact hn j hji e
        · have : j = i.toNat := by omega
          subst this
          exact he e)
theorem find_calls {w0 w : World} {base : Nat} {P : Nat → Prop} {v : Value} {m : RM} (h : RefV w0 base P w v m) (hw : Below w0.heap.size w0 w) (x : Int) (hl : m.l.length ≤ 9223372036854775806) :
    Calls Try.prog 51 #[v, .int .i64 x] w fun e w' => e = .returned (.int .i64 (findV m.l x)) ∧ Below w.heap.size w w' := by
  obtain ⟨Ap, cp, lv, tv, rfl, h2, h3, h4, h5⟩ := h.shape
  obtain ⟨A1, c1, rfl, hc1, hC1⟩ := Kd.R_reads h4
  obtain ⟨A2, c2, rfl, hc2, hC2⟩ := Kd.R_reads h5
  refine PRd.convoyref22_Find.calls (m.l.length + 1) m.policy m.lot Ap cp m.picks A1 c1 m.l A2 c2 m.told x (findV m.l x) w (Kd.C_below h3 hw) h2 hC1 hc1 hC2 hc2 ?_
  unfold PRd.convoyref22_Find.f
  exact find_loop m.l x hl m.l.length 0 (by omega) (by omega) (fun j hj => by omega)
end Go.Proofs.Ytljckmiphkoipaa
