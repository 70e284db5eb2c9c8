/-
  The gates: who waits where, as a plain list of (who, gate); Come.
-/
import Derived.Test.YtljckmiphkoipaaGate0
import Derived.Test.YtljckmiphkoipaaReady2
namespace Go.Proofs.Ytljckmiphkoipaa
set_option linter.unusedVariables false
set_option linter.unusedSimpArgs false
open Go.RowKit Go.MapKept Go.Maps Go.Proofs.YtljckmiphkoipaaW.PrintWords Go.Proofs.YtljckmiphkoipaaW.PrintLast Go.Proofs.YtljckmiphkoipaaW.PrintMore

/-- Who waits at gate k, in order. -/
def waitsAt (wm : List (Int × Int)) (k : Nat) : List Int := (wm.filter (fun p => decide (p.2 = (k : Int)))).map (·.1)
def ptrOf (q : Nat → Option Nat) (k : Nat) : Value := match q k with | none => .pointer none | some b => .pointer (some ⟨b + 2, 0, none⟩)

structure GatesAt (w : World) (base g bw : Nat) (q : Nat → Option Nat) (Q : Nat → Prop) (n : Int) (op : Nat → Bool) (wm : List (Int × Int)) : Prop where
  blk : GateAt w g bw op (ptrOf q)
  wh : MII w bw wm
  none_ : ∀ k, k < 256 → q k = none → waitsAt wm k = []
  some_ : ∀ k, k < 256 → ∀ b, q k = some b → IsTurns w b (waitsAt wm k) n ∧ base ≤ b ∧ (∀ i, tfoot b i → Q i) ∧ ¬ tfoot b g ∧ ¬ tfoot b bw
  apart : ∀ k k', k < 256 → k' < 256 → k ≠ k' → ∀ b b', q k = some b → q k' = some b' → ∀ i, tfoot b i → ¬ tfoot b' i
  qg : Q g
  qw : Q bw
  gw : g ≠ bw
  base : base ≤ g ∧ base ≤ bw
  in_ : ∀ p ∈ wm, 0 ≤ p.2 ∧ p.2 < 256

/-- A block g of gates that stand as op, wm; all its blocks are in Q. -/
def IsGates (w : World) (base g : Nat) (Q : Nat → Prop) (n : Int) (op : Nat → Bool) (wm : List (Int × Int)) : Prop := ∃ bw q, GatesAt w base g bw q Q n op wm

section
variable {w w' : World} {base g bw : Nat} {q : Nat → Option Nat} {Q Q' : Nat → Prop} {n : Int} {op : Nat → Bool} {wm : List (Int × Int)}
theorem GateAt.lt {qv : Nat → Value} (h : GateAt w g bw op qv) : g < w.heap.size := by obtain ⟨cs, h, _⟩ := h.blk; exact blk_lt h
theorem GateAt.only {F : Nat → Prop} {qv : Nat → Value} (h : GateAt w g bw op qv) (ho : Only F w w') (hn : ¬ F g) : GateAt w' g bw op qv := by
  have hl := h.lt
  obtain ⟨cs, h1, h2⟩ := h.blk
  exact ⟨cs, (ho.block g hl hn).trans h1, h2⟩
theorem GatesAt.only {F : Nat → Prop} (h : GatesAt w base g bw q Q n op wm) (ho : Only F w w') (hF : ∀ k, Q k → ¬ F k) : GatesAt w' base g bw q Q n op wm :=
  ⟨h.blk.only ho (hF _ h.qg), h.wh.only ho (hF _ h.qw), h.none_, fun k hk b hb => ⟨(h.some_ k hk b hb).1.only ho (fun i hi => hF _ ((h.some_ k hk b hb).2.2.1 i hi)), (h.some_ k hk b hb).2⟩, h.apart, h.qg, h.qw, h.gw, h.base, h.in_⟩
theorem IsGates.only {F : Nat → Prop} (h : IsGates w base g Q n op wm) (ho : Only F w w') (hF : ∀ k, Q k → ¬ F k) : IsGates w' base g Q n op wm := by
  obtain ⟨bw, q, h⟩ := h
  exact ⟨bw, q, h.only ho hF⟩
theorem IsGates.below (h : IsGates w base g Q n op wm) (hb : Below w.heap.size w w') : IsGates w' base g Q n op wm := h.only (Only.ofBelow (F := fun _ => False) hb) (fun _ _ h => h)
theorem GatesAt.mono (h : GatesAt w base g bw q Q n op wm) (hq : ∀ k, Q k → Q' k) : GatesAt w base g bw q Q' n op wm :=
  ⟨h.blk, h.wh, h.none_, fun k hk b hb => ⟨(h.some_ k hk b hb).1, (h.some_ k hk b hb).2.1, fun i hi => hq _ ((h.some_ k hk b hb).2.2.1 i hi), (h.some_ k hk b hb).2.2.2⟩, h.apart, hq _ h.qg, hq _ h.qw, h.gw, h.base, h.in_⟩
theorem IsGates.mono (h : IsGates w base g Q n op wm) (hq : ∀ k, Q k → Q' k) : IsGates w base g Q' n op wm := by
  obtain ⟨bw, q, h⟩ := h
  exact ⟨bw, q, h.mono hq⟩
theorem IsGates.more {n' : Int} (h : IsGates w base g Q n op wm) (hn : n ≤ n') : IsGates w base g Q n' op wm := by
  obtain ⟨bw, q, h⟩ := h
  exact ⟨bw, q, h.blk, h.wh, h.none_, fun k hk b hb => ⟨(h.some_ k hk b hb).1.more hn, (h.some_ k hk b hb).2⟩, h.apart, h.qg, h.qw, h.gw, h.base, h.in_⟩
theorem IsGates.tight (h : IsGates w base g Q n op wm) : IsGates w base g (fun k => Q k ∧ base ≤ k ∧ k < w.heap.size) n op wm := by
  obtain ⟨bw, q, h⟩ := h
  refine ⟨bw, q, h.blk, h.wh, h.none_, fun k hk b hb => ⟨(h.some_ k hk b hb).1, (h.some_ k hk b hb).2.1, fun i hi => ⟨(h.some_ k hk b hb).2.2.1 i hi, ?_, ?_⟩, (h.some_ k hk b hb).2.2.2⟩, h.apart, ⟨h.qg, h.base.1, h.blk.lt⟩, ⟨h.qw, h.base.2, h.wh.lt⟩, h.gw, h.base, h.in_⟩
  · have := hi.1; have := (h.some_ k hk b hb).2.1; omega
  · have := hi.2; have := (h.some_ k hk b hb).1.lt; omega
theorem GateAt.cell_open {qv : Nat → Value} (h : GateAt w g bw op qv) {k : Nat} (hk : k < 256) : w.cell? ⟨g, k, none⟩ = some (.bool (op k)) := by
  obtain ⟨cs, h1, h2, h3, h4, h5⟩ := h.blk
  exact (blk_cell h1 k).trans (h3 k hk)
theorem GateAt.cell_turns {qv : Nat → Value} (h : GateAt w g bw op qv) {k : Nat} (hk : k < 256) : w.cell? ⟨g, 256 + k, none⟩ = some (qv k) := by
  obtain ⟨cs, h1, h2, h3, h4, h5⟩ := h.blk
  exact (blk_cell h1 (256 + k)).trans (h4 k hk)
theorem GateAt.cell_map {qv : Nat → Value} (h : GateAt w g bw op qv) : w.cell? ⟨g, 512, none⟩ = some (.map (some bw)) := by
  obtain ⟨cs, h1, h2, h3, h4, h5⟩ := h.blk
  exact (blk_cell h1 512).trans h5
theorem GateAt.free {qv : Nat → Value} (h : GateAt w g bw op qv) (k : Nat) : w.frozen? ⟨g, k, none⟩ = false := by
  obtain ⟨cs, h1, _⟩ := h.blk
  exact blk_frozen h1 k
theorem GateAt.setOpen {qv : Nat → Value} (h : GateAt w g bw op qv) {k : Nat} (hk : k < 256) (v : Bool) : GateAt (w.setCell ⟨g, k, none⟩ (.bool v)) g bw (fun i => if i = k then v else op i) qv := by
  obtain ⟨cs, h1, h2, h3, h4, h5⟩ := h.blk
  refine ⟨cs.setIfInBounds k (.bool v), blk_set h1 k _, by simp [h2], fun i hi => ?_, fun i hi => ?_, ?_⟩
  · by_cases e : i = k
    · subst e; rw [Array.getElem?_setIfInBounds_self_of_lt (by omega), if_pos rfl]
    · rw [Array.getElem?_setIfInBounds_ne (by omega), if_neg e]; exact h3 i hi
  · rw [Array.getElem?_setIfInBounds_ne (by omega)]; exact h4 i hi
  · rw [Array.getElem?_setIfInBounds_ne (by omega)]; exact h5
theorem GateAt.setTurns {qv : Nat → Value} (h : GateAt w g bw op qv) {k : Nat} (hk : k < 256) (v : Value) : GateAt (w.setCell ⟨g, 256 + k, none⟩ v) g bw op (fun i => if i = k then v else qv i) := by
  obtain ⟨cs, h1, h2, h3, h4, h5⟩ := h.blk
  refine ⟨cs.setIfInBounds (256 + k) v, blk_set h1 _ _, by simp [h2], fun i hi => ?_, fun i hi => ?_, ?_⟩
  · rw [Array.getElem?_setIfInBounds_ne (by omega)]; exact h3 i hi
  · by_cases e : i = k
    · subst e; rw [Array.getElem?_setIfInBounds_self_of_lt (by omega), if_pos rfl]
    · rw [Array.getElem?_setIfInBounds_ne (by omega), if_neg e]; exact h4 i hi
  · rw [Array.getElem?_setIfInBounds_ne (by omega)]; exact h5
end

theorem isGates_new (w : World) : Calls Try.prog 22 #[] w fun e w' => ∃ g, e = .returned (.pointer (some ⟨g, 0, none⟩)) ∧ IsGates w' w.heap.size g (fun k => w.heap.size ≤ k) 0 (fun _ => false) [] ∧ Below w.heap.size w w' := by
  refine (gnew_calls w).mono ?_
  rintro e w' ⟨rfl, hG, hM, hB⟩
  exact ⟨_, rfl, ⟨w.heap.size, fun _ => none, hG, hM, fun k _ _ => rfl, (fun k _ b hb => by cases hb), (fun k k' _ _ _ b b' hb => by cases hb), by omega, by omega, by omega, ⟨by omega, by omega⟩, by simp⟩, hB⟩
end Go.Proofs.Ytljckmiphkoipaa
