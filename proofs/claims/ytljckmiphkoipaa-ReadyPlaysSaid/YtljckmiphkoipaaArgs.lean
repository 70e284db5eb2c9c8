/-
  A slice of ints that comes in as an argument, as the walks want it.
-/
import Derived.Test.YtljckmiphkoipaaReady1
import Derived.Test.YtljckmiphkoipaaWSized
import Derived.ProofKit
import Derived.OpenShut
namespace Go.Proofs.Ytljckmiphkoipaa
set_option linter.unusedVariables false
set_option linter.unusedSimpArgs false
open Go.ChangeShapes Go.WideShapes Go.ChangeAt Go.RowKit Go.Proofs.YtljckmiphkoipaaW.PrintWords

structure IntsArg (w : World) (v : Value) (zs : List Int) : Prop where
  shape : ∃ A c, v = .slice A zs.length c ∧ zs.length ≤ c ∧ (Kd.int .i64).C w A zs.length zs
  at_ : IntsAt w v zs
  good : ∀ x ∈ zs, goodI x
  few : zs.length * 8 ≤ 140737488351232

theorem C_of_cells {w : World} {ad : Addr} {zs : List Int} (hn : zs.length ≤ 9223372036854775807) (h : ∀ i, i < zs.length → w.cell? (ad.add i) = some (.int .i64 (zs.getD i 0))) : (Kd.int .i64).C w (some ad) zs.length zs :=
  Kd.C_of_reads (enc := Value.int .i64) (d := (0 : Int)) ⟨rfl, hn, fun _ => ⟨ad, rfl, fun j hj => h j hj⟩⟩

set_option maxRecDepth 100000 in
theorem intsArg {H : Type} {enc : TypeId × Value → H} {W : World} {base b' : Nat} {spare : Nat → Bool} {held : Bool} {v : Value} {d : DataW H} {ps : List MemPlace} {ts : List TypeId} {ds : List (DataW H)} {j : Nat} {r : Reach}
    (hsz : (DataW.weightsEach Try.prog ts ds).all (· ≤ reachBytes) = true) (hv : Value.okWide Try.prog W r b' 22 v) (h : DataW.Trod enc Try.prog W base spare held 22 v d ps) (ht : ts[j]? = some 22) (hd : ds[j]? = some d) :
    ∃ zs, IntsArg W v zs := by
  obtain ⟨a, len, cap, rfl⟩ := okWide_slice Try.underlying22 hv
  have hs := Go.Proofs.YtljckmiphkoipaaW.PrintWords.sized_ints (B := 8) hsz ht hd Try.underlying22 Try.underlying3 (by kernel_rfl) (by kernel_rfl) h
  obtain ⟨fuel, hf⟩ := h
  rcases open_ints Try.underlying22 Try.underlying3 (by kernel_rfl) hf with ⟨hcs, _⟩ | ⟨x, l, c, zs, hcs, _, hl, hm, hz, _, hcell, hwz⟩
  · simp [Value.cells] at hcs
    obtain ⟨rfl, rfl, rfl⟩ := hcs
    exact ⟨[], ⟨none, 0, rfl, by simp, ⟨rfl, by simp, fun h => absurd h (Nat.lt_irrefl 0)⟩⟩, .inl ⟨none, 0, rfl, rfl⟩, by simp, by simp⟩
  · simp [Value.cells] at hcs
    obtain ⟨rfl, rfl, rfl⟩ := hcs
    have hzl : len ≤ zs.length := by rw [hz]; split <;> omega
    have htl : (zs.take len).length = len := by rw [List.length_take]; omega
    have hcl : ∀ i, i < (zs.take len).length → W.cell? (x.add i) = some (.int .i64 ((zs.take len).getD i 0)) := by
      intro i hi
      rw [htl] at hi
      rw [hcell i (by omega)]
      simp [List.getD, List.getElem?_take_of_lt hi]
    refine ⟨zs.take len, ⟨some x, cap, by rw [htl], by omega, C_of_cells (by omega) hcl⟩, ?_, fun y hy => hwz y (List.mem_of_mem_take hy), by rw [htl]; exact hs⟩
    by_cases h0 : len = 0
    · subst h0
      exact .inl ⟨_, _, rfl, by simp⟩
    · have hsp : x.spot = none := by
        have := hcl 0 (by omega)
        cases hx : x.spot with
        | none => rfl
        | some s => rw [show x.add 0 = x from rfl] at this; simp [World.cell?, hx] at this; revert this; split <;> simp
      refine .inr ⟨x.block, x.off, cap, by rw [htl, ← hsp], by omega, fun j hj => ?_⟩
      rw [← hcl j hj]
      congr 1
      unfold Addr.add
      split
      · rename_i h; subst h; cases x; simp_all
      · rfl
end Go.Proofs.Ytljckmiphkoipaa
