/-
  A struct of four ints that comes in as an argument.
-/
import Derived.Test.YtljckmiphkoipaaGate5
import Derived.ProofKit
import Derived.OpenShut
import Derived.Lib.SmallJoins
namespace Go.Proofs.Ytljckmiphkoipaa
set_option linter.unusedVariables false
set_option linter.unusedSimpArgs false
open Go.ChangeShapes Go.WideShapes Go.ChangeAt Go.RowKit Go.Joins
theorem cellsOf51' : Try.prog.cellsOf 51 = 4 := by kernel_rfl
set_option maxRecDepth 100000 in
theorem agg51Arg {H : Type} {enc : TypeId × Value → H} {W : World} {base b' : Nat} {spare : Nat → Bool} {held : Bool} {v : Value} {dd : DataW H} {ps : List MemPlace} {r : Reach}
    (hv : Value.okWide Try.prog W r b' 51 v) (h : DataW.Trod enc Try.prog W base spare held 51 v dd ps) :
    ∃ a b c d, v = .agg #[.int .i64 a, .int .i64 b, .int .i64 c, .int .i64 d] ∧ (Lit.int .i64 a).wf = true ∧ (Lit.int .i64 b).wf = true ∧ (Lit.int .i64 c).wf = true ∧ (Lit.int .i64 d).wf = true := by
  obtain ⟨c0, c1, c2, c3, y0, y1, y2, y3, n, rfl, rfl, rfl, h0, h1, h2, h3⟩ := open_agg4 Try.underlying51 (by kernel_rfl) cellsOf51' hv h
  obtain ⟨n0, e0, _, g0⟩ := DataW.trod_int Try.underlying3 h0
  obtain ⟨n1, e1, _, g1⟩ := DataW.trod_int Try.underlying3 h1
  obtain ⟨n2, e2, _, g2⟩ := DataW.trod_int Try.underlying3 h2
  obtain ⟨n3, e3, _, g3⟩ := DataW.trod_int Try.underlying3 h3
  simp at e0 e1 e2 e3
  subst e0 e1 e2 e3
  exact ⟨n0, n1, n2, n3, rfl, g0, g1, g2, g3⟩
end Go.Proofs.Ytljckmiphkoipaa
