/-
  A slice of structs that comes in as an argument, and a struct of two numbers and a slice of ints.
-/
import Derived.Test.YtljckmiphkoipaaArgs
import Derived.Test.YtljckmiphkoipaaReady7
import Derived.Lib.SmallJoins
namespace Go.Proofs.Ytljckmiphkoipaa
set_option linter.unusedVariables false
set_option linter.unusedSimpArgs false
open Go.ChangeShapes Go.WideShapes Go.ChangeAt Go.RowKit Go.Joins Go.Proofs.YtljckmiphkoipaaW.PrintWords

theorem list_of {α : Type} {R : Nat → α → Prop} : ∀ (n : Nat), (∀ i, i < n → ∃ p, R i p) → ∃ ps : List α, ps.length = n ∧ ∀ i p, ps[i]? = some p → R i p
  | 0, _ => ⟨[], rfl, fun i p h => by simp at h⟩
  | n + 1, h => by
    obtain ⟨ps, h1, h2⟩ := list_of n (fun i hi => h i (by omega))
    obtain ⟨p, hp⟩ := h n (by omega)
    refine ⟨ps ++ [p], by simp [h1], fun i q hq => ?_⟩
    by_cases hi : i < n
    · rw [List.getElem?_append_left (by omega)] at hq
      exact h2 i q hq
    · rw [List.getElem?_append_right (by omega), h1] at hq
      have : i = n := by
        rcases Nat.lt_or_ge (i - n) 1 with h | h
        · omega
        · rw [List.getElem?_eq_none (by simpa using h)] at hq; cases hq
      subst this
      simp at hq
      rw [← hq]; exact hp

section
variable {H : Type} {enc : TypeId × Value → H} {P : Program} {w : World} {base : Nat} {spare : Nat → Bool} {held : Bool}
/-- A slice of structs opened: each element by the law of its own. -/
theorem open_rows {α : Type} {t e : TypeId} {C : Nat} {fuel : Nat} {v : Value} {x : DataW H × List MemPlace} (encC : α → List Value) (good : α → Prop) (ht : P.underlying t = some (.slice e)) (hC : P.cellsOf e = C)
    (hE : ∀ n cs y, DataW.trod enc P w base spare held n e cs = some y → ∃ p, cs = encC p ∧ good p)
    (h : DataW.trod enc P w base spare held fuel t [v] = some x) :
    (v = .slice none 0 0 ∧ x = (.nil, [])) ∨ ∃ (a : Addr) (len cap : Nat) (ps : List α) (els spr : List (DataW H)), v = .slice (some a) len cap ∧ len ≤ cap ∧ cap ≤ maxLen ∧ ps.length = len ∧
      (∀ i p, ps[i]? = some p → good p ∧ ∀ k, k < C → w.cell? ((a.add (i * C)).add k) = (encC p)[k]?) ∧ x.1 = .slice els spr ∧ els.length = len := by
  rcases DataW.trod_slice ht h with ⟨h0, h1⟩ | ⟨a, len, cap, elems, rest, n, _, h0, rfl, hb, hl, hm, hlen, hel, hsp, hns⟩
  · exact .inl ⟨by simpa using h0, h1⟩
  right
  obtain ⟨ps, h2, h3⟩ := list_of (R := fun i p => good p ∧ ∀ k, k < C → w.cell? ((a.add (i * C)).add k) = (encC p)[k]?) len (fun i hi => by
    have h4 := hel i hi
    rw [List.getElem?_eq_getElem (by omega), hC, Option.bind_eq_some_iff] at h4
    obtain ⟨cs, hcs, hy⟩ := h4
    obtain ⟨p, rfl, hp⟩ := hE _ _ _ hy
    exact ⟨p, hp, fun k hk => (World.cells?_some hcs).2.2 k hk⟩)
  exact ⟨a, len, cap, ps, elems.map (·.1), rest.map (·.1), by simpa using h0, hl, hm, h2, h3, rfl, by simpa using hlen⟩
end

def encAct (p : Int × Int) : List Value := [.int .i64 p.1, .int .i64 p.2]
theorem cellsOf39 : Try.prog.cellsOf 39 = 2 := by kernel_rfl
theorem cellsOf3 : Try.prog.cellsOf 3 = 1 := by kernel_rfl
set_option maxRecDepth 100000 in
theorem actsArg {H : Type} {enc : TypeId × Value → H} {W : World} {base b' : Nat} {spare : Nat → Bool} {held : Bool} {v : Value} {d : DataW H} {ps : List MemPlace} {ts : List TypeId} {ds : List (DataW H)} {j : Nat} {r : Reach}
    (hsz : (DataW.weightsEach Try.prog ts ds).all (· ≤ reachBytes) = true) (hv : Value.okWide Try.prog W r b' 37 v) (h : DataW.Trod enc Try.prog W base spare held 37 v d ps) (ht : ts[j]? = some 37) (hd : ds[j]? = some d) :
    ∃ zs, ActsArg W v zs := by
  obtain ⟨fuel, hf⟩ := h
  obtain ⟨a0, len0, cap0, rfl⟩ := okWide_slice Try.underlying37 hv
  have hcs : (Value.slice a0 len0 cap0).cells.toList = [.slice a0 len0 cap0] := by simp [Value.cells]
  rw [hcs] at hf
  rcases open_rows (P := Try.prog) (C := 2) encAct (fun p => goodI p.1 ∧ goodI p.2) Try.underlying37 cellsOf39 (fun n cs y hy => by
    obtain ⟨y0, y1, m, _, hl, h0, h1⟩ := trod_struct2 Try.underlying39 hy
    rw [cellsOf39] at hl
    obtain ⟨c0, c1, rfl⟩ : ∃ c0 c1, cs = [c0, c1] := by match cs, hl with | [c0, c1], _ => exact ⟨c0, c1, rfl⟩
    simp [cellsOf3] at h0 h1
    obtain ⟨n0, e0, _, g0⟩ := DataW.trod_int Try.underlying3 h0
    obtain ⟨n1, e1, _, g1⟩ := DataW.trod_int Try.underlying3 h1
    simp at e0 e1
    subst e0 e1
    exact ⟨(n0, n1), rfl, g0, g1⟩) hf with ⟨h1, _⟩ | ⟨a, len, cap, zs, els, spr, h1, hl, hm, hz, hc, hx, hle⟩
  · cases h1
    exact ⟨[], ⟨none, 0, rfl⟩, fun A c h j h0 h1 => by simp at h1; omega, by simp, by simp⟩
  · cases h1
    have hdx : d = .slice els spr := by
      have := hx
      simpa using this
    subst hdx
    have hs := sized_slice hsz ht hd Try.underlying37
    rw [show Try.prog.bytesOf 39 = 16 by kernel_rfl] at hs
    refine ⟨zs, ⟨some a, cap0, by rw [hz]⟩, fun A c h j h0 h1 => ?_, fun p hp => ?_, ?_⟩
    · rw [hz] at h
      injection h with h2 h3 h4
      subst h2
      have hj : zs[j.toNat]? = some (zs.getD j.toNat (0, 0)) := by rw [List.getD_eq_getElem?_getD, List.getElem?_eq_getElem (by omega)]; rfl
      obtain ⟨_, hk⟩ := hc _ _ hj
      refine ⟨a, rfl, ?_, ?_⟩
      · have := hk 0 (by omega)
        simpa [Addr.add, encAct] using this
      · have := hk 1 (by omega)
        simpa [Addr.add, encAct] using this
    · obtain ⟨i, hi⟩ := List.getElem?_of_mem hp
      exact (hc i p hi).1
    · have : els.length * 16 ≤ (els.length + spr.length) * 16 := Nat.mul_le_mul_right _ (by omega)
      have h7 : reachBytes = 140737488351232 := rfl
      rw [hz, ← hle]; omega
theorem intsCore {H : Type} {enc : TypeId × Value → H} {W : World} {base : Nat} {spare : Nat → Bool} {held : Bool} {u : Value} {fuel : Nat} {x : DataW H × List MemPlace}
    (hf : DataW.trod enc Try.prog W base spare held fuel 22 [u] = some x) (hs : ∀ els spr, x.1 = .slice els spr → (els.length + spr.length) * 8 ≤ 140737488351232) : ∃ zs, IntsArg W u zs := by
  rcases open_ints Try.underlying22 Try.underlying3 (by kernel_rfl) hf with ⟨hcs, _⟩ | ⟨a, len, cap, zs, hcs, _, hl, hm, hz, hx, hcell, hwz⟩
  · obtain rfl : u = .slice none 0 0 := by simpa using hcs
    exact ⟨[], ⟨none, 0, rfl, by simp, ⟨rfl, by simp, fun h => absurd h (Nat.lt_irrefl 0)⟩⟩, .inl ⟨none, 0, rfl, rfl⟩, by simp, by simp⟩
  · obtain rfl : u = .slice (some a) len cap := by simpa using hcs
    have hzl : len ≤ zs.length := by rw [hz]; split <;> omega
    have htl : (zs.take len).length = len := by rw [List.length_take]; omega
    have hsz := hs (lits .i64 (zs.take len)) (lits .i64 (zs.drop len)) (by rw [hx])
    have hcl : ∀ i, i < (zs.take len).length → W.cell? (a.add i) = some (.int .i64 ((zs.take len).getD i 0)) := by
      intro i hi
      rw [htl] at hi
      rw [hcell i (by omega)]
      simp [List.getD, List.getElem?_take_of_lt hi]
    have h8 : len * 8 ≤ 140737488351232 := by simp [lits] at hsz; omega
    refine ⟨zs.take len, ⟨some a, cap, by rw [htl], by omega, C_of_cells (by omega) hcl⟩, ?_, fun y hy => hwz y (List.mem_of_mem_take hy), by rw [htl]; exact h8⟩
    by_cases h0 : len = 0
    · subst h0
      exact .inl ⟨_, _, rfl, by simp⟩
    · have hsp : a.spot = none := by
        have := hcl 0 (by omega)
        cases hx : a.spot with
        | none => rfl
        | some s => rw [show a.add 0 = a from rfl] at this; simp [World.cell?, hx] at this; revert this; split <;> simp
      refine .inr ⟨a.block, a.off, cap, by rw [htl, ← hsp], by omega, fun j hj => ?_⟩
      rw [← hcl j hj]
      congr 1
      unfold Addr.add
      split
      · rename_i h; subst h; cases a; simp_all
      · rfl

theorem cellsOf36 : Try.prog.cellsOf 36 = 3 := by kernel_rfl
set_option maxRecDepth 100000 in
theorem schedArg {H : Type} {enc : TypeId × Value → H} {W : World} {base b' : Nat} {spare : Nat → Bool} {held : Bool} {v : Value} {d : DataW H} {ps : List MemPlace} {ts : List TypeId} {ds : List (DataW H)} {j : Nat} {r : Reach}
    (hsz : (DataW.weightsEach Try.prog ts ds).all (· ≤ reachBytes) = true) (hv : Value.okWide Try.prog W r b' 36 v) (h : DataW.Trod enc Try.prog W base spare held 36 v d ps) (ht : ts[j]? = some 36) (hd : ds[j]? = some d) :
    ∃ a b u zs, v = .agg #[.int .i64 a, .int .u64 b, u] ∧ (Lit.int .i64 a).wf = true ∧ (Lit.int .u64 b).wf = true ∧ IntsArg W u zs := by
  obtain ⟨c0, c1, c2, y0, y1, y2, n, rfl, rfl, rfl, h0, h1, h2⟩ := open_agg3 Try.underlying36 (by kernel_rfl) cellsOf36 hv h
  obtain ⟨n0, e0, _, g0⟩ := DataW.trod_int Try.underlying3 h0
  obtain ⟨n1, e1, _, g1⟩ := DataW.trod_int Try.underlying27 h1
  simp at e0 e1
  subst e0 e1
  obtain ⟨zs, hz⟩ := intsCore h2 (fun els spr hx => by
    have z := List.all_eq_true.1 hsz _ (DataW.weights_mem_each ht hd ((els.length + spr.length) * Try.prog.bytesOf 3) (by simp [DataW.weights, DataW.weightsEach, Try.underlying36, Try.underlying22, hx]))
    rw [show Try.prog.bytesOf 3 = 8 by kernel_rfl] at z
    exact of_decide_eq_true z)
  exact ⟨n0, n1, c2, zs, rfl, g0, g1, hz⟩

theorem readyAgain_walk (pol seed : Int) (vp : Value) (ps : List Int) (p2 : Int) (vs : Value) (zs : List (Int × Int)) (w : World) (wp : (Lit.int .i64 pol).wf = true) (ws : (Lit.int .u64 seed).wf = true) (hp : IntsArg w vp ps) (w2 : (Lit.int .i64 p2).wf = true) (hz : ActsArg w vs zs) :
    Calls Try.prog 4 #[.agg #[.int .i64 pol, .int .u64 seed, vp], .int .i64 p2, vs] w fun e w' => e = .returned (.bool true) ∧ Below w.heap.size w w' := by
  have hseed : in64 seed := by
    simp [Lit.wf, IntKind.min, IntKind.max, IntKind.bits, IntKind.signed] at ws
    unfold in64; omega
  obtain ⟨A, c, hvp, hc, hC⟩ := hp.shape
  by_cases hpol : 0 ≤ pol ∧ pol ≤ 4
  · by_cases hl : ps.length ≤ 65536
    · exact readyAgain_good pol seed p2 vp vs ps zs w hpol hseed hp.at_ hl hz w2
    · exact readyAgain_bad pol seed p2 vp vs w (fun u hu => ⟨3, rfl, new_many u pol seed vp ps (hp.at_.below hu) hpol (by omega)⟩) ⟨A, _, c, hvp⟩
  · exact readyAgain_bad pol seed p2 vp vs w (fun u hu => ⟨220, rfl, new_policy u pol seed vp (by omega)⟩) ⟨A, _, c, hvp⟩
end Go.Proofs.Ytljckmiphkoipaa
