/-
  The gates: one taken out of a gate's row; Pass, Open, IsOpen.
-/
import Derived.Test.YtljckmiphkoipaaGate2
import Derived.Test.YtljckmiphkoipaaMapRange
namespace Go.Proofs.Ytljckmiphkoipaa
set_option linter.unusedVariables false
set_option linter.unusedSimpArgs false
open Go.RowKit Go.MapKept Go.Maps Go.Proofs.YtljckmiphkoipaaW.PrintWords Go.Proofs.YtljckmiphkoipaaW.PrintLast Go.Proofs.YtljckmiphkoipaaW.PrintMore

/-- Who is taken out of the map is taken out of its gate's row, and of no other. -/
theorem waits_del {wm : List (Int × Int)} (hn : wm.Pairwise (fun p q => p.1 ≠ q.1)) {y x : Int} (h : (y, x) ∈ wm) (k : Nat) :
    waitsAt (adel wm y) k = if x = (k : Int) then (waitsAt wm k).filter (fun z => decide (z ≠ y)) else waitsAt wm k := by
  unfold waitsAt adel
  rw [List.filter_filter]
  by_cases e : x = (k : Int)
  · rw [if_pos e, List.filter_map, List.filter_filter]
    congr 1
    refine List.filter_congr fun p _ => ?_
    simp [Bool.and_comm]
  · rw [if_neg e]
    congr 1
    refine List.filter_congr fun p hp => ?_
    by_cases hk : p.2 = (k : Int)
    · have : p.1 ≠ y := by
        intro e1
        have a1 := aget_of_mem hn (x := y) (v := x) h
        have a2 := aget_of_mem hn (x := p.1) (v := p.2) hp
        rw [e1, a1] at a2
        exact e ((Option.some.inj a2).trans hk)
      simp [hk, this]
    · simp [hk]
theorem mem_waits {wm : List (Int × Int)} {k : Nat} {y : Int} (h : y ∈ waitsAt wm k) : (y, (k : Int)) ∈ wm := by
  unfold waitsAt at h
  obtain ⟨p, hp, rfl⟩ := List.mem_map.1 h
  obtain ⟨h1, h2⟩ := List.mem_filter.1 hp
  have : p.2 = (k : Int) := by simpa using h2
  rw [← this]; exact h1
theorem waits_nodup {wm : List (Int × Int)} (hn : wm.Pairwise (fun p q => p.1 ≠ q.1)) (k : Nat) : (waitsAt wm k).Nodup := by
  unfold waitsAt
  rw [List.nodup_iff_pairwise_ne, List.pairwise_map]
  exact hn.filter _

/-- One is taken out of gate x. -/
theorem GatesAt.gone {w w1 w2 : World} {base g bw b : Nat} {q : Nat → Option Nat} {Q : Nat → Prop} {n : Int} {op : Nat → Bool} {wm : List (Int × Int)} {y : Int} {k0 : Nat} (h : GatesAt w base g bw q Q n op wm) (hk0 : k0 < 256) (hy : (y, (k0 : Int)) ∈ wm)
    (hq : q k0 = some b) (hT : IsTurns w1 b ((waitsAt wm k0).filter (fun z => decide (z ≠ y))) n) (hO : Only (tfoot b) w w1) (hM : MII w2 bw (adel wm y)) (hO2 : Only (fun i => i = bw) w1 w2) :
    GatesAt w2 base g bw q Q n op (adel wm y) := by
  obtain ⟨t1, t2, t3, t4, t5⟩ := h.some_ _ hk0 b hq
  have hnod := h.wh.nodup
  refine ⟨(h.blk.only hO t4).only hO2 h.gw, hM, fun k hk hn => ?_, fun k hk b' hb' => ?_, h.apart, h.qg, h.qw, h.gw, h.base, fun p hp => h.in_ p (List.mem_filter.1 hp).1⟩
  · rw [waits_del hnod hy, if_neg]
    · exact h.none_ k hk hn
    · intro e
      have : k0 = k := by omega
      rw [this, hn] at hq; cases hq
  · obtain ⟨u1, u2, u3, u4, u5⟩ := h.some_ k hk b' hb'
    refine ⟨?_, u2, u3, u4, u5⟩
    rw [waits_del hnod hy]
    by_cases e : (k0 : Int) = (k : Int)
    · have ek : k0 = k := by omega
      rw [if_pos e]
      subst ek
      rw [hq] at hb'; cases hb'
      exact hT.only hO2 (fun i hi e => t5 (e ▸ hi))
    · rw [if_neg e]
      exact (u1.only hO (fun i hi hi' => h.apart k k0 hk hk0 (by omega) b' b hb' hq i hi hi')).only hO2 (fun i hi e => u5 (e ▸ hi))

section
variable (w : World) (base g : Nat) (Q : Nat → Prop) (n : Int) (op : Nat → Bool) (wm : List (Int × Int)) (x y : Int)
theorem isopen_calls (h : IsGates w base g Q n op wm) : Calls Try.prog 37 #[.pointer (some ⟨g, 0, none⟩), .int .i64 x] w fun e w' => e = .returned (.bool (decide (0 ≤ x ∧ x < 256) && op x.toNat)) ∧ w' = w := by
  obtain ⟨bw, q, h⟩ := h
  have hc := gis_calls w x
  by_cases hx : 0 ≤ x ∧ x < 256
  · have co := h.blk.cell_open (k := x.toNat) (by omega)
    have p1 := hx.1
    have q1 := hx.2
    simp only [hx, and_self, decide_true, Bool.true_and] at hc ⊢
    generalize op x.toNat = r at co ⊢
    clear h hx
    replace p1 := eq_true p1
    replace q1 := eq_true q1
    go_enter Try.func37, Try.ntmps37
    go_wp2_with (go_at_call 83; refine hc.mono ?_; rintro e w ⟨rfl, rfl⟩)
    go_ret
    exact ⟨rfl, rfl⟩
  · simp only [hx, decide_false, Bool.false_and] at hc ⊢
    clear h hx
    go_enter Try.func37, Try.ntmps37
    go_wp2_with (go_at_call 83; refine hc.mono ?_; rintro e w ⟨rfl, rfl⟩)
    go_ret
    exact ⟨rfl, rfl⟩
end
end Go.Proofs.Ytljckmiphkoipaa
