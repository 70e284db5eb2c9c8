/-
  The gates: the law's awake; nil gates.
-/
import Derived.Test.YtljckmiphkoipaaGate4
import Derived.Test.YtljckmiphkoipaaReady3
namespace Go.Proofs.Ytljckmiphkoipaa
set_option linter.unusedVariables false
set_option linter.unusedSimpArgs false
open Go.RowKit Go.MapKept Go.Maps Go.Proofs.YtljckmiphkoipaaW.PrintWords Go.Proofs.YtljckmiphkoipaaW.PrintLast Go.Proofs.YtljckmiphkoipaaW.PrintMore

section
variable (w : World) (base g : Nat) (Q : Nat → Prop) (n : Int) (op : Nat → Bool) (wm : List (Int × Int)) (x y : Int)
theorem come_wait (h : IsGates w base g Q n op wm) (hx : 0 ≤ x ∧ x < 256) (hy : goodI y) (hm : y ∉ wm.map (·.1)) (ho : op x.toNat = false) (hn : 0 ≤ n ∧ n < 4611686018427387904) (hbase : base ≤ w.heap.size) :
    Calls Try.prog 26 #[.pointer (some ⟨g, 0, none⟩), .int .i64 x, .int .i64 y] w fun e w' => e = .returned (.tuple #[.bool false, .int .i64 (if 65536 ≤ (waitsAt wm x.toNat).length then 3 else 0)]) ∧ IsGates w' base g (fun k => Q k ∨ w.heap.size ≤ k) (n + 1) op (comeM wm x y) ∧ Only Q w w' := by
  obtain ⟨bw, q, h⟩ := h
  cases hq : q x.toNat with
  | none =>
    have hw := h.none_ _ (by omega) hq
    have := come_new w base g Q n op wm x y bw q h hq hx hy hm ho hn hbase
    simp only [comeM, hw, List.length_nil, show ¬ 65536 ≤ 0 by omega, if_false]
    exact this
  | some b =>
    refine (come_old w base g Q n op wm x y bw b q h hq hx hy hm ho hn.2).mono ?_
    rintro e w' ⟨rfl, h1, h2⟩
    exact ⟨rfl, h1.mono (fun k hk => .inl hk), h2⟩
end

set_option maxRecDepth 100000 in
set_option maxHeartbeats 4000000 in
theorem gawake_calls (w : World) : Calls Try.prog 23 #[] w fun e w' => e = .returned (.bool true) ∧ Below w.heap.size w w' := by
  have hnew := isGates_new w
  have e1 : comeM [] 3 7 = [(7, 3)] := by decide
  have e2 : waitsAt [(7, 3)] 3 = [7] := by decide
  have e3 : waitsAt [] 3 = [] := rfl
  have hg7 : goodI 7 := goodI_of (by omega) (by omega)
  go_enter Try.func23, Try.ntmps23
  go_wp2_with (first
    | (go_at_call 22; refine hnew.mono ?_; rintro e w1 ⟨g, rfl, hI, hB⟩; have hcm := come_wait w1 w.heap.size g _ 0 _ [] 3 7 hI ⟨by omega, by omega⟩ hg7 (by simp) rfl ⟨by omega, by omega⟩ hB.size; rw [show (3 : Int).toNat = 3 from rfl, e3, e1] at hcm; simp only [List.length_nil, show ¬ 65536 ≤ 0 by omega, if_false] at hcm; replace hI := Aside0.mk hI; replace hB := Aside0.mk hB)
    | (go_at_call 26; refine hcm.mono ?_; rintro e w2 ⟨rfl, hI2, hO2⟩; have hop := open_calls w2 w.heap.size g _ 1 _ _ 3 hI2 ⟨by omega, by omega⟩ (by omega) (Nat.le_trans hB.out.size hO2.size); rw [show (3 : Int).toNat = 3 from rfl, e2] at hop; replace hI2 := Aside0.mk hI2; replace hO2 := Aside0.mk hO2)
    | (go_at_call 25; refine hop.mono ?_; rintro e w3 ⟨v, rfl, hR3, hI3, hO3⟩; obtain ⟨gb, cc, rfl, _, _, hcl⟩ := R_cells hR3 (by simp); have hx : w3.cell? ⟨gb, 0, none⟩ = some (.int .i64 7) := hcl 0 (by simp); have hio := isopen_calls w3 w.heap.size g _ 1 _ _ 3 hI3; rw [show (3 : Int).toNat = 3 from rfl] at hio; clear hcl; replace hI3 := Aside0.mk hI3; replace hO3 := Aside0.mk hO3; replace hR3 := Aside0.mk hR3)
    | (go_at_call 37; refine hio.mono ?_; rintro e w4 ⟨rfl, rfl⟩))
  go_ret
  refine ⟨by first | rfl | simp, ?_⟩
  have s1 := hB.out.size
  have s2 := hO2.out.size
  exact (hB.out.trans (hO2.out.below s1 (fun i hi h => by omega))).trans (hO3.out.below (Nat.le_trans s1 s2) (fun i hi h => by omega))

set_option maxRecDepth 100000 in
set_option maxHeartbeats 4000000 in
theorem gateNil_walk (a b c d : Int) (w : World) (_wa : (Lit.int .i64 a).wf = true) (_wb : (Lit.int .i64 b).wf = true) (_wc : (Lit.int .i64 c).wf = true) (_wd : (Lit.int .i64 d).wf = true) : Calls Try.prog 6 #[.agg #[.int .i64 a, .int .i64 b, .int .i64 c, .int .i64 d]] w fun e w' => e = .returned (.bool true) ∧ Below w.heap.size w w' := by
  clear _wa _wb _wc _wd
  have hb0 : Below w.heap.size w (w.alloc (.cells #[.int .i64 a, .int .i64 b, .int .i64 c, .int .i64 d] 51)) := (Below.refl _ _).alloc (Nat.le_refl _) _
  have hx0 : (w.alloc (.cells #[.int .i64 a, .int .i64 b, .int .i64 c, .int .i64 d] 51)).heap[w.heap.size]? = some (.cells #[.int .i64 a, .int .i64 b, .int .i64 c, .int .i64 d] 51 (0, 0)) := heap_alloc_new w _
  go_enter Try.func6, Try.ntmps6
  go_upto_region 2 with fail
  obtain ⟨W, hW⟩ : ∃ W, W = w.alloc (.cells #[.int .i64 a, .int .i64 b, .int .i64 c, .int .i64 d] 51) := ⟨_, rfl⟩
  rw [← hW] at hb0 hx0 ⊢
  have c1 : W.cell? ⟨w.heap.size, 1, none⟩ = some (.int .i64 b) := (blk_cell hx0 1).trans rfl
  have c2 : W.cell? ⟨w.heap.size, 2, none⟩ = some (.int .i64 c) := (blk_cell hx0 2).trans rfl
  have c3 : W.cell? ⟨w.heap.size, 3, none⟩ = some (.int .i64 d) := (blk_cell hx0 3).trans rfl
  replace hb0 := Aside0.mk hb0
  replace hx0 := Aside0.mk hx0
  clear hW
  go_wp2_with (first
    | (go_at_call 26; refine (come_nil W _ _).mono ?_; rintro e w' ⟨rfl, rfl⟩)
    | (go_at_call 25; refine (open_nil _ _).mono ?_; rintro e w' ⟨rfl, rfl⟩)
    | (go_at_call 33; refine (pass_nil _ _ _).mono ?_; rintro e w' ⟨rfl, rfl⟩)
    | (go_at_call 34; refine (leave_nil _ _).mono ?_; rintro e w' ⟨rfl, rfl⟩)
    | (go_at_call 35; refine (where_nil _ _).mono ?_; rintro e w' ⟨rfl, rfl⟩)
    | (go_at_call 23; refine (gawake_calls _).mono ?_; rintro e W2 ⟨rfl, hB⟩; have c12 := pw_cell_below hB c1; replace hB := Aside0.mk hB)
    | (go_at_call 36; refine (shut_nil _ _).mono ?_; rintro e w' ⟨rfl, rfl⟩)
    | (go_at_call 37; refine (isopen_nil _ _).mono ?_; rintro e w' ⟨rfl, rfl⟩)
    | (go_at_call 30; refine (waiting_nil _ _).mono ?_; rintro e w' ⟨rfl, rfl⟩)
    | (go_at_call 32; refine (glen_nil _).mono ?_; rintro e w' ⟨rfl, rfl⟩)
    | (go_at_call 24; refine (gclone_nil _).mono ?_; rintro e w' ⟨rfl, rfl⟩))
  go_ret
  exact ⟨by first | rfl | simp, hb0.out.trans (hB.out.mono hb0.out.size)⟩
end Go.Proofs.Ytljckmiphkoipaa
