/-
  The queue by turn: what each of its functions does, over IsTurns.
-/
import Derived.Test.YtljckmiphkoipaaTurns0
import Derived.Test.YtljckmiphkoipaaWMore
import Derived.Test.YtljckmiphkoipaaWLast
import Derived.Tactics
import Derived.Tactics2
import Derived.WalkKit
import Derived.StillTactics
import Derived.OwnWalk
import Derived.BigQuiet
import Derived.Deep.LoopGhost
namespace Go.Proofs.Ytljckmiphkoipaa
set_option linter.unusedVariables false
set_option linter.unusedSimpArgs false
open Go.RowKit Go.MapKept Go.Maps Go.Proofs.YtljckmiphkoipaaW.PrintWords Go.Proofs.YtljckmiphkoipaaW.PrintLast Go.Proofs.YtljckmiphkoipaaW.PrintMore

theorem newTurns_calls (w : World) : Calls Try.prog 38 #[] w fun e w' => ∃ b, e = .returned (.pointer (some ⟨b + 2, 0, none⟩)) ∧ b = w.heap.size ∧ IsTurns w' b [] 0 ∧ Below w.heap.size w w' := by
  have hmm := @run_makeMap Try.prog
  go_enter Try.func38, Try.ntmps38
  go_wp2
  go_ret
  refine ⟨w.heap.size, rfl, rfl, ⟨[], 0, 0, ⟨?_, ?_, ?_⟩, TurnsOk.empty, rfl, Int.le_refl _⟩, ((((Below.refl _ _).alloc (Nat.le_refl _) _).alloc (by simp) _).alloc (by simp; omega) _)⟩
  · have h := heap_alloc_new ((w.alloc (Obj.map #[] 0)).alloc (Obj.map #[] 0)) (.cells #[.map (some w.heap.size), .map (some (w.heap.size + 1)), .int .i64 0, .int .i64 0] 126)
    simpa using h
  · have h := IsMap.made (κ := Int) (ν := Int) (Value.int .i64) (Value.int .i64) goodI w
    exact h.of_block ((Below.heap_alloc _ _ _ (by simp; omega)).trans (Below.heap_alloc _ _ _ (by simp)))
  · have h := IsMap.made (κ := Int) (ν := Int) (Value.int .i64) (Value.int .i64) goodI (w.alloc (Obj.map #[] 0))
    rw [show (w.alloc (Obj.map #[] 0)).heap.size = w.heap.size + 1 by simp] at h
    exact h.of_block (Below.heap_alloc _ _ _ (by simp))

section
variable (w : World) (b : Nat) (l : List Int) (n x : Int)

theorem has_calls (h : IsTurns w b l n) (hx : goodI x) : Calls Try.prog 71 #[.pointer (some ⟨b + 2, 0, none⟩), .int .i64 x] w fun e w' => e = .returned (.bool (decide (x ∈ l))) ∧ w' = w := by
  obtain ⟨L, fr, te, h1, h2, rfl, h4⟩ := h
  have c0 : w.cell? ⟨b + 2, 0, none⟩ = some (.map (some b)) := (blk_cell h1.blk 0).trans rfl
  have hl : ∃ v, (Instr.lookup 109 (.map (some b)) (.int .i64 x) true).run Try.prog w = .ok (.tuple #[v, .bool (decide (x ∈ L.map (·.2)))]) w := by
    by_cases hm : x ∈ L.map (·.2)
    · obtain ⟨t, ht, ha, _⟩ := h2.at_some hm
      exact ⟨_, by simpa [hm] using h1.at_.look_some keyI undII hx ha true⟩
    · exact ⟨_, by simpa [hm] using h1.at_.look_none keyI undII hx (h2.at_none.2 hm) (zeroI _) true⟩
  obtain ⟨v, hl⟩ := hl
  generalize decide (x ∈ L.map (·.2)) = r at hl ⊢
  clear h1 h2
  go_enter Try.func71, Try.ntmps71
  go_wp2
  go_ret
  exact ⟨rfl, rfl⟩
theorem has_nil (x : Int) : Calls Try.prog 71 #[.pointer none, .int .i64 x] w fun e w' => e = .returned (.bool false) ∧ w' = w := by
  go_enter Try.func71, Try.ntmps71
  go_wp2
  go_ret
  exact ⟨rfl, rfl⟩

theorem len_calls (h : IsTurns w b l n) : Calls Try.prog 76 #[.pointer (some ⟨b + 2, 0, none⟩)] w fun e w' => e = .returned (.int .i64 (l.length : Int)) ∧ w' = w := by
  obtain ⟨L, fr, te, h1, h2, rfl, h4⟩ := h
  have c0 : w.cell? ⟨b + 2, 0, none⟩ = some (.map (some b)) := (blk_cell h1.blk 0).trans rfl
  have hl := fun u => h1.at_.run_len undII u
  simp only [List.length_map] at hl ⊢
  generalize (L.length : Int) = r at hl ⊢
  clear h1 h2
  go_enter Try.func76, Try.ntmps76
  go_wp2
  go_ret
  exact ⟨rfl, rfl⟩
theorem len_nil : Calls Try.prog 76 #[.pointer none] w fun e w' => e = .returned (.int .i64 0) ∧ w' = w := by
  go_enter Try.func76, Try.ntmps76
  go_wp2
  go_ret
  exact ⟨rfl, rfl⟩

theorem put_there (h : IsTurns w b l n) (hx : goodI x) (hm : x ∈ l) : Calls Try.prog 47 #[.pointer (some ⟨b + 2, 0, none⟩), .int .i64 x] w fun e w' => e = .returned (.int .i64 40) ∧ w' = w := by
  have hc := has_calls w b l n x h hx
  simp only [hm, decide_true] at hc
  clear h
  go_enter Try.func47, Try.ntmps47
  go_wp2_with (go_at_call 71; refine hc.mono ?_; rintro e w ⟨rfl, rfl⟩)
  go_ret
  exact ⟨rfl, rfl⟩
theorem put_nil (x : Int) : Calls Try.prog 47 #[.pointer none, .int .i64 x] w fun e w' => e = .returned (.int .i64 3) ∧ w' = w := by
  go_enter Try.func47, Try.ntmps47
  go_wp2
  go_ret
  exact ⟨rfl, rfl⟩
theorem put_full (h : IsTurns w b l n) (hx : goodI x) (hm : x ∉ l) (hf : l.length = 65536) : Calls Try.prog 47 #[.pointer (some ⟨b + 2, 0, none⟩), .int .i64 x] w fun e w' => e = .returned (.int .i64 3) ∧ w' = w := by
  have hc := has_calls w b l n x h hx
  simp only [hm, decide_false] at hc
  obtain ⟨L, fr, te, h1, h2, rfl, h4⟩ := h
  have c0 : w.cell? ⟨b + 2, 0, none⟩ = some (.map (some b)) := (blk_cell h1.blk 0).trans rfl
  have hl := fun u => h1.at_.run_len undII u
  simp only [List.length_map] at hl hf
  simp only [hf] at hl
  clear h1 h2 h4
  go_enter Try.func47, Try.ntmps47
  go_wp2_with (go_at_call 71; refine hc.mono ?_; rintro e w ⟨rfl, rfl⟩)
  go_ret
  exact ⟨rfl, rfl⟩
set_option maxRecDepth 100000 in
set_option maxHeartbeats 4000000 in
theorem put_new (h : IsTurns w b l n) (hx : goodI x) (hm : x ∉ l) (hf : l.length < 65536) (hn : n < 4611686018427387904) : Calls Try.prog 47 #[.pointer (some ⟨b + 2, 0, none⟩), .int .i64 x] w fun e w' => e = .returned (.int .i64 0) ∧ IsTurns w' b (l ++ [x]) (n + 1) ∧ Only (tfoot b) w w' := by
  have hc := has_calls w b l n x h hx
  simp only [hm, decide_false] at hc
  obtain ⟨L, fr, te, h1, h2, rfl, h4⟩ := h
  have hlt := h1.lt
  have c0 : w.cell? ⟨b + 2, 0, none⟩ = some (.map (some b)) := (blk_cell h1.blk 0).trans rfl
  have c1 : w.cell? ⟨b + 2, 1, none⟩ = some (.map (some (b + 1))) := (blk_cell h1.blk 1).trans rfl
  have c3 : w.cell? ⟨b + 2, 3, none⟩ = some (.int .i64 te) := (blk_cell h1.blk 3).trans rfl
  have hl := fun u => h1.at_.run_len undII u
  simp only [List.length_map] at hl hf
  have hfull : decide ((65536 : Int) ≤ (L.length : Int)) = false := decide_eq_false (by omega)
  have hte : goodI te := goodI_of (by have := h2.fr0; have := h2.frto; omega) (by omega)
  obtain ⟨p1, p2, p3⟩ := h2.push hm hx hf
  have H := Aside0.mk (And.intro h1 (And.intro h2 (And.intro h4 (And.intro p1 (And.intro p2 (And.intro p3 (And.intro hx (And.intro hte (And.intro hlt hn)))))))))
  clear h1 h2 h4 p1 p2 p3 hx hm hf hte hlt hn
  go_enter Try.func47, Try.ntmps47
  go_wp2_with (go_at_call 71; refine hc.mono ?_; rintro e w ⟨rfl, rfl⟩)
  refine start_ (n := 24) (S := fun w' => w'.cell? ⟨b + 2, 0, none⟩ = some (.map (some b)) ∧ w'.cell? ⟨b + 2, 1, none⟩ = some (.map (some (b + 1))) ∧ w'.cell? ⟨b + 2, 3, none⟩ = some (.int .i64 te)) (ds := []) #[false, false, false, false, false, false, false, false, false, false, false, false, false, false, false, false, false, false, false, false, false, false, false, false] (by kernel_rfl) rfl rfl ⟨c0, c1, c3⟩ (fun hHeld => ?_)
  refine pure_ (i := 0) (N := some 19) (v := ?_) (a' := ?_) #[true, false, false, false, false, false, false, false, false, false, false, false, false, false, false, false, false, false, false, false, false, false, false, false] rfl rfl (by kernel_rfl) (fun _ _ _ h => h) (Or.inl ⟨by rfl, ?_⟩) ?_ ?_
  rotate_left
  · intro w'
    go_simp
    with_reducible rfl
  rotate_left
  · simp only [Act.put, List.setIfInBounds_toArray, List.set_cons_zero, List.set_cons_succ, i64_w, i32_w]
    rfl
  refine pure_ (i := 1) (N := some 20) (v := ?_) (a' := ?_) #[true, true, false, false, false, false, false, false, false, false, false, false, false, false, false, false, false, false, false, false, false, false, false, false] rfl rfl (by kernel_rfl) (fun _ _ _ h => h) (Or.inl ⟨by rfl, ?_⟩) ?_ ?_
  rotate_left
  · intro w'
    go_simp
    with_reducible rfl
  rotate_left
  · simp only [Act.put, List.setIfInBounds_toArray, List.set_cons_zero, List.set_cons_succ, i64_w, i32_w]
    rfl
  refine pure_ (i := 2) (N := some 21) (v := ?_) (a' := ?_) #[true, true, true, false, false, false, false, false, false, false, false, false, false, false, false, false, false, false, false, false, false, false, false, false] rfl rfl (by kernel_rfl) (fun _ _ _ h => h) (Or.inl ⟨by rfl, ?_⟩) ?_ ?_
  rotate_left
  · intro w'
    go_simp
    with_reducible rfl
  rotate_left
  · simp only [Act.put, List.setIfInBounds_toArray, List.set_cons_zero, List.set_cons_succ, i64_w, i32_w]
    rfl
  refine pure_ (i := 4) (N := some 23) (v := ?_) (a' := ?_) #[true, true, true, false, true, false, false, false, false, false, false, false, false, false, false, false, false, false, false, false, false, false, false, false] rfl rfl (by kernel_rfl) (fun _ _ _ h => h) (Or.inl ⟨by rfl, ?_⟩) ?_ ?_
  rotate_left
  · intro w'
    go_simp
    with_reducible rfl
  rotate_left
  · simp only [Act.put, List.setIfInBounds_toArray, List.set_cons_zero, List.set_cons_succ, i64_w, i32_w]
    rfl
  refine pure_ (i := 5) (N := some 24) (v := ?_) (a' := ?_) #[true, true, true, false, true, true, false, false, false, false, false, false, false, false, false, false, false, false, false, false, false, false, false, false] rfl rfl (by kernel_rfl) (fun _ _ _ h => h) (Or.inl ⟨by rfl, ?_⟩) ?_ ?_
  rotate_left
  · intro w'
    go_simp
    with_reducible rfl
  rotate_left
  · simp only [Act.put, List.setIfInBounds_toArray, List.set_cons_zero, List.set_cons_succ, i64_w, i32_w]
    rfl
  refine pure_ (i := 6) (N := some 25) (v := ?_) (a' := ?_) #[true, true, true, false, true, true, true, false, false, false, false, false, false, false, false, false, false, false, false, false, false, false, false, false] rfl rfl (by kernel_rfl) (fun _ _ _ h => h) (Or.inl ⟨by rfl, ?_⟩) ?_ ?_
  rotate_left
  · intro w'
    go_simp
    with_reducible rfl
  rotate_left
  · simp only [Act.put, List.setIfInBounds_toArray, List.set_cons_zero, List.set_cons_succ, i64_w, i32_w]
    rfl
  refine pure_ (i := 7) (N := some 26) (v := ?_) (a' := ?_) #[true, true, true, false, true, true, true, true, false, false, false, false, false, false, false, false, false, false, false, false, false, false, false, false] rfl rfl (by kernel_rfl) (fun _ _ _ h => h) (Or.inl ⟨by rfl, ?_⟩) ?_ ?_
  rotate_left
  · intro w'
    go_simp
    with_reducible rfl
  rotate_left
  · simp only [Act.put, List.setIfInBounds_toArray, List.set_cons_zero, List.set_cons_succ, i64_w, i32_w]
    rfl
  refine pure_ (i := 9) (N := some 28) (v := ?_) (a' := ?_) #[true, true, true, false, true, true, true, true, false, true, false, false, false, false, false, false, false, false, false, false, false, false, false, false] rfl rfl (by kernel_rfl) (fun _ _ _ h => h) (Or.inl ⟨by rfl, ?_⟩) ?_ ?_
  rotate_left
  · intro w'
    go_simp
    with_reducible rfl
  rotate_left
  · simp only [Act.put, List.setIfInBounds_toArray, List.set_cons_zero, List.set_cons_succ, i64_w, i32_w]
    rfl
  refine pure_ (i := 10) (N := some 29) (v := ?_) (a' := ?_) #[true, true, true, false, true, true, true, true, false, true, true, false, false, false, false, false, false, false, false, false, false, false, false, false] rfl rfl (by kernel_rfl) (fun _ _ _ h => h) (Or.inl ⟨by rfl, ?_⟩) ?_ ?_
  rotate_left
  · intro w'
    go_simp
    with_reducible rfl
  rotate_left
  · simp only [Act.put, List.setIfInBounds_toArray, List.set_cons_zero, List.set_cons_succ, i64_w, i32_w]
    rfl
  refine pure_ (i := 11) (N := some 30) (v := ?_) (a' := ?_) #[true, true, true, false, true, true, true, true, false, true, true, true, false, false, false, false, false, false, false, false, false, false, false, false] rfl rfl (by kernel_rfl) (fun _ _ _ h => h) (Or.inl ⟨by rfl, ?_⟩) ?_ ?_
  rotate_left
  · intro w'
    go_simp
    with_reducible rfl
  rotate_left
  · simp only [Act.put, List.setIfInBounds_toArray, List.set_cons_zero, List.set_cons_succ, i64_w, i32_w]
    rfl
  refine pure_ (i := 13) (N := some 32) (v := ?_) (a' := ?_) #[true, true, true, false, true, true, true, true, false, true, true, true, false, true, false, false, false, false, false, false, false, false, false, false] rfl rfl (by kernel_rfl) (fun _ _ _ h => h) (Or.inl ⟨by rfl, ?_⟩) ?_ ?_
  rotate_left
  · intro w'
    go_simp
    with_reducible rfl
  rotate_left
  · simp only [Act.put, List.setIfInBounds_toArray, List.set_cons_zero, List.set_cons_succ, i64_w, i32_w]
    rfl
  refine pure_ (i := 14) (N := some 33) (v := ?_) (a' := ?_) #[true, true, true, false, true, true, true, true, false, true, true, true, false, true, true, false, false, false, false, false, false, false, false, false] rfl rfl (by kernel_rfl) (fun _ _ _ h => h) (Or.inl ⟨by rfl, ?_⟩) ?_ ?_
  rotate_left
  · intro w'
    go_simp
    with_reducible rfl
  rotate_left
  · simp only [Act.put, List.setIfInBounds_toArray, List.set_cons_zero, List.set_cons_succ, i64_w, i32_w]
    rfl
  refine pure_ (i := 15) (N := some 34) (v := ?_) (a' := ?_) #[true, true, true, false, true, true, true, true, false, true, true, true, false, true, true, true, false, false, false, false, false, false, false, false] rfl rfl (by kernel_rfl) (fun _ _ _ h => h) (Or.inl ⟨by rfl, ?_⟩) ?_ ?_
  rotate_left
  · intro w'
    go_simp
    with_reducible rfl
  rotate_left
  · simp only [Act.put, List.setIfInBounds_toArray, List.set_cons_zero, List.set_cons_succ, i64_w, i32_w]
    rfl
  refine pure_ (i := 17) (N := some 36) (v := ?_) (a' := ?_) #[true, true, true, false, true, true, true, true, false, true, true, true, false, true, true, true, false, true, false, false, false, false, false, false] rfl rfl (by kernel_rfl) (fun _ _ _ h => h) (Or.inl ⟨by rfl, ?_⟩) ?_ ?_
  rotate_left
  · intro w'
    go_simp
    with_reducible rfl
  rotate_left
  · simp only [Act.put, List.setIfInBounds_toArray, List.set_cons_zero, List.set_cons_succ, i64_w, i32_w]
    rfl
  refine take_ (i := 3) (N := some 22) (v := ?_) (a' := ?_) #[true, true, true, true, true, true, true, true, false, true, true, true, false, true, true, true, false, true, false, false, false, false, false, false] rfl rfl (by kernel_rfl) (fun _ _ _ h => h) (Or.inl ⟨by rfl, ?_⟩) hHeld ?_ ?_
  rotate_left
  · rintro w' ⟨s0, s1, s2⟩
    go_simp
    with_reducible rfl
  rotate_left
  · simp only [Act.put, List.setIfInBounds_toArray, List.set_cons_zero, List.set_cons_succ, i64_w, i32_w]
    rfl
  refine take_ (i := 8) (N := some 27) (v := ?_) (a' := ?_) #[true, true, true, true, true, true, true, true, true, true, true, true, false, true, true, true, false, true, false, false, false, false, false, false] rfl rfl (by kernel_rfl) (fun _ _ _ h => h) (Or.inl ⟨by rfl, ?_⟩) hHeld ?_ ?_
  rotate_left
  · rintro w' ⟨s0, s1, s2⟩
    go_simp
    with_reducible rfl
  rotate_left
  · simp only [Act.put, List.setIfInBounds_toArray, List.set_cons_zero, List.set_cons_succ, i64_w, i32_w]
    rfl
  refine take_ (i := 12) (N := some 31) (v := ?_) (a' := ?_) #[true, true, true, true, true, true, true, true, true, true, true, true, true, true, true, true, false, true, false, false, false, false, false, false] rfl rfl (by kernel_rfl) (fun _ _ _ h => h) (Or.inl ⟨by rfl, ?_⟩) hHeld ?_ ?_
  rotate_left
  · rintro w' ⟨s0, s1, s2⟩
    go_simp
    with_reducible rfl
  rotate_left
  · simp only [Act.put, List.setIfInBounds_toArray, List.set_cons_zero, List.set_cons_succ, i64_w, i32_w]
    rfl
  refine take_ (i := 16) (N := some 35) (v := ?_) (a' := ?_) #[true, true, true, true, true, true, true, true, true, true, true, true, true, true, true, true, true, true, false, false, false, false, false, false] rfl rfl (by kernel_rfl) (fun _ _ _ h => h) (Or.inl ⟨by rfl, ?_⟩) hHeld ?_ ?_
  rotate_left
  · rintro w' ⟨s0, s1, s2⟩
    go_simp
    with_reducible rfl
  rotate_left
  · simp only [Act.put, List.setIfInBounds_toArray, List.set_cons_zero, List.set_cons_succ, i64_w, i32_w]
    rfl
  refine one_ (i := 18) (N := some 37) #[true, true, true, true, true, true, true, true, true, true, true, true, true, true, true, true, true, true, true, false, false, false, false, false] rfl rfl (by kernel_rfl) (by decide) (fun K hK => ?_)
  obtain ⟨v0, st, w1, hr1, _, _, hh1, ho1, hs1⟩ := (H.out.1.at_.of_block (w' := w.drew) rfl).run_entry keyI undII H.out.2.2.2.2.2.2.1 (zeroI _)
  have K1 : w1.heap[b + 2]? = _ := (ho1.block _ H.out.2.2.2.2.2.2.2.2.1 (by omega)).trans H.out.1.blk
  refine value_ (w1 := w1) (v := .tuple #[v0, .int .i64 (st : Int)]) (by rfl) rfl (by go_simp) ?_
  replace hr1 := Aside0.mk hr1
  replace hs1 := Aside0.mk hs1
  refine hK.out _ _ ⟨(blk_cell K1 0).trans rfl, (blk_cell K1 1).trans rfl, (blk_cell K1 3).trans rfl⟩ (fun hHeld => ?_)
  clear hK K
  refine norm_ (a' := ?_) ?_ ?_
  rotate_left
  · show Act.put _ (some 37) _ = _
    simp only [Act.put, List.setIfInBounds_toArray, List.set_cons_zero, List.set_cons_succ, i64_w, i32_w]
    rfl
  refine pure_ (i := 19) (N := some 38) (v := ?_) (a' := ?_) #[true, true, true, true, true, true, true, true, true, true, true, true, true, true, true, true, true, true, true, true, false, false, false, false] rfl rfl (by kernel_rfl) (fun _ _ _ h => h) (Or.inl ⟨by rfl, ?_⟩) ?_ ?_
  rotate_left
  · intro w'
    go_simp
    with_reducible rfl
  rotate_left
  · simp only [Act.put, List.setIfInBounds_toArray, List.set_cons_zero, List.set_cons_succ, i64_w, i32_w]
    rfl
  refine one_ (i := 20) (N := none) #[true, true, true, true, true, true, true, true, true, true, true, true, true, true, true, true, true, true, true, true, true, false, false, false] rfl rfl (by kernel_rfl) (by decide) (fun K hK => ?_)
  obtain ⟨w2, hr2, hm2, ho2, hs2⟩ := hh1.run_store (P := Try.prog) (t := 109) te
  have K2 : w2.heap[b + 2]? = _ := (ho2.block _ (by rw [hs1.out]; exact H.out.2.2.2.2.2.2.2.2.1) (by omega)).trans K1
  refine skip_ (w1 := w2) (by rfl) rfl (by go_simp) ?_
  replace hr2 := Aside0.mk hr2
  replace hs2 := Aside0.mk hs2
  refine hK.out _ _ ⟨(blk_cell K2 0).trans rfl, (blk_cell K2 1).trans rfl, (blk_cell K2 3).trans rfl⟩ (fun hHeld => ?_)
  clear hK K
  refine one_ (i := 21) (N := some 39) #[true, true, true, true, true, true, true, true, true, true, true, true, true, true, true, true, true, true, true, true, true, true, false, false] rfl rfl (by kernel_rfl) (by decide) (fun K hK => ?_)
  have m2 : MII w2 (b + 1) L := (H.out.1.items.of_block (w' := w.drew) rfl).only (ho1.trans ho2) (by omega)
  obtain ⟨v1, st1, w3, hr3, _, _, hh3, ho3, hs3⟩ := m2.run_entry keyI undII H.out.2.2.2.2.2.2.2.1 (zeroI _)
  have K3 : w3.heap[b + 2]? = _ := (ho3.block _ (by rw [hs2.out, hs1.out]; exact H.out.2.2.2.2.2.2.2.2.1) (by omega)).trans K2
  refine value_ (w1 := w3) (v := .tuple #[v1, .int .i64 (st1 : Int)]) (by rfl) rfl (by go_simp) ?_
  replace hr3 := Aside0.mk hr3
  replace hs3 := Aside0.mk hs3
  refine hK.out _ _ ⟨(blk_cell K3 0).trans rfl, (blk_cell K3 1).trans rfl, (blk_cell K3 3).trans rfl⟩ (fun hHeld => ?_)
  clear hK K
  refine norm_ (a' := ?_) ?_ ?_
  rotate_left
  · show Act.put _ (some 39) _ = _
    simp only [Act.put, List.setIfInBounds_toArray, List.set_cons_zero, List.set_cons_succ, i64_w, i32_w]
    rfl
  refine pure_ (i := 22) (N := some 40) (v := ?_) (a' := ?_) #[true, true, true, true, true, true, true, true, true, true, true, true, true, true, true, true, true, true, true, true, true, true, true, false] rfl rfl (by kernel_rfl) (fun _ _ _ h => h) (Or.inl ⟨by rfl, ?_⟩) ?_ ?_
  rotate_left
  · intro w'
    go_simp
    with_reducible rfl
  rotate_left
  · simp only [Act.put, List.setIfInBounds_toArray, List.set_cons_zero, List.set_cons_succ, i64_w, i32_w]
    rfl
  refine one_ (i := 23) (N := none) #[true, true, true, true, true, true, true, true, true, true, true, true, true, true, true, true, true, true, true, true, true, true, true, true] rfl rfl (by kernel_rfl) (by decide) (fun K hK => ?_)
  obtain ⟨w4, hr4, hm4, ho4, hs4⟩ := hh3.run_store (P := Try.prog) (t := 109) x
  have K4 : w4.heap[b + 2]? = _ := (ho4.block _ (by rw [hs3.out, hs2.out, hs1.out]; exact H.out.2.2.2.2.2.2.2.2.1) (by omega)).trans K3
  refine skip_ (w1 := w4) (by rfl) rfl (by go_simp) ?_
  replace hr4 := Aside0.mk hr4
  replace hs4 := Aside0.mk hs4
  refine hK.out _ _ ⟨(blk_cell K4 0).trans rfl, (blk_cell K4 1).trans rfl, (blk_cell K4 3).trans rfl⟩ (fun hHeld => ?_)
  clear hK K
  refine done_ (by kernel_rfl) ?_
  have c3' : w4.cell? ⟨b + 2, 3, none⟩ = some (.int .i64 te) := (blk_cell K4 3).trans rfl
  have f3' := blk_frozen K4 3
  go_wp2
  go_ret
  obtain ⟨h1, h2, h4, p1, p2, p3, hx, hte, hlt, hn⟩ := H.out
  have hwb : -9223372036854775808 ≤ te + 1 ∧ te + 1 ≤ 9223372036854775807 := by
    have := h2.fr0
    have := h2.frto
    omega
  have hw : IntKind.i64.wrap (te + 1) = te + 1 := by rw [i64_w]; exact w64 _ hwb
  have hT : ∀ i, tfoot b i → b ≤ i ∧ i ≤ b + 2 := fun _ h => h
  have o2 : Only (fun i => i = b) w w2 := (show Only (fun i => i = b) w w1 from ⟨ho1.os, ho1.tape, ho1.output, ho1.size, ho1.block⟩).trans ho2
  have o4 : Only (fun i => i = b + 1) w2 w4 := ho3.trans ho4
  refine ⟨rfl, ⟨L ++ [(te, x)], fr, te + 1, ⟨?_, ?_, ?_⟩, p1, by simp, by omega⟩, ?_⟩
  · exact blk_put K4 3 _ (by simp [hw, w64 _ hwb])
  · rw [← p2]
    exact (hm2.only o4 (by omega)).of_block (Below.heap_setCell _ _ _ _ (by simp))
  · rw [← p3]
    exact hm4.of_block (Below.heap_setCell _ _ _ _ (by simp))
  · exact ((o2.mono (G := tfoot b) (fun i _ e => ⟨by omega, by omega⟩)).then (o4.mono (G := tfoot b) (fun i _ e => ⟨by omega, by omega⟩)) (fun _ _ h => h)).setCell (fun _ => ⟨by simp, by simp⟩) _

theorem drop_not (h : IsTurns w b l n) (hx : goodI x) (hm : x ∉ l) : Calls Try.prog 44 #[.pointer (some ⟨b + 2, 0, none⟩), .int .i64 x] w fun e w' => e = .returned (.bool false) ∧ w' = w := by
  have hc := has_calls w b l n x h hx
  simp only [hm, decide_false] at hc
  clear h
  go_enter Try.func44, Try.ntmps44
  go_wp2_with (go_at_call 71; refine hc.mono ?_; rintro e w ⟨rfl, rfl⟩)
  go_ret
  exact ⟨rfl, rfl⟩
theorem drop_nil (x : Int) : Calls Try.prog 44 #[.pointer none, .int .i64 x] w fun e w' => e = .returned (.bool false) ∧ w' = w := by
  have hc := has_nil w x
  go_enter Try.func44, Try.ntmps44
  go_wp2_with (go_at_call 71; refine hc.mono ?_; rintro e w ⟨rfl, rfl⟩)
  go_ret
  exact ⟨rfl, rfl⟩
set_option maxRecDepth 100000 in
set_option maxHeartbeats 4000000 in
theorem drop_in (h : IsTurns w b l n) (hx : goodI x) (hm : x ∈ l) : Calls Try.prog 44 #[.pointer (some ⟨b + 2, 0, none⟩), .int .i64 x] w fun e w' => e = .returned (.bool true) ∧ IsTurns w' b (l.filter (fun y => decide (y ≠ x))) n ∧ Only (tfoot b) w w' := by
  have hc := has_calls w b l n x h hx
  simp only [hm, decide_true] at hc
  obtain ⟨L, fr, te, h1, h2, rfl, h4⟩ := h
  have hlt := h1.lt
  have c0 : w.cell? ⟨b + 2, 0, none⟩ = some (.map (some b)) := (blk_cell h1.blk 0).trans rfl
  have c1 : w.cell? ⟨b + 2, 1, none⟩ = some (.map (some (b + 1))) := (blk_cell h1.blk 1).trans rfl
  obtain ⟨t, ht, ha, ht0, ht1⟩ := h2.at_some hm
  have hgt : goodI t := by
    have := h1.items.goods _ ht
    exact this
  obtain ⟨p1, p2, p3⟩ := h2.drop ht
  have hl : (Instr.lookup 109 (.map (some b)) (.int .i64 x) false).run Try.prog w.drew = .ok (.int .i64 t) w.drew := by simpa using (h1.at_.of_block (w' := w.drew) rfl).look_some keyI undII hx ha false
  have H := Aside0.mk (And.intro h1 (And.intro h4 (And.intro p1 (And.intro p2 (And.intro p3 (And.intro hx (And.intro hgt hlt)))))))
  clear h1 h2 h4 p1 p2 p3 hx hm hgt hlt ht ha ht0 ht1
  go_enter Try.func44, Try.ntmps44
  go_wp2_with (go_at_call 71; refine hc.mono ?_; rintro e w ⟨rfl, rfl⟩)
  refine start_ (n := 11) (S := fun w' => w'.cell? ⟨b + 2, 0, none⟩ = some (.map (some b)) ∧ w'.cell? ⟨b + 2, 1, none⟩ = some (.map (some (b + 1))) ∧ (Instr.lookup 109 (.map (some b)) (.int .i64 x) false).run Try.prog w' = .ok (.int .i64 t) w') (ds := [10]) #[false, false, false, false, false, false, false, false, false, false, false] (by kernel_rfl) rfl rfl ⟨c0, c1, hl⟩ (fun hHeld => ?_)
  refine pure_ (i := 0) (N := some 9) (v := ?_) (a' := ?_) #[true, false, false, false, false, false, false, false, false, false, false] rfl rfl (by kernel_rfl) (fun _ _ _ h => h) (Or.inl ⟨by rfl, ?_⟩) ?_ ?_
  rotate_left
  · intro w'
    go_simp
    with_reducible rfl
  rotate_left
  · simp only [Act.put, List.setIfInBounds_toArray, List.set_cons_zero, List.set_cons_succ, i64_w, i32_w]
    rfl
  refine pure_ (i := 1) (N := some 10) (v := ?_) (a' := ?_) #[true, true, false, false, false, false, false, false, false, false, false] rfl rfl (by kernel_rfl) (fun _ _ _ h => h) (Or.inl ⟨by rfl, ?_⟩) ?_ ?_
  rotate_left
  · intro w'
    go_simp
    with_reducible rfl
  rotate_left
  · simp only [Act.put, List.setIfInBounds_toArray, List.set_cons_zero, List.set_cons_succ, i64_w, i32_w]
    rfl
  refine pure_ (i := 2) (N := some 11) (v := ?_) (a' := ?_) #[true, true, true, false, false, false, false, false, false, false, false] rfl rfl (by kernel_rfl) (fun _ _ _ h => h) (Or.inl ⟨by rfl, ?_⟩) ?_ ?_
  rotate_left
  · intro w'
    go_simp
    with_reducible rfl
  rotate_left
  · simp only [Act.put, List.setIfInBounds_toArray, List.set_cons_zero, List.set_cons_succ, i64_w, i32_w]
    rfl
  refine pure_ (i := 4) (N := some 13) (v := ?_) (a' := ?_) #[true, true, true, false, true, false, false, false, false, false, false] rfl rfl (by kernel_rfl) (fun _ _ _ h => h) (Or.inl ⟨by rfl, ?_⟩) ?_ ?_
  rotate_left
  · intro w'
    go_simp
    with_reducible rfl
  rotate_left
  · simp only [Act.put, List.setIfInBounds_toArray, List.set_cons_zero, List.set_cons_succ, i64_w, i32_w]
    rfl
  refine pure_ (i := 5) (N := some 14) (v := ?_) (a' := ?_) #[true, true, true, false, true, true, false, false, false, false, false] rfl rfl (by kernel_rfl) (fun _ _ _ h => h) (Or.inl ⟨by rfl, ?_⟩) ?_ ?_
  rotate_left
  · intro w'
    go_simp
    with_reducible rfl
  rotate_left
  · simp only [Act.put, List.setIfInBounds_toArray, List.set_cons_zero, List.set_cons_succ, i64_w, i32_w]
    rfl
  refine pure_ (i := 6) (N := some 15) (v := ?_) (a' := ?_) #[true, true, true, false, true, true, true, false, false, false, false] rfl rfl (by kernel_rfl) (fun _ _ _ h => h) (Or.inl ⟨by rfl, ?_⟩) ?_ ?_
  rotate_left
  · intro w'
    go_simp
    with_reducible rfl
  rotate_left
  · simp only [Act.put, List.setIfInBounds_toArray, List.set_cons_zero, List.set_cons_succ, i64_w, i32_w]
    rfl
  refine pure_ (i := 8) (N := some 17) (v := ?_) (a' := ?_) #[true, true, true, false, true, true, true, false, true, false, false] rfl rfl (by kernel_rfl) (fun _ _ _ h => h) (Or.inl ⟨by rfl, ?_⟩) ?_ ?_
  rotate_left
  · intro w'
    go_simp
    with_reducible rfl
  rotate_left
  · simp only [Act.put, List.setIfInBounds_toArray, List.set_cons_zero, List.set_cons_succ, i64_w, i32_w]
    rfl
  refine take_ (i := 3) (N := some 12) (v := ?_) (a' := ?_) #[true, true, true, true, true, true, true, false, true, false, false] rfl rfl (by kernel_rfl) (fun _ _ _ h => h) (Or.inl ⟨by rfl, ?_⟩) hHeld ?_ ?_
  rotate_left
  · rintro w' ⟨s0, s1, s2⟩
    go_simp
    with_reducible rfl
  rotate_left
  · simp only [Act.put, List.setIfInBounds_toArray, List.set_cons_zero, List.set_cons_succ, i64_w, i32_w]
    rfl
  refine take_ (i := 7) (N := some 16) (v := ?_) (a' := ?_) #[true, true, true, true, true, true, true, true, true, false, false] rfl rfl (by kernel_rfl) (fun _ _ _ h => h) (Or.inl ⟨by rfl, ?_⟩) hHeld ?_ ?_
  rotate_left
  · rintro w' ⟨s0, s1, s2⟩
    go_simp
    with_reducible rfl
  rotate_left
  · simp only [Act.put, List.setIfInBounds_toArray, List.set_cons_zero, List.set_cons_succ, i64_w, i32_w]
    rfl
  refine take_ (i := 9) (N := some 18) (v := ?_) (a' := ?_) #[true, true, true, true, true, true, true, true, true, true, false] rfl rfl (by kernel_rfl) (fun _ _ _ h => h) (Or.inl ⟨by rfl, ?_⟩) hHeld ?_ ?_
  rotate_left
  · rintro w' ⟨s0, s1, s2⟩
    go_simp
    with_reducible rfl
  rotate_left
  · simp only [Act.put, List.setIfInBounds_toArray, List.set_cons_zero, List.set_cons_succ, i64_w, i32_w]
    rfl
  refine last_ (i := 10) (N := none) #[true, true, true, true, true, true, true, true, true, true, true] rfl rfl (by kernel_rfl) (by decide) (fun K hK => ?_)
  obtain ⟨w1, hr1, hm1, ho1, hs1⟩ := (H.out.1.items.of_block (w' := w.drew) rfl).run_delete keyI undII H.out.2.2.2.2.2.2.1 3 0
  refine value_ (w1 := w1) (v := .tuple #[]) (by rfl) rfl (by go_simp) ?_
  replace hr1 := Aside0.mk hr1
  replace hs1 := Aside0.mk hs1
  refine hK.out _ _ ?_
  clear hK K
  refine done_ (by kernel_rfl) ?_
  have K1 : w1.heap[b + 2]? = _ := (ho1.block _ H.out.2.2.2.2.2.2.2 (by omega)).trans H.out.1.blk
  have c0' : w1.cell? ⟨b + 2, 0, none⟩ = some (.map (some b)) := (blk_cell K1 0).trans rfl
  have m1 : MII w1 b (L.map sw) := (H.out.1.at_.of_block (w' := w.drew) rfl).only ho1 (by omega)
  obtain ⟨w2, hr2, hm2, ho2, hs2⟩ := m1.run_delete keyI undII H.out.2.2.2.2.2.1 3 0
  go_wp2
  go_ret
  obtain ⟨h1, h4, p1, p2, p3, hx, hgt, hlt⟩ := H.out
  have o1 : Only (fun i => i = b + 1) w w1 := ⟨ho1.os, ho1.tape, ho1.output, ho1.size, ho1.block⟩
  refine ⟨rfl, ⟨adel L t, fr, te, ⟨?_, ?_, ?_⟩, p1, p3, h4⟩, ?_⟩
  · exact (ho2.block _ (by have := o1.size; omega) (by omega)).trans K1
  · rw [← p2]; exact hm2
  · exact hm1.only ho2 (by omega)
  · exact (o1.mono (G := tfoot b) (fun i _ e => ⟨by omega, by omega⟩)).then (ho2.mono (G := tfoot b) (fun i _ e => ⟨by omega, by omega⟩)) (fun _ _ h => h)

end
end Go.Proofs.Ytljckmiphkoipaa
