/-
  The gates: the object as plain functions; New; nil gates.
-/
import Derived.Test.YtljckmiphkoipaaTurns3
namespace Go.Proofs.Ytljckmiphkoipaa
set_option linter.unusedVariables false
set_option linter.unusedSimpArgs false
open Go.RowKit Go.MapKept Go.Maps Go.Proofs.YtljckmiphkoipaaW.PrintWords Go.Proofs.YtljckmiphkoipaaW.PrintLast Go.Proofs.YtljckmiphkoipaaW.PrintMore

section
variable (w : World)
theorem gis_calls (x : Int) : Calls Try.prog 83 #[.int .i64 x] w fun e w' => e = .returned (.bool (decide (0 ≤ x ∧ x < 256))) ∧ w' = w := by
  by_cases h1 : 0 ≤ x
  · have d1 : decide (0 ≤ x) = true := decide_eq_true h1
    by_cases h2 : x < 256
    · have d2 : decide (x < 256) = true := decide_eq_true h2
      have d3 : decide (0 ≤ x ∧ x < 256) = true := decide_eq_true ⟨h1, h2⟩
      rw [d3]; clear h1 h2 d3
      go_enter Try.func83, Try.ntmps83
      go_wp2
      go_ret
      exact ⟨by first | rfl | simp, rfl⟩
    · have d2 : decide (x < 256) = false := decide_eq_false h2
      have d3 : decide (0 ≤ x ∧ x < 256) = false := decide_eq_false (fun h => h2 h.2)
      rw [d3]; clear h1 h2 d3
      go_enter Try.func83, Try.ntmps83
      go_wp2
      go_ret
      exact ⟨by first | rfl | simp, rfl⟩
  · have d1 : decide (0 ≤ x) = false := decide_eq_false h1
    have d3 : decide (0 ≤ x ∧ x < 256) = false := decide_eq_false (fun h => h1 h.1)
    rw [d3]; clear h1 d3
    go_enter Try.func83, Try.ntmps83
    go_wp2
    go_ret
    exact ⟨by first | rfl | simp, rfl⟩
theorem may_nil (x : Int) : Calls Try.prog 75 #[.pointer none, .int .i64 x] w fun e w' => e = .returned (.int .i64 1) ∧ w' = w := by
  go_enter Try.func75, Try.ntmps75
  go_wp2
  go_ret
  exact ⟨rfl, rfl⟩
theorem may_calls (g : Nat) (x : Int) : Calls Try.prog 75 #[.pointer (some ⟨g, 0, none⟩), .int .i64 x] w fun e w' => e = .returned (.int .i64 (if 0 ≤ x ∧ x < 256 then 0 else 70)) ∧ w' = w := by
  have hc := gis_calls w x
  by_cases h : 0 ≤ x ∧ x < 256
  · simp only [h, and_self, decide_true, if_true] at hc ⊢
    clear h
    go_enter Try.func75, Try.ntmps75
    go_wp2_with (go_at_call 83; refine hc.mono ?_; rintro e w ⟨rfl, rfl⟩)
    go_ret
    exact ⟨rfl, rfl⟩
  · simp only [h, decide_false, if_false] at hc ⊢
    clear h
    go_enter Try.func75, Try.ntmps75
    go_wp2_with (go_at_call 83; refine hc.mono ?_; rintro e w ⟨rfl, rfl⟩)
    go_ret
    exact ⟨rfl, rfl⟩
theorem come_nil (x y : Int) : Calls Try.prog 26 #[.pointer none, .int .i64 x, .int .i64 y] w fun e w' => e = .returned (.tuple #[.bool false, .int .i64 1]) ∧ w' = w := by
  have hc := may_nil w x
  go_enter Try.func26, Try.ntmps26
  go_wp2_with (go_at_call 75; refine hc.mono ?_; rintro e w ⟨rfl, rfl⟩)
  go_ret2
  exact ⟨rfl, rfl⟩
theorem open_nil (x : Int) : Calls Try.prog 25 #[.pointer none, .int .i64 x] w fun e w' => e = .returned (.tuple #[.slice none 0 0, .int .i64 1]) ∧ w' = w := by
  have hc := may_nil w x
  go_enter Try.func25, Try.ntmps25
  go_wp2_with (go_at_call 75; refine hc.mono ?_; rintro e w ⟨rfl, rfl⟩)
  go_ret2
  exact ⟨rfl, rfl⟩
theorem pass_nil (x y : Int) : Calls Try.prog 33 #[.pointer none, .int .i64 x, .int .i64 y] w fun e w' => e = .returned (.tuple #[.slice none 0 0, .int .i64 1]) ∧ w' = w := by
  have hc := may_nil w x
  go_enter Try.func33, Try.ntmps33
  go_wp2_with (go_at_call 75; refine hc.mono ?_; rintro e w ⟨rfl, rfl⟩)
  go_ret2
  exact ⟨rfl, rfl⟩
theorem shut_nil (x : Int) : Calls Try.prog 36 #[.pointer none, .int .i64 x] w fun e w' => e = .returned (.int .i64 1) ∧ w' = w := by
  have hc := may_nil w x
  go_enter Try.func36, Try.ntmps36
  go_wp2_with (go_at_call 75; refine hc.mono ?_; rintro e w ⟨rfl, rfl⟩)
  go_ret
  exact ⟨rfl, rfl⟩
theorem where_nil (x : Int) : Calls Try.prog 35 #[.pointer none, .int .i64 x] w fun e w' => e = .returned (.tuple #[.int .i64 0, .bool false]) ∧ w' = w := by
  go_enter Try.func35, Try.ntmps35
  go_wp2
  go_ret2
  exact ⟨rfl, rfl⟩
theorem leave_nil (x : Int) : Calls Try.prog 34 #[.pointer none, .int .i64 x] w fun e w' => e = .returned (.tuple #[.int .i64 0, .bool false]) ∧ w' = w := by
  have hc := where_nil w x
  go_enter Try.func34, Try.ntmps34
  go_wp2_with (go_at_call 35; refine hc.mono ?_; rintro e w ⟨rfl, rfl⟩)
  go_ret2
  exact ⟨rfl, rfl⟩
theorem isopen_nil (x : Int) : Calls Try.prog 37 #[.pointer none, .int .i64 x] w fun e w' => e = .returned (.bool false) ∧ w' = w := by
  go_enter Try.func37, Try.ntmps37
  go_wp2
  go_ret
  exact ⟨rfl, rfl⟩
theorem waiting_nil (x : Int) : Calls Try.prog 30 #[.pointer none, .int .i64 x] w fun e w' => e = .returned (.slice none 0 0) ∧ w' = w := by
  go_enter Try.func30, Try.ntmps30
  go_wp2
  go_ret
  exact ⟨rfl, rfl⟩
theorem glen_nil : Calls Try.prog 32 #[.pointer none] w fun e w' => e = .returned (.int .i64 0) ∧ w' = w := by
  go_enter Try.func32, Try.ntmps32
  go_wp2
  go_ret
  exact ⟨rfl, rfl⟩
theorem gclone_nil : Calls Try.prog 24 #[.pointer none] w fun e w' => e = .returned (.pointer none) ∧ w' = w := by
  go_enter Try.func24, Try.ntmps24
  go_wp2
  go_ret
  exact ⟨rfl, rfl⟩
end

/-! ### the object -/
/-- A block g of gates: who is open, the turns' pointers, the map of who waits where. -/
structure GateAt (w : World) (g bw : Nat) (op : Nat → Bool) (qv : Nat → Value) : Prop where
  blk : ∃ cs, w.heap[g]? = some (.cells cs 112 (0, 0)) ∧ cs.size = 513 ∧ (∀ k, k < 256 → cs[k]? = some (.bool (op k))) ∧ (∀ k, k < 256 → cs[256 + k]? = some (qv k)) ∧ cs[512]? = some (.map (some bw))
theorem zero_size : Try.zeroCells112.size = 513 := by kernel_rfl
theorem zero_list : Try.zeroCells112.toList = List.replicate 256 (Value.bool false) ++ (List.replicate 256 (Value.pointer none) ++ [.map none]) := by kernel_rfl
theorem zero_lo (k : Nat) (h : k < 256) : Try.zeroCells112[k]? = some (.bool false) := by
  rw [← Array.getElem?_toList, zero_list, List.getElem?_append_left (by rw [List.length_replicate]; exact h), List.getElem?_replicate, if_pos h]
theorem zero_hi (k : Nat) (h : k < 256) : Try.zeroCells112[256 + k]? = some (.pointer none) := by
  rw [← Array.getElem?_toList, zero_list, List.getElem?_append_right (by rw [List.length_replicate]; omega), List.length_replicate, show 256 + k - 256 = k by omega, List.getElem?_append_left (by rw [List.length_replicate]; exact h), List.getElem?_replicate, if_pos h]

theorem gnew_calls (w : World) : Calls Try.prog 22 #[] w fun e w' => e = .returned (.pointer (some ⟨w.heap.size + 1, 0, none⟩)) ∧ GateAt w' (w.heap.size + 1) w.heap.size (fun _ => false) (fun _ => .pointer none) ∧ MII w' w.heap.size [] ∧ Below w.heap.size w w' := by
  have hmm := @run_makeMap Try.prog
  go_enter Try.func22, Try.ntmps22
  go_wp2
  go_ret
  refine ⟨rfl, ⟨Try.zeroCells112.setIfInBounds 512 (.map (some w.heap.size)), ?_, ?_, ?_, ?_, ?_⟩, ?_, (((Below.refl _ _).alloc (Nat.le_refl _) _).alloc (by simp) _)⟩
  · have h := heap_alloc_new (w.alloc (Obj.map #[] 0)) (.cells (Try.zeroCells112.setIfInBounds 512 (.map (some w.heap.size))) 112)
    simpa using h
  · simp [zero_size]
  · intro k hk
    rw [Array.getElem?_setIfInBounds_ne (by omega)]
    exact zero_lo k hk
  · intro k hk
    rw [Array.getElem?_setIfInBounds_ne (by omega)]
    exact zero_hi k hk
  · rw [Array.getElem?_setIfInBounds_self_of_lt (by rw [zero_size]; omega)]
  · exact (IsMap.made (κ := Int) (ν := Int) (Value.int .i64) (Value.int .i64) goodI w).of_block (Below.heap_alloc _ _ _ (by simp))
end Go.Proofs.Ytljckmiphkoipaa
