/-
  The ready ones: the object as a plain tuple; what each of its small functions does.
-/
import Derived.Test.YtljckmiphkoipaaReady0
namespace Go.Proofs.Ytljckmiphkoipaa
set_option linter.unusedVariables false
set_option linter.unusedSimpArgs false
open Go.RowKit Go.MapKept Go.Maps Go.Proofs.YtljckmiphkoipaaW.PrintWords Go.Proofs.YtljckmiphkoipaaW.PrintLast Go.Proofs.YtljckmiphkoipaaW.PrintMore

/-! ### where the place lies -/
theorem min_mem : ∀ (l : List Int) (a : Int), l.foldl min a = a ∨ l.foldl min a ∈ l
  | [], a => .inl rfl
  | x :: l, a => by
    rw [List.foldl_cons]
    rcases min_mem l (min a x) with h | h
    · rw [h]
      by_cases hx : a ≤ x
      · left; omega
      · right; rw [show min a x = x by omega]; simp
    · right; exact List.mem_cons_of_mem _ h
theorem max_mem : ∀ (l : List Int) (a : Int), l.foldl max a = a ∨ l.foldl max a ∈ l
  | [], a => .inl rfl
  | x :: l, a => by
    rw [List.foldl_cons]
    rcases max_mem l (max a x) with h | h
    · rw [h]
      by_cases hx : x ≤ a
      · left; omega
      · right; rw [show max a x = x by omega]; simp
    · right; exact List.mem_cons_of_mem _ h
theorem minOf_mem {l : List Int} (h : l ≠ []) : Lib.minOf l ∈ l := by
  obtain ⟨a, r, rfl⟩ := List.exists_cons_of_ne_nil h
  unfold Lib.minOf
  rcases min_mem (a :: r) ((a :: r).headD 0) with h | h
  · rw [h]; simp
  · exact h
theorem maxOf_mem {l : List Int} (h : l ≠ []) : Lib.maxOf l ∈ l := by
  obtain ⟨a, r, rfl⟩ := List.exists_cons_of_ne_nil h
  unfold Lib.maxOf
  rcases max_mem (a :: r) ((a :: r).headD 0) with h | h
  · rw [h]; simp
  · exact h
theorem first_of {l : List Int} {x : Int} (h : x ∈ l) : ∃ k, k < l.length ∧ l.getD k 0 = x ∧ ∀ j, j < k → l.getD j 0 ≠ x := by
  induction l with
  | nil => cases h
  | cons a l ih =>
    by_cases ha : a = x
    · exact ⟨0, by simp, by simpa using ha, by omega⟩
    · have hx : x ∈ l := by
        rcases List.mem_cons.1 h with e | e
        · exact absurd e.symm ha
        · exact e
      obtain ⟨k, h1, h2, h3⟩ := ih hx
      refine ⟨k + 1, by simpa using h1, by simpa using h2, fun j hj => ?_⟩
      cases j with
      | zero => simpa using ha
      | succ j => simpa using h3 j (by omega)
theorem idxOf_spec {l : List Int} {x : Int} (h : x ∈ l) : ∃ k : Nat, k < l.length ∧ Lib.idxOf l x = k ∧ l.getD k 0 = x ∧ ∀ j, j < k → l.getD j 0 ≠ x := by
  obtain ⟨k, h1, h2, h3⟩ := first_of h
  have := Lib.idxOf_hit l l.length k x h1 (Nat.le_refl _) h2 h3
  rw [List.take_length] at this
  exact ⟨k, h1, this, h2, h3⟩
theorem placeOf_range {policy lot : Int} {picks told l : List Int} (hpos : 0 < l.length) : 0 ≤ (placeOf policy lot picks told l).1 ∧ (placeOf policy lot picks told l).1 < l.length := by
  have hne : l ≠ [] := fun e => by subst e; simp at hpos
  unfold placeOf
  split
  · have h1 := Int.tmod_lt_of_pos (rd picks told.length) (show (0:Int) < l.length by omega)
    have h2 := Int.lt_tmod_of_pos (rd picks told.length) (show (0:Int) < l.length by omega)
    simp only
    split <;> constructor <;> omega
  split
  · simp only; constructor <;> omega
  split
  · exact partv_range (mixv_range _) (by omega)
  split
  · obtain ⟨k, h1, h2, _⟩ := idxOf_spec (minOf_mem hne)
    simp only; omega
  split
  · obtain ⟨k, h1, h2, _⟩ := idxOf_spec (maxOf_mem hne)
    simp only; omega
  · simp only; constructor <;> omega
theorem placeOf_lot {policy lot : Int} {picks told l : List Int} (h : in64 lot) : in64 (placeOf policy lot picks told l).2 := by
  unfold placeOf
  split
  · exact h
  split
  · exact h
  split
  · exact mixv_range _
  split
  · exact h
  split <;> exact h

/-! ### the object -/
structure RM where
  policy : Int
  lot : Int
  picks : List Int
  told : List Int
  l : List Int

structure ReadyAt (w : World) (base g b : Nat) (v2 v3 : Value) (Q : Nat → Prop) (n : Int) (m : RM) : Prop where
  blk : w.heap[g]? = some (.cells #[.int .i64 m.policy, .int .u64 m.lot, v2, v3, .pointer (some ⟨b + 2, 0, none⟩)] 106 (0, 0))
  turns : IsTurns w b m.l n
  picks : (Kd.int .i64).R 3 w base (fun k => Q k ∧ k ≠ g ∧ ¬ tfoot b k ∧ some k ≠ v3.ownBlock) v2 m.picks
  told : (Kd.int .i64).R 3 w base (fun k => Q k ∧ k ≠ g ∧ ¬ tfoot b k ∧ some k ≠ v2.ownBlock) v3 m.told
  qg : Q g
  qb : ∀ k, tfoot b k → Q k
  bg : ¬ tfoot b g
  base : base ≤ g ∧ base ≤ b
  lot : in64 m.lot
  few : m.picks.length ≤ 65536

/-- A block g of a Ready that stands as m, all of whose blocks are in Q. -/
def IsReady (w : World) (base g : Nat) (Q : Nat → Prop) (n : Int) (m : RM) : Prop := ∃ b v2 v3, ReadyAt w base g b v2 v3 Q n m

section
variable {w w' : World} {base g b : Nat} {v2 v3 : Value} {Q Q' : Nat → Prop} {n : Int} {m : RM}
theorem ReadyAt.only {F : Nat → Prop} (h : ReadyAt w base g b v2 v3 Q n m) (ho : Only F w w') (hF : ∀ k, Q k → ¬ F k) : ReadyAt w' base g b v2 v3 Q n m :=
  ⟨(ho.block _ (blk_lt h.blk) (hF _ h.qg)).trans h.blk, h.turns.only ho (fun i hi => hF _ (h.qb i hi)), R_only h.picks ho (fun k hk => hF _ hk.1), R_only h.told ho (fun k hk => hF _ hk.1), h.qg, h.qb, h.bg, h.base, h.lot, h.few⟩
theorem IsReady.only {F : Nat → Prop} (h : IsReady w base g Q n m) (ho : Only F w w') (hF : ∀ k, Q k → ¬ F k) : IsReady w' base g Q n m := by
  obtain ⟨b, v2, v3, h⟩ := h
  exact ⟨b, v2, v3, h.only ho hF⟩
theorem IsReady.below (h : IsReady w base g Q n m) (hb : Below w.heap.size w w') : IsReady w' base g Q n m := h.only (Only.ofBelow (F := fun _ => False) hb) (fun _ _ h => h)
theorem ReadyAt.mono (h : ReadyAt w base g b v2 v3 Q n m) (hq : ∀ k, Q k → Q' k) : ReadyAt w base g b v2 v3 Q' n m :=
  ⟨h.blk, h.turns, Kd.R_mono h.picks (fun k hk => ⟨hq k hk.1, hk.2⟩), Kd.R_mono h.told (fun k hk => ⟨hq k hk.1, hk.2⟩), hq _ h.qg, fun k hk => hq _ (h.qb k hk), h.bg, h.base, h.lot, h.few⟩
theorem IsReady.mono (h : IsReady w base g Q n m) (hq : ∀ k, Q k → Q' k) : IsReady w base g Q' n m := by
  obtain ⟨b, v2, v3, h⟩ := h
  exact ⟨b, v2, v3, h.mono hq⟩
/-- Its blocks lie below the heap's end. -/
theorem IsReady.tight (h : IsReady w base g Q n m) : IsReady w base g (fun k => Q k ∧ base ≤ k ∧ k < w.heap.size) n m := by
  obtain ⟨b, v2, v3, h⟩ := h
  refine ⟨b, v2, v3, h.blk, h.turns, ?_, ?_, ⟨h.qg, h.base.1, blk_lt h.blk⟩, fun k hk => ⟨h.qb k hk, by have := hk.1; have := h.base.2; omega, by have := h.turns.lt; have := hk.2; omega⟩, h.bg, h.base, h.lot, h.few⟩
  · exact Kd.R_mono (Kd.R_bound h.picks) (fun k hk => ⟨⟨hk.1.1, hk.2.1, hk.2.2.1⟩, hk.1.2⟩)
  · exact Kd.R_mono (Kd.R_bound h.told) (fun k hk => ⟨⟨hk.1.1, hk.2.1, hk.2.2.1⟩, hk.1.2⟩)
theorem IsReady.lt (h : IsReady w base g Q n m) : g < w.heap.size := by obtain ⟨b, v2, v3, h⟩ := h; exact blk_lt h.blk
theorem ReadyAt.blt (h : ReadyAt w base g b v2 v3 Q n m) : b + 2 < w.heap.size := h.turns.lt
end

section
variable (w : World) (base g : Nat) (Q : Nat → Prop) (n x : Int) (m : RM)

theorem wake_nil (x : Int) : Calls Try.prog 14 #[.pointer none, .int .i64 x] w fun e w' => e = .returned (.int .i64 3) ∧ w' = w := by
  go_enter Try.func14, Try.ntmps14
  go_wp2
  go_ret
  exact ⟨rfl, rfl⟩
theorem rest_nil (x : Int) : Calls Try.prog 52 #[.pointer none, .int .i64 x] w fun e w' => e = .returned (.bool false) ∧ w' = w := by
  go_enter Try.func52, Try.ntmps52
  go_wp2
  go_ret
  exact ⟨rfl, rfl⟩
theorem rhas_nil (x : Int) : Calls Try.prog 16 #[.pointer none, .int .i64 x] w fun e w' => e = .returned (.bool false) ∧ w' = w := by
  go_enter Try.func16, Try.ntmps16
  go_wp2
  go_ret
  exact ⟨rfl, rfl⟩
theorem rall_nil : Calls Try.prog 21 #[.pointer none] w fun e w' => e = .returned (.slice none 0 0) ∧ w' = w := by
  go_enter Try.func21, Try.ntmps21
  go_wp2
  go_ret
  exact ⟨rfl, rfl⟩
theorem rlen_nil : Calls Try.prog 58 #[.pointer none] w fun e w' => e = .returned (.int .i64 0) ∧ w' = w := by
  go_enter Try.func58, Try.ntmps58
  go_wp2
  go_ret
  exact ⟨rfl, rfl⟩
theorem rturns_nil : Calls Try.prog 17 #[.pointer none] w fun e w' => e = .returned (.int .i64 0) ∧ w' = w := by
  go_enter Try.func17, Try.ntmps17
  go_wp2
  go_ret
  exact ⟨rfl, rfl⟩
theorem rtold_nil : Calls Try.prog 19 #[.pointer none] w fun e w' => e = .returned (.slice none 0 0) ∧ w' = w := by
  go_enter Try.func19, Try.ntmps19
  go_wp2
  go_ret
  exact ⟨rfl, rfl⟩
theorem rclone_nil : Calls Try.prog 54 #[.pointer none] w fun e w' => e = .returned (.pointer none) ∧ w' = w := by
  go_enter Try.func54, Try.ntmps54
  go_wp2
  go_ret
  exact ⟨rfl, rfl⟩
theorem pick_nil : Calls Try.prog 15 #[.pointer none] w fun e w' => e = .returned (.tuple #[.int .i64 0, .bool false]) ∧ w' = w := by
  have hc := rall_nil w
  go_enter Try.func15, Try.ntmps15
  go_wp2_with (go_at_call 21; refine hc.mono ?_; rintro e w ⟨rfl, rfl⟩)
  go_ret2
  exact ⟨rfl, rfl⟩
theorem peek_nil : Calls Try.prog 57 #[.pointer none] w fun e w' => e = .returned (.tuple #[.int .i64 0, .bool false]) ∧ w' = w := by
  have hc := rall_nil w
  go_enter Try.func57, Try.ntmps57
  go_wp2_with (go_at_call 21; refine hc.mono ?_; rintro e w ⟨rfl, rfl⟩)
  go_ret2
  exact ⟨rfl, rfl⟩

theorem rall_calls (h : IsReady w base g Q n m) (hn : n < 4611686018427387904) : Calls Try.prog 21 #[.pointer (some ⟨g, 0, none⟩)] w fun e w' => ∃ v, e = .returned v ∧ (Kd.int .i64).R 3 w' w.heap.size (fun _ => True) v m.l ∧ Below w.heap.size w w' := by
  obtain ⟨b, v2, v3, h⟩ := h
  have c4 : w.cell? ⟨g, 4, none⟩ = some (.pointer (some ⟨b + 2, 0, none⟩)) := (blk_cell h.blk 4).trans rfl
  have hc := all_calls w b m.l n h.turns hn
  clear h
  go_enter Try.func21, Try.ntmps21
  go_wp2_with (go_at_call 72; refine hc.mono ?_; rintro e w' ⟨v, rfl, hR, hB⟩; replace hR := Aside0.mk hR; replace hB := Aside0.mk hB)
  go_ret
  exact ⟨v, rfl, hR.out, hB.out⟩
theorem rhas_calls (h : IsReady w base g Q n m) (hx : goodI x) : Calls Try.prog 16 #[.pointer (some ⟨g, 0, none⟩), .int .i64 x] w fun e w' => e = .returned (.bool (decide (x ∈ m.l))) ∧ w' = w := by
  obtain ⟨b, v2, v3, h⟩ := h
  have c4 : w.cell? ⟨g, 4, none⟩ = some (.pointer (some ⟨b + 2, 0, none⟩)) := (blk_cell h.blk 4).trans rfl
  have hc := has_calls w b m.l n x h.turns hx
  generalize decide (x ∈ m.l) = r at hc ⊢
  clear h
  go_enter Try.func16, Try.ntmps16
  go_wp2_with (go_at_call 71; refine hc.mono ?_; rintro e w ⟨rfl, rfl⟩)
  go_ret
  exact ⟨rfl, rfl⟩
theorem rlen_calls (h : IsReady w base g Q n m) : Calls Try.prog 58 #[.pointer (some ⟨g, 0, none⟩)] w fun e w' => e = .returned (.int .i64 (m.l.length : Int)) ∧ w' = w := by
  obtain ⟨b, v2, v3, h⟩ := h
  have c4 : w.cell? ⟨g, 4, none⟩ = some (.pointer (some ⟨b + 2, 0, none⟩)) := (blk_cell h.blk 4).trans rfl
  have hc := len_calls w b m.l n h.turns
  generalize (m.l.length : Int) = r at hc ⊢
  clear h
  go_enter Try.func58, Try.ntmps58
  go_wp2_with (go_at_call 76; refine hc.mono ?_; rintro e w ⟨rfl, rfl⟩)
  go_ret
  exact ⟨rfl, rfl⟩
theorem rturns_calls (h : IsReady w base g Q n m) : Calls Try.prog 17 #[.pointer (some ⟨g, 0, none⟩)] w fun e w' => e = .returned (.int .i64 (m.told.length : Int)) ∧ w' = w := by
  obtain ⟨b, v2, v3, h⟩ := h
  obtain ⟨A3, cc3, rfl, _⟩ := Kd.R_reads h.told
  have c3 : w.cell? ⟨g, 3, none⟩ = some (.slice A3 m.told.length cc3) := (blk_cell h.blk 3).trans rfl
  clear h
  go_enter Try.func17, Try.ntmps17
  go_wp2
  go_ret
  exact ⟨rfl, rfl⟩
/-- A slice of ints, wherever it lies. -/
def IntsAt (w : World) (v : Value) (zs : List Int) : Prop :=
  (∃ A c, v = .slice A 0 c ∧ zs = []) ∨ ∃ bb off c, v = .slice (some ⟨bb, off, none⟩) zs.length c ∧ zs.length ≤ c ∧ ∀ j, j < zs.length → w.cell? ⟨bb, off + j, none⟩ = some (.int .i64 (zs.getD j 0))
theorem IntsAt.ofR {w : World} {base : Nat} {ok : Nat → Prop} {v : Value} {zs : List Int} (h : (Kd.int .i64).R 3 w base ok v zs) : IntsAt w v zs := by
  have ho : w.ownsRow base 3 1 v zs.length (encs (Value.int .i64) zs) := Kd.own_of_R h
  rcases ho.2 with ⟨rfl, h0⟩ | ⟨gb, cap, cur, rfl, hg, hb, hn, hcap, hsz, ht⟩
  · exact .inl ⟨none, 0, rfl, List.eq_nil_of_length_eq_zero h0⟩
  · refine .inr ⟨gb, 0, cap, rfl, hn, fun j hj => ?_⟩
    rw [Nat.zero_add, ho.cellAt j (by omega)]
    simp [encs, List.getD, List.getElem?_eq_getElem hj]
/-- A copy of a slice of ints. -/
theorem clone_at {w : World} {v : Value} {zs : List Int} (h : IntsAt w v zs) (hl : zs.length ≤ 17592186044415) :
    Calls Try.prog 69 #[v] w fun e w' => ∃ v', e = .returned v' ∧ (Kd.int .i64).R 3 w' w.heap.size (fun _ => True) v' zs ∧ Below w.heap.size w w' := by
  rcases h with ⟨_ | a, c, rfl, rfl⟩ | ⟨gb, off, cap, rfl, hn, hc⟩
  · refine (Try.slices_Clone_int_nil 0 c w).mono ?_
    rintro e w' ⟨rfl, rfl⟩
    exact ⟨_, rfl, Kd.R_nil _ _ _ _ _, Below.refl _ _⟩
  · refine (Try.slices_Clone_int_zero a c w).mono ?_
    rintro e w' ⟨v', rfl, ho', _, hB⟩
    exact ⟨v', rfl, Kd.R_of_own ho' (fun _ _ => trivial), hB⟩
  · refine (Try.slices_Clone_int gb off zs.length cap zs w (Nat.le_refl _) (by omega) hc).mono ?_
    rintro e w' ⟨v', rfl, ho', _, hB⟩
    rw [List.take_length] at ho'
    exact ⟨v', rfl, Kd.R_of_own ho' (fun _ _ => trivial), hB⟩
theorem clone_calls {w : World} {base : Nat} {ok : Nat → Prop} {v : Value} {zs : List Int} (h : (Kd.int .i64).R 3 w base ok v zs) (hl : zs.length ≤ 17592186044415) :
    Calls Try.prog 69 #[v] w fun e w' => ∃ v', e = .returned v' ∧ (Kd.int .i64).R 3 w' w.heap.size (fun _ => True) v' zs ∧ Below w.heap.size w w' := clone_at (IntsAt.ofR h) hl
theorem rtold_calls (h : IsReady w base g Q n m) (ht : m.told.length ≤ 17592186044415) : Calls Try.prog 19 #[.pointer (some ⟨g, 0, none⟩)] w fun e w' => ∃ v', e = .returned v' ∧ (Kd.int .i64).R 3 w' w.heap.size (fun _ => True) v' m.told ∧ Below w.heap.size w w' := by
  obtain ⟨b, v2, v3, h⟩ := h
  have c3 : w.cell? ⟨g, 3, none⟩ = some v3 := (blk_cell h.blk 3).trans rfl
  have hc := clone_calls h.told ht
  clear h
  go_enter Try.func19, Try.ntmps19
  go_wp2_with (go_at_call 69; refine hc.mono ?_; rintro e w' ⟨v, rfl, hR, hB⟩; replace hR := Aside0.mk hR; replace hB := Aside0.mk hB)
  go_ret
  exact ⟨v, rfl, hR.out, hB.out⟩
end
end Go.Proofs.Ytljckmiphkoipaa
