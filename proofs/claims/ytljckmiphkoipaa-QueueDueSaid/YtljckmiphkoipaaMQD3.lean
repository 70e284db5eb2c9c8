/- Texts of one family in one file: FlatRow, SortG. -/
import Derived.Test.YtljckmiphkoipaaMapRange
import Derived.Test.YtljckmiphkoipaaWMore
import Derived.Shelf.GgSortFunc.RowK
import Derived.Shelf.GgSortFunc.InsertionK
/-
  Rows whose elements are aggregates of k plain cells: one's own; read, set, cut short, swapped, sorted.
-/
namespace Go.Proofs.Ytljckmiphkoipaa
set_option linter.unusedVariables false
set_option linter.unusedSimpArgs false
open Go.RowKit Go.MapKept Go.Maps Go.Proofs.YtljckmiphkoipaaW.PrintWords

section
variable {α : Type} {enc : α → List Value} {k : Nat}

/-- Elements of k plain cells. -/
def flatKd (enc : α → List Value) (k : Nat) (hk : ∀ x, (enc x).length = k) (h1 : ∀ x, ∀ u ∈ enc x, u.oneCell' = true) : Kd α where
  sz := k
  E := []
  K := fun _ x cs => cs = enc x
  M := fun _ _ _ x cs => cs = enc x
  K_len := fun h => by rw [h]; exact hk _
  K_one := fun h u hu => by rw [h] at hu; exact h1 _ u hu
  K_below := fun _ h => h
  K_of_M := fun h => h
  M_mono := fun _ h => h
  M_bound := fun h => h
  M_move := fun _ h => h
  M_lower := fun _ h => h

theorem flat_get (hk : ∀ x, (enc x).length = k) : ∀ (xs : List α) (i j : Nat), j < k → (xs.flatMap enc)[i * k + j]? = (xs[i]?).bind (fun x => (enc x)[j]?)
  | [], i, j, hj => by simp
  | x :: xs, 0, j, hj => by
    rw [List.flatMap_cons, List.getElem?_append_left (by rw [hk]; omega)]
    simp
  | x :: xs, i + 1, j, hj => by
    rw [List.flatMap_cons, List.getElem?_append_right (by rw [hk, Nat.add_mul]; omega), hk, show (i + 1) * k + j - k = i * k + j by rw [Nat.add_mul]; omega, flat_get hk xs i j hj]
    simp
theorem flat_len (hk : ∀ x, (enc x).length = k) (xs : List α) : (xs.flatMap enc).length = xs.length * k := by
  induction xs with
  | nil => simp
  | cons x xs ih => rw [List.flatMap_cons, List.length_append, hk, ih, List.length_cons, Nat.add_mul]; omega
theorem flat_reps (hk : ∀ x, (enc x).length = k) : ∀ (xs : List α), Reps (fun x cs => cs = enc x) k xs (xs.flatMap enc) := by
  intro xs
  refine ⟨flat_len hk xs, fun j p hj => ?_⟩
  induction xs generalizing j with
  | nil => simp at hj
  | cons x xs ih =>
    cases j with
    | zero =>
      simp at hj
      subst hj
      rw [Nat.zero_mul, List.drop_zero, List.flatMap_cons, ← hk x, List.take_left]
    | succ j =>
      rw [List.flatMap_cons, show (j + 1) * k = k + j * k by rw [Nat.add_mul]; omega, ← List.drop_drop, ← hk x, List.drop_left, hk x]
      exact ih j (by simpa using hj)
theorem reps_flat (hk : ∀ x, (enc x).length = k) : ∀ {xs : List α} {cs : List Value}, Reps (fun x cs => cs = enc x) k xs cs → cs = xs.flatMap enc
  | [], cs, h => by have := h.1; simp at this; simp [this]
  | x :: xs, cs, h => by
    have h0 := h.2 0 x rfl
    simp at h0
    have h1 : Reps (fun x cs => cs = enc x) k xs (cs.drop k) := by
      refine ⟨by rw [List.length_drop, h.1, List.length_cons, Nat.add_mul]; omega, fun j p hj => ?_⟩
      have := h.2 (j + 1) p (by simpa using hj)
      rw [List.drop_drop]
      rw [show k + j * k = (j + 1) * k by rw [Nat.add_mul]; omega]
      exact this
    rw [List.flatMap_cons, ← reps_flat hk h1, ← h0, List.take_append_drop]

variable {hk : ∀ x, (enc x).length = k} {h1 : ∀ x, ∀ u ∈ enc x, u.oneCell' = true} {e : Nat} {w w' : World} {base : Nat} {ok : Nat → Prop} {v : Value} {xs ys : List α}
theorem flat_of_own (ho : w.ownsRow base e k v xs.length (xs.flatMap enc)) (hok : ∀ g, v.ownBlock = some g → ok g) : (flatKd enc k hk h1).R e w base ok v xs := ⟨hok, _, ho, flat_reps hk xs⟩
theorem own_of_flat (h : (flatKd enc k hk h1).R e w base ok v xs) : w.ownsRow base e k v xs.length (xs.flatMap enc) := by
  obtain ⟨_, inner, ho, hr⟩ := h
  rw [← reps_flat hk hr]
  exact ho

/-- The block of a row that isn't nil: each element's cells. -/
structure FlatAt (enc : α → List Value) (k e : Nat) (w : World) (g cap : Nat) (cur : Array Value) (xs : List α) : Prop where
  blk : w.heap[g]? = some (.cells cur e (0, 0))
  size : cur.size = cap * k
  le : xs.length ≤ cap
  get : ∀ i x, xs[i]? = some x → ∀ j, j < k → cur[i * k + j]? = (enc x)[j]?

theorem flat_form (h : (flatKd enc k hk h1).R e w base ok v xs) (hne : xs ≠ []) : ∃ g cap cur, v = .slice (some ⟨g, 0, none⟩) xs.length cap ∧ base ≤ g ∧ ok g ∧ cap ≤ maxLen ∧ FlatAt enc k e w g cap cur xs := by
  have ho := own_of_flat h
  rcases ho.2 with ⟨rfl, h0⟩ | ⟨g, cap, cur, rfl, hg, hb, hn, hcap, hsz, ht⟩
  · exact absurd (List.eq_nil_of_length_eq_zero h0) hne
  · refine ⟨g, cap, cur, rfl, hg, h.1 g rfl, hcap, hb, hsz, hn, fun i x hx j hj => ?_⟩
    have hi : i < xs.length := (List.getElem?_eq_some_iff.1 hx).1
    have h2 : i * k + j < xs.length * k := by
      have : (i + 1) * k ≤ xs.length * k := Nat.mul_le_mul_right _ hi
      rw [Nat.add_mul] at this; omega
    have h3 := flat_get hk xs i j hj
    rw [← ht, List.getElem?_take_of_lt h2, hx] at h3
    simpa using h3
theorem FlatAt.cell (hk : ∀ x, (enc x).length = k) {g cap : Nat} {cur : Array Value} (h : FlatAt enc k e w g cap cur xs) {i : Nat} {x : α} (hx : xs[i]? = some x) {j : Nat} {u : Value} (hj : (enc x)[j]? = some u) : w.cell? ⟨g, i * k + j, none⟩ = some u := by
  rw [blk_cell h.blk, h.get i x hx j (by rw [← hk x]; exact (List.getElem?_eq_some_iff.1 hj).1)]
  exact hj
/-- Back into a row. -/
theorem FlatAt.row {g cap : Nat} {cur : Array Value} (h : FlatAt enc k e w g cap cur xs) (hb : base ≤ g) (hc : cap ≤ maxLen) (hok : ok g) : (flatKd enc k hk h1).R e w base ok (.slice (some ⟨g, 0, none⟩) xs.length cap) xs := by
  refine flat_of_own ⟨flat_len hk xs, .inr ⟨g, cap, cur, rfl, hb, h.blk, h.le, hc, h.size, ?_⟩⟩ (fun k hk => by simp [Value.ownBlock] at hk; subst hk; exact hok)
  have hle : xs.length * k ≤ cur.size := by rw [h.size]; exact Nat.mul_le_mul_right _ h.le
  apply List.ext_getElem?
  intro n
  by_cases hn : n < xs.length * k
  · have k0 : 0 < k := by
      rcases Nat.eq_zero_or_pos k with h | h
      · subst h; simp at hn
      · exact h
    rw [List.getElem?_take_of_lt hn]
    have e1 : n = n / k * k + n % k := by rw [Nat.mul_comm]; exact (Nat.div_add_mod n k).symm
    have e2 : n / k < xs.length := by rw [Nat.div_lt_iff_lt_mul k0]; exact hn
    have e3 : xs[n / k]? = some xs[n / k] := List.getElem?_eq_getElem e2
    rw [e1, flat_get hk xs _ _ (Nat.mod_lt _ k0), e3]
    have := h.get _ _ e3 _ (Nat.mod_lt n k0)
    simpa using this
  · rw [List.getElem?_eq_none (by rw [List.length_take]; omega), List.getElem?_eq_none (by rw [flat_len hk]; omega)]
theorem FlatAt.only {F : Nat → Prop} {g cap : Nat} {cur : Array Value} (h : FlatAt enc k e w g cap cur xs) (ho : Only F w w') (hF : ¬ F g) : FlatAt enc k e w' g cap cur xs := ⟨(ho.block _ (blk_lt h.blk) hF).trans h.blk, h.size, h.le, h.get⟩
theorem FlatAt.take {g cap : Nat} {cur : Array Value} (h : FlatAt enc k e w g cap cur xs) (n : Nat) : FlatAt enc k e w g cap cur (xs.take n) :=
  ⟨h.blk, h.size, by have := h.le; rw [List.length_take]; omega, fun i x hx j hj => h.get i x (by
    have hi : i < (xs.take n).length := (List.getElem?_eq_some_iff.1 hx).1
    rw [List.length_take] at hi
    rw [List.getElem?_take_of_lt (by omega)] at hx
    exact hx) j hj⟩
/-- One element's cells are laid anew. -/
theorem FlatAt.set {g cap : Nat} {cur cur' : Array Value} (h : FlatAt enc k e w g cap cur xs) {i : Nat} {x : α} (hi : i < xs.length) (hb : w'.heap[g]? = some (.cells cur' e (0, 0))) (hs : cur'.size = cur.size)
    (hin : ∀ j, j < k → cur'[i * k + j]? = (enc x)[j]?) (hout : ∀ n, (n < i * k ∨ i * k + k ≤ n) → cur'[n]? = cur[n]?) : FlatAt enc k e w' g cap cur' (xs.set i x) := by
  refine ⟨hb, hs.trans h.size, by rw [List.length_set]; exact h.le, fun i' y hy j hj => ?_⟩
  by_cases he : i' = i
  · subst he
    rw [List.getElem?_set_self hi] at hy
    cases hy
    exact hin j hj
  · rw [List.getElem?_set_ne (Ne.symm he)] at hy
    rw [hout _ ?_]
    · exact h.get i' y hy j hj
    · rcases Nat.lt_or_ge i' i with hl | hl
      · left
        have : (i' + 1) * k ≤ i * k := Nat.mul_le_mul_right _ hl
        rw [Nat.add_mul] at this; omega
      · right
        have : (i + 1) * k ≤ i' * k := Nat.mul_le_mul_right _ (by omega)
        rw [Nat.add_mul] at this; omega
end
/-- Three cells laid. -/
theorem FlatAt.set3 {α : Type} {enc : α → List Value} {e : Nat} {w : World} {g cap : Nat} {cur : Array Value} {xs : List α} (h : FlatAt enc 3 e w g cap cur xs) {i : Nat} {x : α} (hi : i < xs.length) {a b c : Value} (hx : enc x = [a, b, c]) :
    ∃ cur', FlatAt enc 3 e (((w.setCell ⟨g, i * 3, none⟩ a).setCell ⟨g, i * 3 + 1, none⟩ b).setCell ⟨g, i * 3 + 2, none⟩ c) g cap cur' (xs.set i x) := by
  have hlt : i * 3 + 3 ≤ cur.size := by rw [h.size]; have := h.le; omega
  have b1 := blk_put h.blk (i * 3) a rfl
  have b2 := blk_put b1 (i * 3 + 1) b rfl
  have b3 := blk_put b2 (i * 3 + 2) c rfl
  refine ⟨_, h.set hi b3 (by simp) (fun j hj => ?_) (fun n hn => ?_)⟩
  · rw [hx]
    match j, hj with
    | 0, _ => simp [Array.getElem?_setIfInBounds]; omega
    | 1, _ => simp [Array.getElem?_setIfInBounds]; omega
    | 2, _ => simp [Array.getElem?_setIfInBounds]; omega
  · simp [Array.getElem?_setIfInBounds]
    rw [if_neg (by omega), if_neg (by omega), if_neg (by omega)]
end Go.Proofs.Ytljckmiphkoipaa

/-
  A row of one's own whose elements are aggregates of k plain cells, as the library's sorts hold it.
-/
namespace Go.Proofs.Ytljckmiphkoipaa
set_option linter.unusedVariables false
set_option linter.unusedSimpArgs false
open Go.RowKit Go.MapKept Go.Maps Go.Proofs.YtljckmiphkoipaaW.PrintWords

section
variable {α : Type} [Inhabited α] {enc : α → List Value} {k e : Nat} {w : World} {g cap : Nat} {cur : Array Value} {xs ys : List α}
theorem flat_at (hk : ∀ x, (enc x).length = k) (xs : List α) {t : Nat} (ht : t < xs.length * k) : ∃ x, xs[t / k]? = some x ∧ t % k < k ∧ (Go.Sort.flatK enc k xs.toArray)[t]! = (enc x)[t % k]! ∧ (enc x)[t % k]? = some (enc x)[t % k]! := by
  have k0 : 0 < k := by
    rcases Nat.eq_zero_or_pos k with h | h
    · subst h; simp at ht
    · exact h
  have h1 : t / k < xs.length := by rw [Nat.div_lt_iff_lt_mul k0]; exact ht
  have h2 : t % k < k := Nat.mod_lt _ k0
  refine ⟨xs[t / k], List.getElem?_eq_getElem h1, h2, ?_, ?_⟩
  · rw [Go.Sort.get_flatK _ _ _ _ (by simpa using ht)]
    simp [h1]
  · rw [getElem?_pos _ _ (by rw [hk]; exact h2), getElem!_pos _ _ (by rw [hk]; exact h2)]
theorem FlatAt.holds (hk : ∀ x, (enc x).length = k) (h : FlatAt enc k e w g cap cur xs) : Go.Sort.HoldsK enc k w g 0 xs.toArray := by
  intro t ht
  have ht' : t < xs.length * k := by simpa using ht
  obtain ⟨x, hx, h2, h3, h4⟩ := flat_at hk xs ht'
  have h5 := h.get _ x hx _ h2
  rw [show t / k * k + t % k = t by rw [Nat.mul_comm]; exact Nat.div_add_mod t k] at h5
  refine ⟨?_, blk_frozen h.blk _⟩
  rw [Nat.zero_add, blk_cell h.blk, h5, h3, h4]; rfl
theorem FlatAt.sorted (hk : ∀ x, (enc x).length = k) (h : FlatAt enc k e w g cap cur xs) (hl : ys.length = xs.length) (n : Nat) (os : Array Obj) :
    ∃ cur', FlatAt enc k e (Go.Proofs.sortWorldK enc k w g 0 n ys.toArray os) g cap cur' ys ∧ Only (fun b => b = g) w (Go.Proofs.sortWorldK enc k w g 0 n ys.toArray os) := by
  have hg : g < w.heap.size := blk_lt h.blk
  have hb : (Go.Proofs.sortWorldK enc k w g 0 n ys.toArray os).heap[g]? = some (.cells (Go.Sort.putCells id 0 (Go.Sort.flatK enc k ys.toArray) cur) e (0, 0)) := by
    unfold Go.Proofs.sortWorldK Go.Sort.putRowK
    rw [Go.Sort.heap_grow_old _ _ (by simpa [Go.Sort.putRow, Go.Sort.mapBlock, Go.Sort.ahead] using hg)]
    simp [Go.Sort.putRow, Go.Sort.mapBlock, Go.Sort.ahead, Array.getElem?_modify, h.blk, Go.Sort.onCells]
  refine ⟨_, ⟨hb, by simp [Go.Sort.putCells, h.size], by rw [hl]; exact h.le, fun i x hx j hj => ?_⟩, ?_⟩
  · have hi : i < ys.length := (List.getElem?_eq_some_iff.1 hx).1
    have h2 : i * k + j < ys.length * k := by
      have : (i + 1) * k ≤ ys.length * k := Nat.mul_le_mul_right _ hi
      rw [Nat.add_mul] at this; omega
    have h3 : i * k + j < cur.size := by
      rw [h.size]
      have : ys.length * k ≤ cap * k := Nat.mul_le_mul_right _ (by rw [hl]; exact h.le)
      omega
    obtain ⟨x', hx', _, h4, h5⟩ := flat_at hk ys h2
    have k0 : 0 < k := by omega
    have d1 : (i * k + j) / k = i := by rw [Nat.add_comm, Nat.add_mul_div_right _ _ k0, Nat.div_eq_of_lt hj, Nat.zero_add]
    have d2 : (i * k + j) % k = j := by rw [Nat.add_comm, Nat.add_mul_mod_self_right, Nat.mod_eq_of_lt hj]
    rw [d1, hx] at hx'
    cases hx'
    rw [d2] at h4 h5
    simp only [Go.Sort.putCells, Array.getElem?_mapIdx, Array.getElem?_eq_getElem h3, Option.map_some]
    rw [if_pos (by rw [Go.Sort.size_flatK]; simp; exact h2), Nat.sub_zero, h4, h5]
    rfl
  · refine ⟨rfl, rfl, rfl, by simp [Go.Proofs.sortWorldK, Go.Sort.putRowK, Go.Sort.putRow, Go.Sort.mapBlock, Go.Sort.ahead, Go.Sort.grow], fun i hi hne => ?_⟩
    unfold Go.Proofs.sortWorldK Go.Sort.putRowK
    rw [Go.Sort.heap_grow_old _ _ (by simpa [Go.Sort.putRow, Go.Sort.mapBlock, Go.Sort.ahead] using hi)]
    have : g ≠ i := fun e => hne e.symm
    simp [Go.Sort.putRow, Go.Sort.mapBlock, Go.Sort.ahead, Array.getElem?_modify, this]
/-- Sorted in the library's sense: no later one is less than an earlier one. -/
theorem pairwise_of_sorted {lt : α → α → Bool} {d : Array α} (h : Go.Sort.SortedIn lt 0 d.size d) : d.toList.Pairwise (fun x y => lt y x = false) := by
  rw [List.pairwise_iff_getElem]
  intro i j hi hj hij
  have := h i j (Nat.zero_le _) hij (by simpa using hj)
  have hi' : i < d.size := by simpa using hi
  have hj' : j < d.size := by simpa using hj
  rw [getElem!_pos d j hj', getElem!_pos d i hi'] at this
  simpa using this
end
end Go.Proofs.Ytljckmiphkoipaa
