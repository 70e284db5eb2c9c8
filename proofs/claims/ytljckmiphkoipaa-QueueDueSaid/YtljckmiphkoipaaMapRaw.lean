/-
  Maps as lists of entries in the order of their first stores: what a look-up, a store, a delete, len do to such a list; and the relation 'Only F': all blocks but those of F stay.
-/
import Derived.Maps.Keyed
import Derived.WideKeyEntry
import Derived.Carry
import Derived.Below
import Derived.OwnWalk
import Derived.Deep.Draws
namespace Go.Proofs.Ytljckmiphkoipaa
set_option linter.unusedVariables false
set_option linter.unusedSectionVars false
set_option linter.unusedSimpArgs false
open Go.RowKit Go.MapKept Go.Maps

/-! ### worlds that differ in some blocks alone -/
/-- Behind a step that may have turned the blocks of F, and made new ones: all else is as it was. -/
structure Only (F : Nat → Prop) (w w' : World) : Prop where
  os : w'.os = w.os
  tape : w'.tape = w.tape
  output : w'.output = w.output
  size : w.heap.size ≤ w'.heap.size
  block : ∀ k, k < w.heap.size → ¬ F k → w'.heap[k]? = w.heap[k]?

theorem Only.refl (F : Nat → Prop) (w : World) : Only F w w := ⟨rfl, rfl, rfl, Nat.le_refl _, fun _ _ _ => rfl⟩
theorem Only.trans {F : Nat → Prop} {a b c : World} (h : Only F a b) (k : Only F b c) : Only F a c :=
  ⟨k.os.trans h.os, k.tape.trans h.tape, k.output.trans h.output, Nat.le_trans h.size k.size, fun i hi hn => (k.block i (Nat.lt_of_lt_of_le hi h.size) hn).trans (h.block i hi hn)⟩
theorem Only.mono {F G : Nat → Prop} {w w' : World} (h : Only F w w') (hg : ∀ i, i < w.heap.size → F i → G i) : Only G w w' :=
  ⟨h.os, h.tape, h.output, h.size, fun i hi hn => h.block i hi (fun hf => hn (hg i hi hf))⟩
/-- Two steps, the second of which may turn what is new or may be turned. -/
theorem Only.then {F G : Nat → Prop} {a b c : World} (h : Only F a b) (k : Only G b c) (hg : ∀ i, i < a.heap.size → G i → F i) : Only F a c :=
  ⟨k.os.trans h.os, k.tape.trans h.tape, k.output.trans h.output, Nat.le_trans h.size k.size,
    fun i hi hn => (k.block i (Nat.lt_of_lt_of_le hi h.size) (fun hf => hn (hg i hi hf))).trans (h.block i hi hn)⟩
theorem Only.ofBelow {F : Nat → Prop} {w w' : World} (h : Below w.heap.size w w') : Only F w w' := ⟨h.os, h.tape, h.output, h.size, fun i hi _ => h.block i hi⟩
theorem Only.drew {F : Nat → Prop} {a w : World} (h : Only F a w) : Only F a w.drew := ⟨h.os, h.tape, h.output, h.size, h.block⟩
theorem Only.drewN {F : Nat → Prop} {a w : World} (h : Only F a w) (n : Nat) : Only F a (w.drewN n) := ⟨h.os, h.tape, h.output, h.size, h.block⟩
theorem Only.alloc {F : Nat → Prop} {a w : World} (h : Only F a w) (o : Obj) : Only F a (w.alloc o) :=
  h.then (G := fun _ => False) ⟨rfl, rfl, rfl, by simp, fun k hk _ => Below.heap_alloc _ _ _ hk⟩ (fun _ _ h => h.elim)
theorem Only.setCell {F : Nat → Prop} {a w : World} (h : Only F a w) {p : Addr} (hp : p.block < a.heap.size → F p.block) (u : Value) : Only F a (w.setCell p u) :=
  h.then (G := fun i => i = p.block) ⟨rfl, rfl, rfl, by simp [World.setCell], fun k hk hn => Below.heap_setCell _ _ _ _ hn⟩ (fun i hi e => by subst e; exact hp hi)
theorem Only.below {F : Nat → Prop} {w w' : World} (h : Only F w w') {B : Nat} (hB : B ≤ w.heap.size) (hF : ∀ i, i < B → ¬ F i) : Below B w w' :=
  ⟨h.os, h.tape, h.output, h.size, fun i hi => h.block i (Nat.lt_of_lt_of_le hi hB) (hF i hi)⟩
theorem Only.setBlock {F : Nat → Prop} {w : World} {b : Nat} (hb : F b) (o : Obj) : Only F w (ChangeMaps.setBlock w b o) :=
  ⟨rfl, rfl, rfl, by simp [ChangeMaps.setBlock], fun k hk hn => by
    have hne : b ≠ k := fun e => hn (e ▸ hb)
    simp [ChangeMaps.setBlock, Array.getElem?_setIfInBounds, hne]⟩

theorem Only.setBlock_eq (w : World) (b : Nat) (o : Obj) : Only (fun i => i = b) w (ChangeMaps.setBlock w b o) := Only.setBlock (F := fun i => i = b) (b := b) rfl o

/-! ### lists of entries -/
section
variable {κ ν : Type} [DecidableEq κ]
def aget (M : List (κ × ν)) (x : κ) : Option ν := (M.find? fun p => decide (p.1 = x)).map (·.2)
def aput (M : List (κ × ν)) (x : κ) (v : ν) : List (κ × ν) := if M.any (fun p => decide (p.1 = x)) then M.map (fun p => if p.1 = x then (p.1, v) else p) else M ++ [(x, v)]
def adel (M : List (κ × ν)) (x : κ) : List (κ × ν) := M.filter fun p => decide (p.1 ≠ x)

theorem aget_nil (x : κ) : aget ([] : List (κ × ν)) x = none := rfl
theorem aget_cons (p : κ × ν) (M : List (κ × ν)) (x : κ) : aget (p :: M) x = if p.1 = x then some p.2 else aget M x := by
  unfold aget
  rw [List.find?_cons]
  by_cases h : p.1 = x <;> simp [h]
theorem aget_append (M N : List (κ × ν)) (x : κ) : aget (M ++ N) x = (aget M x).or (aget N x) := by
  unfold aget
  rw [List.find?_append]
  cases M.find? fun p => decide (p.1 = x) <;> simp
theorem aget_none {M : List (κ × ν)} {x : κ} : aget M x = none ↔ ∀ p ∈ M, p.1 ≠ x := by
  unfold aget
  simp
theorem aget_mem {M : List (κ × ν)} {x : κ} {v : ν} (h : aget M x = some v) : (x, v) ∈ M := by
  unfold aget at h
  obtain ⟨p, hp, rfl⟩ := Option.map_eq_some_iff.1 h
  have h1 := List.find?_some hp
  have h2 := List.mem_of_find?_eq_some hp
  have : p.1 = x := by simpa using h1
  subst this
  exact h2
theorem aget_of_mem {M : List (κ × ν)} (hn : M.Pairwise (fun p q => p.1 ≠ q.1)) {x : κ} {v : ν} (h : (x, v) ∈ M) : aget M x = some v := by
  induction M with
  | nil => cases h
  | cons p M ih =>
    obtain ⟨h1, h2⟩ := List.pairwise_cons.1 hn
    rw [aget_cons]
    rcases List.mem_cons.1 h with rfl | h
    · simp
    · rw [if_neg (h1 _ h)]
      exact ih h2 h
theorem aput_new {M : List (κ × ν)} {x : κ} {v : ν} (h : aget M x = none) : aput M x v = M ++ [(x, v)] := by
  unfold aput
  rw [if_neg]
  simp only [List.any_eq_true, decide_eq_true_eq, not_exists, not_and]
  exact aget_none.1 h
theorem aput_old {M : List (κ × ν)} {x : κ} {v u : ν} (h : aget M x = some u) : aput M x v = M.map (fun p => if p.1 = x then (p.1, v) else p) := by
  unfold aput
  rw [if_pos]
  simp only [List.any_eq_true, decide_eq_true_eq]
  exact ⟨_, aget_mem h, rfl⟩
theorem adel_none {M : List (κ × ν)} {x : κ} (h : aget M x = none) : adel M x = M := by
  unfold adel
  refine List.filter_eq_self.2 fun p hp => ?_
  simpa using aget_none.1 h p hp
theorem aget_adel_same (M : List (κ × ν)) (x : κ) : aget (adel M x) x = none := by
  rw [aget_none]
  intro p hp
  simpa using (List.mem_filter.1 hp).2
theorem aget_adel_other {M : List (κ × ν)} {x y : κ} (h : y ≠ x) : aget (adel M x) y = aget M y := by
  induction M with
  | nil => rfl
  | cons p M ih =>
    unfold adel at ih ⊢
    rw [List.filter_cons]
    by_cases hp : p.1 = x
    · have : p.1 ≠ y := fun e => h (e.symm.trans hp)
      simp only [hp, ne_eq, not_true_eq_false, decide_false, Bool.false_eq_true, if_false]
      rw [ih, aget_cons, if_neg this]
    · simp only [hp, ne_eq, not_false_eq_true, decide_true, if_true]
      rw [aget_cons, aget_cons, ih]
theorem aget_aput_same (M : List (κ × ν)) (x : κ) (v : ν) : aget (aput M x v) x = some v := by
  cases h : aget M x with
  | none => rw [aput_new h, aget_append, h]; simp [aget_cons]
  | some u =>
    rw [aput_old h]
    have hm : ∀ M : List (κ × ν), (∃ u, aget M x = some u) → aget (M.map (fun p => if p.1 = x then (p.1, v) else p)) x = some v := by
      intro M
      induction M with
      | nil => rintro ⟨u, h⟩; cases h
      | cons p M ih =>
        rintro ⟨u, h⟩
        rw [aget_cons] at h
        rw [List.map_cons, aget_cons]
        by_cases hp : p.1 = x
        · simp [hp]
        · rw [if_neg hp] at h
          simp only [hp, if_false]
          exact ih ⟨u, h⟩
    exact hm M ⟨u, h⟩
theorem aget_aput_other {M : List (κ × ν)} {x y : κ} {v : ν} (hy : y ≠ x) : aget (aput M x v) y = aget M y := by
  cases h : aget M x with
  | none =>
    rw [aput_new h, aget_append]
    have : aget [(x, v)] y = none := by rw [aget_cons, if_neg hy.symm]; rfl
    rw [this]
    cases aget M y <;> rfl
  | some u =>
    rw [aput_old h]
    clear h
    induction M with
    | nil => rfl
    | cons p M ih =>
      rw [List.map_cons, aget_cons, aget_cons, ih]
      by_cases hp : p.1 = x
      · have : p.1 ≠ y := fun e => hy (e.symm.trans hp)
        simp [hp, hy.symm]
      · simp [hp]
theorem length_aput (M : List (κ × ν)) (x : κ) (v : ν) : (aput M x v).length = M.length + (if aget M x = none then 1 else 0) := by
  cases h : aget M x with
  | none => rw [aput_new h]; simp
  | some u => rw [aput_old h]; simp
theorem adel_nodup {M : List (κ × ν)} (h : M.Pairwise (fun p q => p.1 ≠ q.1)) (x : κ) : (adel M x).Pairwise (fun p q => p.1 ≠ q.1) := h.filter _

theorem adel_erase (M : List (κ × ν)) (hn : M.Pairwise (fun p q => p.1 ≠ q.1)) (j : Nat) (x : κ) (v : ν) (h3 : M[j]? = some (x, v)) : M.eraseIdx j = adel M x := by
  unfold adel
  induction M generalizing j with
  | nil => simp at h3
  | cons p M ih =>
    obtain ⟨n1, n2⟩ := List.pairwise_cons.1 hn
    cases j with
    | zero =>
      simp only [List.getElem?_cons_zero, Option.some.injEq] at h3
      subst h3
      rw [List.eraseIdx_cons_zero, List.filter_cons]
      simp only [ne_eq, not_true_eq_false, decide_false, Bool.false_eq_true, if_false]
      refine (List.filter_eq_self.2 fun q hq => ?_).symm
      have := n1 q hq
      simpa using this.symm
    | succ j =>
      simp only [List.getElem?_cons_succ] at h3
      have : p.1 ≠ x := n1 _ (List.mem_of_getElem? h3)
      rw [List.eraseIdx_cons_succ, List.filter_cons]
      simp only [this, ne_eq, not_false_eq_true, decide_true, if_true]
      rw [ih n2 j h3]

theorem amap_set (encK : κ → Value) (encV : ν → Value) (M : List (κ × ν)) (hn : M.Pairwise (fun p q => p.1 ≠ q.1)) (j : Nat) (x : κ) (u v : ν) (h3 : M[j]? = some (x, u)) :
    (M.map (fun p => (encK p.1, encV p.2))).set j (encK x, encV v) = (M.map (fun p => if p.1 = x then (p.1, v) else p)).map (fun p => (encK p.1, encV p.2)) := by
  induction M generalizing j with
  | nil => simp at h3
  | cons p M ih =>
    obtain ⟨n1, n2⟩ := List.pairwise_cons.1 hn
    cases j with
    | zero =>
      simp only [List.getElem?_cons_zero, Option.some.injEq] at h3
      subst h3
      simp only [List.map_cons, List.set_cons_zero, if_true]
      congr 1
      rw [List.map_map]
      refine List.map_congr_left fun q hq => ?_
      have : q.1 ≠ x := (n1 q hq).symm
      simp [this]
    | succ j =>
      simp only [List.getElem?_cons_succ] at h3
      have : p.1 ≠ x := n1 _ (List.mem_of_getElem? h3)
      simp only [List.map_cons, List.set_cons_succ, this, if_false]
      rw [ih n2 j h3]

/-! ### a map in memory -/
/-- WHAT THE LAWS WANT OF A KEY's TYPE: how a key is written as a value, and that such values are keys. -/
structure KeyEnc (P : Program) (k : TypeId) (encK : κ → Value) (good : κ → Prop) : Prop where
  keyed : Maps.Keyed P k
  lit : ∀ x, good x → ∃ l, keyOf P k (encK x) = some l
  inj : ∀ x y, encK x = encK y → x = y

/-- Block b is a map that holds just these entries, in this order. -/
def IsMap (encK : κ → Value) (encV : ν → Value) (good : κ → Prop) (w : World) (b : Nat) (M : List (κ × ν)) : Prop :=
  ∃ es clock, w.heap[b]? = some (.map es clock) ∧ Stamped es clock ∧ es.toList.map (fun e => (e.key, e.val)) = M.map (fun p => (encK p.1, encV p.2)) ∧ ∀ p ∈ M, good p.1

variable {P : Program} {t k e : TypeId} {encK : κ → Value} {encV : ν → Value} {good : κ → Prop} {w : World} {b : Nat} {M : List (κ × ν)}

theorem IsMap.lt (h : IsMap encK encV good w b M) : b < w.heap.size := by
  obtain ⟨es, clock, hb, _⟩ := h
  exact (Array.getElem?_eq_some_iff.1 hb).1
theorem IsMap.goods (h : IsMap encK encV good w b M) : ∀ p ∈ M, good p.1 := by obtain ⟨_, _, _, _, _, h⟩ := h; exact h
theorem IsMap.of_block {w' : World} (h : IsMap encK encV good w b M) (hb : w'.heap[b]? = w.heap[b]?) : IsMap encK encV good w' b M := by
  obtain ⟨es, clock, h1, h2⟩ := h
  exact ⟨es, clock, hb.trans h1, h2⟩
theorem IsMap.only {F : Nat → Prop} {w' : World} (h : IsMap encK encV good w b M) (ho : Only F w w') (hn : ¬ F b) : IsMap encK encV good w' b M := h.of_block (ho.block b h.lt hn)
theorem IsMap.made (encK : κ → Value) (encV : ν → Value) (good : κ → Prop) (w : World) : IsMap encK encV good (w.alloc (.map #[] 0)) w.heap.size ([] : List (κ × ν)) :=
  ⟨#[], 0, (heap_alloc w _).1, stamped_empty 0, rfl, by simp⟩
theorem IsMap.nodup (h : IsMap encK encV good w b M) : M.Pairwise (fun p q => p.1 ≠ q.1) := by
  obtain ⟨es, clock, hb, hs, hm, hg⟩ := h
  have hn := ((stamped_iff es clock).1 hs).2.2
  have h1 : (es.toList.map (fun e => (e.key, e.val))).Pairwise (fun p q => p.1 ≠ q.1) := by
    rw [List.pairwise_map]; exact hn
  rw [hm, List.pairwise_map] at h1
  exact h1.imp (fun h e1 => h (by rw [e1]))
/-- No map has all the keys there may be. -/
theorem IsMap.len (h : IsMap encK encV good w b M) : ∃ es clock, w.heap[b]? = some (.map es clock) ∧ es.size = M.length := by
  obtain ⟨es, clock, hb, hs, hm, hg⟩ := h
  refine ⟨es, clock, hb, ?_⟩
  have := congrArg List.length hm
  simpa using this

/-- What a search finds. -/
theorem IsMap.search (K : KeyEnc P k encK good) {es : Array MapEntry} {clock : Nat} (hs : Stamped es clock) (hm : es.toList.map (fun e => (e.key, e.val)) = M.map (fun p => (encK p.1, encV p.2))) (hg : ∀ p ∈ M, good p.1) {x : κ} (hx : good x) (u : World) :
    ((Instr.findKey k (encK x) es.toList).run P u = .ok none u ∧ aget M x = none) ∨
    ∃ j v e0, (Instr.findKey k (encK x) es.toList).run P u = .ok (some (j, encV v)) u ∧ aget M x = some v ∧ M[j]? = some (x, v) ∧ es.toList[j]? = some e0 ∧ e0.key = encK x ∧ e0.val = encV v := by
  obtain ⟨l, hl⟩ := K.lit x hx
  have hmem : ∀ e ∈ es.toList, ∃ p ∈ M, e.key = encK p.1 ∧ e.val = encV p.2 := by
    intro e he
    have : (e.key, e.val) ∈ es.toList.map (fun e => (e.key, e.val)) := List.mem_map.2 ⟨e, he, rfl⟩
    rw [hm] at this
    obtain ⟨p, hp, h1⟩ := List.mem_map.1 this
    simp only [Prod.mk.injEq] at h1
    exact ⟨p, hp, h1.1.symm, h1.2.symm⟩
  have hkeys : ∀ e ∈ es.toList, ∃ l, keyOf P k e.key = some l := by
    intro e he
    obtain ⟨p, hp, h1, _⟩ := hmem e he
    rw [h1]
    exact K.lit _ (hg p hp)
  rcases K.keyed.find u hl es.toList hkeys with ⟨h1, h2⟩ | ⟨j, e0, h1, h2, h3⟩
  · refine .inl ⟨h1, aget_none.2 fun p hp e1 => ?_⟩
    have : (encK p.1, encV p.2) ∈ es.toList.map (fun e => (e.key, e.val)) := by rw [hm]; exact List.mem_map.2 ⟨p, hp, rfl⟩
    obtain ⟨e, he, h4⟩ := List.mem_map.1 this
    simp only [Prod.mk.injEq] at h4
    exact h2 e he (h4.1.trans (by rw [e1]))
  · right
    have h4 : (es.toList.map (fun e => (e.key, e.val)))[j]? = some (e0.key, e0.val) := by rw [List.getElem?_map, h2]; rfl
    rw [hm, List.getElem?_map] at h4
    obtain ⟨p, hp, h5⟩ := Option.map_eq_some_iff.1 h4
    simp only [Prod.mk.injEq] at h5
    have hpx : p.1 = x := K.inj _ _ (h5.1.trans h3)
    have hn : M.Pairwise (fun p q => p.1 ≠ q.1) := by
      have hn := ((stamped_iff es clock).1 hs).2.2
      have h1 : (es.toList.map (fun e => (e.key, e.val))).Pairwise (fun p q => p.1 ≠ q.1) := by rw [List.pairwise_map]; exact hn
      rw [hm, List.pairwise_map] at h1
      exact h1.imp (fun h e1 => h (by rw [e1]))
    have hpm : (x, p.2) ∈ M := by rw [← hpx]; exact List.mem_of_getElem? hp
    refine ⟨j, p.2, e0, by rw [h1, h5.2], aget_of_mem hn hpm, by rw [hp, ← hpx], h2, h3, h5.2.symm⟩

theorem IsMap.look_none (h : IsMap encK encV good w b M) (K : KeyEnc P k encK good) (ht : P.underlying t = some (.map k e)) {x : κ} (hx : good x) (hn : aget M x = none) {z : Value} (hz : (zeroValue e).run P w = .ok z w) (c : Bool) :
    (Instr.lookup t (.map (some b)) (encK x) c).run P w = .ok (if c then .tuple #[z, .bool false] else z) w := by
  obtain ⟨es, clock, hb, hs, hm, hg⟩ := h
  obtain ⟨l, hl⟩ := K.lit x hx
  rcases IsMap.search K hs hm hg hx w with ⟨h1, _⟩ | ⟨j, v, e0, _, h2, _⟩
  · cases c <;> simp [Instr.lookup, run_underlying ht, MapKept.run_getObj_map hb, K.keyed.check w _ hl, h1, hz, Result.andThen]
  · rw [hn] at h2; cases h2

theorem IsMap.look_some (h : IsMap encK encV good w b M) (K : KeyEnc P k encK good) (ht : P.underlying t = some (.map k e)) {x : κ} (hx : good x) {v : ν} (hn : aget M x = some v) (c : Bool) :
    (Instr.lookup t (.map (some b)) (encK x) c).run P w = .ok (if c then .tuple #[encV v, .bool true] else encV v) w := by
  obtain ⟨es, clock, hb, hs, hm, hg⟩ := h
  obtain ⟨l, hl⟩ := K.lit x hx
  rcases IsMap.search K hs hm hg hx w with ⟨_, h2⟩ | ⟨j, v', e0, h1, h2, _⟩
  · rw [hn] at h2; cases h2
  · rw [hn] at h2
    obtain rfl := Option.some.inj h2
    cases c <;> simp [Instr.lookup, run_underlying ht, MapKept.run_getObj_map hb, K.keyed.check w _ hl, h1, Result.andThen]

/-- len of a map. -/
theorem IsMap.run_len (h : IsMap encK encV good w b M) (ht : P.underlying t = some (.map k e)) (u : TypeId) : (Builtin.len_ #[t] u #[.map (some b)]).run P w = .ok (.int .i64 (M.length : Int)) w := by
  obtain ⟨es, clock, hb, hl⟩ := h.len
  simp [Builtin.len_, run_underlying ht, MapKept.run_getObj_map hb, Result.andThen, hl, goInt]

/-- A delete. -/
theorem IsMap.run_delete (h : IsMap encK encV good w b M) (K : KeyEnc P k encK good) (ht : P.underlying t = some (.map k e)) {x : κ} (hx : good x) (kt u : TypeId) :
    ∃ w', (Builtin.delete_ #[t, kt] u #[.map (some b), encK x]).run P w = .ok (.tuple #[]) w' ∧ IsMap encK encV good w' b (adel M x) ∧ Only (fun i => i = b) w w' ∧ w'.heap.size = w.heap.size := by
  obtain ⟨es, clock, hb, hs, hm, hg⟩ := h
  obtain ⟨l, hl⟩ := K.lit x hx
  have hbs : b < w.heap.size := (Array.getElem?_eq_some_iff.1 hb).1
  have put : ∀ o : Obj, (ChangeMaps.setBlock w b o).heap[b]? = some o := fun o => (heap_set hb (o' := o)).1
  rcases IsMap.search K hs hm hg hx w with ⟨h1, h2⟩ | ⟨j, v, e0, h1, h2, h3, h4, h5, _⟩
  · refine ⟨ChangeMaps.setBlock w b (.map es clock), ?_, ⟨es, clock, put _, hs, by rw [adel_none h2]; exact hm, by rw [adel_none h2]; exact hg⟩, Only.setBlock_eq w b _, by simp [ChangeMaps.setBlock]⟩
    simp [Builtin.delete_, run_underlying ht, MapKept.run_getObj_map hb, K.keyed.check w _ hl, h1, MapKept.run_setObj_map _ hb, Result.andThen, ChangeMaps.setBlock]
  · refine ⟨ChangeMaps.setBlock w b (.map (es.eraseIdxIfInBounds j) clock), ?_, ⟨es.eraseIdxIfInBounds j, clock, put _, stamped_erase hs j, ?_, ?_⟩, Only.setBlock_eq w b _, by simp [ChangeMaps.setBlock]⟩
    · simp [Builtin.delete_, run_underlying ht, MapKept.run_getObj_map hb, K.keyed.check w _ hl, h1, MapKept.run_setObj_map _ hb, Result.andThen, ChangeMaps.setBlock]
    · have hj : j < es.toList.length := (List.getElem?_eq_some_iff.1 h4).1
      have e1 : (es.eraseIdxIfInBounds j).toList = es.toList.eraseIdx j := by
        rw [Array.eraseIdxIfInBounds_eq]
        split
        · simp
        · rename_i hc; exact absurd (by simpa using hj) hc
      rw [e1, ChangeMaps.map_eraseIdx, hm, ← ChangeMaps.map_eraseIdx]
      congr 1
      have hn : M.Pairwise (fun p q => p.1 ≠ q.1) := by
        have hn := ((stamped_iff es clock).1 hs).2.2
        have h1 : (es.toList.map (fun e => (e.key, e.val))).Pairwise (fun p q => p.1 ≠ q.1) := by rw [List.pairwise_map]; exact hn
        rw [hm, List.pairwise_map] at h1
        exact h1.imp (fun h e1 => h (by rw [e1]))
      exact adel_erase M hn j x v h3
    · intro p hp
      exact hg p (List.mem_filter.1 hp).1

/-- A store. -/
theorem IsMap.run_update (h : IsMap encK encV good w b M) (K : KeyEnc P k encK good) (ht : P.underlying t = some (.map k e)) {x : κ} (hx : good x) (v : ν) :
    ∃ w', (Instr.mapUpdate t (.map (some b)) (encK x) (encV v)).run P w = .ok () w' ∧ IsMap encK encV good w' b (aput M x v) ∧ Only (fun i => i = b) w w' ∧ w'.heap.size = w.heap.size := by
  obtain ⟨es, clock, hb, hs, hm, hg⟩ := h
  obtain ⟨l, hl⟩ := K.lit x hx
  have hbs : b < w.heap.size := (Array.getElem?_eq_some_iff.1 hb).1
  have put : ∀ o : Obj, (ChangeMaps.setBlock w b o).heap[b]? = some o := fun o => (heap_set hb (o' := o)).1
  rcases IsMap.search K hs hm hg hx w with ⟨h1, h2⟩ | ⟨j, v', e0, h1, h2, h3, h4, h5, _⟩
  · refine ⟨ChangeMaps.setBlock w b (.map (es.push ⟨encK x, encV v, clock⟩) (clock + 1)), ?_, ⟨_, _, put _, stamped_push hs (fun y hy e1 => ?_), ?_, ?_⟩, Only.setBlock_eq w b _, by simp [ChangeMaps.setBlock]⟩
    · simp [Instr.mapUpdate, run_underlying ht, MapKept.run_getObj_map hb, K.keyed.check w _ hl, h1, MapKept.run_setObj_map _ hb, Result.andThen, ChangeMaps.setBlock]
    · have : (y.key, y.val) ∈ es.toList.map (fun e => (e.key, e.val)) := List.mem_map.2 ⟨y, hy, rfl⟩
      rw [hm] at this
      obtain ⟨p, hp, h6⟩ := List.mem_map.1 this
      simp only [Prod.mk.injEq] at h6
      exact aget_none.1 h2 p hp (K.inj _ _ (h6.1.trans e1))
    · rw [aput_new h2, Array.toList_push, List.map_append, List.map_append, hm]; rfl
    · intro p hp
      rw [aput_new h2] at hp
      rcases List.mem_append.1 hp with hp | hp
      · exact hg p hp
      · rw [List.mem_singleton.1 hp]; exact hx
  · have hj : es[j]? = some e0 := by simpa using h4
    refine ⟨ChangeMaps.setBlock w b (.map (es.modify j (fun e' => { e' with key := encK x, val := encV v })) clock), ?_, ⟨_, _, put _, stamped_modify hs j _ (fun _ _ => rfl) (fun e1 _ h7 => ?_), ?_, ?_⟩, Only.setBlock_eq w b _, by simp [ChangeMaps.setBlock]⟩
    · simp [Instr.mapUpdate, run_underlying ht, MapKept.run_getObj_map hb, K.keyed.check w _ hl, h1, hj, h5, K.keyed.stays w hl, MapKept.run_setObj_map _ hb, Result.andThen, ChangeMaps.setBlock]
    · rw [hj] at h7
      obtain rfl := Option.some.inj h7
      exact h5.symm
    · rw [aput_old h2, Array.toList_modify, ChangeMaps.modify_eq_set _ _ _ _ h4, List.map_set, hm]
      have hn : M.Pairwise (fun p q => p.1 ≠ q.1) := by
        have hn := ((stamped_iff es clock).1 hs).2.2
        have h1 : (es.toList.map (fun e => (e.key, e.val))).Pairwise (fun p q => p.1 ≠ q.1) := by rw [List.pairwise_map]; exact hn
        rw [hm, List.pairwise_map] at h1
        exact h1.imp (fun h e1 => h (by rw [e1]))
      exact amap_set encK encV M hn j x v' v h3
    · intro p hp
      rw [aput_old h2] at hp
      obtain ⟨q, hq, rfl⟩ := List.mem_map.1 hp
      split
      · exact hg q hq
      · exact hg q hq

/-- A map in which an entry for x waits for its value, under the stamp st. -/
def HalfMap (encK : κ → Value) (encV : ν → Value) (good : κ → Prop) (w : World) (b : Nat) (M : List (κ × ν)) (x : κ) (st : Nat) : Prop :=
  ∃ es clock j, w.heap[b]? = some (.map es clock) ∧ es.findIdx? (fun e => ((e.born : Nat) : Int) == ((st : Nat) : Int)) = some j ∧
    ∀ v : ν, Stamped (es.modify j (fun e => { e with val := encV v })) clock ∧ (es.modify j (fun e => { e with val := encV v })).toList.map (fun e => (e.key, e.val)) = (aput M x v).map (fun p => (encK p.1, encV p.2)) ∧ ∀ p ∈ aput M x v, good p.1

theorem HalfMap.lt {x : κ} {st : Nat} (h : HalfMap encK encV good w b M x st) : b < w.heap.size := by
  obtain ⟨es, clock, j, hb, _⟩ := h
  exact (Array.getElem?_eq_some_iff.1 hb).1
theorem HalfMap.of_block {x : κ} {st : Nat} {w' : World} (h : HalfMap encK encV good w b M x st) (hb : w'.heap[b]? = w.heap[b]?) : HalfMap encK encV good w' b M x st := by
  obtain ⟨es, clock, j, h1, h2⟩ := h
  exact ⟨es, clock, j, hb.trans h1, h2⟩
theorem HalfMap.only {x : κ} {st : Nat} {F : Nat → Prop} {w' : World} (h : HalfMap encK encV good w b M x st) (ho : Only F w w') (hn : ¬ F b) : HalfMap encK encV good w' b M x st := h.of_block (ho.block b h.lt hn)

theorem aput_goods (h : ∀ p ∈ M, good p.1) {x : κ} (hx : good x) (v : ν) : ∀ p ∈ aput M x v, good p.1 := by
  intro p hp
  cases hm : aget M x with
  | none =>
    rw [aput_new hm] at hp
    rcases List.mem_append.1 hp with hp | hp
    · exact h p hp
    · rw [List.mem_singleton.1 hp]; exact hx
  | some u =>
    rw [aput_old hm] at hp
    obtain ⟨q, hq, rfl⟩ := List.mem_map.1 hp
    split
    · exact h q hq
    · exact h q hq

theorem IsMap.run_entry (h : IsMap encK encV good w b M) (K : KeyEnc P k encK good) (ht : P.underlying t = some (.map k e)) {x : κ} (hx : good x) {z : Value} (hz : (zeroValue e).run P w = .ok z w) :
    ∃ (v0 : Value) (st : Nat) (w' : World), (Instr.mapEntry t (.map (some b)) (encK x)).run P w = .ok (.tuple #[v0, .int .i64 (st : Int)]) w' ∧ (∀ v, aget M x = some v → v0 = encV v) ∧ (aget M x = none → v0 = z) ∧ HalfMap encK encV good w' b M x st ∧ Only (fun i => i = b) w w' ∧ w'.heap.size = w.heap.size := by
  have hnod := h.nodup
  obtain ⟨es, clock, hb, hs, hm, hg⟩ := h
  obtain ⟨l, hl⟩ := K.lit x hx
  obtain ⟨s1, s2, s3⟩ := (stamped_iff es clock).1 hs
  have put : ∀ o : Obj, (ChangeMaps.setBlock w b o).heap[b]? = some o := fun o => (heap_set hb (o' := o)).1
  rcases IsMap.search K hs hm hg hx w with ⟨h1, h2⟩ | ⟨j, v', e0, h1, h2, h3, h4, h5, h6⟩
  · refine ⟨z, clock, ChangeMaps.setBlock w b (.map (es.push ⟨encK x, z, clock⟩) (clock + 1)), ?_, ?_, fun _ => rfl, ⟨_, _, es.size, put _, ?_, ?_⟩, Only.setBlock_eq w b _, by simp [ChangeMaps.setBlock]⟩
    · simp [Instr.mapEntry, run_underlying ht, MapKept.run_getObj_map hb, K.keyed.check w _ hl, h1, hz, MapKept.run_setObj_map _ hb, Result.andThen, ChangeMaps.setBlock, goInt]
    · intro v hv; rw [h2] at hv; cases hv
    · rw [WideElems.findIdx_arr]
      exact WideElems.findIdx_born (l := (es.push ⟨encK x, z, clock⟩).toList) (j := es.size) (e0 := ⟨encK x, z, clock⟩) (by
          simp only [Array.toList_push, List.map_append, List.map_cons, List.map_nil]
          refine List.nodup_append.2 ⟨s2, by simp, fun a ha c hc e1 => ?_⟩
          simp only [List.mem_singleton] at hc
          obtain ⟨y, hy, rfl⟩ := List.mem_map.1 ha
          have := s1 y hy
          omega) (by simp)
    · intro v
      have hmod : (es.push ⟨encK x, z, clock⟩).modify es.size (fun e => { e with val := encV v }) = es.push ⟨encK x, encV v, clock⟩ := by
        apply Array.ext'
        rw [Array.toList_modify, Array.toList_push, Array.toList_push, ← Array.length_toList, WideElems.modify_last]
      rw [hmod]
      refine ⟨stamped_push hs (fun y hy e1 => ?_), ?_, aput_goods hg hx v⟩
      · have : (y.key, y.val) ∈ es.toList.map (fun e => (e.key, e.val)) := List.mem_map.2 ⟨y, hy, rfl⟩
        rw [hm] at this
        obtain ⟨p, hp, h6⟩ := List.mem_map.1 this
        simp only [Prod.mk.injEq] at h6
        exact aget_none.1 h2 p hp (K.inj _ _ (h6.1.trans e1))
      · rw [aput_new h2, Array.toList_push, List.map_append, List.map_append, hm]; rfl
  · have hj : es[j]? = some e0 := by simpa using h4
    have hsame : es.modify j (fun e => { e with key := encK x }) = es := by
      apply Array.ext'
      rw [Array.toList_modify, ChangeMaps.modify_eq_set _ _ _ _ h4]
      have : ({ e0 with key := encK x } : MapEntry) = e0 := by rw [← h5]
      rw [this]
      exact WideElems.set_self _ _ _ h4
    refine ⟨encV v', e0.born, ChangeMaps.setBlock w b (.map es clock), ?_, ?_, ?_, ⟨es, clock, j, put _, ?_, ?_⟩, Only.setBlock_eq w b _, by simp [ChangeMaps.setBlock]⟩
    · simp [Instr.mapEntry, run_underlying ht, MapKept.run_getObj_map hb, K.keyed.check w _ hl, h1, hj, h5, K.keyed.stays w hl, hsame, MapKept.run_setObj_map _ hb, Result.andThen, ChangeMaps.setBlock, goInt]
    · intro v hv; rw [h2] at hv; rw [Option.some.inj hv]
    · intro hv; rw [h2] at hv; cases hv
    · rw [WideElems.findIdx_arr]
      exact WideElems.findIdx_born s2 h4
    · intro v
      refine ⟨stamped_modify hs j _ (fun _ _ => rfl) (fun e1 _ h7 => rfl), ?_, aput_goods hg hx v⟩
      rw [aput_old h2, Array.toList_modify, ChangeMaps.modify_eq_set _ _ _ _ h4, List.map_set, hm, ← amap_set encK encV M hnod j x v' v h3, h5]

/-- The value comes. -/
theorem HalfMap.run_store {x : κ} {st : Nat} (h : HalfMap encK encV good w b M x st) (v : ν) :
    ∃ w', (Instr.entryStore t (.map (some b)) (.int .i64 (st : Int)) (encV v)).run P w = .ok () w' ∧ IsMap encK encV good w' b (aput M x v) ∧ Only (fun i => i = b) w w' ∧ w'.heap.size = w.heap.size := by
  obtain ⟨es, clock, j, hb, hj, hv⟩ := h
  obtain ⟨h1, h2, h3⟩ := hv v
  refine ⟨ChangeMaps.setBlock w b (.map (es.modify j (fun e => { e with val := encV v })) clock), ?_, ⟨_, _, (heap_set hb).1, h1, h2, h3⟩, Only.setBlock_eq w b _, by simp [ChangeMaps.setBlock]⟩
  simp [Instr.entryStore, MapKept.run_getObj_map hb, asInt, asIntOf, goInt, hj, MapKept.run_setObj_map _ hb, Result.andThen, ChangeMaps.setBlock, goInt]

end

/-! ### keys that are ints -/
def goodI (x : Int) : Prop := (Lit.int .i64 x).wf = true
theorem goodI_of {x : Int} (h0 : -9223372036854775808 ≤ x) (h1 : x ≤ 9223372036854775807) : goodI x := by
  unfold goodI
  simp [Lit.wf, IntKind.min, IntKind.max, IntKind.bits, IntKind.signed]
  omega
theorem goodI_bounds {x : Int} (h : goodI x) : -9223372036854775808 ≤ x ∧ x ≤ 9223372036854775807 := by
  unfold goodI at h
  simp [Lit.wf, IntKind.min, IntKind.max, IntKind.bits, IntKind.signed] at h
  omega
theorem keyEnc_int {P : Program} {k : TypeId} (hk : P.underlying k = some (.int .i64)) : KeyEnc P k (Value.int .i64) goodI :=
  ⟨int_keyed hk, fun x hx => ⟨_, keyOf_int_mk hk hx⟩, fun x y h => by injection h⟩

end Go.Proofs.Ytljckmiphkoipaa
