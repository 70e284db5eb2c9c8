/-
  'for k, v := range m' over a map that is told as a list of entries: what is left, as a list of entries; and a slice of ints of one's own, sorted by the library.
-/
import Derived.Test.YtljckmiphkoipaaMapRaw
import Derived.Test.YtljckmiphkoipaaWMore
import Derived.Maps.RangeRun
import Derived.Sort.OwnSortedInts
namespace Go.Proofs.Ytljckmiphkoipaa
set_option linter.unusedVariables false
set_option linter.unusedSectionVars false
set_option linter.unusedSimpArgs false
open Go.RowKit Go.MapKept Go.Maps Go.Proofs.YtljckmiphkoipaaW.PrintWords Go.Proofs.YtljckmiphkoipaaW.PrintMore

theorem Only.ofGrown {w w' : World} {o : Option Nat} (h : w.grownBy w' o) : Only (fun k => some k = o) w w' := ⟨h.os, h.tape, h.output, h.size, fun k hk hn => h.block k hk hn⟩
theorem Only.setIter {F : Nat → Prop} {a w : World} (h : Only F a w) {r : Nat} (hr : r < a.heap.size → F r) (o : Obj) : Only F a (ChangeMaps.setBlock w r o) :=
  h.then (Only.setBlock_eq w r o) (fun i hi e => by subst e; exact hr hi)
theorem R_only {α : Type} {d : Kd α} {e : Nat} {w w1 : World} {base : Nat} {ok F : Nat → Prop} {v : Value} {xs : List α} (h : d.R e w base ok v xs) (ho : Only F w w1) (hF : ∀ k, ok k → ¬ F k) : d.R e w1 base ok v xs :=
  Kd.R_step h (fun k hk hlt => ho.block k hlt (hF k hk))

section
variable {κ ν : Type} [DecidableEq κ] {P : Program} {t k e : TypeId} {encK : κ → Value} {encV : ν → Value} {good : κ → Prop} {w : World} {b r : Nat} {M R : List (κ × ν)}

/-- Block b is the map M; block r an iterator over it; R is still to come. -/
def Ranges (encK : κ → Value) (encV : ν → Value) (good : κ → Prop) (w : World) (b r : Nat) (M R : List (κ × ν)) : Prop :=
  ∃ es clock since c0 seen, w.heap[b]? = some (.map es clock) ∧ Stamped es clock ∧ es.toList.map (fun e => (e.key, e.val)) = M.map (fun p => (encK p.1, encV p.2)) ∧ (∀ p ∈ M, good p.1) ∧
    w.heap[r]? = some (.mapIter (some b) since seen c0) ∧ (∀ x ∈ es.toList, x.born < since) ∧ since ≤ c0 ∧ since ≤ clock ∧
    (es.toList.filter (fun e => !seen.contains e.born)).map (fun e => (e.key, e.val)) = R.map (fun p => (encK p.1, encV p.2)) ∧ ∀ p ∈ R, p ∈ M

theorem Ranges.lt (h : Ranges encK encV good w b r M R) : b < w.heap.size ∧ r < w.heap.size := by
  obtain ⟨es, clock, since, c0, seen, h1, _, _, _, h2, _⟩ := h
  exact ⟨blk_lt h1, blk_lt h2⟩
theorem Ranges.only {F : Nat → Prop} {w' : World} (h : Ranges encK encV good w b r M R) (ho : Only F w w') (hb : ¬ F b) (hr : ¬ F r) : Ranges encK encV good w' b r M R := by
  have hl := h.lt
  obtain ⟨es, clock, since, c0, seen, h1, h2, h3, h4, h5, h6⟩ := h
  exact ⟨es, clock, since, c0, seen, (ho.block b hl.1 hb).trans h1, h2, h3, h4, (ho.block r hl.2 hr).trans h5, h6⟩
theorem Ranges.isMap (h : Ranges encK encV good w b r M R) : IsMap encK encV good w b M := by
  obtain ⟨es, clock, since, c0, seen, h1, h2, h3, h4, _⟩ := h
  exact ⟨es, clock, h1, h2, h3, h4⟩
theorem Ranges.sub (h : Ranges encK encV good w b r M R) : ∀ p ∈ R, p ∈ M := by
  obtain ⟨es, clock, since, c0, seen, h1, h2, h3, h4, h5, h6, h7, h10, h8, h9⟩ := h
  exact h9

theorem IsMap.run_range (h : IsMap encK encV good w b M) (ht : P.underlying t = some (.map k e)) :
    ∃ w', (Instr.range t (.map (some b))).run P w = .ok (.pointer (some ⟨w.heap.size, 0, none⟩)) w' ∧ Ranges encK encV good w' b w.heap.size M M ∧ Below w.heap.size w w' ∧ w'.heap.size = w.heap.size + 1 := by
  obtain ⟨es, clock, hb, hs, hm, hg⟩ := h
  obtain ⟨s1, s2, s3⟩ := (stamped_iff es clock).1 hs
  refine ⟨_, run_range_map w t k e b es clock ht hb, ⟨es, clock, clock, clock, #[], (Below.heap_alloc _ _ _ (blk_lt hb)).trans hb, hs, hm, hg, heap_alloc_new w _, s1, Nat.le_refl _, Nat.le_refl _, ?_, fun _ h => h⟩, (Below.refl _ _).alloc (Nat.le_refl _) _, by simp⟩
  rw [← hm]
  congr 1
  exact List.filter_eq_self.2 (fun _ _ => by simp)

theorem map_filter_both {α β γ : Type} (f : α → γ) (g : β → γ) (p : α → Bool) (q : β → Bool) : ∀ (X : List α) (R : List β), X.map f = R.map g → (∀ x ∈ X, ∀ y ∈ R, f x = g y → p x = q y) → (X.filter p).map f = (R.filter q).map g
  | [], [], _, _ => rfl
  | [], _ :: _, h, _ => by simp at h
  | _ :: _, [], h, _ => by simp at h
  | x :: X, y :: R, h, hp => by
    simp only [List.map_cons, List.cons.injEq] at h
    have ih := map_filter_both f g p q X R h.2 (fun x hx y hy => hp x (List.mem_cons_of_mem _ hx) y (List.mem_cons_of_mem _ hy))
    have h1 := hp x (by simp) y (by simp) h.1
    rw [List.filter_cons, List.filter_cons, h1]
    split
    · simp only [List.map_cons, h.1, ih]
    · exact ih

theorem key_inj {x e : MapEntry} : ∀ {l : List MapEntry}, l.Pairwise (fun x y => x.key ≠ y.key) → x ∈ l → e ∈ l → x.key = e.key → x = e
  | [], _, h, _, _ => by cases h
  | a :: l, hn, hx, he, h => by
    obtain ⟨h1, h2⟩ := List.pairwise_cons.1 hn
    rcases List.mem_cons.1 hx with e1 | hx'
    · rcases List.mem_cons.1 he with e2 | he'
      · rw [e1, e2]
      · exact absurd (by rw [← e1, h]) (h1 _ he')
    · rcases List.mem_cons.1 he with e2 | he'
      · exact absurd (by rw [← e2, h]) (h1 _ hx')
      · exact key_inj h2 hx' he' h

/-- The step: nothing is left; or one of those that are left comes, whichever the tape says. -/
theorem Ranges.run_next (h : Ranges encK encV good w b r M R) (inj : ∀ x y, encK x = encK y → x = y) (ty : TypeId) :
    (R = [] ∧ (Instr.next (.pointer (some ⟨r, 0, none⟩)) false ty).run P w = .ok (.tuple #[.bool false]) w) ∨
    ∃ p w', p ∈ R ∧ (Instr.next (.pointer (some ⟨r, 0, none⟩)) false ty).run P w = .ok (.tuple #[.bool true, encK p.1, encV p.2]) w' ∧ (Instr.entry (.pointer (some ⟨r, 0, none⟩))).run P w' = .ok (.tuple #[encK p.1, encV p.2]) w' ∧
      Ranges encK encV good w' b r M (adel R p.1) ∧ Only (fun i => i = r) w w' ∧ w'.heap.size = w.heap.size := by
  have hnod := h.isMap.nodup
  obtain ⟨es, clock, since, c0, seen, h1, h2, h3, h4, h5, h6, h7, h10, h8, h9⟩ := h
  obtain ⟨s1, s2, s3⟩ := (stamped_iff es clock).1 h2
  have hleft : (leftOf es seen).toList = es.toList.filter (fun e => !seen.contains e.born) := by unfold leftOf; simp
  have hne : b ≠ r := fun e1 => by subst e1; rw [h1] at h5; cases h5
  rcases run_next_at (P := P) w ty r b since c0 seen es clock h5 h1 h6 h7 with ⟨a1, a2⟩ | ⟨e0, a1, w1, a2, a3⟩
  · left
    refine ⟨?_, a2⟩
    have : (leftOf es seen).toList = [] := by rw [← List.length_eq_zero_iff]; simpa using a1
    rw [← hleft, this] at h8
    simpa using h8.symm
  · right
    rw [hleft] at a1
    have hmem : (e0.key, e0.val) ∈ R.map (fun p => (encK p.1, encV p.2)) := by rw [← h8]; exact List.mem_map.2 ⟨e0, a1, rfl⟩
    obtain ⟨p, hp, hpe⟩ := List.mem_map.1 hmem
    simp only [Prod.mk.injEq] at hpe
    have he0 : e0 ∈ es.toList := (List.mem_filter.1 a1).1
    have o1 : Only (fun i => i = r) w (ChangeMaps.setBlock w1 r (.mapIter (some b) since (seen.push e0.born) clock)) := by
      rcases a2 with rfl | rfl
      · exact Only.setBlock_eq _ _ _
      · exact (Only.refl (fun i => i = r) w).drew.setIter (fun _ => rfl) _
    have hr1 : (ChangeMaps.setBlock w1 r (.mapIter (some b) since (seen.push e0.born) clock)).heap[r]? = some (.mapIter (some b) since (seen.push e0.born) clock) := by
      rcases a2 with rfl | rfl
      · exact (heap_set h5).1
      · exact (heap_set (w := w.drew) h5).1
    have hb1 : (ChangeMaps.setBlock w1 r (.mapIter (some b) since (seen.push e0.born) clock)).heap[b]? = some (.map es clock) := (o1.block b (blk_lt h1) hne).trans h1
    refine ⟨p, _, hp, by rw [a3, hpe.1, hpe.2], ?_, ⟨es, clock, since, clock, seen.push e0.born, hb1, h2, h3, h4, hr1, h6, h10, h10, ?_, fun q hq => h9 q (List.mem_filter.1 hq).1⟩, o1, ?_⟩
    · rw [run_entry_at _ r b since seen es clock e0 hr1 hb1 he0 s2, hpe.1, hpe.2]
    · unfold adel
      have e1 : es.toList.filter (fun e => !(seen.push e0.born).contains e.born) = (es.toList.filter (fun e => !seen.contains e.born)).filter (fun e => decide (e.born ≠ e0.born)) := by
        rw [List.filter_filter]
        refine List.filter_congr fun x _ => ?_
        rw [contains_push]
        by_cases hx : x.born = e0.born <;> simp [hx, Bool.not_or, Bool.and_comm]
      rw [e1]
      refine map_filter_both _ _ _ _ _ _ h8 (fun x hx y hy hxy => ?_)
      simp only [Prod.mk.injEq] at hxy
      have hxm : x ∈ es.toList := (List.mem_filter.1 hx).1
      have : x.born = e0.born ↔ y.1 = p.1 := by
        constructor
        · intro hbn
          have := born_inj s2 hxm he0 hbn
          subst this
          exact inj _ _ (hxy.1.symm.trans hpe.1.symm)
        · intro hk
          have hkk : x.key = e0.key := by rw [hxy.1, hk, hpe.1]
          exact congrArg _ (key_inj s3 hxm he0 hkk)
      simp [this]
    · rcases a2 with rfl | rfl <;> simp [ChangeMaps.setBlock]

theorem Ranges.nodup (h : Ranges encK encV good w b r M R) : R.Pairwise (fun p q => p.1 ≠ q.1) := by
  obtain ⟨es, clock, since, c0, seen, h1, h2, h3, h4, h5, h6, h7, h10, h8, h9⟩ := h
  obtain ⟨s1, s2, s3⟩ := (stamped_iff es clock).1 h2
  have h1 : ((es.toList.filter (fun e => !seen.contains e.born)).map (fun e => (e.key, e.val))).Pairwise (fun x y => x.1 ≠ y.1) := by
    rw [List.pairwise_map]; exact s3.filter _
  rw [h8, List.pairwise_map] at h1
  exact h1.imp (fun h e1 => h (by rw [e1]))

theorem perm_adel {p : κ × ν} : ∀ {R : List (κ × ν)}, R.Pairwise (fun p q => p.1 ≠ q.1) → p ∈ R → R.Perm (p :: adel R p.1)
  | [], _, h => by cases h
  | q :: R, hn, h => by
    obtain ⟨h1, h2⟩ := List.pairwise_cons.1 hn
    unfold adel
    rw [List.filter_cons]
    by_cases hq : q.1 = p.1
    · have hpq : p = q := by
        rcases List.mem_cons.1 h with h | h
        · exact h
        · exact absurd hq (h1 p h)
      subst hpq
      simp only [ne_eq, not_true_eq_false, decide_false, Bool.false_eq_true, if_false]
      rw [List.filter_eq_self.2]
      intro x hx
      have := h1 x hx
      simp [this.symm]
    · have hp : p ∈ R := by
        rcases List.mem_cons.1 h with h | h
        · exact absurd (by rw [h]) hq
        · exact h
      have ih := perm_adel h2 hp
      unfold adel at ih
      simp only [hq, ne_eq, not_false_eq_true, decide_true, if_true]
      exact (ih.cons q).trans (List.Perm.swap _ _ _)
theorem length_adel {p : κ × ν} (hn : R.Pairwise (fun p q => p.1 ≠ q.1)) (hp : p ∈ R) : (adel R p.1).length + 1 = R.length := by
  have := (perm_adel hn hp).length_eq
  simp at this
  omega
end
end Go.Proofs.Ytljckmiphkoipaa
