/- Texts of one family in one file: Turns0, Turns1, Turns2, SortL. -/
import Derived.Test.YtljckmiphkoipaaMapRaw
import Derived.Test.YtljckmiphkoipaaProg
import Derived.Test.YtljckmiphkoipaaWWords
import Derived.Test.YtljckmiphkoipaaWMore
import Derived.Test.YtljckmiphkoipaaWLast
import Derived.Tactics
import Derived.Tactics2
import Derived.WalkKit
import Derived.StillTactics
import Derived.OwnWalk
import Derived.BigQuiet
import Derived.Deep.LoopGhost
import Derived.Shelf.SlSortCmp.WholeK
import Derived.Ground.SlsfProg
/-
  The queue by turn as a plain list of (turn, item): what its two maps hold, and what each step makes of them; no program in sight but for the maps' laws.
-/
namespace Go.Proofs.Ytljckmiphkoipaa
set_option linter.unusedVariables false
set_option linter.unusedSimpArgs false
open Go.RowKit Go.MapKept Go.Maps Go.Proofs.YtljckmiphkoipaaW.PrintWords

theorem w64 (n : Int) (h : -9223372036854775808 ≤ n ∧ n ≤ 9223372036854775807) : wrap64 n = n := by unfold wrap64; omega
theorem keyI : KeyEnc Try.prog 3 (Value.int .i64) goodI := keyEnc_int (by kernel_rfl)
theorem zeroI (w : World) : (zeroValue 3).run Try.prog w = .ok (.int .i64 0) w := by kernel_rfl
theorem undII : Try.prog.underlying 109 = some (.map 3 3) := by kernel_rfl

abbrev MII := IsMap (κ := Int) (ν := Int) (Value.int .i64) (Value.int .i64) goodI
abbrev sw (p : Int × Int) : Int × Int := (p.2, p.1)

structure TurnsOk (L : List (Int × Int)) (fr te : Int) : Prop where
  fr0 : 0 ≤ fr
  frto : fr ≤ te
  sorted : L.Pairwise (fun p q => p.1 < q.1)
  items : L.Pairwise (fun p q => p.2 ≠ q.2)
  turns : ∀ p ∈ L, fr ≤ p.1 ∧ p.1 < te
  good : ∀ p ∈ L, goodI p.2
  few : L.length ≤ 65536

/-- A queue by turn: its maps lie at b and b + 1, its struct at b + 2. -/
structure TurnsAt (w : World) (b : Nat) (L : List (Int × Int)) (fr te : Int) : Prop where
  blk : w.heap[b + 2]? = some (.cells #[.map (some b), .map (some (b + 1)), .int .i64 fr, .int .i64 te] 126 (0, 0))
  at_ : MII w b (L.map sw)
  items : MII w (b + 1) L

/-- A queue by turn that holds these items, in this order; behind at most n Puts. -/
def IsTurns (w : World) (b : Nat) (l : List Int) (n : Int) : Prop := ∃ L fr te, TurnsAt w b L fr te ∧ TurnsOk L fr te ∧ L.map (·.2) = l ∧ te ≤ n

/-- Its blocks. -/
def tfoot (b : Nat) (i : Nat) : Prop := b ≤ i ∧ i ≤ b + 2

section
variable {w w' : World} {b : Nat} {L : List (Int × Int)} {l : List Int} {fr te n : Int}

theorem TurnsAt.lt (h : TurnsAt w b L fr te) : b + 2 < w.heap.size := blk_lt h.blk
theorem IsTurns.lt (h : IsTurns w b l n) : b + 2 < w.heap.size := by obtain ⟨L, fr, te, h, _⟩ := h; exact h.lt
theorem TurnsAt.only {F : Nat → Prop} (h : TurnsAt w b L fr te) (ho : Only F w w') (hn : ∀ i, tfoot b i → ¬ F i) : TurnsAt w' b L fr te :=
  ⟨(ho.block _ h.lt (hn _ ⟨by omega, by omega⟩)).trans h.blk, h.at_.only ho (hn _ ⟨by omega, by omega⟩), h.items.only ho (hn _ ⟨by omega, by omega⟩)⟩
theorem IsTurns.only {F : Nat → Prop} (h : IsTurns w b l n) (ho : Only F w w') (hn : ∀ i, tfoot b i → ¬ F i) : IsTurns w' b l n := by
  obtain ⟨L, fr, te, h, r⟩ := h
  exact ⟨L, fr, te, h.only ho hn, r⟩
theorem IsTurns.more {m : Int} (h : IsTurns w b l n) (hm : n ≤ m) : IsTurns w b l m := by
  obtain ⟨L, fr, te, h1, h2, h3, h4⟩ := h
  exact ⟨L, fr, te, h1, h2, h3, by omega⟩
theorem TurnsAt.drew (h : TurnsAt w b L fr te) : TurnsAt w.drew b L fr te := ⟨h.blk, h.at_.of_block rfl, h.items.of_block rfl⟩
theorem IsTurns.drew (h : IsTurns w b l n) : IsTurns w.drew b l n := by
  obtain ⟨L, fr, te, h, r⟩ := h
  exact ⟨L, fr, te, h.drew, r⟩
theorem IsTurns.nodup (h : IsTurns w b l n) : l.Nodup := by
  obtain ⟨L, fr, te, h1, h2, rfl, h4⟩ := h
  rw [List.nodup_iff_pairwise_ne, List.pairwise_map]
  exact h2.items
theorem IsTurns.good (h : IsTurns w b l n) : ∀ x ∈ l, goodI x := by
  obtain ⟨L, fr, te, h1, h2, rfl, h4⟩ := h
  intro x hx
  obtain ⟨p, hp, rfl⟩ := List.mem_map.1 hx
  exact h2.good p hp
theorem IsTurns.few (h : IsTurns w b l n) : l.length ≤ 65536 := by
  obtain ⟨L, fr, te, h1, h2, rfl, h4⟩ := h
  simpa using h2.few

theorem TurnsOk.empty : TurnsOk [] 0 0 := ⟨Int.le_refl _, Int.le_refl _, by simp, by simp, by simp, by simp, by simp⟩

theorem TurnsOk.at_none {x : Int} (h : TurnsOk L fr te) : aget (L.map sw) x = none ↔ x ∉ L.map (·.2) := by
  rw [aget_none]
  constructor
  · intro h hx
    obtain ⟨p, hp, rfl⟩ := List.mem_map.1 hx
    exact h (sw p) (List.mem_map.2 ⟨p, hp, rfl⟩) rfl
  · intro h p hp e
    obtain ⟨q, hq, rfl⟩ := List.mem_map.1 hp
    exact h (List.mem_map.2 ⟨q, hq, e⟩)
theorem TurnsOk.at_some {x : Int} (h : TurnsOk L fr te) (hx : x ∈ L.map (·.2)) : ∃ t, (t, x) ∈ L ∧ aget (L.map sw) x = some t ∧ 0 ≤ t ∧ t < te := by
  obtain ⟨p, hp, rfl⟩ := List.mem_map.1 hx
  refine ⟨p.1, hp, ?_, ?_, (h.turns p hp).2⟩
  · refine aget_of_mem ?_ (List.mem_map.2 ⟨p, hp, rfl⟩)
    rw [List.pairwise_map]
    exact h.items
  · have := (h.turns p hp).1; have := h.fr0; omega
theorem TurnsOk.turnsNe (h : TurnsOk L fr te) : L.Pairwise (fun p q => p.1 ≠ q.1) := h.sorted.imp (fun h e => by omega)
/-- A new one behind. -/
theorem TurnsOk.push {x : Int} (h : TurnsOk L fr te) (hx : x ∉ L.map (·.2)) (hg : goodI x) (hf : L.length < 65536) :
    TurnsOk (L ++ [(te, x)]) fr (te + 1) ∧ aput (L.map sw) x te = (L ++ [(te, x)]).map sw ∧ aput L te x = L ++ [(te, x)] := by
  refine ⟨⟨h.fr0, by have := h.frto; omega, ?_, ?_, ?_, ?_, by simp; omega⟩, ?_, ?_⟩
  · rw [List.pairwise_append]
    refine ⟨h.sorted, by simp, fun p hp q hq => ?_⟩
    rw [List.mem_singleton.1 hq]
    exact (h.turns p hp).2
  · rw [List.pairwise_append]
    refine ⟨h.items, by simp, fun p hp q hq e => hx ?_⟩
    rw [List.mem_singleton.1 hq] at e
    exact List.mem_map.2 ⟨p, hp, e⟩
  · intro p hp
    rcases List.mem_append.1 hp with hp | hp
    · have := h.turns p hp; omega
    · rw [List.mem_singleton.1 hp]; have := h.frto; simp; omega
  · intro p hp
    rcases List.mem_append.1 hp with hp | hp
    · exact h.good p hp
    · rw [List.mem_singleton.1 hp]; exact hg
  · rw [aput_new (h.at_none.2 hx), List.map_append]; rfl
  · exact aput_new (aget_none.2 fun p hp e => by have := (h.turns p hp).2; omega)
/-- One is taken out. -/
theorem TurnsOk.drop {x t : Int} (h : TurnsOk L fr te) (ht : (t, x) ∈ L) :
    TurnsOk (adel L t) fr te ∧ adel (L.map sw) x = (adel L t).map sw ∧ (adel L t).map (·.2) = (L.map (·.2)).filter (fun y => decide (y ≠ x)) := by
  have key : ∀ q ∈ L, decide (q.1 ≠ t) = decide (q.2 ≠ x) := by
    intro q hq
    have h1 : q.1 = t ↔ q.2 = x := by
      constructor
      · intro e
        have a1 := aget_of_mem h.turnsNe (x := t) (v := x) ht
        have a2 := aget_of_mem h.turnsNe (x := q.1) (v := q.2) hq
        rw [e, a1] at a2
        exact (Option.some.inj a2).symm
      · intro e
        have hw : (L.map sw).Pairwise (fun p q => p.1 ≠ q.1) := by rw [List.pairwise_map]; exact h.items
        have a1 := aget_of_mem hw (x := x) (v := t) (List.mem_map.2 ⟨_, ht, rfl⟩)
        have a2 := aget_of_mem hw (x := q.2) (v := q.1) (List.mem_map.2 ⟨_, hq, rfl⟩)
        rw [e, a1] at a2
        exact (Option.some.inj a2).symm
    simp [h1]
  refine ⟨⟨h.fr0, h.frto, h.sorted.filter _, h.items.filter _, fun p hp => h.turns p (List.mem_filter.1 hp).1, fun p hp => h.good p (List.mem_filter.1 hp).1, Nat.le_trans (List.length_filter_le _ _) h.few⟩, ?_, ?_⟩
  · unfold adel
    rw [List.filter_map]
    congr 1
    exact List.filter_congr (fun q hq => (key q hq).symm)
  · unfold adel
    rw [List.filter_map]
    congr 1
    exact List.filter_congr key
theorem TurnsOk.from_ {fr' : Int} (h : TurnsOk L fr te) (h0 : fr ≤ fr') (h1 : fr' ≤ te) (h2 : ∀ p ∈ L, fr' ≤ p.1) : TurnsOk L fr' te :=
  ⟨by have := h.fr0; omega, h1, h.sorted, h.items, fun p hp => ⟨h2 p hp, (h.turns p hp).2⟩, h.good, h.few⟩
/-- The first one. -/
theorem TurnsOk.head {p : Int × Int} {L' : List (Int × Int)} (h : TurnsOk (p :: L') fr te) : aget (p :: L') p.1 = some p.2 ∧ ∀ t, t < p.1 → aget (p :: L') t = none := by
  refine ⟨by rw [aget_cons, if_pos rfl], fun t ht => aget_none.2 fun q hq e => ?_⟩
  rcases List.mem_cons.1 hq with rfl | hq
  · omega
  · have := (List.pairwise_cons.1 h.sorted).1 q hq; omega
end
end Go.Proofs.Ytljckmiphkoipaa

/-
  The queue by turn: what each of its functions does, over IsTurns.
-/
namespace Go.Proofs.Ytljckmiphkoipaa
set_option linter.unusedVariables false
set_option linter.unusedSimpArgs false
open Go.RowKit Go.MapKept Go.Maps Go.Proofs.YtljckmiphkoipaaW.PrintWords Go.Proofs.YtljckmiphkoipaaW.PrintLast Go.Proofs.YtljckmiphkoipaaW.PrintMore

theorem newTurns_calls (w : World) : Calls Try.prog 38 #[] w fun e w' => ∃ b, e = .returned (.pointer (some ⟨b + 2, 0, none⟩)) ∧ b = w.heap.size ∧ IsTurns w' b [] 0 ∧ Below w.heap.size w w' := by
  have hmm := @run_makeMap Try.prog
  go_enter Try.func38, Try.ntmps38
  go_wp2
  go_ret
  refine ⟨w.heap.size, rfl, rfl, ⟨[], 0, 0, ⟨?_, ?_, ?_⟩, TurnsOk.empty, rfl, Int.le_refl _⟩, ((((Below.refl _ _).alloc (Nat.le_refl _) _).alloc (by simp) _).alloc (by simp; omega) _)⟩
  · have h := heap_alloc_new ((w.alloc (Obj.map #[] 0)).alloc (Obj.map #[] 0)) (.cells #[.map (some w.heap.size), .map (some (w.heap.size + 1)), .int .i64 0, .int .i64 0] 126)
    simpa using h
  · have h := IsMap.made (κ := Int) (ν := Int) (Value.int .i64) (Value.int .i64) goodI w
    exact h.of_block ((Below.heap_alloc _ _ _ (by simp; omega)).trans (Below.heap_alloc _ _ _ (by simp)))
  · have h := IsMap.made (κ := Int) (ν := Int) (Value.int .i64) (Value.int .i64) goodI (w.alloc (Obj.map #[] 0))
    rw [show (w.alloc (Obj.map #[] 0)).heap.size = w.heap.size + 1 by simp] at h
    exact h.of_block (Below.heap_alloc _ _ _ (by simp))

section
variable (w : World) (b : Nat) (l : List Int) (n x : Int)

theorem has_calls (h : IsTurns w b l n) (hx : goodI x) : Calls Try.prog 71 #[.pointer (some ⟨b + 2, 0, none⟩), .int .i64 x] w fun e w' => e = .returned (.bool (decide (x ∈ l))) ∧ w' = w := by
  obtain ⟨L, fr, te, h1, h2, rfl, h4⟩ := h
  have c0 : w.cell? ⟨b + 2, 0, none⟩ = some (.map (some b)) := (blk_cell h1.blk 0).trans rfl
  have hl : ∃ v, (Instr.lookup 109 (.map (some b)) (.int .i64 x) true).run Try.prog w = .ok (.tuple #[v, .bool (decide (x ∈ L.map (·.2)))]) w := by
    by_cases hm : x ∈ L.map (·.2)
    · obtain ⟨t, ht, ha, _⟩ := h2.at_some hm
      exact ⟨_, by simpa [hm] using h1.at_.look_some keyI undII hx ha true⟩
    · exact ⟨_, by simpa [hm] using h1.at_.look_none keyI undII hx (h2.at_none.2 hm) (zeroI _) true⟩
  obtain ⟨v, hl⟩ := hl
  generalize decide (x ∈ L.map (·.2)) = r at hl ⊢
  clear h1 h2
  go_enter Try.func71, Try.ntmps71
  go_wp2
  go_ret
  exact ⟨rfl, rfl⟩
theorem has_nil (x : Int) : Calls Try.prog 71 #[.pointer none, .int .i64 x] w fun e w' => e = .returned (.bool false) ∧ w' = w := by
  go_enter Try.func71, Try.ntmps71
  go_wp2
  go_ret
  exact ⟨rfl, rfl⟩

theorem len_calls (h : IsTurns w b l n) : Calls Try.prog 76 #[.pointer (some ⟨b + 2, 0, none⟩)] w fun e w' => e = .returned (.int .i64 (l.length : Int)) ∧ w' = w := by
  obtain ⟨L, fr, te, h1, h2, rfl, h4⟩ := h
  have c0 : w.cell? ⟨b + 2, 0, none⟩ = some (.map (some b)) := (blk_cell h1.blk 0).trans rfl
  have hl := fun u => h1.at_.run_len undII u
  simp only [List.length_map] at hl ⊢
  generalize (L.length : Int) = r at hl ⊢
  clear h1 h2
  go_enter Try.func76, Try.ntmps76
  go_wp2
  go_ret
  exact ⟨rfl, rfl⟩
theorem len_nil : Calls Try.prog 76 #[.pointer none] w fun e w' => e = .returned (.int .i64 0) ∧ w' = w := by
  go_enter Try.func76, Try.ntmps76
  go_wp2
  go_ret
  exact ⟨rfl, rfl⟩

theorem put_there (h : IsTurns w b l n) (hx : goodI x) (hm : x ∈ l) : Calls Try.prog 47 #[.pointer (some ⟨b + 2, 0, none⟩), .int .i64 x] w fun e w' => e = .returned (.int .i64 40) ∧ w' = w := by
  have hc := has_calls w b l n x h hx
  simp only [hm, decide_true] at hc
  clear h
  go_enter Try.func47, Try.ntmps47
  go_wp2_with (go_at_call 71; refine hc.mono ?_; rintro e w ⟨rfl, rfl⟩)
  go_ret
  exact ⟨rfl, rfl⟩
theorem put_nil (x : Int) : Calls Try.prog 47 #[.pointer none, .int .i64 x] w fun e w' => e = .returned (.int .i64 3) ∧ w' = w := by
  go_enter Try.func47, Try.ntmps47
  go_wp2
  go_ret
  exact ⟨rfl, rfl⟩
theorem put_full (h : IsTurns w b l n) (hx : goodI x) (hm : x ∉ l) (hf : l.length = 65536) : Calls Try.prog 47 #[.pointer (some ⟨b + 2, 0, none⟩), .int .i64 x] w fun e w' => e = .returned (.int .i64 3) ∧ w' = w := by
  have hc := has_calls w b l n x h hx
  simp only [hm, decide_false] at hc
  obtain ⟨L, fr, te, h1, h2, rfl, h4⟩ := h
  have c0 : w.cell? ⟨b + 2, 0, none⟩ = some (.map (some b)) := (blk_cell h1.blk 0).trans rfl
  have hl := fun u => h1.at_.run_len undII u
  simp only [List.length_map] at hl hf
  simp only [hf] at hl
  clear h1 h2 h4
  go_enter Try.func47, Try.ntmps47
  go_wp2_with (go_at_call 71; refine hc.mono ?_; rintro e w ⟨rfl, rfl⟩)
  go_ret
  exact ⟨rfl, rfl⟩
set_option maxRecDepth 100000 in
set_option maxHeartbeats 4000000 in
theorem put_new (h : IsTurns w b l n) (hx : goodI x) (hm : x ∉ l) (hf : l.length < 65536) (hn : n < 4611686018427387904) : Calls Try.prog 47 #[.pointer (some ⟨b + 2, 0, none⟩), .int .i64 x] w fun e w' => e = .returned (.int .i64 0) ∧ IsTurns w' b (l ++ [x]) (n + 1) ∧ Only (tfoot b) w w' := by
  have hc := has_calls w b l n x h hx
  simp only [hm, decide_false] at hc
  obtain ⟨L, fr, te, h1, h2, rfl, h4⟩ := h
  have hlt := h1.lt
  have c0 : w.cell? ⟨b + 2, 0, none⟩ = some (.map (some b)) := (blk_cell h1.blk 0).trans rfl
  have c1 : w.cell? ⟨b + 2, 1, none⟩ = some (.map (some (b + 1))) := (blk_cell h1.blk 1).trans rfl
  have c3 : w.cell? ⟨b + 2, 3, none⟩ = some (.int .i64 te) := (blk_cell h1.blk 3).trans rfl
  have hl := fun u => h1.at_.run_len undII u
  simp only [List.length_map] at hl hf
  have hfull : decide ((65536 : Int) ≤ (L.length : Int)) = false := decide_eq_false (by omega)
  have hte : goodI te := goodI_of (by have := h2.fr0; have := h2.frto; omega) (by omega)
  obtain ⟨p1, p2, p3⟩ := h2.push hm hx hf
  have H := Aside0.mk (And.intro h1 (And.intro h2 (And.intro h4 (And.intro p1 (And.intro p2 (And.intro p3 (And.intro hx (And.intro hte (And.intro hlt hn)))))))))
  clear h1 h2 h4 p1 p2 p3 hx hm hf hte hlt hn
  go_enter Try.func47, Try.ntmps47
  go_wp2_with (go_at_call 71; refine hc.mono ?_; rintro e w ⟨rfl, rfl⟩)
  refine start_ (n := 24) (S := fun w' => w'.cell? ⟨b + 2, 0, none⟩ = some (.map (some b)) ∧ w'.cell? ⟨b + 2, 1, none⟩ = some (.map (some (b + 1))) ∧ w'.cell? ⟨b + 2, 3, none⟩ = some (.int .i64 te)) (ds := []) #[false, false, false, false, false, false, false, false, false, false, false, false, false, false, false, false, false, false, false, false, false, false, false, false] (by kernel_rfl) rfl rfl ⟨c0, c1, c3⟩ (fun hHeld => ?_)
  refine pure_ (i := 0) (N := some 19) (v := ?_) (a' := ?_) #[true, false, false, false, false, false, false, false, false, false, false, false, false, false, false, false, false, false, false, false, false, false, false, false] rfl rfl (by kernel_rfl) (fun _ _ _ h => h) (Or.inl ⟨by rfl, ?_⟩) ?_ ?_
  rotate_left
  · intro w'
    go_simp
    with_reducible rfl
  rotate_left
  · simp only [Act.put, List.setIfInBounds_toArray, List.set_cons_zero, List.set_cons_succ, i64_w, i32_w]
    rfl
  refine pure_ (i := 1) (N := some 20) (v := ?_) (a' := ?_) #[true, true, false, false, false, false, false, false, false, false, false, false, false, false, false, false, false, false, false, false, false, false, false, false] rfl rfl (by kernel_rfl) (fun _ _ _ h => h) (Or.inl ⟨by rfl, ?_⟩) ?_ ?_
  rotate_left
  · intro w'
    go_simp
    with_reducible rfl
  rotate_left
  · simp only [Act.put, List.setIfInBounds_toArray, List.set_cons_zero, List.set_cons_succ, i64_w, i32_w]
    rfl
  refine pure_ (i := 2) (N := some 21) (v := ?_) (a' := ?_) #[true, true, true, false, false, false, false, false, false, false, false, false, false, false, false, false, false, false, false, false, false, false, false, false] rfl rfl (by kernel_rfl) (fun _ _ _ h => h) (Or.inl ⟨by rfl, ?_⟩) ?_ ?_
  rotate_left
  · intro w'
    go_simp
    with_reducible rfl
  rotate_left
  · simp only [Act.put, List.setIfInBounds_toArray, List.set_cons_zero, List.set_cons_succ, i64_w, i32_w]
    rfl
  refine pure_ (i := 4) (N := some 23) (v := ?_) (a' := ?_) #[true, true, true, false, true, false, false, false, false, false, false, false, false, false, false, false, false, false, false, false, false, false, false, false] rfl rfl (by kernel_rfl) (fun _ _ _ h => h) (Or.inl ⟨by rfl, ?_⟩) ?_ ?_
  rotate_left
  · intro w'
    go_simp
    with_reducible rfl
  rotate_left
  · simp only [Act.put, List.setIfInBounds_toArray, List.set_cons_zero, List.set_cons_succ, i64_w, i32_w]
    rfl
  refine pure_ (i := 5) (N := some 24) (v := ?_) (a' := ?_) #[true, true, true, false, true, true, false, false, false, false, false, false, false, false, false, false, false, false, false, false, false, false, false, false] rfl rfl (by kernel_rfl) (fun _ _ _ h => h) (Or.inl ⟨by rfl, ?_⟩) ?_ ?_
  rotate_left
  · intro w'
    go_simp
    with_reducible rfl
  rotate_left
  · simp only [Act.put, List.setIfInBounds_toArray, List.set_cons_zero, List.set_cons_succ, i64_w, i32_w]
    rfl
  refine pure_ (i := 6) (N := some 25) (v := ?_) (a' := ?_) #[true, true, true, false, true, true, true, false, false, false, false, false, false, false, false, false, false, false, false, false, false, false, false, false] rfl rfl (by kernel_rfl) (fun _ _ _ h => h) (Or.inl ⟨by rfl, ?_⟩) ?_ ?_
  rotate_left
  · intro w'
    go_simp
    with_reducible rfl
  rotate_left
  · simp only [Act.put, List.setIfInBounds_toArray, List.set_cons_zero, List.set_cons_succ, i64_w, i32_w]
    rfl
  refine pure_ (i := 7) (N := some 26) (v := ?_) (a' := ?_) #[true, true, true, false, true, true, true, true, false, false, false, false, false, false, false, false, false, false, false, false, false, false, false, false] rfl rfl (by kernel_rfl) (fun _ _ _ h => h) (Or.inl ⟨by rfl, ?_⟩) ?_ ?_
  rotate_left
  · intro w'
    go_simp
    with_reducible rfl
  rotate_left
  · simp only [Act.put, List.setIfInBounds_toArray, List.set_cons_zero, List.set_cons_succ, i64_w, i32_w]
    rfl
  refine pure_ (i := 9) (N := some 28) (v := ?_) (a' := ?_) #[true, true, true, false, true, true, true, true, false, true, false, false, false, false, false, false, false, false, false, false, false, false, false, false] rfl rfl (by kernel_rfl) (fun _ _ _ h => h) (Or.inl ⟨by rfl, ?_⟩) ?_ ?_
  rotate_left
  · intro w'
    go_simp
    with_reducible rfl
  rotate_left
  · simp only [Act.put, List.setIfInBounds_toArray, List.set_cons_zero, List.set_cons_succ, i64_w, i32_w]
    rfl
  refine pure_ (i := 10) (N := some 29) (v := ?_) (a' := ?_) #[true, true, true, false, true, true, true, true, false, true, true, false, false, false, false, false, false, false, false, false, false, false, false, false] rfl rfl (by kernel_rfl) (fun _ _ _ h => h) (Or.inl ⟨by rfl, ?_⟩) ?_ ?_
  rotate_left
  · intro w'
    go_simp
    with_reducible rfl
  rotate_left
  · simp only [Act.put, List.setIfInBounds_toArray, List.set_cons_zero, List.set_cons_succ, i64_w, i32_w]
    rfl
  refine pure_ (i := 11) (N := some 30) (v := ?_) (a' := ?_) #[true, true, true, false, true, true, true, true, false, true, true, true, false, false, false, false, false, false, false, false, false, false, false, false] rfl rfl (by kernel_rfl) (fun _ _ _ h => h) (Or.inl ⟨by rfl, ?_⟩) ?_ ?_
  rotate_left
  · intro w'
    go_simp
    with_reducible rfl
  rotate_left
  · simp only [Act.put, List.setIfInBounds_toArray, List.set_cons_zero, List.set_cons_succ, i64_w, i32_w]
    rfl
  refine pure_ (i := 13) (N := some 32) (v := ?_) (a' := ?_) #[true, true, true, false, true, true, true, true, false, true, true, true, false, true, false, false, false, false, false, false, false, false, false, false] rfl rfl (by kernel_rfl) (fun _ _ _ h => h) (Or.inl ⟨by rfl, ?_⟩) ?_ ?_
  rotate_left
  · intro w'
    go_simp
    with_reducible rfl
  rotate_left
  · simp only [Act.put, List.setIfInBounds_toArray, List.set_cons_zero, List.set_cons_succ, i64_w, i32_w]
    rfl
  refine pure_ (i := 14) (N := some 33) (v := ?_) (a' := ?_) #[true, true, true, false, true, true, true, true, false, true, true, true, false, true, true, false, false, false, false, false, false, false, false, false] rfl rfl (by kernel_rfl) (fun _ _ _ h => h) (Or.inl ⟨by rfl, ?_⟩) ?_ ?_
  rotate_left
  · intro w'
    go_simp
    with_reducible rfl
  rotate_left
  · simp only [Act.put, List.setIfInBounds_toArray, List.set_cons_zero, List.set_cons_succ, i64_w, i32_w]
    rfl
  refine pure_ (i := 15) (N := some 34) (v := ?_) (a' := ?_) #[true, true, true, false, true, true, true, true, false, true, true, true, false, true, true, true, false, false, false, false, false, false, false, false] rfl rfl (by kernel_rfl) (fun _ _ _ h => h) (Or.inl ⟨by rfl, ?_⟩) ?_ ?_
  rotate_left
  · intro w'
    go_simp
    with_reducible rfl
  rotate_left
  · simp only [Act.put, List.setIfInBounds_toArray, List.set_cons_zero, List.set_cons_succ, i64_w, i32_w]
    rfl
  refine pure_ (i := 17) (N := some 36) (v := ?_) (a' := ?_) #[true, true, true, false, true, true, true, true, false, true, true, true, false, true, true, true, false, true, false, false, false, false, false, false] rfl rfl (by kernel_rfl) (fun _ _ _ h => h) (Or.inl ⟨by rfl, ?_⟩) ?_ ?_
  rotate_left
  · intro w'
    go_simp
    with_reducible rfl
  rotate_left
  · simp only [Act.put, List.setIfInBounds_toArray, List.set_cons_zero, List.set_cons_succ, i64_w, i32_w]
    rfl
  refine take_ (i := 3) (N := some 22) (v := ?_) (a' := ?_) #[true, true, true, true, true, true, true, true, false, true, true, true, false, true, true, true, false, true, false, false, false, false, false, false] rfl rfl (by kernel_rfl) (fun _ _ _ h => h) (Or.inl ⟨by rfl, ?_⟩) hHeld ?_ ?_
  rotate_left
  · rintro w' ⟨s0, s1, s2⟩
    go_simp
    with_reducible rfl
  rotate_left
  · simp only [Act.put, List.setIfInBounds_toArray, List.set_cons_zero, List.set_cons_succ, i64_w, i32_w]
    rfl
  refine take_ (i := 8) (N := some 27) (v := ?_) (a' := ?_) #[true, true, true, true, true, true, true, true, true, true, true, true, false, true, true, true, false, true, false, false, false, false, false, false] rfl rfl (by kernel_rfl) (fun _ _ _ h => h) (Or.inl ⟨by rfl, ?_⟩) hHeld ?_ ?_
  rotate_left
  · rintro w' ⟨s0, s1, s2⟩
    go_simp
    with_reducible rfl
  rotate_left
  · simp only [Act.put, List.setIfInBounds_toArray, List.set_cons_zero, List.set_cons_succ, i64_w, i32_w]
    rfl
  refine take_ (i := 12) (N := some 31) (v := ?_) (a' := ?_) #[true, true, true, true, true, true, true, true, true, true, true, true, true, true, true, true, false, true, false, false, false, false, false, false] rfl rfl (by kernel_rfl) (fun _ _ _ h => h) (Or.inl ⟨by rfl, ?_⟩) hHeld ?_ ?_
  rotate_left
  · rintro w' ⟨s0, s1, s2⟩
    go_simp
    with_reducible rfl
  rotate_left
  · simp only [Act.put, List.setIfInBounds_toArray, List.set_cons_zero, List.set_cons_succ, i64_w, i32_w]
    rfl
  refine take_ (i := 16) (N := some 35) (v := ?_) (a' := ?_) #[true, true, true, true, true, true, true, true, true, true, true, true, true, true, true, true, true, true, false, false, false, false, false, false] rfl rfl (by kernel_rfl) (fun _ _ _ h => h) (Or.inl ⟨by rfl, ?_⟩) hHeld ?_ ?_
  rotate_left
  · rintro w' ⟨s0, s1, s2⟩
    go_simp
    with_reducible rfl
  rotate_left
  · simp only [Act.put, List.setIfInBounds_toArray, List.set_cons_zero, List.set_cons_succ, i64_w, i32_w]
    rfl
  refine one_ (i := 18) (N := some 37) #[true, true, true, true, true, true, true, true, true, true, true, true, true, true, true, true, true, true, true, false, false, false, false, false] rfl rfl (by kernel_rfl) (by decide) (fun K hK => ?_)
  obtain ⟨v0, st, w1, hr1, _, _, hh1, ho1, hs1⟩ := (H.out.1.at_.of_block (w' := w.drew) rfl).run_entry keyI undII H.out.2.2.2.2.2.2.1 (zeroI _)
  have K1 : w1.heap[b + 2]? = _ := (ho1.block _ H.out.2.2.2.2.2.2.2.2.1 (by omega)).trans H.out.1.blk
  refine value_ (w1 := w1) (v := .tuple #[v0, .int .i64 (st : Int)]) (by rfl) rfl (by go_simp) ?_
  replace hr1 := Aside0.mk hr1
  replace hs1 := Aside0.mk hs1
  refine hK.out _ _ ⟨(blk_cell K1 0).trans rfl, (blk_cell K1 1).trans rfl, (blk_cell K1 3).trans rfl⟩ (fun hHeld => ?_)
  clear hK K
  refine norm_ (a' := ?_) ?_ ?_
  rotate_left
  · show Act.put _ (some 37) _ = _
    simp only [Act.put, List.setIfInBounds_toArray, List.set_cons_zero, List.set_cons_succ, i64_w, i32_w]
    rfl
  refine pure_ (i := 19) (N := some 38) (v := ?_) (a' := ?_) #[true, true, true, true, true, true, true, true, true, true, true, true, true, true, true, true, true, true, true, true, false, false, false, false] rfl rfl (by kernel_rfl) (fun _ _ _ h => h) (Or.inl ⟨by rfl, ?_⟩) ?_ ?_
  rotate_left
  · intro w'
    go_simp
    with_reducible rfl
  rotate_left
  · simp only [Act.put, List.setIfInBounds_toArray, List.set_cons_zero, List.set_cons_succ, i64_w, i32_w]
    rfl
  refine one_ (i := 20) (N := none) #[true, true, true, true, true, true, true, true, true, true, true, true, true, true, true, true, true, true, true, true, true, false, false, false] rfl rfl (by kernel_rfl) (by decide) (fun K hK => ?_)
  obtain ⟨w2, hr2, hm2, ho2, hs2⟩ := hh1.run_store (P := Try.prog) (t := 109) te
  have K2 : w2.heap[b + 2]? = _ := (ho2.block _ (by rw [hs1.out]; exact H.out.2.2.2.2.2.2.2.2.1) (by omega)).trans K1
  refine skip_ (w1 := w2) (by rfl) rfl (by go_simp) ?_
  replace hr2 := Aside0.mk hr2
  replace hs2 := Aside0.mk hs2
  refine hK.out _ _ ⟨(blk_cell K2 0).trans rfl, (blk_cell K2 1).trans rfl, (blk_cell K2 3).trans rfl⟩ (fun hHeld => ?_)
  clear hK K
  refine one_ (i := 21) (N := some 39) #[true, true, true, true, true, true, true, true, true, true, true, true, true, true, true, true, true, true, true, true, true, true, false, false] rfl rfl (by kernel_rfl) (by decide) (fun K hK => ?_)
  have m2 : MII w2 (b + 1) L := (H.out.1.items.of_block (w' := w.drew) rfl).only (ho1.trans ho2) (by omega)
  obtain ⟨v1, st1, w3, hr3, _, _, hh3, ho3, hs3⟩ := m2.run_entry keyI undII H.out.2.2.2.2.2.2.2.1 (zeroI _)
  have K3 : w3.heap[b + 2]? = _ := (ho3.block _ (by rw [hs2.out, hs1.out]; exact H.out.2.2.2.2.2.2.2.2.1) (by omega)).trans K2
  refine value_ (w1 := w3) (v := .tuple #[v1, .int .i64 (st1 : Int)]) (by rfl) rfl (by go_simp) ?_
  replace hr3 := Aside0.mk hr3
  replace hs3 := Aside0.mk hs3
  refine hK.out _ _ ⟨(blk_cell K3 0).trans rfl, (blk_cell K3 1).trans rfl, (blk_cell K3 3).trans rfl⟩ (fun hHeld => ?_)
  clear hK K
  refine norm_ (a' := ?_) ?_ ?_
  rotate_left
  · show Act.put _ (some 39) _ = _
    simp only [Act.put, List.setIfInBounds_toArray, List.set_cons_zero, List.set_cons_succ, i64_w, i32_w]
    rfl
  refine pure_ (i := 22) (N := some 40) (v := ?_) (a' := ?_) #[true, true, true, true, true, true, true, true, true, true, true, true, true, true, true, true, true, true, true, true, true, true, true, false] rfl rfl (by kernel_rfl) (fun _ _ _ h => h) (Or.inl ⟨by rfl, ?_⟩) ?_ ?_
  rotate_left
  · intro w'
    go_simp
    with_reducible rfl
  rotate_left
  · simp only [Act.put, List.setIfInBounds_toArray, List.set_cons_zero, List.set_cons_succ, i64_w, i32_w]
    rfl
  refine one_ (i := 23) (N := none) #[true, true, true, true, true, true, true, true, true, true, true, true, true, true, true, true, true, true, true, true, true, true, true, true] rfl rfl (by kernel_rfl) (by decide) (fun K hK => ?_)
  obtain ⟨w4, hr4, hm4, ho4, hs4⟩ := hh3.run_store (P := Try.prog) (t := 109) x
  have K4 : w4.heap[b + 2]? = _ := (ho4.block _ (by rw [hs3.out, hs2.out, hs1.out]; exact H.out.2.2.2.2.2.2.2.2.1) (by omega)).trans K3
  refine skip_ (w1 := w4) (by rfl) rfl (by go_simp) ?_
  replace hr4 := Aside0.mk hr4
  replace hs4 := Aside0.mk hs4
  refine hK.out _ _ ⟨(blk_cell K4 0).trans rfl, (blk_cell K4 1).trans rfl, (blk_cell K4 3).trans rfl⟩ (fun hHeld => ?_)
  clear hK K
  refine done_ (by kernel_rfl) ?_
  have c3' : w4.cell? ⟨b + 2, 3, none⟩ = some (.int .i64 te) := (blk_cell K4 3).trans rfl
  have f3' := blk_frozen K4 3
  go_wp2
  go_ret
  obtain ⟨h1, h2, h4, p1, p2, p3, hx, hte, hlt, hn⟩ := H.out
  have hwb : -9223372036854775808 ≤ te + 1 ∧ te + 1 ≤ 9223372036854775807 := by
    have := h2.fr0
    have := h2.frto
    omega
  have hw : IntKind.i64.wrap (te + 1) = te + 1 := by rw [i64_w]; exact w64 _ hwb
  have hT : ∀ i, tfoot b i → b ≤ i ∧ i ≤ b + 2 := fun _ h => h
  have o2 : Only (fun i => i = b) w w2 := (show Only (fun i => i = b) w w1 from ⟨ho1.os, ho1.tape, ho1.output, ho1.size, ho1.block⟩).trans ho2
  have o4 : Only (fun i => i = b + 1) w2 w4 := ho3.trans ho4
  refine ⟨rfl, ⟨L ++ [(te, x)], fr, te + 1, ⟨?_, ?_, ?_⟩, p1, by simp, by omega⟩, ?_⟩
  · exact blk_put K4 3 _ (by simp [hw, w64 _ hwb])
  · rw [← p2]
    exact (hm2.only o4 (by omega)).of_block (Below.heap_setCell _ _ _ _ (by simp))
  · rw [← p3]
    exact hm4.of_block (Below.heap_setCell _ _ _ _ (by simp))
  · exact ((o2.mono (G := tfoot b) (fun i _ e => ⟨by omega, by omega⟩)).then (o4.mono (G := tfoot b) (fun i _ e => ⟨by omega, by omega⟩)) (fun _ _ h => h)).setCell (fun _ => ⟨by simp, by simp⟩) _

theorem drop_not (h : IsTurns w b l n) (hx : goodI x) (hm : x ∉ l) : Calls Try.prog 44 #[.pointer (some ⟨b + 2, 0, none⟩), .int .i64 x] w fun e w' => e = .returned (.bool false) ∧ w' = w := by
  have hc := has_calls w b l n x h hx
  simp only [hm, decide_false] at hc
  clear h
  go_enter Try.func44, Try.ntmps44
  go_wp2_with (go_at_call 71; refine hc.mono ?_; rintro e w ⟨rfl, rfl⟩)
  go_ret
  exact ⟨rfl, rfl⟩
theorem drop_nil (x : Int) : Calls Try.prog 44 #[.pointer none, .int .i64 x] w fun e w' => e = .returned (.bool false) ∧ w' = w := by
  have hc := has_nil w x
  go_enter Try.func44, Try.ntmps44
  go_wp2_with (go_at_call 71; refine hc.mono ?_; rintro e w ⟨rfl, rfl⟩)
  go_ret
  exact ⟨rfl, rfl⟩
set_option maxRecDepth 100000 in
set_option maxHeartbeats 4000000 in
theorem drop_in (h : IsTurns w b l n) (hx : goodI x) (hm : x ∈ l) : Calls Try.prog 44 #[.pointer (some ⟨b + 2, 0, none⟩), .int .i64 x] w fun e w' => e = .returned (.bool true) ∧ IsTurns w' b (l.filter (fun y => decide (y ≠ x))) n ∧ Only (tfoot b) w w' := by
  have hc := has_calls w b l n x h hx
  simp only [hm, decide_true] at hc
  obtain ⟨L, fr, te, h1, h2, rfl, h4⟩ := h
  have hlt := h1.lt
  have c0 : w.cell? ⟨b + 2, 0, none⟩ = some (.map (some b)) := (blk_cell h1.blk 0).trans rfl
  have c1 : w.cell? ⟨b + 2, 1, none⟩ = some (.map (some (b + 1))) := (blk_cell h1.blk 1).trans rfl
  obtain ⟨t, ht, ha, ht0, ht1⟩ := h2.at_some hm
  have hgt : goodI t := by
    have := h1.items.goods _ ht
    exact this
  obtain ⟨p1, p2, p3⟩ := h2.drop ht
  have hl : (Instr.lookup 109 (.map (some b)) (.int .i64 x) false).run Try.prog w.drew = .ok (.int .i64 t) w.drew := by simpa using (h1.at_.of_block (w' := w.drew) rfl).look_some keyI undII hx ha false
  have H := Aside0.mk (And.intro h1 (And.intro h4 (And.intro p1 (And.intro p2 (And.intro p3 (And.intro hx (And.intro hgt hlt)))))))
  clear h1 h2 h4 p1 p2 p3 hx hm hgt hlt ht ha ht0 ht1
  go_enter Try.func44, Try.ntmps44
  go_wp2_with (go_at_call 71; refine hc.mono ?_; rintro e w ⟨rfl, rfl⟩)
  refine start_ (n := 11) (S := fun w' => w'.cell? ⟨b + 2, 0, none⟩ = some (.map (some b)) ∧ w'.cell? ⟨b + 2, 1, none⟩ = some (.map (some (b + 1))) ∧ (Instr.lookup 109 (.map (some b)) (.int .i64 x) false).run Try.prog w' = .ok (.int .i64 t) w') (ds := [10]) #[false, false, false, false, false, false, false, false, false, false, false] (by kernel_rfl) rfl rfl ⟨c0, c1, hl⟩ (fun hHeld => ?_)
  refine pure_ (i := 0) (N := some 9) (v := ?_) (a' := ?_) #[true, false, false, false, false, false, false, false, false, false, false] rfl rfl (by kernel_rfl) (fun _ _ _ h => h) (Or.inl ⟨by rfl, ?_⟩) ?_ ?_
  rotate_left
  · intro w'
    go_simp
    with_reducible rfl
  rotate_left
  · simp only [Act.put, List.setIfInBounds_toArray, List.set_cons_zero, List.set_cons_succ, i64_w, i32_w]
    rfl
  refine pure_ (i := 1) (N := some 10) (v := ?_) (a' := ?_) #[true, true, false, false, false, false, false, false, false, false, false] rfl rfl (by kernel_rfl) (fun _ _ _ h => h) (Or.inl ⟨by rfl, ?_⟩) ?_ ?_
  rotate_left
  · intro w'
    go_simp
    with_reducible rfl
  rotate_left
  · simp only [Act.put, List.setIfInBounds_toArray, List.set_cons_zero, List.set_cons_succ, i64_w, i32_w]
    rfl
  refine pure_ (i := 2) (N := some 11) (v := ?_) (a' := ?_) #[true, true, true, false, false, false, false, false, false, false, false] rfl rfl (by kernel_rfl) (fun _ _ _ h => h) (Or.inl ⟨by rfl, ?_⟩) ?_ ?_
  rotate_left
  · intro w'
    go_simp
    with_reducible rfl
  rotate_left
  · simp only [Act.put, List.setIfInBounds_toArray, List.set_cons_zero, List.set_cons_succ, i64_w, i32_w]
    rfl
  refine pure_ (i := 4) (N := some 13) (v := ?_) (a' := ?_) #[true, true, true, false, true, false, false, false, false, false, false] rfl rfl (by kernel_rfl) (fun _ _ _ h => h) (Or.inl ⟨by rfl, ?_⟩) ?_ ?_
  rotate_left
  · intro w'
    go_simp
    with_reducible rfl
  rotate_left
  · simp only [Act.put, List.setIfInBounds_toArray, List.set_cons_zero, List.set_cons_succ, i64_w, i32_w]
    rfl
  refine pure_ (i := 5) (N := some 14) (v := ?_) (a' := ?_) #[true, true, true, false, true, true, false, false, false, false, false] rfl rfl (by kernel_rfl) (fun _ _ _ h => h) (Or.inl ⟨by rfl, ?_⟩) ?_ ?_
  rotate_left
  · intro w'
    go_simp
    with_reducible rfl
  rotate_left
  · simp only [Act.put, List.setIfInBounds_toArray, List.set_cons_zero, List.set_cons_succ, i64_w, i32_w]
    rfl
  refine pure_ (i := 6) (N := some 15) (v := ?_) (a' := ?_) #[true, true, true, false, true, true, true, false, false, false, false] rfl rfl (by kernel_rfl) (fun _ _ _ h => h) (Or.inl ⟨by rfl, ?_⟩) ?_ ?_
  rotate_left
  · intro w'
    go_simp
    with_reducible rfl
  rotate_left
  · simp only [Act.put, List.setIfInBounds_toArray, List.set_cons_zero, List.set_cons_succ, i64_w, i32_w]
    rfl
  refine pure_ (i := 8) (N := some 17) (v := ?_) (a' := ?_) #[true, true, true, false, true, true, true, false, true, false, false] rfl rfl (by kernel_rfl) (fun _ _ _ h => h) (Or.inl ⟨by rfl, ?_⟩) ?_ ?_
  rotate_left
  · intro w'
    go_simp
    with_reducible rfl
  rotate_left
  · simp only [Act.put, List.setIfInBounds_toArray, List.set_cons_zero, List.set_cons_succ, i64_w, i32_w]
    rfl
  refine take_ (i := 3) (N := some 12) (v := ?_) (a' := ?_) #[true, true, true, true, true, true, true, false, true, false, false] rfl rfl (by kernel_rfl) (fun _ _ _ h => h) (Or.inl ⟨by rfl, ?_⟩) hHeld ?_ ?_
  rotate_left
  · rintro w' ⟨s0, s1, s2⟩
    go_simp
    with_reducible rfl
  rotate_left
  · simp only [Act.put, List.setIfInBounds_toArray, List.set_cons_zero, List.set_cons_succ, i64_w, i32_w]
    rfl
  refine take_ (i := 7) (N := some 16) (v := ?_) (a' := ?_) #[true, true, true, true, true, true, true, true, true, false, false] rfl rfl (by kernel_rfl) (fun _ _ _ h => h) (Or.inl ⟨by rfl, ?_⟩) hHeld ?_ ?_
  rotate_left
  · rintro w' ⟨s0, s1, s2⟩
    go_simp
    with_reducible rfl
  rotate_left
  · simp only [Act.put, List.setIfInBounds_toArray, List.set_cons_zero, List.set_cons_succ, i64_w, i32_w]
    rfl
  refine take_ (i := 9) (N := some 18) (v := ?_) (a' := ?_) #[true, true, true, true, true, true, true, true, true, true, false] rfl rfl (by kernel_rfl) (fun _ _ _ h => h) (Or.inl ⟨by rfl, ?_⟩) hHeld ?_ ?_
  rotate_left
  · rintro w' ⟨s0, s1, s2⟩
    go_simp
    with_reducible rfl
  rotate_left
  · simp only [Act.put, List.setIfInBounds_toArray, List.set_cons_zero, List.set_cons_succ, i64_w, i32_w]
    rfl
  refine last_ (i := 10) (N := none) #[true, true, true, true, true, true, true, true, true, true, true] rfl rfl (by kernel_rfl) (by decide) (fun K hK => ?_)
  obtain ⟨w1, hr1, hm1, ho1, hs1⟩ := (H.out.1.items.of_block (w' := w.drew) rfl).run_delete keyI undII H.out.2.2.2.2.2.2.1 3 0
  refine value_ (w1 := w1) (v := .tuple #[]) (by rfl) rfl (by go_simp) ?_
  replace hr1 := Aside0.mk hr1
  replace hs1 := Aside0.mk hs1
  refine hK.out _ _ ?_
  clear hK K
  refine done_ (by kernel_rfl) ?_
  have K1 : w1.heap[b + 2]? = _ := (ho1.block _ H.out.2.2.2.2.2.2.2 (by omega)).trans H.out.1.blk
  have c0' : w1.cell? ⟨b + 2, 0, none⟩ = some (.map (some b)) := (blk_cell K1 0).trans rfl
  have m1 : MII w1 b (L.map sw) := (H.out.1.at_.of_block (w' := w.drew) rfl).only ho1 (by omega)
  obtain ⟨w2, hr2, hm2, ho2, hs2⟩ := m1.run_delete keyI undII H.out.2.2.2.2.2.1 3 0
  go_wp2
  go_ret
  obtain ⟨h1, h4, p1, p2, p3, hx, hgt, hlt⟩ := H.out
  have o1 : Only (fun i => i = b + 1) w w1 := ⟨ho1.os, ho1.tape, ho1.output, ho1.size, ho1.block⟩
  refine ⟨rfl, ⟨adel L t, fr, te, ⟨?_, ?_, ?_⟩, p1, p3, h4⟩, ?_⟩
  · exact (ho2.block _ (by have := o1.size; omega) (by omega)).trans K1
  · rw [← p2]; exact hm2
  · exact hm1.only ho2 (by omega)
  · exact (o1.mono (G := tfoot b) (fun i _ e => ⟨by omega, by omega⟩)).then (ho2.mono (G := tfoot b) (fun i _ e => ⟨by omega, by omega⟩)) (fun _ _ h => h)

end
end Go.Proofs.Ytljckmiphkoipaa

/-
  The queue by turn: skip, Front, Take, Back.
-/
namespace Go.Proofs.Ytljckmiphkoipaa
set_option linter.unusedVariables false
set_option linter.unusedSimpArgs false
open Go.RowKit Go.MapKept Go.Maps Go.Proofs.YtljckmiphkoipaaW.PrintWords Go.Proofs.YtljckmiphkoipaaW.PrintLast Go.Proofs.YtljckmiphkoipaaW.PrintMore
section
variable (w : World) (b : Nat) (l : List Int) (n x : Int)

theorem TurnsAt.setFrom {w : World} {b : Nat} {L : List (Int × Int)} {f te u : Int} (h : TurnsAt w b L f te) : TurnsAt (w.setCell ⟨b + 2, 2, none⟩ (.int .i64 u)) b L u te :=
  ⟨blk_put h.blk 2 _ rfl, h.at_.of_block (Below.heap_setCell _ _ _ _ (by simp)), h.items.of_block (Below.heap_setCell _ _ _ _ (by simp))⟩

set_option maxRecDepth 100000 in
set_option maxHeartbeats 4000000 in
theorem skip_calls (p : Int × Int) (L' : List (Int × Int)) (fr te : Int) (h1 : TurnsAt w b (p :: L') fr te) (h2 : TurnsOk (p :: L') fr te) (hte : te < 4611686018427387904) :
    Calls Try.prog 101 #[.pointer (some ⟨b + 2, 0, none⟩)] w fun e w' => e = .returned (.tuple #[]) ∧ TurnsAt w' b (p :: L') p.1 te ∧ Only (tfoot b) w w' := by
  have hp := h2.turns p (by simp)
  have h0 := h2.fr0
  have H := Aside0.mk (And.intro h1 (And.intro h2 (And.intro hp (And.intro h0 hte))))
  clear h1 h2 hp h0 hte
  go_enter Try.func101, Try.ntmps101
  go_wp2
  go_loopg [3] ((p.1 - fr).toNat + 1) (fun kq v3 w' => ∃ f : Int, Aside0 (0 ≤ f ∧ f ≤ p.1 ∧ (p.1 - f).toNat < kq) ∧ Aside0 (TurnsAt w' b (p :: L') f te) ∧ Aside0 (Only (tfoot b) w w'))
  case atStart => exact ⟨fr, ⟨H.out.2.2.2.1, H.out.2.2.1.1, by omega⟩, ⟨H.out.1⟩, ⟨Only.refl _ _⟩⟩
  case round =>
    obtain ⟨f, hf, hT, hO⟩ := hrel
    have c1 : wr.cell? ⟨b + 2, 1, none⟩ = some (.map (some (b + 1))) := (blk_cell hT.out.blk 1).trans rfl
    have c2 : wr.cell? ⟨b + 2, 2, none⟩ = some (.int .i64 f) := (blk_cell hT.out.blk 2).trans rfl
    have c3 : wr.cell? ⟨b + 2, 3, none⟩ = some (.int .i64 te) := (blk_cell hT.out.blk 3).trans rfl
    have f2 := blk_frozen hT.out.blk 2
    have hgf : goodI f := goodI_of (by have := hf.out; omega) (by have := hf.out; have := H.out.2.2.1.2; have := H.out.2.2.2.2; omega)
    have hlt : decide (f < te) = true := decide_eq_true (by have := hf.out; have := H.out.2.2.1.2; omega)
    by_cases hfp : f = p.1
    · have hl : (Instr.lookup 109 (.map (some (b + 1))) (.int .i64 f) true).run Try.prog (wr.drew.drew) = .ok (.tuple #[.int .i64 p.2, .bool true]) (wr.drew.drew) := by
        have := (hT.out.items.of_block (w' := wr.drew.drew) rfl).look_some keyI undII hgf (v := p.2) (by rw [hfp]; exact H.out.2.1.head.1) true
        simpa using this
      replace hgf := Aside0.mk hgf
      replace hfp := Aside0.mk hfp
      go_wp2
      refine start_ (n := 9) (S := fun w' => w'.cell? ⟨b + 2, 2, none⟩ = some (.int .i64 f) ∧ w'.cell? ⟨b + 2, 3, none⟩ = some (.int .i64 te)) (ds := []) #[false, false, false, false, false, false, false, false, false] (by kernel_rfl) rfl rfl ⟨c2, c3⟩ (fun hHeld => ?_)
      refine pure_ (i := 0) (N := some 4) (v := ?_) (a' := ?_) #[true, false, false, false, false, false, false, false, false] rfl rfl (by kernel_rfl) (fun _ _ _ h => h) (Or.inl ⟨by rfl, ?_⟩) ?_ ?_
      rotate_left
      · intro w'
        go_simp
        with_reducible rfl
      rotate_left
      · simp only [Act.put, List.setIfInBounds_toArray, List.set_cons_zero, List.set_cons_succ, i64_w, i32_w]
        rfl
      refine pure_ (i := 1) (N := some 5) (v := ?_) (a' := ?_) #[true, true, false, false, false, false, false, false, false] rfl rfl (by kernel_rfl) (fun _ _ _ h => h) (Or.inl ⟨by rfl, ?_⟩) ?_ ?_
      rotate_left
      · intro w'
        go_simp
        with_reducible rfl
      rotate_left
      · simp only [Act.put, List.setIfInBounds_toArray, List.set_cons_zero, List.set_cons_succ, i64_w, i32_w]
        rfl
      refine pure_ (i := 2) (N := some 6) (v := ?_) (a' := ?_) #[true, true, true, false, false, false, false, false, false] rfl rfl (by kernel_rfl) (fun _ _ _ h => h) (Or.inl ⟨by rfl, ?_⟩) ?_ ?_
      rotate_left
      · intro w'
        go_simp
        with_reducible rfl
      rotate_left
      · simp only [Act.put, List.setIfInBounds_toArray, List.set_cons_zero, List.set_cons_succ, i64_w, i32_w]
        rfl
      refine pure_ (i := 4) (N := some 8) (v := ?_) (a' := ?_) #[true, true, true, false, true, false, false, false, false] rfl rfl (by kernel_rfl) (fun _ _ _ h => h) (Or.inl ⟨by rfl, ?_⟩) ?_ ?_
      rotate_left
      · intro w'
        go_simp
        with_reducible rfl
      rotate_left
      · simp only [Act.put, List.setIfInBounds_toArray, List.set_cons_zero, List.set_cons_succ, i64_w, i32_w]
        rfl
      refine pure_ (i := 5) (N := some 9) (v := ?_) (a' := ?_) #[true, true, true, false, true, true, false, false, false] rfl rfl (by kernel_rfl) (fun _ _ _ h => h) (Or.inl ⟨by rfl, ?_⟩) ?_ ?_
      rotate_left
      · intro w'
        go_simp
        with_reducible rfl
      rotate_left
      · simp only [Act.put, List.setIfInBounds_toArray, List.set_cons_zero, List.set_cons_succ, i64_w, i32_w]
        rfl
      refine pure_ (i := 6) (N := some 10) (v := ?_) (a' := ?_) #[true, true, true, false, true, true, true, false, false] rfl rfl (by kernel_rfl) (fun _ _ _ h => h) (Or.inl ⟨by rfl, ?_⟩) ?_ ?_
      rotate_left
      · intro w'
        go_simp
        with_reducible rfl
      rotate_left
      · simp only [Act.put, List.setIfInBounds_toArray, List.set_cons_zero, List.set_cons_succ, i64_w, i32_w]
        rfl
      refine take_ (i := 3) (N := some 7) (v := ?_) (a' := ?_) #[true, true, true, true, true, true, true, false, false] rfl rfl (by kernel_rfl) (fun _ _ _ h => h) (Or.inl ⟨by rfl, ?_⟩) hHeld ?_ ?_
      rotate_left
      · rintro w' ⟨s0, s1⟩
        go_simp
        with_reducible rfl
      rotate_left
      · simp only [Act.put, List.setIfInBounds_toArray, List.set_cons_zero, List.set_cons_succ, i64_w, i32_w]
        rfl
      refine take_ (i := 7) (N := some 11) (v := ?_) (a' := ?_) #[true, true, true, true, true, true, true, true, false] rfl rfl (by kernel_rfl) (fun _ _ _ h => h) (Or.inl ⟨by rfl, ?_⟩) hHeld ?_ ?_
      rotate_left
      · rintro w' ⟨s0, s1⟩
        go_simp
        with_reducible rfl
      rotate_left
      · simp only [Act.put, List.setIfInBounds_toArray, List.set_cons_zero, List.set_cons_succ, i64_w, i32_w]
        rfl
      refine pure_ (i := 8) (N := some 12) (v := ?_) (a' := ?_) #[true, true, true, true, true, true, true, true, true] rfl rfl (by kernel_rfl) (fun _ _ _ h => h) (Or.inl ⟨by rfl, ?_⟩) ?_ ?_
      rotate_left
      · intro w'
        go_simp
        with_reducible rfl
      rotate_left
      · simp only [Act.put, List.setIfInBounds_toArray, List.set_cons_zero, List.set_cons_succ, i64_w, i32_w]
        rfl
      refine done_ (by kernel_rfl) ?_
      go_wp2
      refine start_ (n := 14) (S := fun w' => w'.cell? ⟨b + 2, 1, none⟩ = some (.map (some (b + 1))) ∧ w'.cell? ⟨b + 2, 2, none⟩ = some (.int .i64 f) ∧ (Instr.lookup 109 (.map (some (b + 1))) (.int .i64 f) true).run Try.prog w' = .ok (.tuple #[.int .i64 p.2, .bool true]) w') (ds := []) #[false, false, false, false, false, false, false, false, false, false, false, false, false, false] (by kernel_rfl) rfl rfl ⟨c1, c2, hl⟩ (fun hHeld => ?_)
      refine pure_ (i := 0) (N := some 14) (v := ?_) (a' := ?_) #[true, false, false, false, false, false, false, false, false, false, false, false, false, false] rfl rfl (by kernel_rfl) (fun _ _ _ h => h) (Or.inl ⟨by rfl, ?_⟩) ?_ ?_
      rotate_left
      · intro w'
        go_simp
        with_reducible rfl
      rotate_left
      · simp only [Act.put, List.setIfInBounds_toArray, List.set_cons_zero, List.set_cons_succ, i64_w, i32_w]
        rfl
      refine pure_ (i := 1) (N := some 15) (v := ?_) (a' := ?_) #[true, true, false, false, false, false, false, false, false, false, false, false, false, false] rfl rfl (by kernel_rfl) (fun _ _ _ h => h) (Or.inl ⟨by rfl, ?_⟩) ?_ ?_
      rotate_left
      · intro w'
        go_simp
        with_reducible rfl
      rotate_left
      · simp only [Act.put, List.setIfInBounds_toArray, List.set_cons_zero, List.set_cons_succ, i64_w, i32_w]
        rfl
      refine pure_ (i := 2) (N := some 16) (v := ?_) (a' := ?_) #[true, true, true, false, false, false, false, false, false, false, false, false, false, false] rfl rfl (by kernel_rfl) (fun _ _ _ h => h) (Or.inl ⟨by rfl, ?_⟩) ?_ ?_
      rotate_left
      · intro w'
        go_simp
        with_reducible rfl
      rotate_left
      · simp only [Act.put, List.setIfInBounds_toArray, List.set_cons_zero, List.set_cons_succ, i64_w, i32_w]
        rfl
      refine pure_ (i := 4) (N := some 18) (v := ?_) (a' := ?_) #[true, true, true, false, true, false, false, false, false, false, false, false, false, false] rfl rfl (by kernel_rfl) (fun _ _ _ h => h) (Or.inl ⟨by rfl, ?_⟩) ?_ ?_
      rotate_left
      · intro w'
        go_simp
        with_reducible rfl
      rotate_left
      · simp only [Act.put, List.setIfInBounds_toArray, List.set_cons_zero, List.set_cons_succ, i64_w, i32_w]
        rfl
      refine pure_ (i := 5) (N := some 19) (v := ?_) (a' := ?_) #[true, true, true, false, true, true, false, false, false, false, false, false, false, false] rfl rfl (by kernel_rfl) (fun _ _ _ h => h) (Or.inl ⟨by rfl, ?_⟩) ?_ ?_
      rotate_left
      · intro w'
        go_simp
        with_reducible rfl
      rotate_left
      · simp only [Act.put, List.setIfInBounds_toArray, List.set_cons_zero, List.set_cons_succ, i64_w, i32_w]
        rfl
      refine pure_ (i := 6) (N := some 20) (v := ?_) (a' := ?_) #[true, true, true, false, true, true, true, false, false, false, false, false, false, false] rfl rfl (by kernel_rfl) (fun _ _ _ h => h) (Or.inl ⟨by rfl, ?_⟩) ?_ ?_
      rotate_left
      · intro w'
        go_simp
        with_reducible rfl
      rotate_left
      · simp only [Act.put, List.setIfInBounds_toArray, List.set_cons_zero, List.set_cons_succ, i64_w, i32_w]
        rfl
      refine take_ (i := 3) (N := some 17) (v := ?_) (a' := ?_) #[true, true, true, true, true, true, true, false, false, false, false, false, false, false] rfl rfl (by kernel_rfl) (fun _ _ _ h => h) (Or.inl ⟨by rfl, ?_⟩) hHeld ?_ ?_
      rotate_left
      · rintro w' ⟨s0, s1, s2⟩
        go_simp
        with_reducible rfl
      rotate_left
      · simp only [Act.put, List.setIfInBounds_toArray, List.set_cons_zero, List.set_cons_succ, i64_w, i32_w]
        rfl
      refine take_ (i := 7) (N := some 21) (v := ?_) (a' := ?_) #[true, true, true, true, true, true, true, true, false, false, false, false, false, false] rfl rfl (by kernel_rfl) (fun _ _ _ h => h) (Or.inl ⟨by rfl, ?_⟩) hHeld ?_ ?_
      rotate_left
      · rintro w' ⟨s0, s1, s2⟩
        go_simp
        with_reducible rfl
      rotate_left
      · simp only [Act.put, List.setIfInBounds_toArray, List.set_cons_zero, List.set_cons_succ, i64_w, i32_w]
        rfl
      refine take_ (i := 8) (N := some 22) (v := ?_) (a' := ?_) #[true, true, true, true, true, true, true, true, true, false, false, false, false, false] rfl rfl (by kernel_rfl) (fun _ _ _ h => h) (Or.inl ⟨by rfl, ?_⟩) hHeld ?_ ?_
      rotate_left
      · rintro w' ⟨s0, s1, s2⟩
        go_simp
        with_reducible rfl
      rotate_left
      · simp only [Act.put, List.setIfInBounds_toArray, List.set_cons_zero, List.set_cons_succ, i64_w, i32_w]
        rfl
      refine pure_ (i := 9) (N := some 13) (v := ?_) (a' := ?_) #[true, true, true, true, true, true, true, true, true, true, false, false, false, false] rfl rfl (by kernel_rfl) (fun _ _ _ h => h) (Or.inl ⟨by rfl, ?_⟩) ?_ ?_
      rotate_left
      · intro w'
        go_simp
        with_reducible rfl
      rotate_left
      · simp only [Act.put, List.setIfInBounds_toArray, List.set_cons_zero, List.set_cons_succ, i64_w, i32_w]
        rfl
      refine pure_ (i := 10) (N := some 23) (v := ?_) (a' := ?_) #[true, true, true, true, true, true, true, true, true, true, true, false, false, false] rfl rfl (by kernel_rfl) (fun _ _ _ h => h) (Or.inl ⟨by rfl, ?_⟩) ?_ ?_
      rotate_left
      · intro w'
        go_simp
        with_reducible rfl
      rotate_left
      · simp only [Act.put, List.setIfInBounds_toArray, List.set_cons_zero, List.set_cons_succ, i64_w, i32_w]
        rfl
      refine pure_ (i := 11) (N := some 24) (v := ?_) (a' := ?_) #[true, true, true, true, true, true, true, true, true, true, true, true, false, false] rfl rfl (by kernel_rfl) (fun _ _ _ h => h) (Or.inl ⟨by rfl, ?_⟩) ?_ ?_
      rotate_left
      · intro w'
        go_simp
        with_reducible rfl
      rotate_left
      · simp only [Act.put, List.setIfInBounds_toArray, List.set_cons_zero, List.set_cons_succ, i64_w, i32_w]
        rfl
      refine pure_ (i := 12) (N := some 2) (v := ?_) (a' := ?_) #[true, true, true, true, true, true, true, true, true, true, true, true, true, false] rfl rfl (by kernel_rfl) (fun _ _ _ h => h) (Or.inl ⟨by rfl, ?_⟩) ?_ ?_
      rotate_left
      · intro w'
        go_simp
        with_reducible rfl
      rotate_left
      · simp only [Act.put, List.setIfInBounds_toArray, List.set_cons_zero, List.set_cons_succ, i64_w, i32_w]
        rfl
      refine pure_ (i := 13) (N := some 3) (v := ?_) (a' := ?_) #[true, true, true, true, true, true, true, true, true, true, true, true, true, true] rfl rfl (by kernel_rfl) (fun _ _ _ h => h) (Or.inl ⟨by rfl, ?_⟩) ?_ ?_
      rotate_left
      · intro w'
        go_simp
        with_reducible rfl
      rotate_left
      · simp only [Act.put, List.setIfInBounds_toArray, List.set_cons_zero, List.set_cons_succ, i64_w, i32_w]
        rfl
      refine done_ (by kernel_rfl) ?_
      go_wp2
      (try simp only [Exit.inBlock, Exit.then])
      refine bodyPost_ret (results_none rfl _ _ _) rfl ?_
      refine ⟨rfl, ?_, ?_⟩
      · have := hT.out.drew.drew
        rw [hfp.out] at this
        exact this
      · exact hO.out.drew.drew
    · have hl : ∃ v, (Instr.lookup 109 (.map (some (b + 1))) (.int .i64 f) true).run Try.prog (wr.drew.drew) = .ok (.tuple #[v, .bool false]) (wr.drew.drew) := by
        have := (hT.out.items.of_block (w' := wr.drew.drew) rfl).look_none keyI undII hgf (H.out.2.1.head.2 f (by have := hf.out; omega)) (zeroI _) true
        exact ⟨_, by simpa using this⟩
      obtain ⟨v, hl⟩ := hl
      replace hgf := Aside0.mk hgf
      replace hfp := Aside0.mk hfp
      go_wp2
      refine start_ (n := 9) (S := fun w' => w'.cell? ⟨b + 2, 2, none⟩ = some (.int .i64 f) ∧ w'.cell? ⟨b + 2, 3, none⟩ = some (.int .i64 te)) (ds := []) #[false, false, false, false, false, false, false, false, false] (by kernel_rfl) rfl rfl ⟨c2, c3⟩ (fun hHeld => ?_)
      refine pure_ (i := 0) (N := some 4) (v := ?_) (a' := ?_) #[true, false, false, false, false, false, false, false, false] rfl rfl (by kernel_rfl) (fun _ _ _ h => h) (Or.inl ⟨by rfl, ?_⟩) ?_ ?_
      rotate_left
      · intro w'
        go_simp
        with_reducible rfl
      rotate_left
      · simp only [Act.put, List.setIfInBounds_toArray, List.set_cons_zero, List.set_cons_succ, i64_w, i32_w]
        rfl
      refine pure_ (i := 1) (N := some 5) (v := ?_) (a' := ?_) #[true, true, false, false, false, false, false, false, false] rfl rfl (by kernel_rfl) (fun _ _ _ h => h) (Or.inl ⟨by rfl, ?_⟩) ?_ ?_
      rotate_left
      · intro w'
        go_simp
        with_reducible rfl
      rotate_left
      · simp only [Act.put, List.setIfInBounds_toArray, List.set_cons_zero, List.set_cons_succ, i64_w, i32_w]
        rfl
      refine pure_ (i := 2) (N := some 6) (v := ?_) (a' := ?_) #[true, true, true, false, false, false, false, false, false] rfl rfl (by kernel_rfl) (fun _ _ _ h => h) (Or.inl ⟨by rfl, ?_⟩) ?_ ?_
      rotate_left
      · intro w'
        go_simp
        with_reducible rfl
      rotate_left
      · simp only [Act.put, List.setIfInBounds_toArray, List.set_cons_zero, List.set_cons_succ, i64_w, i32_w]
        rfl
      refine pure_ (i := 4) (N := some 8) (v := ?_) (a' := ?_) #[true, true, true, false, true, false, false, false, false] rfl rfl (by kernel_rfl) (fun _ _ _ h => h) (Or.inl ⟨by rfl, ?_⟩) ?_ ?_
      rotate_left
      · intro w'
        go_simp
        with_reducible rfl
      rotate_left
      · simp only [Act.put, List.setIfInBounds_toArray, List.set_cons_zero, List.set_cons_succ, i64_w, i32_w]
        rfl
      refine pure_ (i := 5) (N := some 9) (v := ?_) (a' := ?_) #[true, true, true, false, true, true, false, false, false] rfl rfl (by kernel_rfl) (fun _ _ _ h => h) (Or.inl ⟨by rfl, ?_⟩) ?_ ?_
      rotate_left
      · intro w'
        go_simp
        with_reducible rfl
      rotate_left
      · simp only [Act.put, List.setIfInBounds_toArray, List.set_cons_zero, List.set_cons_succ, i64_w, i32_w]
        rfl
      refine pure_ (i := 6) (N := some 10) (v := ?_) (a' := ?_) #[true, true, true, false, true, true, true, false, false] rfl rfl (by kernel_rfl) (fun _ _ _ h => h) (Or.inl ⟨by rfl, ?_⟩) ?_ ?_
      rotate_left
      · intro w'
        go_simp
        with_reducible rfl
      rotate_left
      · simp only [Act.put, List.setIfInBounds_toArray, List.set_cons_zero, List.set_cons_succ, i64_w, i32_w]
        rfl
      refine take_ (i := 3) (N := some 7) (v := ?_) (a' := ?_) #[true, true, true, true, true, true, true, false, false] rfl rfl (by kernel_rfl) (fun _ _ _ h => h) (Or.inl ⟨by rfl, ?_⟩) hHeld ?_ ?_
      rotate_left
      · rintro w' ⟨s0, s1⟩
        go_simp
        with_reducible rfl
      rotate_left
      · simp only [Act.put, List.setIfInBounds_toArray, List.set_cons_zero, List.set_cons_succ, i64_w, i32_w]
        rfl
      refine take_ (i := 7) (N := some 11) (v := ?_) (a' := ?_) #[true, true, true, true, true, true, true, true, false] rfl rfl (by kernel_rfl) (fun _ _ _ h => h) (Or.inl ⟨by rfl, ?_⟩) hHeld ?_ ?_
      rotate_left
      · rintro w' ⟨s0, s1⟩
        go_simp
        with_reducible rfl
      rotate_left
      · simp only [Act.put, List.setIfInBounds_toArray, List.set_cons_zero, List.set_cons_succ, i64_w, i32_w]
        rfl
      refine pure_ (i := 8) (N := some 12) (v := ?_) (a' := ?_) #[true, true, true, true, true, true, true, true, true] rfl rfl (by kernel_rfl) (fun _ _ _ h => h) (Or.inl ⟨by rfl, ?_⟩) ?_ ?_
      rotate_left
      · intro w'
        go_simp
        with_reducible rfl
      rotate_left
      · simp only [Act.put, List.setIfInBounds_toArray, List.set_cons_zero, List.set_cons_succ, i64_w, i32_w]
        rfl
      refine done_ (by kernel_rfl) ?_
      go_wp2
      refine start_ (n := 14) (S := fun w' => w'.cell? ⟨b + 2, 1, none⟩ = some (.map (some (b + 1))) ∧ w'.cell? ⟨b + 2, 2, none⟩ = some (.int .i64 f) ∧ (Instr.lookup 109 (.map (some (b + 1))) (.int .i64 f) true).run Try.prog w' = .ok (.tuple #[v, .bool false]) w') (ds := []) #[false, false, false, false, false, false, false, false, false, false, false, false, false, false] (by kernel_rfl) rfl rfl ⟨c1, c2, hl⟩ (fun hHeld => ?_)
      refine pure_ (i := 0) (N := some 14) (v := ?_) (a' := ?_) #[true, false, false, false, false, false, false, false, false, false, false, false, false, false] rfl rfl (by kernel_rfl) (fun _ _ _ h => h) (Or.inl ⟨by rfl, ?_⟩) ?_ ?_
      rotate_left
      · intro w'
        go_simp
        with_reducible rfl
      rotate_left
      · simp only [Act.put, List.setIfInBounds_toArray, List.set_cons_zero, List.set_cons_succ, i64_w, i32_w]
        rfl
      refine pure_ (i := 1) (N := some 15) (v := ?_) (a' := ?_) #[true, true, false, false, false, false, false, false, false, false, false, false, false, false] rfl rfl (by kernel_rfl) (fun _ _ _ h => h) (Or.inl ⟨by rfl, ?_⟩) ?_ ?_
      rotate_left
      · intro w'
        go_simp
        with_reducible rfl
      rotate_left
      · simp only [Act.put, List.setIfInBounds_toArray, List.set_cons_zero, List.set_cons_succ, i64_w, i32_w]
        rfl
      refine pure_ (i := 2) (N := some 16) (v := ?_) (a' := ?_) #[true, true, true, false, false, false, false, false, false, false, false, false, false, false] rfl rfl (by kernel_rfl) (fun _ _ _ h => h) (Or.inl ⟨by rfl, ?_⟩) ?_ ?_
      rotate_left
      · intro w'
        go_simp
        with_reducible rfl
      rotate_left
      · simp only [Act.put, List.setIfInBounds_toArray, List.set_cons_zero, List.set_cons_succ, i64_w, i32_w]
        rfl
      refine pure_ (i := 4) (N := some 18) (v := ?_) (a' := ?_) #[true, true, true, false, true, false, false, false, false, false, false, false, false, false] rfl rfl (by kernel_rfl) (fun _ _ _ h => h) (Or.inl ⟨by rfl, ?_⟩) ?_ ?_
      rotate_left
      · intro w'
        go_simp
        with_reducible rfl
      rotate_left
      · simp only [Act.put, List.setIfInBounds_toArray, List.set_cons_zero, List.set_cons_succ, i64_w, i32_w]
        rfl
      refine pure_ (i := 5) (N := some 19) (v := ?_) (a' := ?_) #[true, true, true, false, true, true, false, false, false, false, false, false, false, false] rfl rfl (by kernel_rfl) (fun _ _ _ h => h) (Or.inl ⟨by rfl, ?_⟩) ?_ ?_
      rotate_left
      · intro w'
        go_simp
        with_reducible rfl
      rotate_left
      · simp only [Act.put, List.setIfInBounds_toArray, List.set_cons_zero, List.set_cons_succ, i64_w, i32_w]
        rfl
      refine pure_ (i := 6) (N := some 20) (v := ?_) (a' := ?_) #[true, true, true, false, true, true, true, false, false, false, false, false, false, false] rfl rfl (by kernel_rfl) (fun _ _ _ h => h) (Or.inl ⟨by rfl, ?_⟩) ?_ ?_
      rotate_left
      · intro w'
        go_simp
        with_reducible rfl
      rotate_left
      · simp only [Act.put, List.setIfInBounds_toArray, List.set_cons_zero, List.set_cons_succ, i64_w, i32_w]
        rfl
      refine take_ (i := 3) (N := some 17) (v := ?_) (a' := ?_) #[true, true, true, true, true, true, true, false, false, false, false, false, false, false] rfl rfl (by kernel_rfl) (fun _ _ _ h => h) (Or.inl ⟨by rfl, ?_⟩) hHeld ?_ ?_
      rotate_left
      · rintro w' ⟨s0, s1, s2⟩
        go_simp
        with_reducible rfl
      rotate_left
      · simp only [Act.put, List.setIfInBounds_toArray, List.set_cons_zero, List.set_cons_succ, i64_w, i32_w]
        rfl
      refine take_ (i := 7) (N := some 21) (v := ?_) (a' := ?_) #[true, true, true, true, true, true, true, true, false, false, false, false, false, false] rfl rfl (by kernel_rfl) (fun _ _ _ h => h) (Or.inl ⟨by rfl, ?_⟩) hHeld ?_ ?_
      rotate_left
      · rintro w' ⟨s0, s1, s2⟩
        go_simp
        with_reducible rfl
      rotate_left
      · simp only [Act.put, List.setIfInBounds_toArray, List.set_cons_zero, List.set_cons_succ, i64_w, i32_w]
        rfl
      refine take_ (i := 8) (N := some 22) (v := ?_) (a' := ?_) #[true, true, true, true, true, true, true, true, true, false, false, false, false, false] rfl rfl (by kernel_rfl) (fun _ _ _ h => h) (Or.inl ⟨by rfl, ?_⟩) hHeld ?_ ?_
      rotate_left
      · rintro w' ⟨s0, s1, s2⟩
        go_simp
        with_reducible rfl
      rotate_left
      · simp only [Act.put, List.setIfInBounds_toArray, List.set_cons_zero, List.set_cons_succ, i64_w, i32_w]
        rfl
      refine pure_ (i := 9) (N := some 13) (v := ?_) (a' := ?_) #[true, true, true, true, true, true, true, true, true, true, false, false, false, false] rfl rfl (by kernel_rfl) (fun _ _ _ h => h) (Or.inl ⟨by rfl, ?_⟩) ?_ ?_
      rotate_left
      · intro w'
        go_simp
        with_reducible rfl
      rotate_left
      · simp only [Act.put, List.setIfInBounds_toArray, List.set_cons_zero, List.set_cons_succ, i64_w, i32_w]
        rfl
      refine pure_ (i := 10) (N := some 23) (v := ?_) (a' := ?_) #[true, true, true, true, true, true, true, true, true, true, true, false, false, false] rfl rfl (by kernel_rfl) (fun _ _ _ h => h) (Or.inl ⟨by rfl, ?_⟩) ?_ ?_
      rotate_left
      · intro w'
        go_simp
        with_reducible rfl
      rotate_left
      · simp only [Act.put, List.setIfInBounds_toArray, List.set_cons_zero, List.set_cons_succ, i64_w, i32_w]
        rfl
      refine pure_ (i := 11) (N := some 24) (v := ?_) (a' := ?_) #[true, true, true, true, true, true, true, true, true, true, true, true, false, false] rfl rfl (by kernel_rfl) (fun _ _ _ h => h) (Or.inl ⟨by rfl, ?_⟩) ?_ ?_
      rotate_left
      · intro w'
        go_simp
        with_reducible rfl
      rotate_left
      · simp only [Act.put, List.setIfInBounds_toArray, List.set_cons_zero, List.set_cons_succ, i64_w, i32_w]
        rfl
      refine pure_ (i := 12) (N := some 2) (v := ?_) (a' := ?_) #[true, true, true, true, true, true, true, true, true, true, true, true, true, false] rfl rfl (by kernel_rfl) (fun _ _ _ h => h) (Or.inl ⟨by rfl, ?_⟩) ?_ ?_
      rotate_left
      · intro w'
        go_simp
        with_reducible rfl
      rotate_left
      · simp only [Act.put, List.setIfInBounds_toArray, List.set_cons_zero, List.set_cons_succ, i64_w, i32_w]
        rfl
      refine pure_ (i := 13) (N := some 3) (v := ?_) (a' := ?_) #[true, true, true, true, true, true, true, true, true, true, true, true, true, true] rfl rfl (by kernel_rfl) (fun _ _ _ h => h) (Or.inl ⟨by rfl, ?_⟩) ?_ ?_
      rotate_left
      · intro w'
        go_simp
        with_reducible rfl
      rotate_left
      · simp only [Act.put, List.setIfInBounds_toArray, List.set_cons_zero, List.set_cons_succ, i64_w, i32_w]
        rfl
      refine done_ (by kernel_rfl) ?_
      go_wp2
      go_roundg ((p.1 - (f + 1)).toNat + 1)
      case measure => have := hf.out; have := hfp.out; omega
      case rel =>
        have hw : wrap64 (f + 1) = f + 1 := w64 _ (by have := hf.out; have := H.out.2.2.1.2; have := H.out.2.2.2.2; omega)
        refine ⟨f + 1, ⟨by have := hf.out; omega, by have := hf.out; have := hfp.out; omega, by omega⟩, ⟨?_⟩, ⟨?_⟩⟩
        · have := (hT.out.setFrom (u := f + 1)).drew.drew
          simpa [hw] using this
        · exact hO.out.drew.drew.setCell (fun _ => ⟨by simp, by simp⟩) _

theorem front_empty (h : IsTurns w b [] n) : Calls Try.prog 85 #[.pointer (some ⟨b + 2, 0, none⟩)] w fun e w' => e = .returned (.tuple #[.int .i64 0, .bool false]) ∧ w' = w := by
  obtain ⟨L, fr, te, h1, h2, h3, h4⟩ := h
  obtain rfl : L = [] := List.map_eq_nil_iff.1 h3
  have c0 : w.cell? ⟨b + 2, 0, none⟩ = some (.map (some b)) := (blk_cell h1.blk 0).trans rfl
  have hl := fun u => h1.at_.run_len undII u
  simp only [List.map_nil, List.length_nil] at hl
  clear h1 h2 h3 h4
  go_enter Try.func85, Try.ntmps85
  go_wp2
  go_ret2
  exact ⟨rfl, rfl⟩
theorem front_nil : Calls Try.prog 85 #[.pointer none] w fun e w' => e = .returned (.tuple #[.int .i64 0, .bool false]) ∧ w' = w := by
  go_enter Try.func85, Try.ntmps85
  go_wp2
  go_ret2
  exact ⟨rfl, rfl⟩
set_option maxRecDepth 100000 in
set_option maxHeartbeats 4000000 in
theorem front_some (y : Int) (h : IsTurns w b (y :: l) n) (hn : n < 4611686018427387904) : Calls Try.prog 85 #[.pointer (some ⟨b + 2, 0, none⟩)] w fun e w' => e = .returned (.tuple #[.int .i64 y, .bool true]) ∧ IsTurns w' b (y :: l) n ∧ Only (tfoot b) w w' := by
  obtain ⟨L, fr, te, h1, h2, h3, h4⟩ := h
  obtain ⟨p, L', rfl, rfl, h5⟩ := List.map_eq_cons_iff.1 h3
  have c0 : w.cell? ⟨b + 2, 0, none⟩ = some (.map (some b)) := (blk_cell h1.blk 0).trans rfl
  obtain ⟨m, hne, hl⟩ : ∃ m : Int, (m == 0) = false ∧ ∀ u, (Builtin.len_ #[109] u #[.map (some b)]).run Try.prog w = .ok (.int .i64 m) w :=
    ⟨_, by simp; omega, fun u => h1.at_.run_len undII u⟩
  have hc := skip_calls w b p L' fr te h1 h2 (by omega)
  have hp := h2.turns p (by simp)
  have hgp : goodI p.1 := goodI_of (by have := h2.fr0; omega) (by omega)
  have H := Aside0.mk (And.intro h1 (And.intro h2 (And.intro h3 (And.intro h4 (And.intro hgp hp)))))
  clear h1 h2 h3 h4 hgp hp hn h5
  go_enter Try.func85, Try.ntmps85
  go_wp2_with (go_at_call 101; refine hc.mono ?_; rintro e w1 ⟨rfl, hT', hO'⟩; have hT := Aside0.mk hT'; have hO := Aside0.mk hO'; clear hT' hO' c0 hl)
  have c1 : w1.cell? ⟨b + 2, 1, none⟩ = some (.map (some (b + 1))) := (blk_cell hT.out.blk 1).trans rfl
  have c2 : w1.cell? ⟨b + 2, 2, none⟩ = some (.int .i64 p.1) := (blk_cell hT.out.blk 2).trans rfl
  have hl : (Instr.lookup 109 (.map (some (b + 1))) (.int .i64 p.1) false).run Try.prog w1.drew = .ok (.int .i64 p.2) w1.drew := by
    simpa using (hT.out.items.of_block (w' := w1.drew) rfl).look_some keyI undII H.out.2.2.2.2.1 H.out.2.1.head.1 false
  refine start_ (n := 11) (S := fun w' => w'.cell? ⟨b + 2, 1, none⟩ = some (.map (some (b + 1))) ∧ w'.cell? ⟨b + 2, 2, none⟩ = some (.int .i64 p.1) ∧ (Instr.lookup 109 (.map (some (b + 1))) (.int .i64 p.1) false).run Try.prog w' = .ok (.int .i64 p.2) w') (ds := []) #[false, false, false, false, false, false, false, false, false, false, false] (by kernel_rfl) rfl rfl ⟨c1, c2, hl⟩ (fun hHeld => ?_)
  refine pure_ (i := 0) (N := some 16) (v := ?_) (a' := ?_) #[true, false, false, false, false, false, false, false, false, false, false] rfl rfl (by kernel_rfl) (fun _ _ _ h => h) (Or.inl ⟨by rfl, ?_⟩) ?_ ?_
  rotate_left
  · intro w'
    go_simp
    with_reducible rfl
  rotate_left
  · simp only [Act.put, List.setIfInBounds_toArray, List.set_cons_zero, List.set_cons_succ, i64_w, i32_w]
    rfl
  refine pure_ (i := 1) (N := some 17) (v := ?_) (a' := ?_) #[true, true, false, false, false, false, false, false, false, false, false] rfl rfl (by kernel_rfl) (fun _ _ _ h => h) (Or.inl ⟨by rfl, ?_⟩) ?_ ?_
  rotate_left
  · intro w'
    go_simp
    with_reducible rfl
  rotate_left
  · simp only [Act.put, List.setIfInBounds_toArray, List.set_cons_zero, List.set_cons_succ, i64_w, i32_w]
    rfl
  refine pure_ (i := 2) (N := some 18) (v := ?_) (a' := ?_) #[true, true, true, false, false, false, false, false, false, false, false] rfl rfl (by kernel_rfl) (fun _ _ _ h => h) (Or.inl ⟨by rfl, ?_⟩) ?_ ?_
  rotate_left
  · intro w'
    go_simp
    with_reducible rfl
  rotate_left
  · simp only [Act.put, List.setIfInBounds_toArray, List.set_cons_zero, List.set_cons_succ, i64_w, i32_w]
    rfl
  refine pure_ (i := 4) (N := some 20) (v := ?_) (a' := ?_) #[true, true, true, false, true, false, false, false, false, false, false] rfl rfl (by kernel_rfl) (fun _ _ _ h => h) (Or.inl ⟨by rfl, ?_⟩) ?_ ?_
  rotate_left
  · intro w'
    go_simp
    with_reducible rfl
  rotate_left
  · simp only [Act.put, List.setIfInBounds_toArray, List.set_cons_zero, List.set_cons_succ, i64_w, i32_w]
    rfl
  refine pure_ (i := 5) (N := some 21) (v := ?_) (a' := ?_) #[true, true, true, false, true, true, false, false, false, false, false] rfl rfl (by kernel_rfl) (fun _ _ _ h => h) (Or.inl ⟨by rfl, ?_⟩) ?_ ?_
  rotate_left
  · intro w'
    go_simp
    with_reducible rfl
  rotate_left
  · simp only [Act.put, List.setIfInBounds_toArray, List.set_cons_zero, List.set_cons_succ, i64_w, i32_w]
    rfl
  refine pure_ (i := 6) (N := some 22) (v := ?_) (a' := ?_) #[true, true, true, false, true, true, true, false, false, false, false] rfl rfl (by kernel_rfl) (fun _ _ _ h => h) (Or.inl ⟨by rfl, ?_⟩) ?_ ?_
  rotate_left
  · intro w'
    go_simp
    with_reducible rfl
  rotate_left
  · simp only [Act.put, List.setIfInBounds_toArray, List.set_cons_zero, List.set_cons_succ, i64_w, i32_w]
    rfl
  refine take_ (i := 3) (N := some 19) (v := ?_) (a' := ?_) #[true, true, true, true, true, true, true, false, false, false, false] rfl rfl (by kernel_rfl) (fun _ _ _ h => h) (Or.inl ⟨by rfl, ?_⟩) hHeld ?_ ?_
  rotate_left
  · rintro w' ⟨s0, s1, s2⟩
    go_simp
    with_reducible rfl
  rotate_left
  · simp only [Act.put, List.setIfInBounds_toArray, List.set_cons_zero, List.set_cons_succ, i64_w, i32_w]
    rfl
  refine take_ (i := 7) (N := some 23) (v := ?_) (a' := ?_) #[true, true, true, true, true, true, true, true, false, false, false] rfl rfl (by kernel_rfl) (fun _ _ _ h => h) (Or.inl ⟨by rfl, ?_⟩) hHeld ?_ ?_
  rotate_left
  · rintro w' ⟨s0, s1, s2⟩
    go_simp
    with_reducible rfl
  rotate_left
  · simp only [Act.put, List.setIfInBounds_toArray, List.set_cons_zero, List.set_cons_succ, i64_w, i32_w]
    rfl
  refine take_ (i := 8) (N := some 24) (v := ?_) (a' := ?_) #[true, true, true, true, true, true, true, true, true, false, false] rfl rfl (by kernel_rfl) (fun _ _ _ h => h) (Or.inl ⟨by rfl, ?_⟩) hHeld ?_ ?_
  rotate_left
  · rintro w' ⟨s0, s1, s2⟩
    go_simp
    with_reducible rfl
  rotate_left
  · simp only [Act.put, List.setIfInBounds_toArray, List.set_cons_zero, List.set_cons_succ, i64_w, i32_w]
    rfl
  refine pure_ (i := 9) (N := some 2) (v := ?_) (a' := ?_) #[true, true, true, true, true, true, true, true, true, true, false] rfl rfl (by kernel_rfl) (fun _ _ _ h => h) (Or.inl ⟨by rfl, ?_⟩) ?_ ?_
  rotate_left
  · intro w'
    go_simp
    with_reducible rfl
  rotate_left
  · simp only [Act.put, List.setIfInBounds_toArray, List.set_cons_zero, List.set_cons_succ, i64_w, i32_w]
    rfl
  refine pure_ (i := 10) (N := some 3) (v := ?_) (a' := ?_) #[true, true, true, true, true, true, true, true, true, true, true] rfl rfl (by kernel_rfl) (fun _ _ _ h => h) (Or.inl ⟨by rfl, ?_⟩) ?_ ?_
  rotate_left
  · intro w'
    go_simp
    with_reducible rfl
  rotate_left
  · simp only [Act.put, List.setIfInBounds_toArray, List.set_cons_zero, List.set_cons_succ, i64_w, i32_w]
    rfl
  refine done_ (by kernel_rfl) ?_
  go_wp2
  go_ret2
  obtain ⟨h1, h2, h3, h4, hgp, hp⟩ := H.out
  refine ⟨rfl, ⟨p :: L', p.1, te, hT.out.drew, h2.from_ hp.1 (by omega) (fun q hq => ?_), h3, h4⟩, hO.out.drew⟩
  rcases List.mem_cons.1 hq with rfl | hq
  · exact Int.le_refl _
  · exact Int.le_of_lt ((List.pairwise_cons.1 h2.sorted).1 q hq)

theorem take_empty (h : IsTurns w b [] n) : Calls Try.prog 42 #[.pointer (some ⟨b + 2, 0, none⟩)] w fun e w' => e = .returned (.tuple #[.int .i64 0, .bool false]) ∧ w' = w := by
  have hc := front_empty w b n h
  clear h
  go_enter Try.func42, Try.ntmps42
  go_wp2_with (go_at_call 85; refine hc.mono ?_; rintro e w ⟨rfl, rfl⟩)
  go_ret2
  exact ⟨rfl, rfl⟩
theorem take_nil : Calls Try.prog 42 #[.pointer none] w fun e w' => e = .returned (.tuple #[.int .i64 0, .bool false]) ∧ w' = w := by
  have hc := front_nil w
  go_enter Try.func42, Try.ntmps42
  go_wp2_with (go_at_call 85; refine hc.mono ?_; rintro e w ⟨rfl, rfl⟩)
  go_ret2
  exact ⟨rfl, rfl⟩
theorem take_some (y : Int) (h : IsTurns w b (y :: l) n) (hn : n < 4611686018427387904) : Calls Try.prog 42 #[.pointer (some ⟨b + 2, 0, none⟩)] w fun e w' => e = .returned (.tuple #[.int .i64 y, .bool true]) ∧ IsTurns w' b l n ∧ Only (tfoot b) w w' := by
  have hc := front_some w b l n y h hn
  have hg := h.good y (by simp)
  have hno := h.nodup
  have hfl : (y :: l).filter (fun z => decide (z ≠ y)) = l := by
    rw [List.filter_cons]
    simp only [ne_eq, not_true_eq_false, decide_false, Bool.false_eq_true, if_false]
    refine List.filter_eq_self.2 fun z hz => ?_
    have := (List.nodup_cons.1 hno).1
    simp
    rintro rfl
    exact this hz
  have H := Aside0.mk (And.intro hg hfl)
  clear h hg hno hfl hn
  go_enter Try.func42, Try.ntmps42
  go_wp2_with (first
    | (go_at_call 85; refine hc.mono ?_; rintro e w1 ⟨rfl, hT', hO'⟩; have hT := Aside0.mk hT'; have hO := Aside0.mk hO'; clear hT' hO')
    | (go_at_call 44; refine (drop_in w1 b (y :: l) n y hT.out H.out.1 (by simp)).mono ?_; rintro e w2 ⟨rfl, hT1', hO1'⟩; have hT1 := Aside0.mk hT1'; have hO1 := Aside0.mk hO1'; clear hT1' hO1'))
  go_ret2
  refine ⟨rfl, ?_, hO.out.then hO1.out (fun _ _ h => h)⟩
  have := hT1.out
  rw [H.out.2] at this
  exact this

theorem back_not (h : IsTurns w b l n) (hx : goodI x) (hm : x ∉ l) : Calls Try.prog 45 #[.pointer (some ⟨b + 2, 0, none⟩), .int .i64 x] w fun e w' => e = .returned (.bool false) ∧ w' = w := by
  have hc := drop_not w b l n x h hx hm
  clear h hm
  go_enter Try.func45, Try.ntmps45
  go_wp2_with (go_at_call 44; refine hc.mono ?_; rintro e w ⟨rfl, rfl⟩)
  go_ret
  exact ⟨rfl, rfl⟩
theorem back_in (h : IsTurns w b l n) (hx : goodI x) (hm : x ∈ l) (hn : n < 4611686018427387904) : Calls Try.prog 45 #[.pointer (some ⟨b + 2, 0, none⟩), .int .i64 x] w fun e w' => e = .returned (.bool true) ∧ IsTurns w' b (l.filter (fun y => decide (y ≠ x)) ++ [x]) (n + 1) ∧ Only (tfoot b) w w' := by
  have hc := drop_in w b l n x h hx hm
  have hf := h.few
  have hlt : (l.filter (fun y => decide (y ≠ x))).length < 65536 := by
    refine Nat.lt_of_lt_of_le ?_ hf
    rw [List.length_filter_lt_length_iff_exists]
    exact ⟨x, hm, by simp⟩
  have H := Aside0.mk (And.intro hx (And.intro hlt hn))
  clear h hm hf hx hlt hn
  go_enter Try.func45, Try.ntmps45
  go_wp2_with (first
    | (go_at_call 44; refine hc.mono ?_; rintro e w1 ⟨rfl, hT', hO'⟩; have hT := Aside0.mk hT'; have hO := Aside0.mk hO'; clear hT' hO')
    | (go_at_call 47; refine (put_new w1 b _ n x hT.out H.out.1 (by simp) H.out.2.1 H.out.2.2).mono ?_; rintro e w2 ⟨rfl, hT1', hO1'⟩; have hT1 := Aside0.mk hT1'; have hO1 := Aside0.mk hO1'; clear hT1' hO1'))
  go_ret
  exact ⟨rfl, hT1.out, hO.out.then hO1.out (fun _ _ h => h)⟩
end
end Go.Proofs.Ytljckmiphkoipaa

/-
  DERIVED: THE SHELF's CONTRACTS AT THIS DUMP, IN PLAIN WORDS (tools/lay-plain.mjs out of 'TrySortT.lean', which tools/lay-shelf.mjs wrote): THE SAME DECLARATIONS UNDER THE SAME NAMES: 'import', 'namespace', 'open', 'def', 'theorem' AND NOTHING ELSE: no command of the shelf's: FOR A HAND-IN. Each laying: the table of numbers ('.._ren') and one theorem, a field a fact of the dump's own or the kernel's comparison; each contract: ONE APPLICATION.
-/
namespace Go.Proofs
open Go.Shelf
def Try.sortT_ren : Go.Shelf.Ren := ⟨fun | 6 => 91 | 15 => 107 | 14 => 106 | 28 => 122 | 29 => 123 | 20 => 114 | 21 => 115 | 22 => 116 | 23 => 117 | 24 => 118 | 25 => 119 | 26 => 120 | 27 => 121 | 46 => 135 | 47 => 136 | 48 => 137 | 49 => 138 | 50 => 139 | 57 => 143 | n => n, fun | 22 => 132 | 24 => 137 | 25 => 144 | 3 => 3 | 39 => 162 | 0 => 0 | 53 => 178 | 55 => 27 | 4 => 4 | 46 => 172 | 45 => 171 | 50 => 30 | 5 => 5 | 9 => 9 | 66 => 186 | 70 => 190 | 76 => 194 | 77 => 195 | n => n, fun | n => n⟩
theorem Try.sortT : Go.Proofs.SlLaysF0.n6 Try.prog Try.sortT_ren := {
  mixed := by kernel_rfl
  f6 := ⟨Try.f91.name, by decide, Try.func91.trans (congrArg some (by kernel_rfl))⟩
  f14 := ⟨Try.f106.name, by decide, Try.func106.trans (congrArg some (by kernel_rfl))⟩
  f15 := Try.func107.trans (congrArg some (by kernel_rfl))
  f20 := ⟨Try.f114.name, by decide, Try.func114.trans (congrArg some (by kernel_rfl))⟩
  f21 := ⟨Try.f115.name, by decide, Try.func115.trans (congrArg some (by kernel_rfl))⟩
  f22 := ⟨Try.f116.name, by decide, Try.func116.trans (congrArg some (by kernel_rfl))⟩
  f23 := ⟨Try.f117.name, by decide, Try.func117.trans (congrArg some (by kernel_rfl))⟩
  f24 := ⟨Try.f118.name, by decide, Try.func118.trans (congrArg some (by kernel_rfl))⟩
  f25 := ⟨Try.f119.name, by decide, Try.func119.trans (congrArg some (by kernel_rfl))⟩
  f26 := ⟨Try.f120.name, by decide, Try.func120.trans (congrArg some (by kernel_rfl))⟩
  f27 := ⟨Try.f121.name, by decide, Try.func121.trans (congrArg some (by kernel_rfl))⟩
  f28 := Try.func122.trans (congrArg some (by kernel_rfl))
  f29 := Try.func123.trans (congrArg some (by kernel_rfl))
  f46 := ⟨Try.f135.name, by decide, Try.func135.trans (congrArg some (by kernel_rfl))⟩
  f47 := Try.func136.trans (congrArg some (by kernel_rfl))
  f48 := Try.func137.trans (congrArg some (by kernel_rfl))
  f49 := ⟨Try.f138.name, by decide, Try.func138.trans (congrArg some (by kernel_rfl))⟩
  f50 := ⟨Try.f139.name, by decide, Try.func139.trans (congrArg some (by kernel_rfl))⟩
  f57 := ⟨Try.f143.name, by decide, Try.func143.trans (congrArg some (by kernel_rfl))⟩
  t0 := Try.underlying0
  a0 := Try.isAgg0
  z0 := Try.sizeOf0
  v0 := Try.zeroValue0
  t3 := Try.underlying3
  a3 := Try.isAgg3
  z3 := Try.sizeOf3
  v3 := Try.zeroValue3
  t4 := Try.underlying4
  a4 := Try.isAgg4
  z4 := Try.sizeOf4
  v4 := Try.zeroValue4
  t5 := Try.underlying5
  a5 := Try.isAgg5
  z5 := Try.sizeOf5
  v5 := Try.zeroValue5
  t9 := Try.underlying9
  a9 := Try.isAgg9
  z9 := Try.sizeOf9
  v9 := Try.zeroValue9
  t22 := Try.underlying132
  a22 := Try.isAgg132
  z22 := Try.sizeOf132
  v22 := Try.zeroValue132
  t25 := Try.underlying144
  a25 := Try.isAgg144
  z25 := Try.sizeOf144
  v25 := Try.zeroValue144
  t39 := Try.underlying162
  a39 := Try.isAgg162
  z39 := Try.sizeOf162
  v39 := Try.zeroValue162
  t45 := Try.underlying171
  a45 := Try.isAgg171
  z45 := Try.sizeOf171
  v45 := Try.zeroValue171
  t46 := Try.underlying172
  a46 := Try.isAgg172
  z46 := Try.sizeOf172
  v46 := Try.zeroValue172
  t50 := Try.underlying30
  a50 := Try.isAgg30
  z50 := Try.sizeOf30
  v50 := Try.zeroValue30
  t53 := Try.underlying178
  a53 := Try.isAgg178
  z53 := Try.sizeOf178
  v53 := Try.zeroValue178
  t55 := Try.underlying27
  a55 := Try.isAgg27
  z55 := Try.sizeOf27
  v55 := Try.zeroValue27
  t66 := Try.underlying186
  a66 := Try.isAgg186
  z66 := Try.sizeOf186
  v66 := Try.zeroValue186
  t70 := Try.underlying190
  a70 := Try.isAgg190
  z70 := Try.sizeOf190
  v70 := Try.zeroValue190
  t76 := Try.underlying194
  a76 := Try.isAgg194
  z76 := Try.sizeOf194
  v76 := Try.zeroValue194
  t77 := Try.underlying195
  a77 := Try.isAgg195
  z77 := Try.sizeOf195
  v77 := Try.zeroValue195 }
end Go.Proofs
