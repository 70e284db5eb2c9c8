/-
  The queue by turn as a plain list of (turn, item): what its two maps hold, and what each step makes of them; no program in sight but for the maps' laws.
-/
import Derived.Test.YtljckmiphkoipaaMapRaw
import Derived.Test.YtljckmiphkoipaaProg
import Derived.Test.YtljckmiphkoipaaWWords
namespace Go.Proofs.Ytljckmiphkoipaa
set_option linter.unusedVariables false
set_option linter.unusedSimpArgs false
open Go.RowKit Go.MapKept Go.Maps Go.Proofs.YtljckmiphkoipaaW.PrintWords

theorem w64 (n : Int) (h : -9223372036854775808 ≤ n ∧ n ≤ 9223372036854775807) : wrap64 n = n := by unfold wrap64; omega
theorem keyI : KeyEnc Try.prog 3 (Value.int .i64) goodI := keyEnc_int (by kernel_rfl)
theorem zeroI (w : World) : (zeroValue 3).run Try.prog w = .ok (.int .i64 0) w := by kernel_rfl
theorem undII : Try.prog.underlying 109 = some (.map 3 3) := by kernel_rfl

abbrev MII := IsMap (κ := Int) (ν := Int) (Value.int .i64) (Value.int .i64) goodI
abbrev sw (p : Int × Int) : Int × Int := (p.2, p.1)

structure TurnsOk (L : List (Int × Int)) (fr te : Int) : Prop where
  fr0 : 0 ≤ fr
  frto : fr ≤ te
  sorted : L.Pairwise (fun p q => p.1 < q.1)
  items : L.Pairwise (fun p q => p.2 ≠ q.2)
  turns : ∀ p ∈ L, fr ≤ p.1 ∧ p.1 < te
  good : ∀ p ∈ L, goodI p.2
  few : L.length ≤ 65536

/-- A queue by turn: its maps lie at b and b + 1, its struct at b + 2. -/
structure TurnsAt (w : World) (b : Nat) (L : List (Int × Int)) (fr te : Int) : Prop where
  blk : w.heap[b + 2]? = some (.cells #[.map (some b), .map (some (b + 1)), .int .i64 fr, .int .i64 te] 126 (0, 0))
  at_ : MII w b (L.map sw)
  items : MII w (b + 1) L

/-- A queue by turn that holds these items, in this order; behind at most n Puts. -/
def IsTurns (w : World) (b : Nat) (l : List Int) (n : Int) : Prop := ∃ L fr te, TurnsAt w b L fr te ∧ TurnsOk L fr te ∧ L.map (·.2) = l ∧ te ≤ n

/-- Its blocks. -/
def tfoot (b : Nat) (i : Nat) : Prop := b ≤ i ∧ i ≤ b + 2

section
variable {w w' : World} {b : Nat} {L : List (Int × Int)} {l : List Int} {fr te n : Int}

theorem TurnsAt.lt (h : TurnsAt w b L fr te) : b + 2 < w.heap.size := blk_lt h.blk
theorem IsTurns.lt (h : IsTurns w b l n) : b + 2 < w.heap.size := by obtain ⟨L, fr, te, h, _⟩ := h; exact h.lt
theorem TurnsAt.only {F : Nat → Prop} (h : TurnsAt w b L fr te) (ho : Only F w w') (hn : ∀ i, tfoot b i → ¬ F i) : TurnsAt w' b L fr te :=
  ⟨(ho.block _ h.lt (hn _ ⟨by omega, by omega⟩)).trans h.blk, h.at_.only ho (hn _ ⟨by omega, by omega⟩), h.items.only ho (hn _ ⟨by omega, by omega⟩)⟩
theorem IsTurns.only {F : Nat → Prop} (h : IsTurns w b l n) (ho : Only F w w') (hn : ∀ i, tfoot b i → ¬ F i) : IsTurns w' b l n := by
  obtain ⟨L, fr, te, h, r⟩ := h
  exact ⟨L, fr, te, h.only ho hn, r⟩
theorem IsTurns.more {m : Int} (h : IsTurns w b l n) (hm : n ≤ m) : IsTurns w b l m := by
  obtain ⟨L, fr, te, h1, h2, h3, h4⟩ := h
  exact ⟨L, fr, te, h1, h2, h3, by omega⟩
theorem TurnsAt.drew (h : TurnsAt w b L fr te) : TurnsAt w.drew b L fr te := ⟨h.blk, h.at_.of_block rfl, h.items.of_block rfl⟩
theorem IsTurns.drew (h : IsTurns w b l n) : IsTurns w.drew b l n := by
  obtain ⟨L, fr, te, h, r⟩ := h
  exact ⟨L, fr, te, h.drew, r⟩
theorem IsTurns.nodup (h : IsTurns w b l n) : l.Nodup := by
  obtain ⟨L, fr, te, h1, h2, rfl, h4⟩ := h
  rw [List.nodup_iff_pairwise_ne, List.pairwise_map]
  exact h2.items
theorem IsTurns.good (h : IsTurns w b l n) : ∀ x ∈ l, goodI x := by
  obtain ⟨L, fr, te, h1, h2, rfl, h4⟩ := h
  intro x hx
  obtain ⟨p, hp, rfl⟩ := List.mem_map.1 hx
  exact h2.good p hp
theorem IsTurns.few (h : IsTurns w b l n) : l.length ≤ 65536 := by
  obtain ⟨L, fr, te, h1, h2, rfl, h4⟩ := h
  simpa using h2.few

theorem TurnsOk.empty : TurnsOk [] 0 0 := ⟨Int.le_refl _, Int.le_refl _, by simp, by simp, by simp, by simp, by simp⟩

theorem TurnsOk.at_none {x : Int} (h : TurnsOk L fr te) : aget (L.map sw) x = none ↔ x ∉ L.map (·.2) := by
  rw [aget_none]
  constructor
  · intro h hx
    obtain ⟨p, hp, rfl⟩ := List.mem_map.1 hx
    exact h (sw p) (List.mem_map.2 ⟨p, hp, rfl⟩) rfl
  · intro h p hp e
    obtain ⟨q, hq, rfl⟩ := List.mem_map.1 hp
    exact h (List.mem_map.2 ⟨q, hq, e⟩)
theorem TurnsOk.at_some {x : Int} (h : TurnsOk L fr te) (hx : x ∈ L.map (·.2)) : ∃ t, (t, x) ∈ L ∧ aget (L.map sw) x = some t ∧ 0 ≤ t ∧ t < te := by
  obtain ⟨p, hp, rfl⟩ := List.mem_map.1 hx
  refine ⟨p.1, hp, ?_, ?_, (h.turns p hp).2⟩
  · refine aget_of_mem ?_ (List.mem_map.2 ⟨p, hp, rfl⟩)
    rw [List.pairwise_map]
    exact h.items
  · have := (h.turns p hp).1; have := h.fr0; omega
theorem TurnsOk.turnsNe (h : TurnsOk L fr te) : L.Pairwise (fun p q => p.1 ≠ q.1) := h.sorted.imp (fun h e => by omega)
/-- A new one behind. -/
theorem TurnsOk.push {x : Int} (h : TurnsOk L fr te) (hx : x ∉ L.map (·.2)) (hg : goodI x) (hf : L.length < 65536) :
    TurnsOk (L ++ [(te, x)]) fr (te + 1) ∧ aput (L.map sw) x te = (L ++ [(te, x)]).map sw ∧ aput L te x = L ++ [(te, x)] := by
  refine ⟨⟨h.fr0, by have := h.frto; omega, ?_, ?_, ?_, ?_, by simp; omega⟩, ?_, ?_⟩
  · rw [List.pairwise_append]
    refine ⟨h.sorted, by simp, fun p hp q hq => ?_⟩
    rw [List.mem_singleton.1 hq]
    exact (h.turns p hp).2
  · rw [List.pairwise_append]
    refine ⟨h.items, by simp, fun p hp q hq e => hx ?_⟩
    rw [List.mem_singleton.1 hq] at e
    exact List.mem_map.2 ⟨p, hp, e⟩
  · intro p hp
    rcases List.mem_append.1 hp with hp | hp
    · have := h.turns p hp; omega
    · rw [List.mem_singleton.1 hp]; have := h.frto; simp; omega
  · intro p hp
    rcases List.mem_append.1 hp with hp | hp
    · exact h.good p hp
    · rw [List.mem_singleton.1 hp]; exact hg
  · rw [aput_new (h.at_none.2 hx), List.map_append]; rfl
  · exact aput_new (aget_none.2 fun p hp e => by have := (h.turns p hp).2; omega)
/-- One is taken out. -/
theorem TurnsOk.drop {x t : Int} (h : TurnsOk L fr te) (ht : (t, x) ∈ L) :
    TurnsOk (adel L t) fr te ∧ adel (L.map sw) x = (adel L t).map sw ∧ (adel L t).map (·.2) = (L.map (·.2)).filter (fun y => decide (y ≠ x)) := by
  have key : ∀ q ∈ L, decide (q.1 ≠ t) = decide (q.2 ≠ x) := by
    intro q hq
    have h1 : q.1 = t ↔ q.2 = x := by
      constructor
      · intro e
        have a1 := aget_of_mem h.turnsNe (x := t) (v := x) ht
        have a2 := aget_of_mem h.turnsNe (x := q.1) (v := q.2) hq
        rw [e, a1] at a2
        exact (Option.some.inj a2).symm
      · intro e
        have hw : (L.map sw).Pairwise (fun p q => p.1 ≠ q.1) := by rw [List.pairwise_map]; exact h.items
        have a1 := aget_of_mem hw (x := x) (v := t) (List.mem_map.2 ⟨_, ht, rfl⟩)
        have a2 := aget_of_mem hw (x := q.2) (v := q.1) (List.mem_map.2 ⟨_, hq, rfl⟩)
        rw [e, a1] at a2
        exact (Option.some.inj a2).symm
    simp [h1]
  refine ⟨⟨h.fr0, h.frto, h.sorted.filter _, h.items.filter _, fun p hp => h.turns p (List.mem_filter.1 hp).1, fun p hp => h.good p (List.mem_filter.1 hp).1, Nat.le_trans (List.length_filter_le _ _) h.few⟩, ?_, ?_⟩
  · unfold adel
    rw [List.filter_map]
    congr 1
    exact List.filter_congr (fun q hq => (key q hq).symm)
  · unfold adel
    rw [List.filter_map]
    congr 1
    exact List.filter_congr key
theorem TurnsOk.from_ {fr' : Int} (h : TurnsOk L fr te) (h0 : fr ≤ fr') (h1 : fr' ≤ te) (h2 : ∀ p ∈ L, fr' ≤ p.1) : TurnsOk L fr' te :=
  ⟨by have := h.fr0; omega, h1, h.sorted, h.items, fun p hp => ⟨h2 p hp, (h.turns p hp).2⟩, h.good, h.few⟩
/-- The first one. -/
theorem TurnsOk.head {p : Int × Int} {L' : List (Int × Int)} (h : TurnsOk (p :: L') fr te) : aget (p :: L') p.1 = some p.2 ∧ ∀ t, t < p.1 → aget (p :: L') t = none := by
  refine ⟨by rw [aget_cons, if_pos rfl], fun t ht => aget_none.2 fun q hq e => ?_⟩
  rcases List.mem_cons.1 hq with rfl | hq
  · omega
  · have := (List.pairwise_cons.1 h.sorted).1 q hq; omega
end
end Go.Proofs.Ytljckmiphkoipaa
