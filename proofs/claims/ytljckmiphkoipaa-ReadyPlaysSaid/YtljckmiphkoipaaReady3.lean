/-
  The ready ones: Peek, Pick.
-/
import Derived.Test.YtljckmiphkoipaaReady2
namespace Go.Proofs.Ytljckmiphkoipaa
set_option linter.unusedVariables false
set_option linter.unusedSimpArgs false
open Go.RowKit Go.MapKept Go.Maps Go.Proofs.YtljckmiphkoipaaW.PrintWords Go.Proofs.YtljckmiphkoipaaW.PrintLast Go.Proofs.YtljckmiphkoipaaW.PrintMore

def pickP (m : RM) : Int × Int := placeOf m.policy m.lot m.picks m.told m.l
def pickV (m : RM) : Int := if m.l = [] then 0 else rd m.l (pickP m).1
def pickM (m : RM) : RM := if m.l = [] then m else { m with lot := (pickP m).2, told := m.told ++ [(pickP m).1], l := m.l.filter (fun y => decide (y ≠ rd m.l (pickP m).1)) }

theorem cell_rd {w : World} {gb : Nat} {l : List Int} (h : ∀ j, j < l.length → w.cell? ⟨gb, 0 + j, none⟩ = some (.int .i64 (l.getD j 0))) {p : Int} (h0 : 0 ≤ p) (h1 : p < l.length) : w.cell? ⟨gb, p.toNat, none⟩ = some (.int .i64 (rd l p)) := by
  have := h p.toNat (by omega)
  rw [Nat.zero_add] at this
  exact this

section
variable (w : World) (base g : Nat) (Q : Nat → Prop) (n x : Int) (m : RM)

theorem peek_calls (h : IsReady w base g Q n m) (hn : n < 4611686018427387904) (ht : m.told.length ≤ 17592186044415) :
    Calls Try.prog 57 #[.pointer (some ⟨g, 0, none⟩)] w fun e w' => e = .returned (.tuple #[.int .i64 (pickV m), .bool (decide (m.l ≠ []))]) ∧ Below w.heap.size w w' := by
  have hc := rall_calls w base g Q n m h hn
  by_cases hl : m.l = []
  · simp only [pickV, hl, if_true, ne_eq, not_true_eq_false, decide_false] at hc ⊢
    go_enter Try.func57, Try.ntmps57
    go_wp2_with (go_at_call 21; refine hc.mono ?_; rintro e w1 ⟨v, rfl, hR, hB⟩; obtain ⟨A1, c1, rfl, _⟩ := Kd.R_reads hR; replace hR := Aside0.mk hR; replace hB := Aside0.mk hB)
    go_ret2
    exact ⟨rfl, hB.out⟩
  · have hpos : 0 < m.l.length := List.length_pos_iff.2 hl
    have hr := placeOf_range (policy := m.policy) (lot := m.lot) (picks := m.picks) (told := m.told) hpos
    have hfew : m.l.length ≤ 65536 := by obtain ⟨b, v2, v3, h⟩ := h; exact h.turns.few
    have hne : ((m.l.length : Int) == 0) = false := beq_eq_false_iff_ne.2 (by omega)
    have hv : pickV m = rd m.l (pickP m).1 := by unfold pickV; rw [if_neg hl]
    have hd : decide (m.l ≠ []) = true := decide_eq_true hl
    rw [hv, hd]
    have hpl : ∀ w1 ok v, Below w.heap.size w w1 → (Kd.int .i64).R 3 w1 w.heap.size ok v m.l → Calls Try.prog 70 #[.pointer (some ⟨g, 0, none⟩), v] w1 fun e w' => e = .returned (.tuple #[.int .i64 (pickP m).1, .int .u64 (pickP m).2]) ∧ Drawn0 w1 w' := by
      intro w1 ok v hB hR
      obtain ⟨b, v2, v3, h1⟩ := h.below hB
      exact place_calls w1 g m.policy m.lot _ v2 v3 v base w.heap.size _ _ ok m.picks m.told m.l h1.blk h1.picks h1.told hR hpos hfew h1.lot h1.few (by omega)
    change 0 ≤ (pickP m).1 ∧ (pickP m).1 < m.l.length at hr
    generalize pickP m = pp at hpl hr ⊢
    obtain ⟨p, lot2⟩ := pp
    simp only at hpl hr ⊢
    have p1 := hr.1
    have q1 := hr.2
    replace hpl := Aside0.mk hpl
    replace hl := Aside0.mk hl
    replace hpos := Aside0.mk hpos
    replace hr := Aside0.mk hr
    clear hfew hv hd h
    replace p1 := eq_true p1
    replace q1 := eq_true q1
    go_enter Try.func57, Try.ntmps57
    go_wp2_with (first
      | (go_at_call 21; refine hc.mono ?_; rintro e w1 ⟨v, rfl, hR, hB⟩; obtain ⟨gb, cc, rfl, _, _, hcl⟩ := R_cells hR hpos.out; have hx := cell_rd hcl hr.out.1 hr.out.2; clear hcl; replace hR := Aside0.mk hR; replace hB := Aside0.mk hB)
      | (go_at_call 70; refine (hpl.out _ _ _ hB.out hR.out).mono ?_; rintro e w2 ⟨rfl, ⟨d, rfl⟩⟩))
    go_ret2
    refine ⟨rfl, ?_⟩
    exact hB.out.trans ⟨rfl, rfl, rfl, Nat.le_refl _, fun _ _ => rfl⟩

set_option maxRecDepth 100000 in
set_option maxHeartbeats 8000000 in
theorem pick_calls (h : IsReady w base g Q n m) (hn : n < 4611686018427387904) (ht : m.told.length ≤ 17592186044415) (hbase : base ≤ w.heap.size) :
    Calls Try.prog 15 #[.pointer (some ⟨g, 0, none⟩)] w fun e w' => e = .returned (.tuple #[.int .i64 (pickV m), .bool (decide (m.l ≠ []))]) ∧ IsReady w' base g (fun k => Q k ∨ w.heap.size ≤ k) n (pickM m) ∧ Only Q w w' := by
  have hc := rall_calls w base g Q n m h hn
  by_cases hl : m.l = []
  · have hm : pickM m = m := by unfold pickM; rw [if_pos hl]
    rw [hm]
    simp only [pickV, hl, if_true, ne_eq, not_true_eq_false, decide_false] at hc ⊢
    replace h := Aside0.mk h
    go_enter Try.func15, Try.ntmps15
    go_wp2_with (go_at_call 21; refine hc.mono ?_; rintro e w1 ⟨v, rfl, hR, hB⟩; obtain ⟨A1, c1, rfl, _⟩ := Kd.R_reads hR; replace hR := Aside0.mk hR; replace hB := Aside0.mk hB)
    go_ret2
    exact ⟨rfl, (h.out.below hB.out).mono (fun k hk => .inl hk), Only.ofBelow hB.out⟩
  · have hpos : 0 < m.l.length := List.length_pos_iff.2 hl
    have hr := placeOf_range (policy := m.policy) (lot := m.lot) (picks := m.picks) (told := m.told) hpos
    have hfew : m.l.length ≤ 65536 := by obtain ⟨b, v2, v3, h⟩ := h; exact h.turns.few
    have hgood : ∀ x ∈ m.l, goodI x := by obtain ⟨b, v2, v3, h⟩ := h; exact h.turns.good
    have hne : ((m.l.length : Int) == 0) = false := beq_eq_false_iff_ne.2 (by omega)
    have hv : pickV m = rd m.l (pickP m).1 := by unfold pickV; rw [if_neg hl]
    have hd : decide (m.l ≠ []) = true := decide_eq_true hl
    have hm : pickM m = { m with lot := (pickP m).2, told := m.told ++ [(pickP m).1], l := m.l.filter (fun y => decide (y ≠ rd m.l (pickP m).1)) } := by unfold pickM; rw [if_neg hl]
    have hplot : in64 (pickP m).2 := by obtain ⟨b, v2, v3, h⟩ := h; exact placeOf_lot h.lot
    rw [hv, hd, hm]
    have hT := h.tight
    obtain ⟨b, v2, v3, h0⟩ := hT
    have hpl : ∀ w1 ok v, Below w.heap.size w w1 → (Kd.int .i64).R 3 w1 w.heap.size ok v m.l → Calls Try.prog 70 #[.pointer (some ⟨g, 0, none⟩), v] w1 fun e w' => e = .returned (.tuple #[.int .i64 (pickP m).1, .int .u64 (pickP m).2]) ∧ Drawn0 w1 w' := by
      intro w1 ok v hB hR
      have h1 := h0.only (Only.ofBelow (F := fun _ => False) hB) (fun _ _ h => h)
      exact place_calls w1 g m.policy m.lot _ v2 v3 v base w.heap.size _ _ ok m.picks m.told m.l h1.blk h1.picks h1.told hR hpos hfew h1.lot h1.few (by omega)
    change 0 ≤ (pickP m).1 ∧ (pickP m).1 < m.l.length at hr
    generalize pickP m = pp at hpl hr hplot ⊢
    obtain ⟨p, lot2⟩ := pp
    simp only at hpl hr hplot ⊢
    have hymem : rd m.l p ∈ m.l := by unfold rd; rw [List.getD_eq_getElem?_getD, List.getElem?_eq_getElem (by omega)]; exact List.getElem_mem _
    obtain ⟨y, hy⟩ : ∃ y, y = rd m.l p := ⟨_, rfl⟩
    rw [← hy] at hymem ⊢
    have p1 := hr.1
    have q1 := hr.2
    have f0 : g < w.heap.size := blk_lt h0.blk
    have f1 : b + 2 < w.heap.size := h0.blt
    replace hpl := Aside0.mk hpl
    replace hl := Aside0.mk hl
    replace hpos := Aside0.mk hpos
    replace hr := Aside0.mk hr
    replace h0 := Aside0.mk h0
    replace hy := Aside0.mk hy
    have hgy := Aside0.mk (hgood y hymem)
    replace hymem := Aside0.mk hymem
    replace hplot := Aside0.mk hplot
    replace ht := Aside0.mk ht
    replace f0 := Aside0.mk f0
    replace f1 := Aside0.mk f1
    replace hbase := Aside0.mk hbase
    clear hfew hv hd h hm hgood hn
    replace p1 := eq_true p1
    replace q1 := eq_true q1
    go_enter Try.func15, Try.ntmps15
    go_upto_region 5 with (first
      | (go_at_call 21; refine hc.mono ?_; rintro e w1 ⟨v, rfl, hR, hB⟩; obtain ⟨gb, cc, rfl, _, _, hcl⟩ := R_cells hR hpos.out; replace hcl := Aside0.mk hcl; replace hR := Aside0.mk hR; replace hB := Aside0.mk hB)
      | (go_at_call 70; refine (hpl.out _ _ _ hB.out hR.out).mono ?_; rintro e w2 ⟨rfl, hw2⟩; replace hw2 := Aside0.mk hw2))
    have hB2 : Below w.heap.size w w2 := by obtain ⟨d, rfl⟩ := hw2.out; exact hB.out.trans ⟨rfl, rfl, rfl, Nat.le_refl _, fun _ _ => rfl⟩
    have hA2 := Aside0.mk (h0.out.only (Only.ofBelow (F := fun _ => False) hB2) (fun _ _ h => h))
    replace hB2 := Aside0.mk hB2
    have hRv2 : Aside0 ((Kd.int .i64).R 3 w2 w.heap.size (fun k => w.heap.size ≤ k) (.slice (some ⟨gb, 0, none⟩) m.l.length cc) m.l) := ⟨by
      obtain ⟨d, rfl⟩ := hw2.out
      exact Kd.R_drewN (Kd.R_mono (Kd.R_bound hR.out) (fun k hk => hk.2.1)) d⟩
    clear hR hcl hB
    have c1 : w2.cell? ⟨g, 1, none⟩ = some (.int .u64 m.lot) := (blk_cell hA2.out.blk 1).trans rfl
    have fz := blk_frozen hA2.out.blk 1
    go_upto_region 6 with fail
    clear c1 fz
    obtain ⟨W3, hW3⟩ : ∃ W3, W3 = w2.setCell ⟨g, 1, none⟩ (.int .u64 lot2) := ⟨_, rfl⟩
    have K3 : W3.heap[g]? = some (.cells #[.int .i64 m.policy, .int .u64 lot2, v2, v3, .pointer (some ⟨b + 2, 0, none⟩)] 106 (0, 0)) := by rw [hW3]; exact blk_put hA2.out.blk 1 _ rfl
    have o3 : Only (fun k => k = g) w2 W3 := by rw [hW3]; exact (Only.refl (fun k => k = g) w2).setCell (fun _ => rfl) _
    rw [← hW3]
    have s2 : w.heap.size ≤ w2.heap.size := hB2.out.size
    have s3 : w2.heap.size ≤ W3.heap.size := o3.size
    have t3 : IsTurns W3 b m.l n := hA2.out.turns.only o3 (fun i hi e => hA2.out.bg (e ▸ hi))
    have rp3 := R_only hA2.out.picks o3 (fun k hk => hk.2.1)
    have rt3 := R_only hA2.out.told o3 (fun k hk => hk.2.1)
    have rv3 := R_only hRv2.out o3 (fun k hk e => by have := f0.out; omega)
    clear hW3
    have c3 : W3.cell? ⟨g, 3, none⟩ = some v3 := (blk_cell K3 3).trans rfl
    have rt3' : (Kd.int .i64).R 3 W3 base (fun k => (Q k ∨ w.heap.size ≤ k) ∧ k ≠ g ∧ ¬ tfoot b k ∧ some k ≠ v2.ownBlock ∧ some k ≠ (Value.slice (some ⟨gb, 0, none⟩) m.l.length cc).ownBlock) v3 m.told :=
      Kd.R_mono rt3 (fun k hk => ⟨.inl hk.1.1, hk.2.1, hk.2.2.1, hk.2.2.2, fun e => by have := rv3.1 k e.symm; have := hk.1.2.2; omega⟩)
    have hfresh : ∀ k, W3.heap.size ≤ k → (Q k ∨ w.heap.size ≤ k) ∧ k ≠ g ∧ ¬ tfoot b k ∧ some k ≠ v2.ownBlock ∧ some k ≠ (Value.slice (some ⟨gb, 0, none⟩) m.l.length cc).ownBlock := fun k hk =>
      ⟨.inr (by omega), by have := f0.out; omega, fun ht => by have := ht.2; have := f1.out; omega, fun e => by have := Kd.R_lt rp3 k e.symm; omega, fun e => by have := Kd.R_lt rv3 k e.symm; omega⟩
    have H3 := Aside0.mk (And.intro K3 (And.intro o3 (And.intro s2 (And.intro s3 (And.intro t3 (And.intro rp3 (And.intro rv3 (And.intro rt3' hfresh))))))))
    have hgt : some g ≠ v3.ownBlock := fun e => (rt3.1 g e.symm).2.1 rfl
    replace hgt := Aside0.mk hgt
    clear K3 o3 s2 s3 t3 rp3 rv3 rt3' hfresh rt3 hRv2
    go_upto_region 7 with ((with_reducible refine gate_builtin (b := .append) (xs := #[.tmp 26, .tmp 28]) rfl ?_); at_builtin; refine Kd.R_append (Kd.int .i64) (w0 := W3) base rfl (.tmp 26) (.tmp 28) 22 3 (.int .i64 0) 8 rfl undSI info3 rfl (by decide) (by decide) v3 m.told p [.int .i64 p] (fun k => (Q k ∨ w.heap.size ≤ k) ∧ k ≠ g ∧ ¬ tfoot b k ∧ some k ≠ v2.ownBlock ∧ some k ≠ (Value.slice (some ⟨gb, 0, none⟩) m.l.length cc).ownBlock) (fun _ => False) rfl rfl rfl (fun _ h => h.elim) H3.out.2.2.2.2.2.2.2.2 H3.out.2.2.2.2.2.2.2.1 (Below.refl _ _) (by have := hbase.out; have := H3.out.2.2.1; have := H3.out.2.2.2.1; omega) (by have := ht.out; omega) ?_; intro v4 w4 hR4 hB4 hg4 hat4; have K4 := Aside0.mk ((hg4.block g (blk_lt H3.out.1) hgt.out).trans H3.out.1); have c43 : w4.cell? ⟨g, 3, none⟩ = some v3 := (blk_cell K4.out 3).trans rfl; have f43 := blk_frozen K4.out 3; obtain ⟨A4, cc4, e4, _⟩ := Kd.R_reads hR4; obtain ⟨n4, hn4⟩ : ∃ n4, n4 = (m.told ++ [p]).length := ⟨_, rfl⟩; rw [← hn4] at e4; subst e4; replace hn4 := Aside0.mk hn4; replace hR4 := Aside0.mk hR4; replace hg4 := Aside0.mk hg4; clear hB4 hat4 c3)
    clear c43 f43
    obtain ⟨K3, o3, s2, s3, t3, rp3, rv3, rt3', hfresh⟩ := H3.out
    have o34 : Only (fun k => some k = v3.ownBlock) W3 w4 := Only.ofGrown hg4.out
    obtain ⟨W5, hW5⟩ : ∃ W5, W5 = w4.setCell ⟨g, 3, none⟩ (.slice A4 n4 cc4) := ⟨_, rfl⟩
    have K5 : W5.heap[g]? = some (.cells #[.int .i64 m.policy, .int .u64 lot2, v2, .slice A4 n4 cc4, .pointer (some ⟨b + 2, 0, none⟩)] 106 (0, 0)) := by rw [hW5]; exact blk_put K4.out 3 _ rfl
    have o5 : Only (fun k => k = g) w4 W5 := by rw [hW5]; exact (Only.refl (fun k => k = g) w4).setCell (fun _ => rfl) _
    rw [← hW5]
    clear hW5
    have hv3 := rt3'.1
    have t5 : IsTurns W5 b m.l n := (t3.only o34 (fun i hi e => (hv3 i e.symm).2.2.1 hi)).only o5 (fun i hi e => hA2.out.bg (e ▸ hi))
    have rv5 : (Kd.int .i64).R 3 W5 w.heap.size (fun k => w.heap.size ≤ k) (.slice (some ⟨gb, 0, none⟩) m.l.length cc) m.l :=
      R_only (Kd.R_grown2 rv3 rfl hg4.out (fun k hk => (hv3 k hk).2.2.2.2)) o5 (fun k hk e => by have := f0.out; omega)
    have rp5 : (Kd.int .i64).R 3 W5 base (fun k => Q k ∧ k ≠ g ∧ ¬ tfoot b k ∧ some k ≠ (Value.slice A4 n4 cc4).ownBlock) v2 m.picks := by
      have h1 := R_only (Kd.R_grown2 rp3 rfl hg4.out (fun k hk => (hv3 k hk).2.2.2.1)) o5 (fun k hk e => hk.2.1 e)
      refine ⟨fun k hk => ⟨(h1.1 k hk).1.1, (h1.1 k hk).2.1, (h1.1 k hk).2.2.1, fun e => (hR4.out.1 k e.symm).2.2.2.1 hk.symm⟩, ?_⟩
      exact (Kd.R_tight rfl h1).2
    have rt5 := R_only hR4.out o5 (fun k hk e => hk.2.1 e)
    have s4 : w2.heap.size ≤ W5.heap.size := by have := o34.size; have := o5.size; omega
    have oa : Only Q w w2 := Only.ofBelow hB2.out
    have ob : Only Q w W3 := oa.then o3 (fun i _ e => by subst e; exact hA2.out.qg.1)
    have oc : Only Q w w4 := ob.then o34 (fun i hi e => (hv3 i e.symm).1.resolve_right (by omega))
    have od : Only Q w W5 := oc.then o5 (fun i _ e => by subst e; exact hA2.out.qg.1)
    have c4 : W5.cell? ⟨g, 4, none⟩ = some (.pointer (some ⟨b + 2, 0, none⟩)) := (blk_cell K5 4).trans rfl
    have cx : W5.cell? ⟨gb, p.toNat, none⟩ = some (.int .i64 y) := by
      rw [hy.out]
      obtain ⟨gb', cc', e', _, _, hcl⟩ := R_cells rv5 hpos.out
      cases e'
      exact cell_rd hcl hr.out.1 hr.out.2
    have H5 := Aside0.mk (And.intro K5 (And.intro t5 (And.intro rp5 (And.intro rt5 (And.intro rv5 od)))))
    clear K5 t5 rp5 rt5 rv5 oa ob oc od o3 s2 s3 t3 rp3 rv3 rt3' hfresh o34 o5 hv3 s4 K3 K4 hR4 hg4
    refine start_ (n := 9) (S := fun w' => w'.cell? ⟨g, 4, none⟩ = some (.pointer (some ⟨b + 2, 0, none⟩)) ∧ w'.cell? ⟨gb, p.toNat, none⟩ = some (.int .i64 y)) (ds := [8]) #[false, false, false, false, false, false, false, false, false] (by kernel_rfl) rfl rfl ⟨c4, cx⟩ (fun hHeld => ?_)
    refine pure_ (i := 0) (N := some 32) (v := ?_) (a' := ?_) #[true, false, false, false, false, false, false, false, false] rfl rfl (by kernel_rfl) (fun _ _ _ h => h) (Or.inl ⟨by rfl, ?_⟩) ?_ ?_
    rotate_left
    · intro w'
      go_simp
      with_reducible rfl
    rotate_left
    · simp only [Act.put, List.setIfInBounds_toArray, List.set_cons_zero, List.set_cons_succ, i64_w, i32_w]
      rfl
    refine pure_ (i := 1) (N := some 33) (v := ?_) (a' := ?_) #[true, true, false, false, false, false, false, false, false] rfl rfl (by kernel_rfl) (fun _ _ _ h => h) (Or.inl ⟨by rfl, ?_⟩) ?_ ?_
    rotate_left
    · intro w'
      go_simp
      with_reducible rfl
    rotate_left
    · simp only [Act.put, List.setIfInBounds_toArray, List.set_cons_zero, List.set_cons_succ, i64_w, i32_w]
      rfl
    refine pure_ (i := 2) (N := some 34) (v := ?_) (a' := ?_) #[true, true, true, false, false, false, false, false, false] rfl rfl (by kernel_rfl) (fun _ _ _ h => h) (Or.inl ⟨by rfl, ?_⟩) ?_ ?_
    rotate_left
    · intro w'
      go_simp
      with_reducible rfl
    rotate_left
    · simp only [Act.put, List.setIfInBounds_toArray, List.set_cons_zero, List.set_cons_succ, i64_w, i32_w]
      rfl
    refine pure_ (i := 4) (N := some 36) (v := ?_) (a' := ?_) #[true, true, true, false, true, false, false, false, false] rfl rfl (by kernel_rfl) (fun _ _ _ h => h) (Or.inl ⟨by rfl, ?_⟩) ?_ ?_
    rotate_left
    · intro w'
      go_simp
      with_reducible rfl
    rotate_left
    · simp only [Act.put, List.setIfInBounds_toArray, List.set_cons_zero, List.set_cons_succ, i64_w, i32_w]
      rfl
    refine pure_ (i := 5) (N := some 37) (v := ?_) (a' := ?_) #[true, true, true, false, true, true, false, false, false] rfl rfl (by kernel_rfl) (fun _ _ _ h => h) (Or.inl ⟨by rfl, ?_⟩) ?_ ?_
    rotate_left
    · intro w'
      go_simp
      with_reducible rfl
    rotate_left
    · simp only [Act.put, List.setIfInBounds_toArray, List.set_cons_zero, List.set_cons_succ, i64_w, i32_w]
      rfl
    refine pure_ (i := 6) (N := some 38) (v := ?_) (a' := ?_) #[true, true, true, false, true, true, true, false, false] rfl rfl (by kernel_rfl) (fun _ _ _ h => h) (Or.inl ⟨by rfl, ?_⟩) ?_ ?_
    rotate_left
    · intro w'
      go_simp
      with_reducible rfl
    rotate_left
    · simp only [Act.put, List.setIfInBounds_toArray, List.set_cons_zero, List.set_cons_succ, i64_w, i32_w]
      rfl
    refine take_ (i := 3) (N := some 35) (v := ?_) (a' := ?_) #[true, true, true, true, true, true, true, false, false] rfl rfl (by kernel_rfl) (fun _ _ _ h => h) (Or.inl ⟨by rfl, ?_⟩) hHeld ?_ ?_
    rotate_left
    · rintro w' ⟨s0, s1⟩
      go_simp
      with_reducible rfl
    rotate_left
    · simp only [Act.put, List.setIfInBounds_toArray, List.set_cons_zero, List.set_cons_succ, i64_w, i32_w]
      rfl
    refine take_ (i := 7) (N := some 39) (v := ?_) (a' := ?_) #[true, true, true, true, true, true, true, true, false] rfl rfl (by kernel_rfl) (fun _ _ _ h => h) (Or.inl ⟨by rfl, ?_⟩) hHeld ?_ ?_
    rotate_left
    · rintro w' ⟨s0, s1⟩
      go_simp
      with_reducible rfl
    rotate_left
    · simp only [Act.put, List.setIfInBounds_toArray, List.set_cons_zero, List.set_cons_succ, i64_w, i32_w]
      rfl
    refine last_ (i := 8) (N := some 40) #[true, true, true, true, true, true, true, true, true] rfl rfl (by kernel_rfl) (by decide) (fun K hK => ?_)
    refine goes_ Try.func44 (by kernel_rfl) rfl #[.pointer (some ⟨b + 2, 0, none⟩), .int .i64 y] (by rfl) rfl rfl (by simp only [List.map_toArray, List.map_cons, List.map_nil]; rfl) ?_
    with_reducible refine (drop_calls W5.drew n y b m.l H5.out.2.1.drew hgy.out).mono ?_
    rintro e w6 ⟨rfl, hT6, hO6⟩
    refine ⟨_, rfl, ?_⟩
    replace hT6 := Aside0.mk hT6
    replace hO6 := Aside0.mk hO6
    refine hK.out _ _ ?_
    clear hK K
    refine norm_ (a' := ?_) ?_ ?_
    rotate_left
    · show Act.put _ (some 40) _ = _
      simp only [Act.put, List.setIfInBounds_toArray, List.set_cons_zero, List.set_cons_succ, i64_w, i32_w]
      rfl
    refine done_ (by kernel_rfl) ?_
    obtain ⟨K5, t5, rp5, rt5, rv5, od⟩ := H5.out
    have o6 : Only (tfoot b) W5 w6 := ⟨hO6.out.os, hO6.out.tape, hO6.out.output, hO6.out.size, hO6.out.block⟩
    have rv6 := R_only rv5 o6 (fun k hk ht => by have := ht.2; have := f1.out; omega)
    have cx6 : w6.cell? ⟨gb, p.toNat, none⟩ = some (.int .i64 y) := by
      rw [hy.out]
      obtain ⟨gb', cc', e', _, _, hcl⟩ := R_cells rv6 hpos.out
      cases e'
      exact cell_rd hcl hr.out.1 hr.out.2
    replace K5 := Aside0.mk K5
    replace t5 := Aside0.mk t5
    replace rp5 := Aside0.mk rp5
    replace rt5 := Aside0.mk rt5
    replace od := Aside0.mk od
    replace o6 := Aside0.mk o6
    clear rv5 rv6 c4 cx H5
    go_wp2
    go_ret2
    refine ⟨rfl, ⟨b, v2, .slice A4 n4 cc4, (o6.out.block g (blk_lt K5.out) h0.out.bg).trans K5.out, hT6.out, ?_, ?_, .inl h0.out.qg.1, fun k hk => .inl (h0.out.qb k hk).1, h0.out.bg, h0.out.base, hplot.out, h0.out.few⟩, od.out.then o6.out (fun i _ h => (h0.out.qb i h).1)⟩
    · exact Kd.R_mono (R_only rp5.out o6.out (fun k hk => hk.2.2.1)) (fun k hk => ⟨.inl hk.1, hk.2⟩)
    · exact Kd.R_mono (R_only rt5.out o6.out (fun k hk => hk.2.2.1)) (fun k hk => ⟨hk.1, hk.2.1, hk.2.2.1, hk.2.2.2.1⟩)
end
end Go.Proofs.Ytljckmiphkoipaa
