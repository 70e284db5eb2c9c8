/-
  The ready ones: Clone.
-/
import Derived.Test.YtljckmiphkoipaaReady5
namespace Go.Proofs.Ytljckmiphkoipaa
set_option linter.unusedVariables false
set_option linter.unusedSimpArgs false
open Go.RowKit Go.MapKept Go.Maps Go.Proofs.YtljckmiphkoipaaW.PrintWords Go.Proofs.YtljckmiphkoipaaW.PrintLast Go.Proofs.YtljckmiphkoipaaW.PrintMore

theorem cell_far {w : World} {p q : Addr} {v : Option Value} (h : p.block ≠ q.block) (u : Value) (hc : w.cell? p = v) : (w.setCell q u).cell? p = v := by
  rw [← hc]
  unfold World.cell?
  rw [Below.heap_setCell _ _ _ _ h]

theorem ReadyAt.turned {w w' : World} {base g b : Nat} {v2 v3 : Value} {Q : Nat → Prop} {n n' : Int} {m : RM} {l' : List Int} (h : ReadyAt w base g b v2 v3 Q n m) (hT : IsTurns w' b l' n') (hO : Only (tfoot b) w w') : ReadyAt w' base g b v2 v3 Q n' { m with l := l' } :=
  ⟨(hO.block _ (blk_lt h.blk) h.bg).trans h.blk, hT, R_only h.picks hO (fun k hk => hk.2.2.1), R_only h.told hO (fun k hk => hk.2.2.1), h.qg, h.qb, h.bg, h.base, h.lot, h.few⟩

section
variable (w : World) (base g : Nat) (Q : Nat → Prop) (n : Int) (m : RM)
set_option maxRecDepth 100000 in
set_option maxHeartbeats 16000000 in
theorem rclone_calls (h : IsReady w base g Q n m) (hn : n < 4611686018427387904) (ht : m.told.length ≤ 17592186044415) :
    Calls Try.prog 54 #[.pointer (some ⟨g, 0, none⟩)] w fun e w' => ∃ g', e = .returned (.pointer (some ⟨g', 0, none⟩)) ∧ IsReady w' w.heap.size g' (fun k => w.heap.size ≤ k) 65536 m ∧ Below w.heap.size w w' := by
  obtain ⟨b, v2, v3, h⟩ := h
  obtain ⟨A2, n2, d2, hv2⟩ : ∃ A n c, v2 = .slice A n c := by obtain ⟨A, c, h, _⟩ := Kd.R_reads h.picks; exact ⟨_, _, _, h⟩
  obtain ⟨A3, n3, d3, hv3⟩ : ∃ A n c, v3 = .slice A n c := by obtain ⟨A, c, h, _⟩ := Kd.R_reads h.told; exact ⟨_, _, _, h⟩
  subst hv2 hv3
  have c0 : w.cell? ⟨g, 0, none⟩ = some (.int .i64 m.policy) := (blk_cell h.blk 0).trans rfl
  have c1 : w.cell? ⟨g, 1, none⟩ = some (.int .u64 m.lot) := (blk_cell h.blk 1).trans rfl
  have c2 : w.cell? ⟨g, 2, none⟩ = some (.slice A2 n2 d2) := (blk_cell h.blk 2).trans rfl
  have c3 : w.cell? ⟨g, 3, none⟩ = some (.slice A3 n3 d3) := (blk_cell h.blk 3).trans rfl
  have c4 : w.cell? ⟨g, 4, none⟩ = some (.pointer (some ⟨b + 2, 0, none⟩)) := (blk_cell h.blk 4).trans rfl
  have HG := Aside0.mk (And.intro h (And.intro hn ht))
  clear h hn ht
  go_enter Try.func54, Try.ntmps54
  go_upto_region 4 with fail
  obtain ⟨W0, hW0⟩ : ∃ W0, W0 = w.alloc (Obj.cells #[.int .i64 m.policy, .int .u64 m.lot, .slice A2 n2 d2, .slice A3 n3 d3, .pointer (some ⟨b + 2, 0, none⟩)] 106) := ⟨_, rfl⟩
  have b0 : Below w.heap.size w W0 := by rw [hW0]; exact (Below.refl _ _).alloc (Nat.le_refl _) _
  have s0 : W0.heap.size = w.heap.size + 1 := by rw [hW0]; simp
  have x0 : W0.heap[w.heap.size]? = some (.cells #[.int .i64 m.policy, .int .u64 m.lot, .slice A2 n2 d2, .slice A3 n3 d3, .pointer (some ⟨b + 2, 0, none⟩)] 106 (0, 0)) := by rw [hW0]; exact heap_alloc_new w _
  have hfew : m.picks.length ≤ 65536 := HG.out.1.few
  have r2 : (Kd.int .i64).R 3 W0.drew base _ (.slice A2 n2 d2) m.picks := Kd.R_drew (Kd.R_below HG.out.1.picks b0)
  have r3 : (Kd.int .i64).R 3 W0.drew base _ (.slice A3 n3 d3) m.told := Kd.R_drew (Kd.R_below HG.out.1.told b0)
  have g2 : W0.cell? ⟨g, 2, none⟩ = some (.slice A2 n2 d2) := pw_cell_below b0 c2
  have g3 : W0.cell? ⟨g, 3, none⟩ = some (.slice A3 n3 d3) := pw_cell_below b0 c3
  have hgl : g < w.heap.size := blk_lt HG.out.1.blk
  have H0 := Aside0.mk (And.intro b0 (And.intro s0 (And.intro x0 (And.intro hfew (And.intro r2 (And.intro r3 (And.intro hgl (And.intro c0 (And.intro c1 c4)))))))))
  rw [← hW0]
  clear hW0 b0 s0 x0 hfew r2 r3 hgl c0 c1 c2 c3 c4
  refine start_ (n := 17) (S := fun w' => w'.cell? ⟨g, 2, none⟩ = some (.slice A2 n2 d2) ∧ w'.cell? ⟨g, 3, none⟩ = some (.slice A3 n3 d3)) (ds := []) #[false, false, false, false, false, false, false, false, false, false, false, false, false, false, false, false, false] (by kernel_rfl) rfl rfl ⟨g2, g3⟩ (fun hHeld => ?_)
  refine pure_ (i := 0) (N := some 11) (v := ?_) (a' := ?_) #[true, false, false, false, false, false, false, false, false, false, false, false, false, false, false, false, false] rfl rfl (by kernel_rfl) (fun _ _ _ h => h) (Or.inl ⟨by rfl, ?_⟩) ?_ ?_
  rotate_left
  · intro w'
    go_simp
    with_reducible rfl
  rotate_left
  · simp only [Act.put, List.setIfInBounds_toArray, List.set_cons_zero, List.set_cons_succ, i64_w, i32_w]
    rfl
  refine pure_ (i := 1) (N := some 12) (v := ?_) (a' := ?_) #[true, true, false, false, false, false, false, false, false, false, false, false, false, false, false, false, false] rfl rfl (by kernel_rfl) (fun _ _ _ h => h) (Or.inl ⟨by rfl, ?_⟩) ?_ ?_
  rotate_left
  · intro w'
    go_simp
    with_reducible rfl
  rotate_left
  · simp only [Act.put, List.setIfInBounds_toArray, List.set_cons_zero, List.set_cons_succ, i64_w, i32_w]
    rfl
  refine pure_ (i := 2) (N := some 13) (v := ?_) (a' := ?_) #[true, true, true, false, false, false, false, false, false, false, false, false, false, false, false, false, false] rfl rfl (by kernel_rfl) (fun _ _ _ h => h) (Or.inl ⟨by rfl, ?_⟩) ?_ ?_
  rotate_left
  · intro w'
    go_simp
    with_reducible rfl
  rotate_left
  · simp only [Act.put, List.setIfInBounds_toArray, List.set_cons_zero, List.set_cons_succ, i64_w, i32_w]
    rfl
  refine pure_ (i := 5) (N := some 16) (v := ?_) (a' := ?_) #[true, true, true, false, false, true, false, false, false, false, false, false, false, false, false, false, false] rfl rfl (by kernel_rfl) (fun _ _ _ h => h) (Or.inl ⟨by rfl, ?_⟩) ?_ ?_
  rotate_left
  · intro w'
    go_simp
    with_reducible rfl
  rotate_left
  · simp only [Act.put, List.setIfInBounds_toArray, List.set_cons_zero, List.set_cons_succ, i64_w, i32_w]
    rfl
  refine pure_ (i := 6) (N := some 17) (v := ?_) (a' := ?_) #[true, true, true, false, false, true, true, false, false, false, false, false, false, false, false, false, false] rfl rfl (by kernel_rfl) (fun _ _ _ h => h) (Or.inl ⟨by rfl, ?_⟩) ?_ ?_
  rotate_left
  · intro w'
    go_simp
    with_reducible rfl
  rotate_left
  · simp only [Act.put, List.setIfInBounds_toArray, List.set_cons_zero, List.set_cons_succ, i64_w, i32_w]
    rfl
  refine pure_ (i := 7) (N := some 18) (v := ?_) (a' := ?_) #[true, true, true, false, false, true, true, true, false, false, false, false, false, false, false, false, false] rfl rfl (by kernel_rfl) (fun _ _ _ h => h) (Or.inl ⟨by rfl, ?_⟩) ?_ ?_
  rotate_left
  · intro w'
    go_simp
    with_reducible rfl
  rotate_left
  · simp only [Act.put, List.setIfInBounds_toArray, List.set_cons_zero, List.set_cons_succ, i64_w, i32_w]
    rfl
  refine take_ (i := 3) (N := some 14) (v := ?_) (a' := ?_) #[true, true, true, true, false, true, true, true, false, false, false, false, false, false, false, false, false] rfl rfl (by kernel_rfl) (fun _ _ _ h => h) (Or.inl ⟨by rfl, ?_⟩) hHeld ?_ ?_
  rotate_left
  · rintro w' ⟨s0, s1⟩
    go_simp
    with_reducible rfl
  rotate_left
  · simp only [Act.put, List.setIfInBounds_toArray, List.set_cons_zero, List.set_cons_succ, i64_w, i32_w]
    rfl
  refine take_ (i := 8) (N := some 19) (v := ?_) (a' := ?_) #[true, true, true, true, false, true, true, true, true, false, false, false, false, false, false, false, false] rfl rfl (by kernel_rfl) (fun _ _ _ h => h) (Or.inl ⟨by rfl, ?_⟩) hHeld ?_ ?_
  rotate_left
  · rintro w' ⟨s0, s1⟩
    go_simp
    with_reducible rfl
  rotate_left
  · simp only [Act.put, List.setIfInBounds_toArray, List.set_cons_zero, List.set_cons_succ, i64_w, i32_w]
    rfl
  refine one_ (i := 4) (N := some 15) #[true, true, true, true, true, true, true, true, true, false, false, false, false, false, false, false, false] rfl rfl (by kernel_rfl) (by decide) (fun K hK => ?_)
  refine goes_ Try.func69 (by kernel_rfl) rfl #[.slice A2 n2 d2] (by rfl) rfl rfl (by simp only [List.map_toArray, List.map_cons, List.map_nil]; rfl) ?_
  with_reducible refine (clone_calls H0.out.2.2.2.2.1 (by have := H0.out.2.2.2.1; omega)).mono ?_
  rintro e w1 ⟨u2, rfl, hR1, hB1⟩
  refine ⟨_, rfl, ?_⟩
  obtain ⟨A21, d21, e21, _⟩ := Kd.R_reads hR1
  obtain ⟨n21, hn21⟩ : ∃ n21 : Nat, n21 = m.picks.length := ⟨_, rfl⟩
  rw [← hn21] at e21
  subst e21
  have y2 : w1.cell? ⟨g, 2, none⟩ = some (.slice A2 n2 d2) := pw_cell_below hB1 g2
  have y3 : w1.cell? ⟨g, 3, none⟩ = some (.slice A3 n3 d3) := pw_cell_below hB1 g3
  have q3 := Aside0.mk (Kd.R_below H0.out.2.2.2.2.2.1 hB1)
  replace hR1 := Aside0.mk hR1
  replace hB1 := Aside0.mk hB1
  replace hn21 := Aside0.mk hn21
  refine hK.out _ _ ⟨y2, y3⟩ (fun hHeld => ?_)
  clear hK K
  refine norm_ (a' := ?_) ?_ ?_
  rotate_left
  · show Act.put _ (some 15) _ = _
    simp only [Act.put, List.setIfInBounds_toArray, List.set_cons_zero, List.set_cons_succ, i64_w, i32_w]
    rfl
  refine one_ (i := 9) (N := some 20) #[true, true, true, true, true, true, true, true, true, true, false, false, false, false, false, false, false] rfl rfl (by kernel_rfl) (by decide) (fun K hK => ?_)
  refine goes_ Try.func69 (by kernel_rfl) rfl #[.slice A3 n3 d3] (by rfl) rfl rfl (by simp only [List.map_toArray, List.map_cons, List.map_nil]; rfl) ?_
  with_reducible refine (clone_calls q3.out HG.out.2.2).mono ?_
  rintro e w2 ⟨u3, rfl, hR2, hB2⟩
  refine ⟨_, rfl, ?_⟩
  obtain ⟨A31, d31, e31, _⟩ := Kd.R_reads hR2
  obtain ⟨n31, hn31⟩ : ∃ n31 : Nat, n31 = m.told.length := ⟨_, rfl⟩
  rw [← hn31] at e31
  subst e31
  have z2 : w2.cell? ⟨g, 2, none⟩ = some (.slice A2 n2 d2) := pw_cell_below hB2 y2
  have z3 : w2.cell? ⟨g, 3, none⟩ = some (.slice A3 n3 d3) := pw_cell_below hB2 y3
  replace hR2 := Aside0.mk hR2
  replace hB2 := Aside0.mk hB2
  replace hn31 := Aside0.mk hn31
  refine hK.out _ _ ⟨z2, z3⟩ (fun hHeld => ?_)
  clear hK K
  refine norm_ (a' := ?_) ?_ ?_
  rotate_left
  · show Act.put _ (some 20) _ = _
    simp only [Act.put, List.setIfInBounds_toArray, List.set_cons_zero, List.set_cons_succ, i64_w, i32_w]
    rfl
  refine one_ (i := 10) (N := some 21) #[true, true, true, true, true, true, true, true, true, true, true, false, false, false, false, false, false] rfl rfl (by kernel_rfl) (by decide) (fun K hK => ?_)
  refine goes_ Try.func38 (by kernel_rfl) rfl #[] (by rfl) rfl rfl (by simp only [List.map_toArray, List.map_cons, List.map_nil]) ?_
  with_reducible refine (newTurns_calls w2).mono ?_
  rintro e w3 ⟨b3, rfl, hb3, hT3, hB3⟩
  refine ⟨_, rfl, ?_⟩
  have a2 : w3.cell? ⟨g, 2, none⟩ = some (.slice A2 n2 d2) := pw_cell_below hB3 z2
  have a3 : w3.cell? ⟨g, 3, none⟩ = some (.slice A3 n3 d3) := pw_cell_below hB3 z3
  have hall := hB1.out.trans (hB2.out.mono hB1.out.size)
  have hall2 := hall.trans (hB3.mono (Nat.le_trans hB1.out.size hB2.out.size))
  have hd0 : Below W0.heap.size W0 W0.drew := ⟨rfl, rfl, rfl, Nat.le_refl _, fun _ _ => rfl⟩
  have x3 : w3.heap[w.heap.size]? = _ := ((hall2.block _ (by have := H0.out.2.1; show w.heap.size < W0.heap.size; omega)).trans rfl).trans H0.out.2.2.1
  have k2 : w3.cell? ⟨w.heap.size, 2, none⟩ = some (.slice A2 n2 d2) := (blk_cell x3 2).trans rfl
  have f2 := blk_frozen x3 2
  have k3 : w3.cell? ⟨w.heap.size, 3, none⟩ = some (.slice A3 n3 d3) := (blk_cell x3 3).trans rfl
  have f3 := blk_frozen x3 3
  have k4 : w3.cell? ⟨w.heap.size, 4, none⟩ = some (.pointer (some ⟨b + 2, 0, none⟩)) := (blk_cell x3 4).trans rfl
  have f4 := blk_frozen x3 4
  have hgn : g ≠ w.heap.size := by have := H0.out.2.2.2.2.2.2.1; omega
  replace hT3 := Aside0.mk hT3
  replace hB3 := Aside0.mk hB3
  replace hb3 := Aside0.mk hb3
  replace x3 := Aside0.mk x3
  replace hall2 := Aside0.mk hall2
  clear hall hd0
  refine hK.out _ _ ⟨a2, a3⟩ (fun hHeld => ?_)
  clear hK K
  refine norm_ (a' := ?_) ?_ ?_
  rotate_left
  · show Act.put _ (some 21) _ = _
    simp only [Act.put, List.setIfInBounds_toArray, List.set_cons_zero, List.set_cons_succ, i64_w, i32_w]
    rfl
  refine pure_ (i := 11) (N := some 22) (v := ?_) (a' := ?_) #[true, true, true, true, true, true, true, true, true, true, true, true, false, false, false, false, false] rfl rfl (by kernel_rfl) (fun _ _ _ h => h) (Or.inl ⟨by rfl, ?_⟩) ?_ ?_
  rotate_left
  · intro w'
    go_simp
    with_reducible rfl
  rotate_left
  · simp only [Act.put, List.setIfInBounds_toArray, List.set_cons_zero, List.set_cons_succ, i64_w, i32_w]
    rfl
  refine one_ (i := 12) (N := none) #[true, true, true, true, true, true, true, true, true, true, true, true, true, false, false, false, false] rfl rfl (by kernel_rfl) (by decide) (fun K hK => ?_)
  refine skip_ (w1 := ?_) (by rfl) rfl ?_ ?_
  rotate_left
  · go_simp
    rfl
  refine hK.out _ _ ⟨cell_far hgn _ a2, cell_far hgn _ a3⟩ (fun hHeld => ?_)
  clear hK K
  refine pure_ (i := 13) (N := some 23) (v := ?_) (a' := ?_) #[true, true, true, true, true, true, true, true, true, true, true, true, true, true, false, false, false] rfl rfl (by kernel_rfl) (fun _ _ _ h => h) (Or.inl ⟨by rfl, ?_⟩) ?_ ?_
  rotate_left
  · intro w'
    go_simp
    with_reducible rfl
  rotate_left
  · simp only [Act.put, List.setIfInBounds_toArray, List.set_cons_zero, List.set_cons_succ, i64_w, i32_w]
    rfl
  refine one_ (i := 14) (N := none) #[true, true, true, true, true, true, true, true, true, true, true, true, true, true, true, false, false] rfl rfl (by kernel_rfl) (by decide) (fun K hK => ?_)
  refine skip_ (w1 := ?_) (by rfl) rfl ?_ ?_
  rotate_left
  · go_simp
    rfl
  refine hK.out _ _ ⟨cell_far hgn _ (cell_far hgn _ a2), cell_far hgn _ (cell_far hgn _ a3)⟩ (fun hHeld => ?_)
  clear hK K
  refine pure_ (i := 15) (N := some 24) (v := ?_) (a' := ?_) #[true, true, true, true, true, true, true, true, true, true, true, true, true, true, true, true, false] rfl rfl (by kernel_rfl) (fun _ _ _ h => h) (Or.inl ⟨by rfl, ?_⟩) ?_ ?_
  rotate_left
  · intro w'
    go_simp
    with_reducible rfl
  rotate_left
  · simp only [Act.put, List.setIfInBounds_toArray, List.set_cons_zero, List.set_cons_succ, i64_w, i32_w]
    rfl
  refine one_ (i := 16) (N := none) #[true, true, true, true, true, true, true, true, true, true, true, true, true, true, true, true, true] rfl rfl (by kernel_rfl) (by decide) (fun K hK => ?_)
  refine skip_ (w1 := ?_) (by rfl) rfl ?_ ?_
  rotate_left
  · go_simp
    rfl
  refine hK.out _ _ ⟨cell_far hgn _ (cell_far hgn _ (cell_far hgn _ a2)), cell_far hgn _ (cell_far hgn _ (cell_far hgn _ a3))⟩ (fun hHeld => ?_)
  clear hK K
  refine done_ (by kernel_rfl) ?_
  obtain ⟨W4, hW4⟩ : ∃ W4, W4 = ((w3.setCell ⟨w.heap.size, 2, none⟩ (.slice A21 n21 d21)).setCell ⟨w.heap.size, 3, none⟩ (.slice A31 n31 d31)).setCell ⟨w.heap.size, 4, none⟩ (.pointer (some ⟨b3 + 2, 0, none⟩)) := ⟨_, rfl⟩
  have o4 : Only (fun k => k = w.heap.size) w3 W4 := by
    rw [hW4]
    exact (((Only.refl (fun k => k = w.heap.size) w3).setCell (fun _ => rfl) _).setCell (fun _ => rfl) _).setCell (fun _ => rfl) _
  have x4 : W4.heap[w.heap.size]? = some (.cells #[.int .i64 m.policy, .int .u64 m.lot, .slice A21 n21 d21, .slice A31 n31 d31, .pointer (some ⟨b3 + 2, 0, none⟩)] 106 (0, 0)) := by
    rw [hW4]
    exact blk_put (blk_put (blk_put x3.out 2 _ rfl) 3 _ rfl) 4 _ rfl
  rw [← hW4]
  have s0 := H0.out.2.1
  have s1 : w.heap.size + 1 ≤ w1.heap.size := by have := hB1.out.size; have h2 : W0.drew.heap.size = W0.heap.size := rfl; omega
  have s2 := hB2.out.size
  have s3 := hB3.out.size
  have s4 := o4.size
  have hbb := hb3.out
  have hlt3 := hT3.out.lt
  have hBw : Below w.heap.size w W4 := by
    have h1 : Below w.heap.size w w3 := (H0.out.1.trans (⟨rfl, rfl, rfl, Nat.le_refl _, fun _ _ => rfl⟩ : Below w.heap.size W0 W0.drew)).trans (hall2.out.mono (by show w.heap.size ≤ W0.heap.size; omega))
    exact below_only h1 o4 (by omega) (fun i hi e => by omega)
  have hd0 : W0.drew.heap.size = w.heap.size + 1 := by show W0.heap.size = _; exact s0
  have hp4 := R_only (Kd.R_below (Kd.R_below (Kd.R_bound hR1.out) hB2.out) hB3.out) o4 (fun k hk e => by have := hk.2.1; omega)
  have ht4 := R_only (Kd.R_below (Kd.R_bound hR2.out) hB3.out) o4 (fun k hk e => by have := hk.2.1; omega)
  have hown2 : ∀ k, (Value.slice A21 n21 d21).ownBlock = some k → k < w1.heap.size := fun k hk => (hp4.1 k hk).2.2.1
  have hown3 : ∀ k, (Value.slice A31 n31 d31).ownBlock = some k → w1.heap.size ≤ k := fun k hk => (ht4.1 k hk).2.1
  have hA4 : ReadyAt W4 w.heap.size w.heap.size b3 (.slice A21 n21 d21) (.slice A31 n31 d31) (fun k => w.heap.size ≤ k ∧ k < W4.heap.size) 0 { m with l := [] } := by
    refine ⟨x4, hT3.out.only o4 (fun i hi e => by have := hi.1; omega), ?_, ?_, ⟨Nat.le_refl _, by omega⟩, fun k hk => ⟨by have := hk.1; omega, by have := hk.2; omega⟩, fun hk => by have := hk.1; omega, ⟨Nat.le_refl _, by omega⟩, HG.out.1.lot, HG.out.1.few⟩
    · exact Kd.R_mono (Kd.R_lower hp4 (by omega)) (fun k hk => ⟨⟨by have := hk.2.1; omega, by have := hk.2.2.1; omega⟩, by have := hk.2.1; omega, fun hh => by have := hh.1; have := hk.2.2.1; omega, fun e => by have := hown3 k e.symm; have := hk.2.2.1; omega⟩)
    · exact Kd.R_mono (Kd.R_lower ht4 (by omega)) (fun k hk => ⟨⟨by have := hk.2.1; omega, by have := hk.2.2.1; omega⟩, by have := hk.2.1; omega, fun hh => by have := hh.1; have := hk.2.2.1; omega, fun e => by have := hown2 k e.symm; have := hk.2.1; omega⟩)
  have hTo : IsTurns W4 b m.l n := HG.out.1.turns.only (Only.ofBelow (F := fun _ => False) hBw) (fun _ _ h => h)
  have c44 : W4.cell? ⟨g, 4, none⟩ = some (.pointer (some ⟨b + 2, 0, none⟩)) := pw_cell_below hBw H0.out.2.2.2.2.2.2.2.2.2
  have hall := all_calls W4 b m.l n hTo HG.out.2.1
  have hgood := HG.out.1.turns.good
  have hnod := HG.out.1.turns.nodup
  have hfewl := HG.out.1.turns.few
  obtain ⟨nl, hnl⟩ : ∃ nl : Nat, nl = m.l.length := ⟨_, rfl⟩
  have H4 := Aside0.mk (And.intro hA4 (And.intro hBw (And.intro hgood (And.intro hnod (And.intro hfewl hnl)))))
  clear hW4 o4 x4 s0 s1 s2 s3 s4 hbb hlt3 hBw hd0 hp4 ht4 hown2 hown3 hA4 hTo hgood hnod hfewl a2 a3 z2 z3 y2 y3 g2 g3 k2 k3 k4 f2 f3 f4 hgn hnl
  go_wp2_with (go_at_call 72; refine hall.mono ?_; rintro e W5 ⟨v, rfl, hR5, hB5⟩; obtain ⟨A5, d5, e5, _⟩ := Kd.R_reads hR5; rw [← H4.out.2.2.2.2.2] at e5; subst e5; replace hR5 := Aside0.mk hR5; replace hB5 := Aside0.mk hB5)
  have hA5 : Aside0 (ReadyAt W5 w.heap.size w.heap.size b3 (.slice A21 n21 d21) (.slice A31 n31 d31) (fun k => w.heap.size ≤ k ∧ k < W4.heap.size) 0 { m with l := m.l.take 0 }) := ⟨by
    have := H4.out.1.only (Only.ofBelow (F := fun _ => False) hB5.out) (fun _ _ h => h)
    simpa using this⟩
  have hR6 : Aside0 ((Kd.int .i64).R 3 W5 W4.heap.size (fun k => W4.heap.size ≤ k) (.slice A5 nl d5) m.l) := ⟨Kd.R_mono (Kd.R_bound hR5.out) (fun k hk => hk.2.1)⟩
  have hB6 : Aside0 (Below w.heap.size w W5) := ⟨H4.out.2.1.trans (hB5.out.mono H4.out.2.1.size)⟩
  clear hR5 c44 hall hT3 hR1 hR2 hn21 hn31 x3 hb3
  go_loopg [31] (nl + 1) (fun kq v31 w' => ∃ (i : Int), v31 = .int .i64 i ∧ Aside0 (0 ≤ i ∧ i ≤ nl ∧ (nl - i).toNat < kq) ∧ Aside0 (ReadyAt w' w.heap.size w.heap.size b3 (.slice A21 n21 d21) (.slice A31 n31 d31) (fun k => w.heap.size ≤ k ∧ k < W4.heap.size) i { m with l := m.l.take i.toNat }) ∧
    Aside0 ((Kd.int .i64).R 3 w' W4.heap.size (fun k => W4.heap.size ≤ k) (.slice A5 nl d5) m.l) ∧ Aside0 (Below w.heap.size w w'))
  case atStart => exact ⟨0, rfl, ⟨by omega, by omega, by omega⟩, hA5, hR6, hB6⟩
  case round =>
    obtain ⟨i, rfl, hi, hA, hR, hB⟩ := hrel
    by_cases hin : i < nl
    · have hlt : decide (i < (nl : Int)) = true := decide_eq_true hin
      have p1 : 0 ≤ i := hi.out.1
      have hnl : nl = m.l.length := H4.out.2.2.2.2.2
      have hil : i.toNat < m.l.length := by omega
      obtain ⟨ad, eA, hx⟩ := Kd.at_int (Kd.R_reads' hR.out).2.2 i p1 (by omega)
      cases eA
      obtain ⟨x, hxx⟩ : ∃ x, x = rd m.l i := ⟨_, rfl⟩
      rw [← hxx] at hx
      have hxe : x = m.l[i.toNat] := by rw [hxx]; unfold rd; rw [List.getD_eq_getElem?_getD, List.getElem?_eq_getElem hil]; rfl
      have hxm : x ∈ m.l := by rw [hxe]; exact List.getElem_mem _
      have htk : m.l.take (i + 1).toNat = m.l.take i.toNat ++ [x] := by
        rw [show (i + 1).toNat = i.toNat + 1 by omega, List.take_add_one, List.getElem?_eq_getElem hil, hxe]; rfl
      have hxn : x ∉ m.l.take i.toNat := by
        have hnd := H4.out.2.2.2.1
        rw [← List.take_append_drop (i + 1).toNat m.l, htk, List.append_assoc] at hnd
        intro hh
        exact (List.nodup_append.1 hnd).2.2 x hh x (by simp) rfl
      have c4' : wr.cell? ⟨w.heap.size, 4, none⟩ = some (.pointer (some ⟨b3 + 2, 0, none⟩)) := (blk_cell hA.out.blk 4).trans rfl
      have hput := put_new wr b3 (m.l.take i.toNat) i x hA.out.turns (H4.out.2.2.1 x hxm) hxn (by rw [List.length_take]; have := H4.out.2.2.2.2.1; omega) (by have := H4.out.2.2.2.2.1; omega)
      rw [← htk] at hput
      have hiw : wrap64 (i + 1) = i + 1 := w64 _ (by have := H4.out.2.2.2.2.1; omega)
      have HI := Aside0.mk (And.intro hiw hin)
      clear hnl hil hxx hxe hxm htk hxn hiw
      replace p1 := eq_true p1
      replace hin := eq_true hin
      go_wp2_with (go_at_call 47; refine hput.mono ?_; rintro e w6 ⟨rfl, hT6, hO6⟩; replace hT6 := Aside0.mk hT6; replace hO6 := Aside0.mk hO6)
      go_roundg (nl - i).toNat
      case measure => exact hi.out.2.2
      case rel =>
        have hfb : ∀ k, tfoot b3 k → w.heap.size ≤ k ∧ k < W4.heap.size := fun k hk => hA.out.qb k hk
        exact ⟨i + 1, by simp [HI.out.1], ⟨by have := hi.out; omega, by have := HI.out.2; omega, by have := HI.out.2; omega⟩, ⟨hA.out.turned hT6.out hO6.out⟩, ⟨R_only hR.out hO6.out (fun k hk hh => by have := (hfb k hh).2; omega)⟩, ⟨below_only hB.out hO6.out hB.out.size (fun k hk hh => by have := (hfb k hh).1; omega)⟩⟩
    · have hlt : decide (i < (nl : Int)) = false := decide_eq_false hin
      have htk : m.l.take i.toNat = m.l := List.take_of_length_le (by have := H4.out.2.2.2.2.2; omega)
      have hil : i ≤ 65536 := by have := hi.out; have := H4.out.2.2.2.2.1; have := H4.out.2.2.2.2.2; omega
      replace hin := Aside0.mk hin
      replace htk := Aside0.mk htk
      replace hil := Aside0.mk hil
      go_wp2
      go_ret
      have h7 := hA.out
      rw [htk.out] at h7
      exact ⟨_, rfl, (IsReady.mono ⟨b3, _, _, h7⟩ (fun k hk => hk.1)).more hil.out, hB.out⟩
end
end Go.Proofs.Ytljckmiphkoipaa
