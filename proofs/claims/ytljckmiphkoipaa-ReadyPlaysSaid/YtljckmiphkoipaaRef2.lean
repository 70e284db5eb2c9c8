/-
  The document's ready ones: Rest.
-/
import Derived.Test.YtljckmiphkoipaaRef1
namespace Go.Proofs.Ytljckmiphkoipaa
set_option linter.unusedVariables false
set_option linter.unusedSimpArgs false
open Go.RowKit Go.MapKept Go.Maps Go.Proofs.YtljckmiphkoipaaW.PrintWords Go.Proofs.YtljckmiphkoipaaW.PrintLast Go.Proofs.YtljckmiphkoipaaW.PrintMore

structure Two (w W : World) (cs rs : Array Value) : Prop where
  s : W.heap.size = w.heap.size + 2
  b : Below w.heap.size w W
  x : W.heap[w.heap.size]? = some (.cells cs 80 (0, 0))
  r : W.heap[w.heap.size + 1]? = some (.cells rs 80 (0, 0))
theorem Two.mk' (w : World) (cs rs : Array Value) : Two w ((w.alloc (Obj.cells cs 80)).alloc (Obj.cells rs 80)) cs rs := by
  refine ⟨by simp, ((Below.refl _ _).alloc (Nat.le_refl _) _).alloc (by simp) _, blk_alloc (heap_alloc_new w _) _, ?_⟩
  have := heap_alloc_new (w.alloc (Obj.cells cs 80)) (Obj.cells rs 80)
  simpa using this

set_option maxRecDepth 100000 in
set_option maxHeartbeats 8000000 in
theorem rfrest_calls {w0 w : World} {base : Nat} {P : Nat → Prop} {v : Value} {m : RM} (h : RefV w0 base P w v m) (hw : Below w0.heap.size w0 w) (hbase : base ≤ w.heap.size) (p : Int) (hp : 0 ≤ p ∧ p < m.l.length) (hl : m.l.length ≤ 65536) :
    Calls Try.prog 53 #[v, .int .i64 p] w fun e w' => ∃ v', e = .returned v' ∧ RefV w0 base (fun k => P k ∨ w.heap.size ≤ k) w' v' { m with l := m.l.take p.toNat ++ m.l.drop (p.toNat + 1) } ∧ Below w.heap.size w w' := by
  obtain ⟨Ap, cp, lv, tv, rfl, h2, h3, h4, h5⟩ := h.shape
  obtain ⟨A1, c1, rfl, hc1, hC1⟩ := Kd.R_reads h4
  obtain ⟨A2, c2, rfl, hc2, hC2⟩ := Kd.R_reads h5
  obtain ⟨n0, hn0⟩ : ∃ n0 : Nat, n0 = m.picks.length := ⟨_, rfl⟩
  obtain ⟨n1, hn1⟩ : ∃ n1 : Nat, n1 = m.l.length := ⟨_, rfl⟩
  obtain ⟨n2, hn2⟩ : ∃ n2 : Nat, n2 = m.told.length := ⟨_, rfl⟩
  have q1 : IntKind.i64.wrap (p + 1) = p + 1 := (i64_w _).trans (w64 _ (by omega))
  have q2 : wrap64 (p + 1) = p + 1 := w64 _ (by omega)
  obtain ⟨i0, hi0, _, hsz, _⟩ := info_parts info3
  have hcut1 := cut_to (P := Try.prog) 22 3 .i64 Try.underlying22 hi0 A1 n1 c1 p hp.1 (by omega) (by omega)
  have hcut2 := cut_from (P := Try.prog) 22 3 .i64 Try.underlying22 hi0 1 hsz A1 n1 c1 (p + 1) (by omega) (by omega)
  have hr1 := Kd.C_take (m := p.toNat) hC1 (by omega)
  have hr2 := Kd.C_drop (m := (p + 1).toNat) (c := c1) hC1 (by omega) (by omega)
  have e1 : (m.l.take p.toNat).length = p.toNat := by rw [List.length_take]; omega
  have e2 : (m.l.drop (p + 1).toNat).length = n1 - (p + 1).toNat := by rw [List.length_drop, hn1]
  rw [e1] at hr1
  rw [e2] at hr2
  obtain ⟨A5, hA5⟩ : ∃ A5, A5 = (if c1 = (p + 1).toNat then A1 else A1.map (·.add ((p + 1).toNat * 1))) := ⟨_, rfl⟩
  replace hr2 : (Kd.int .i64).C w A5 (n1 - (p + 1).toNat) (m.l.drop (p + 1).toNat) := by rw [hA5]; exact hr2
  obtain ⟨n5, hn5⟩ : ∃ n5 : Nat, n5 = n1 - (p + 1).toNat := ⟨_, rfl⟩
  obtain ⟨c5, hc5⟩ : ∃ c5 : Nat, c5 = c1 - (p + 1).toNat := ⟨_, rfl⟩
  rw [← hA5, ← hn5, ← hc5] at hcut2
  rw [← hn5] at hr2
  obtain ⟨nt, hnt⟩ : ∃ nt : Nat, nt = p.toNat := ⟨_, rfl⟩
  rw [← hnt] at hcut1
  replace hr1 : (Kd.int .i64).C w A1 nt (m.l.take p.toNat) := by rw [hnt]; exact hr1
  rw [← hn0, ← hn1, ← hn2]
  rw [← hn1] at h4
  rw [← hn2] at h5
  have HH := Aside0.mk (And.intro h2 (And.intro h3 (And.intro h4 (And.intro h5 (And.intro hw (And.intro hbase (And.intro hl (And.intro hn0 (And.intro hn1 hn2)))))))))
  have HP := Aside0.mk (And.intro hr1 (And.intro hr2 (And.intro e1 (And.intro e2 (And.intro hp (And.intro hnt hn5))))))
  have hpb : decide (0 ≤ p) = true := decide_eq_true hp.1
  clear h h2 h3 h4 h5 hw hbase hl hn0 hn1 hn2 hc1 hC1 hc2 hC2 hr1 hr2 e1 e2 hA5 hnt hn5 hc5 hi0 hsz hp
  go_enter Try.func53, Try.ntmps53
  go_upto_region 1 with fail
  obtain ⟨W1, hW1⟩ : ∃ W1, W1 = (w.alloc (Obj.cells #[.int .i64 m.policy, .int .u64 m.lot, .slice Ap n0 cp, .slice A1 n1 c1, .slice A2 n2 c2] 80)).alloc (Obj.cells #[.int .i64 0, .int .u64 0, .slice none 0 0, .slice none 0 0, .slice none 0 0] 80) := ⟨_, rfl⟩
  have H1 : Two w W1 #[.int .i64 m.policy, .int .u64 m.lot, .slice Ap n0 cp, .slice A1 n1 c1, .slice A2 n2 c2] #[.int .i64 0, .int .u64 0, .slice none 0 0, .slice none 0 0, .slice none 0 0] := by rw [hW1]; exact Two.mk' _ _ _
  rw [← hW1]
  have bA : Below W1.heap.size W1 (W1.alloc (Obj.cells #[] 3)) := (Below.refl _ _).alloc (Nat.le_refl _) _
  have sA : (W1.alloc (Obj.cells #[] 3)).heap.size = W1.heap.size + 1 := by simp
  have xA : (W1.alloc (Obj.cells #[] 3)).heap[w.heap.size]? = _ := (bA.block _ (blk_lt H1.x)).trans H1.x
  have z3a : (W1.alloc (Obj.cells #[] 3)).cell? ⟨w.heap.size, 3, none⟩ = some (.slice A1 n1 c1) := (blk_cell xA 3).trans rfl
  have bwA : Below w.heap.size w (W1.alloc (Obj.cells #[] 3)) := H1.b.trans (bA.mono (by rw [H1.s]; omega))
  have CA1 : (Kd.int .i64).C (W1.alloc (Obj.cells #[] 3)) A1 nt (m.l.take p.toNat) := Kd.C_below HP.out.1 bwA
  have HO2 := R_lit0 W1 base (fun k => w.heap.size + 2 ≤ k) (by have := HH.out.2.2.2.2.2.1; have := H1.s; omega) (by have := H1.s; omega)
  have HN := Aside0.mk (And.intro H1 (And.intro bA (And.intro sA (And.intro xA (And.intro bwA (And.intro CA1 HO2))))))
  clear hW1 H1 bA sA xA bwA CA1 HO2
  go_upto_region 2 with ((with_reducible refine gate_builtin (b := .append) (xs := #[.tmp 6, .tmp 10]) rfl ?_); at_builtin; refine Kd.R_append_row (Value.int .i64) (0 : Int) (h1 := fun _ => rfl) (w0 := W1.alloc (Obj.cells #[] 3)) base rfl (.tmp 6) (.tmp 10) 22 3 (.int .i64 0) 8 rfl undSI info3 rfl (by decide) (.slice (some ⟨W1.heap.size, 0, none⟩) 0 0) [] (m.l.take p.toNat) A1 nt c1 (fun k => w.heap.size + 2 ≤ k) rfl rfl (fun k hk => by have := HN.out.2.2.1; have := HN.out.1.s; omega) HN.out.2.2.2.2.2.2 HN.out.2.2.2.2.2.1 (Below.refl _ _) (by have := HN.out.2.2.1; have := HN.out.1.s; have := HH.out.2.2.2.2.2.1; omega) (by have := HP.out.2.2.1; have := HP.out.2.2.2.2; have := HH.out.2.2.2.2.2.2.1; simp; omega) ?_; intro v3 W3 hR3 hB3 hg3 hat3; obtain ⟨A3, d3, e3, _⟩ := Kd.R_reads hR3; obtain ⟨n3, hn3⟩ : ∃ n3 : Nat, n3 = ([] ++ m.l.take p.toNat).length := ⟨_, rfl⟩; rw [← hn3] at e3; subst e3; have x3 := Aside0.mk ((hg3.block _ (blk_lt HN.out.2.2.2.1) (by simp [Value.ownBlock]; have := HN.out.1.s; omega)).trans HN.out.2.2.2.1); have z33 : W3.cell? ⟨w.heap.size, 3, none⟩ = some (.slice A1 n1 c1) := (blk_cell x3.out 3).trans rfl; replace hn3 := Aside0.mk hn3; replace hR3 := Aside0.mk hR3; replace hg3 := Aside0.mk hg3; clear hat3 hB3 z3a)
  have s3 : w.heap.size + 3 ≤ W3.heap.size := by have := hg3.out.size; have := HN.out.2.2.1; have := HN.out.1.s; omega
  have C3 : (Kd.int .i64).C W3 A5 n5 (m.l.drop (p + 1).toNat) := by
    have o1 : Below w.heap.size w W3 := below_only HN.out.2.2.2.2.1 (Only.ofGrown hg3.out) HN.out.2.2.2.2.1.size (fun k hk e => by simp [Value.ownBlock] at e; have := HN.out.1.s; omega)
    exact Kd.C_below HP.out.2.1 o1
  have h3l : n3 ≤ 65536 := by rw [hn3.out]; have := HP.out.2.2.1; have := HP.out.2.2.2.2; have := HH.out.2.2.2.2.2.2; simp; omega
  replace s3 := Aside0.mk s3
  replace C3 := Aside0.mk C3
  replace h3l := Aside0.mk h3l
  go_upto_region 3 with ((with_reducible refine gate_builtin (b := .append) (xs := #[.tmp 12, .tmp 17]) rfl ?_); at_builtin; refine Kd.R_append_row (Value.int .i64) (0 : Int) (h1 := fun _ => rfl) (w0 := W3) base rfl (.tmp 12) (.tmp 17) 22 3 (.int .i64 0) 8 rfl undSI info3 rfl (by decide) (.slice A3 n3 d3) ([] ++ m.l.take p.toNat) (m.l.drop (p + 1).toNat) A5 n5 c5 (fun k => w.heap.size + 2 ≤ k) rfl rfl (fun k hk => by have := s3.out; omega) hR3.out C3.out (Below.refl _ _) (by have := s3.out; have := HH.out.2.2.2.2.2.1; omega) (by have := hn3.out; have := h3l.out; have := HP.out.2.2.2.2; have := HH.out.2.2.2.2.2.2; omega) ?_; intro v4 W4 hR4 hB4 hg4 hat4; obtain ⟨A4, d4, e4, _⟩ := Kd.R_reads hR4; obtain ⟨n4, hn4⟩ : ∃ n4 : Nat, n4 = ([] ++ m.l.take p.toNat ++ m.l.drop (p + 1).toNat).length := ⟨_, rfl⟩; rw [← hn4] at e4; subst e4; have x4 := Aside0.mk ((hg4.block _ (blk_lt x3.out) (fun e => by have := hR3.out.1 _ e.symm; omega)).trans x3.out); have z34 : W4.cell? ⟨w.heap.size, 3, none⟩ = some (.slice A1 n1 c1) := (blk_cell x4.out 3).trans rfl; have f34 := blk_frozen x4.out 3; replace hn4 := Aside0.mk hn4; replace hR4 := Aside0.mk hR4; replace hg4 := Aside0.mk hg4; clear hat4 hB4 z33)
  have hO4 : Only (fun k => w.heap.size + 2 ≤ k) W1 W4 := by
    have o1 : Only (fun k => w.heap.size + 2 ≤ k) W1 (W1.alloc (Obj.cells #[] 3)) := Only.ofBelowAt (HN.out.2.1.mono (by have := HN.out.1.s; omega))
    have o2 := (Only.ofGrown hg3.out).mono (G := fun k => w.heap.size + 2 ≤ k) (fun k _ e => by simp [Value.ownBlock] at e; have := HN.out.1.s; omega)
    have o3 := (Only.ofGrown hg4.out).mono (G := fun k => w.heap.size + 2 ≤ k) (fun k _ e => hR3.out.1 _ e.symm)
    exact (o1.trans o2).trans o3
  have r4 : W4.heap[w.heap.size + 1]? = some (.cells #[.int .i64 0, .int .u64 0, .slice none 0 0, .slice none 0 0, .slice none 0 0] 80 (0, 0)) := (hO4.block _ (blk_lt HN.out.1.r) (by omega)).trans HN.out.1.r
  have hb4 : Below w.heap.size w W4 := below_only HN.out.1.b hO4 HN.out.1.b.size (fun i hi h => by omega)
  obtain ⟨W5, hW5⟩ : ∃ W5, W5 = W4.setCell ⟨w.heap.size, 3, none⟩ (.slice A4 n4 d4) := ⟨_, rfl⟩
  have o5 : Only (fun k => k = w.heap.size) W4 W5 := by rw [hW5]; exact (Only.refl (fun k => k = w.heap.size) W4).setCell (fun _ => rfl) _
  have x5 : W5.heap[w.heap.size]? = some (.cells #[.int .i64 m.policy, .int .u64 m.lot, .slice Ap n0 cp, .slice A4 n4 d4, .slice A2 n2 c2] 80 (0, 0)) := by rw [hW5]; exact blk_put x4.out 3 _ rfl
  have r5 : W5.heap[w.heap.size + 1]? = _ := (o5.block _ (blk_lt r4) (by omega)).trans r4
  rw [← hW5]
  have hb5 : Below w.heap.size w W5 := below_only hb4 o5 hb4.size (fun i hi h => by omega)
  have hR5 := R_only hR4.out o5 (fun k hk e => by omega)
  have z0 : W5.cell? ⟨w.heap.size, 0, none⟩ = some (.int .i64 m.policy) := (blk_cell x5 0).trans rfl
  have z1 : W5.cell? ⟨w.heap.size, 1, none⟩ = some (.int .u64 m.lot) := (blk_cell x5 1).trans rfl
  have z2 : W5.cell? ⟨w.heap.size, 2, none⟩ = some (.slice Ap n0 cp) := (blk_cell x5 2).trans rfl
  have z3 : W5.cell? ⟨w.heap.size, 3, none⟩ = some (.slice A4 n4 d4) := (blk_cell x5 3).trans rfl
  have z4 : W5.cell? ⟨w.heap.size, 4, none⟩ = some (.slice A2 n2 c2) := (blk_cell x5 4).trans rfl
  have u0 : W5.cell? ⟨w.heap.size + 1, 0, none⟩ = some (.int .i64 0) := (blk_cell r5 0).trans rfl
  have u1 : W5.cell? ⟨w.heap.size + 1, 1, none⟩ = some (.int .u64 0) := (blk_cell r5 1).trans rfl
  have u2 : W5.cell? ⟨w.heap.size + 1, 2, none⟩ = some (.slice none 0 0) := (blk_cell r5 2).trans rfl
  have u3 : W5.cell? ⟨w.heap.size + 1, 3, none⟩ = some (.slice none 0 0) := (blk_cell r5 3).trans rfl
  have u4 : W5.cell? ⟨w.heap.size + 1, 4, none⟩ = some (.slice none 0 0) := (blk_cell r5 4).trans rfl
  have f0 := blk_frozen r5 0
  have f1 := blk_frozen r5 1
  have f2 := blk_frozen r5 2
  have f3 := blk_frozen r5 3
  have f4 := blk_frozen r5 4
  replace r5 := Aside0.mk r5
  replace hb5 := Aside0.mk hb5
  replace hR5 := Aside0.mk hR5
  clear hW5 o5 x5 r4 hb4 hO4 z34 f34 x4 hg4 hg3 hR4 hR3 x3 C3 s3 h3l
  go_wp2
  (try simp only [Exit.inBlock, Exit.then])
  have o6 := five_only W5 (w.heap.size + 1) (.int .i64 m.policy) (.int .u64 m.lot) (.slice Ap n0 cp) (.slice A4 n4 d4) (.slice A2 n2 c2)
  have x6 := five_blk r5.out (.int .i64 m.policy) (.int .u64 m.lot) (.slice Ap n0 cp) (.slice A4 n4 d4) (.slice A2 n2 c2)
  unfold five at o6 x6
  refine bodyPost_ret (results_cell_row rfl _ _ (w.heap.size + 1) 80 #[.int .i64 m.policy, .int .u64 m.lot, .slice Ap n0 cp, .slice A4 n4 d4, .slice A2 n2 c2] (0, 0) _ rfl x6 Try.underlying80 rfl (by kernel_rfl)) rfl ?_
  have hb6 := below_only hb5.out o6 hb5.out.size (fun i hi e => by omega)
  obtain ⟨g2, g3, g4, g5, gw, gb, gl, gn0, gn1, gn2⟩ := HH.out
  refine ⟨_, rfl, ⟨Ap, cp, _, _, by rw [gn0], g2, g3, ?_, Kd.R_mono (Kd.R_below g5 hb6) (fun k hk => .inl hk)⟩, hb6⟩
  have h7 := R_only hR5.out o6 (fun k hk e => by omega)
  rw [List.nil_append, show (p + 1).toNat = p.toNat + 1 by have := HP.out.2.2.2.2.1; omega] at h7
  exact Kd.R_mono h7 (fun k hk => .inr (by omega))
end Go.Proofs.Ytljckmiphkoipaa
