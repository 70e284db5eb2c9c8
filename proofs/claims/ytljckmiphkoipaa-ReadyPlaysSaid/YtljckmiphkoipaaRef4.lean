/-
  The document's ready ones: Pick.
-/
import Derived.Test.YtljckmiphkoipaaRef3
namespace Go.Proofs.Ytljckmiphkoipaa
set_option linter.unusedVariables false
set_option linter.unusedSimpArgs false
open Go.RowKit Go.MapKept Go.Maps Go.Proofs.YtljckmiphkoipaaW.PrintWords Go.Proofs.YtljckmiphkoipaaW.PrintLast Go.Proofs.YtljckmiphkoipaaW.PrintMore

theorem RefV.tight {w0 w : World} {base : Nat} {P : Nat → Prop} {v : Value} {m : RM} (h : RefV w0 base P w v m) : RefV w0 base (fun k => P k ∧ k < w.heap.size) w v m := by
  obtain ⟨Ap, cp, lv, tv, h1, h2, h3, h4, h5⟩ := h.shape
  exact ⟨Ap, cp, lv, tv, h1, h2, h3, Kd.R_mono (Kd.R_bound h4) (fun k hk => ⟨hk.1, hk.2.2.1⟩), Kd.R_mono (Kd.R_bound h5) (fun k hk => ⟨hk.1, hk.2.2.1⟩)⟩



set_option maxRecDepth 100000 in
set_option maxHeartbeats 16000000 in
theorem rfpick_calls {w0 w : World} {base : Nat} {P : Nat → Prop} {v : Value} {m : RM} (h : RefV w0 base P w v m) (hw : Below w0.heap.size w0 w) (hbase : base ≤ w.heap.size) (hpol : 0 ≤ m.policy ∧ m.policy ≤ 4) (hlot : in64 m.lot) (hl : m.l.length ≤ 65536) (ht : m.told.length ≤ 17592186044000) :
    Calls Try.prog 50 #[v] w fun e w' => ∃ v', e = .returned (.tuple #[v', .int .i64 (refV m), .bool (decide (m.l ≠ []))]) ∧ RefV w0 base (fun k => P k ∨ w.heap.size ≤ k) w' v' (refPick m) ∧ Below w.heap.size w w' := by
  replace h := h.tight
  have hpk := fun (u : World) (hu : Below w.heap.size w u) => rfpeek_calls (h.below hu) (hw.trans (hu.mono hw.size)) hpol hlot hl
  have hpl := fun (u : World) (hu : Below w.heap.size w u) (hpos : 0 < m.l.length) => rfplace_calls (h.below hu) (hw.trans (hu.mono hw.size)) hpol hlot hpos hl
  have hrs := fun (u : World) (hu : Below w.heap.size w u) (p : Int) (hp : 0 ≤ p ∧ p < m.l.length) => rfrest_calls (h.below hu) (hw.trans (hu.mono hw.size)) (Nat.le_trans hbase hu.size) p hp hl
  obtain ⟨Ap, cp, lv, tv, rfl, h2, h3, h4, h5⟩ := h.shape
  obtain ⟨A1, c1, rfl, hc1, hC1⟩ := Kd.R_reads h4
  obtain ⟨A2, c2, rfl, hc2, hC2⟩ := Kd.R_reads h5
  obtain ⟨n0, hn0⟩ : ∃ n0 : Nat, n0 = m.picks.length := ⟨_, rfl⟩
  obtain ⟨n1, hn1⟩ : ∃ n1 : Nat, n1 = m.l.length := ⟨_, rfl⟩
  obtain ⟨n2, hn2⟩ : ∃ n2 : Nat, n2 = m.told.length := ⟨_, rfl⟩
  rw [← hn0, ← hn1, ← hn2] at hpk hpl hrs
  rw [← hn0, ← hn1, ← hn2]
  rw [← hn1] at h4
  rw [← hn2] at h5
  have HH := Aside0.mk (And.intro h2 (And.intro h3 (And.intro h4 (And.intro h5 (And.intro hw (And.intro hbase (And.intro hl (And.intro hn0 (And.intro hn1 hn2)))))))))
  replace hpk := Aside0.mk hpk
  replace hpl := Aside0.mk hpl
  replace hrs := Aside0.mk hrs
  replace ht := Aside0.mk ht
  have hpr : 0 < m.l.length → 0 ≤ (refP m).1 ∧ (refP m).1 < m.l.length := fun hpos => placeOf_range hpos
  replace hpr := Aside0.mk hpr
  clear h h2 h3 h4 h5 hw hbase hn0 hn1 hn2 hc1 hC1 hc2 hC2
  by_cases hm : m.l = []
  · have hR : refPick m = m := if_pos hm
    have hV : refV m = 0 := if_pos hm
    have hD : decide (m.l ≠ []) = false := decide_eq_false (fun h => h hm)
    rw [hR, hV, hD]
    have hpk' := hpk.out
    rw [hV, hD] at hpk'
    replace hpk' := Aside0.mk hpk'
    clear hR hV hD
    replace hm := Aside0.mk hm
    go_enter Try.func50, Try.ntmps50
    go_upto_region 1 with fail
    obtain ⟨W1, hW1⟩ : ∃ W1, W1 = (w.alloc (Obj.cells #[.int .i64 m.policy, .int .u64 m.lot, .slice Ap n0 cp, .slice A1 n1 c1, .slice A2 n2 c2] 80)).alloc (Obj.cells #[.int .i64 0, .int .u64 0, .slice none 0 0, .slice none 0 0, .slice none 0 0] 80) := ⟨_, rfl⟩
    have H1 : Two w W1 #[.int .i64 m.policy, .int .u64 m.lot, .slice Ap n0 cp, .slice A1 n1 c1, .slice A2 n2 c2] #[.int .i64 0, .int .u64 0, .slice none 0 0, .slice none 0 0, .slice none 0 0] := by rw [hW1]; exact Two.mk' _ _ _
    rw [← hW1]
    have y0 : W1.cell? ⟨w.heap.size, 0, none⟩ = some (.int .i64 m.policy) := (blk_cell H1.x 0).trans rfl
    have y1 : W1.cell? ⟨w.heap.size, 1, none⟩ = some (.int .u64 m.lot) := (blk_cell H1.x 1).trans rfl
    have y2 : W1.cell? ⟨w.heap.size, 2, none⟩ = some (.slice Ap n0 cp) := (blk_cell H1.x 2).trans rfl
    have y3 : W1.cell? ⟨w.heap.size, 3, none⟩ = some (.slice A1 n1 c1) := (blk_cell H1.x 3).trans rfl
    have y4 : W1.cell? ⟨w.heap.size, 4, none⟩ = some (.slice A2 n2 c2) := (blk_cell H1.x 4).trans rfl
    have hc := hpk'.out W1 H1.b
    replace H1 := Aside0.mk H1
    clear hW1
    go_upto_region 3 with (go_at_call 86; refine hc.mono ?_; rintro e W2 ⟨rfl, hB2⟩; have xb2 := (hB2.block _ (blk_lt H1.out.x)).trans H1.out.x; have xr2 := (hB2.block _ (blk_lt H1.out.r)).trans H1.out.r; have hb2 := Aside0.mk (H1.out.b.trans (hB2.mono H1.out.b.size)); clear hB2)
    have z0 : W2.cell? ⟨w.heap.size, 0, none⟩ = some (.int .i64 m.policy) := (blk_cell xb2 0).trans rfl
    have z1 : W2.cell? ⟨w.heap.size, 1, none⟩ = some (.int .u64 m.lot) := (blk_cell xb2 1).trans rfl
    have z2 : W2.cell? ⟨w.heap.size, 2, none⟩ = some (.slice Ap n0 cp) := (blk_cell xb2 2).trans rfl
    have z3 : W2.cell? ⟨w.heap.size, 3, none⟩ = some (.slice A1 n1 c1) := (blk_cell xb2 3).trans rfl
    have z4 : W2.cell? ⟨w.heap.size, 4, none⟩ = some (.slice A2 n2 c2) := (blk_cell xb2 4).trans rfl
    have u0 : W2.cell? ⟨w.heap.size + 1, 0, none⟩ = some (.int .i64 0) := (blk_cell xr2 0).trans rfl
    have u1 : W2.cell? ⟨w.heap.size + 1, 1, none⟩ = some (.int .u64 0) := (blk_cell xr2 1).trans rfl
    have u2 : W2.cell? ⟨w.heap.size + 1, 2, none⟩ = some (.slice none 0 0) := (blk_cell xr2 2).trans rfl
    have u3 : W2.cell? ⟨w.heap.size + 1, 3, none⟩ = some (.slice none 0 0) := (blk_cell xr2 3).trans rfl
    have u4 : W2.cell? ⟨w.heap.size + 1, 4, none⟩ = some (.slice none 0 0) := (blk_cell xr2 4).trans rfl
    have f0 := blk_frozen xr2 0
    have f1 := blk_frozen xr2 1
    have f2 := blk_frozen xr2 2
    have f3 := blk_frozen xr2 3
    have f4 := blk_frozen xr2 4
    clear y0 y1 y2 y3 y4
    replace xb2 := Aside0.mk xb2
    replace xr2 := Aside0.mk xr2
    go_wp2
    (try simp only [Exit.inBlock, Exit.then])
    have o6 := five_only W2 (w.heap.size + 1) (.int .i64 m.policy) (.int .u64 m.lot) (.slice Ap n0 cp) (.slice A1 n1 c1) (.slice A2 n2 c2)
    have x6 := five_blk xr2.out (.int .i64 m.policy) (.int .u64 m.lot) (.slice Ap n0 cp) (.slice A1 n1 c1) (.slice A2 n2 c2)
    unfold five at o6 x6
    refine bodyPost_ret (results_ctt rfl _ _ (w.heap.size + 1) 80 #[.int .i64 m.policy, .int .u64 m.lot, .slice Ap n0 cp, .slice A1 n1 c1, .slice A2 n2 c2] (0, 0) _ rfl x6 Try.underlying80 rfl (by kernel_rfl)) rfl ?_
    have hb6 := below_only hb2.out o6 hb2.out.size (fun i hi e => by omega)
    obtain ⟨g2, g3, g4, g5, gw, gb, gl, gn0, gn1, gn2⟩ := HH.out
    exact ⟨_, rfl, ⟨Ap, cp, _, _, by rw [gn0], g2, g3, Kd.R_mono (Kd.R_below g4 hb6) (fun k hk => .inl hk.1), Kd.R_mono (Kd.R_below g5 hb6) (fun k hk => .inl hk.1)⟩, hb6⟩
  · have hpos : 0 < m.l.length := List.length_pos_iff.2 hm
    have hR : refPick m = { m with lot := (refP m).2, picks := m.picks.drop 1, told := m.told ++ [(refP m).1], l := m.l.take (refP m).1.toNat ++ m.l.drop ((refP m).1.toNat + 1) } := if_neg hm
    have hD : decide (m.l ≠ []) = true := decide_eq_true hm
    rw [hR, hD]
    have hpk' := hpk.out
    rw [hD] at hpk'
    replace hpk' := Aside0.mk hpk'
    obtain ⟨V, hV⟩ : ∃ V, V = refV m := ⟨_, rfl⟩
    rw [← hV] at hpk' ⊢
    have hpl' := fun u hu => hpl.out u hu (by have := HH.out.2.2.2.2.2.2.2.2.1; omega)
    have hrs' := fun u hu => hrs.out u hu (refP m).1 (by have := HH.out.2.2.2.2.2.2.2.2.1; have := hpr.out hpos; omega)
    have hpr' := hpr.out hpos
    generalize refP m = pp at hpl' hrs' hpr' ⊢
    obtain ⟨p, lot2⟩ := pp
    simp only at hpl' hrs' hpr' ⊢
    replace hpl' := Aside0.mk hpl'
    replace hrs' := Aside0.mk hrs'
    replace hpr' := Aside0.mk hpr'
    clear hR hD hV hpk hpl hrs hpr
    replace hm := Aside0.mk hm
    replace hpos := Aside0.mk hpos
    go_enter Try.func50, Try.ntmps50
    go_upto_region 1 with fail
    obtain ⟨W1, hW1⟩ : ∃ W1, W1 = (w.alloc (Obj.cells #[.int .i64 m.policy, .int .u64 m.lot, .slice Ap n0 cp, .slice A1 n1 c1, .slice A2 n2 c2] 80)).alloc (Obj.cells #[.int .i64 0, .int .u64 0, .slice none 0 0, .slice none 0 0, .slice none 0 0] 80) := ⟨_, rfl⟩
    have H1 : Two w W1 #[.int .i64 m.policy, .int .u64 m.lot, .slice Ap n0 cp, .slice A1 n1 c1, .slice A2 n2 c2] #[.int .i64 0, .int .u64 0, .slice none 0 0, .slice none 0 0, .slice none 0 0] := by rw [hW1]; exact Two.mk' _ _ _
    rw [← hW1]
    have y0 : W1.cell? ⟨w.heap.size, 0, none⟩ = some (.int .i64 m.policy) := (blk_cell H1.x 0).trans rfl
    have y1 : W1.cell? ⟨w.heap.size, 1, none⟩ = some (.int .u64 m.lot) := (blk_cell H1.x 1).trans rfl
    have y2 : W1.cell? ⟨w.heap.size, 2, none⟩ = some (.slice Ap n0 cp) := (blk_cell H1.x 2).trans rfl
    have y3 : W1.cell? ⟨w.heap.size, 3, none⟩ = some (.slice A1 n1 c1) := (blk_cell H1.x 3).trans rfl
    have y4 : W1.cell? ⟨w.heap.size, 4, none⟩ = some (.slice A2 n2 c2) := (blk_cell H1.x 4).trans rfl
    have hc := hpk'.out W1 H1.b
    replace H1 := Aside0.mk H1
    clear hW1
    go_upto_region 4 with (go_at_call 86; refine hc.mono ?_; rintro e W2 ⟨rfl, hB2⟩; have xb2 := (hB2.block _ (blk_lt H1.out.x)).trans H1.out.x; have xr2 := (hB2.block _ (blk_lt H1.out.r)).trans H1.out.r; have hb2 := Aside0.mk (H1.out.b.trans (hB2.mono H1.out.b.size)); clear hB2)
    clear y0 y1 y2 y3 y4 hc
    have y0 : W2.cell? ⟨w.heap.size, 0, none⟩ = some (.int .i64 m.policy) := (blk_cell xb2 0).trans rfl
    have y1 : W2.cell? ⟨w.heap.size, 1, none⟩ = some (.int .u64 m.lot) := (blk_cell xb2 1).trans rfl
    have y2 : W2.cell? ⟨w.heap.size, 2, none⟩ = some (.slice Ap n0 cp) := (blk_cell xb2 2).trans rfl
    have y3 : W2.cell? ⟨w.heap.size, 3, none⟩ = some (.slice A1 n1 c1) := (blk_cell xb2 3).trans rfl
    have y4 : W2.cell? ⟨w.heap.size, 4, none⟩ = some (.slice A2 n2 c2) := (blk_cell xb2 4).trans rfl
    have hc := hpl'.out W2 hb2.out
    replace xb2 := Aside0.mk xb2
    replace xr2 := Aside0.mk xr2
    go_upto_region 5 with (go_at_call 87; refine hc.mono ?_; rintro e W3 ⟨rfl, hB3⟩; have xb3 := (hB3.block _ (blk_lt xb2.out)).trans xb2.out; have xr3 := (hB3.block _ (blk_lt xr2.out)).trans xr2.out; have hb3 := Aside0.mk (hb2.out.trans (hB3.mono hb2.out.size)); clear hB3)
    clear y0 y1 y2 y3 y4 hc
    have y0 : W3.cell? ⟨w.heap.size, 0, none⟩ = some (.int .i64 m.policy) := (blk_cell xb3 0).trans rfl
    have y1 : W3.cell? ⟨w.heap.size, 1, none⟩ = some (.int .u64 m.lot) := (blk_cell xb3 1).trans rfl
    have y2 : W3.cell? ⟨w.heap.size, 2, none⟩ = some (.slice Ap n0 cp) := (blk_cell xb3 2).trans rfl
    have y3 : W3.cell? ⟨w.heap.size, 3, none⟩ = some (.slice A1 n1 c1) := (blk_cell xb3 3).trans rfl
    have y4 : W3.cell? ⟨w.heap.size, 4, none⟩ = some (.slice A2 n2 c2) := (blk_cell xb3 4).trans rfl
    have hc := hrs'.out W3 hb3.out
    replace xb3 := Aside0.mk xb3
    replace xr3 := Aside0.mk xr3
    go_upto_region 6 with (go_at_call 53; refine hc.mono ?_; rintro e W4 ⟨v4, rfl, hV4, hB4⟩; have xb4 := (hB4.block _ (blk_lt xb3.out)).trans xb3.out; have xr4 := (hB4.block _ (blk_lt xr3.out)).trans xr3.out; have hb4 := hb3.out.trans (hB4.mono hb3.out.size); obtain ⟨Aq, cq, lv4, tv4, e4, k2, k3, k4, k5⟩ := hV4.shape; obtain ⟨A5, c5, e5, _⟩ := Kd.R_reads k4; obtain ⟨A6, c6, e6, _⟩ := Kd.R_reads k5; obtain ⟨n5, hn5⟩ : ∃ n5 : Nat, n5 = (m.l.take p.toNat ++ m.l.drop (p.toNat + 1)).length := ⟨_, rfl⟩; have hgn0 := HH.out.2.2.2.2.2.2.2.1; have hgn2 := HH.out.2.2.2.2.2.2.2.2.2; simp only at e4 e5 e6 k2 k3 k4 k5; rw [← hgn0] at e4 k2 k3; rw [← hgn2] at e6; rw [← hn5] at e5; subst e5; subst e6; subst e4; have H4 := Aside0.mk (And.intro hb4 (And.intro xb4 (And.intro xr4 (And.intro k2 (And.intro k3 (And.intro k4 k5)))))); have f0 := blk_frozen xb4 0; have f1 := blk_frozen xb4 1; have f2 := blk_frozen xb4 2; have f3 := blk_frozen xb4 3; have f4 := blk_frozen xb4 4; have t0 : W4.cell? ⟨w.heap.size, 0, none⟩ = some (.int .i64 m.policy) := (blk_cell xb4 0).trans rfl; have t1 : W4.cell? ⟨w.heap.size, 1, none⟩ = some (.int .u64 m.lot) := (blk_cell xb4 1).trans rfl; have t2 : W4.cell? ⟨w.heap.size, 2, none⟩ = some (.slice Ap n0 cp) := (blk_cell xb4 2).trans rfl; have t3 : W4.cell? ⟨w.heap.size, 3, none⟩ = some (.slice A1 n1 c1) := (blk_cell xb4 3).trans rfl; have t4 : W4.cell? ⟨w.heap.size, 4, none⟩ = some (.slice A2 n2 c2) := (blk_cell xb4 4).trans rfl; clear hB4 hV4 hb4 xb4 xr4 k2 k3 k4 k5 hgn0 hgn2 hn5 y0 y1 y2 y3 y4)
    obtain ⟨W5, hW5⟩ : ∃ W5, W5 = five W4 w.heap.size (.int .i64 m.policy) (.int .u64 m.lot) (.slice Aq n0 cq) (.slice A5 n5 c5) (.slice A6 n2 c6) := ⟨_, rfl⟩
    have x5 : W5.heap[w.heap.size]? = some (.cells #[.int .i64 m.policy, .int .u64 m.lot, .slice Aq n0 cq, .slice A5 n5 c5, .slice A6 n2 c6] 80 (0, 0)) := by rw [hW5]; exact five_blk H4.out.2.1 _ _ _ _ _
    have o5 : Only (fun k => k = w.heap.size) W4 W5 := by rw [hW5]; exact five_only W4 w.heap.size _ _ _ _ _
    have hW5' : W5 = ((((W4.setCell ⟨w.heap.size, 0, none⟩ (.int .i64 m.policy)).setCell ⟨w.heap.size, 1, none⟩ (.int .u64 m.lot)).setCell ⟨w.heap.size, 2, none⟩ (.slice Aq n0 cq)).setCell ⟨w.heap.size, 3, none⟩ (.slice A5 n5 c5)).setCell ⟨w.heap.size, 4, none⟩ (.slice A6 n2 c6) := hW5
    rw [← hW5']
    clear hW5 hW5' t0 t1 t2 t3 t4 f0 f1 f2 f3 f4 hc
    have t1 : W5.cell? ⟨w.heap.size, 1, none⟩ = some (.int .u64 m.lot) := (blk_cell x5 1).trans rfl
    have f1 := blk_frozen x5 1
    replace x5 := Aside0.mk x5
    replace o5 := Aside0.mk o5
    go_upto_region 7 with fail
    obtain ⟨W6, hW6⟩ : ∃ W6, W6 = W5.setCell ⟨w.heap.size, 1, none⟩ (.int .u64 lot2) := ⟨_, rfl⟩
    have x6 : W6.heap[w.heap.size]? = some (.cells #[.int .i64 m.policy, .int .u64 lot2, .slice Aq n0 cq, .slice A5 n5 c5, .slice A6 n2 c6] 80 (0, 0)) := by rw [hW6]; exact blk_put x5.out 1 _ rfl
    have o6 : Only (fun k => k = w.heap.size) W4 W6 := by rw [hW6]; exact o5.out.setCell (fun _ => rfl) _
    rw [← hW6]
    clear hW6 t1 f1 o5 x5
    obtain ⟨g4b, g4x, g4r, k2, k3, k4, k5⟩ := H4.out
    have r6 : W6.heap[w.heap.size + 1]? = _ := (o6.block _ (blk_lt g4r) (by omega)).trans g4r
    have b6 : Below w.heap.size w W6 := below_only g4b o6 g4b.size (fun i hi e => by omega)
    have s3 : w.heap.size + 1 < W3.heap.size := blk_lt xr3.out
    have k4' := R_only k4 o6 (fun k hk e => by omega)
    have k5' := R_only k5 o6 (fun k hk e => by omega)
    replace k4' : (Kd.int .i64).R 3 W6 base (fun k => (P k ∧ k < w.heap.size) ∨ w.heap.size + 2 ≤ k) (.slice A5 n5 c5) (m.l.take p.toNat ++ m.l.drop (p.toNat + 1)) := Kd.R_mono k4' (fun k hk => by rcases hk with hk | hk; exact .inl hk; exact .inr (by omega))
    replace k5' : (Kd.int .i64).R 3 W6 base (fun k => (P k ∧ k < w.heap.size) ∨ w.heap.size + 2 ≤ k) (.slice A6 n2 c6) m.told := Kd.R_mono k5' (fun k hk => by rcases hk with hk | hk; exact .inl hk; exact .inr (by omega))
    have z2 : W6.cell? ⟨w.heap.size, 2, none⟩ = some (.slice Aq n0 cq) := (blk_cell x6 2).trans rfl
    have f2 := blk_frozen x6 2
    replace x6 := Aside0.mk x6
    replace r6 := Aside0.mk r6
    replace b6 := Aside0.mk b6
    replace k4' := Aside0.mk k4'
    replace k5' := Aside0.mk k5'
    replace o6 := Aside0.mk o6
    by_cases hq : 0 < n0
    · have q1 : decide ((0 : Int) < (n0 : Int)) = true := decide_eq_true (by omega)
      have q2 : decide (0 < n0) = true := decide_eq_true hq
      obtain ⟨i0, hi0, _, hsz, _⟩ := info_parts info3
      have hcut := cut_from (P := Try.prog) 22 3 .i64 Try.underlying22 hi0 1 hsz Aq n0 cq 1 (by omega) (by omega)
      have hC0 : (Kd.int .i64).C w0 Aq m.picks.length m.picks := by rw [← HH.out.2.2.2.2.2.2.2.1]; exact k3
      have hr := Kd.C_drop (m := (1 : Int).toNat) (c := cq) hC0 (by have := HH.out.2.2.2.2.2.2.2.1; omega) (by have := HH.out.2.2.2.2.2.2.2.1; omega)
      obtain ⟨A7, hA7⟩ : ∃ A7, A7 = (if cq = (1 : Int).toNat then Aq else Aq.map (·.add ((1 : Int).toNat * 1))) := ⟨_, rfl⟩
      obtain ⟨n7, hn7⟩ : ∃ n7 : Nat, n7 = n0 - (1 : Int).toNat := ⟨_, rfl⟩
      obtain ⟨c7, hc7⟩ : ∃ c7 : Nat, c7 = cq - (1 : Int).toNat := ⟨_, rfl⟩
      rw [← hA7, ← hn7, ← hc7] at hcut
      have e7 : n7 = (m.picks.drop 1).length := by rw [List.length_drop, ← HH.out.2.2.2.2.2.2.2.1]; exact hn7
      have hr7 : (Kd.int .i64).C w0 A7 n7 (m.picks.drop 1) := by rw [hA7, e7]; exact hr
      have hc7' : n7 ≤ c7 := by rw [hn7, hc7]; exact Nat.sub_le_sub_right k2 _
      replace e7 := Aside0.mk e7
      replace hr7 := Aside0.mk hr7
      replace hc7' := Aside0.mk hc7'
      clear hq hi0 hsz hC0 hr hA7 hn7 hc7 k2 k3 k4 k5 g4b g4x g4r
      go_upto_region 9 with fail
      obtain ⟨W7, hW7⟩ : ∃ W7, W7 = W6.setCell ⟨w.heap.size, 2, none⟩ (.slice A7 n7 c7) := ⟨_, rfl⟩
      have x7 : W7.heap[w.heap.size]? = some (.cells #[.int .i64 m.policy, .int .u64 lot2, .slice A7 n7 c7, .slice A5 n5 c5, .slice A6 n2 c6] 80 (0, 0)) := by rw [hW7]; exact blk_put x6.out 2 _ rfl
      have o7 : Only (fun k => k = w.heap.size) W6 W7 := by rw [hW7]; exact (Only.refl (fun k => k = w.heap.size) W6).setCell (fun _ => rfl) _
      rw [← hW7]
      have r7 := Aside0.mk ((o7.block _ (blk_lt r6.out) (by omega)).trans r6.out)
      have b7 := Aside0.mk (below_only b6.out o7 b6.out.size (fun i hi e => by omega))
      have j4 := Aside0.mk (R_only k4'.out o7 (fun k hk e => by omega))
      have j5 := Aside0.mk (R_only k5'.out o7 (fun k hk e => by omega))
      replace x7 := Aside0.mk x7
      clear hW7 o7 z2 f2 k4' k5' b6 r6 x6 hcut q1 q2
      have sW7 : w.heap.size + 2 ≤ W7.heap.size := blk_lt r7.out
      have bA : Below W7.heap.size W7 (W7.alloc (Obj.cells #[] 3)) := (Below.refl _ _).alloc (Nat.le_refl _) _
      have sA : (W7.alloc (Obj.cells #[] 3)).heap.size = W7.heap.size + 1 := by simp
      have xA : (W7.alloc (Obj.cells #[] 3)).heap[w.heap.size]? = _ := (bA.block _ (blk_lt x7.out)).trans x7.out
      have z4a : (W7.alloc (Obj.cells #[] 3)).cell? ⟨w.heap.size, 4, none⟩ = some (.slice A6 n2 c6) := (blk_cell xA 4).trans rfl
      have CA1 : (Kd.int .i64).C (W7.alloc (Obj.cells #[] 3)) A6 n2 m.told := by
        have := (Kd.R_reads' (Kd.R_alloc j5.out (Obj.cells #[] 3))).2.2
        rw [← HH.out.2.2.2.2.2.2.2.2.2] at this; exact this
      have HO2 := R_lit0 W7 base (fun k => W7.heap.size ≤ k) (by have := HH.out.2.2.2.2.2.1; omega) (Nat.le_refl _)
      have HN := Aside0.mk (And.intro sW7 (And.intro bA (And.intro sA (And.intro xA (And.intro CA1 HO2)))))
      clear sW7 bA sA xA CA1 HO2
      go_upto_region 10 with (first
        | ((with_reducible refine gate_builtin (b := .append) (xs := #[.tmp 35, .tmp 37]) rfl ?_); at_builtin; refine Kd.R_append_row (Value.int .i64) (0 : Int) (h1 := fun _ => rfl) (w0 := W7.alloc (Obj.cells #[] 3)) base rfl (.tmp 35) (.tmp 37) 22 3 (.int .i64 0) 8 rfl undSI info3 rfl (by decide) (.slice (some ⟨W7.heap.size, 0, none⟩) 0 0) [] m.told A6 n2 c6 (fun k => W7.heap.size ≤ k) rfl rfl (fun k hk => by have := HN.out.1; have := HN.out.2.2.1; omega) HN.out.2.2.2.2.2 HN.out.2.2.2.2.1 (Below.refl _ _) (by have := HN.out.1; have := HN.out.2.2.1; have := HH.out.2.2.2.2.2.1; omega) (by have := ht.out; have := HH.out.2.2.2.2.2.2.2.2.2; simp; omega) ?_; intro v8 W8 hR8 hB8 hg8 hat8; replace hR8 := Aside0.mk hR8; replace hg8 := Aside0.mk hg8; clear hat8 hB8)
        | ((with_reducible refine gate_builtin (b := .append) (xs := #[.tmp 38, .tmp 40]) rfl ?_); at_builtin; refine Kd.R_append (Kd.int .i64) (w0 := W8) base rfl (.tmp 38) (.tmp 40) 22 3 (.int .i64 0) 8 rfl undSI info3 rfl (by decide) (by decide) v8 ([] ++ m.told) p [.int .i64 p] (fun k => W7.heap.size ≤ k) (fun _ => False) rfl rfl rfl (fun _ h => h.elim) (fun k hk => by have := HN.out.1; have := HN.out.2.2.1; have := hg8.out.size; omega) hR8.out (Below.refl _ _) (by have := HN.out.1; have := HN.out.2.2.1; have := hg8.out.size; have := HH.out.2.2.2.2.2.1; omega) (by have := ht.out; simp; omega) ?_; intro v9 W9 hR9 hB9 hg9 hat9; obtain ⟨A9, d9, e9, _⟩ := Kd.R_reads hR9; obtain ⟨n9, hn9⟩ : ∃ n9 : Nat, n9 = ([] ++ m.told ++ [p]).length := ⟨_, rfl⟩; rw [← hn9] at e9; subst e9; have x9 := Aside0.mk ((hg9.block _ (by have := hg8.out.size; have := blk_lt HN.out.2.2.2.1; omega) (fun e => by have := hR8.out.1 _ e.symm; have := HN.out.1; omega)).trans ((hg8.out.block _ (blk_lt HN.out.2.2.2.1) (by simp [Value.ownBlock]; have := HN.out.1; omega)).trans HN.out.2.2.2.1)); have z94 : W9.cell? ⟨w.heap.size, 4, none⟩ = some (.slice A6 n2 c6) := (blk_cell x9.out 4).trans rfl; have f94 := blk_frozen x9.out 4; replace hn9 := Aside0.mk hn9; replace hR9 := Aside0.mk hR9; replace hg9 := Aside0.mk hg9; clear hat9 hB9 z4a))
      have hO9 : Only (fun k => W7.heap.size ≤ k) W7 W9 := by
        have o1 : Only (fun k => W7.heap.size ≤ k) W7 (W7.alloc (Obj.cells #[] 3)) := Only.ofBelowAt HN.out.2.1
        have o2 := (Only.ofGrown hg8.out).mono (G := fun k => W7.heap.size ≤ k) (fun k _ e => by simp [Value.ownBlock] at e; have := HN.out.1; omega)
        have o3 := (Only.ofGrown hg9.out).mono (G := fun k => W7.heap.size ≤ k) (fun k _ e => hR8.out.1 _ e.symm)
        exact (o1.trans o2).trans o3
      have r9 : W9.heap[w.heap.size + 1]? = some (.cells #[.int .i64 0, .int .u64 0, .slice none 0 0, .slice none 0 0, .slice none 0 0] 80 (0, 0)) := (hO9.block _ (blk_lt r7.out) (by have := HN.out.1; omega)).trans r7.out
      have hb9 : Below w.heap.size w W9 := below_only b7.out hO9 b7.out.size (fun i hi h => by have := HN.out.1; omega)
      obtain ⟨W10, hW10⟩ : ∃ W10, W10 = W9.setCell ⟨w.heap.size, 4, none⟩ (.slice A9 n9 d9) := ⟨_, rfl⟩
      have o10 : Only (fun k => k = w.heap.size) W9 W10 := by rw [hW10]; exact (Only.refl (fun k => k = w.heap.size) W9).setCell (fun _ => rfl) _
      have x10 : W10.heap[w.heap.size]? = some (.cells #[.int .i64 m.policy, .int .u64 lot2, .slice A7 n7 c7, .slice A5 n5 c5, .slice A9 n9 d9] 80 (0, 0)) := by rw [hW10]; exact blk_put x9.out 4 _ rfl
      have r10 : W10.heap[w.heap.size + 1]? = _ := (o10.block _ (blk_lt r9) (by omega)).trans r9
      rw [← hW10]
      have hb10 : Below w.heap.size w W10 := below_only hb9 o10 hb9.size (fun i hi h => by omega)
      have hR10 := R_only hR9.out o10 (fun k hk e => by have := HN.out.1; omega)
      have hL10 := R_only (R_only (Kd.R_bound j4.out) hO9 (fun k hk e => by have := hk.2.2; omega)) o10 (fun k hk e => by have := hk.1; omega)
      have BBA0 : W10.cell? ⟨w.heap.size, 0, none⟩ = some (.int .i64 m.policy) := (blk_cell x10 0).trans rfl
      have BBA1 : W10.cell? ⟨w.heap.size, 1, none⟩ = some (.int .u64 lot2) := (blk_cell x10 1).trans rfl
      have BBA2 : W10.cell? ⟨w.heap.size, 2, none⟩ = some (.slice A7 n7 c7) := (blk_cell x10 2).trans rfl
      have BBA3 : W10.cell? ⟨w.heap.size, 3, none⟩ = some (.slice A5 n5 c5) := (blk_cell x10 3).trans rfl
      have BBA4 : W10.cell? ⟨w.heap.size, 4, none⟩ = some (.slice A9 n9 d9) := (blk_cell x10 4).trans rfl
      have u0 : W10.cell? ⟨w.heap.size + 1, 0, none⟩ = some (.int .i64 0) := (blk_cell r10 0).trans rfl
      have u1 : W10.cell? ⟨w.heap.size + 1, 1, none⟩ = some (.int .u64 0) := (blk_cell r10 1).trans rfl
      have u2 : W10.cell? ⟨w.heap.size + 1, 2, none⟩ = some (.slice none 0 0) := (blk_cell r10 2).trans rfl
      have u3 : W10.cell? ⟨w.heap.size + 1, 3, none⟩ = some (.slice none 0 0) := (blk_cell r10 3).trans rfl
      have u4 : W10.cell? ⟨w.heap.size + 1, 4, none⟩ = some (.slice none 0 0) := (blk_cell r10 4).trans rfl
      have f0 := blk_frozen r10 0
      have f1 := blk_frozen r10 1
      have f2 := blk_frozen r10 2
      have f3 := blk_frozen r10 3
      have f4 := blk_frozen r10 4
      replace r10 := Aside0.mk r10
      replace hb10 := Aside0.mk hb10
      replace hR10 := Aside0.mk hR10
      replace hL10 := Aside0.mk hL10
      clear hW10 o10 x10 r9 hb9 hO9 z94 f94 x9 hg9 hg8 hR9 hR8
      go_wp2
      (try simp only [Exit.inBlock, Exit.then])
      have o11 := five_only W10 (w.heap.size + 1) (.int .i64 m.policy) (.int .u64 lot2) (.slice A7 n7 c7) (.slice A5 n5 c5) (.slice A9 n9 d9)
      have x11 := five_blk r10.out (.int .i64 m.policy) (.int .u64 lot2) (.slice A7 n7 c7) (.slice A5 n5 c5) (.slice A9 n9 d9)
      unfold five at o11 x11
      refine bodyPost_ret (results_ctt rfl _ _ (w.heap.size + 1) 80 #[.int .i64 m.policy, .int .u64 lot2, .slice A7 n7 c7, .slice A5 n5 c5, .slice A9 n9 d9] (0, 0) _ rfl x11 Try.underlying80 rfl (by kernel_rfl)) rfl ?_
      have hb11 := below_only hb10.out o11 hb10.out.size (fun i hi e => by omega)
      refine ⟨_, rfl, ⟨A7, c7, _, _, by rw [e7.out], by rw [← e7.out]; exact hc7'.out, by rw [← e7.out]; exact hr7.out, ?_, ?_⟩, hb11⟩
      · exact Kd.R_mono (R_only hL10.out o11 (fun k hk e => by have := hk.1; omega)) (fun k hk => by rcases hk.1 with hk | hk; exact .inl hk.1; exact .inr (by omega))
      · have h7 := R_only hR10.out o11 (fun k hk e => by have := HN.out.1; omega)
        rw [List.nil_append] at h7
        exact Kd.R_mono h7 (fun k hk => .inr (by have := HN.out.1; omega))
    · have q1 : decide ((0 : Int) < (n0 : Int)) = false := decide_eq_false (by omega)
      have q2 : decide (0 < n0) = false := decide_eq_false hq
      have e0 : m.picks = [] := List.eq_nil_of_length_eq_zero (by have := HH.out.2.2.2.2.2.2.2.1; omega)
      have e7 := Aside0.mk (show n0 = (m.picks.drop 1).length by rw [e0]; have := HH.out.2.2.2.2.2.2.2.1; rw [e0] at this; simpa using this)
      have hr7 : Aside0 ((Kd.int .i64).C w0 Aq n0 (m.picks.drop 1)) := ⟨by rw [e0] at k3 ⊢; exact k3⟩
      have hc7' := Aside0.mk k2
      replace q0 := Aside0.mk hq
      clear hq e0 k2 k3 k4 k5 g4b g4x g4r
      go_upto_region 9 with fail
      clear z2 f2 q1 q2
      have sW6 : w.heap.size + 2 ≤ W6.heap.size := blk_lt r6.out
      have bA : Below W6.heap.size W6 (W6.alloc (Obj.cells #[] 3)) := (Below.refl _ _).alloc (Nat.le_refl _) _
      have sA : (W6.alloc (Obj.cells #[] 3)).heap.size = W6.heap.size + 1 := by simp
      have xA : (W6.alloc (Obj.cells #[] 3)).heap[w.heap.size]? = _ := (bA.block _ (blk_lt x6.out)).trans x6.out
      have z4a : (W6.alloc (Obj.cells #[] 3)).cell? ⟨w.heap.size, 4, none⟩ = some (.slice A6 n2 c6) := (blk_cell xA 4).trans rfl
      have CA1 : (Kd.int .i64).C (W6.alloc (Obj.cells #[] 3)) A6 n2 m.told := by
        have := (Kd.R_reads' (Kd.R_alloc k5'.out (Obj.cells #[] 3))).2.2
        rw [← HH.out.2.2.2.2.2.2.2.2.2] at this; exact this
      have HO2 := R_lit0 W6 base (fun k => W6.heap.size ≤ k) (by have := HH.out.2.2.2.2.2.1; omega) (Nat.le_refl _)
      have HN := Aside0.mk (And.intro sW6 (And.intro bA (And.intro sA (And.intro xA (And.intro CA1 HO2)))))
      clear sW6 bA sA xA CA1 HO2
      go_upto_region 10 with (first
        | ((with_reducible refine gate_builtin (b := .append) (xs := #[.tmp 35, .tmp 37]) rfl ?_); at_builtin; refine Kd.R_append_row (Value.int .i64) (0 : Int) (h1 := fun _ => rfl) (w0 := W6.alloc (Obj.cells #[] 3)) base rfl (.tmp 35) (.tmp 37) 22 3 (.int .i64 0) 8 rfl undSI info3 rfl (by decide) (.slice (some ⟨W6.heap.size, 0, none⟩) 0 0) [] m.told A6 n2 c6 (fun k => W6.heap.size ≤ k) rfl rfl (fun k hk => by have := HN.out.1; have := HN.out.2.2.1; omega) HN.out.2.2.2.2.2 HN.out.2.2.2.2.1 (Below.refl _ _) (by have := HN.out.1; have := HN.out.2.2.1; have := HH.out.2.2.2.2.2.1; omega) (by have := ht.out; have := HH.out.2.2.2.2.2.2.2.2.2; simp; omega) ?_; intro v8 W8 hR8 hB8 hg8 hat8; replace hR8 := Aside0.mk hR8; replace hg8 := Aside0.mk hg8; clear hat8 hB8)
        | ((with_reducible refine gate_builtin (b := .append) (xs := #[.tmp 38, .tmp 40]) rfl ?_); at_builtin; refine Kd.R_append (Kd.int .i64) (w0 := W8) base rfl (.tmp 38) (.tmp 40) 22 3 (.int .i64 0) 8 rfl undSI info3 rfl (by decide) (by decide) v8 ([] ++ m.told) p [.int .i64 p] (fun k => W6.heap.size ≤ k) (fun _ => False) rfl rfl rfl (fun _ h => h.elim) (fun k hk => by have := HN.out.1; have := HN.out.2.2.1; have := hg8.out.size; omega) hR8.out (Below.refl _ _) (by have := HN.out.1; have := HN.out.2.2.1; have := hg8.out.size; have := HH.out.2.2.2.2.2.1; omega) (by have := ht.out; simp; omega) ?_; intro v9 W9 hR9 hB9 hg9 hat9; obtain ⟨A9, d9, e9, _⟩ := Kd.R_reads hR9; obtain ⟨n9, hn9⟩ : ∃ n9 : Nat, n9 = ([] ++ m.told ++ [p]).length := ⟨_, rfl⟩; rw [← hn9] at e9; subst e9; have x9 := Aside0.mk ((hg9.block _ (by have := hg8.out.size; have := blk_lt HN.out.2.2.2.1; omega) (fun e => by have := hR8.out.1 _ e.symm; have := HN.out.1; omega)).trans ((hg8.out.block _ (blk_lt HN.out.2.2.2.1) (by simp [Value.ownBlock]; have := HN.out.1; omega)).trans HN.out.2.2.2.1)); have z94 : W9.cell? ⟨w.heap.size, 4, none⟩ = some (.slice A6 n2 c6) := (blk_cell x9.out 4).trans rfl; have f94 := blk_frozen x9.out 4; replace hn9 := Aside0.mk hn9; replace hR9 := Aside0.mk hR9; replace hg9 := Aside0.mk hg9; clear hat9 hB9 z4a))
      have hO9 : Only (fun k => W6.heap.size ≤ k) W6 W9 := by
        have o1 : Only (fun k => W6.heap.size ≤ k) W6 (W6.alloc (Obj.cells #[] 3)) := Only.ofBelowAt HN.out.2.1
        have o2 := (Only.ofGrown hg8.out).mono (G := fun k => W6.heap.size ≤ k) (fun k _ e => by simp [Value.ownBlock] at e; have := HN.out.1; omega)
        have o3 := (Only.ofGrown hg9.out).mono (G := fun k => W6.heap.size ≤ k) (fun k _ e => hR8.out.1 _ e.symm)
        exact (o1.trans o2).trans o3
      have r9 : W9.heap[w.heap.size + 1]? = some (.cells #[.int .i64 0, .int .u64 0, .slice none 0 0, .slice none 0 0, .slice none 0 0] 80 (0, 0)) := (hO9.block _ (blk_lt r6.out) (by have := HN.out.1; omega)).trans r6.out
      have hb9 : Below w.heap.size w W9 := below_only b6.out hO9 b6.out.size (fun i hi h => by have := HN.out.1; omega)
      obtain ⟨W10, hW10⟩ : ∃ W10, W10 = W9.setCell ⟨w.heap.size, 4, none⟩ (.slice A9 n9 d9) := ⟨_, rfl⟩
      have o10 : Only (fun k => k = w.heap.size) W9 W10 := by rw [hW10]; exact (Only.refl (fun k => k = w.heap.size) W9).setCell (fun _ => rfl) _
      have x10 : W10.heap[w.heap.size]? = some (.cells #[.int .i64 m.policy, .int .u64 lot2, .slice Aq n0 cq, .slice A5 n5 c5, .slice A9 n9 d9] 80 (0, 0)) := by rw [hW10]; exact blk_put x9.out 4 _ rfl
      have r10 : W10.heap[w.heap.size + 1]? = _ := (o10.block _ (blk_lt r9) (by omega)).trans r9
      rw [← hW10]
      have hb10 : Below w.heap.size w W10 := below_only hb9 o10 hb9.size (fun i hi h => by omega)
      have hR10 := R_only hR9.out o10 (fun k hk e => by have := HN.out.1; omega)
      have hL10 := R_only (R_only (Kd.R_bound k4'.out) hO9 (fun k hk e => by have := hk.2.2; omega)) o10 (fun k hk e => by have := hk.1; omega)
      have BBA0 : W10.cell? ⟨w.heap.size, 0, none⟩ = some (.int .i64 m.policy) := (blk_cell x10 0).trans rfl
      have BBA1 : W10.cell? ⟨w.heap.size, 1, none⟩ = some (.int .u64 lot2) := (blk_cell x10 1).trans rfl
      have BBA2 : W10.cell? ⟨w.heap.size, 2, none⟩ = some (.slice Aq n0 cq) := (blk_cell x10 2).trans rfl
      have BBA3 : W10.cell? ⟨w.heap.size, 3, none⟩ = some (.slice A5 n5 c5) := (blk_cell x10 3).trans rfl
      have BBA4 : W10.cell? ⟨w.heap.size, 4, none⟩ = some (.slice A9 n9 d9) := (blk_cell x10 4).trans rfl
      have u0 : W10.cell? ⟨w.heap.size + 1, 0, none⟩ = some (.int .i64 0) := (blk_cell r10 0).trans rfl
      have u1 : W10.cell? ⟨w.heap.size + 1, 1, none⟩ = some (.int .u64 0) := (blk_cell r10 1).trans rfl
      have u2 : W10.cell? ⟨w.heap.size + 1, 2, none⟩ = some (.slice none 0 0) := (blk_cell r10 2).trans rfl
      have u3 : W10.cell? ⟨w.heap.size + 1, 3, none⟩ = some (.slice none 0 0) := (blk_cell r10 3).trans rfl
      have u4 : W10.cell? ⟨w.heap.size + 1, 4, none⟩ = some (.slice none 0 0) := (blk_cell r10 4).trans rfl
      have f0 := blk_frozen r10 0
      have f1 := blk_frozen r10 1
      have f2 := blk_frozen r10 2
      have f3 := blk_frozen r10 3
      have f4 := blk_frozen r10 4
      replace r10 := Aside0.mk r10
      replace hb10 := Aside0.mk hb10
      replace hR10 := Aside0.mk hR10
      replace hL10 := Aside0.mk hL10
      clear hW10 o10 x10 r9 hb9 hO9 z94 f94 x9 hg9 hg8 hR9 hR8
      go_wp2
      (try simp only [Exit.inBlock, Exit.then])
      have o11 := five_only W10 (w.heap.size + 1) (.int .i64 m.policy) (.int .u64 lot2) (.slice Aq n0 cq) (.slice A5 n5 c5) (.slice A9 n9 d9)
      have x11 := five_blk r10.out (.int .i64 m.policy) (.int .u64 lot2) (.slice Aq n0 cq) (.slice A5 n5 c5) (.slice A9 n9 d9)
      unfold five at o11 x11
      refine bodyPost_ret (results_ctt rfl _ _ (w.heap.size + 1) 80 #[.int .i64 m.policy, .int .u64 lot2, .slice Aq n0 cq, .slice A5 n5 c5, .slice A9 n9 d9] (0, 0) _ rfl x11 Try.underlying80 rfl (by kernel_rfl)) rfl ?_
      have hb11 := below_only hb10.out o11 hb10.out.size (fun i hi e => by omega)
      refine ⟨_, rfl, ⟨Aq, cq, _, _, by rw [e7.out], by rw [← e7.out]; exact hc7'.out, by rw [← e7.out]; exact hr7.out, ?_, ?_⟩, hb11⟩
      · exact Kd.R_mono (R_only hL10.out o11 (fun k hk e => by have := hk.1; omega)) (fun k hk => by rcases hk.1 with hk | hk; exact .inl hk.1; exact .inr (by omega))
      · have h7 := R_only hR10.out o11 (fun k hk e => by have := HN.out.1; omega)
        rw [List.nil_append] at h7
        exact Kd.R_mono h7 (fun k hk => .inr (by have := HN.out.1; omega))
end Go.Proofs.Ytljckmiphkoipaa
