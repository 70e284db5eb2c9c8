/-
  The document's ready ones: Wake.
-/
import Derived.Test.YtljckmiphkoipaaRef0
import Derived.Test.YtljckmiphkoipaaReady7
namespace Go.Proofs.Ytljckmiphkoipaa
set_option linter.unusedVariables false
set_option linter.unusedSimpArgs false
open Go.RowKit Go.MapKept Go.Maps Go.Proofs.YtljckmiphkoipaaW.PrintWords Go.Proofs.YtljckmiphkoipaaW.PrintLast Go.Proofs.YtljckmiphkoipaaW.PrintMore

theorem findV_neg {l : List Int} {x : Int} : decide (0 ≤ findV l x) = decide (x ∈ l) := by
  unfold findV
  by_cases h : x ∈ l
  · obtain ⟨k, _, h2, _⟩ := idxOf_spec h
    rw [if_pos h, h2, decide_eq_true h, decide_eq_true (by omega)]
  · rw [if_neg h, decide_eq_false h, decide_eq_false (by omega)]

def five (w : World) (g : Nat) (b0 b1 b2 b3 b4 : Value) : World := ((((w.setCell ⟨g, 0, none⟩ b0).setCell ⟨g, 1, none⟩ b1).setCell ⟨g, 2, none⟩ b2).setCell ⟨g, 3, none⟩ b3).setCell ⟨g, 4, none⟩ b4
theorem five_blk {w : World} {g : Nat} {t : TypeId} {a0 a1 a2 a3 a4 : Value} (h : w.heap[g]? = some (.cells #[a0, a1, a2, a3, a4] t (0, 0))) (b0 b1 b2 b3 b4 : Value) : (five w g b0 b1 b2 b3 b4).heap[g]? = some (.cells #[b0, b1, b2, b3, b4] t (0, 0)) :=
  blk_put (blk_put (blk_put (blk_put (blk_put h 0 _ rfl) 1 _ rfl) 2 _ rfl) 3 _ rfl) 4 _ rfl
theorem five_only (w : World) (g : Nat) (b0 b1 b2 b3 b4 : Value) : Only (fun k => k = g) w (five w g b0 b1 b2 b3 b4) :=
  (((((Only.refl (fun k => k = g) w).setCell (fun _ => rfl) _).setCell (fun _ => rfl) _).setCell (fun _ => rfl) _).setCell (fun _ => rfl) _).setCell (fun _ => rfl) _

set_option maxRecDepth 100000 in
set_option maxHeartbeats 8000000 in
theorem rfwake_calls {w0 w : World} {base : Nat} {P : Nat → Prop} {v : Value} {m : RM} (h : RefV w0 base P w v m) (hw : Below w0.heap.size w0 w) (hbase : base ≤ w.heap.size) (x : Int) (hl : m.l.length ≤ 65536) :
    Calls Try.prog 56 #[v, .int .i64 x] w fun e w' => ∃ v', e = .returned (.tuple #[v', .int .i64 (putE m.l x)]) ∧ RefV w0 base (fun k => P k ∨ w.heap.size ≤ k) w' v' (wakeM m x) ∧ Below w.heap.size w w' := by
  have hfd := fun (u : World) (hu : Below w.heap.size w u) => find_calls (h.below hu) (hw.trans (hu.mono hw.size)) x (by omega)
  obtain ⟨Ap, cp, lv, tv, rfl, h2, h3, h4, h5⟩ := h.shape
  obtain ⟨A1, c1, rfl, hc1, hC1⟩ := Kd.R_reads h4
  obtain ⟨A2, c2, rfl, hc2, hC2⟩ := Kd.R_reads h5
  obtain ⟨n0, hn0⟩ : ∃ n0 : Nat, n0 = m.picks.length := ⟨_, rfl⟩
  obtain ⟨n1, hn1⟩ : ∃ n1 : Nat, n1 = m.l.length := ⟨_, rfl⟩
  obtain ⟨n2, hn2⟩ : ∃ n2 : Nat, n2 = m.told.length := ⟨_, rfl⟩
  rw [← hn0, ← hn1, ← hn2] at hfd
  rw [← hn0, ← hn1, ← hn2]
  rw [← hn1] at h4
  rw [← hn2] at h5
  have HH := Aside0.mk (And.intro h2 (And.intro h3 (And.intro h4 (And.intro h5 (And.intro hw (And.intro hbase (And.intro hl (And.intro hn0 (And.intro hn1 hn2)))))))))
  replace hfd := Aside0.mk hfd
  clear h h2 h3 h4 h5 hw hbase hl hn0 hn1 hn2 hc1 hC1 hc2 hC2
  by_cases hm : x ∈ m.l
  · simp only [putE, wakeM, putL, hm, if_true, true_or]
    replace hm := Aside0.mk hm
    go_enter Try.func56, Try.ntmps56
    go_upto_region 1 with fail
    obtain ⟨W1, hW1⟩ : ∃ W1, W1 = (w.alloc (Obj.cells #[.int .i64 m.policy, .int .u64 m.lot, .slice Ap n0 cp, .slice A1 n1 c1, .slice A2 n2 c2] 80)).alloc (Obj.cells #[.int .i64 0, .int .u64 0, .slice none 0 0, .slice none 0 0, .slice none 0 0] 80) := ⟨_, rfl⟩
    have hs1 : W1.heap.size = w.heap.size + 2 := by rw [hW1]; simp
    have hb1 : Below w.heap.size w W1 := by rw [hW1]; exact ((Below.refl _ _).alloc (Nat.le_refl _) _).alloc (by simp) _
    have xb1 : W1.heap[w.heap.size]? = some (.cells #[.int .i64 m.policy, .int .u64 m.lot, .slice Ap n0 cp, .slice A1 n1 c1, .slice A2 n2 c2] 80 (0, 0)) := by
      rw [hW1]; exact blk_alloc (heap_alloc_new w _) _
    have xr1 : W1.heap[w.heap.size + 1]? = some (.cells #[.int .i64 0, .int .u64 0, .slice none 0 0, .slice none 0 0, .slice none 0 0] 80 (0, 0)) := by
      have := heap_alloc_new (w.alloc (Obj.cells #[.int .i64 m.policy, .int .u64 m.lot, .slice Ap n0 cp, .slice A1 n1 c1, .slice A2 n2 c2] 80)) (Obj.cells #[.int .i64 0, .int .u64 0, .slice none 0 0, .slice none 0 0, .slice none 0 0] 80)
      rw [hW1]; simpa using this
    rw [← hW1]
    have y0 : W1.cell? ⟨w.heap.size, 0, none⟩ = some (.int .i64 m.policy) := (blk_cell xb1 0).trans rfl
    have y1 : W1.cell? ⟨w.heap.size, 1, none⟩ = some (.int .u64 m.lot) := (blk_cell xb1 1).trans rfl
    have y2 : W1.cell? ⟨w.heap.size, 2, none⟩ = some (.slice Ap n0 cp) := (blk_cell xb1 2).trans rfl
    have y3 : W1.cell? ⟨w.heap.size, 3, none⟩ = some (.slice A1 n1 c1) := (blk_cell xb1 3).trans rfl
    have y4 : W1.cell? ⟨w.heap.size, 4, none⟩ = some (.slice A2 n2 c2) := (blk_cell xb1 4).trans rfl
    have hf1 := hfd.out W1 hb1
    obtain ⟨fv, hfv⟩ : ∃ fv, fv = findV m.l x := ⟨_, rfl⟩
    have hfd2 : decide (0 ≤ fv) = decide (x ∈ m.l) := by rw [hfv]; exact findV_neg
    rw [← hfv] at hf1
    have H1 := Aside0.mk (And.intro hs1 (And.intro hb1 (And.intro xb1 xr1)))
    replace hfv := Aside0.mk hfv
    clear hW1 hs1 hb1 xb1 xr1
    rw [decide_eq_true hm.out] at hfd2
    go_upto_region 2 with (go_at_call 51; refine hf1.mono ?_; rintro e W2 ⟨rfl, hB2⟩; have xb2 := (hB2.block _ (blk_lt H1.out.2.2.1)).trans H1.out.2.2.1; have xr2 := (hB2.block _ (blk_lt H1.out.2.2.2)).trans H1.out.2.2.2; replace hB2 := Aside0.mk hB2; have z0 : W2.cell? ⟨w.heap.size, 0, none⟩ = some (.int .i64 m.policy) := (blk_cell xb2 0).trans rfl; have z1 : W2.cell? ⟨w.heap.size, 1, none⟩ = some (.int .u64 m.lot) := (blk_cell xb2 1).trans rfl; have z2 : W2.cell? ⟨w.heap.size, 2, none⟩ = some (.slice Ap n0 cp) := (blk_cell xb2 2).trans rfl; have z3 : W2.cell? ⟨w.heap.size, 3, none⟩ = some (.slice A1 n1 c1) := (blk_cell xb2 3).trans rfl; have z4 : W2.cell? ⟨w.heap.size, 4, none⟩ = some (.slice A2 n2 c2) := (blk_cell xb2 4).trans rfl; clear y0 y1 y2 y3 y4)
    have u0 : W2.cell? ⟨w.heap.size + 1, 0, none⟩ = some (.int .i64 0) := (blk_cell xr2 0).trans rfl
    have u1 : W2.cell? ⟨w.heap.size + 1, 1, none⟩ = some (.int .u64 0) := (blk_cell xr2 1).trans rfl
    have u2 : W2.cell? ⟨w.heap.size + 1, 2, none⟩ = some (.slice none 0 0) := (blk_cell xr2 2).trans rfl
    have u3 : W2.cell? ⟨w.heap.size + 1, 3, none⟩ = some (.slice none 0 0) := (blk_cell xr2 3).trans rfl
    have u4 : W2.cell? ⟨w.heap.size + 1, 4, none⟩ = some (.slice none 0 0) := (blk_cell xr2 4).trans rfl
    have f0 := blk_frozen xr2 0
    have f1 := blk_frozen xr2 1
    have f2 := blk_frozen xr2 2
    have f3 := blk_frozen xr2 3
    have f4 := blk_frozen xr2 4
    replace xb2 := Aside0.mk xb2
    replace xr2 := Aside0.mk xr2
    go_wp2
    (try simp only [Exit.inBlock, Exit.then])
    have o5 := five_only W2 (w.heap.size + 1) (.int .i64 m.policy) (.int .u64 m.lot) (.slice Ap n0 cp) (.slice A1 n1 c1) (.slice A2 n2 c2)
    have x5 := five_blk xr2.out (.int .i64 m.policy) (.int .u64 m.lot) (.slice Ap n0 cp) (.slice A1 n1 c1) (.slice A2 n2 c2)
    unfold five at o5 x5
    refine bodyPost_ret (results_ct rfl _ _ (w.heap.size + 1) 80 #[.int .i64 m.policy, .int .u64 m.lot, .slice Ap n0 cp, .slice A1 n1 c1, .slice A2 n2 c2] (0, 0) _ rfl x5 Try.underlying80 rfl (by kernel_rfl)) rfl ?_
    have hbb : Below w.heap.size w W2 := H1.out.2.1.trans (hB2.out.mono (by have := H1.out.1; omega))
    have hb5 := below_only hbb o5 hbb.size (fun i hi e => by omega)
    obtain ⟨g2, g3, g4, g5, gw, gb, gl, gn0, gn1, gn2⟩ := HH.out
    exact ⟨_, rfl, ⟨Ap, cp, _, _, by rw [gn0], g2, g3, Kd.R_mono (Kd.R_below g4 hb5) (fun k hk => .inl hk), Kd.R_mono (Kd.R_below g5 hb5) (fun k hk => .inl hk)⟩, hb5⟩
  · by_cases hf : 65536 ≤ m.l.length
    · simp only [putE, wakeM, putL, hm, hf, if_true, if_false, or_true]
      replace hf := Aside0.mk hf
      have hg1 : decide (65536 ≤ n1) = true := decide_eq_true (by have := HH.out.2.2.2.2.2.2.2.2.1; have := hf.out; omega)
      have hg2 : decide ((65536 : Int) ≤ (n1 : Int)) = true := decide_eq_true (by have := HH.out.2.2.2.2.2.2.2.2.1; have := hf.out; omega)
      replace hm := Aside0.mk hm
      go_enter Try.func56, Try.ntmps56
      go_upto_region 1 with fail
      obtain ⟨W1, hW1⟩ : ∃ W1, W1 = (w.alloc (Obj.cells #[.int .i64 m.policy, .int .u64 m.lot, .slice Ap n0 cp, .slice A1 n1 c1, .slice A2 n2 c2] 80)).alloc (Obj.cells #[.int .i64 0, .int .u64 0, .slice none 0 0, .slice none 0 0, .slice none 0 0] 80) := ⟨_, rfl⟩
      have hs1 : W1.heap.size = w.heap.size + 2 := by rw [hW1]; simp
      have hb1 : Below w.heap.size w W1 := by rw [hW1]; exact ((Below.refl _ _).alloc (Nat.le_refl _) _).alloc (by simp) _
      have xb1 : W1.heap[w.heap.size]? = some (.cells #[.int .i64 m.policy, .int .u64 m.lot, .slice Ap n0 cp, .slice A1 n1 c1, .slice A2 n2 c2] 80 (0, 0)) := by
        rw [hW1]; exact blk_alloc (heap_alloc_new w _) _
      have xr1 : W1.heap[w.heap.size + 1]? = some (.cells #[.int .i64 0, .int .u64 0, .slice none 0 0, .slice none 0 0, .slice none 0 0] 80 (0, 0)) := by
        have := heap_alloc_new (w.alloc (Obj.cells #[.int .i64 m.policy, .int .u64 m.lot, .slice Ap n0 cp, .slice A1 n1 c1, .slice A2 n2 c2] 80)) (Obj.cells #[.int .i64 0, .int .u64 0, .slice none 0 0, .slice none 0 0, .slice none 0 0] 80)
        rw [hW1]; simpa using this
      rw [← hW1]
      have y0 : W1.cell? ⟨w.heap.size, 0, none⟩ = some (.int .i64 m.policy) := (blk_cell xb1 0).trans rfl
      have y1 : W1.cell? ⟨w.heap.size, 1, none⟩ = some (.int .u64 m.lot) := (blk_cell xb1 1).trans rfl
      have y2 : W1.cell? ⟨w.heap.size, 2, none⟩ = some (.slice Ap n0 cp) := (blk_cell xb1 2).trans rfl
      have y3 : W1.cell? ⟨w.heap.size, 3, none⟩ = some (.slice A1 n1 c1) := (blk_cell xb1 3).trans rfl
      have y4 : W1.cell? ⟨w.heap.size, 4, none⟩ = some (.slice A2 n2 c2) := (blk_cell xb1 4).trans rfl
      have hf1 := hfd.out W1 hb1
      obtain ⟨fv, hfv⟩ : ∃ fv, fv = findV m.l x := ⟨_, rfl⟩
      have hfd2 : decide (0 ≤ fv) = decide (x ∈ m.l) := by rw [hfv]; exact findV_neg
      rw [← hfv] at hf1
      have H1 := Aside0.mk (And.intro hs1 (And.intro hb1 (And.intro xb1 xr1)))
      replace hfv := Aside0.mk hfv
      clear hW1 hs1 hb1 xb1 xr1
      rw [decide_eq_false hm.out] at hfd2
      go_upto_region 4 with (go_at_call 51; refine hf1.mono ?_; rintro e W2 ⟨rfl, hB2⟩; have xb2 := (hB2.block _ (blk_lt H1.out.2.2.1)).trans H1.out.2.2.1; have xr2 := (hB2.block _ (blk_lt H1.out.2.2.2)).trans H1.out.2.2.2; replace hB2 := Aside0.mk hB2; have z0 : W2.cell? ⟨w.heap.size, 0, none⟩ = some (.int .i64 m.policy) := (blk_cell xb2 0).trans rfl; have z1 : W2.cell? ⟨w.heap.size, 1, none⟩ = some (.int .u64 m.lot) := (blk_cell xb2 1).trans rfl; have z2 : W2.cell? ⟨w.heap.size, 2, none⟩ = some (.slice Ap n0 cp) := (blk_cell xb2 2).trans rfl; have z3 : W2.cell? ⟨w.heap.size, 3, none⟩ = some (.slice A1 n1 c1) := (blk_cell xb2 3).trans rfl; have z4 : W2.cell? ⟨w.heap.size, 4, none⟩ = some (.slice A2 n2 c2) := (blk_cell xb2 4).trans rfl; clear y0 y1 y2 y3 y4)
      have u0 : W2.cell? ⟨w.heap.size + 1, 0, none⟩ = some (.int .i64 0) := (blk_cell xr2 0).trans rfl
      have u1 : W2.cell? ⟨w.heap.size + 1, 1, none⟩ = some (.int .u64 0) := (blk_cell xr2 1).trans rfl
      have u2 : W2.cell? ⟨w.heap.size + 1, 2, none⟩ = some (.slice none 0 0) := (blk_cell xr2 2).trans rfl
      have u3 : W2.cell? ⟨w.heap.size + 1, 3, none⟩ = some (.slice none 0 0) := (blk_cell xr2 3).trans rfl
      have u4 : W2.cell? ⟨w.heap.size + 1, 4, none⟩ = some (.slice none 0 0) := (blk_cell xr2 4).trans rfl
      have f0 := blk_frozen xr2 0
      have f1 := blk_frozen xr2 1
      have f2 := blk_frozen xr2 2
      have f3 := blk_frozen xr2 3
      have f4 := blk_frozen xr2 4
      replace xb2 := Aside0.mk xb2
      replace xr2 := Aside0.mk xr2
      go_wp2
      (try simp only [Exit.inBlock, Exit.then])
      have o5 := five_only W2 (w.heap.size + 1) (.int .i64 m.policy) (.int .u64 m.lot) (.slice Ap n0 cp) (.slice A1 n1 c1) (.slice A2 n2 c2)
      have x5 := five_blk xr2.out (.int .i64 m.policy) (.int .u64 m.lot) (.slice Ap n0 cp) (.slice A1 n1 c1) (.slice A2 n2 c2)
      unfold five at o5 x5
      refine bodyPost_ret (results_ct rfl _ _ (w.heap.size + 1) 80 #[.int .i64 m.policy, .int .u64 m.lot, .slice Ap n0 cp, .slice A1 n1 c1, .slice A2 n2 c2] (0, 0) _ rfl x5 Try.underlying80 rfl (by kernel_rfl)) rfl ?_
      have hbb : Below w.heap.size w W2 := H1.out.2.1.trans (hB2.out.mono (by have := H1.out.1; omega))
      have hb5 := below_only hbb o5 hbb.size (fun i hi e => by omega)
      obtain ⟨g2, g3, g4, g5, gw, gb, gl, gn0, gn1, gn2⟩ := HH.out
      exact ⟨_, rfl, ⟨Ap, cp, _, _, by rw [gn0], g2, g3, Kd.R_mono (Kd.R_below g4 hb5) (fun k hk => .inl hk), Kd.R_mono (Kd.R_below g5 hb5) (fun k hk => .inl hk)⟩, hb5⟩
    · simp only [putE, wakeM, putL, hm, hf, if_false, or_self]
      replace hf := Aside0.mk hf
      have hg1 : decide (65536 ≤ n1) = false := decide_eq_false (by have := HH.out.2.2.2.2.2.2.2.2.1; have := hf.out; omega)
      have hg2 : decide ((65536 : Int) ≤ (n1 : Int)) = false := decide_eq_false (by have := HH.out.2.2.2.2.2.2.2.2.1; have := hf.out; omega)
      replace hm := Aside0.mk hm
      go_enter Try.func56, Try.ntmps56
      go_upto_region 1 with fail
      obtain ⟨W1, hW1⟩ : ∃ W1, W1 = (w.alloc (Obj.cells #[.int .i64 m.policy, .int .u64 m.lot, .slice Ap n0 cp, .slice A1 n1 c1, .slice A2 n2 c2] 80)).alloc (Obj.cells #[.int .i64 0, .int .u64 0, .slice none 0 0, .slice none 0 0, .slice none 0 0] 80) := ⟨_, rfl⟩
      have hs1 : W1.heap.size = w.heap.size + 2 := by rw [hW1]; simp
      have hb1 : Below w.heap.size w W1 := by rw [hW1]; exact ((Below.refl _ _).alloc (Nat.le_refl _) _).alloc (by simp) _
      have xb1 : W1.heap[w.heap.size]? = some (.cells #[.int .i64 m.policy, .int .u64 m.lot, .slice Ap n0 cp, .slice A1 n1 c1, .slice A2 n2 c2] 80 (0, 0)) := by
        rw [hW1]; exact blk_alloc (heap_alloc_new w _) _
      have xr1 : W1.heap[w.heap.size + 1]? = some (.cells #[.int .i64 0, .int .u64 0, .slice none 0 0, .slice none 0 0, .slice none 0 0] 80 (0, 0)) := by
        have := heap_alloc_new (w.alloc (Obj.cells #[.int .i64 m.policy, .int .u64 m.lot, .slice Ap n0 cp, .slice A1 n1 c1, .slice A2 n2 c2] 80)) (Obj.cells #[.int .i64 0, .int .u64 0, .slice none 0 0, .slice none 0 0, .slice none 0 0] 80)
        rw [hW1]; simpa using this
      rw [← hW1]
      have y0 : W1.cell? ⟨w.heap.size, 0, none⟩ = some (.int .i64 m.policy) := (blk_cell xb1 0).trans rfl
      have y1 : W1.cell? ⟨w.heap.size, 1, none⟩ = some (.int .u64 m.lot) := (blk_cell xb1 1).trans rfl
      have y2 : W1.cell? ⟨w.heap.size, 2, none⟩ = some (.slice Ap n0 cp) := (blk_cell xb1 2).trans rfl
      have y3 : W1.cell? ⟨w.heap.size, 3, none⟩ = some (.slice A1 n1 c1) := (blk_cell xb1 3).trans rfl
      have y4 : W1.cell? ⟨w.heap.size, 4, none⟩ = some (.slice A2 n2 c2) := (blk_cell xb1 4).trans rfl
      have hf1 := hfd.out W1 hb1
      obtain ⟨fv, hfv⟩ : ∃ fv, fv = findV m.l x := ⟨_, rfl⟩
      have hfd2 : decide (0 ≤ fv) = decide (x ∈ m.l) := by rw [hfv]; exact findV_neg
      rw [← hfv] at hf1
      have H1 := Aside0.mk (And.intro hs1 (And.intro hb1 (And.intro xb1 xr1)))
      replace hfv := Aside0.mk hfv
      clear hW1 hs1 hb1 xb1 xr1
      rw [decide_eq_false hm.out] at hfd2
      go_upto_region 5 with (go_at_call 51; refine hf1.mono ?_; rintro e W2 ⟨rfl, hB2⟩; have xb2 := (hB2.block _ (blk_lt H1.out.2.2.1)).trans H1.out.2.2.1; have xr2 := (hB2.block _ (blk_lt H1.out.2.2.2)).trans H1.out.2.2.2; replace hB2 := Aside0.mk hB2; have z0 : W2.cell? ⟨w.heap.size, 0, none⟩ = some (.int .i64 m.policy) := (blk_cell xb2 0).trans rfl; have z1 : W2.cell? ⟨w.heap.size, 1, none⟩ = some (.int .u64 m.lot) := (blk_cell xb2 1).trans rfl; have z2 : W2.cell? ⟨w.heap.size, 2, none⟩ = some (.slice Ap n0 cp) := (blk_cell xb2 2).trans rfl; have z3 : W2.cell? ⟨w.heap.size, 3, none⟩ = some (.slice A1 n1 c1) := (blk_cell xb2 3).trans rfl; have z4 : W2.cell? ⟨w.heap.size, 4, none⟩ = some (.slice A2 n2 c2) := (blk_cell xb2 4).trans rfl; clear y0 y1 y2 y3 y4)
      obtain ⟨g2, g3, g4, g5, gw, gb, gl, gn0, gn1, gn2⟩ := HH.out
      have hbb : Below w.heap.size w W2 := H1.out.2.1.trans (hB2.out.mono (by have := H1.out.1; omega))
      have s2 : w.heap.size + 2 ≤ W2.heap.size := by have := hB2.out.size; have := H1.out.1; omega
      have r4 := Kd.R_below g4 hbb
      have C4 : (Kd.int .i64).C (W2.alloc (Obj.cells #[] 3)) A1 n1 m.l := by
        have := (Kd.R_reads' (Kd.R_alloc r4 (Obj.cells #[] 3))).2.2
        rw [← gn1] at this; exact this
      have HO2 := R_lit0 W2 base (fun k => w.heap.size + 2 ≤ k) (by omega) s2
      have sA : (W2.alloc (Obj.cells #[] 3)).heap.size = W2.heap.size + 1 := by simp
      have HN := Aside0.mk (And.intro hbb (And.intro s2 (And.intro C4 (And.intro HO2 (And.intro sA (And.intro gb (And.intro gl gn1)))))))
      have bA : Below W2.heap.size W2 (W2.alloc (Obj.cells #[] 3)) := (Below.refl _ _).alloc (Nat.le_refl _) _
      have xbA : (W2.alloc (Obj.cells #[] 3)).heap[w.heap.size]? = _ := (bA.block _ (blk_lt xb2)).trans xb2
      have z3a : (W2.alloc (Obj.cells #[] 3)).cell? ⟨w.heap.size, 3, none⟩ = some (.slice A1 n1 c1) := (blk_cell xbA 3).trans rfl
      replace bA := Aside0.mk bA
      replace xbA := Aside0.mk xbA
      replace xb2 := Aside0.mk xb2
      replace xr2 := Aside0.mk xr2
      clear g2 g3 g4 g5 gw gb gl gn0 gn1 gn2 hbb s2 r4 C4 HO2 sA
      go_upto_region 6 with (first
        | ((with_reducible refine gate_builtin (b := .append) (xs := #[.tmp 16, .tmp 18]) rfl ?_); at_builtin; refine Kd.R_append_row (Value.int .i64) (0 : Int) (h1 := fun _ => rfl) (w0 := W2.alloc (Obj.cells #[] 3)) base rfl (.tmp 16) (.tmp 18) 22 3 (.int .i64 0) 8 rfl undSI info3 rfl (by decide) (.slice (some ⟨W2.heap.size, 0, none⟩) 0 0) [] m.l A1 n1 c1 (fun k => w.heap.size + 2 ≤ k) rfl rfl (fun k hk => by have := HN.out.2.1; have := HN.out.2.2.2.2.1; omega) HN.out.2.2.2.1 HN.out.2.2.1 (Below.refl _ _) (by have := HN.out.2.1; have := HN.out.2.2.2.2.1; have := HN.out.2.2.2.2.2.1; omega) (by have := HN.out.2.2.2.2.2.2.1; have := HN.out.2.2.2.2.2.2.2; simp; omega) ?_; intro v3 W3 hR3 hB3 hg3 hat3; replace hR3 := Aside0.mk hR3; replace hg3 := Aside0.mk hg3; clear hat3 hB3)
        | ((with_reducible refine gate_builtin (b := .append) (xs := #[.tmp 19, .tmp 21]) rfl ?_); at_builtin; refine Kd.R_append (Kd.int .i64) (w0 := W3) base rfl (.tmp 19) (.tmp 21) 22 3 (.int .i64 0) 8 rfl undSI info3 rfl (by decide) (by decide) v3 ([] ++ m.l) x [.int .i64 x] (fun k => w.heap.size + 2 ≤ k) (fun _ => False) rfl rfl rfl (fun _ h => h.elim) (fun k hk => by have := HN.out.2.1; have := HN.out.2.2.2.2.1; have := hg3.out.size; omega) hR3.out (Below.refl _ _) (by have := HN.out.2.1; have := HN.out.2.2.2.2.1; have := HN.out.2.2.2.2.2.1; have := hg3.out.size; omega) (by have := HN.out.2.2.2.2.2.2.1; have := HN.out.2.2.2.2.2.2.2; simp; omega) ?_; intro v4 W4 hR4 hB4 hg4 hat4; obtain ⟨A4, d4, e4, _⟩ := Kd.R_reads hR4; obtain ⟨n4, hn4⟩ : ∃ n4 : Nat, n4 = ([] ++ m.l ++ [x]).length := ⟨_, rfl⟩; rw [← hn4] at e4; subst e4; have x4 := Aside0.mk ((hg4.block _ (by have := hg3.out.size; have := blk_lt xbA.out; omega) (fun e => by have := hR3.out.1 _ e.symm; have := HN.out.2.1; omega)).trans ((hg3.out.block _ (blk_lt xbA.out) (by simp [Value.ownBlock]; have := blk_lt xb2.out; omega)).trans xbA.out)); have z34 : W4.cell? ⟨w.heap.size, 3, none⟩ = some (.slice A1 n1 c1) := (blk_cell x4.out 3).trans rfl; have f34 := blk_frozen x4.out 3; replace hn4 := Aside0.mk hn4; replace hR4 := Aside0.mk hR4; replace hg4 := Aside0.mk hg4; clear hat4 hB4))
      have hO4 : Only (fun k => w.heap.size + 2 ≤ k) W2 W4 := by
        have o1 : Only (fun k => w.heap.size + 2 ≤ k) W2 (W2.alloc (Obj.cells #[] 3)) := Only.ofBelowAt (bA.out.mono HN.out.2.1)
        have o2 := (Only.ofGrown hg3.out).mono (G := fun k => w.heap.size + 2 ≤ k) (fun k _ e => by simp [Value.ownBlock] at e; have := HN.out.2.1; omega)
        have o3 := (Only.ofGrown hg4.out).mono (G := fun k => w.heap.size + 2 ≤ k) (fun k _ e => hR3.out.1 _ e.symm)
        exact (o1.trans o2).trans o3
      have r4 : W4.heap[w.heap.size + 1]? = some (.cells #[.int .i64 0, .int .u64 0, .slice none 0 0, .slice none 0 0, .slice none 0 0] 80 (0, 0)) := (hO4.block _ (blk_lt xr2.out) (by omega)).trans xr2.out
      have hb4 : Below w.heap.size w W4 := below_only HN.out.1 hO4 HN.out.1.size (fun i hi h => by omega)
      obtain ⟨W5, hW5⟩ : ∃ W5, W5 = W4.setCell ⟨w.heap.size, 3, none⟩ (.slice A4 n4 d4) := ⟨_, rfl⟩
      have o5 : Only (fun k => k = w.heap.size) W4 W5 := by rw [hW5]; exact (Only.refl (fun k => k = w.heap.size) W4).setCell (fun _ => rfl) _
      have x5 : W5.heap[w.heap.size]? = some (.cells #[.int .i64 m.policy, .int .u64 m.lot, .slice Ap n0 cp, .slice A4 n4 d4, .slice A2 n2 c2] 80 (0, 0)) := by rw [hW5]; exact blk_put x4.out 3 _ rfl
      have r5 : W5.heap[w.heap.size + 1]? = _ := (o5.block _ (blk_lt r4) (by omega)).trans r4
      rw [← hW5]
      have hb5 : Below w.heap.size w W5 := below_only hb4 o5 hb4.size (fun i hi h => by omega)
      have hR5 := R_only hR4.out o5 (fun k hk e => by omega)
      have z0 : W5.cell? ⟨w.heap.size, 0, none⟩ = some (.int .i64 m.policy) := (blk_cell x5 0).trans rfl
      have z1 : W5.cell? ⟨w.heap.size, 1, none⟩ = some (.int .u64 m.lot) := (blk_cell x5 1).trans rfl
      have z2 : W5.cell? ⟨w.heap.size, 2, none⟩ = some (.slice Ap n0 cp) := (blk_cell x5 2).trans rfl
      have z3 : W5.cell? ⟨w.heap.size, 3, none⟩ = some (.slice A4 n4 d4) := (blk_cell x5 3).trans rfl
      have z4 : W5.cell? ⟨w.heap.size, 4, none⟩ = some (.slice A2 n2 c2) := (blk_cell x5 4).trans rfl
      have u0 : W5.cell? ⟨w.heap.size + 1, 0, none⟩ = some (.int .i64 0) := (blk_cell r5 0).trans rfl
      have u1 : W5.cell? ⟨w.heap.size + 1, 1, none⟩ = some (.int .u64 0) := (blk_cell r5 1).trans rfl
      have u2 : W5.cell? ⟨w.heap.size + 1, 2, none⟩ = some (.slice none 0 0) := (blk_cell r5 2).trans rfl
      have u3 : W5.cell? ⟨w.heap.size + 1, 3, none⟩ = some (.slice none 0 0) := (blk_cell r5 3).trans rfl
      have u4 : W5.cell? ⟨w.heap.size + 1, 4, none⟩ = some (.slice none 0 0) := (blk_cell r5 4).trans rfl
      have f0 := blk_frozen r5 0
      have f1 := blk_frozen r5 1
      have f2 := blk_frozen r5 2
      have f3 := blk_frozen r5 3
      have f4 := blk_frozen r5 4
      replace r5 := Aside0.mk r5
      replace hb5 := Aside0.mk hb5
      replace hR5 := Aside0.mk hR5
      clear hW5 o5 x5 r4 hb4 hO4 z34 f34 x4 hg4 hg3 hR4 hR3 xbA bA z3a
      go_wp2
      (try simp only [Exit.inBlock, Exit.then])
      have o6 := five_only W5 (w.heap.size + 1) (.int .i64 m.policy) (.int .u64 m.lot) (.slice Ap n0 cp) (.slice A4 n4 d4) (.slice A2 n2 c2)
      have x6 := five_blk r5.out (.int .i64 m.policy) (.int .u64 m.lot) (.slice Ap n0 cp) (.slice A4 n4 d4) (.slice A2 n2 c2)
      unfold five at o6 x6
      refine bodyPost_ret (results_ct rfl _ _ (w.heap.size + 1) 80 #[.int .i64 m.policy, .int .u64 m.lot, .slice Ap n0 cp, .slice A4 n4 d4, .slice A2 n2 c2] (0, 0) _ rfl x6 Try.underlying80 rfl (by kernel_rfl)) rfl ?_
      have hb6 := below_only hb5.out o6 hb5.out.size (fun i hi e => by omega)
      obtain ⟨g2, g3, g4, g5, gw, gb, gl, gn0, gn1, gn2⟩ := HH.out
      refine ⟨_, rfl, ⟨Ap, cp, _, _, by rw [gn0], g2, g3, ?_, Kd.R_mono (Kd.R_below g5 hb6) (fun k hk => .inl hk)⟩, hb6⟩
      exact Kd.R_mono (R_only hR5.out o6 (fun k hk e => by omega)) (fun k hk => .inr (by omega))
end Go.Proofs.Ytljckmiphkoipaa
