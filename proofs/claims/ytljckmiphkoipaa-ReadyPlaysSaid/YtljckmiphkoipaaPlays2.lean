/-
  ReadyPlays: the walk where there may be no such ready ones; the whole.
-/
import Derived.Test.YtljckmiphkoipaaPlays1
namespace Go.Proofs.Ytljckmiphkoipaa
set_option linter.unusedVariables false
set_option linter.unusedSimpArgs false
open Go.RowKit Go.MapKept Go.Maps Go.Proofs.YtljckmiphkoipaaW.PrintWords Go.Proofs.YtljckmiphkoipaaW.PrintLast Go.Proofs.YtljckmiphkoipaaW.PrintMore


set_option maxRecDepth 100000 in
set_option maxHeartbeats 16000000 in
theorem readyPlays_bad (pol seed ee : Int) (vp vs : Value) (ps : List Int) (zs : List (Int × Int)) (w : World) (hbad : (pol < 0 ∨ 4 < pol) ∨ 65536 < ps.length) (hee : ee = if pol < 0 ∨ 4 < pol then 220 else 3) (hseed : in64 seed) (hvp : IntsArg w vp ps) (hzs : ActsArg w vs zs) :
    Calls Try.prog 8 #[.agg #[.int .i64 pol, .int .u64 seed, vp], vs] w fun e w' => e = .returned (.bool true) ∧ Below w.heap.size w w' := by
  have hnew : ∀ (u : World) (v : Value), IntsAt u v ps → Calls Try.prog 12 #[.int .i64 pol, .int .u64 seed, v] u fun e w' => e = .returned (.tuple #[.pointer none, .int .i64 ee]) ∧ w' = u := by
    intro u v hv
    by_cases hp : pol < 0 ∨ 4 < pol
    · rw [hee, if_pos hp]
      exact new_policy u pol seed v hp
    · rw [hee, if_neg hp]
      exact new_many u pol seed v ps hv (by omega) (by omega)
  have hrn : ∀ (u : World) (Ap : Option Addr) (cp : Nat), Calls Try.prog 49 #[.int .i64 pol, .int .u64 seed, .slice Ap ps.length cp] u fun e w' => e = .returned (.tuple #[.agg #[.int .i64 0, .int .u64 0, .slice none 0 0, .slice none 0 0, .slice none 0 0], .int .i64 ee]) ∧ Below u.heap.size u w' := by
    intro u Ap cp
    rw [hee]
    exact rfnew_bad u pol seed Ap cp ps.length hbad
  have he0 : (ee == 0) = false := beq_eq_false_iff_ne.2 (by rw [hee]; split <;> omega)
  have hee' : (ee != ee) = false := by simp
  have hnew := Aside0.mk hnew
  have hrn := Aside0.mk hrn
  clear hbad hee
  obtain ⟨Ap, cp, rfl, hcp, hCp⟩ := hvp.shape
  obtain ⟨As, cs, hvs⟩ := hzs.shape
  have hcl := hzs.cells As cs hvs
  subst hvs
  obtain ⟨np, hnp⟩ : ∃ np : Nat, np = ps.length := ⟨_, rfl⟩
  obtain ⟨nz, hnz⟩ : ∃ nz : Nat, nz = zs.length := ⟨_, rfl⟩
  rw [← hnz] at hcl ⊢
  rw [← hnp] at hcp hCp ⊢
  have HZ := Aside0.mk (And.intro hzs.good (And.intro hzs.few (And.intro hnz (And.intro hcl (And.intro hnp (And.intro hcp (And.intro hCp (And.intro hvp.few hseed))))))))
  clear hzs hvp hnp hnz hcl hcp hCp hseed
  go_enter Try.func8, Try.ntmps8
  go_upto_region 1 with fail
  obtain ⟨W0, hW0⟩ : ∃ W0, W0 = w.alloc (Obj.cells #[.int .i64 pol, .int .u64 seed, .slice Ap np cp] 36) := ⟨_, rfl⟩
  have b0 : Below w.heap.size w W0 := by rw [hW0]; exact (Below.refl _ _).alloc (Nat.le_refl _) _
  have x0 : W0.heap[w.heap.size]? = some (.cells #[.int .i64 pol, .int .u64 seed, .slice Ap np cp] 36 (0, 0)) := by rw [hW0]; exact heap_alloc_new w _
  have s0 : W0.heap.size = w.heap.size + 1 := by rw [hW0]; simp
  rw [← hW0]
  clear hW0
  have bA : Below W0.heap.size W0 (W0.alloc (Obj.cells #[] 3)) := (Below.refl _ _).alloc (Nat.le_refl _) _
  have sA : (W0.alloc (Obj.cells #[] 3)).heap.size = W0.heap.size + 1 := by simp
  have xA : (W0.alloc (Obj.cells #[] 3)).heap[w.heap.size]? = _ := (bA.block _ (blk_lt x0)).trans x0
  have z2 : (W0.alloc (Obj.cells #[] 3)).cell? ⟨w.heap.size, 2, none⟩ = some (.slice Ap np cp) := (blk_cell xA 2).trans rfl
  have bwA : Below w.heap.size w (W0.alloc (Obj.cells #[] 3)) := b0.trans (bA.mono (by omega))
  have CA1 : (Kd.int .i64).C (W0.alloc (Obj.cells #[] 3)) Ap np ps := Kd.C_below HZ.out.2.2.2.2.2.2.1 bwA
  have HO2 := R_lit0 W0 (w.heap.size + 1) (fun k => w.heap.size + 1 ≤ k) (by omega) (by omega)
  have HN := Aside0.mk (And.intro b0 (And.intro s0 (And.intro bA (And.intro sA (And.intro xA (And.intro bwA (And.intro CA1 HO2)))))))
  clear b0 x0 s0 bA sA xA bwA CA1 HO2
  go_upto_region 2 with ((with_reducible refine gate_builtin (b := .append) (xs := #[.tmp 22, .tmp 24]) rfl ?_); at_builtin; refine Kd.R_append_row (Value.int .i64) (0 : Int) (h1 := fun _ => rfl) (w0 := W0.alloc (Obj.cells #[] 3)) (w.heap.size + 1) rfl (.tmp 22) (.tmp 24) 22 3 (.int .i64 0) 8 rfl undSI info3 rfl (by decide) (.slice (some ⟨W0.heap.size, 0, none⟩) 0 0) [] ps Ap np cp (fun k => w.heap.size + 1 ≤ k) rfl rfl (fun k hk => by have := HN.out.2.1; have := HN.out.2.2.2.1; omega) HN.out.2.2.2.2.2.2.2 HN.out.2.2.2.2.2.2.1 (Below.refl _ _) (by have := HN.out.2.1; have := HN.out.2.2.2.1; omega) (by have := HZ.out.2.2.2.2.1; have := HZ.out.2.2.2.2.2.2.2.1; simp; omega) ?_; intro v3 W3 hR3 hB3 hg3 hat3; rw [List.nil_append] at hR3; obtain ⟨A3, c3, e3, hc3, _⟩ := Kd.R_reads hR3; rw [← HZ.out.2.2.2.2.1] at e3; subst e3; have x3 := ((hg3.block _ (blk_lt HN.out.2.2.2.2.1) (by simp [Value.ownBlock]; have := HN.out.2.1; omega)).trans HN.out.2.2.2.2.1); have b3 : Below w.heap.size w W3 := below_only HN.out.2.2.2.2.2.1 (Only.ofGrown hg3) HN.out.2.2.2.2.2.1.size (fun k hk e => by simp [Value.ownBlock] at e; have := HN.out.2.1; omega); clear hat3 hB3 hg3 z2)
  have s3 : w.heap.size + 1 ≤ W3.heap.size := blk_lt x3
  have y0 : W3.cell? ⟨w.heap.size, 0, none⟩ = some (.int .i64 pol) := (blk_cell x3 0).trans rfl
  have y1 : W3.cell? ⟨w.heap.size, 1, none⟩ = some (.int .u64 seed) := (blk_cell x3 1).trans rfl
  have hc := hnew.out W3 (.slice A3 np c3) (IntsAt.ofR hR3)
  have hc3' : np ≤ c3 := by have := HZ.out.2.2.2.2.1; omega
  replace hc3 := Aside0.mk hc3'
  replace hR3 := Aside0.mk hR3
  replace x3 := Aside0.mk x3
  replace b3 := Aside0.mk b3
  replace s3 := Aside0.mk s3
  clear hc3'
  go_upto_region 3 with (go_at_call 12; refine hc.mono ?_; rintro e W3 ⟨rfl, rfl⟩)
  have y2 : W3.cell? ⟨w.heap.size, 2, none⟩ = some (.slice Ap np cp) := (blk_cell x3.out 2).trans rfl
  clear hc
  have hc := hrn.out W3 Ap cp
  rw [← HZ.out.2.2.2.2.1] at hc
  go_upto_region 4 with (go_at_call 49; refine hc.mono ?_; rintro e W5 ⟨rfl, hB5⟩; replace hB5 := Aside0.mk hB5)
  clear y0 y1 y2 hc
  obtain ⟨W6, hW6⟩ : ∃ W6, W6 = W5.alloc (Obj.cells #[.int .i64 0, .int .u64 0, .slice none 0 0, .slice none 0 0, .slice none 0 0] 80) := ⟨_, rfl⟩
  have b6 : Below W5.heap.size W5 W6 := by rw [hW6]; exact (Below.refl _ _).alloc (Nat.le_refl _) _
  have b36 : Below W3.heap.size W3 W6 := hB5.out.trans (b6.mono hB5.out.size)
  have x6 : W6.heap[w.heap.size]? = _ := (b36.block _ (blk_lt x3.out)).trans x3.out
  rw [← hW6]
  have hR6 := Kd.R_below hR3.out b36
  have C6 : (Kd.int .i64).C W6 Ap np ps := Kd.C_below HZ.out.2.2.2.2.2.2.1 (b3.out.trans (b36.mono b3.out.size))
  have HR := Aside0.mk (And.intro hR6 (And.intro C6 (And.intro b36.size (And.intro (Kd.R_lt hR3.out) (b3.out.trans (b36.mono b3.out.size))))))
  replace x6 := Aside0.mk x6
  clear hB5 hW6 b6 b36 hR6 C6 hR3
  have hc := awake_calls W6
  go_upto_region 6 with (first
    | (go_at_call 13; refine hc.mono ?_; rintro e W7 ⟨rfl, hB7⟩; have x7 := (hB7.block _ (blk_lt x6.out)).trans x6.out; have y2 : W7.cell? ⟨w.heap.size, 2, none⟩ = some (.slice Ap np cp) := (blk_cell x7 2).trans rfl; replace x7 := Aside0.mk x7; replace hB7 := Aside0.mk hB7)
    | (go_at_call 20; have hs := same_C (c1 := c3) (c2 := cp) (Kd.R_reads' (Kd.R_below HR.out.1 hB7.out)).2.2 (by have := hc3.out; have := HZ.out.2.2.2.2.1; omega) (by rw [← HZ.out.2.2.2.2.1]; exact Kd.C_below HR.out.2.1 hB7.out) (by have := HZ.out.2.2.2.2.1; have := HZ.out.2.2.2.2.2.1; omega) (by have := HZ.out.2.2.2.2.2.2.2.1; omega); rw [← HZ.out.2.2.2.2.1] at hs; refine hs.mono ?_; rintro e W8 ⟨rfl, hB8⟩; replace hB8 := Aside0.mk hB8; clear hs))
  have hR8 := Kd.R_below (Kd.R_below HR.out.1 hB7.out) hB8.out
  have ho8 : W8.ownsRow (w.heap.size + 1) 3 1 (.slice A3 np c3) ps.length (encs (Value.int .i64) ps) := Kd.own_of_R hR8
  have b8 : Below w.heap.size w W8 := (HR.out.2.2.2.2.trans (hB7.out.mono HR.out.2.2.2.2.size)).trans (hB8.out.mono (Nat.le_trans HR.out.2.2.2.2.size hB7.out.size))
  obtain ⟨gb, hgb⟩ : ∃ gb : Nat, 0 < np → A3 = some ⟨gb, 0, none⟩ ∧ w.heap.size + 1 ≤ gb ∧ gb < W3.heap.size ∧ ∃ cs : Array Value, W8.heap[gb]? = some (.cells cs 3 (0, 0)) ∧ np ≤ cs.size := by
    rcases ho8.2 with ⟨h, h0⟩ | ⟨gb, cap, cur, h, hg, hb, hn, hcap, hsz, ht⟩
    · exact ⟨0, fun h => by have := HZ.out.2.2.2.2.1; omega⟩
    · injection h with h1 h2 h3
      refine ⟨gb, fun hnp => ⟨h1, hg, ?_, cur, hb, by have := HZ.out.2.2.2.2.1; simp at hsz; omega⟩⟩
      exact HR.out.2.2.2.1 gb (by rw [h1]; rfl)
  have HG := Aside0.mk (And.intro b8 hgb)
  clear hR8 ho8 b8 hgb y2 hc
  go_wp2
  go_loopg [68] (np + 1) (fun kq v68 w' => ∃ (i : Int), v68 = .int .i64 i ∧ Aside0 (0 ≤ i ∧ i ≤ np ∧ (np - i).toNat < kq) ∧ Aside0 (Only (fun k => 0 < np ∧ k = gb) W8 w') ∧ Aside0 (0 < np → ∃ cs : Array Value, w'.heap[gb]? = some (.cells cs 3 (0, 0)) ∧ np ≤ cs.size))
  case atStart => exact ⟨0, rfl, ⟨by omega, by omega, by omega⟩, ⟨Only.refl _ _⟩, ⟨fun h => (HG.out.2 h).2.2.2⟩⟩
  case round =>
    obtain ⟨i, rfl, hi, ho, hcs⟩ := hrel
    by_cases hin : i < np
    · have hlt : decide (i < (np : Int)) = true := decide_eq_true hin
      have hpos : 0 < np := by have := hi.out; omega
      have p1 : 0 ≤ i := hi.out.1
      obtain ⟨eA, g1, g2, _⟩ := HG.out.2 hpos
      obtain ⟨cz, hcz, hczs⟩ := hcs.out hpos
      subst eA
      have hcell : ∃ u, wr.cell? ⟨gb, i.toNat, none⟩ = some u := ⟨_, (blk_cell hcz i.toNat).trans (Array.getElem?_eq_getElem (by omega))⟩
      obtain ⟨u, hcell⟩ := hcell
      have hfz := blk_frozen hcz i.toNat
      have hiw : wrap64 (i + 1) = i + 1 := w64 _ (by have := HZ.out.2.2.2.2.2.2.2.1; have := HZ.out.2.2.2.2.1; omega)
      have HJ := Aside0.mk (And.intro hin (And.intro hcz (And.intro hczs (And.intro hpos (And.intro g1 g2)))))
      clear hcz hczs hpos g1 g2
      replace p1 := eq_true p1
      replace hin := eq_true hin
      go_wp2
      go_roundg (np - i).toNat
      case measure => exact hi.out.2.2
      case rel =>
        have o1 : Only (fun k => 0 < np ∧ k = gb) wr (wr.setCell ⟨gb, i.toNat, none⟩ (.int .i64 99)) := (Only.refl (fun k => 0 < np ∧ k = gb) wr).setCell (fun _ => ⟨HJ.out.2.2.2.1, rfl⟩) _
        refine ⟨i + 1, by simp [hiw], ⟨by have := hi.out; omega, by have := HJ.out.1; omega, by have := HJ.out.1; omega⟩, ⟨ho.out.trans o1⟩, ⟨fun _ => ?_⟩⟩
        obtain ⟨cs', h1, h2⟩ : ∃ cs' : Array Value, (wr.setCell ⟨gb, i.toNat, none⟩ (.int .i64 99)).heap[gb]? = some (.cells cs' 3 (0, 0)) ∧ np ≤ cs'.size := ⟨_, blk_put HJ.out.2.1 i.toNat _ rfl, by simp; exact HJ.out.2.2.1⟩
        exact ⟨cs', h1, h2⟩
    · have hlt : decide (i < (np : Int)) = false := decide_eq_false hin
      have b9 : Below w.heap.size w wr := below_only HG.out.1 ho.out HG.out.1.size (fun k hk hf => by obtain ⟨h1, h2⟩ := hf; have := (HG.out.2 h1).2.1; omega)
      replace b9 := Aside0.mk b9
      clear ho hcs
      go_wp2
      go_loopg [77] 2 (fun kq v77 w' => ∃ i : Int, v77 = .int .i64 i ∧ Aside0 (i = 0) ∧ w' = wr)
      case atStart => exact ⟨0, rfl, ⟨rfl⟩, rfl⟩
      case round =>
        obtain ⟨i, rfl, hi0, rfl⟩ := hrel
        by_cases hin2 : i < nz
        · have hlt2 : decide (i < (nz : Int)) = true := decide_eq_true hin2
          have p1 : 0 ≤ i := by have := hi0.out; omega
          obtain ⟨ad, eA, hx1, hx2⟩ := HZ.out.2.2.2.1 i p1 hin2
          cases eA
          obtain ⟨a, haa⟩ : ∃ a, a = zs.getD i.toNat (0, 0) := ⟨_, rfl⟩
          rw [← haa] at hx1 hx2
          replace hx1 := pw_cell_below b9.out hx1
          replace hx2 := pw_cell_below b9.out hx2
          obtain ⟨a1, a2⟩ := a
          simp only at hx1 hx2
          replace haa := Aside0.mk haa
          replace p1 := eq_true p1
          replace hin2 := eq_true hin2
          go_wp2
          go_ret
          exact ⟨rfl, b9.out.trans (((Below.refl _ _).alloc (Nat.le_refl _) _ : Below _ _ _).mono b9.out.size)⟩
        · have hlt2 : decide (i < (nz : Int)) = false := decide_eq_false hin2
          go_wp2
          go_ret
          exact ⟨rfl, b9.out⟩

theorem readyPlays_walk (pol seed : Int) (vp : Value) (ps : List Int) (vs : Value) (zs : List (Int × Int)) (w : World) (wp : (Lit.int .i64 pol).wf = true) (ws : (Lit.int .u64 seed).wf = true) (hp : IntsArg w vp ps) (hz : ActsArg w vs zs) :
    Calls Try.prog 8 #[.agg #[.int .i64 pol, .int .u64 seed, vp], vs] w fun e w' => e = .returned (.bool true) ∧ Below w.heap.size w w' := by
  have hseed : in64 seed := by
    simp [Lit.wf, IntKind.min, IntKind.max, IntKind.bits, IntKind.signed] at ws
    unfold in64; omega
  by_cases hpol : 0 ≤ pol ∧ pol ≤ 4
  · by_cases hl : ps.length ≤ 65536
    · exact readyPlays_good pol seed vp vs ps zs w hpol hseed hp hl hz
    · exact readyPlays_bad pol seed _ vp vs ps zs w (.inr (by omega)) rfl hseed hp hz
  · exact readyPlays_bad pol seed _ vp vs ps zs w (.inl (by omega)) rfl hseed hp hz
end Go.Proofs.Ytljckmiphkoipaa
