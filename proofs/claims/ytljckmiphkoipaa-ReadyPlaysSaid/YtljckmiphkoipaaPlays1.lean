/-
  ReadyPlays: the walk.
-/
import Derived.Test.YtljckmiphkoipaaPlays0
import Derived.Test.YtljckmiphkoipaaArgs2
namespace Go.Proofs.Ytljckmiphkoipaa
set_option linter.unusedVariables false
set_option linter.unusedSimpArgs false
open Go.RowKit Go.MapKept Go.Maps Go.Proofs.YtljckmiphkoipaaW.PrintWords Go.Proofs.YtljckmiphkoipaaW.PrintLast Go.Proofs.YtljckmiphkoipaaW.PrintMore




set_option maxRecDepth 100000 in
set_option maxHeartbeats 16000000 in
theorem readyPlays_good (pol seed : Int) (vp vs : Value) (ps : List Int) (zs : List (Int × Int)) (w : World) (hpol : 0 ≤ pol ∧ pol ≤ 4) (hseed : in64 seed) (hvp : IntsArg w vp ps) (hps : ps.length ≤ 65536) (hzs : ActsArg w vs zs) :
    Calls Try.prog 8 #[.agg #[.int .i64 pol, .int .u64 seed, vp], vs] w fun e w' => e = .returned (.bool true) ∧ Below w.heap.size w w' := by
  obtain ⟨Ap, cp, rfl, hcp, hCp⟩ := hvp.shape
  obtain ⟨As, cs, hvs⟩ := hzs.shape
  have hcl := hzs.cells As cs hvs
  subst hvs
  obtain ⟨np, hnp⟩ : ∃ np : Nat, np = ps.length := ⟨_, rfl⟩
  obtain ⟨nz, hnz⟩ : ∃ nz : Nat, nz = zs.length := ⟨_, rfl⟩
  rw [← hnz] at hcl ⊢
  rw [← hnp] at hcp hCp ⊢
  have HZ := Aside0.mk (And.intro hzs.good (And.intro hzs.few (And.intro hnz (And.intro hcl (And.intro hnp (And.intro hcp (And.intro hCp (And.intro hvp.few hseed))))))))
  clear hzs hvp hnp hnz hcl hcp hCp hseed
  go_enter Try.func8, Try.ntmps8
  go_upto_region 1 with fail
  obtain ⟨W0, hW0⟩ : ∃ W0, W0 = w.alloc (Obj.cells #[.int .i64 pol, .int .u64 seed, .slice Ap np cp] 36) := ⟨_, rfl⟩
  have b0 : Below w.heap.size w W0 := by rw [hW0]; exact (Below.refl _ _).alloc (Nat.le_refl _) _
  have x0 : W0.heap[w.heap.size]? = some (.cells #[.int .i64 pol, .int .u64 seed, .slice Ap np cp] 36 (0, 0)) := by rw [hW0]; exact heap_alloc_new w _
  have s0 : W0.heap.size = w.heap.size + 1 := by rw [hW0]; simp
  rw [← hW0]
  clear hW0
  have bA : Below W0.heap.size W0 (W0.alloc (Obj.cells #[] 3)) := (Below.refl _ _).alloc (Nat.le_refl _) _
  have sA : (W0.alloc (Obj.cells #[] 3)).heap.size = W0.heap.size + 1 := by simp
  have xA : (W0.alloc (Obj.cells #[] 3)).heap[w.heap.size]? = _ := (bA.block _ (blk_lt x0)).trans x0
  have z2 : (W0.alloc (Obj.cells #[] 3)).cell? ⟨w.heap.size, 2, none⟩ = some (.slice Ap np cp) := (blk_cell xA 2).trans rfl
  have bwA : Below w.heap.size w (W0.alloc (Obj.cells #[] 3)) := b0.trans (bA.mono (by omega))
  have CA1 : (Kd.int .i64).C (W0.alloc (Obj.cells #[] 3)) Ap np ps := Kd.C_below HZ.out.2.2.2.2.2.2.1 bwA
  have HO2 := R_lit0 W0 (w.heap.size + 1) (fun k => w.heap.size + 1 ≤ k) (by omega) (by omega)
  have HN := Aside0.mk (And.intro b0 (And.intro s0 (And.intro bA (And.intro sA (And.intro xA (And.intro bwA (And.intro CA1 HO2)))))))
  clear b0 x0 s0 bA sA xA bwA CA1 HO2
  go_upto_region 2 with ((with_reducible refine gate_builtin (b := .append) (xs := #[.tmp 22, .tmp 24]) rfl ?_); at_builtin; refine Kd.R_append_row (Value.int .i64) (0 : Int) (h1 := fun _ => rfl) (w0 := W0.alloc (Obj.cells #[] 3)) (w.heap.size + 1) rfl (.tmp 22) (.tmp 24) 22 3 (.int .i64 0) 8 rfl undSI info3 rfl (by decide) (.slice (some ⟨W0.heap.size, 0, none⟩) 0 0) [] ps Ap np cp (fun k => w.heap.size + 1 ≤ k) rfl rfl (fun k hk => by have := HN.out.2.1; have := HN.out.2.2.2.1; omega) HN.out.2.2.2.2.2.2.2 HN.out.2.2.2.2.2.2.1 (Below.refl _ _) (by have := HN.out.2.1; have := HN.out.2.2.2.1; omega) (by have := HZ.out.2.2.2.2.1; have := HZ.out.2.2.2.2.2.2.2.1; simp; omega) ?_; intro v3 W3 hR3 hB3 hg3 hat3; rw [List.nil_append] at hR3; obtain ⟨A3, c3, e3, hc3, _⟩ := Kd.R_reads hR3; rw [← HZ.out.2.2.2.2.1] at e3; subst e3; have x3 := ((hg3.block _ (blk_lt HN.out.2.2.2.2.1) (by simp [Value.ownBlock]; have := HN.out.2.1; omega)).trans HN.out.2.2.2.2.1); have b3 : Below w.heap.size w W3 := below_only HN.out.2.2.2.2.2.1 (Only.ofGrown hg3) HN.out.2.2.2.2.2.1.size (fun k hk e => by simp [Value.ownBlock] at e; have := HN.out.2.1; omega); clear hat3 hB3 hg3 z2)
  have s3 : w.heap.size + 1 ≤ W3.heap.size := blk_lt x3
  have y0 : W3.cell? ⟨w.heap.size, 0, none⟩ = some (.int .i64 pol) := (blk_cell x3 0).trans rfl
  have y1 : W3.cell? ⟨w.heap.size, 1, none⟩ = some (.int .u64 seed) := (blk_cell x3 1).trans rfl
  have hc := new_calls W3 pol seed (.slice A3 np c3) ps (IntsAt.ofR hR3) hpol hps HZ.out.2.2.2.2.2.2.2.2
  have hc3' : np ≤ c3 := by have := HZ.out.2.2.2.2.1; omega
  replace hc3 := Aside0.mk hc3'
  replace hR3 := Aside0.mk hR3
  replace x3 := Aside0.mk x3
  replace b3 := Aside0.mk b3
  replace s3 := Aside0.mk s3
  replace hpol := Aside0.mk hpol
  replace hps := Aside0.mk hps
  clear hc3'
  go_upto_region 3 with (go_at_call 12; refine hc.mono ?_; rintro e W4 ⟨g, rfl, hI4, hB4⟩; have x4 := (hB4.block _ (blk_lt x3.out)).trans x3.out; have b4 := Aside0.mk (b3.out.trans (hB4.mono b3.out.size)); replace hI4 := Aside0.mk hI4; replace hB4 := Aside0.mk hB4)
  clear y0 y1 hc
  have y0 : W4.cell? ⟨w.heap.size, 0, none⟩ = some (.int .i64 pol) := (blk_cell x4 0).trans rfl
  have y1 : W4.cell? ⟨w.heap.size, 1, none⟩ = some (.int .u64 seed) := (blk_cell x4 1).trans rfl
  have y2 : W4.cell? ⟨w.heap.size, 2, none⟩ = some (.slice Ap np cp) := (blk_cell x4 2).trans rfl
  have hc := rfnew_good W4 w.heap.size (fun _ => False) pol seed Ap cp ps w hpol.out hps.out (by have := HZ.out.2.2.2.2.1; have := HZ.out.2.2.2.2.2.1; omega) (by rw [← HZ.out.2.2.2.2.1]; exact HZ.out.2.2.2.2.2.2.1)
  rw [← HZ.out.2.2.2.2.1] at hc
  replace x4 := Aside0.mk x4
  go_upto_region 4 with (go_at_call 49; refine hc.mono ?_; rintro e W5 ⟨v5, rfl, hV5, hB5⟩; obtain ⟨Aq, cq, lv, tv, e5, k2, k3, k4, k5⟩ := hV5.shape; obtain ⟨A6, c6, e6, _⟩ := Kd.R_reads k4; obtain ⟨A7, c7, e7, _⟩ := Kd.R_reads k5; simp only at e5 e6 e7; rw [← HZ.out.2.2.2.2.1] at e5; subst e6; subst e7; subst e5; have x5 := Aside0.mk ((hB5.block _ (blk_lt x4.out)).trans x4.out); have b5 := Aside0.mk (b4.out.trans (hB5.mono b4.out.size)); replace hV5 := Aside0.mk hV5; replace hB5 := Aside0.mk hB5; clear k2 k3 k4 k5)
  clear y0 y1 y2 hc
  obtain ⟨m0, hm0⟩ : ∃ m0 : RM, m0 = ⟨pol, seed, ps, [], []⟩ := ⟨_, rfl⟩
  have hI6 : PI w (W5.alloc (Obj.cells #[.int .i64 pol, .int .u64 seed, .slice Aq np cq, .slice A6 0 c6, .slice A7 0 c7] 80)) W3.heap.size w.heap.size W5.heap.size g (fun k => W3.heap.size ≤ k ∧ W3.heap.size ≤ k ∧ k < W4.heap.size) (fun _ => False) 0 m0 (toRef m0) #[.int .i64 pol, .int .u64 seed, .slice Aq np cq, .slice A6 0 c6, .slice A7 0 c7] := by
    have bB : Below W5.heap.size W5 (W5.alloc (Obj.cells #[.int .i64 pol, .int .u64 seed, .slice Aq np cq, .slice A6 0 c6, .slice A7 0 c7] 80)) := (Below.refl _ _).alloc (Nat.le_refl _) _
    have t4 := hB4.out.size
    have t5 := hB5.out.size
    have t6 := bB.size
    have t3 := s3.out
    subst hm0
    exact ⟨((hI4.out.tight).below hB5.out).below bB, hV5.out.below bB, heap_alloc_new W5 _, fun k _ h => h, fun k hk => ⟨by omega, by omega, by omega⟩, fun k h => h.elim, by omega, b5.out.trans (bB.mono (by omega)), by omega, by omega, Nat.le_refl _⟩
  obtain ⟨W6, hW6⟩ : ∃ W6, W6 = W5.alloc (Obj.cells #[.int .i64 pol, .int .u64 seed, .slice Aq np cq, .slice A6 0 c6, .slice A7 0 c7] 80) := ⟨_, rfl⟩
  have b6 : Below W5.heap.size W5 W6 := by rw [hW6]; exact (Below.refl _ _).alloc (Nat.le_refl _) _
  have x6 : W6.heap[w.heap.size]? = _ := (b6.block _ (blk_lt x5.out)).trans x5.out
  rw [← hW6] at hI6 ⊢
  have hR6 := Kd.R_below (Kd.R_below (Kd.R_below hR3.out hB4.out) hB5.out) b6
  have C6 : (Kd.int .i64).C W6 Ap np ps := Kd.C_below HZ.out.2.2.2.2.2.2.1 (b5.out.trans (b6.mono b5.out.size))
  have t6 : W3.heap.size ≤ W6.heap.size := by have := hB4.out.size; have := hB5.out.size; have := b6.size; omega
  have t3 : W3.heap.size ≤ W4.heap.size := hB4.out.size
  have t35 : W3.heap.size ≤ W5.heap.size := by have := hB5.out.size; omega
  have HR := Aside0.mk (And.intro hR6 (And.intro C6 (And.intro t6 (And.intro (Kd.R_lt hR3.out) t35))))
  replace hm0 := Aside0.mk hm0
  replace hI6 := Aside0.mk hI6
  replace x6 := Aside0.mk x6
  clear hI4 hV5 hB4 hB5 x5 b5 x4 b4 hW6 b6 hR6 C6 t6 t3 hR3
  have hc := awake_calls W6
  go_upto_region 6 with (first
    | (go_at_call 13; refine hc.mono ?_; rintro e W7 ⟨rfl, hB7⟩; have x7 := (hB7.block _ (blk_lt x6.out)).trans x6.out; have y2 : W7.cell? ⟨w.heap.size, 2, none⟩ = some (.slice Ap np cp) := (blk_cell x7 2).trans rfl; replace x7 := Aside0.mk x7; replace hB7 := Aside0.mk hB7)
    | (go_at_call 20; have hs := same_C (c1 := c3) (c2 := cp) (Kd.R_reads' (Kd.R_below HR.out.1 hB7.out)).2.2 (by have := hc3.out; have := HZ.out.2.2.2.2.1; omega) (by rw [← HZ.out.2.2.2.2.1]; exact Kd.C_below HR.out.2.1 hB7.out) (by have := HZ.out.2.2.2.2.1; have := HZ.out.2.2.2.2.2.1; omega) (by have := hps.out; omega); rw [← HZ.out.2.2.2.2.1] at hs; refine hs.mono ?_; rintro e W8 ⟨rfl, hB8⟩; replace hB8 := Aside0.mk hB8; clear hs))
  have hI8 := (hI6.out.below hB7.out).below hB8.out
  have hR8 := Kd.R_below (Kd.R_below HR.out.1 hB7.out) hB8.out
  have ho8 : W8.ownsRow (w.heap.size + 1) 3 1 (.slice A3 np c3) ps.length (encs (Value.int .i64) ps) := Kd.own_of_R hR8
  have t8 : W3.heap.size ≤ W8.heap.size := by have := HR.out.2.2.1; have := hB7.out.size; have := hB8.out.size; omega
  obtain ⟨gb, hgb⟩ : ∃ gb : Nat, 0 < np → A3 = some ⟨gb, 0, none⟩ ∧ w.heap.size + 1 ≤ gb ∧ gb < W3.heap.size ∧ ∃ cs : Array Value, W8.heap[gb]? = some (.cells cs 3 (0, 0)) ∧ np ≤ cs.size := by
    rcases ho8.2 with ⟨h, h0⟩ | ⟨gb, cap, cur, h, hg, hb, hn, hcap, hsz, ht⟩
    · exact ⟨0, fun h => by have := HZ.out.2.2.2.2.1; omega⟩
    · injection h with h1 h2 h3
      refine ⟨gb, fun hnp => ⟨h1, hg, ?_, cur, hb, by have := HZ.out.2.2.2.2.1; simp at hsz; omega⟩⟩
      exact HR.out.2.2.2.1 gb (by rw [h1]; rfl)
  have HG := Aside0.mk (And.intro hI8 (And.intro t8 hgb))
  clear hI8 hR8 ho8 t8 hgb y2 hc
  go_wp2
  go_loopg [68] (np + 1) (fun kq v68 w' => ∃ (i : Int), v68 = .int .i64 i ∧ Aside0 (0 ≤ i ∧ i ≤ np ∧ (np - i).toNat < kq) ∧ Aside0 (Only (fun k => 0 < np ∧ k = gb) W8 w') ∧ Aside0 (0 < np → ∃ cs : Array Value, w'.heap[gb]? = some (.cells cs 3 (0, 0)) ∧ np ≤ cs.size))
  case atStart => exact ⟨0, rfl, ⟨by omega, by omega, by omega⟩, ⟨Only.refl _ _⟩, ⟨fun h => (HG.out.2.2 h).2.2.2⟩⟩
  case round =>
    obtain ⟨i, rfl, hi, ho, hcs⟩ := hrel
    by_cases hin : i < np
    · have hlt : decide (i < (np : Int)) = true := decide_eq_true hin
      have hpos : 0 < np := by have := hi.out; omega
      have p1 : 0 ≤ i := hi.out.1
      obtain ⟨eA, g1, g2, _⟩ := HG.out.2.2 hpos
      obtain ⟨cz, hcz, hczs⟩ := hcs.out hpos
      subst eA
      have hcell : ∃ u, wr.cell? ⟨gb, i.toNat, none⟩ = some u := ⟨_, (blk_cell hcz i.toNat).trans (Array.getElem?_eq_getElem (by omega))⟩
      obtain ⟨u, hcell⟩ := hcell
      have hfz := blk_frozen hcz i.toNat
      have hiw : wrap64 (i + 1) = i + 1 := w64 _ (by have := hps.out; have := HZ.out.2.2.2.2.1; omega)
      have HJ := Aside0.mk (And.intro hin (And.intro hcz (And.intro hczs (And.intro hpos (And.intro g1 g2)))))
      clear hcz hczs hpos g1 g2
      replace p1 := eq_true p1
      replace hin := eq_true hin
      go_wp2
      go_roundg (np - i).toNat
      case measure => exact hi.out.2.2
      case rel =>
        have o1 : Only (fun k => 0 < np ∧ k = gb) wr (wr.setCell ⟨gb, i.toNat, none⟩ (.int .i64 99)) := (Only.refl (fun k => 0 < np ∧ k = gb) wr).setCell (fun _ => ⟨HJ.out.2.2.2.1, rfl⟩) _
        refine ⟨i + 1, by simp [hiw], ⟨by have := hi.out; omega, by have := HJ.out.1; omega, by have := HJ.out.1; omega⟩, ⟨ho.out.trans o1⟩, ⟨fun _ => ?_⟩⟩
        obtain ⟨cs', h1, h2⟩ : ∃ cs' : Array Value, (wr.setCell ⟨gb, i.toNat, none⟩ (.int .i64 99)).heap[gb]? = some (.cells cs' 3 (0, 0)) ∧ np ≤ cs'.size := ⟨_, blk_put HJ.out.2.1 i.toNat _ rfl, by simp; exact HJ.out.2.2.1⟩
        exact ⟨cs', h1, h2⟩
    · have hlt : decide (i < (np : Int)) = false := decide_eq_false hin
      have t35 := HR.out.2.2.2.2
      have hI9 := HG.out.1.only ho.out (fun k hk hf => by obtain ⟨h1, h2⟩ := hf; have := (HG.out.2.2 h1).2.2.1; omega) (fun k hk => hk.elim) (fun hf => by obtain ⟨h1, h2⟩ := hf; have := (HG.out.2.2 h1).2.2.1; omega) (fun k hk hf => by obtain ⟨h1, h2⟩ := hf; have := (HG.out.2.2 h1).2.1; omega)
      replace hI9 := Aside0.mk hI9
      clear t35
      go_wp2
      go_loopg [77] (nz + 1) (fun kq v77 w' => ∃ (i : Int) (Qr P : Nat → Prop) (cs : Array Value), v77 = .int .i64 i ∧ Aside0 (0 ≤ i ∧ i ≤ nz ∧ (nz - i).toNat < kq) ∧ Aside0 (PI w w' W3.heap.size w.heap.size W5.heap.size g Qr P i (playsM m0 (zs.take i.toNat)) (toRef (playsM m0 (zs.take i.toNat))) cs))
      case atStart => exact ⟨0, _, _, _, rfl, ⟨by omega, by omega, by omega⟩, hI9⟩
      case round =>
        clear hI9 ho hcs
        obtain ⟨i, Qr, P, cs, rfl, hi, hI⟩ := hrel
        by_cases hin : i < nz
        · have hlt : decide (i < (nz : Int)) = true := decide_eq_true hin
          have p1 : 0 ≤ i := hi.out.1
          obtain ⟨ad, eA, hx1, hx2⟩ := HZ.out.2.2.2.1 i p1 hin
          cases eA
          obtain ⟨a, haa⟩ : ∃ a, a = zs.getD i.toNat (0, 0) := ⟨_, rfl⟩
          rw [← haa] at hx1 hx2
          have hww : ∀ p u, w.cell? p = some u → wr.cell? p = some u := fun p u h => pw_cell_below hI.out.bw h
          replace hx1 := hww _ _ hx1
          replace hx2 := hww _ _ hx2
          have hga : goodI a.1 ∧ goodI a.2 := by
            rw [haa, List.getD_eq_getElem?_getD, List.getElem?_eq_getElem (by have := HZ.out.2.2.1; omega)]
            exact HZ.out.1 _ (List.getElem_mem _)
          obtain ⟨a1, a2⟩ := a
          simp only at hx1 hx2 hga
          have htk := acts_take zs p1 (by have := HZ.out.2.2.1; omega)
          rw [← haa] at htk
          have hMnext : playsM m0 (zs.take (i + 1).toNat) = playM (playsM m0 (zs.take i.toNat)) (a1, a2) := by rw [htk, playsM_append]; rfl
          obtain ⟨hsm1, hsm2⟩ := playsM_small m0 (zs.take i.toNat)
          obtain ⟨hst1, hst2⟩ := playsM_small m0 (zs.take (i + 1).toNat)
          have hzl : zs.length ≤ 8796093022208 := by have := HZ.out.2.1; omega
          have hiz : i < 8796093022208 := by have := HZ.out.2.2.1; omega
          have hp0 : m0.policy = pol := by rw [hm0.out]
          have ht0 : m0.told.length = 0 := by rw [hm0.out]; rfl
          rw [hp0] at hsm1 hst1
          rw [ht0] at hsm2 hst2
          have hsm3 : (playsM m0 (zs.take i.toNat)).told.length ≤ 8796093022208 := by rw [List.length_take] at hsm2; omega
          have hst3 : (playsM m0 (zs.take (i + 1).toNat)).told.length ≤ 8796093022208 := by rw [List.length_take] at hst2; omega
          rw [hMnext] at hst1 hst3
          obtain ⟨mi, hmi⟩ : ∃ mi, mi = playsM m0 (zs.take i.toNat) := ⟨_, rfl⟩
          rw [← hmi] at hsm1 hsm3 hst1 hst3 hMnext hI
          have hkr : -9223372036854775808 ≤ a1 ∧ a1 ≤ 9223372036854775807 := goodI_bounds hga.1
          have t1 := Int.tmod_lt_of_pos a1 (show (0:Int) < 7 by omega)
          have t2 := Int.lt_tmod_of_pos a1 (show (0:Int) < 7 by omega)
          have e1 : wrap64 (Int.tmod a1 7) = Int.tmod a1 7 := w64 _ (by omega)
          have e2 : wrap64 (Int.tmod a1 7 + 7) = Int.tmod a1 7 + 7 := w64 _ (by omega)
          have e3 : wrap64 (Int.tmod (Int.tmod a1 7 + 7) 7) = Int.tmod (Int.tmod a1 7 + 7) 7 := w64 _ (by
            have t3 := Int.tmod_lt_of_pos (Int.tmod a1 7 + 7) (show (0:Int) < 7 by omega)
            have t4 := Int.tmod_nonneg (a := Int.tmod a1 7 + 7) 7 (by omega)
            omega)
          obtain ⟨kk, hkk⟩ : ∃ kk, kk = kindOf a1 := ⟨_, rfl⟩
          have hkk' : Int.tmod (Int.tmod a1 7 + 7) 7 = kk := hkk.symm
          rw [hkk'] at e3
          have hiw : wrap64 (i + 1) = i + 1 := w64 _ (by omega)
          obtain ⟨Aq2, nq2, cq2, A8, n8, c8, A9, n9, c9, hcs⟩ := hI.out.v.policy
          subst hcs
          have HA := Aside0.mk (And.intro hga (And.intro hMnext (And.intro hsm1 (And.intro hsm3 (And.intro hst1 (And.intro hst3 (And.intro hiz (And.intro hin (And.intro hkk hiw)))))))))
          clear haa hga htk hww hMnext hsm1 hsm2 hsm3 hst1 hst2 hst3 hzl hiz hp0 ht0 hkr t1 t2 hkk hmi hiw
          replace p1 := eq_true p1
          replace hin := eq_true hin
          go_upto_region 14 with fail
          obtain ⟨Wa, hWa⟩ : ∃ Wa, Wa = wr.alloc (Obj.cells #[.int .i64 a1, .int .i64 a2] 39) := ⟨_, rfl⟩
          have bWa : Below wr.heap.size wr Wa := by rw [hWa]; exact (Below.refl _ _).alloc (Nat.le_refl _) _
          have sWa : Wa.heap.size = wr.heap.size + 1 := by rw [hWa]; simp
          have xWa : Wa.heap[wr.heap.size]? = some (.cells #[.int .i64 a1, .int .i64 a2] 39 (0, 0)) := by rw [hWa]; exact heap_alloc_new wr _
          rw [← hWa]
          have hIa := hI.out.below bWa
          have q0 : Wa.cell? ⟨wr.heap.size, 0, none⟩ = some (.int .i64 a1) := (blk_cell xWa 0).trans rfl
          have HW := Aside0.mk (And.intro hIa (And.intro xWa (And.intro sWa (And.intro hI.out.los (fun (k : Nat) (hk : Qr k) => (hI.out.q k hk).2.1)))))
          have HWNE := Aside0.mk (show wr.heap.size ≠ W5.heap.size by have := hI.out.lt; omega)
          clear hIa xWa sWa bWa hWa hI hx1 hx2
          go_upto_region 20 with fail
          by_cases c3 : kk = 3
          · have d3 : (kk == 3) = true := beq_iff_eq.2 c3
            have hkd := Aside0.mk (show kk = 3 ∨ kk = 4 from .inl c3)
            clear c3
            have hpk := pick_calls Wa W3.heap.size g Qr i mi HW.out.1.r (by have := HA.out.2.2.2.2.2.2.1; omega) (by have := HA.out.2.2.2.1; omega) HW.out.1.hb
            have hmp : playM mi (a1, a2) = pickM mi := playM_pick (by rw [← HA.out.2.2.2.2.2.2.2.2.1]; exact hkd.out)
            obtain ⟨hnd, hfew, hlot⟩ := HW.out.1.nodup
            obtain ⟨V, hV⟩ : ∃ V, V = pickV mi := ⟨_, rfl⟩
            obtain ⟨bt, hbt⟩ : ∃ bt, bt = decide (mi.l ≠ []) := ⟨_, rfl⟩
            rw [← hV, ← hbt] at hpk
            have hrp : ∀ (W10 : World) (P' : Nat → Prop) (vv : Value), RefV w w.heap.size P' W10 vv (toRef mi) → Below w.heap.size w W10 → Calls Try.prog 50 #[vv] W10 fun e w' => ∃ v', e = .returned (.tuple #[v', .int .i64 V, .bool bt]) ∧ RefV w w.heap.size (fun k => P' k ∨ W10.heap.size ≤ k) w' v' (toRef (pickM mi)) ∧ Below W10.heap.size W10 w' := by
              intro W10 P' vv h1 h2
              have h3 := rfpick_calls h1 h2 h2.size (show 0 ≤ mi.policy ∧ mi.policy ≤ 4 by rw [HA.out.2.2.1]; exact hpol.out) hlot hfew (show mi.told.length ≤ 17592186044000 by have := HA.out.2.2.2.1; omega)
              rw [refV_toRef, ← pickM_toRef hnd, ← hV] at h3
              rw [hbt]
              exact h3
            replace hrp := Aside0.mk hrp
            replace hmp := Aside0.mk hmp
            have hVV : (V != V) = false := by simp
            have hbb : (bt != bt) = false := by simp
            clear hnd hfew hlot hV hbt
            go_upto_region 23 with (go_at_call 15; refine hpk.mono ?_; rintro e W10 ⟨rfl, hI10, hO10⟩; have hP10 := HW.out.1.ready hI10 (Nat.le_refl _) hO10; have x10 := (hO10.block _ (blk_lt HW.out.2.1) (fun hq => by have := HW.out.2.2.2.2 _ hq; omega)).trans HW.out.2.1; have s10 := hO10.size; clear hI10 hO10)
            have hc := hrp.out W10 P _ hP10.v hP10.bw
            have xb := hP10.b
            have y0 : W10.cell? ⟨W5.heap.size, 0, none⟩ = some (.int .i64 mi.policy) := (blk_cell xb 0).trans rfl
            have y1 : W10.cell? ⟨W5.heap.size, 1, none⟩ = some (.int .u64 mi.lot) := (blk_cell xb 1).trans rfl
            have y2 : W10.cell? ⟨W5.heap.size, 2, none⟩ = some (.slice Aq2 nq2 cq2) := (blk_cell xb 2).trans rfl
            have y3 : W10.cell? ⟨W5.heap.size, 3, none⟩ = some (.slice A8 n8 c8) := (blk_cell xb 3).trans rfl
            have y4 : W10.cell? ⟨W5.heap.size, 4, none⟩ = some (.slice A9 n9 c9) := (blk_cell xb 4).trans rfl
            replace hP10 := Aside0.mk hP10
            replace x10 := Aside0.mk x10
            clear xb hpk
            go_upto_region 24 with (go_at_call 50; refine hc.mono ?_; rintro e W11 ⟨v11, rfl, hV11, hB11⟩; obtain ⟨p11, l11, A12, n12, c12, A13, n13, c13, A14, n14, c14, rfl⟩ := hV11.agg; replace hV11 := Aside0.mk hV11; replace hB11 := Aside0.mk hB11)
            clear y0 y1 y2 y3 y4 hc
            obtain ⟨W12, hW12⟩ : ∃ W12, W12 = W11.alloc (Obj.cells #[.int .i64 p11, .int .u64 l11, .slice A12 n12 c12, .slice A13 n13 c13, .slice A14 n14 c14] 80) := ⟨_, rfl⟩
            have b12 : Below W11.heap.size W11 W12 := by rw [hW12]; exact (Below.refl _ _).alloc (Nat.le_refl _) _
            have x12 : W12.heap[W11.heap.size]? = some (.cells #[.int .i64 p11, .int .u64 l11, .slice A12 n12 c12, .slice A13 n13 c13, .slice A14 n14 c14] 80 (0, 0)) := by rw [hW12]; exact heap_alloc_new W11 _
            rw [← hW12]
            have b1012 : Below W10.heap.size W10 W12 := hB11.out.trans (b12.mono hB11.out.size)
            have hP12 := hP10.out.below b1012
            have hV12 := hV11.out.below b12
            have xa12 := (b1012.block _ (blk_lt x10.out)).trans x10.out
            have hne : W5.heap.size ≠ W11.heap.size := by have := hP10.out.lt; have := hB11.out.size; omega
            have t0 : W12.cell? ⟨W11.heap.size, 0, none⟩ = some (.int .i64 p11) := (blk_cell x12 0).trans rfl
            have t1 : W12.cell? ⟨W11.heap.size, 1, none⟩ = some (.int .u64 l11) := (blk_cell x12 1).trans rfl
            have t2 : W12.cell? ⟨W11.heap.size, 2, none⟩ = some (.slice A12 n12 c12) := (blk_cell x12 2).trans rfl
            have t3 : W12.cell? ⟨W11.heap.size, 3, none⟩ = some (.slice A13 n13 c13) := (blk_cell x12 3).trans rfl
            have t4 : W12.cell? ⟨W11.heap.size, 4, none⟩ = some (.slice A14 n14 c14) := (blk_cell x12 4).trans rfl
            have xb := hP12.b
            have y0 : W12.cell? ⟨W5.heap.size, 0, none⟩ = some (.int .i64 mi.policy) := (blk_cell xb 0).trans rfl
            have y1 : W12.cell? ⟨W5.heap.size, 1, none⟩ = some (.int .u64 mi.lot) := (blk_cell xb 1).trans rfl
            have y2 : W12.cell? ⟨W5.heap.size, 2, none⟩ = some (.slice Aq2 nq2 cq2) := (blk_cell xb 2).trans rfl
            have y3 : W12.cell? ⟨W5.heap.size, 3, none⟩ = some (.slice A8 n8 c8) := (blk_cell xb 3).trans rfl
            have y4 : W12.cell? ⟨W5.heap.size, 4, none⟩ = some (.slice A9 n9 c9) := (blk_cell xb 4).trans rfl
            have f0 := blk_frozen xb 0
            have f1 := blk_frozen xb 1
            have f2 := blk_frozen xb 2
            have f3 := blk_frozen xb 3
            have f4 := blk_frozen xb 4
            replace hP12 := Aside0.mk hP12
            replace hV12 := Aside0.mk hV12
            replace xa12 := Aside0.mk xa12
            replace b1012 := Aside0.mk b1012
            clear hW12 b12 x12 xb hB11 hV11
            go_upto_region 39 with fail
            have hF0 := hP12.out.store ⟨_, _, _, _, _, rfl⟩ hV12.out (fun k hk hlt => by
              rcases hk with hk | hk
              · exact ⟨(hP12.out.p k hk).1, (hP12.out.p k hk).2.2, fun hq => hP12.out.d k hq hk⟩
              · exact ⟨by have := hP10.out.los; omega, by have := hP10.out.lt; omega, fun hq => by have := hq.2.2; omega⟩)
            have xF : (five W12 W5.heap.size (.int .i64 p11) (.int .u64 l11) (.slice A12 n12 c12) (.slice A13 n13 c13) (.slice A14 n14 c14)).heap[wr.heap.size]? = _ := ((five_only W12 W5.heap.size _ _ _ _ _).block _ (blk_lt xa12.out) (fun e => HWNE.out e)).trans xa12.out
            clear t0 t1 t2 t3 t4 hne
            obtain ⟨WF, hWF⟩ : ∃ WF, WF = five W12 W5.heap.size (.int .i64 p11) (.int .u64 l11) (.slice A12 n12 c12) (.slice A13 n13 c13) (.slice A14 n14 c14) := ⟨_, rfl⟩
            have hWF' : WF = ((((W12.setCell ⟨W5.heap.size, 0, none⟩ (.int .i64 p11)).setCell ⟨W5.heap.size, 1, none⟩ (.int .u64 l11)).setCell ⟨W5.heap.size, 2, none⟩ (.slice A12 n12 c12)).setCell ⟨W5.heap.size, 3, none⟩ (.slice A13 n13 c13)).setCell ⟨W5.heap.size, 4, none⟩ (.slice A14 n14 c14) := hWF
            rw [← hWF']
            rw [← hWF] at hF0 xF
            have HF := Aside0.mk (hF0.more (show i ≤ i + 1 by omega))
            clear hWF hWF' hF0 y0 y1 y2 y3 y4 f0 f1 f2 f3 f4
            have HE : Aside0 (pickM mi = playM mi (a1, a2)) := ⟨hmp.out.symm⟩
            have hm2 := HE.out
            have hst := stands_calls (x := a2) HF.out.r HF.out.v HF.out.bw HA.out.1.2 (by have := HA.out.2.2.2.2.2.2.1; omega) (by rw [hm2, HA.out.2.2.2.2.1]; exact hpol.out) (by have h9 := HA.out.2.2.2.2.2.1; rw [← hm2] at h9; omega)
            have xb := HF.out.b
            have y0 := (blk_cell xb 0).trans rfl
            have y1 := (blk_cell xb 1).trans rfl
            have y2 := (blk_cell xb 2).trans rfl
            have y3 := (blk_cell xb 3).trans rfl
            have y4 := (blk_cell xb 4).trans rfl
            have q1 : WF.cell? ⟨wr.heap.size, 1, none⟩ = some (.int .i64 a2) := (blk_cell xF 1).trans rfl
            clear xb hm2
            go_wp2_with (go_at_call 55; refine hst.mono ?_; rintro e W30 ⟨rfl, hB30⟩; replace hB30 := Aside0.mk hB30)
            go_roundg (nz - i).toNat
            case measure => exact hi.out.2.2
            case rel =>
              have hN := HF.out.below hB30.out
              have hM := HE.out.trans HA.out.2.1.symm
              rw [hM] at hN
              exact ⟨i + 1, _, _, _, by simp [HA.out.2.2.2.2.2.2.2.2.2], ⟨by have := hi.out; omega, by have := HA.out.2.2.2.2.2.2.2.1; omega, by have := HA.out.2.2.2.2.2.2.2.1; omega⟩, ⟨hN⟩⟩
          · have d3 : (kk == 3) = false := beq_eq_false_iff_ne.2 c3
            by_cases c4 : kk = 4
            · have d4 : (kk == 4) = true := beq_iff_eq.2 c4
              have hkd := Aside0.mk (show kk = 3 ∨ kk = 4 from .inr c4)
              clear c4 c3
              have hpk := pick_calls Wa W3.heap.size g Qr i mi HW.out.1.r (by have := HA.out.2.2.2.2.2.2.1; omega) (by have := HA.out.2.2.2.1; omega) HW.out.1.hb
              have hmp : playM mi (a1, a2) = pickM mi := playM_pick (by rw [← HA.out.2.2.2.2.2.2.2.2.1]; exact hkd.out)
              obtain ⟨hnd, hfew, hlot⟩ := HW.out.1.nodup
              obtain ⟨V, hV⟩ : ∃ V, V = pickV mi := ⟨_, rfl⟩
              obtain ⟨bt, hbt⟩ : ∃ bt, bt = decide (mi.l ≠ []) := ⟨_, rfl⟩
              rw [← hV, ← hbt] at hpk
              have hrp : ∀ (W10 : World) (P' : Nat → Prop) (vv : Value), RefV w w.heap.size P' W10 vv (toRef mi) → Below w.heap.size w W10 → Calls Try.prog 50 #[vv] W10 fun e w' => ∃ v', e = .returned (.tuple #[v', .int .i64 V, .bool bt]) ∧ RefV w w.heap.size (fun k => P' k ∨ W10.heap.size ≤ k) w' v' (toRef (pickM mi)) ∧ Below W10.heap.size W10 w' := by
                intro W10 P' vv h1 h2
                have h3 := rfpick_calls h1 h2 h2.size (show 0 ≤ mi.policy ∧ mi.policy ≤ 4 by rw [HA.out.2.2.1]; exact hpol.out) hlot hfew (show mi.told.length ≤ 17592186044000 by have := HA.out.2.2.2.1; omega)
                rw [refV_toRef, ← pickM_toRef hnd, ← hV] at h3
                rw [hbt]
                exact h3
              replace hrp := Aside0.mk hrp
              replace hmp := Aside0.mk hmp
              have hVV : (V != V) = false := by simp
              have hbb : (bt != bt) = false := by simp
              clear hnd hfew hlot hV hbt
              go_upto_region 23 with (go_at_call 15; refine hpk.mono ?_; rintro e W10 ⟨rfl, hI10, hO10⟩; have hP10 := HW.out.1.ready hI10 (Nat.le_refl _) hO10; have x10 := (hO10.block _ (blk_lt HW.out.2.1) (fun hq => by have := HW.out.2.2.2.2 _ hq; omega)).trans HW.out.2.1; have s10 := hO10.size; clear hI10 hO10)
              have hc := hrp.out W10 P _ hP10.v hP10.bw
              have xb := hP10.b
              have y0 : W10.cell? ⟨W5.heap.size, 0, none⟩ = some (.int .i64 mi.policy) := (blk_cell xb 0).trans rfl
              have y1 : W10.cell? ⟨W5.heap.size, 1, none⟩ = some (.int .u64 mi.lot) := (blk_cell xb 1).trans rfl
              have y2 : W10.cell? ⟨W5.heap.size, 2, none⟩ = some (.slice Aq2 nq2 cq2) := (blk_cell xb 2).trans rfl
              have y3 : W10.cell? ⟨W5.heap.size, 3, none⟩ = some (.slice A8 n8 c8) := (blk_cell xb 3).trans rfl
              have y4 : W10.cell? ⟨W5.heap.size, 4, none⟩ = some (.slice A9 n9 c9) := (blk_cell xb 4).trans rfl
              replace hP10 := Aside0.mk hP10
              replace x10 := Aside0.mk x10
              clear xb hpk
              go_upto_region 24 with (go_at_call 50; refine hc.mono ?_; rintro e W11 ⟨v11, rfl, hV11, hB11⟩; obtain ⟨p11, l11, A12, n12, c12, A13, n13, c13, A14, n14, c14, rfl⟩ := hV11.agg; replace hV11 := Aside0.mk hV11; replace hB11 := Aside0.mk hB11)
              clear y0 y1 y2 y3 y4 hc
              obtain ⟨W12, hW12⟩ : ∃ W12, W12 = W11.alloc (Obj.cells #[.int .i64 p11, .int .u64 l11, .slice A12 n12 c12, .slice A13 n13 c13, .slice A14 n14 c14] 80) := ⟨_, rfl⟩
              have b12 : Below W11.heap.size W11 W12 := by rw [hW12]; exact (Below.refl _ _).alloc (Nat.le_refl _) _
              have x12 : W12.heap[W11.heap.size]? = some (.cells #[.int .i64 p11, .int .u64 l11, .slice A12 n12 c12, .slice A13 n13 c13, .slice A14 n14 c14] 80 (0, 0)) := by rw [hW12]; exact heap_alloc_new W11 _
              rw [← hW12]
              have b1012 : Below W10.heap.size W10 W12 := hB11.out.trans (b12.mono hB11.out.size)
              have hP12 := hP10.out.below b1012
              have hV12 := hV11.out.below b12
              have xa12 := (b1012.block _ (blk_lt x10.out)).trans x10.out
              have hne : W5.heap.size ≠ W11.heap.size := by have := hP10.out.lt; have := hB11.out.size; omega
              have t0 : W12.cell? ⟨W11.heap.size, 0, none⟩ = some (.int .i64 p11) := (blk_cell x12 0).trans rfl
              have t1 : W12.cell? ⟨W11.heap.size, 1, none⟩ = some (.int .u64 l11) := (blk_cell x12 1).trans rfl
              have t2 : W12.cell? ⟨W11.heap.size, 2, none⟩ = some (.slice A12 n12 c12) := (blk_cell x12 2).trans rfl
              have t3 : W12.cell? ⟨W11.heap.size, 3, none⟩ = some (.slice A13 n13 c13) := (blk_cell x12 3).trans rfl
              have t4 : W12.cell? ⟨W11.heap.size, 4, none⟩ = some (.slice A14 n14 c14) := (blk_cell x12 4).trans rfl
              have xb := hP12.b
              have y0 : W12.cell? ⟨W5.heap.size, 0, none⟩ = some (.int .i64 mi.policy) := (blk_cell xb 0).trans rfl
              have y1 : W12.cell? ⟨W5.heap.size, 1, none⟩ = some (.int .u64 mi.lot) := (blk_cell xb 1).trans rfl
              have y2 : W12.cell? ⟨W5.heap.size, 2, none⟩ = some (.slice Aq2 nq2 cq2) := (blk_cell xb 2).trans rfl
              have y3 : W12.cell? ⟨W5.heap.size, 3, none⟩ = some (.slice A8 n8 c8) := (blk_cell xb 3).trans rfl
              have y4 : W12.cell? ⟨W5.heap.size, 4, none⟩ = some (.slice A9 n9 c9) := (blk_cell xb 4).trans rfl
              have f0 := blk_frozen xb 0
              have f1 := blk_frozen xb 1
              have f2 := blk_frozen xb 2
              have f3 := blk_frozen xb 3
              have f4 := blk_frozen xb 4
              replace hP12 := Aside0.mk hP12
              replace hV12 := Aside0.mk hV12
              replace xa12 := Aside0.mk xa12
              replace b1012 := Aside0.mk b1012
              clear hW12 b12 x12 xb hB11 hV11
              go_upto_region 39 with fail
              have hF0 := hP12.out.store ⟨_, _, _, _, _, rfl⟩ hV12.out (fun k hk hlt => by
                rcases hk with hk | hk
                · exact ⟨(hP12.out.p k hk).1, (hP12.out.p k hk).2.2, fun hq => hP12.out.d k hq hk⟩
                · exact ⟨by have := hP10.out.los; omega, by have := hP10.out.lt; omega, fun hq => by have := hq.2.2; omega⟩)
              have xF : (five W12 W5.heap.size (.int .i64 p11) (.int .u64 l11) (.slice A12 n12 c12) (.slice A13 n13 c13) (.slice A14 n14 c14)).heap[wr.heap.size]? = _ := ((five_only W12 W5.heap.size _ _ _ _ _).block _ (blk_lt xa12.out) (fun e => HWNE.out e)).trans xa12.out
              clear t0 t1 t2 t3 t4 hne
              obtain ⟨WF, hWF⟩ : ∃ WF, WF = five W12 W5.heap.size (.int .i64 p11) (.int .u64 l11) (.slice A12 n12 c12) (.slice A13 n13 c13) (.slice A14 n14 c14) := ⟨_, rfl⟩
              have hWF' : WF = ((((W12.setCell ⟨W5.heap.size, 0, none⟩ (.int .i64 p11)).setCell ⟨W5.heap.size, 1, none⟩ (.int .u64 l11)).setCell ⟨W5.heap.size, 2, none⟩ (.slice A12 n12 c12)).setCell ⟨W5.heap.size, 3, none⟩ (.slice A13 n13 c13)).setCell ⟨W5.heap.size, 4, none⟩ (.slice A14 n14 c14) := hWF
              rw [← hWF']
              rw [← hWF] at hF0 xF
              have HF := Aside0.mk (hF0.more (show i ≤ i + 1 by omega))
              clear hWF hWF' hF0 y0 y1 y2 y3 y4 f0 f1 f2 f3 f4
              have HE : Aside0 (pickM mi = playM mi (a1, a2)) := ⟨hmp.out.symm⟩
              have hm2 := HE.out
              have hst := stands_calls (x := a2) HF.out.r HF.out.v HF.out.bw HA.out.1.2 (by have := HA.out.2.2.2.2.2.2.1; omega) (by rw [hm2, HA.out.2.2.2.2.1]; exact hpol.out) (by have h9 := HA.out.2.2.2.2.2.1; rw [← hm2] at h9; omega)
              have xb := HF.out.b
              have y0 := (blk_cell xb 0).trans rfl
              have y1 := (blk_cell xb 1).trans rfl
              have y2 := (blk_cell xb 2).trans rfl
              have y3 := (blk_cell xb 3).trans rfl
              have y4 := (blk_cell xb 4).trans rfl
              have q1 : WF.cell? ⟨wr.heap.size, 1, none⟩ = some (.int .i64 a2) := (blk_cell xF 1).trans rfl
              clear xb hm2
              go_wp2_with (go_at_call 55; refine hst.mono ?_; rintro e W30 ⟨rfl, hB30⟩; replace hB30 := Aside0.mk hB30)
              go_roundg (nz - i).toNat
              case measure => exact hi.out.2.2
              case rel =>
                have hN := HF.out.below hB30.out
                have hM := HE.out.trans HA.out.2.1.symm
                rw [hM] at hN
                exact ⟨i + 1, _, _, _, by simp [HA.out.2.2.2.2.2.2.2.2.2], ⟨by have := hi.out; omega, by have := HA.out.2.2.2.2.2.2.2.1; omega, by have := HA.out.2.2.2.2.2.2.2.1; omega⟩, ⟨hN⟩⟩
            · have d4 : (kk == 4) = false := beq_eq_false_iff_ne.2 c4
              by_cases c5 : kk = 5
              · have d5 : (kk == 5) = true := beq_iff_eq.2 c5
                have hkd := Aside0.mk c5
                clear c5 c4 c3
                have hmp := Aside0.mk (show playM mi (a1, a2) = restM mi a2 from playM_rest (by rw [← HA.out.2.2.2.2.2.2.2.2.1]; exact hkd.out))
                obtain ⟨hnd, hfew, hlot⟩ := HW.out.1.nodup
                have hc := find_calls HW.out.1.v HW.out.1.bw a2 (show mi.l.length ≤ 9223372036854775806 by omega)
                change Calls Try.prog 51 #[.agg #[.int .i64 mi.policy, .int .u64 mi.lot, .slice Aq2 nq2 cq2, .slice A8 n8 c8, .slice A9 n9 c9], .int .i64 a2] Wa (fun e w' => e = .returned (.int .i64 (findV mi.l a2)) ∧ Below Wa.heap.size Wa w') at hc
                have hrr : ∀ (u : World), Below Wa.heap.size Wa u → Calls Try.prog 52 #[.pointer (some ⟨g, 0, none⟩), .int .i64 a2] u fun e w' => e = .returned (.bool (decide (a2 ∈ mi.l))) ∧ IsReady w' W3.heap.size g Qr i (restM mi a2) ∧ Only Qr u w' := fun u hu => rest_calls u W3.heap.size g Qr i a2 mi (HW.out.1.r.below hu) HA.out.1.2
                obtain ⟨fv, hfv⟩ : ∃ fv, fv = findV mi.l a2 := ⟨_, rfl⟩
                have hfd2 : decide (0 ≤ fv) = decide (a2 ∈ mi.l) := by rw [hfv]; exact findV_neg
                rw [← hfv] at hc
                have xb := HW.out.1.b
                have y0 : Wa.cell? ⟨W5.heap.size, 0, none⟩ = some (.int .i64 mi.policy) := (blk_cell xb 0).trans rfl
                have y1 : Wa.cell? ⟨W5.heap.size, 1, none⟩ = some (.int .u64 mi.lot) := (blk_cell xb 1).trans rfl
                have y2 : Wa.cell? ⟨W5.heap.size, 2, none⟩ = some (.slice Aq2 nq2 cq2) := (blk_cell xb 2).trans rfl
                have y3 : Wa.cell? ⟨W5.heap.size, 3, none⟩ = some (.slice A8 n8 c8) := (blk_cell xb 3).trans rfl
                have y4 : Wa.cell? ⟨W5.heap.size, 4, none⟩ = some (.slice A9 n9 c9) := (blk_cell xb 4).trans rfl
                have q1 : Wa.cell? ⟨wr.heap.size, 1, none⟩ = some (.int .i64 a2) := (blk_cell HW.out.2.1 1).trans rfl
                replace hrr := Aside0.mk hrr
                replace hfv := Aside0.mk hfv
                have hNF := Aside0.mk (And.intro hnd (And.intro hfew hlot))
                clear hnd hfew hlot xb
                by_cases hin2 : a2 ∈ mi.l
                · rw [decide_eq_true hin2] at hfd2
                  have hbb : (true != decide (0 ≤ fv)) = false := by rw [hfd2]; rfl
                  replace hin2 := Aside0.mk hin2
                  go_upto_region 29 with (go_at_call 51; refine hc.mono ?_; rintro e W10 ⟨rfl, hB10⟩; have hP10 := Aside0.mk (HW.out.1.below hB10); have x10 := (hB10.block _ (blk_lt HW.out.2.1)).trans HW.out.2.1; have q10 : W10.cell? ⟨wr.heap.size, 1, none⟩ = some (.int .i64 a2) := (blk_cell x10 1).trans rfl; have h52 := hrr.out W10 hB10; rw [decide_eq_true hin2.out] at h52; replace hB10 := Aside0.mk hB10; replace x10 := Aside0.mk x10; clear y0 y1 y2 y3 y4)
                  clear hc q1
                  go_upto_region 32 with (go_at_call 52; refine h52.mono ?_; rintro e W11 ⟨rfl, hI11, hO11⟩; have hP11 := Aside0.mk (hP10.out.ready (hI11.mono (fun k hk => .inl hk)) (Nat.le_refl _) hO11); have x11 := Aside0.mk ((hO11.block _ (blk_lt x10.out) (fun hq => by have := HW.out.2.2.2.2 _ hq; omega)).trans x10.out); replace hO11 := Aside0.mk hO11; clear hI11)
                  have hc := rfrest_calls hP11.out.v hP11.out.bw hP11.out.bw.size fv (show 0 ≤ fv ∧ fv < mi.l.length by rw [hfv.out]; exact findV_range hin2.out) hNF.out.2.1
                  have hvv : { toRef mi with l := (toRef mi).l.take fv.toNat ++ (toRef mi).l.drop (fv.toNat + 1) } = toRef (restM mi a2) := by rw [restM_toRef hNF.out.1 hin2.out, hfv.out]
                  rw [hvv] at hc
                  have xb := hP11.out.b
                  have y0 : W11.cell? ⟨W5.heap.size, 0, none⟩ = some (.int .i64 mi.policy) := (blk_cell xb 0).trans rfl
                  have y1 : W11.cell? ⟨W5.heap.size, 1, none⟩ = some (.int .u64 mi.lot) := (blk_cell xb 1).trans rfl
                  have y2 : W11.cell? ⟨W5.heap.size, 2, none⟩ = some (.slice Aq2 nq2 cq2) := (blk_cell xb 2).trans rfl
                  have y3 : W11.cell? ⟨W5.heap.size, 3, none⟩ = some (.slice A8 n8 c8) := (blk_cell xb 3).trans rfl
                  have y4 : W11.cell? ⟨W5.heap.size, 4, none⟩ = some (.slice A9 n9 c9) := (blk_cell xb 4).trans rfl
                  clear h52 q10 hvv xb
                  go_upto_region 39 with (go_at_call 53; refine hc.mono ?_; rintro e W12 ⟨v12, rfl, hV12, hB12⟩; obtain ⟨p11, l11, A12, n12, c12, A13, n13, c13, A14, n14, c14, rfl⟩ := hV12.agg; have hP12 := hP11.out.below hB12; have xb := hP12.b; have f0 := blk_frozen xb 0; have f1 := blk_frozen xb 1; have f2 := blk_frozen xb 2; have f3 := blk_frozen xb 3; have f4 := blk_frozen xb 4; have t0 : W12.cell? ⟨W5.heap.size, 0, none⟩ = some (.int .i64 mi.policy) := (blk_cell xb 0).trans rfl; have t1 : W12.cell? ⟨W5.heap.size, 1, none⟩ = some (.int .u64 mi.lot) := (blk_cell xb 1).trans rfl; have t2 : W12.cell? ⟨W5.heap.size, 2, none⟩ = some (.slice Aq2 nq2 cq2) := (blk_cell xb 2).trans rfl; have t3 : W12.cell? ⟨W5.heap.size, 3, none⟩ = some (.slice A8 n8 c8) := (blk_cell xb 3).trans rfl; have t4 : W12.cell? ⟨W5.heap.size, 4, none⟩ = some (.slice A9 n9 c9) := (blk_cell xb 4).trans rfl; have xa12 := Aside0.mk ((hB12.block _ (blk_lt x11.out)).trans x11.out); replace hP12 := Aside0.mk hP12; replace hV12 := Aside0.mk hV12; replace hB12 := Aside0.mk hB12; clear xb)
                  have hF0 := hP12.out.store ⟨_, _, _, _, _, rfl⟩ hV12.out (fun k hk hlt => by
                    rcases hk with hk | hk
                    · exact ⟨(hP11.out.p k hk).1, (hP11.out.p k hk).2.2, fun hq => hP11.out.d k hq hk⟩
                    · exact ⟨by have := hP11.out.los; omega, by have := hP11.out.lt; omega, fun hq => by have := (hP11.out.q k hq).2.1; omega⟩)
                  have xF : (five W12 W5.heap.size (.int .i64 p11) (.int .u64 l11) (.slice A12 n12 c12) (.slice A13 n13 c13) (.slice A14 n14 c14)).heap[wr.heap.size]? = _ := ((five_only W12 W5.heap.size _ _ _ _ _).block _ (blk_lt xa12.out) (fun e => HWNE.out e)).trans xa12.out
                  clear t0 t1 t2 t3 t4 hc
                  obtain ⟨WF, hWF⟩ : ∃ WF, WF = five W12 W5.heap.size (.int .i64 p11) (.int .u64 l11) (.slice A12 n12 c12) (.slice A13 n13 c13) (.slice A14 n14 c14) := ⟨_, rfl⟩
                  have hWF' : WF = ((((W12.setCell ⟨W5.heap.size, 0, none⟩ (.int .i64 p11)).setCell ⟨W5.heap.size, 1, none⟩ (.int .u64 l11)).setCell ⟨W5.heap.size, 2, none⟩ (.slice A12 n12 c12)).setCell ⟨W5.heap.size, 3, none⟩ (.slice A13 n13 c13)).setCell ⟨W5.heap.size, 4, none⟩ (.slice A14 n14 c14) := hWF
                  rw [← hWF']
                  rw [← hWF] at hF0 xF
                  have HF := Aside0.mk (hF0.more (show i ≤ i + 1 by omega))
                  clear hWF hWF' hF0 y0 y1 y2 y3 y4 f0 f1 f2 f3 f4
                  have HE : Aside0 (restM mi a2 = playM mi (a1, a2)) := ⟨hmp.out.symm⟩
                  have hm2 := HE.out
                  have hst := stands_calls (x := a2) HF.out.r HF.out.v HF.out.bw HA.out.1.2 (by have := HA.out.2.2.2.2.2.2.1; omega) (by rw [hm2, HA.out.2.2.2.2.1]; exact hpol.out) (by have h9 := HA.out.2.2.2.2.2.1; rw [← hm2] at h9; omega)
                  have xb := HF.out.b
                  have y0 := (blk_cell xb 0).trans rfl
                  have y1 := (blk_cell xb 1).trans rfl
                  have y2 := (blk_cell xb 2).trans rfl
                  have y3 := (blk_cell xb 3).trans rfl
                  have y4 := (blk_cell xb 4).trans rfl
                  have q1 : WF.cell? ⟨wr.heap.size, 1, none⟩ = some (.int .i64 a2) := (blk_cell xF 1).trans rfl
                  clear xb hm2
                  go_wp2_with (go_at_call 55; refine hst.mono ?_; rintro e W30 ⟨rfl, hB30⟩; replace hB30 := Aside0.mk hB30)
                  go_roundg (nz - i).toNat
                  case measure => exact hi.out.2.2
                  case rel =>
                    have hN := HF.out.below hB30.out
                    have hM := HE.out.trans HA.out.2.1.symm
                    rw [hM] at hN
                    exact ⟨i + 1, _, _, _, by simp [HA.out.2.2.2.2.2.2.2.2.2], ⟨by have := hi.out; omega, by have := HA.out.2.2.2.2.2.2.2.1; omega, by have := HA.out.2.2.2.2.2.2.2.1; omega⟩, ⟨hN⟩⟩
                · rw [decide_eq_false hin2] at hfd2
                  have hbb : (false != decide (0 ≤ fv)) = false := by rw [hfd2]; rfl
                  replace hin2 := Aside0.mk hin2
                  go_upto_region 29 with (go_at_call 51; refine hc.mono ?_; rintro e W10 ⟨rfl, hB10⟩; have hP10 := Aside0.mk (HW.out.1.below hB10); have x10 := (hB10.block _ (blk_lt HW.out.2.1)).trans HW.out.2.1; have q10 : W10.cell? ⟨wr.heap.size, 1, none⟩ = some (.int .i64 a2) := (blk_cell x10 1).trans rfl; have h52 := hrr.out W10 hB10; rw [decide_eq_false hin2.out] at h52; replace hB10 := Aside0.mk hB10; replace x10 := Aside0.mk x10; clear y0 y1 y2 y3 y4)
                  clear hc q1
                  go_upto_region 39 with (go_at_call 52; refine h52.mono ?_; rintro e W11 ⟨rfl, hI11, hO11⟩; have hP11 := Aside0.mk (hP10.out.ready (hI11.mono (fun k hk => .inl hk)) (Nat.le_refl _) hO11); have x11 := Aside0.mk ((hO11.block _ (blk_lt x10.out) (fun hq => by have := HW.out.2.2.2.2 _ hq; omega)).trans x10.out); replace hO11 := Aside0.mk hO11; clear hI11)
                  have hre : restM mi a2 = mi := restM_not hin2.out
                  have hF0 := hP11.out
                  rw [hre] at hF0
                  have HF := Aside0.mk (hF0.more (show i ≤ i + 1 by omega))
                  have HE : Aside0 (mi = playM mi (a1, a2)) := ⟨(hmp.out.trans hre).symm⟩
                  have xF := x11.out
                  clear hF0 hre h52 q10
                  have hm2 := HE.out
                  have hst := stands_calls (x := a2) HF.out.r HF.out.v HF.out.bw HA.out.1.2 (by have := HA.out.2.2.2.2.2.2.1; omega) (by rw [hm2, HA.out.2.2.2.2.1]; exact hpol.out) (by have h9 := HA.out.2.2.2.2.2.1; rw [← hm2] at h9; omega)
                  have xb := HF.out.b
                  have y0 := (blk_cell xb 0).trans rfl
                  have y1 := (blk_cell xb 1).trans rfl
                  have y2 := (blk_cell xb 2).trans rfl
                  have y3 := (blk_cell xb 3).trans rfl
                  have y4 := (blk_cell xb 4).trans rfl
                  have q1 : W11.cell? ⟨wr.heap.size, 1, none⟩ = some (.int .i64 a2) := (blk_cell xF 1).trans rfl
                  clear xb hm2
                  go_wp2_with (go_at_call 55; refine hst.mono ?_; rintro e W30 ⟨rfl, hB30⟩; replace hB30 := Aside0.mk hB30)
                  go_roundg (nz - i).toNat
                  case measure => exact hi.out.2.2
                  case rel =>
                    have hN := HF.out.below hB30.out
                    have hM := HE.out.trans HA.out.2.1.symm
                    rw [hM] at hN
                    exact ⟨i + 1, _, _, _, by simp [HA.out.2.2.2.2.2.2.2.2.2], ⟨by have := hi.out; omega, by have := HA.out.2.2.2.2.2.2.2.1; omega, by have := HA.out.2.2.2.2.2.2.2.1; omega⟩, ⟨hN⟩⟩
              · have d5 : (kk == 5) = false := beq_eq_false_iff_ne.2 c5
                by_cases c6 : kk = 6
                · have d6 : (kk == 6) = true := beq_iff_eq.2 c6
                  have hkd := Aside0.mk c6
                  clear c6 c5 c4 c3
                  have hmp := Aside0.mk (show playM mi (a1, a2) = mi from playM_clone (by rw [← HA.out.2.2.2.2.2.2.2.2.1]; exact hkd.out))
                  have hc := rclone_calls Wa W3.heap.size g Qr i mi HW.out.1.r (by have := HA.out.2.2.2.2.2.2.1; omega) (by have := HA.out.2.2.2.1; omega)
                  have hQa := Aside0.mk (And.intro (fun (k : Nat) (hk : Qr k) => (HW.out.1.q k hk).2.1) (fun (k : Nat) (hk : P k) => (HW.out.1.p k hk).2.1))
                  go_upto_region 35 with (go_at_call 54; refine hc.mono ?_; rintro e W10 ⟨gc, rfl, hI10, hB10⟩; have hP10 := HW.out.1.below hB10; have x10 := (hB10.block _ (blk_lt HW.out.2.1)).trans HW.out.2.1)
                  clear hc
                  have hc := stands_calls (x := a2) hI10 hP10.v hP10.bw HA.out.1.2 (by omega) (by rw [HA.out.2.2.1]; exact hpol.out) (by have := HA.out.2.2.2.1; omega)
                  have xb := hP10.b
                  have y0 : W10.cell? ⟨W5.heap.size, 0, none⟩ = some (.int .i64 mi.policy) := (blk_cell xb 0).trans rfl
                  have y1 : W10.cell? ⟨W5.heap.size, 1, none⟩ = some (.int .u64 mi.lot) := (blk_cell xb 1).trans rfl
                  have y2 : W10.cell? ⟨W5.heap.size, 2, none⟩ = some (.slice Aq2 nq2 cq2) := (blk_cell xb 2).trans rfl
                  have y3 : W10.cell? ⟨W5.heap.size, 3, none⟩ = some (.slice A8 n8 c8) := (blk_cell xb 3).trans rfl
                  have y4 : W10.cell? ⟨W5.heap.size, 4, none⟩ = some (.slice A9 n9 c9) := (blk_cell xb 4).trans rfl
                  have q1 : W10.cell? ⟨wr.heap.size, 1, none⟩ = some (.int .i64 a2) := (blk_cell x10 1).trans rfl
                  replace hI10 := Aside0.mk hI10
                  replace hP10 := Aside0.mk hP10
                  replace x10 := Aside0.mk x10
                  replace hB10 := Aside0.mk hB10
                  clear xb
                  go_upto_region 37 with (go_at_call 55; refine hc.mono ?_; rintro e W11 ⟨rfl, hB11⟩; have hI11 := hI10.out.below hB11; have hP11 := Aside0.mk (hP10.out.below hB11); have x11 := (hB11.block _ (blk_lt x10.out)).trans x10.out)
                  clear hc q1 y0 y1 y2 y3 y4
                  have hc := wake_calls W11 Wa.heap.size gc (fun k => Wa.heap.size ≤ k) 65536 a2 mi hI11 HA.out.1.2 (by omega)
                  obtain ⟨E, hE⟩ : ∃ E, E = putE mi.l a2 := ⟨_, rfl⟩
                  rw [← hE] at hc
                  have q1 : W11.cell? ⟨wr.heap.size, 1, none⟩ = some (.int .i64 a2) := (blk_cell x11 1).trans rfl
                  have hs11 := Aside0.mk (show Wa.heap.size ≤ W11.heap.size from Nat.le_trans hB10.out.size hB11.size)
                  replace x11 := Aside0.mk x11
                  clear hI11 hB11 hE
                  go_upto_region 38 with (go_at_call 14; refine hc.mono ?_; rintro e W12 ⟨rfl, hI12, hO12⟩; have hP12 := Aside0.mk (hP11.out.only hO12 (fun k hk hf => by have := hQa.out.1 k hk; omega) (fun k hk hf => by have := hQa.out.2 k hk; omega) (fun hf => by have := HW.out.1.lt; omega) (fun k hk hf => by have := HW.out.1.los; omega)); have x12 := Aside0.mk ((hO12.block _ (blk_lt x11.out) (fun hf => by have := HW.out.2.2.1; omega)).trans x11.out); have hs12 := Aside0.mk (Nat.le_trans hs11.out hO12.size); clear hO12)
                  clear hc q1
                  have hc := pick_calls W12 Wa.heap.size gc (fun k => Wa.heap.size ≤ k) 65537 (wakeM mi a2) hI12 (by omega) (show mi.told.length ≤ 17592186044415 by have := HA.out.2.2.2.1; omega) hs12.out
                  obtain ⟨V, hV⟩ : ∃ V, V = pickV (wakeM mi a2) := ⟨_, rfl⟩
                  obtain ⟨bt, hbt⟩ : ∃ bt, bt = decide ((wakeM mi a2).l ≠ []) := ⟨_, rfl⟩
                  rw [← hV, ← hbt] at hc
                  clear hV hbt hI12
                  go_upto_region 39 with (go_at_call 15; refine hc.mono ?_; rintro e W13 ⟨rfl, hI13, hO13⟩; have hP13 := hP12.out.only hO13 (fun k hk hf => by have := hQa.out.1 k hk; omega) (fun k hk hf => by have := hQa.out.2 k hk; omega) (fun hf => by have := HW.out.1.lt; omega) (fun k hk hf => by have := HW.out.1.los; omega); have xF := (hO13.block _ (blk_lt x12.out) (fun hf => by have := HW.out.2.2.1; omega)).trans x12.out; clear hI13 hO13)
                  have HF := Aside0.mk (hP13.more (show i ≤ i + 1 by omega))
                  have HE : Aside0 (mi = playM mi (a1, a2)) := ⟨hmp.out.symm⟩
                  clear hP13 hc
                  have hm2 := HE.out
                  have hst := stands_calls (x := a2) HF.out.r HF.out.v HF.out.bw HA.out.1.2 (by have := HA.out.2.2.2.2.2.2.1; omega) (by rw [hm2, HA.out.2.2.2.2.1]; exact hpol.out) (by have h9 := HA.out.2.2.2.2.2.1; rw [← hm2] at h9; omega)
                  have xb := HF.out.b
                  have y0 := (blk_cell xb 0).trans rfl
                  have y1 := (blk_cell xb 1).trans rfl
                  have y2 := (blk_cell xb 2).trans rfl
                  have y3 := (blk_cell xb 3).trans rfl
                  have y4 := (blk_cell xb 4).trans rfl
                  have q1 : W13.cell? ⟨wr.heap.size, 1, none⟩ = some (.int .i64 a2) := (blk_cell xF 1).trans rfl
                  clear xb hm2
                  go_wp2_with (go_at_call 55; refine hst.mono ?_; rintro e W30 ⟨rfl, hB30⟩; replace hB30 := Aside0.mk hB30)
                  go_roundg (nz - i).toNat
                  case measure => exact hi.out.2.2
                  case rel =>
                    have hN := HF.out.below hB30.out
                    have hM := HE.out.trans HA.out.2.1.symm
                    rw [hM] at hN
                    exact ⟨i + 1, _, _, _, by simp [HA.out.2.2.2.2.2.2.2.2.2], ⟨by have := hi.out; omega, by have := HA.out.2.2.2.2.2.2.2.1; omega, by have := HA.out.2.2.2.2.2.2.2.1; omega⟩, ⟨hN⟩⟩
                · have d6 : (kk == 6) = false := beq_eq_false_iff_ne.2 c6
                  have hk0 := HA.out.2.2.2.2.2.2.2.2.1
                  have hk3 := Aside0.mk (show kindOf a1 ≠ 3 by rw [← hk0]; exact c3)
                  have hk4 := Aside0.mk (show kindOf a1 ≠ 4 by rw [← hk0]; exact c4)
                  have hk5 := Aside0.mk (show kindOf a1 ≠ 5 by rw [← hk0]; exact c5)
                  have hk6 := Aside0.mk (show kindOf a1 ≠ 6 by rw [← hk0]; exact c6)
                  clear hk0 c6 c5 c4 c3
                  have hmp := Aside0.mk (show playM mi (a1, a2) = wakeM mi a2 from playM_wake hk3.out hk4.out hk5.out hk6.out)
                  obtain ⟨hnd, hfew, hlot⟩ := HW.out.1.nodup
                  have hc := rfwake_calls HW.out.1.v HW.out.1.bw HW.out.1.bw.size a2 hfew
                  obtain ⟨E, hE⟩ : ∃ E, E = putE mi.l a2 := ⟨_, rfl⟩
                  have hwk : ∀ u, Below Wa.heap.size Wa u → Calls Try.prog 14 #[.pointer (some ⟨g, 0, none⟩), .int .i64 a2] u fun e w' => e = .returned (.int .i64 (putE mi.l a2)) ∧ IsReady w' W3.heap.size g Qr (i + 1) (wakeM mi a2) ∧ Only Qr u w' := fun u hu => wake_calls u W3.heap.size g Qr i a2 mi (HW.out.1.r.below hu) HA.out.1.2 (by have := HA.out.2.2.2.2.2.2.1; omega)
                  have hEE : (E != E) = false := by simp
                  change Calls Try.prog 56 #[.agg #[.int .i64 mi.policy, .int .u64 mi.lot, .slice Aq2 nq2 cq2, .slice A8 n8 c8, .slice A9 n9 c9], .int .i64 a2] Wa (fun e w' => ∃ v', e = .returned (.tuple #[v', .int .i64 (putE mi.l a2)]) ∧ RefV w w.heap.size (fun k => P k ∨ Wa.heap.size ≤ k) w' v' (toRef (wakeM mi a2)) ∧ Below Wa.heap.size Wa w') at hc
                  rw [← hE] at hc hwk
                  have xb := HW.out.1.b
                  have y0 : Wa.cell? ⟨W5.heap.size, 0, none⟩ = some (.int .i64 mi.policy) := (blk_cell xb 0).trans rfl
                  have y1 : Wa.cell? ⟨W5.heap.size, 1, none⟩ = some (.int .u64 mi.lot) := (blk_cell xb 1).trans rfl
                  have y2 : Wa.cell? ⟨W5.heap.size, 2, none⟩ = some (.slice Aq2 nq2 cq2) := (blk_cell xb 2).trans rfl
                  have y3 : Wa.cell? ⟨W5.heap.size, 3, none⟩ = some (.slice A8 n8 c8) := (blk_cell xb 3).trans rfl
                  have y4 : Wa.cell? ⟨W5.heap.size, 4, none⟩ = some (.slice A9 n9 c9) := (blk_cell xb 4).trans rfl
                  have q1 : Wa.cell? ⟨wr.heap.size, 1, none⟩ = some (.int .i64 a2) := (blk_cell HW.out.2.1 1).trans rfl
                  replace hwk := Aside0.mk hwk
                  clear hnd hfew hlot hE xb
                  go_upto_region 17 with (go_at_call 56; refine hc.mono ?_; rintro e W11 ⟨v11, rfl, hV11, hB11⟩; obtain ⟨p11, l11, A12, n12, c12, A13, n13, c13, A14, n14, c14, rfl⟩ := hV11.agg; replace hV11 := Aside0.mk hV11; replace hB11 := Aside0.mk hB11)
                  clear y0 y1 y2 y3 y4 hc q1
                  obtain ⟨W12, hW12⟩ : ∃ W12, W12 = W11.alloc (Obj.cells #[.int .i64 p11, .int .u64 l11, .slice A12 n12 c12, .slice A13 n13 c13, .slice A14 n14 c14] 80) := ⟨_, rfl⟩
                  have b12 : Below W11.heap.size W11 W12 := by rw [hW12]; exact (Below.refl _ _).alloc (Nat.le_refl _) _
                  have x12 : W12.heap[W11.heap.size]? = some (.cells #[.int .i64 p11, .int .u64 l11, .slice A12 n12 c12, .slice A13 n13 c13, .slice A14 n14 c14] 80 (0, 0)) := by rw [hW12]; exact heap_alloc_new W11 _
                  rw [← hW12]
                  have ba12 : Below Wa.heap.size Wa W12 := hB11.out.trans (b12.mono hB11.out.size)
                  have hP12 := HW.out.1.below ba12
                  have hV12 := hV11.out.below b12
                  have xa12 := (ba12.block _ (blk_lt HW.out.2.1)).trans HW.out.2.1
                  have q1 : W12.cell? ⟨wr.heap.size, 1, none⟩ = some (.int .i64 a2) := (blk_cell xa12 1).trans rfl
                  have hc := hwk.out W12 ba12
                  have hne : W5.heap.size ≠ W11.heap.size := by have := HW.out.1.lt; have := hB11.out.size; omega
                  have hs := Aside0.mk hB11.out.size
                  replace hP12 := Aside0.mk hP12
                  replace hV12 := Aside0.mk hV12
                  replace xa12 := Aside0.mk xa12
                  replace x12 := Aside0.mk x12
                  clear hW12 b12 ba12 hB11 hV11
                  go_upto_region 19 with (go_at_call 14; refine hc.mono ?_; rintro e W13 ⟨rfl, hI13, hO13⟩; have hP13 := hP12.out.ready (hI13.mono (fun k hk => .inl hk)) (Nat.le_refl _) hO13; have hV13 := hV12.out.tight.only hO13 (fun k hk hq => by rcases hk.1 with hk1 | hk1; exact HW.out.1.d k hq hk1; have := (HW.out.1.q k hq).2.1; omega); have x13 := (hO13.block _ (blk_lt x12.out) (fun hq => by have := HW.out.2.2.2.2 _ hq; have := HW.out.2.2.1; have := hs.out; omega)).trans x12.out; have xa13 := (hO13.block _ (blk_lt xa12.out) (fun hq => by have := HW.out.2.2.2.2 _ hq; omega)).trans xa12.out; clear hI13)
                  have t0 : W13.cell? ⟨W11.heap.size, 0, none⟩ = some (.int .i64 p11) := (blk_cell x13 0).trans rfl
                  have t1 : W13.cell? ⟨W11.heap.size, 1, none⟩ = some (.int .u64 l11) := (blk_cell x13 1).trans rfl
                  have t2 : W13.cell? ⟨W11.heap.size, 2, none⟩ = some (.slice A12 n12 c12) := (blk_cell x13 2).trans rfl
                  have t3 : W13.cell? ⟨W11.heap.size, 3, none⟩ = some (.slice A13 n13 c13) := (blk_cell x13 3).trans rfl
                  have t4 : W13.cell? ⟨W11.heap.size, 4, none⟩ = some (.slice A14 n14 c14) := (blk_cell x13 4).trans rfl
                  have xb := hP13.b
                  have y0 : W13.cell? ⟨W5.heap.size, 0, none⟩ = some (.int .i64 mi.policy) := (blk_cell xb 0).trans rfl
                  have y1 : W13.cell? ⟨W5.heap.size, 1, none⟩ = some (.int .u64 mi.lot) := (blk_cell xb 1).trans rfl
                  have y2 : W13.cell? ⟨W5.heap.size, 2, none⟩ = some (.slice Aq2 nq2 cq2) := (blk_cell xb 2).trans rfl
                  have y3 : W13.cell? ⟨W5.heap.size, 3, none⟩ = some (.slice A8 n8 c8) := (blk_cell xb 3).trans rfl
                  have y4 : W13.cell? ⟨W5.heap.size, 4, none⟩ = some (.slice A9 n9 c9) := (blk_cell xb 4).trans rfl
                  have f0 := blk_frozen xb 0
                  have f1 := blk_frozen xb 1
                  have f2 := blk_frozen xb 2
                  have f3 := blk_frozen xb 3
                  have f4 := blk_frozen xb 4
                  replace hP13 := Aside0.mk hP13
                  replace hV13 := Aside0.mk hV13
                  replace xa13 := Aside0.mk xa13
                  replace hO13 := Aside0.mk hO13
                  clear xb x13 hc q1
                  go_upto_region 39 with fail
                  have hF0 := hP13.out.store ⟨_, _, _, _, _, rfl⟩ hV13.out (fun k hk hlt => by
                    have hq0 : ¬ (Qr k ∨ W12.heap.size ≤ k) := by
                      rintro (hq | hq)
                      · rcases hk.1 with hk1 | hk1
                        · exact HW.out.1.d k hq hk1
                        · have := (HW.out.1.q k hq).2.1; omega
                      · have := hk.2; omega
                    rcases hk.1 with hk1 | hk1
                    · exact ⟨(HW.out.1.p k hk1).1, (HW.out.1.p k hk1).2.2, fun hq => hq0 hq.1⟩
                    · exact ⟨by have := HW.out.1.los; omega, by have := HW.out.1.lt; omega, fun hq => hq0 hq.1⟩)
                  have xF : (five W13 W5.heap.size (.int .i64 p11) (.int .u64 l11) (.slice A12 n12 c12) (.slice A13 n13 c13) (.slice A14 n14 c14)).heap[wr.heap.size]? = _ := ((five_only W13 W5.heap.size _ _ _ _ _).block _ (blk_lt xa13.out) (fun e => HWNE.out e)).trans xa13.out
                  clear t0 t1 t2 t3 t4 hne
                  obtain ⟨WF, hWF⟩ : ∃ WF, WF = five W13 W5.heap.size (.int .i64 p11) (.int .u64 l11) (.slice A12 n12 c12) (.slice A13 n13 c13) (.slice A14 n14 c14) := ⟨_, rfl⟩
                  have hWF' : WF = ((((W13.setCell ⟨W5.heap.size, 0, none⟩ (.int .i64 p11)).setCell ⟨W5.heap.size, 1, none⟩ (.int .u64 l11)).setCell ⟨W5.heap.size, 2, none⟩ (.slice A12 n12 c12)).setCell ⟨W5.heap.size, 3, none⟩ (.slice A13 n13 c13)).setCell ⟨W5.heap.size, 4, none⟩ (.slice A14 n14 c14) := hWF
                  rw [← hWF']
                  rw [← hWF] at hF0 xF
                  have HF := Aside0.mk hF0
                  clear hWF hWF' hF0 y0 y1 y2 y3 y4 f0 f1 f2 f3 f4
                  have HE : Aside0 (wakeM mi a2 = playM mi (a1, a2)) := ⟨hmp.out.symm⟩
                  have hm2 := HE.out
                  have hst := stands_calls (x := a2) HF.out.r HF.out.v HF.out.bw HA.out.1.2 (by have := HA.out.2.2.2.2.2.2.1; omega) (by rw [hm2, HA.out.2.2.2.2.1]; exact hpol.out) (by have h9 := HA.out.2.2.2.2.2.1; rw [← hm2] at h9; omega)
                  have xb := HF.out.b
                  have y0 := (blk_cell xb 0).trans rfl
                  have y1 := (blk_cell xb 1).trans rfl
                  have y2 := (blk_cell xb 2).trans rfl
                  have y3 := (blk_cell xb 3).trans rfl
                  have y4 := (blk_cell xb 4).trans rfl
                  have q1 : WF.cell? ⟨wr.heap.size, 1, none⟩ = some (.int .i64 a2) := (blk_cell xF 1).trans rfl
                  clear xb hm2
                  go_wp2_with (go_at_call 55; refine hst.mono ?_; rintro e W30 ⟨rfl, hB30⟩; replace hB30 := Aside0.mk hB30)
                  go_roundg (nz - i).toNat
                  case measure => exact hi.out.2.2
                  case rel =>
                    have hN := HF.out.below hB30.out
                    have hM := HE.out.trans HA.out.2.1.symm
                    rw [hM] at hN
                    exact ⟨i + 1, _, _, _, by simp [HA.out.2.2.2.2.2.2.2.2.2], ⟨by have := hi.out; omega, by have := HA.out.2.2.2.2.2.2.2.1; omega, by have := HA.out.2.2.2.2.2.2.2.1; omega⟩, ⟨hN⟩⟩
        · have hlt2 : decide (i < (nz : Int)) = false := decide_eq_false hin
          have hb := hI.out.bw
          replace hb := Aside0.mk hb
          go_wp2
          go_ret
          exact ⟨rfl, hb.out⟩
end Go.Proofs.Ytljckmiphkoipaa
