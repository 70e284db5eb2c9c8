/-
  ReadyAgain: the walk.
-/
import Derived.Test.YtljckmiphkoipaaReady6
import Derived.Test.YtljckmiphkoipaaPRdx16
import Derived.Deep.RegionWith
namespace Go.Proofs.Ytljckmiphkoipaa
set_option linter.unusedVariables false
set_option linter.unusedSimpArgs false
open Go.RowKit Go.MapKept Go.Maps Go.Proofs.YtljckmiphkoipaaW.PrintWords Go.Proofs.YtljckmiphkoipaaW.PrintLast Go.Proofs.YtljckmiphkoipaaW.PrintMore

theorem IntsAt.below {w w' : World} {v : Value} {zs : List Int} (h : IntsAt w v zs) (hb : Below w.heap.size w w') : IntsAt w' v zs := by
  rcases h with h | ⟨bb, off, c, h1, h2, h3⟩
  · exact .inl h
  · exact .inr ⟨bb, off, c, h1, h2, fun j hj => pw_cell_below hb (h3 j hj)⟩

/-- The same list is the same. -/
theorem same_loop (l : List Int) (hl : l.length ≤ 9223372036854775806) : ∀ (d : Nat) (i : Int), 0 ≤ i → (l.length : Int) - i = d → PRd.convoylaw22_same.l0 (d + 1) l l (l.length : Int) i = some true
  | 0, i, h0, h1 => by
    unfold PRd.convoylaw22_same.l0
    rw [if_neg (by omega)]
  | d + 1, i, h0, h1 => by
    unfold PRd.convoylaw22_same.l0
    rw [if_pos (by omega), if_pos h0, if_pos (by omega), if_pos (by omega), if_pos rfl, w64 _ (by omega)]
    exact same_loop l hl d (i + 1) (by omega) (by omega)
theorem same_calls {w : World} {b1 b2 : Nat} {ok1 ok2 : Nat → Prop} {v1 v2 : Value} {l : List Int} (h1 : (Kd.int .i64).R 3 w b1 ok1 v1 l) (h2 : (Kd.int .i64).R 3 w b2 ok2 v2 l) (hl : l.length ≤ 9223372036854775806) :
    Calls Try.prog 20 #[v1, v2] w fun e w' => e = .returned (.bool true) ∧ Below w.heap.size w w' := by
  obtain ⟨A1, c1, rfl, hc1, hC1⟩ := Kd.R_reads h1
  obtain ⟨A2, c2, rfl, hc2, hC2⟩ := Kd.R_reads h2
  refine (PRd.convoylaw22_same.calls (l.length + 1) A1 c1 l A2 c2 l true w hC1 hc1 hC2 hc2 ?_).mono ?_
  · unfold PRd.convoylaw22_same.f
    rw [if_pos rfl]
    exact same_loop l hl l.length 0 (by omega) (by omega)
  · rintro e w' ⟨rfl, ⟨d, rfl⟩⟩
    exact ⟨rfl, ⟨rfl, rfl, rfl, Nat.le_refl _, fun _ _ => rfl⟩⟩

/-- A slice of two-int structs that comes in. -/
structure ActsArg (w : World) (v : Value) (zs : List (Int × Int)) : Prop where
  shape : ∃ A c, v = .slice A zs.length c
  cells : ∀ A c, v = .slice A zs.length c → ∀ j : Int, 0 ≤ j → j < zs.length → ∃ ad, A = some ad ∧ w.cell? (ad.add (j.toNat * 2)) = some (.int .i64 (zs.getD j.toNat (0, 0)).1) ∧
    w.cell? ⟨(ad.add (j.toNat * 2)).block, (ad.add (j.toNat * 2)).off + 1, none⟩ = some (.int .i64 (zs.getD j.toNat (0, 0)).2)
  good : ∀ a ∈ zs, goodI a.1 ∧ goodI a.2
  few : zs.length * 16 ≤ 140737488351232

theorem acts_take (zs : List (Int × Int)) {j : Int} (h0 : 0 ≤ j) (h1 : j < zs.length) : zs.take (j + 1).toNat = zs.take j.toNat ++ [zs.getD j.toNat (0, 0)] := by
  rw [show (j + 1).toNat = j.toNat + 1 by omega, List.take_add_one, List.getElem?_eq_getElem (by omega), List.getD_eq_getElem?_getD, List.getElem?_eq_getElem (by omega)]
  rfl

theorem runV_get : ∀ (s : List (Int × Int)) (m : RM) (j : Nat), j < s.length → (runV m s).getD j 0 = doneV (runM m (s.take j)) (s.getD j (0, 0))
  | a :: s, m, 0, _ => rfl
  | a :: s, m, j + 1, h => runV_get s (doneM m a) j (by simpa using h)
theorem Only.ofBelowAt {B : Nat} {w w' : World} (h : Below B w w') : Only (fun k => B ≤ k) w w' := ⟨h.os, h.tape, h.output, h.size, fun k _ hn => h.block k (by omega)⟩

section
variable (pol seed p2 : Int) (vp vs : Value) (ps : List Int) (zs : List (Int × Int)) (w : World)
theorem readyAgain_bad (hbad : ∀ u, Below w.heap.size w u → ∃ ee, (ee != 0) = true ∧ Calls Try.prog 12 #[.int .i64 pol, .int .u64 seed, vp] u fun e w' => e = .returned (.tuple #[.pointer none, .int .i64 ee]) ∧ w' = u) (hvp : ∃ A n c, vp = .slice A n c) :
    Calls Try.prog 4 #[.agg #[.int .i64 pol, .int .u64 seed, vp], .int .i64 p2, vs] w fun e w' => e = .returned (.bool true) ∧ Below w.heap.size w w' := by
  have hb0 : Below w.heap.size w (w.alloc (.cells #[.int .i64 pol, .int .u64 seed, vp] 36)) := (Below.refl _ _).alloc (Nat.le_refl _) _
  obtain ⟨ee, hee, hnew⟩ := hbad _ hb0
  obtain ⟨A, nn, c, rfl⟩ := hvp
  replace hb0 := Aside0.mk hb0
  clear hbad
  go_enter Try.func4, Try.ntmps4
  go_wp2_with (first
    | (go_at_call 12; refine hnew.mono ?_; rintro e w1 ⟨rfl, rfl⟩)
    | (go_at_call 13; refine (awake_calls _).mono ?_; rintro e w2 ⟨rfl, hB2⟩; replace hb0 := Aside0.mk (hb0.out.trans (hB2.mono hb0.out.size)); clear hB2))
  go_ret
  exact ⟨by first | rfl | simp, hb0.out⟩

set_option maxRecDepth 100000 in
set_option maxHeartbeats 16000000 in
theorem readyAgain_good (hpol : 0 ≤ pol ∧ pol ≤ 4) (hseed : in64 seed) (hvp : IntsAt w vp ps) (hps : ps.length ≤ 65536) (hzs : ActsArg w vs zs) (hp2 : goodI p2) :
    Calls Try.prog 4 #[.agg #[.int .i64 pol, .int .u64 seed, vp], .int .i64 p2, vs] w fun e w' => e = .returned (.bool true) ∧ Below w.heap.size w w' := by
  have hb0 : Below w.heap.size w (w.alloc (.cells #[.int .i64 pol, .int .u64 seed, vp] 36)) := (Below.refl _ _).alloc (Nat.le_refl _) _
  have hnew := new_calls (w.alloc (.cells #[.int .i64 pol, .int .u64 seed, vp] 36)) pol seed vp ps (hvp.below hb0) hpol hps hseed
  have hs0 : (w.alloc (.cells #[.int .i64 pol, .int .u64 seed, vp] 36)).heap.size = w.heap.size + 1 := by simp
  have hx0 : (w.alloc (.cells #[.int .i64 pol, .int .u64 seed, vp] 36)).heap[w.heap.size]? = some (.cells #[.int .i64 pol, .int .u64 seed, vp] 36 (0, 0)) := heap_alloc_new w _
  rw [hs0] at hnew
  obtain ⟨A, c, hvs⟩ := hzs.shape
  have hcl := hzs.cells A c hvs
  subst hvs
  obtain ⟨Ap, np, cp, hvp'⟩ : ∃ A n c, vp = .slice A n c := by
    rcases hvp with ⟨A, c, rfl, rfl⟩ | ⟨gb, off, cap, rfl, _⟩
    · exact ⟨_, _, _, rfl⟩
    · exact ⟨_, _, _, rfl⟩
  subst hvp'
  obtain ⟨nz, hnz⟩ : ∃ nz : Nat, nz = zs.length := ⟨_, rfl⟩
  rw [← hnz] at hcl ⊢
  obtain ⟨W0, hW0⟩ : ∃ W0, W0 = w.alloc (.cells #[.int .i64 pol, .int .u64 seed, .slice Ap np cp] 36) := ⟨_, rfl⟩
  have HZ := Aside0.mk (And.intro hzs.good (And.intro hzs.few (And.intro hnz (And.intro hcl (And.intro hpol (And.intro hseed hp2))))))
  rw [← hW0] at hb0 hnew hs0 hx0
  replace hb0 := Aside0.mk hb0
  replace hs0 := Aside0.mk hs0
  replace hx0 := Aside0.mk hx0
  rw [hW0] at hnew
  replace hW0 := Aside0.mk hW0
  clear hzs hnz hcl hpol hseed hp2 hvp hps
  go_enter Try.func4, Try.ntmps4
  go_wp2_with (first
    | (go_at_call 12; refine hnew.mono ?_; rintro e w1 ⟨g, rfl, hI, hB⟩; rw [← hW0.out] at hB; replace hI := Aside0.mk hI; replace hB := Aside0.mk hB)
    | (go_at_call 13; refine (awake_calls _).mono ?_; rintro e w2 ⟨rfl, hB2⟩; replace hB2 := Aside0.mk hB2))
  obtain ⟨m0, hm0⟩ : ∃ m0 : RM, m0 = ⟨pol, seed, ps, [], []⟩ := ⟨_, rfl⟩
  rw [← hm0] at hI
  have s1 : w.heap.size + 1 ≤ w1.heap.size := by have := hB.out.size; have := hs0.out; omega
  have s2 : w1.heap.size ≤ w2.heap.size := hB2.out.size
  have b0 : Below w2.heap.size w2 (w2.alloc (Obj.cells #[] 3)) := (Below.refl _ _).alloc (Nat.le_refl _) _
  have sA : (w2.alloc (Obj.cells #[] 3)).heap.size = w2.heap.size + 1 := by simp
  have hI3 := Aside0.mk (((hI.out.below hB2.out).tight).below b0)
  have hR3 := Aside0.mk (R_lit0 w2 (w.heap.size + 1) (fun k => w2.heap.size ≤ k ∧ k < w2.heap.size + 1) (by omega) ⟨by omega, by omega⟩)
  have hB3 := Aside0.mk ((hB.out.trans (hB2.out.mono (by have := hs0.out; omega))).trans (b0.mono (by have := hs0.out; omega)))
  replace sA := Aside0.mk sA
  replace s1 := Aside0.mk s1
  replace s2 := Aside0.mk s2
  replace hm0 := Aside0.mk hm0
  clear b0 hI hB hB2 hnew
  go_loopg [40, 9] (nz + 1) (fun kq v40 v9 w' => ∃ (i : Int) (Qr Qs : Nat → Prop), v40 = .int .i64 i ∧ Aside0 (0 ≤ i ∧ i ≤ nz ∧ (nz - i).toNat < kq) ∧ Aside0 (IsReady w' (w.heap.size + 1) g Qr i (runM m0 (zs.take i.toNat))) ∧
    Aside0 ((Kd.int .i64).R 3 w' (w.heap.size + 1) Qs v9 (runV m0 (zs.take i.toNat))) ∧ Aside0 (∀ k, Qr k → ¬ Qs k) ∧ Aside0 (∀ k, Qr k → w.heap.size + 1 ≤ k ∧ k < w'.heap.size) ∧ Aside0 (∀ k, Qs k → w.heap.size + 1 ≤ k ∧ k < w'.heap.size) ∧ Aside0 (Below (w.heap.size + 1) W0 w'))
  case atStart =>
    refine ⟨0, _, _, rfl, ⟨by omega, by omega, by omega⟩, hI3, hR3, ⟨fun k h1 h2 => by omega⟩, ⟨fun k h => by have := sA.out; omega⟩, ⟨fun k h => by have := sA.out; have := s1.out; have := s2.out; omega⟩, hB3⟩
  case round =>
    obtain ⟨i, Qr, Qs, rfl, hi, hI, hR, hd, hqr, hqs, hB⟩ := hrel
    have hsw : w.heap.size + 1 ≤ wr.heap.size := by have := hB.out.size; have := hs0.out; omega
    by_cases hin : i < nz
    · have hlt : decide (i < (nz : Int)) = true := decide_eq_true hin
      have p1 : 0 ≤ i := hi.out.1
      obtain ⟨ad, eA, hx1, hx2⟩ := HZ.out.2.2.2.1 i p1 hin
      cases eA
      obtain ⟨a, haa⟩ : ∃ a, a = zs.getD i.toNat (0, 0) := ⟨_, rfl⟩
      rw [← haa] at hx1 hx2
      have hww : ∀ p u, w.cell? p = some u → wr.cell? p = some u := fun p u h => pw_cell_below (hb0.out.trans (hB.out.mono (by omega))) h
      replace hx1 := hww _ _ hx1
      replace hx2 := hww _ _ hx2
      have hga : goodI a.1 ∧ goodI a.2 := by
        rw [haa, List.getD_eq_getElem?_getD, List.getElem?_eq_getElem (by have := HZ.out.2.2.1; omega)]
        exact HZ.out.1 _ (List.getElem_mem _)
      obtain ⟨a1, a2⟩ := a
      simp only at hx1 hx2 hga
      have htk := acts_take zs p1 (by have := HZ.out.2.2.1; omega)
      rw [← haa] at htk
      have HA := Aside0.mk (And.intro haa (And.intro hga (And.intro htk (And.intro hin hsw))))
      clear haa hga htk hww hsw
      replace p1 := eq_true p1
      replace hin := eq_true hin
      go_upto_region 8 with fail
      have hbA : Below wr.heap.size wr (wr.alloc (Obj.cells #[.int .i64 a1, .int .i64 a2] 39)) := (Below.refl _ _).alloc (Nat.le_refl _) _
      have hsA : (wr.alloc (Obj.cells #[.int .i64 a1, .int .i64 a2] 39)).heap.size = wr.heap.size + 1 := by simp
      have hxA : (wr.alloc (Obj.cells #[.int .i64 a1, .int .i64 a2] 39)).heap[wr.heap.size]? = some (.cells #[.int .i64 a1, .int .i64 a2] 39 (0, 0)) := heap_alloc_new wr _
      obtain ⟨Wa, hWa⟩ : ∃ Wa, Wa = wr.alloc (Obj.cells #[.int .i64 a1, .int .i64 a2] 39) := ⟨_, rfl⟩
      rw [← hWa] at hbA hsA hxA ⊢
      have cA0 : Wa.cell? ⟨wr.heap.size, 0, none⟩ = some (.int .i64 a1) := (blk_cell hxA 0).trans rfl
      have cA1 : Wa.cell? ⟨wr.heap.size, 1, none⟩ = some (.int .i64 a2) := (blk_cell hxA 1).trans rfl
      obtain ⟨tt, htt, htl⟩ := runM_told m0 (zs.take i.toNat)
      have htoldlen : (runM m0 (zs.take i.toNat)).told.length ≤ 17592186044415 := by
        rw [htt, hm0.out]
        simp at htl ⊢
        have := HZ.out.2.1; omega
      have hdn := done_calls Wa (w.heap.size + 1) g Qr i a1 a2 _ (hI.out.below hbA) HA.out.2.1.1 HA.out.2.1.2 (by have := hi.out; have := HZ.out.2.1; have := HZ.out.2.2.1; omega) htoldlen (by have := HA.out.2.2.2.2; omega)
      obtain ⟨V, hV⟩ : ∃ V, V = doneV (runM m0 (zs.take i.toNat)) (a1, a2) := ⟨_, rfl⟩
      have hM1 : doneM (runM m0 (zs.take i.toNat)) (a1, a2) = runM m0 (zs.take (i + 1).toNat) := by rw [HA.out.2.2.1, runM_append]; rfl
      have hV1 : runV m0 (zs.take (i + 1).toNat) = runV m0 (zs.take i.toNat) ++ [V] := by rw [HA.out.2.2.1, runV_append, hV]; rfl
      rw [← hV, hM1] at hdn
      have hRA := R_only hR.out (Only.ofBelow (F := fun _ => False) hbA) (fun _ _ h => h)
      have hiw : wrap64 (i + 1) = i + 1 := w64 _ (by have := hi.out; have := HZ.out.2.1; have := HZ.out.2.2.1; omega)
      have hvl : (runV m0 (zs.take i.toNat)).length ≤ 8796093022208 := by rw [runV_length, List.length_take]; have := HZ.out.2.1; omega
      have HB := Aside0.mk (And.intro hV1 (And.intro hRA (And.intro hiw (And.intro hvl (And.intro hsA (And.intro hbA hxA))))))
      clear hV hM1 hV1 hRA hiw hvl hsA hbA hxA hWa htt htl htoldlen hx1 hx2
      go_wp2_with (first
        | (go_at_call 18; refine hdn.mono ?_; rintro e w3 ⟨rfl, hI4, hO4⟩; have hs3 := Aside0.mk hO4.size; have hI5 := Aside0.mk hI4.tight; have hO5 := Aside0.mk hO4; have hR5 := Aside0.mk (R_only HB.out.2.1 hO4 (fun k h1 h2 => hd.out k h2 h1)); clear hI4 hO4)
        | ((with_reducible refine gate_builtin (b := .append) (xs := #[.tmp 44, .tmp 48]) rfl ?_); at_builtin; refine Kd.R_append (Kd.int .i64) (w0 := w3) (w.heap.size + 1) rfl (.tmp 44) (.tmp 48) 22 3 (.int .i64 0) 8 rfl undSI info3 rfl (by decide) (by decide) u9 _ V [.int .i64 V] (fun k => Qs k ∨ w3.heap.size ≤ k) (fun _ => False) rfl rfl rfl (fun _ h => h.elim) (fun k hk => .inr hk) (Kd.R_mono hR5.out (fun k hk => .inl hk)) (Below.refl _ _) (by have := HA.out.2.2.2.2; have := HB.out.2.2.2.2.1; have := hs3.out; omega) (by have := HB.out.2.2.2.1; omega) ?_; intro v6 w6 hR6 hB6 hg6 hat6; replace hR6 := Aside0.mk hR6; replace hg6 := Aside0.mk hg6; clear hat6 hB6))
      go_roundg (nz - i).toNat
      case measure => exact hi.out.2.2
      case rel =>
        have o6 := Only.ofGrown hg6.out
        have s3 := hs3.out
        have s6 := o6.size
        have sA := HB.out.2.2.2.2.1
        have hne : ∀ k, (Qr k ∨ Wa.heap.size ≤ k) → k < w3.heap.size → ¬ (some k = u9.ownBlock) := by
          intro k h1 h2 e
          have h3 := hR.out.1 k e.symm
          rcases h1 with h1 | h1
          · exact hd.out k h1 h3
          · have := (hqs.out k h3).2; omega
        refine ⟨i + 1, _, (fun k => (Qs k ∨ w3.heap.size ≤ k) ∧ w.heap.size + 1 ≤ k ∧ k < w6.heap.size), by simp [HB.out.2.2.1], ⟨by have := hi.out; omega, by have := HA.out.2.2.2.1; omega, by have := HA.out.2.2.2.1; omega⟩, ⟨hI5.out.only o6 (fun k hk e => hne k hk.1 hk.2.2 e)⟩, ⟨by rw [HB.out.1]; exact Kd.R_mono (Kd.R_bound hR6.out) (fun k hk => ⟨hk.1, hk.2.1, hk.2.2.1⟩)⟩, ⟨?_⟩, ⟨fun k hk => by have := hk.2; omega⟩, ⟨fun k hk => ⟨hk.2.1, hk.2.2⟩⟩, ⟨?_⟩⟩
        · intro k h1 h2
          rcases h2.1 with h3 | h3
          · rcases h1.1 with h4 | h4
            · exact hd.out k h4 h3
            · have := (hqs.out k h3).2; omega
          · have := h1.2.2; omega
        · have h1 : Below (w.heap.size + 1) wr Wa := HB.out.2.2.2.2.2.1.mono HA.out.2.2.2.2
          have h2 := below_only h1 hO5.out (by have := HA.out.2.2.2.2; omega) (fun k hk hq => by have := (hqr.out k hq).1; omega)
          have h3 := below_only h2 o6 (by have := HA.out.2.2.2.2; omega) (fun k hk e => by have := (hqs.out k (hR.out.1 k e.symm)).1; omega)
          exact hB.out.trans h3
    · have hlt : decide (i < (nz : Int)) = false := decide_eq_false hin
      have hi2 : i = nz := by have := hi.out; omega
      have htk : zs.take i.toNat = zs := List.take_of_length_le (by have := HZ.out.2.2.1; omega)
      rw [htk] at hI hR
      obtain ⟨F, hF⟩ : ∃ F, F = (runM m0 zs).told := ⟨_, rfl⟩
      obtain ⟨SV, hSV⟩ : ∃ SV, SV = runV m0 zs := ⟨_, rfl⟩
      rw [← hSV] at hR
      obtain ⟨A9, cc9, e9, _⟩ := Kd.R_reads hR.out
      have hSVl : SV.length = nz := by rw [hSV, runV_length]; exact HZ.out.2.2.1.symm
      rw [hSVl] at e9
      subst e9
      obtain ⟨tt, htt, htl⟩ := runM_told m0 zs
      have hFl : F.length ≤ 17592186044415 := by
        rw [hF, htt, hm0.out]
        simp at htl ⊢
        have := HZ.out.2.1; omega
      have htold := rtold_calls wr (w.heap.size + 1) g Qr i _ hI.out (by rw [← hF]; exact hFl)
      rw [← hF] at htold
      have cS : wr.cell? ⟨w.heap.size, 1, none⟩ = some (.int .u64 seed) := (blk_cell ((hB.out.block _ (by omega)).trans hx0.out) 1).trans rfl
      have t1 := Int.tmod_lt_of_pos p2 (show (0:Int) < 5 by omega)
      have t2 := Int.lt_tmod_of_pos p2 (show (0:Int) < 5 by omega)
      have e1 : wrap64 (Int.tmod p2 5) = Int.tmod p2 5 := w64 _ (by omega)
      have e2 : wrap64 (Int.tmod p2 5 + 5) = Int.tmod p2 5 + 5 := w64 _ (by omega)
      have t3 := Int.tmod_lt_of_pos (Int.tmod p2 5 + 5) (show (0:Int) < 5 by omega)
      have t4 := Int.tmod_nonneg (a := Int.tmod p2 5 + 5) 5 (by omega)
      obtain ⟨pp, hpp⟩ : ∃ pp, pp = Int.tmod (Int.tmod p2 5 + 5) 5 := ⟨_, rfl⟩
      rw [← hpp] at t3 t4
      have e3' : Int.tmod (Int.tmod p2 5 + 5) 5 = pp := hpp.symm
      have e3 : wrap64 pp = pp := w64 _ (by omega)
      obtain ⟨sd, hsd⟩ : ∃ sd, sd = IntKind.u64.wrap (seed + 1) := ⟨_, rfl⟩
      have hsd' : IntKind.u64.wrap (seed + 1) = sd := hsd.symm
      have hsdr : in64 sd := by rw [hsd]; exact in64_wrap _
      have HC := Aside0.mk (And.intro hi2 (And.intro hF (And.intro hSV (And.intro hSVl (And.intro hFl (And.intro t3 (And.intro t4 hsdr)))))))
      replace hin := Aside0.mk hin
      clear hi2 htk hF hSV hSVl hFl htt htl t1 t2 t3 t4 hpp hsd hsdr
      by_cases hFF : F.length ≤ 65536
      · have d1 : decide ((65536 : Int) < (F.length : Int)) = false := decide_eq_false (by omega)
        have d2 : decide (65536 < F.length) = false := decide_eq_false (by omega)
        replace hFF := Aside0.mk hFF
        go_wp2_with (first
          | (go_at_call 19; refine htold.mono ?_; rintro e w3 ⟨v3, rfl, hR3, hB3⟩; have cS3 : w3.cell? ⟨w.heap.size, 1, none⟩ = some (.int .u64 seed) := pw_cell_below hB3 cS; obtain ⟨A3, cc3, rfl, _⟩ := Kd.R_reads hR3; replace hR3 := Aside0.mk hR3; replace hB3 := Aside0.mk hB3)
          | (go_at_call 12; refine (new_calls w3 pp sd _ F (IntsAt.ofR hR3.out) ⟨HC.out.2.2.2.2.2.2.1, by have := HC.out.2.2.2.2.2.1; omega⟩ hFF.out HC.out.2.2.2.2.2.2.2).mono ?_; rintro e w4 ⟨g2, rfl, hI4, hB4⟩; replace hI4 := Aside0.mk hI4; replace hB4 := Aside0.mk hB4))
        obtain ⟨so, hso⟩ : ∃ so, so = w3.heap.size := ⟨_, rfl⟩
        have s3 : wr.heap.size ≤ so := by rw [hso]; exact hB3.out.size
        have s4 : so ≤ w4.heap.size := by rw [hso]; exact hB4.out.size
        have hB34 : Below so w3 w4 := by rw [hso]; exact hB4.out
        have hIr : Aside0 (IsReady w4 (w.heap.size + 1) g (fun k => k < so) i (runM m0 zs)) := ⟨((hI.out.below hB3.out).below hB4.out).mono (fun k hk => by have := (hqr.out k hk).2; omega)⟩
        have hSR : Aside0 ((Kd.int .i64).R 3 w4 (w.heap.size + 1) (fun k => k < so) (.slice A9 nz cc9) SV) := ⟨Kd.R_mono (Kd.R_below (Kd.R_below hR.out hB3.out) hB4.out) (fun k hk => by have := (hqs.out k hk).2; omega)⟩
        obtain ⟨nF, hnF⟩ : ∃ nF : Nat, nF = F.length := ⟨_, rfl⟩
        rw [← hnF] at hR3 d1 d2 ⊢
        have hTR : Aside0 ((Kd.int .i64).R 3 w4 wr.heap.size (fun k => k < so) (.slice A3 nF cc3) F) := ⟨Kd.R_mono (Kd.R_below (Kd.R_bound hR3.out) hB4.out) (fun k hk => by have := hk.2.2.1; omega)⟩
        obtain ⟨o0, ho0⟩ : ∃ o0 : RM, o0 = ⟨pp, sd, F, [], []⟩ := ⟨_, rfl⟩
        have hI5 : Aside0 (IsReady w4 so g2 (fun k => so ≤ k) 0 o0) := ⟨by rw [ho0, hso]; exact hI4.out⟩
        have hfol := follows_run (F := F) zs (m := m0) (o := o0) ⟨by rw [ho0, hm0.out], by rw [ho0, hm0.out], by rw [ho0]⟩ [] (by rw [HC.out.2.1, List.append_nil])
        replace hfol := Aside0.mk hfol
        have hBW : Below (w.heap.size + 1) W0 w4 := (hB.out.trans (hB3.out.mono (by have := hB.out.size; have := hs0.out; omega))).trans (hB34.mono (by have := hB.out.size; have := hs0.out; omega))
        replace hBW := Aside0.mk hBW
        have hsz := Aside0.mk (And.intro s3 (And.intro s4 (And.intro hso hnF)))
        replace ho0 := Aside0.mk ho0
        have hwrs : w.heap.size + 1 ≤ wr.heap.size := by have := hB.out.size; have := hs0.out; omega
        replace hwrs := Aside0.mk hwrs
        clear s3 s4 hso hnF hB34 hI hR hR3 hB3 hB4 hI4 cS3 cS htold hB hd hqr hqs
        go_loopg [72] (nz + 1) (fun kq v72 w' => ∃ (j : Int), v72 = .int .i64 j ∧ Aside0 (0 ≤ j ∧ j ≤ nz ∧ (nz - j).toNat < kq) ∧ Aside0 (IsReady w' so g2 (fun k => so ≤ k) j (runM o0 (zs.take j.toNat))) ∧ Aside0 (Below so w4 w') ∧ Aside0 (so ≤ w'.heap.size))
        case atStart => exact ⟨0, rfl, ⟨by omega, by omega, by omega⟩, hI5, ⟨(Below.refl _ _).mono hsz.out.2.1⟩, ⟨hsz.out.2.1⟩⟩
        case round =>
          obtain ⟨j, rfl, hj, hIj, hBj, hsj⟩ := hrel
          have hSj : (Kd.int .i64).R 3 wr (w.heap.size + 1) (fun k => k < so) (.slice A9 nz cc9) SV := R_only hSR.out (Only.ofBelowAt hBj.out) (fun k h1 h2 => by omega)
          have hTj : (Kd.int .i64).R 3 wr _ (fun k => k < so) (.slice A3 nF cc3) F := R_only hTR.out (Only.ofBelowAt hBj.out) (fun k h1 h2 => by omega)
          have hIrj : IsReady wr (w.heap.size + 1) g (fun k => k < so) i (runM m0 zs) := hIr.out.only (Only.ofBelowAt hBj.out) (fun k h1 h2 => by omega)
          have hBWj : Below (w.heap.size + 1) W0 wr := hBW.out.trans (hBj.out.mono (by have := hsz.out.1; have := hwrs.out; omega))
          by_cases hjn : j < nz
          · have hlt2 : decide (j < (nz : Int)) = true := decide_eq_true hjn
            have p1 : 0 ≤ j := hj.out.1
            obtain ⟨ad, eA, hx1, hx2⟩ := HZ.out.2.2.2.1 j p1 hjn
            cases eA
            obtain ⟨a, haa⟩ : ∃ a, a = zs.getD j.toNat (0, 0) := ⟨_, rfl⟩
            rw [← haa] at hx1 hx2
            have hww : ∀ p u, w.cell? p = some u → wr.cell? p = some u := fun p u h => pw_cell_below (hb0.out.trans (hBWj.mono (by omega))) h
            replace hx1 := hww _ _ hx1
            replace hx2 := hww _ _ hx2
            have hga : goodI a.1 ∧ goodI a.2 := by
              rw [haa, List.getD_eq_getElem?_getD, List.getElem?_eq_getElem (by have := HZ.out.2.2.1; omega)]
              exact HZ.out.1 _ (List.getElem_mem _)
            obtain ⟨V, hV⟩ : ∃ V, V = doneV (runM o0 (zs.take j.toNat)) a := ⟨_, rfl⟩
            have hVS : rd SV j = V := by
              unfold rd
              rw [HC.out.2.2.1, ← hfol.out.1, runV_get zs o0 j.toNat (by have := HZ.out.2.2.1; omega), hV, haa]
            obtain ⟨ad9, eA9, hx9⟩ := Kd.at_int (Kd.R_reads' hSj).2.2 j p1 (by have := HC.out.2.2.2.1; omega)
            cases eA9
            rw [hVS] at hx9
            obtain ⟨a1, a2⟩ := a
            simp only at hx1 hx2 hga
            have htk := acts_take zs p1 (by have := HZ.out.2.2.1; omega)
            rw [← haa] at htk
            have HA := Aside0.mk (And.intro haa (And.intro hga (And.intro htk (And.intro hjn (And.intro hV (And.intro hBWj hVS))))))
            replace hSj := Aside0.mk hSj
            clear haa hga htk hww hV hVS hTj hIrj hBWj
            replace p1 := eq_true p1
            replace hjn := eq_true hjn
            go_upto_region 17 with fail
            have hbA : Below wr.heap.size wr (wr.alloc (Obj.cells #[.int .i64 a1, .int .i64 a2] 39)) := (Below.refl _ _).alloc (Nat.le_refl _) _
            have hsA : (wr.alloc (Obj.cells #[.int .i64 a1, .int .i64 a2] 39)).heap.size = wr.heap.size + 1 := by simp
            have hxA : (wr.alloc (Obj.cells #[.int .i64 a1, .int .i64 a2] 39)).heap[wr.heap.size]? = some (.cells #[.int .i64 a1, .int .i64 a2] 39 (0, 0)) := heap_alloc_new wr _
            obtain ⟨Wa, hWa⟩ : ∃ Wa, Wa = wr.alloc (Obj.cells #[.int .i64 a1, .int .i64 a2] 39) := ⟨_, rfl⟩
            rw [← hWa] at hbA hsA hxA ⊢
            have cA0 : Wa.cell? ⟨wr.heap.size, 0, none⟩ = some (.int .i64 a1) := (blk_cell hxA 0).trans rfl
            have cA1 : Wa.cell? ⟨wr.heap.size, 1, none⟩ = some (.int .i64 a2) := (blk_cell hxA 1).trans rfl
            have c9 : Wa.cell? (ad9.add j.toNat) = some (.int .i64 V) := pw_cell_below hbA hx9
            have hIt := hIj.out.tight
            have hId : IsReady Wa.drew so g2 (fun k => so ≤ k ∧ so ≤ k ∧ k < wr.heap.size) j (runM o0 (zs.take j.toNat)) := (hIt.below hbA).below ⟨rfl, rfl, rfl, Nat.le_refl _, fun _ _ => rfl⟩
            obtain ⟨tt, htt, htl⟩ := runM_told o0 (zs.take j.toNat)
            have htoldlen : (runM o0 (zs.take j.toNat)).told.length ≤ 17592186044415 := by
              rw [htt, ho0.out]
              simp at htl ⊢
              have := HZ.out.2.1; omega
            have hdn := done_calls Wa.drew so g2 _ j a1 a2 _ hId HA.out.2.1.1 HA.out.2.1.2 (by have := hj.out; have := HZ.out.2.1; have := HZ.out.2.2.1; omega) htoldlen (by have := hsj.out; show so ≤ Wa.heap.size; omega)
            have hM1 : doneM (runM o0 (zs.take j.toNat)) (a1, a2) = runM o0 (zs.take (j + 1).toNat) := by rw [HA.out.2.2.1, runM_append]; rfl
            rw [← HA.out.2.2.2.2.1, hM1] at hdn
            have hjw : wrap64 (j + 1) = j + 1 := w64 _ (by have := hj.out; have := HZ.out.2.1; have := HZ.out.2.2.1; omega)
            have hSa : (Kd.int .i64).R 3 Wa.drew (w.heap.size + 1) (fun k => k < so) (.slice (some ad9) nz cc9) SV := Kd.R_drew (Kd.R_below hSj.out hbA)
            have HD := Aside0.mk (And.intro hSa (And.intro hxA (And.intro hsA (And.intro hbA hjw))))
            have hVV : (V != V) = false := by simp
            clear hSa hxA hsA hbA hjw hIt hId htt htl htoldlen hM1 hWa hx1 hx2 hx9
            refine start_ (n := 8) (S := fun w' => w'.cell? ⟨wr.heap.size, 0, none⟩ = some (.int .i64 a1) ∧ w'.cell? ⟨wr.heap.size, 1, none⟩ = some (.int .i64 a2) ∧ w'.cell? (ad9.add j.toNat) = some (.int .i64 V)) (ds := []) #[false, false, false, false, false, false, false, false] (by kernel_rfl) rfl rfl ⟨cA0, cA1, c9⟩ (fun hHeld => ?_)
            refine pure_ (i := 0) (N := some 77) (v := ?_) (a' := ?_) #[true, false, false, false, false, false, false, false] rfl rfl (by kernel_rfl) (fun _ _ _ h => h) (Or.inl ⟨by rfl, ?_⟩) ?_ ?_
            rotate_left
            · intro w'
              go_simp
              with_reducible rfl
            rotate_left
            · simp only [Act.put, List.setIfInBounds_toArray, List.set_cons_zero, List.set_cons_succ, i64_w, i32_w]
              rfl
            refine pure_ (i := 3) (N := some 80) (v := ?_) (a' := ?_) #[true, false, false, true, false, false, false, false] rfl rfl (by kernel_rfl) (fun _ _ _ h => h) (Or.inl ⟨by rfl, ?_⟩) ?_ ?_
            rotate_left
            · intro w'
              go_simp
              with_reducible rfl
            rotate_left
            · simp only [Act.put, List.setIfInBounds_toArray, List.set_cons_zero, List.set_cons_succ, i64_w, i32_w]
              rfl
            refine pure_ (i := 4) (N := some 81) (v := ?_) (a' := ?_) #[true, false, false, true, true, false, false, false] rfl rfl (by kernel_rfl) (fun _ _ _ h => h) (Or.inl ⟨by rfl, ?_⟩) ?_ ?_
            rotate_left
            · intro w'
              go_simp
              with_reducible rfl
            rotate_left
            · simp only [Act.put, List.setIfInBounds_toArray, List.set_cons_zero, List.set_cons_succ, i64_w, i32_w]
              rfl
            refine pure_ (i := 5) (N := some 82) (v := ?_) (a' := ?_) #[true, false, false, true, true, true, false, false] rfl rfl (by kernel_rfl) (fun _ _ _ h => h) (Or.inl ⟨by rfl, ?_⟩) ?_ ?_
            rotate_left
            · intro w'
              go_simp
              with_reducible rfl
            rotate_left
            · simp only [Act.put, List.setIfInBounds_toArray, List.set_cons_zero, List.set_cons_succ, i64_w, i32_w]
              rfl
            refine take_ (i := 1) (N := some 78) (v := ?_) (a' := ?_) #[true, true, false, true, true, true, false, false] rfl rfl (by kernel_rfl) (fun _ _ _ h => h) (Or.inl ⟨by rfl, ?_⟩) hHeld ?_ ?_
            rotate_left
            · rintro w' ⟨s0, s1, s2⟩
              go_simp
              with_reducible rfl
            rotate_left
            · simp only [Act.put, List.setIfInBounds_toArray, List.set_cons_zero, List.set_cons_succ, i64_w, i32_w]
              rfl
            refine take_ (i := 6) (N := some 83) (v := ?_) (a' := ?_) #[true, true, false, true, true, true, true, false] rfl rfl (by kernel_rfl) (fun _ _ _ h => h) (Or.inl ⟨by rfl, ?_⟩) hHeld ?_ ?_
            rotate_left
            · rintro w' ⟨s0, s1, s2⟩
              go_simp
              with_reducible rfl
            rotate_left
            · simp only [Act.put, List.setIfInBounds_toArray, List.set_cons_zero, List.set_cons_succ, i64_w, i32_w]
              rfl
            refine one_ (i := 2) (N := some 79) #[true, true, true, true, true, true, true, false] rfl rfl (by kernel_rfl) (by decide) (fun K hK => ?_)
            refine goes_ Try.func18 (by kernel_rfl) rfl #[.pointer (some ⟨g2, 0, none⟩), .agg #[.int .i64 a1, .int .i64 a2]] (by rfl) rfl rfl (by simp only [List.map_toArray, List.map_cons, List.map_nil]; rfl) ?_
            with_reducible refine (hdn).mono ?_
            rintro e w5 ⟨rfl, hI6, hO6⟩
            refine ⟨_, rfl, ?_⟩
            have hx5 : w5.heap[wr.heap.size]? = _ := (hO6.block _ (by have := HD.out.2.2.1; show _ < Wa.heap.size; omega) (fun h => by omega)).trans HD.out.2.1
            have hS5 := R_only HD.out.1 hO6 (fun k h1 h2 => by omega)
            obtain ⟨ad5, e5, hx55⟩ := Kd.at_int (Kd.R_reads' hS5).2.2 j hj.out.1 (by have := HC.out.2.2.2.1; have := HA.out.2.2.2.1; omega)
            cases e5
            rw [HA.out.2.2.2.2.2.2] at hx55
            replace hI6 := Aside0.mk hI6
            replace hO6 := Aside0.mk hO6
            replace hS5 := Aside0.mk hS5
            replace hx55 := Aside0.mk hx55
            replace hx5 := Aside0.mk hx5
            refine hK.out _ _ ⟨(blk_cell hx5.out 0).trans rfl, (blk_cell hx5.out 1).trans rfl, hx55.out⟩ (fun hHeld => ?_)
            clear hK K
            refine norm_ (a' := ?_) ?_ ?_
            rotate_left
            · show Act.put _ (some 79) _ = _
              simp only [Act.put, List.setIfInBounds_toArray, List.set_cons_zero, List.set_cons_succ, i64_w, i32_w]
              rfl
            refine pure_ (i := 7) (N := some 84) (v := ?_) (a' := ?_) #[true, true, true, true, true, true, true, true] rfl rfl (by kernel_rfl) (fun _ _ _ h => h) (Or.inl ⟨by rfl, ?_⟩) ?_ ?_
            rotate_left
            · intro w'
              go_simp
              with_reducible rfl
            rotate_left
            · simp only [Act.put, List.setIfInBounds_toArray, List.set_cons_zero, List.set_cons_succ, i64_w, i32_w]
              rfl
            refine done_ (by kernel_rfl) ?_
            go_wp2
            go_roundg (nz - j).toNat
            case measure => exact hj.out.2.2
            case rel =>
              have h1 : Below so wr Wa := HD.out.2.2.2.1.mono hsj.out
              have h2 : Below so wr w5 := below_only (h1.trans ⟨rfl, rfl, rfl, Nat.le_refl _, fun _ _ => rfl⟩ : Below so wr Wa.drew) hO6.out (by have := HD.out.2.2.1; have := hsj.out; show so ≤ Wa.heap.size; omega) (fun k h1 h2 => by omega)
              refine ⟨j + 1, by simp [HD.out.2.2.2.2], ⟨by have := hj.out; omega, by have := HA.out.2.2.2.1; omega, by have := HA.out.2.2.2.1; omega⟩, ⟨hI6.out.mono (fun k hk => ?_)⟩, ⟨hBj.out.trans h2⟩, ⟨Nat.le_trans hsj.out h2.size⟩⟩
              rcases hk with hk | hk
              · exact hk.1
              · have := HD.out.2.2.1; have := hsj.out; have h3 : Wa.heap.size ≤ k := hk; omega
          · have hlt2 : decide (j < (nz : Int)) = false := decide_eq_false hjn
            have htk : zs.take j.toNat = zs := List.take_of_length_le (by have := HZ.out.2.2.1; omega)
            have hIo := hIj.out
            rw [htk] at hIo
            have hfo := hfol.out.2
            obtain ⟨mr, hmr⟩ : ∃ mr, mr = runM m0 zs := ⟨_, rfl⟩
            obtain ⟨mo, hmo⟩ : ∃ mo, mo = runM o0 zs := ⟨_, rfl⟩
            rw [← hmr, ← hmo] at hfo
            rw [← hmo] at hIo
            rw [← hmr] at hIrj
            have hFr : mr.told = F := by rw [hmr]; exact HC.out.2.1.symm
            have hib : i < 4611686018427387904 := by have := HC.out.1; have := HZ.out.2.1; have := HZ.out.2.2.1; omega
            have hjb : j < 4611686018427387904 := by have := hj.out; have := HZ.out.2.1; have := HZ.out.2.2.1; omega
            have H7 := Aside0.mk (And.intro hIo (And.intro hIrj (And.intro hTj (And.intro hfo (And.intro hFr (And.intro hib (And.intro hjb hBWj)))))))
            replace hjn := Aside0.mk hjn
            replace hmr := Aside0.mk hmr
            replace hmo := Aside0.mk hmo
            clear hIo hIrj hTj hfo hFr hib hjb hBWj htk hSj
            have hb5 : Aside0 (Below wr.heap.size wr wr) := ⟨Below.refl _ _⟩
            go_wp2_with (first
              | (go_at_call_of 21 (Value.pointer (some ⟨g, 0, none⟩)); refine (rall_calls wr (w.heap.size + 1) g _ i mr H7.out.2.1 H7.out.2.2.2.2.2.1).mono ?_; rintro e w5 ⟨v5, rfl, hR5, hB5⟩; replace hR5 := Aside0.mk hR5; replace hB5 := Aside0.mk hB5)
              | (go_at_call_of 21 (Value.pointer (some ⟨g2, 0, none⟩)); refine (rall_calls w5 so g2 _ j mo (H7.out.1.below hB5.out) H7.out.2.2.2.2.2.2.1).mono ?_; rintro e w6 ⟨v6, rfl, hR6, hB6⟩; rw [H7.out.2.2.2.1.l] at hR6; replace hR6 := Aside0.mk hR6; replace hB6 := Aside0.mk hB6)
              | (go_at_call_of 20 v6; refine (same_calls (Kd.R_below hR5.out hB6.out) hR6.out (by have := H7.out.2.1.fewL; omega)).mono ?_; rintro e w7 ⟨rfl, hB7⟩; replace hB7 := Aside0.mk hB7)
              | (go_at_call 19; refine (rtold_calls w7 so g2 _ j mo (((H7.out.1.below hB5.out).below hB6.out).below hB7.out) (by rw [H7.out.2.2.2.1.told, H7.out.2.2.2.2.1]; have := HC.out.2.2.2.2.1; omega)).mono ?_; rintro e w8 ⟨v8, rfl, hR8, hB8⟩; rw [H7.out.2.2.2.1.told, H7.out.2.2.2.2.1] at hR8; replace hR8 := Aside0.mk hR8; replace hB8 := Aside0.mk hB8)
              | (go_at_call_of 20 v8; refine (same_calls (Kd.R_below (Kd.R_below (Kd.R_below (Kd.R_below H7.out.2.2.1 hB5.out) hB6.out) hB7.out) hB8.out) hR8.out (by have := HC.out.2.2.2.2.1; omega)).mono ?_; rintro e w9 ⟨rfl, hB9⟩; replace hB9 := Aside0.mk hB9)
              | (go_at_call 17; refine (rturns_calls w9 (w.heap.size + 1) g _ i mr (((((H7.out.2.1.below hB5.out).below hB6.out).below hB7.out).below hB8.out).below hB9.out)).mono ?_; rintro e w9 ⟨rfl, rfl⟩))
            go_ret
            have hlF : (mr.told.length : Int) = nF := by rw [H7.out.2.2.2.2.1]; have := hsz.out.2.2.2; omega
            refine ⟨by simp [hlF], ?_⟩
            have hb6 := (((hB5.out.trans (hB6.out.mono hB5.out.size)).trans (hB7.out.mono (Nat.le_trans hB5.out.size hB6.out.size))).trans (hB8.out.mono (Nat.le_trans hB5.out.size (Nat.le_trans hB6.out.size hB7.out.size)))).trans (hB9.out.mono (Nat.le_trans hB5.out.size (Nat.le_trans hB6.out.size (Nat.le_trans hB7.out.size hB8.out.size))))
            have hws : w.heap.size + 1 ≤ wr.heap.size := by have := H7.out.2.2.2.2.2.2.2.size; have := hs0.out; omega
            exact (hb0.out.trans (H7.out.2.2.2.2.2.2.2.mono (by omega))).trans (hb6.mono (by omega))
      · have d1 : decide ((65536 : Int) < (F.length : Int)) = true := decide_eq_true (by omega)
        have d2 : decide (65536 < F.length) = true := decide_eq_true (by omega)
        replace hFF := Aside0.mk hFF
        go_wp2_with (first
          | (go_at_call 19; refine htold.mono ?_; rintro e w3 ⟨v3, rfl, hR3, hB3⟩; have cS3 : w3.cell? ⟨w.heap.size, 1, none⟩ = some (.int .u64 seed) := pw_cell_below hB3 cS; obtain ⟨A3, cc3, rfl, _⟩ := Kd.R_reads hR3; replace hR3 := Aside0.mk hR3; replace hB3 := Aside0.mk hB3)
          | (go_at_call 12; refine (new_many w3 pp sd _ F (IntsAt.ofR hR3.out) ⟨HC.out.2.2.2.2.2.2.1, by have := HC.out.2.2.2.2.2.1; omega⟩ (by have := hFF.out; omega)).mono ?_; rintro e w3 ⟨rfl, rfl⟩))
        go_ret
        exact ⟨by first | rfl | simp, (hb0.out.trans (hB.out.mono (by omega))).trans (hB3.out.mono (by have := hB.out.size; have := hs0.out; omega))⟩
end
end Go.Proofs.Ytljckmiphkoipaa
