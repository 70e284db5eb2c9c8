/- Texts of one family in one file: QTurns1, QTurns2, QTimes2, QDue1. -/
import Derived.Test.YtljckmiphkoipaaMQD4
/-
  QueueTurns: does a queue stand as a list (turns).
-/
namespace Go.Proofs.Ytljckmiphkoipaa
set_option linter.unusedVariables false
set_option linter.unusedSimpArgs false
open Go.RowKit Go.MapKept Go.Maps Go.Proofs.YtljckmiphkoipaaW.PrintWords Go.Proofs.YtljckmiphkoipaaW.PrintLast Go.Proofs.YtljckmiphkoipaaW.PrintMore

/-- What a loop that turns a row's numbers leaves of it. -/
def LeftI (w : World) (g m : Nat) (xs : List Int) (i : Int) : Prop := 0 < m → ∃ cur, w.heap[g]? = some (.cells cur 3 (0, 0)) ∧ m ≤ cur.size ∧ ∀ j : Int, i ≤ j → j < m → cur[j.toNat]? = some (.int .i64 (rd xs j))
theorem LeftI.below {w w' : World} {g m : Nat} {xs : List Int} {i : Int} (h : LeftI w g m xs i) {F : Nat → Prop} (ho : Only F w w') (hF : ¬ F g) : LeftI w' g m xs i := fun hm => by
  obtain ⟨cur, h1, h2, h3⟩ := h hm
  exact ⟨cur, (ho.block _ (blk_lt h1) hF).trans h1, h2, h3⟩
theorem LeftI.set {w : World} {g m : Nat} {xs : List Int} {i : Int} (h : LeftI w g m xs i) (h0 : 0 ≤ i) (u : Value) : LeftI (w.setCell ⟨g, i.toNat, none⟩ u) g m xs (i + 1) := fun hm => by
  obtain ⟨cur, h1, h2, h3⟩ := h hm
  refine ⟨_, blk_put h1 i.toNat u rfl, by simpa using h2, fun j hj hm => ?_⟩
  rw [Array.getElem?_setIfInBounds, if_neg (by omega)]
  exact h3 j (by omega) hm
theorem leftI_of {w : World} {base : Nat} {ok : Nat → Prop} {v : Value} {xs : List Int} (h : (Kd.int .i64).R 3 w base ok v xs) : ∃ A c g, v = .slice A xs.length c ∧ (xs.length ≠ 0 → A = some ⟨g, 0, none⟩) ∧ base ≤ g ∧ xs.length ≤ c ∧ LeftI w g xs.length xs 0 ∧ (xs.length = 0 → g = base) := by
  have ho : w.ownsRow base 3 1 v xs.length (encs (Value.int .i64) xs) := Kd.own_of_R h
  obtain ⟨A, c, e, hc, hC⟩ := Kd.R_reads h
  rcases ho.2 with ⟨rfl, h0⟩ | ⟨g, cap, cur, rfl, hg, hb, hn, hcap, hsz, ht⟩
  · exact ⟨A, c, base, e, fun h => absurd h0 h, Nat.le_refl _, hc, fun hm => by omega, fun _ => rfl⟩
  · by_cases hz : xs.length = 0
    · exact ⟨A, c, base, e, fun h => absurd hz h, Nat.le_refl _, hc, fun hm => by omega, fun _ => rfl⟩
    · refine ⟨A, c, g, e, fun _ => by cases e; rfl, hg, hc, fun hm => ⟨cur, hb, by omega, fun j hj hm => ?_⟩, fun h => absurd h hz⟩
      have h1 : cur[j.toNat]? = cur.toList[j.toNat]? := by simp
      have h2 : (cur.toList.take (xs.length * 1))[j.toNat]? = cur.toList[j.toNat]? := List.getElem?_take_of_lt (by omega)
      rw [h1, ← h2, ht]
      unfold encs rd
      rw [List.getElem?_map, List.getD_eq_getElem?_getD, List.getElem?_eq_getElem (by omega)]
      rfl

set_option maxRecDepth 100000 in
set_option maxHeartbeats 8000000 in
theorem turns_calls {w : World} {b lo : Nat} {l : List Int} {n x : Int} {P : Nat → Prop} {vl : Value} (L : List PQ.S73) (h : IsTurns w b l n) (hn : n < 4611686018427387904) (hx : goodI x) (hl : itemsS L = l) (hR : PQ.k73.R 73 w lo P vl L) (hP : ∀ k, P k → ¬ tfoot b k) :
    Calls Try.prog 48 #[.pointer (some ⟨b + 2, 0, none⟩), vl, .int .i64 x] w fun e w' => e = .returned (.bool true) ∧ IsTurns w' b l n ∧ Only (tfoot b) w w' := by
  obtain ⟨A, c, rfl, hc, hC⟩ := Kd.R_reads hR
  obtain ⟨m, hm⟩ : ∃ m : Nat, m = L.length := ⟨_, rfl⟩
  have hlm : l.length = m := by rw [← hl, hm]; exact itemsS_length L
  have hgood := h.good
  have hfew := h.few
  have hfd : ∀ u, Below w.heap.size w u → Calls Try.prog 40 #[.slice A m c, .int .i64 x] u fun e w' => e = .returned (.int .i64 (findV l x)) ∧ Below u.heap.size u w' := fun u hu => by
    have := PQ.convoyref04_Find.calls (L.length + 1) A c L x (findV (itemsS L) x) u (Kd.C_below hC hu) hc (qfind_f L x (by omega))
    rw [hl, ← hm] at this
    exact this
  obtain ⟨fv, hfv⟩ : ∃ fv, fv = findV l x := ⟨_, rfl⟩
  have hfd2 : decide (0 ≤ fv) = decide (x ∈ l) := by rw [hfv]; exact findV_neg
  obtain ⟨bx, hbx⟩ : ∃ bx, bx = decide (x ∈ l) := ⟨_, rfl⟩
  have hbb : (bx != decide (0 ≤ fv)) = false := by rw [hfd2, hbx]; simp
  rw [← hfv] at hfd
  have hbb2 : (bx == decide (0 ≤ fv)) = true := by rw [hfd2, hbx]; simp
  have hmm : ((m : Int) != (m : Int)) = false := by simp
  rw [← hm] at hc hR hC ⊢
  replace hfd := Aside0.mk hfd
  have HH := Aside0.mk (And.intro h (And.intro hn (And.intro hl (And.intro hR (And.intro hP (And.intro hC (And.intro hm (And.intro hlm (And.intro hgood hfew)))))))))
  replace hbx := Aside0.mk hbx
  replace hx := Aside0.mk hx
  clear h hn hl hR hP hC hm hlm hgood hfew hfv hfd2
  go_enter Try.func48, Try.ntmps48
  go_upto_region 2 with (go_at_call 72; refine (all_calls w b l n HH.out.1 HH.out.2.1).mono ?_; rintro e W1 ⟨v1, rfl, hR1, hB1⟩; obtain ⟨A1, c1, g1, rfl, hA1, hg1, hc1, hL1, _⟩ := leftI_of hR1; rw [HH.out.2.2.2.2.2.2.2.1] at hA1 hL1 hc1 ⊢; have hT1 := Aside0.mk (HH.out.1.only (Only.ofBelow (F := fun _ => False) hB1) (fun _ _ h => h)); replace hB1 := Aside0.mk hB1; clear hR1; replace hA1 := Aside0.mk hA1; replace hL1 := Aside0.mk hL1)
  go_upto_region 4 with (first
    | (go_at_call 76; refine (len_calls W1 b l n hT1.out).mono ?_; rintro e W2 ⟨rfl, h9⟩; rw [h9]; rw [HH.out.2.2.2.2.2.2.2.1]; clear h9 W2)
    | (go_at_call 71; refine (has_calls W1 b l n x hT1.out hx.out).mono ?_; rintro e W2 ⟨rfl, h9⟩; rw [h9]; rw [← hbx.out]; clear h9 W2)
    | (go_at_call 40; refine (hfd.out W1 hB1.out).mono ?_; rintro e W3 ⟨rfl, hB3⟩))
  have hB3' := hB1.out.trans (hB3.mono hB1.out.size)
  have hL3 := hL1.out.below (Only.ofBelow (F := fun _ => False) hB3) (fun h => h)
  clear hB3 hfd hbb hbb2 hL1
  go_wp2
  go_loopg [38] (m + 1) (fun kq v38 w' => ∃ (i : Int), v38 = .int .i64 i ∧ Aside0 (0 ≤ i ∧ i ≤ m ∧ m - i.toNat < kq) ∧ Aside0 (LeftI w' g1 m l i) ∧ Aside0 (Below w.heap.size w w'))
  case atStart => exact ⟨0, rfl, ⟨by omega, by omega, by omega⟩, ⟨hL3⟩, ⟨hB3'⟩⟩
  case round =>
    obtain ⟨i, rfl, hi, hL, hB⟩ := hrel
    clear hL3 hB3' W3 hB1 hT1
    by_cases him : i < m
    · have d1 : decide (i < (m : Int)) = true := decide_eq_true him
      have him2 := Aside0.mk him
      have hm0 : m ≠ 0 := by have := hi.out; omega
      have e1 := hA1.out hm0
      subst e1
      have hi0 : 0 ≤ i := hi.out.1
      obtain ⟨cur, hcur, hcs, hcj⟩ := hL.out (by omega)
      have hCr := Kd.C_below HH.out.2.2.2.2.2.1 hB.out
      rw [HH.out.2.2.2.2.2.2.1] at hCr
      obtain ⟨ad, eA, y0, y1⟩ := PQ.at_T73 hCr i hi0 (by rw [← HH.out.2.2.2.2.2.2.1]; exact him)
      subst eA
      rw [rd_f1, HH.out.2.2.1] at y1
      clear hCr
      obtain ⟨z, hz⟩ : ∃ z, z = rd l i := ⟨_, rfl⟩
      obtain ⟨z0, hz0⟩ : ∃ z0, z0 = (PQ.rd_T73 L i).f0 := ⟨_, rfl⟩
      have hzl : z ∈ l := by
        rw [hz]; unfold rd
        have := HH.out.2.2.2.2.2.2.2.1
        rw [List.getD_eq_getElem?_getD, List.getElem?_eq_getElem (by omega)]; exact List.getElem_mem _
      have x0 : wr.cell? ⟨g1, i.toNat, none⟩ = some (.int .i64 z) := (blk_cell hcur _).trans (by rw [hz]; exact hcj i (Int.le_refl _) him)
      rw [← hz] at y1
      rw [← hz0] at y0
      have hzs := Aside0.mk (And.intro hz (And.intro hz0 hzl))
      have HC := Aside0.mk (And.intro hcur (And.intro hcs hcj))
      clear hz hz0 hzl hcur hcs hcj hm0 hA1
      go_upto_region 7 with fail
      obtain ⟨W4, hW4⟩ : ∃ W4, W4 = wr.alloc (Obj.cells #[.int .i64 z0, .int .i64 z] 73) := ⟨_, rfl⟩
      have b4 : Below wr.heap.size wr W4 := by rw [hW4]; exact (Below.refl _ _).alloc (Nat.le_refl _) _
      have x4 : W4.heap[wr.heap.size]? = some (.cells #[.int .i64 z0, .int .i64 z] 73 (0, 0)) := by rw [hW4]; exact heap_alloc_new wr _
      rw [← hW4]
      have o4 : Only (fun _ => False) wr W4 := Only.ofBelow b4
      have w4 : Below w.heap.size w W4 := hB.out.trans (b4.mono hB.out.size)
      have t4 : IsTurns W4.drew b l n := (HH.out.1.only (Only.ofBelow (F := fun _ => False) w4) (fun _ _ h => h)).drew
      have L4 := hL.out.below o4 (fun h => h)
      have hcur4 := (o4.block _ (blk_lt HC.out.1) (fun h => h)).trans HC.out.1
      have f1 : W4.cell? ⟨g1, i.toNat, none⟩ = some (.int .i64 z) := (blk_cell hcur4 _).trans ((blk_cell HC.out.1 _).symm.trans x0)
      have f2 : W4.cell? ⟨wr.heap.size, 1, none⟩ = some (.int .i64 z) := (blk_cell x4 1).trans rfl
      have hhas : Calls Try.prog 71 #[.pointer (some ⟨b + 2, 0, none⟩), .int .i64 z] W4.drew fun e w' => e = .returned (.bool true) ∧ w' = W4.drew := by
        have := has_calls W4.drew b l n z t4 (HH.out.2.2.2.2.2.2.2.2.1 z hzs.out.2.2)
        rw [decide_eq_true hzs.out.2.2] at this
        exact this
      have hzz : (z == z) = true := by simp
      have H4 := Aside0.mk (And.intro x4 (And.intro w4 (And.intro t4 (And.intro L4 hcur4))))
      clear hW4 b4 x4 o4 w4 t4 L4 hcur4 x0 y0 y1
      refine start_ (n := 14) (S := fun w' => w'.cell? ⟨g1, i.toNat, none⟩ = some (.int .i64 z) ∧ w'.cell? ⟨wr.heap.size, 1, none⟩ = some (.int .i64 z)) (ds := []) #[false, false, false, false, false, false, false, false, false, false, false, false, false, false] (by kernel_rfl) rfl rfl ⟨f1, f2⟩ (fun hHeld => ?_)
      refine pure_ (i := 0) (N := some 43) (v := ?_) (a' := ?_) #[true, false, false, false, false, false, false, false, false, false, false, false, false, false] rfl rfl (by kernel_rfl) (fun _ _ _ h => h) (Or.inl ⟨by rfl, ?_⟩) ?_ ?_
      rotate_left
      · intro w'
        go_simp
        with_reducible rfl
      rotate_left
      · simp only [Act.put, List.setIfInBounds_toArray, List.set_cons_zero, List.set_cons_succ, i64_w, i32_w]
        rfl
      refine pure_ (i := 1) (N := some 44) (v := ?_) (a' := ?_) #[true, true, false, false, false, false, false, false, false, false, false, false, false, false] rfl rfl (by kernel_rfl) (fun _ _ _ h => h) (Or.inl ⟨by rfl, ?_⟩) ?_ ?_
      rotate_left
      · intro w'
        go_simp
        with_reducible rfl
      rotate_left
      · simp only [Act.put, List.setIfInBounds_toArray, List.set_cons_zero, List.set_cons_succ, i64_w, i32_w]
        rfl
      refine pure_ (i := 2) (N := some 45) (v := ?_) (a' := ?_) #[true, true, true, false, false, false, false, false, false, false, false, false, false, false] rfl rfl (by kernel_rfl) (fun _ _ _ h => h) (Or.inl ⟨by rfl, ?_⟩) ?_ ?_
      rotate_left
      · intro w'
        go_simp
        with_reducible rfl
      rotate_left
      · simp only [Act.put, List.setIfInBounds_toArray, List.set_cons_zero, List.set_cons_succ, i64_w, i32_w]
        rfl
      refine pure_ (i := 4) (N := some 47) (v := ?_) (a' := ?_) #[true, true, true, false, true, false, false, false, false, false, false, false, false, false] rfl rfl (by kernel_rfl) (fun _ _ _ h => h) (Or.inl ⟨by rfl, ?_⟩) ?_ ?_
      rotate_left
      · intro w'
        go_simp
        with_reducible rfl
      rotate_left
      · simp only [Act.put, List.setIfInBounds_toArray, List.set_cons_zero, List.set_cons_succ, i64_w, i32_w]
        rfl
      refine take_ (i := 3) (N := some 46) (v := ?_) (a' := ?_) #[true, true, true, true, true, false, false, false, false, false, false, false, false, false] rfl rfl (by kernel_rfl) (fun _ _ _ h => h) (Or.inl ⟨by rfl, ?_⟩) hHeld ?_ ?_
      rotate_left
      · rintro w' ⟨s0, s1⟩
        go_simp
        with_reducible rfl
      rotate_left
      · simp only [Act.put, List.setIfInBounds_toArray, List.set_cons_zero, List.set_cons_succ, i64_w, i32_w]
        rfl
      refine take_ (i := 5) (N := some 48) (v := ?_) (a' := ?_) #[true, true, true, true, true, true, false, false, false, false, false, false, false, false] rfl rfl (by kernel_rfl) (fun _ _ _ h => h) (Or.inl ⟨by rfl, ?_⟩) hHeld ?_ ?_
      rotate_left
      · rintro w' ⟨s0, s1⟩
        go_simp
        with_reducible rfl
      rotate_left
      · simp only [Act.put, List.setIfInBounds_toArray, List.set_cons_zero, List.set_cons_succ, i64_w, i32_w]
        rfl
      refine pure_ (i := 6) (N := some 49) (v := ?_) (a' := ?_) #[true, true, true, true, true, true, true, false, false, false, false, false, false, false] rfl rfl (by kernel_rfl) (fun _ _ _ h => h) (Or.inl ⟨by rfl, ?_⟩) ?_ ?_
      rotate_left
      · intro w'
        go_simp
        with_reducible rfl
      rotate_left
      · simp only [Act.put, List.setIfInBounds_toArray, List.set_cons_zero, List.set_cons_succ, i64_w, i32_w]
        rfl
      refine pure_ (i := 7) (N := some 50) (v := ?_) (a' := ?_) #[true, true, true, true, true, true, true, true, false, false, false, false, false, false] rfl rfl (by kernel_rfl) (fun _ _ _ h => h) (Or.inl ⟨by rfl, ?_⟩) ?_ ?_
      rotate_left
      · intro w'
        go_simp
        with_reducible rfl
      rotate_left
      · simp only [Act.put, List.setIfInBounds_toArray, List.set_cons_zero, List.set_cons_succ, i64_w, i32_w]
        rfl
      refine pure_ (i := 8) (N := some 51) (v := ?_) (a' := ?_) #[true, true, true, true, true, true, true, true, true, false, false, false, false, false] rfl rfl (by kernel_rfl) (fun _ _ _ h => h) (Or.inl ⟨by rfl, ?_⟩) ?_ ?_
      rotate_left
      · intro w'
        go_simp
        with_reducible rfl
      rotate_left
      · simp only [Act.put, List.setIfInBounds_toArray, List.set_cons_zero, List.set_cons_succ, i64_w, i32_w]
        rfl
      refine pure_ (i := 9) (N := some 52) (v := ?_) (a' := ?_) #[true, true, true, true, true, true, true, true, true, true, false, false, false, false] rfl rfl (by kernel_rfl) (fun _ _ _ h => h) (Or.inl ⟨by rfl, ?_⟩) ?_ ?_
      rotate_left
      · intro w'
        go_simp
        with_reducible rfl
      rotate_left
      · simp only [Act.put, List.setIfInBounds_toArray, List.set_cons_zero, List.set_cons_succ, i64_w, i32_w]
        rfl
      refine take_ (i := 10) (N := some 53) (v := ?_) (a' := ?_) #[true, true, true, true, true, true, true, true, true, true, true, false, false, false] rfl rfl (by kernel_rfl) (fun _ _ _ h => h) (Or.inl ⟨by rfl, ?_⟩) hHeld ?_ ?_
      rotate_left
      · rintro w' ⟨s0, s1⟩
        go_simp
        with_reducible rfl
      rotate_left
      · simp only [Act.put, List.setIfInBounds_toArray, List.set_cons_zero, List.set_cons_succ, i64_w, i32_w]
        rfl
      refine one_ (i := 11) (N := some 54) #[true, true, true, true, true, true, true, true, true, true, true, true, false, false] rfl rfl (by kernel_rfl) (by decide) (fun K hK => ?_)
      refine goes_ Try.func71 (by kernel_rfl) rfl #[.pointer (some ⟨b + 2, 0, none⟩), .int .i64 z] (by rfl) rfl rfl (by simp only [List.map_toArray, List.map_cons, List.map_nil]; rfl) ?_
      with_reducible refine (hhas).mono ?_
      rintro e w3 ⟨rfl, rfl⟩
      refine ⟨_, rfl, ?_⟩
      refine hK.out _ _ ⟨f1, f2⟩ (fun hHeld => ?_)
      clear hK K
      refine norm_ (a' := ?_) ?_ ?_
      rotate_left
      · show Act.put _ (some 54) _ = _
        simp only [Act.put, List.setIfInBounds_toArray, List.set_cons_zero, List.set_cons_succ, i64_w, i32_w]
        rfl
      refine pure_ (i := 12) (N := some 55) (v := ?_) (a' := ?_) #[true, true, true, true, true, true, true, true, true, true, true, true, true, false] rfl rfl (by kernel_rfl) (fun _ _ _ h => h) (Or.inl ⟨by rfl, ?_⟩) ?_ ?_
      rotate_left
      · intro w'
        go_simp
        with_reducible rfl
      rotate_left
      · simp only [Act.put, List.setIfInBounds_toArray, List.set_cons_zero, List.set_cons_succ, i64_w, i32_w]
        rfl
      refine pure_ (i := 13) (N := some 56) (v := ?_) (a' := ?_) #[true, true, true, true, true, true, true, true, true, true, true, true, true, true] rfl rfl (by kernel_rfl) (fun _ _ _ h => h) (Or.inl ⟨by rfl, ?_⟩) ?_ ?_
      rotate_left
      · intro w'
        go_simp
        with_reducible rfl
      rotate_left
      · simp only [Act.put, List.setIfInBounds_toArray, List.set_cons_zero, List.set_cons_succ, i64_w, i32_w]
        rfl
      refine done_ (by kernel_rfl) ?_
      have f1' : W4.drew.cell? ⟨g1, i.toNat, none⟩ = some (.int .i64 z) := f1
      have fr := blk_frozen (w := W4.drew) H4.out.2.2.2.2 i.toNat
      have wi : wrap64 (i + 1) = i + 1 := w64 _ (by have := HH.out.2.2.2.2.2.2.2.2.2; have := HH.out.2.2.2.2.2.2.2.1; omega)
      clear f1 f2 hhas
      go_wp2
      have L5 := (H4.out.2.2.2.1.below (w' := W4.drew) ((Only.refl (fun _ => False) W4).drew) (fun h => h)).set hi0 (.int .i64 (wrap64 (z - 1)))
      have w5 : Below w.heap.size w (W4.drew.setCell ⟨g1, i.toNat, none⟩ (.int .i64 (wrap64 (z - 1)))) := ((Only.ofBelowAt H4.out.2.1).drew.setCell (p := ⟨g1, i.toNat, none⟩) (fun _ => hg1) _).below (Nat.le_refl _) (fun k hk h => by omega)
      go_roundg (m - i.toNat)
      case measure => exact hi.out.2.2
      case rel => exact ⟨i + 1, by rw [wi], ⟨by have := hi.out; omega, by have := hi.out; omega, by have := hi.out; omega⟩, ⟨L5⟩, ⟨w5⟩⟩
    · have d1 : decide (i < (m : Int)) = false := decide_eq_false him
      have hTr := HH.out.1.only (Only.ofBelow (F := fun _ => False) hB.out) (fun _ _ h => h)
      cases l with
      | nil =>
        have hm0 : m = 0 := by have := HH.out.2.2.2.2.2.2.2.1; simpa using this.symm
        have hm1 : ((m : Int) == 0) = true := by simp [hm0]
        have hm2 : (m == 0) = true := by simp [hm0]
        replace hm0 := Aside0.mk hm0
        have hc := front_empty wr b n hTr
        replace hTr := Aside0.mk hTr
        clear him
        go_wp2_with (go_at_call 85; refine hc.mono ?_; rintro e W5 ⟨rfl, h9⟩; rw [h9]; clear h9 W5)
        go_ret
        exact ⟨by first | rfl | simp, hTr.out, Only.ofBelow hB.out⟩
      | cons y l' =>
        have hm0 : m = l'.length + 1 := by have := HH.out.2.2.2.2.2.2.2.1; simpa using this.symm
        have hc := front_some wr b l' n y hTr HH.out.2.1
        have hRr := Kd.R_below HH.out.2.2.2.1 hB.out
        have hm1 : ((m : Int) == 0) = false := by simp; omega
        have hm2 : (m == 0) = false := by simp; omega
        have hm3 := eq_true (show 0 < m by omega)
        replace hm0 := Aside0.mk hm0
        clear him hTr
        go_upto_region 12 with (go_at_call 85; refine hc.mono ?_; rintro e W5 ⟨rfl, hT5, hO5⟩)
        have hR5 := R_only hRr hO5 HH.out.2.2.2.2.1
        obtain ⟨A9, c9, e9, hc9, hC9⟩ := Kd.R_reads hR5
        have hmL := HH.out.2.2.2.2.2.2.1
        rw [← hmL] at e9 hC9 hc9
        cases e9
        rw [hmL] at hC9
        obtain ⟨ad, eA, y0, y1⟩ := PQ.at_T73 hC9 0 (Int.le_refl _) (by have := hm0.out; omega)
        subst eA
        rw [rd_f1, HH.out.2.2.1, show rd (y :: l') 0 = y from rfl] at y1
        replace hT5 := Aside0.mk hT5
        replace hO5 := Aside0.mk hO5
        have y2 : W5.cell? ⟨ad.block, ad.off + 1, none⟩ = some (.int .i64 y) := y1
        clear hRr hR5 hc9 hC9 hc y0 hmL
        go_wp2
        go_ret
        exact ⟨by first | rfl | simp, hT5.out, (Only.ofBelow hB.out).trans hO5.out⟩
end Go.Proofs.Ytljckmiphkoipaa

/-
  QueueTurns: the walk.
-/
namespace Go.Proofs.Ytljckmiphkoipaa
set_option linter.unusedVariables false
set_option linter.unusedSimpArgs false
open Go.RowKit Go.MapKept Go.Maps Go.Proofs.YtljckmiphkoipaaW.PrintWords Go.Proofs.YtljckmiphkoipaaW.PrintLast Go.Proofs.YtljckmiphkoipaaW.PrintMore

theorem R_lit73 (w : World) (base : Nat) (ok : Nat → Prop) (hb : base ≤ w.heap.size) (hok : ok w.heap.size) : PQ.k73.R 73 (w.alloc (.cells #[] 73)) base ok (.slice (some ⟨w.heap.size, 0, none⟩) 0 0) [] :=
  ⟨fun k hk => by simp [Value.ownBlock] at hk; subst hk; exact hok, [], ⟨rfl, .inr ⟨w.heap.size, 0, #[], rfl, hb, heap_alloc_new w _, by simp, by simp, by simp, by simp⟩⟩, Reps.none _ _⟩
theorem reads_one73 {w : World} {g : Nat} {t x : Int} (h : w.heap[g]? = some (.cells #[.int .i64 t, .int .i64 x] 73 (0, 0))) : ReadsRow (fun (p : PQ.S73) cs => cs = [.int .i64 p.f0, .int .i64 p.f1]) 2 w (some ⟨g, 0, none⟩) 1 [⟨t, x⟩] :=
  ⟨rfl, by omega, fun _ => ⟨_, rfl, fun j p hp => by
    cases j with
    | zero =>
      simp at hp
      subst hp
      refine ⟨_, rfl, rfl, fun i u hu => ?_⟩
      match i, hu with
      | 0, hu => rw [← hu]; exact blk_cell h 0
      | 1, hu => rw [← hu]; exact blk_cell h 1
    | succ j => simp at hp⟩⟩
theorem und67 : Try.prog.underlying 67 = some (.slice 73) := by kernel_rfl
/-- The queue and the document's list, between two lines of the script. -/
structure QI (w w' : World) (b : Nat) (vl : Value) (l : List Int) (i : Int) : Prop where
  t : IsTurns w' b l i
  r : PQ.k73.R 73 w' w.heap.size (fun k => w.heap.size ≤ k ∧ ¬ tfoot b k) vl (tl l)
  bw : Below w.heap.size w w'
  lo : w.heap.size ≤ b
theorem QI.below {w w' W : World} {b : Nat} {vl : Value} {l : List Int} {i : Int} (h : QI w w' b vl l i) (hb : Below w'.heap.size w' W) : QI w W b vl l i :=
  ⟨h.t.only (Only.ofBelow (F := fun _ => False) hb) (fun _ _ h => h), Kd.R_below h.r hb, h.bw.trans (hb.mono h.bw.size), h.lo⟩
theorem QI.step {w w' W : World} {b : Nat} {vl : Value} {l l' : List Int} {i j : Int} (h : QI w w' b vl l i) (ht : IsTurns W b l' j) (ho : Only (tfoot b) w' W) : IsTurns W b l' j ∧ PQ.k73.R 73 W w.heap.size (fun k => w.heap.size ≤ k ∧ ¬ tfoot b k) vl (tl l) ∧ Below w.heap.size w W :=
  ⟨ht, R_only h.r ho (fun k hk hf => hk.2 hf), below_only h.bw ho h.bw.size (fun k hk hf => by have := hf.1; have := h.lo; omega)⟩
/-- A list that is all new. -/
theorem newR {w w1 w2 : World} {b : Nat} {v : Value} {L : List PQ.S73} (h : PQ.k73.R 73 w2 w1.heap.size (fun _ => True) v L) (hb : b + 2 < w1.heap.size) (hw : w.heap.size ≤ w1.heap.size) : PQ.k73.R 73 w2 w.heap.size (fun k => w.heap.size ≤ k ∧ ¬ tfoot b k) v L :=
  Kd.R_lower (Kd.R_mono (Kd.R_bound h) (fun k hk => ⟨by have := hk.2.1; omega, fun hf => by have := hf.2; have := hk.2.1; omega⟩)) hw


set_option maxRecDepth 100000 in
set_option maxHeartbeats 16000000 in
theorem queueTurns_walk (vs : Value) (zs : List (Int × Int × Int)) (w : World) (hzs : ScriptArg w vs zs) : Calls Try.prog 7 #[vs] w fun e w' => e = .returned (.bool true) ∧ Below w.heap.size w w' := by
  obtain ⟨As, cs, hvs⟩ := hzs.shape
  have hcl := hzs.cells As cs hvs
  subst hvs
  obtain ⟨nz, hnz⟩ : ∃ nz : Nat, nz = zs.length := ⟨_, rfl⟩
  rw [← hnz] at hcl ⊢
  have HZ := Aside0.mk (And.intro hzs.good (And.intro hzs.few (And.intro hnz hcl)))
  clear hzs hnz hcl
  go_enter Try.func7, Try.ntmps7
  go_upto_region 4 with (first
    | (go_at_call 38; refine (newTurns_calls w).mono ?_; rintro e W1 ⟨b, rfl, hb, hT1, hB1⟩; replace hT1 := Aside0.mk hT1; replace hB1 := Aside0.mk hB1; replace hb := Aside0.mk hb)
    | (go_at_call 39; refine (qawake_calls W1).mono ?_; rintro e W2 ⟨rfl, hB2⟩; replace hB2 := Aside0.mk hB2))
  have hlt := hT1.out.lt
  have hT2 := hT1.out.only (Only.ofBelow (F := fun _ => False) hB2.out) (fun _ _ h => h)
  have hw2 : Below w.heap.size w W2 := hB1.out.trans (hB2.out.mono hB1.out.size)
  have hI3 : QI w (W2.alloc (Obj.cells #[] 73)) b (.slice (some ⟨W2.heap.size, 0, none⟩) 0 0) [] 0 :=
    ⟨hT2.only (Only.ofBelow (F := fun _ => False) ((Below.refl _ _).alloc (Nat.le_refl _) _)) (fun _ _ h => h),
      R_lit73 W2 w.heap.size _ hw2.size ⟨hw2.size, fun hf => by have := hf.2; have := hB2.out.size; omega⟩, hw2.alloc hw2.size _, by rw [hb.out]; exact Nat.le_refl _⟩
  replace hI3 := Aside0.mk hI3
  clear hlt hT2 hw2 hT1 hB1 hB2 hb
  go_wp2
  go_loopg [18, 4] (nz + 1) (fun kq v18 v4 w' => ∃ (i : Int) (l : List Int), v18 = .int .i64 i ∧ Aside0 (0 ≤ i ∧ i ≤ nz ∧ (nz - i).toNat < kq) ∧ Aside0 (QI w w' b v4 l i))
  case atStart => exact ⟨0, [], rfl, ⟨by omega, by omega, by omega⟩, hI3⟩
  case round =>
    clear hI3
    obtain ⟨i, l, rfl, hi, hI⟩ := hrel
    by_cases hin : i < nz
    · have hlt : decide (i < (nz : Int)) = true := decide_eq_true hin
      have p1 : 0 ≤ i := hi.out.1
      obtain ⟨ad, eA, hx1, hx2, hx3⟩ := HZ.out.2.2.2 i p1 hin
      cases eA
      obtain ⟨a, haa⟩ : ∃ a, a = zs.getD i.toNat (0, 0, 0) := ⟨_, rfl⟩
      rw [← haa] at hx1 hx2 hx3
      replace hx1 := pw_cell_below hI.out.bw hx1
      replace hx2 := pw_cell_below hI.out.bw hx2
      replace hx3 := pw_cell_below hI.out.bw hx3
      have hga : goodI a.1 ∧ goodI a.2.1 ∧ goodI a.2.2 := by
        rw [haa, List.getD_eq_getElem?_getD, List.getElem?_eq_getElem (by have := HZ.out.2.2.1; omega)]
        exact HZ.out.1 _ (List.getElem_mem _)
      obtain ⟨a1, a2, a3⟩ := a
      simp only at hx1 hx2 hx3 hga
      have hiz : i < 8796093022208 := by have := HZ.out.2.2.1; have := HZ.out.2.1; omega
      have hiw : wrap64 (i + 1) = i + 1 := w64 _ (by omega)
      obtain ⟨A, c, rfl, hc, hC⟩ := Kd.R_reads hI.out.r
      have hvl := Kd.R_lt hI.out.r
      have hfew := hI.out.t.few
      have hnd := hI.out.t.nodup
      have hfd : ∀ u, Below wr.heap.size wr u → Calls Try.prog 40 #[.slice A (tl l).length c, .int .i64 a2] u fun e w' => e = .returned (.int .i64 (findV l a2)) ∧ Below u.heap.size u w' := fun u hu =>
        PQ.convoyref04_Find.calls (l.length + 1) A c (tl l) a2 (findV l a2) u (Kd.C_below hC hu) hc (tfind_f l a2 hfew)
      obtain ⟨m, hm⟩ : ∃ m : Nat, m = (tl l).length := ⟨_, rfl⟩
      have hml : m = l.length := by rw [hm, tl_length]
      rw [← hm] at hc hC hfd hI hvl ⊢
      replace hvl := Aside0.mk hvl
      obtain ⟨fv, hfv⟩ : ∃ fv, fv = findV l a2 := ⟨_, rfl⟩
      have hfd2 : decide (0 ≤ fv) = decide (a2 ∈ l) := by rw [hfv]; exact findV_neg
      rw [← hfv] at hfd
      obtain ⟨kk, hkk⟩ : ∃ kk, kk = kindQ a1 := ⟨_, rfl⟩
      have hkd := fun u => PQ.convoylaw04_kind.calls a1 6 kk u (by rw [hkk]; exact kindQ_f hga.1)
      have HA := Aside0.mk (And.intro hga (And.intro hiz (And.intro hin (And.intro hkk (And.intro hiw (And.intro hfew (And.intro hnd (And.intro hm (And.intro hml (And.intro hfv (And.intro hfd2 (And.intro hc hC))))))))))))
      replace hfd := Aside0.mk hfd
      replace hkd := Aside0.mk hkd
      clear haa hga hiz hkk hiw hfew hnd hm hml hfv hfd2 hc hC
      replace p1 := eq_true p1
      replace hin := eq_true hin
      go_upto_region 8 with fail
      obtain ⟨W4, hW4⟩ : ∃ W4, W4 = wr.alloc (Obj.cells #[.int .i64 a1, .int .i64 a2, .int .i64 a3] 69) := ⟨_, rfl⟩
      have b4 : Below wr.heap.size wr W4 := by rw [hW4]; exact (Below.refl _ _).alloc (Nat.le_refl _) _
      have x4 : W4.heap[wr.heap.size]? = some (.cells #[.int .i64 a1, .int .i64 a2, .int .i64 a3] 69 (0, 0)) := by rw [hW4]; exact heap_alloc_new wr _
      rw [← hW4]
      have hI4 := Aside0.mk (hI.out.below b4)
      have hs4 := Aside0.mk (And.intro b4 (And.intro hI.out.t.lt x4))
      have q1 : W4.cell? ⟨wr.heap.size, 1, none⟩ = some (.int .i64 a2) := (blk_cell x4 1).trans rfl
      clear hW4 b4 x4 hx1 hx2 hx3 hI
      go_upto_region 9 with (go_at_call 40; refine (hfd.out W4 hs4.out.1).mono ?_; rintro e W5 ⟨rfl, hB5⟩; have hI5 := Aside0.mk (hI4.out.below hB5); have x5 := (hB5.block _ (blk_lt hs4.out.2.2)).trans hs4.out.2.2; replace hB5 := Aside0.mk hB5)
      have q0 : W5.cell? ⟨wr.heap.size, 0, none⟩ = some (.int .i64 a1) := (blk_cell x5 0).trans rfl
      replace x5 := Aside0.mk x5
      clear q1 hfd
      go_upto_region 14 with (go_at_call 41; refine (hkd.out W5).mono ?_; rintro e W6 ⟨rfl, hD6⟩; have hB6 : Below W5.heap.size W5 W6 := by obtain ⟨d6, h6⟩ := hD6.out; rw [h6]; exact Go.Joins.below_draws _ _ _)
      have hI6 := Aside0.mk (hI5.out.below hB6)
      have x6 := Aside0.mk ((hB6.block _ (blk_lt x5.out)).trans x5.out)
      have hs6 := Aside0.mk (show b + 2 < W6.heap.size ∧ b + 2 < wr.heap.size from And.intro (by have := hs4.out.2.1; have := hs4.out.1.size; have := hB5.out.size; have := hB6.size; omega) hs4.out.2.1)
      have hC6 := Aside0.mk (Kd.C_below (Kd.C_below (Kd.C_below HA.out.2.2.2.2.2.2.2.2.2.2.2.2 hs4.out.1) hB5.out) hB6)
      clear q0 hkd hI4 hI5 x5 hB5 hB6 hs4
      by_cases hk3 : kk = 3
      · subst hk3
        cases l with
        | nil =>
          have hm0 : m = 0 := HA.out.2.2.2.2.2.2.2.2.1
          have g1 : decide ((0 : Int) < (m : Int)) = false := decide_eq_false (by omega)
          have g2 : decide (0 < m) = false := decide_eq_false (by omega)
          have hc := take_empty W6 b i hI6.out.t
          replace hm0 := Aside0.mk hm0
          go_upto_region 30 with (go_at_call 42; refine hc.mono ?_; rintro e W7 ⟨rfl, h9⟩; rw [h9]; clear h9 W7)
          have HF : Aside0 (QI w W6 b (.slice A m c) [] (i + 1)) := ⟨hI6.out.t.more (by omega), hI6.out.r, hI6.out.bw, hI6.out.lo⟩
          clear hc
          have q1 : W6.cell? ⟨wr.heap.size, 1, none⟩ = some (.int .i64 a2) := (blk_cell x6.out 1).trans rfl
          have hst := turns_calls (x := a2) _ HF.out.t (by have := HA.out.2.1; omega) HA.out.1.2.1 (items_tl _) HF.out.r (fun k hk => hk.2)
          go_wp2_with (go_at_call 48; refine hst.mono ?_; rintro e W30 ⟨rfl, hT30, hO30⟩; replace hT30 := Aside0.mk hT30; replace hO30 := Aside0.mk hO30)
          go_roundg (nz - i).toNat
          case measure => exact hi.out.2.2
          case rel =>
            have h9 := HF.out.step hT30.out hO30.out
            exact ⟨i + 1, _, by simp [HA.out.2.2.2.2.1], ⟨by have := hi.out; omega, by have := hi.out; have := HA.out.2.2.1; omega, by have := hi.out; have := HA.out.2.2.1; omega⟩, ⟨h9.1, h9.2.1, h9.2.2, HF.out.lo⟩⟩
        | cons y l' =>
          have hm0 : m = l'.length + 1 := HA.out.2.2.2.2.2.2.2.2.1
          have g1 : decide ((0 : Int) < (m : Int)) = true := decide_eq_true (by omega)
          have g2 : decide (0 < m) = true := decide_eq_true (by omega)
          have g3 := eq_true (show 0 < m by omega)
          have g4 := eq_true (show (0 : Int) < (m : Int) by omega)
          have hyy : (y == y) = true := by simp
          have hc := take_some W6 b l' i y hI6.out.t (by have := HA.out.2.1; omega)
          replace hm0 := Aside0.mk hm0
          go_upto_region 16 with (go_at_call 42; refine hc.mono ?_; rintro e W7 ⟨rfl, hT7, hO7⟩)
          have hR7 := R_only hI6.out.r hO7 (fun k hk hf => hk.2 hf)
          obtain ⟨A9, c9, e9, hc9, hC9⟩ := Kd.R_reads hR7
          rw [← HA.out.2.2.2.2.2.2.2.1] at e9
          cases e9
          obtain ⟨ad9, eA, y0, y1⟩ := PQ.at_T73 hC9 0 (Int.le_refl _) (by rw [tl_length]; simp)
          subst eA
          rw [rd_f1, items_tl, show rd (y :: l') 0 = y from rfl] at y1
          have y2 : W7.cell? ⟨ad9.block, ad9.off + 1, none⟩ = some (.int .i64 y) := y1
          have hw := PQ.convoyref04_Without.calls (some ad9) c (tl (y :: l')) 0 (tl l') W7 hC9 hc9 (twithout_head y l' (by have := HA.out.2.2.2.2.2.1; simp at this; omega))
          rw [← HA.out.2.2.2.2.2.2.2.1] at hw
          have x7 := Aside0.mk ((hO7.block _ (blk_lt x6.out) (fun hf => by have := hf.2; have := hs6.out.2; omega)).trans x6.out)
          have h7 := Aside0.mk (hI6.out.step hT7 hO7)
          replace hO7 := Aside0.mk hO7
          clear hc hR7 hc9 hC9 y0 y1 hT7
          go_upto_region 30 with (go_at_call 43; refine hw.mono ?_; rintro e W8 ⟨v8, rfl, hR8, hB8⟩)
          have HF : Aside0 (QI w W8 b v8 l' (i + 1)) := ⟨(h7.out.1.only (Only.ofBelow (F := fun _ => False) hB8) (fun _ _ h => h)).more (by omega), newR hR8 (by have := hs6.out.1; have := hO7.out.size; omega) h7.out.2.2.size, h7.out.2.2.trans (hB8.mono h7.out.2.2.size), hI6.out.lo⟩
          have x8 := (hB8.block _ (blk_lt x7.out)).trans x7.out
          clear hw y2 hR8 hB8
          have q1 : W8.cell? ⟨wr.heap.size, 1, none⟩ = some (.int .i64 a2) := (blk_cell x8 1).trans rfl
          have hst := turns_calls (x := a2) _ HF.out.t (by have := HA.out.2.1; omega) HA.out.1.2.1 (items_tl _) HF.out.r (fun k hk => hk.2)
          go_wp2_with (go_at_call 48; refine hst.mono ?_; rintro e W30 ⟨rfl, hT30, hO30⟩; replace hT30 := Aside0.mk hT30; replace hO30 := Aside0.mk hO30)
          go_roundg (nz - i).toNat
          case measure => exact hi.out.2.2
          case rel =>
            have h9 := HF.out.step hT30.out hO30.out
            exact ⟨i + 1, _, by simp [HA.out.2.2.2.2.1], ⟨by have := hi.out; omega, by have := hi.out; have := HA.out.2.2.1; omega, by have := hi.out; have := HA.out.2.2.1; omega⟩, ⟨h9.1, h9.2.1, h9.2.2, HF.out.lo⟩⟩
      · have hk3' : (kk == 3) = false := beq_eq_false_iff_ne.2 hk3
        replace hk3 := Aside0.mk hk3
        have q1 : W6.cell? ⟨wr.heap.size, 1, none⟩ = some (.int .i64 a2) := (blk_cell x6.out 1).trans rfl
        have hfd2 : decide (0 ≤ fv) = decide (a2 ∈ l) := HA.out.2.2.2.2.2.2.2.2.2.2.1
        by_cases hk4 : kk = 4
        · subst hk4
          by_cases hin2 : a2 ∈ l
          · have hc := drop_in W6 b l i a2 hI6.out.t HA.out.1.2.1 hin2
            rw [decide_eq_true hin2] at hfd2
            replace hin2 := Aside0.mk hin2
            go_upto_region 24 with (go_at_call 44; refine hc.mono ?_; rintro e W7 ⟨rfl, hT7, hO7⟩)
            have hC7 := R_only hI6.out.r hO7 (fun k hk hf => hk.2 hf)
            obtain ⟨A9, c9, e9, hc9, hC9⟩ := Kd.R_reads hC7
            rw [← HA.out.2.2.2.2.2.2.2.1] at e9
            cases e9
            have hw := PQ.convoyref04_Without.calls A c (tl l) fv (tl (l.filter fun y => decide (y ≠ a2))) W7 hC9 hc9 (by rw [HA.out.2.2.2.2.2.2.2.2.2.1]; exact twithout_f l a2 HA.out.2.2.2.2.2.1 HA.out.2.2.2.2.2.2.1 hin2.out)
            have hwd : ∀ u, Below W7.heap.size W7 u → Calls Try.prog 43 #[.slice A m c, .int .i64 fv] u fun e w' => ∃ v0_ : Value, e = .returned (v0_) ∧ PQ.k73.R 73 w' u.heap.size (fun _ => True) v0_ (tl (l.filter fun y => decide (y ≠ a2))) ∧ Below u.heap.size u w' := fun u hu => by
              have h9 := PQ.convoyref04_Without.calls A c (tl l) fv (tl (l.filter fun y => decide (y ≠ a2))) u (Kd.C_below hC9 hu) hc9 (by rw [HA.out.2.2.2.2.2.2.2.2.2.1]; exact twithout_f l a2 HA.out.2.2.2.2.2.1 HA.out.2.2.2.2.2.2.1 hin2.out)
              rw [← HA.out.2.2.2.2.2.2.2.1] at h9
              exact h9
            rw [← HA.out.2.2.2.2.2.2.2.1] at hw
            have x7 := Aside0.mk ((hO7.block _ (blk_lt x6.out) (fun hf => by have := hf.2; have := hs6.out.2; omega)).trans x6.out)
            have h7 := Aside0.mk (hI6.out.step hT7 hO7)
            replace hO7 := Aside0.mk hO7
            clear hc hC7 hc9 hC9 hT7 q1 hfd2
            go_upto_region 30 with (go_at_call 43; refine hw.mono ?_; rintro e W8 ⟨v8, rfl, hR8, hB8⟩)
            have HF : Aside0 (QI w W8 b v8 (l.filter fun y => decide (y ≠ a2)) (i + 1)) := ⟨(h7.out.1.only (Only.ofBelow (F := fun _ => False) hB8) (fun _ _ h => h)).more (by omega), newR hR8 (by have := hs6.out.1; have := hO7.out.size; omega) h7.out.2.2.size, h7.out.2.2.trans (hB8.mono h7.out.2.2.size), hI6.out.lo⟩
            have x8 := (hB8.block _ (blk_lt x7.out)).trans x7.out
            clear hw hR8 hB8
            have q1 : W8.cell? ⟨wr.heap.size, 1, none⟩ = some (.int .i64 a2) := (blk_cell x8 1).trans rfl
            have hst := turns_calls (x := a2) _ HF.out.t (by have := HA.out.2.1; omega) HA.out.1.2.1 (items_tl _) HF.out.r (fun k hk => hk.2)
            go_wp2_with (go_at_call 48; refine hst.mono ?_; rintro e W30 ⟨rfl, hT30, hO30⟩; replace hT30 := Aside0.mk hT30; replace hO30 := Aside0.mk hO30)
            go_roundg (nz - i).toNat
            case measure => exact hi.out.2.2
            case rel =>
              have h9 := HF.out.step hT30.out hO30.out
              exact ⟨i + 1, _, by simp [HA.out.2.2.2.2.1], ⟨by have := hi.out; omega, by have := hi.out; have := HA.out.2.2.1; omega, by have := hi.out; have := HA.out.2.2.1; omega⟩, ⟨h9.1, h9.2.1, h9.2.2, HF.out.lo⟩⟩
          · have hc := drop_not W6 b l i a2 hI6.out.t HA.out.1.2.1 hin2
            rw [decide_eq_false hin2] at hfd2
            replace hin2 := Aside0.mk hin2
            go_upto_region 30 with (go_at_call 44; refine hc.mono ?_; rintro e W7 ⟨rfl, h9⟩; rw [h9]; clear h9 W7)
            have HF : Aside0 (QI w W6 b (.slice A m c) l (i + 1)) := ⟨hI6.out.t.more (by omega), hI6.out.r, hI6.out.bw, hI6.out.lo⟩
            clear hc q1
            have q1 : W6.cell? ⟨wr.heap.size, 1, none⟩ = some (.int .i64 a2) := (blk_cell x6.out 1).trans rfl
            have hst := turns_calls (x := a2) _ HF.out.t (by have := HA.out.2.1; omega) HA.out.1.2.1 (items_tl _) HF.out.r (fun k hk => hk.2)
            go_wp2_with (go_at_call 48; refine hst.mono ?_; rintro e W30 ⟨rfl, hT30, hO30⟩; replace hT30 := Aside0.mk hT30; replace hO30 := Aside0.mk hO30)
            go_roundg (nz - i).toNat
            case measure => exact hi.out.2.2
            case rel =>
              have h9 := HF.out.step hT30.out hO30.out
              exact ⟨i + 1, _, by simp [HA.out.2.2.2.2.1], ⟨by have := hi.out; omega, by have := hi.out; have := HA.out.2.2.1; omega, by have := hi.out; have := HA.out.2.2.1; omega⟩, ⟨h9.1, h9.2.1, h9.2.2, HF.out.lo⟩⟩
        · have hk4' : (kk == 4) = false := beq_eq_false_iff_ne.2 hk4
          replace hk4 := Aside0.mk hk4
          by_cases hk5 : kk = 5
          · subst hk5
            by_cases hin2 : a2 ∈ l
            · have hc := back_in W6 b l i a2 hI6.out.t HA.out.1.2.1 hin2 (by have := HA.out.2.1; omega)
              rw [decide_eq_true hin2] at hfd2
              replace hin2 := Aside0.mk hin2
              go_upto_region 29 with (go_at_call 45; refine hc.mono ?_; rintro e W7 ⟨rfl, hT7, hO7⟩)
              have hC7 := R_only hI6.out.r hO7 (fun k hk hf => hk.2 hf)
              obtain ⟨A9, c9, e9, hc9, hC9⟩ := Kd.R_reads hC7
              rw [← HA.out.2.2.2.2.2.2.2.1] at e9
              cases e9
              have hw := PQ.convoyref04_Without.calls A c (tl l) fv (tl (l.filter fun y => decide (y ≠ a2))) W7 hC9 hc9 (by rw [HA.out.2.2.2.2.2.2.2.2.2.1]; exact twithout_f l a2 HA.out.2.2.2.2.2.1 HA.out.2.2.2.2.2.2.1 hin2.out)
              have hwd : ∀ u, Below W7.heap.size W7 u → Calls Try.prog 43 #[.slice A m c, .int .i64 fv] u fun e w' => ∃ v0_ : Value, e = .returned (v0_) ∧ PQ.k73.R 73 w' u.heap.size (fun _ => True) v0_ (tl (l.filter fun y => decide (y ≠ a2))) ∧ Below u.heap.size u w' := fun u hu => by
                have h9 := PQ.convoyref04_Without.calls A c (tl l) fv (tl (l.filter fun y => decide (y ≠ a2))) u (Kd.C_below hC9 hu) hc9 (by rw [HA.out.2.2.2.2.2.2.2.2.2.1]; exact twithout_f l a2 HA.out.2.2.2.2.2.1 HA.out.2.2.2.2.2.2.1 hin2.out)
                rw [← HA.out.2.2.2.2.2.2.2.1] at h9
                exact h9
              rw [← HA.out.2.2.2.2.2.2.2.1] at hw
              have x7 := Aside0.mk ((hO7.block _ (blk_lt x6.out) (fun hf => by have := hf.2; have := hs6.out.2; omega)).trans x6.out)
              have h7 := Aside0.mk (hI6.out.step hT7 hO7)
              replace hO7 := Aside0.mk hO7
              clear hc hC7 hc9 hC9 hT7 q1 hfd2
              have f1 : W7.cell? ⟨wr.heap.size, 1, none⟩ = some (.int .i64 a2) := (blk_cell x7.out 1).trans rfl
              have hlf : (tl (l.filter fun y => decide (y ≠ a2))).length ≤ 65536 := by rw [tl_length]; exact Nat.le_trans (List.length_filter_le _ _) HA.out.2.2.2.2.2.1
              obtain ⟨lf, hlfe⟩ : ∃ lf, lf = tl (l.filter fun y => decide (y ≠ a2)) := ⟨_, rfl⟩
              rw [← hlfe] at hlf
              have hw2 : ∀ u, Below W7.heap.size W7 u → Calls Try.prog 43 #[.slice A m c, .int .i64 fv] u fun e w' => ∃ v0_ : Value, e = .returned (v0_) ∧ PQ.k73.R 73 w' u.heap.size (fun _ => True) v0_ lf ∧ Below u.heap.size u w' := by
                intro u hu
                rw [hlfe]
                exact hwd u hu
              have hd7 : Below W7.heap.size W7 W7.drew := below_drew (Below.refl _ _)
              replace hw2 := Aside0.mk hw2
              replace hlfe := Aside0.mk hlfe
              clear hwd hw
              have hd6 : Below W7.heap.size W7 (W7.alloc (Obj.cells #[Value.int IntKind.i64 0, Value.int IntKind.i64 a2] 73)).drew := below_drew ((Below.refl _ _).alloc (Nat.le_refl _) _)
              have x6a : (W7.alloc (Obj.cells #[Value.int IntKind.i64 0, Value.int IntKind.i64 a2] 73)).drew.heap[W7.heap.size]? = some (.cells #[.int .i64 0, .int .i64 a2] 73 (0, 0)) := heap_alloc_new W7 _
              have hs6a : (W7.alloc (Obj.cells #[Value.int IntKind.i64 0, Value.int IntKind.i64 a2] 73)).drew.heap.size = W7.heap.size + 1 := by show (W7.alloc (Obj.cells #[Value.int IntKind.i64 0, Value.int IntKind.i64 a2] 73)).heap.size = _; simp
              have f1a : (W7.alloc (Obj.cells #[Value.int IntKind.i64 0, Value.int IntKind.i64 a2] 73)).drew.cell? ⟨wr.heap.size, 1, none⟩ = some (.int .i64 a2) := (blk_cell ((hd6.block _ (blk_lt x7.out)).trans x7.out) 1).trans rfl
              have HD := Aside0.mk (And.intro hd6 (And.intro x6a hs6a))
              clear x6a hs6a
              refine start_ (n := 9) (S := fun w' => w'.cell? ⟨wr.heap.size, 1, none⟩ = some (.int .i64 a2)) (ds := []) #[false, false, false, false, false, false, false, false, false] (by kernel_rfl) rfl rfl (f1) (fun hHeld => ?_)
              refine pure_ (i := 0) (N := some 102) (v := ?_) (a' := ?_) #[true, false, false, false, false, false, false, false, false] rfl rfl (by kernel_rfl) (fun _ _ _ h => h) (Or.inl ⟨by rfl, ?_⟩) ?_ ?_
              rotate_left
              · intro w'
                go_simp
                with_reducible rfl
              rotate_left
              · simp only [Act.put, List.setIfInBounds_toArray, List.set_cons_zero, List.set_cons_succ, i64_w, i32_w]
                rfl
              refine pure_ (i := 1) (N := some 103) (v := ?_) (a' := ?_) #[true, true, false, false, false, false, false, false, false] rfl rfl (by kernel_rfl) (fun _ _ _ h => h) (Or.inl ⟨by rfl, ?_⟩) ?_ ?_
              rotate_left
              · intro w'
                go_simp
                with_reducible rfl
              rotate_left
              · simp only [Act.put, List.setIfInBounds_toArray, List.set_cons_zero, List.set_cons_succ, i64_w, i32_w]
                rfl
              refine pure_ (i := 3) (N := some 105) (v := ?_) (a' := ?_) #[true, true, false, true, false, false, false, false, false] rfl rfl (by kernel_rfl) (fun _ _ _ h => h) (Or.inl ⟨by rfl, ?_⟩) ?_ ?_
              rotate_left
              · intro w'
                go_simp
                with_reducible rfl
              rotate_left
              · simp only [Act.put, List.setIfInBounds_toArray, List.set_cons_zero, List.set_cons_succ, i64_w, i32_w]
                rfl
              refine take_ (i := 4) (N := some 106) (v := ?_) (a' := ?_) #[true, true, false, true, true, false, false, false, false] rfl rfl (by kernel_rfl) (fun _ _ _ h => h) (Or.inl ⟨by rfl, ?_⟩) hHeld ?_ ?_
              rotate_left
              · intro w' s0
                go_simp
                with_reducible rfl
              rotate_left
              · simp only [Act.put, List.setIfInBounds_toArray, List.set_cons_zero, List.set_cons_succ, i64_w, i32_w]
                rfl
              refine pure_ (i := 5) (N := some 107) (v := ?_) (a' := ?_) #[true, true, false, true, true, true, false, false, false] rfl rfl (by kernel_rfl) (fun _ _ _ h => h) (Or.inl ⟨by rfl, ?_⟩) ?_ ?_
              rotate_left
              · intro w'
                go_simp
                with_reducible rfl
              rotate_left
              · simp only [Act.put, List.setIfInBounds_toArray, List.set_cons_zero, List.set_cons_succ, i64_w, i32_w]
                rfl
              refine join_ (σ := Value × Nat) 2 #[true, true, true, true, true, true, true, false, false] (fun s => [(104, s.1), (108, .slice (some ⟨s.2, 0, none⟩) 1 1)]) (fun s w' => PQ.k73.R 73 w' W7.heap.size (fun k => k ≠ s.2) s.1 lf ∧ w'.heap[s.2]? = some (.cells #[.int .i64 0, .int .i64 a2] 73 (0, 0)) ∧ W7.heap.size ≤ s.2 ∧ Below W7.heap.size W7 w') ?_ ?_
              rotate_left
              · intro hCont
                refine two_ (i := 2) (j := 6) (Ni := some 104) (Nj := some 108) #[true, true, true, true, true, true, false, false, false] #[true, true, false, true, true, true, true, false, false] rfl rfl rfl rfl (by kernel_rfl) (by decide) (by decide) (fun K hK => ?_) (fun K hK => ?_)
                · skip
                  refine goes_ Try.func43 (by kernel_rfl) rfl #[.slice A m c, .int .i64 fv] (by rfl) rfl rfl (by simp only [List.map_toArray, List.map_cons, List.map_nil]; rfl) ?_
                  with_reducible refine (hw2.out W7.drew hd7).mono ?_
                  rintro e W8 ⟨v8, rfl, hR8, hB8⟩
                  refine ⟨_, rfl, ?_⟩
                  have x8 := (hB8.block _ (blk_lt x7.out)).trans x7.out
                  have f2 : W8.cell? ⟨wr.heap.size, 1, none⟩ = some (.int .i64 a2) := (blk_cell x8 1).trans rfl
                  have hb8 : Below W8.heap.size W8 (W8.alloc (Obj.cells #[Value.int IntKind.i64 0, Value.int IntKind.i64 a2] 73)) := (Below.refl _ _).alloc (Nat.le_refl _) _
                  have f3 : (W8.alloc (Obj.cells #[Value.int IntKind.i64 0, Value.int IntKind.i64 a2] 73)).cell? ⟨wr.heap.size, 1, none⟩ = some (.int .i64 a2) := pw_cell_below hb8 f2
                  refine hK.out _ _ (f2) (fun hHeld => ?_)
                  clear hK K
                  refine norm_ (a' := ?_) ?_ ?_
                  rotate_left
                  · show Act.put _ (some 104) _ = _
                    simp only [Act.put, List.setIfInBounds_toArray, List.set_cons_zero, List.set_cons_succ, i64_w, i32_w]
                    rfl
                  refine one_ (i := 6) (N := some 108) #[true, true, true, true, true, true, true, false, false] rfl rfl (by kernel_rfl) (by decide) (fun K hK => ?_)
                  refine value_ (w1 := ?_) (v := ?_) (by rfl) rfl ?_ ?_
                  rotate_left 2
                  · go_simp
                    constructor
                    · rfl
                    · rfl
                  refine hK.out _ _ (f3) (fun hHeld => ?_)
                  clear hK K
                  refine norm_ (a' := ?_) ?_ ?_
                  rotate_left
                  · show Act.put _ (some 108) _ = _
                    simp only [Act.put, List.setIfInBounds_toArray, List.set_cons_zero, List.set_cons_succ, i64_w, i32_w]
                    rfl
                  exact norm_ (by simp only [putAll, Act.put, List.setIfInBounds_toArray, List.set_cons_zero, List.set_cons_succ]) (hCont (v8, W8.heap.size) _ ⟨Kd.R_below (Kd.R_mono (Kd.R_bound hR8) (fun k hk => Nat.ne_of_lt hk.2.2.1)) hb8, heap_alloc_new W8 _, hB8.size, (hd7.trans (hB8.mono (Nat.le_refl _))).trans (hb8.mono hB8.size)⟩)
                · skip
                  refine value_ (w1 := ?_) (v := ?_) (by rfl) rfl ?_ ?_
                  rotate_left 2
                  · go_simp
                    constructor
                    · rfl
                    · rfl
                  refine hK.out _ _ (f1a) (fun hHeld => ?_)
                  clear hK K
                  refine norm_ (a' := ?_) ?_ ?_
                  rotate_left
                  · show Act.put _ (some 108) _ = _
                    simp only [Act.put, List.setIfInBounds_toArray, List.set_cons_zero, List.set_cons_succ, i64_w, i32_w]
                    rfl
                  refine one_ (i := 2) (N := some 104) #[true, true, true, true, true, true, true, false, false] rfl rfl (by kernel_rfl) (by decide) (fun K hK => ?_)
                  refine goes_ Try.func43 (by kernel_rfl) rfl #[.slice A m c, .int .i64 fv] (by rfl) rfl rfl (by simp only [List.map_toArray, List.map_cons, List.map_nil]; rfl) ?_
                  with_reducible refine (hw2.out (W7.alloc (Obj.cells #[Value.int IntKind.i64 0, Value.int IntKind.i64 a2] 73)).drew hd6).mono ?_
                  rintro e W8 ⟨v8, rfl, hR8, hB8⟩
                  refine ⟨_, rfl, ?_⟩
                  have f3 : W8.cell? ⟨wr.heap.size, 1, none⟩ = some (.int .i64 a2) := pw_cell_below hB8 f1a
                  refine hK.out _ _ (f3) (fun hHeld => ?_)
                  clear hK K
                  refine norm_ (a' := ?_) ?_ ?_
                  rotate_left
                  · show Act.put _ (some 104) _ = _
                    simp only [Act.put, List.setIfInBounds_toArray, List.set_cons_zero, List.set_cons_succ, i64_w, i32_w]
                    rfl
                  exact norm_ (by simp only [putAll, Act.put, List.setIfInBounds_toArray, List.set_cons_zero, List.set_cons_succ]) (hCont (v8, W7.heap.size) _ ⟨Kd.R_lower (Kd.R_mono (Kd.R_bound hR8) (fun k hk => by have := hk.2.1; have := HD.out.2.2; omega)) (by have := HD.out.2.2; omega), (hB8.block _ (blk_lt HD.out.2.1)).trans HD.out.2.1, Nat.le_refl _, HD.out.1.trans (hB8.mono (by have := HD.out.2.2; omega))⟩)
              rintro ⟨v9, g9⟩ W9 ⟨hR9, x9, hg9, hB9⟩
              have hHeld : W9.cell? ⟨wr.heap.size, 1, none⟩ = some (.int .i64 a2) := (blk_cell ((hB9.block _ (blk_lt x7.out)).trans x7.out) 1).trans rfl
              refine norm_ (a' := ?_) ?_ ?_
              rotate_left
              · simp only [putAll, Act.put, List.setIfInBounds_toArray, List.set_cons_zero, List.set_cons_succ]
                rfl
              refine one_ (i := 7) (N := some 109) #[true, true, true, true, true, true, true, true, false] rfl rfl (by kernel_rfl) (by decide) (fun K hK => ?_)
              refine Kd.R_append_rows_step PQ.k73 (w0 := W7) W7.heap.size (by rfl) (.tmp 104) (.tmp 108) 67 73 (.agg #[.int .i64 0, .int .i64 0]) 16 rfl und67 PQ.info73 rfl (by decide) (by decide) v9 lf [⟨0, a2⟩] (some ⟨g9, 0, none⟩) 1 1 (fun _ => True) (fun _ => False) rfl rfl (Kd.R_mono hR9 (fun _ _ => trivial)) (reads_one73 x9) (fun x cs hx => by rw [hx]; exact PQ.k73_mkM _ _ _ x) (fun _ h => h.elim) (fun _ _ => trivial) hB9 hB9.size (by omega) ?_
              intro v10 W10 hR10 hB10 _ _
              have f10 : W10.cell? ⟨wr.heap.size, 1, none⟩ = some (.int .i64 a2) := (blk_cell ((hB10.block _ (blk_lt x7.out)).trans x7.out) 1).trans rfl
              refine hK.out _ _ (f10) (fun hHeld => ?_)
              clear hK K
              refine norm_ (a' := ?_) ?_ ?_
              rotate_left
              · show Act.put _ (some 109) _ = _
                simp only [Act.put, List.setIfInBounds_toArray, List.set_cons_zero, List.set_cons_succ, i64_w, i32_w]
                rfl
              refine pure_ (i := 8) (N := some 4) (v := ?_) (a' := ?_) #[true, true, true, true, true, true, true, true, true] rfl rfl (by kernel_rfl) (fun _ _ _ h => h) (Or.inl ⟨by rfl, ?_⟩) ?_ ?_
              rotate_left
              · intro w'
                go_simp
                with_reducible rfl
              rotate_left
              · simp only [Act.put, List.setIfInBounds_toArray, List.set_cons_zero, List.set_cons_succ, i64_w, i32_w]
                rfl
              refine done_ (by kernel_rfl) ?_
              have htl : lf ++ [(⟨0, a2⟩ : PQ.S73)] = tl ((l.filter fun y => decide (y ≠ a2)) ++ [a2]) := by rw [hlfe.out, tl_append]; rfl
              rw [htl] at hR10
              have HF : Aside0 (QI w W10 b v10 ((l.filter fun y => decide (y ≠ a2)) ++ [a2]) (i + 1)) := ⟨h7.out.1.only (Only.ofBelow (F := fun _ => False) hB10) (fun _ _ h => h), newR hR10 (by have := hs6.out.1; have := hO7.out.size; omega) h7.out.2.2.size, h7.out.2.2.trans (hB10.mono h7.out.2.2.size), hI6.out.lo⟩
              have x10 := (hB10.block _ (blk_lt x7.out)).trans x7.out
              clear htl hR10 hB10 f10 f1 f1a hlf hR9 x9 hg9 hB9 hHeld
              have q1 : W10.cell? ⟨wr.heap.size, 1, none⟩ = some (.int .i64 a2) := (blk_cell x10 1).trans rfl
              have hst := turns_calls (x := a2) _ HF.out.t (by have := HA.out.2.1; omega) HA.out.1.2.1 (items_tl _) HF.out.r (fun k hk => hk.2)
              go_wp2_with (go_at_call 48; refine hst.mono ?_; rintro e W30 ⟨rfl, hT30, hO30⟩; replace hT30 := Aside0.mk hT30; replace hO30 := Aside0.mk hO30)
              go_roundg (nz - i).toNat
              case measure => exact hi.out.2.2
              case rel =>
                have h9 := HF.out.step hT30.out hO30.out
                exact ⟨i + 1, _, by simp [HA.out.2.2.2.2.1], ⟨by have := hi.out; omega, by have := hi.out; have := HA.out.2.2.1; omega, by have := hi.out; have := HA.out.2.2.1; omega⟩, ⟨h9.1, h9.2.1, h9.2.2, HF.out.lo⟩⟩
            · have hc := back_not W6 b l i a2 hI6.out.t HA.out.1.2.1 hin2
              rw [decide_eq_false hin2] at hfd2
              replace hin2 := Aside0.mk hin2
              go_upto_region 30 with (go_at_call 45; refine hc.mono ?_; rintro e W7 ⟨rfl, h9⟩; rw [h9]; clear h9 W7)
              have HF : Aside0 (QI w W6 b (.slice A m c) l (i + 1)) := ⟨hI6.out.t.more (by omega), hI6.out.r, hI6.out.bw, hI6.out.lo⟩
              clear hc q1
              have q1 : W6.cell? ⟨wr.heap.size, 1, none⟩ = some (.int .i64 a2) := (blk_cell x6.out 1).trans rfl
              have hst := turns_calls (x := a2) _ HF.out.t (by have := HA.out.2.1; omega) HA.out.1.2.1 (items_tl _) HF.out.r (fun k hk => hk.2)
              go_wp2_with (go_at_call 48; refine hst.mono ?_; rintro e W30 ⟨rfl, hT30, hO30⟩; replace hT30 := Aside0.mk hT30; replace hO30 := Aside0.mk hO30)
              go_roundg (nz - i).toNat
              case measure => exact hi.out.2.2
              case rel =>
                have h9 := HF.out.step hT30.out hO30.out
                exact ⟨i + 1, _, by simp [HA.out.2.2.2.2.1], ⟨by have := hi.out; omega, by have := hi.out; have := HA.out.2.2.1; omega, by have := hi.out; have := HA.out.2.2.1; omega⟩, ⟨h9.1, h9.2.1, h9.2.2, HF.out.lo⟩⟩
          · have hk5' : (kk == 5) = false := beq_eq_false_iff_ne.2 hk5
            replace hk5 := Aside0.mk hk5
            have hpc := PQ.convoyref04_Put.calls (l.length + 2) (fun k => some k = (Value.slice A m c).ownBlock ∧ (w.heap.size ≤ k ∧ ¬ tfoot b k)) (.slice A m c) (tl l) 0 a2 (tl (putL l a2)) (putE l a2) w W6 hI6.out.bw (Kd.R_tight2 rfl hI6.out.r) (tput_f l a2 HA.out.2.2.2.2.2.1)
            obtain ⟨E, hE⟩ : ∃ E, E = putE l a2 := ⟨_, rfl⟩
            have hEE : (E == E) = true := by simp
            rw [← hE] at hpc
            replace hE := Aside0.mk hE
            clear hfd2
            go_upto_region 11 with (go_at_call 46; refine hpc.mono ?_; rintro e W7 ⟨v7, rfl, hR7, hB7, hK7⟩)
            have o7 : Only (fun k => some k = (Value.slice A m c).ownBlock ∧ (w.heap.size ≤ k ∧ ¬ tfoot b k)) W6 W7 := ⟨hB7.os.trans hI6.out.bw.os.symm, hB7.tape.trans hI6.out.bw.tape.symm, hB7.output.trans hI6.out.bw.output.symm, hK7.1, fun k hk hn => hK7.2 k hk hn⟩
            have hT7 := hI6.out.t.only o7 (fun k ht hp => hp.2.2 ht)
            have x7 := Aside0.mk ((o7.block _ (blk_lt x6.out) (fun hp => by have := hvl.out _ hp.1.symm; omega)).trans x6.out)
            have hR7' : PQ.k73.R 73 W7 w.heap.size (fun k => w.heap.size ≤ k ∧ ¬ tfoot b k) v7 (tl (putL l a2)) := Kd.R_mono hR7 (fun k hk => by
              rcases hk with hk | hk
              · exact hk.2
              · exact ⟨by have := hI6.out.bw.size; omega, fun hf => by have := hf.2; have := hs6.out.1; omega⟩)
            have hpu := put_calls W7 i a2 b l hT7 HA.out.1.2.1 (by have := HA.out.2.1; omega)
            rw [← hE.out] at hpu
            replace hR7' := Aside0.mk hR7'
            replace hB7 := Aside0.mk hB7
            have q2 : W7.cell? ⟨wr.heap.size, 1, none⟩ = some (.int .i64 a2) := (blk_cell x7.out 1).trans rfl
            clear hpc q1 o7 hT7 hR7 hK7
            go_upto_region 30 with (go_at_call 47; refine hpu.mono ?_; rintro e W8 ⟨rfl, hT8, hO8⟩)
            have HF : Aside0 (QI w W8 b v7 (putL l a2) (i + 1)) := ⟨hT8, R_only hR7'.out hO8 (fun k hk hf => hk.2 hf), below_only hB7.out hO8 hB7.out.size (fun k hk hf => by have := hf.1; have := hI6.out.lo; omega), hI6.out.lo⟩
            have x8 := (hO8.block _ (blk_lt x7.out) (fun hf => by have := hf.2; have := hs6.out.2; omega)).trans x7.out
            clear hpu q2 hT8 hO8
            have q1 : W8.cell? ⟨wr.heap.size, 1, none⟩ = some (.int .i64 a2) := (blk_cell x8 1).trans rfl
            have hst := turns_calls (x := a2) _ HF.out.t (by have := HA.out.2.1; omega) HA.out.1.2.1 (items_tl _) HF.out.r (fun k hk => hk.2)
            go_wp2_with (go_at_call 48; refine hst.mono ?_; rintro e W30 ⟨rfl, hT30, hO30⟩; replace hT30 := Aside0.mk hT30; replace hO30 := Aside0.mk hO30)
            go_roundg (nz - i).toNat
            case measure => exact hi.out.2.2
            case rel =>
              have h9 := HF.out.step hT30.out hO30.out
              exact ⟨i + 1, _, by simp [HA.out.2.2.2.2.1], ⟨by have := hi.out; omega, by have := hi.out; have := HA.out.2.2.1; omega, by have := hi.out; have := HA.out.2.2.1; omega⟩, ⟨h9.1, h9.2.1, h9.2.2, HF.out.lo⟩⟩
    · have hlt : decide (i < (nz : Int)) = false := decide_eq_false hin
      have hb := Aside0.mk hI.out.bw
      go_wp2
      go_ret
      exact ⟨rfl, hb.out⟩
end Go.Proofs.Ytljckmiphkoipaa

/-
  QueueTimes: the walk.
-/
namespace Go.Proofs.Ytljckmiphkoipaa
set_option linter.unusedVariables false
set_option linter.unusedSimpArgs false
open Go.RowKit Go.MapKept Go.Maps Go.Proofs.YtljckmiphkoipaaW.PrintWords Go.Proofs.YtljckmiphkoipaaW.PrintLast Go.Proofs.YtljckmiphkoipaaW.PrintMore

/-- The queue and the document's list, between two lines of the script. -/
structure TI (w w' : World) (q : Nat) (Q : Nat → Prop) (vl : Value) (lp : List (Int × Int)) (i : Int) : Prop where
  t : IsTimes w' w.heap.size q Q lp i
  r : PQ.k73.R 73 w' w.heap.size (fun k => w.heap.size ≤ k ∧ ¬ Q k) vl (tp lp)
  bw : Below w.heap.size w w'
  lo : ∀ k, Q k → w.heap.size ≤ k
  up : ∀ k, Q k → k < w'.heap.size
theorem TI.below {w w' W : World} {q : Nat} {Q : Nat → Prop} {vl : Value} {lp : List (Int × Int)} {i : Int} (h : TI w w' q Q vl lp i) (hb : Below w'.heap.size w' W) : TI w W q Q vl lp i :=
  ⟨h.t.below hb, Kd.R_below h.r hb, h.bw.trans (hb.mono h.bw.size), h.lo, fun k hk => Nat.lt_of_lt_of_le (h.up k hk) hb.size⟩
theorem TI.step {w w' W : World} {q : Nat} {Q : Nat → Prop} {vl : Value} {lp : List (Int × Int)} {i j : Int} (h : TI w w' q Q vl lp i) (ht : IsTimes W w.heap.size q Q lp j) (ho : Only Q w' W) : TI w W q Q vl lp j :=
  ⟨ht, R_only h.r ho (fun k hk hq => hk.2 hq), below_only h.bw ho h.bw.size (fun k hk hq => by have := h.lo k hq; omega), h.lo, fun k hk => Nat.lt_of_lt_of_le (h.up k hk) ho.size⟩
theorem TI.mid {w w' W : World} {q : Nat} {Q : Nat → Prop} {vl : Value} {lp : List (Int × Int)} {i : Int} (h : TI w w' q Q vl lp i) (ho : Only Q w' W) : PQ.k73.R 73 W w.heap.size (fun k => w.heap.size ≤ k ∧ ¬ Q k) vl (tp lp) ∧ Below w.heap.size w W ∧ ∀ k, Q k → k < W.heap.size :=
  ⟨R_only h.r ho (fun k hk hq => hk.2 hq), below_only h.bw ho h.bw.size (fun k hk hq => by have := h.lo k hq; omega), fun k hk => Nat.lt_of_lt_of_le (h.up k hk) ho.size⟩
theorem TI.more {w w' : World} {q : Nat} {Q : Nat → Prop} {vl : Value} {lp : List (Int × Int)} {i j : Int} (h : TI w w' q Q vl lp i) (hj : i ≤ j) : TI w w' q Q vl lp j := ⟨h.t.more hj, h.r, h.bw, h.lo, h.up⟩
/-- A list that is all new, behind a queue whose blocks are older. -/
theorem newRT {w w1 w2 : World} {Q : Nat → Prop} {v : Value} {L : List PQ.S73} (h : PQ.k73.R 73 w2 w1.heap.size (fun _ => True) v L) (hq : ∀ k, Q k → k < w1.heap.size) (hw : w.heap.size ≤ w1.heap.size) : PQ.k73.R 73 w2 w.heap.size (fun k => w.heap.size ≤ k ∧ ¬ Q k) v L :=
  Kd.R_lower (Kd.R_mono (Kd.R_bound h) (fun k hk => ⟨by have := hk.2.1; omega, fun hf => by have := hq k hf; have := hk.2.1; omega⟩)) hw


set_option maxRecDepth 100000 in
set_option maxHeartbeats 16000000 in
theorem queueTimes_walk (vs : Value) (zs : List (Int × Int × Int)) (w : World) (hzs : ScriptArg w vs zs) : Calls Try.prog 10 #[vs] w fun e w' => e = .returned (.bool true) ∧ Below w.heap.size w w' := by
  obtain ⟨As, cs, hvs⟩ := hzs.shape
  have hcl := hzs.cells As cs hvs
  subst hvs
  obtain ⟨nz, hnz⟩ : ∃ nz : Nat, nz = zs.length := ⟨_, rfl⟩
  rw [← hnz] at hcl ⊢
  have HZ := Aside0.mk (And.intro hzs.good (And.intro hzs.few (And.intro hnz hcl)))
  clear hzs hnz hcl
  go_enter Try.func10, Try.ntmps10
  go_upto_region 4 with (first
    | (go_at_call 59; refine (newTimes_calls w).mono ?_; rintro e W1 ⟨q, rfl, hT1, hB1⟩; replace hT1 := Aside0.mk hT1.tight; replace hB1 := Aside0.mk hB1)
    | (go_at_call 39; refine (qawake_calls W1).mono ?_; rintro e W2 ⟨rfl, hB2⟩; replace hB2 := Aside0.mk hB2))
  have hw2 : Below w.heap.size w W2 := hB1.out.trans (hB2.out.mono hB1.out.size)
  have b3 : Below W2.heap.size W2 (W2.alloc (Obj.cells #[] 73)) := (Below.refl _ _).alloc (Nat.le_refl _) _
  have hI3 : TI w (W2.alloc (Obj.cells #[] 73)) q (fun k => w.heap.size ≤ k ∧ w.heap.size ≤ k ∧ k < W1.heap.size) (.slice (some ⟨W2.heap.size, 0, none⟩) 0 0) [] 0 :=
    ⟨(hT1.out.below hB2.out).below b3, R_lit73 W2 w.heap.size _ hw2.size ⟨hw2.size, fun hf => by have := hf.2.2; have := hB2.out.size; omega⟩, hw2.trans (b3.mono hw2.size), fun k hk => hk.1, fun k hk => by have := hk.2.2; have := hB2.out.size; have := b3.size; omega⟩
  replace hI3 := Aside0.mk hI3
  clear hw2 hT1 hB1 hB2 b3
  go_wp2
  go_loopg [22, 4] (nz + 1) (fun kq v22 v4 w' => ∃ (i : Int) (lp : List (Int × Int)) (Q : Nat → Prop), v22 = .int .i64 i ∧ Aside0 (0 ≤ i ∧ i ≤ nz ∧ (nz - i).toNat < kq) ∧ Aside0 (TI w w' q Q v4 lp i))
  case atStart => exact ⟨0, [], _, rfl, ⟨by omega, by omega, by omega⟩, hI3⟩
  case round =>
    clear hI3
    obtain ⟨i, lp, Q, rfl, hi, hI⟩ := hrel
    by_cases hin : i < nz
    · have hlt : decide (i < (nz : Int)) = true := decide_eq_true hin
      have p1 : 0 ≤ i := hi.out.1
      obtain ⟨ad, eA, hx1, hx2, hx3⟩ := HZ.out.2.2.2 i p1 hin
      cases eA
      obtain ⟨a, haa⟩ : ∃ a, a = zs.getD i.toNat (0, 0, 0) := ⟨_, rfl⟩
      rw [← haa] at hx1 hx2 hx3
      replace hx1 := pw_cell_below hI.out.bw hx1
      replace hx2 := pw_cell_below hI.out.bw hx2
      replace hx3 := pw_cell_below hI.out.bw hx3
      have hga : goodI a.1 ∧ goodI a.2.1 ∧ goodI a.2.2 := by
        rw [haa, List.getD_eq_getElem?_getD, List.getElem?_eq_getElem (by have := HZ.out.2.2.1; omega)]
        exact HZ.out.1 _ (List.getElem_mem _)
      obtain ⟨a1, a2, a3⟩ := a
      simp only at hx1 hx2 hx3 hga
      have hiz : i < 5864062014634 := by have := HZ.out.2.2.1; have := HZ.out.2.1; omega
      have hiw : wrap64 (i + 1) = i + 1 := w64 _ (by omega)
      obtain ⟨A, c, rfl, hc, hC⟩ := Kd.R_reads hI.out.r
      have hvl := Kd.R_lt hI.out.r
      have hfew := hI.out.t.few
      have hnd := hI.out.t.nodup
      have hso := hI.out.t.sorted
      have hfd : ∀ u, Below wr.heap.size wr u → Calls Try.prog 40 #[.slice A (tp lp).length c, .int .i64 a2] u fun e w' => e = .returned (.int .i64 (findV (lp.map (·.2)) a2)) ∧ Below u.heap.size u w' := fun u hu =>
        PQ.convoyref04_Find.calls (lp.length + 1) A c (tp lp) a2 _ u (Kd.C_below hC hu) hc (pfind_f lp a2 hfew)
      have hdu : ∀ u, Below wr.heap.size wr u → Calls Try.prog 60 #[.slice A (tp lp).length c, .int .i64 a3] u fun e w' => e = .returned (.int .i64 (dueN lp a3 : Int)) ∧ Below u.heap.size u w' := fun u hu =>
        (PQ.convoyref04_Due.calls (lp.length + 1) A c (tp lp) a3 _ u (Kd.C_below hC hu) hc (pdue_f lp a3 hfew)).mono (fun e w' h => ⟨h.1, by obtain ⟨d, h2⟩ := h.2.out; rw [h2]; exact Go.Joins.below_draws _ _ _⟩)
      obtain ⟨m, hm⟩ : ∃ m : Nat, m = (tp lp).length := ⟨_, rfl⟩
      have hml : m = lp.length := by rw [hm, tp_length]
      rw [← hm] at hc hC hfd hdu hI hvl ⊢
      obtain ⟨fv, hfv⟩ : ∃ fv, fv = findV (lp.map (·.2)) a2 := ⟨_, rfl⟩
      have hfd2 : decide (0 ≤ fv) = decide (a2 ∈ lp.map (·.2)) := by rw [hfv]; exact findV_neg
      obtain ⟨N, hN⟩ : ∃ N : Nat, N = dueN lp a3 := ⟨_, rfl⟩
      rw [← hfv] at hfd
      rw [← hN] at hdu
      obtain ⟨kk, hkk⟩ : ∃ kk, kk = kindQ a1 := ⟨_, rfl⟩
      have hkd := fun u => PQ.convoylaw04_kind.calls a1 6 kk u (by rw [hkk]; exact kindQ_f hga.1)
      have HA := Aside0.mk (And.intro hga (And.intro hiz (And.intro hin (And.intro hkk (And.intro hiw (And.intro hfew (And.intro hnd (And.intro hm (And.intro hml (And.intro hfv (And.intro hfd2 (And.intro hc (And.intro hC (And.intro hso hN))))))))))))))
      replace hfd := Aside0.mk hfd
      replace hkd := Aside0.mk hkd
      replace hdu := Aside0.mk hdu
      replace hvl := Aside0.mk hvl
      clear haa hga hiz hkk hiw hfew hnd hm hml hfv hfd2 hc hC hso hN
      replace p1 := eq_true p1
      replace hin := eq_true hin
      go_upto_region 8 with fail
      obtain ⟨W4, hW4⟩ : ∃ W4, W4 = wr.alloc (Obj.cells #[.int .i64 a1, .int .i64 a2, .int .i64 a3] 69) := ⟨_, rfl⟩
      have b4 : Below wr.heap.size wr W4 := by rw [hW4]; exact (Below.refl _ _).alloc (Nat.le_refl _) _
      have x4 : W4.heap[wr.heap.size]? = some (.cells #[.int .i64 a1, .int .i64 a2, .int .i64 a3] 69 (0, 0)) := by rw [hW4]; exact heap_alloc_new wr _
      rw [← hW4]
      have hI4 := Aside0.mk (hI.out.below b4)
      have hs4 := Aside0.mk (And.intro b4 (And.intro hI.out.up x4))
      have q2 : W4.cell? ⟨wr.heap.size, 2, none⟩ = some (.int .i64 a3) := (blk_cell x4 2).trans rfl
      clear hW4 b4 x4 hx1 hx2 hx3 hI
      go_upto_region 9 with (go_at_call 60; refine (hdu.out W4 hs4.out.1).mono ?_; rintro e W5 ⟨rfl, hB5⟩; have hI5 := Aside0.mk (hI4.out.below hB5); have x5 := (hB5.block _ (blk_lt hs4.out.2.2)).trans hs4.out.2.2; replace hB5 := Aside0.mk hB5)
      have q0 : W5.cell? ⟨wr.heap.size, 0, none⟩ = some (.int .i64 a1) := (blk_cell x5 0).trans rfl
      replace x5 := Aside0.mk x5
      clear q2
      go_upto_region 14 with (go_at_call 41; refine (hkd.out W5).mono ?_; rintro e W6 ⟨rfl, hD6⟩; have hB6 : Below W5.heap.size W5 W6 := by obtain ⟨d6, h6⟩ := hD6.out; rw [h6]; exact Go.Joins.below_draws _ _ _)
      have hI6 := Aside0.mk (hI5.out.below hB6)
      have x6 := Aside0.mk ((hB6.block _ (blk_lt x5.out)).trans x5.out)
      have hw46 : Below wr.heap.size wr W6 := (hs4.out.1.trans (hB5.out.mono hs4.out.1.size)).trans (hB6.mono (by have := hs4.out.1.size; have := hB5.out.size; omega))
      have hs6 := Aside0.mk (And.intro hs4.out.2.1 hw46)
      have q1 : W6.cell? ⟨wr.heap.size, 1, none⟩ = some (.int .i64 a2) := (blk_cell x6.out 1).trans rfl
      have q2 : W6.cell? ⟨wr.heap.size, 2, none⟩ = some (.int .i64 a3) := (blk_cell x6.out 2).trans rfl
      clear q0 hkd hI4 hI5 x5 hB5 hB6 hs4 hw46 hdu hD6
      by_cases hk3 : kk = 3
      · subst hk3
        have hc := ttake_calls hI6.out.t (by have := HA.out.2.1; omega) a3
        by_cases hN0 : 0 < N
        · have hpos : lp ≠ [] ∧ (lp.headD (0, 0)).1 ≤ a3 := dueN_pos.2 (by rw [← HA.out.2.2.2.2.2.2.2.2.2.2.2.2.2.2]; exact hN0)
          obtain ⟨e1, e2, _⟩ := due_yes hpos
          rw [e1, e2] at hc
          simp only at hc
          obtain ⟨y, hy⟩ : ∃ y, y = (lp.headD (0, 0)).2 := ⟨_, rfl⟩
          rw [← hy] at hc
          have g1 : decide ((0 : Int) < (N : Int)) = true := decide_eq_true (by omega)
          have g2 : decide (0 < N) = true := decide_eq_true hN0
          have hlpos : 0 < m := by rw [HA.out.2.2.2.2.2.2.2.2.1]; exact List.length_pos_iff.2 hpos.1
          have g3 := eq_true hlpos
          have g4 := eq_true (show (0 : Int) < (m : Int) by omega)
          have hyy : (y == y) = true := by simp
          have hy2 : (lp.getD 0 (0, 0)).2 = y := by rw [hy]; cases lp <;> rfl
          replace hpos := Aside0.mk hpos
          clear hN0 e1 e2 hy q1
          go_upto_region 16 with (go_at_call 61; refine hc.mono ?_; rintro e W7 ⟨rfl, hT7, hO7⟩)
          have h7 := hI6.out.mid hO7
          obtain ⟨A9, c9, e9, hc9, hC9⟩ := Kd.R_reads h7.1
          rw [← HA.out.2.2.2.2.2.2.2.1] at e9
          cases e9
          obtain ⟨ad9, eA9, y0, y1⟩ := PQ.at_T73 hC9 0 (Int.le_refl _) (by rw [tp_length, ← HA.out.2.2.2.2.2.2.2.2.1]; omega)
          rw [rd_tp] at y1
          have y2 : W7.cell? ⟨ad9.block, ad9.off + 1, none⟩ = some (.int .i64 y) := by rw [← hy2]; exact y1
          have hw := PQ.convoyref04_Without.calls A c (tp lp) 0 (tp (lp.drop 1)) W7 hC9 hc9 (pwithout_head hpos.out.1 HA.out.2.2.2.2.2.1)
          rw [← HA.out.2.2.2.2.2.2.2.1] at hw
          cases eA9
          have x7 := Aside0.mk ((hO7.block _ (blk_lt x6.out) (fun hq => by have := hs6.out.1 _ hq; omega)).trans x6.out)
          replace hT7 := Aside0.mk hT7
          replace h7 := Aside0.mk h7
          clear hc hc9 hC9 y0 y1 hy2 hO7 q2
          go_upto_region 37 with (go_at_call 43; refine hw.mono ?_; rintro e W8 ⟨v8, rfl, hR8, hB8⟩)
          have HF : Aside0 (TI w W8 q Q v8 (lp.drop 1) (i + 1)) := ⟨(hT7.out.below hB8).more (by omega), newRT hR8 h7.out.2.2 h7.out.2.1.size, h7.out.2.1.trans (hB8.mono h7.out.2.1.size), hI6.out.lo, fun k hk => Nat.lt_of_lt_of_le (h7.out.2.2 k hk) hB8.size⟩
          have x8 := (hB8.block _ (blk_lt x7.out)).trans x7.out
          clear hw y2 hR8 hB8
          have q1 : W8.cell? ⟨wr.heap.size, 1, none⟩ = some (.int .i64 a2) := (blk_cell x8 1).trans rfl
          have hst := times_calls (x := a2) HF.out.t (by have := HA.out.2.1; omega) HA.out.1.2.1 HF.out.r (fun k hk => hk.2)
          go_wp2_with (go_at_call 65; refine hst.mono ?_; rintro e W30 ⟨rfl, hT30, hO30⟩; replace hT30 := Aside0.mk hT30; replace hO30 := Aside0.mk hO30)
          go_roundg (nz - i).toNat
          case measure => exact hi.out.2.2
          case rel => exact ⟨i + 1, _, _, by simp [HA.out.2.2.2.2.1], ⟨by have := hi.out; omega, by have := hi.out; have := HA.out.2.2.1; omega, by have := hi.out; have := HA.out.2.2.1; omega⟩, ⟨HF.out.step hT30.out hO30.out⟩⟩
        · have hno : ¬ (lp ≠ [] ∧ (lp.headD (0, 0)).1 ≤ a3) := fun h => hN0 (by rw [HA.out.2.2.2.2.2.2.2.2.2.2.2.2.2.2]; exact dueN_pos.1 h)
          obtain ⟨e1, e2, _⟩ := due_no hno
          rw [e1, e2] at hc
          simp only at hc
          have g1 : decide ((0 : Int) < (N : Int)) = false := decide_eq_false (by omega)
          have g2 : decide (0 < N) = false := decide_eq_false hN0
          clear hno e1 e2 hN0 q1
          go_upto_region 37 with (go_at_call 61; refine hc.mono ?_; rintro e W7 ⟨rfl, hT7, hO7⟩)
          have HF : Aside0 (TI w W7 q Q (.slice A m c) lp (i + 1)) := ⟨(hI6.out.step hT7 hO7).more (by omega)⟩
          have x7 := (hO7.block _ (blk_lt x6.out) (fun hq => by have := hs6.out.1 _ hq; omega)).trans x6.out
          clear hc hT7 hO7 q2
          have q1 : W7.cell? ⟨wr.heap.size, 1, none⟩ = some (.int .i64 a2) := (blk_cell x7 1).trans rfl
          have hst := times_calls (x := a2) HF.out.t (by have := HA.out.2.1; omega) HA.out.1.2.1 HF.out.r (fun k hk => hk.2)
          go_wp2_with (go_at_call 65; refine hst.mono ?_; rintro e W30 ⟨rfl, hT30, hO30⟩; replace hT30 := Aside0.mk hT30; replace hO30 := Aside0.mk hO30)
          go_roundg (nz - i).toNat
          case measure => exact hi.out.2.2
          case rel => exact ⟨i + 1, _, _, by simp [HA.out.2.2.2.2.1], ⟨by have := hi.out; omega, by have := hi.out; have := HA.out.2.2.1; omega, by have := hi.out; have := HA.out.2.2.1; omega⟩, ⟨HF.out.step hT30.out hO30.out⟩⟩
      · have hk3' : (kk == 3) = false := beq_eq_false_iff_ne.2 hk3
        replace hk3 := Aside0.mk hk3
        by_cases hk4 : kk = 4
        · subst hk4
          go_upto_region 22 with (go_at_call 40; refine (hfd.out W6 hs6.out.2).mono ?_; rintro e W7 ⟨rfl, hB7⟩)
          have hI7 := Aside0.mk (hI6.out.below hB7)
          have x7 := Aside0.mk ((hB7.block _ (blk_lt x6.out)).trans x6.out)
          have hc := tdrop_calls hI7.out.t (i := a2) HA.out.1.2.1
          have hfd2 : decide (0 ≤ fv) = decide (a2 ∈ lp.map (·.2)) := HA.out.2.2.2.2.2.2.2.2.2.2.1
          have q3 : W7.cell? ⟨wr.heap.size, 1, none⟩ = some (.int .i64 a2) := (blk_cell x7.out 1).trans rfl
          clear q1 q2 hB7
          by_cases hin2 : a2 ∈ lp.map (·.2)
          · rw [decide_eq_true hin2] at hfd2 hc
            replace hin2 := Aside0.mk hin2
            go_upto_region 25 with (go_at_call 62; refine hc.mono ?_; rintro e W8 ⟨rfl, hT8, hO8⟩)
            have h8 := hI7.out.mid hO8
            obtain ⟨A9, c9, e9, hc9, hC9⟩ := Kd.R_reads h8.1
            rw [← HA.out.2.2.2.2.2.2.2.1] at e9
            cases e9
            have hw := PQ.convoyref04_Without.calls A c (tp lp) fv (tp (lp.filter fun p => decide (p.2 ≠ a2))) W8 hC9 hc9 (by rw [HA.out.2.2.2.2.2.2.2.2.2.1]; exact pwithout_f lp a2 HA.out.2.2.2.2.2.1 HA.out.2.2.2.2.2.2.1 hin2.out)
            rw [← HA.out.2.2.2.2.2.2.2.1] at hw
            have x8 := Aside0.mk ((hO8.block _ (blk_lt x7.out) (fun hq => by have := hs6.out.1 _ hq; omega)).trans x7.out)
            replace hT8 := Aside0.mk hT8
            replace h8 := Aside0.mk h8
            clear hc hc9 hC9 hO8 q3 hfd2
            go_upto_region 37 with (go_at_call 43; refine hw.mono ?_; rintro e W9 ⟨v9, rfl, hR9, hB9⟩)
            have HF : Aside0 (TI w W9 q Q v9 (lp.filter fun p => decide (p.2 ≠ a2)) (i + 1)) := ⟨(hT8.out.below hB9).more (by omega), newRT hR9 h8.out.2.2 h8.out.2.1.size, h8.out.2.1.trans (hB9.mono h8.out.2.1.size), hI6.out.lo, fun k hk => Nat.lt_of_lt_of_le (h8.out.2.2 k hk) hB9.size⟩
            have x9 := (hB9.block _ (blk_lt x8.out)).trans x8.out
            clear hw hR9 hB9
            have q1 : W9.cell? ⟨wr.heap.size, 1, none⟩ = some (.int .i64 a2) := (blk_cell x9 1).trans rfl
            have hst := times_calls (x := a2) HF.out.t (by have := HA.out.2.1; omega) HA.out.1.2.1 HF.out.r (fun k hk => hk.2)
            go_wp2_with (go_at_call 65; refine hst.mono ?_; rintro e W30 ⟨rfl, hT30, hO30⟩; replace hT30 := Aside0.mk hT30; replace hO30 := Aside0.mk hO30)
            go_roundg (nz - i).toNat
            case measure => exact hi.out.2.2
            case rel => exact ⟨i + 1, _, _, by simp [HA.out.2.2.2.2.1], ⟨by have := hi.out; omega, by have := hi.out; have := HA.out.2.2.1; omega, by have := hi.out; have := HA.out.2.2.1; omega⟩, ⟨HF.out.step hT30.out hO30.out⟩⟩
          · have hfi : lp.filter (fun p => decide (p.2 ≠ a2)) = lp := List.filter_eq_self.2 (fun p hp => by
              have : p.2 ≠ a2 := fun e => hin2 (List.mem_map.2 ⟨p, hp, e⟩)
              simpa using this)
            rw [decide_eq_false hin2] at hfd2 hc
            rw [hfi] at hc
            replace hin2 := Aside0.mk hin2
            clear hfi
            go_upto_region 37 with (go_at_call 62; refine hc.mono ?_; rintro e W8 ⟨rfl, hT8, hO8⟩)
            have HF : Aside0 (TI w W8 q Q (.slice A m c) lp (i + 1)) := ⟨(hI7.out.step hT8 hO8).more (by omega)⟩
            have x8 := (hO8.block _ (blk_lt x7.out) (fun hq => by have := hs6.out.1 _ hq; omega)).trans x7.out
            clear hc hT8 hO8 q3 hfd2
            have q1 : W8.cell? ⟨wr.heap.size, 1, none⟩ = some (.int .i64 a2) := (blk_cell x8 1).trans rfl
            have hst := times_calls (x := a2) HF.out.t (by have := HA.out.2.1; omega) HA.out.1.2.1 HF.out.r (fun k hk => hk.2)
            go_wp2_with (go_at_call 65; refine hst.mono ?_; rintro e W30 ⟨rfl, hT30, hO30⟩; replace hT30 := Aside0.mk hT30; replace hO30 := Aside0.mk hO30)
            go_roundg (nz - i).toNat
            case measure => exact hi.out.2.2
            case rel => exact ⟨i + 1, _, _, by simp [HA.out.2.2.2.2.1], ⟨by have := hi.out; omega, by have := hi.out; have := HA.out.2.2.1; omega, by have := hi.out; have := HA.out.2.2.1; omega⟩, ⟨HF.out.step hT30.out hO30.out⟩⟩
        · have hk4' : (kk == 4) = false := beq_eq_false_iff_ne.2 hk4
          replace hk4 := Aside0.mk hk4
          by_cases hk5 : kk = 5
          · subst hk5
            have hc := due_calls hI6.out.t (by have := HA.out.2.1; omega) a3
            clear q1
            go_upto_region 28 with (go_at_call 63; refine hc.mono ?_; rintro e W7 ⟨v11, rfl, hR7, hT7, hO7⟩; obtain ⟨A11, c11, e11, hc11, hC11⟩ := Kd.R_reads hR7; rw [dueV_len, ← HA.out.2.2.2.2.2.2.2.2.2.2.2.2.2.2] at e11; subst e11)
            have h7 := Aside0.mk (hI6.out.mid hO7)
            have x7 := Aside0.mk ((hO7.block _ (blk_lt x6.out) (fun hq => by have := hs6.out.1 _ hq; omega)).trans x6.out)
            obtain ⟨A9, c9, e9, hc9, hC9⟩ := Kd.R_reads h7.out.1
            rw [← HA.out.2.2.2.2.2.2.2.1] at e9
            cases e9
            have hNm : N ≤ m := by rw [HA.out.2.2.2.2.2.2.2.2.1, HA.out.2.2.2.2.2.2.2.2.2.2.2.2.2.2]; exact dueN_le _ _
            have hNN : ((N : Int) == (N : Int)) = true := by simp
            have HD := Aside0.mk (And.intro hC11 (And.intro hC9 (And.intro hNm hc9)))
            replace hT7 := Aside0.mk hT7
            have hN65 : N ≤ 65536 := by have := HA.out.2.2.2.2.2.1; have := HA.out.2.2.2.2.2.2.2.2.1; omega
            have hup7 : ∀ k, Q k → k < wr.heap.size := hs6.out.1
            obtain ⟨B0, hB0⟩ : ∃ B0, B0 = wr.heap.size := ⟨_, rfl⟩
            have hx7 := x7.out
            rw [← hB0] at hx7 hup7 ⊢
            have HB0 := Aside0.mk (And.intro hx7 (And.intro hup7 hN65))
            have hdr : tp (dueP lp a3) = (tp lp).drop N := by rw [dueP_eq, HA.out.2.2.2.2.2.2.2.2.2.2.2.2.2.2]; unfold tp; rw [List.map_drop]
            have HDR := Aside0.mk (And.intro hdr HA.out.2.2.2.2.2.2.2.2.2.2.2.2.2.2)
            clear hc hC11 hC9 hc11 hc9 hR7 hO7 q2 hNm hx7 hup7 hN65 hdr hB0 x7
            go_wp2
            go_loopg [116] (N + 1) (fun kq v116 w' => ∃ (j : Int), v116 = .int .i64 j ∧ Aside0 (0 ≤ j ∧ j ≤ N ∧ (N - j).toNat < kq) ∧ w' = W7)
            case atStart => exact ⟨0, rfl, ⟨by omega, by omega, by omega⟩, rfl⟩
            case round =>
              obtain ⟨j, rfl, hj, h9⟩ := hrel
              rw [h9]
              clear h9
              by_cases hjN : j < N
              · have hlt2 : decide (j < (N : Int)) = true := decide_eq_true hjN
                have j0 : 0 ≤ j := hj.out.1
                obtain ⟨ad1, eA1, u0⟩ := Kd.at_int HD.out.1 j j0 (by rw [dueV_len, ← HDR.out.2]; exact hjN)
                obtain ⟨ad2, eA2, y0, y1⟩ := PQ.at_T73 HD.out.2.1 j j0 (by rw [← HA.out.2.2.2.2.2.2.2.1]; have := HD.out.2.2.1; omega)
                rw [rd_tp] at y1
                obtain ⟨y, hy⟩ : ∃ y, y = (lp.getD j.toNat (0, 0)).2 := ⟨_, rfl⟩
                have hu : rd (dueV lp a3) j = y := by
                  rw [dueV_eq, ← HDR.out.2, hy]
                  unfold rd
                  have hjl : j.toNat < lp.length := by have := HD.out.2.2.1; have := HA.out.2.2.2.2.2.2.2.2.1; omega
                  rw [List.getD_eq_getElem?_getD, List.getD_eq_getElem?_getD, List.getElem?_map, List.getElem?_take_of_lt (by omega), List.getElem?_eq_getElem hjl]; rfl
                rw [hu] at u0
                simp only at y1
                rw [← hy] at y1
                have hyy : (y == y) = true := by simp
                have jm := eq_true (show j < (m : Int) by have := HD.out.2.2.1; omega)
                have wj : wrap64 (j + 1) = j + 1 := w64 _ (by have := HB0.out.2.2; omega)
                cases eA1
                cases eA2
                have HJ := Aside0.mk hjN
                clear hy hu y0
                replace j0 := eq_true j0
                replace hjN := eq_true hjN
                go_wp2
                go_roundg (N - j).toNat
                case measure => exact hj.out.2.2
                case rel => exact ⟨j + 1, by simp [wj], ⟨by have := hj.out; omega, by have := HJ.out; omega, by have := hj.out; have := HJ.out; omega⟩, rfl⟩
              · have hlt2 : decide (j < (N : Int)) = false := decide_eq_false hjN
                obtain ⟨i0, hi0, _, hsz, _⟩ := info_parts PQ.info73
                have hN0 : (0 : Int) ≤ (N : Int) := by omega
                have hNm : (N : Int) ≤ (m : Int) := by have := HD.out.2.2.1; omega
                have hcut := cut_from (P := Try.prog) 67 73 .i64 und67 hi0 2 hsz A m c (N : Int) hN0 hNm
                have hdrop := Kd.C_drop (m := N) (c := c) HD.out.2.1 (by rw [← HA.out.2.2.2.2.2.2.2.1]; exact HD.out.2.2.1) HD.out.2.2.2
                rw [Int.toNat_natCast] at hcut
                obtain ⟨A3, hA3⟩ : ∃ A3, A3 = (if c = N then A else A.map (·.add (N * 2))) := ⟨_, rfl⟩
                have hdl : ((tp lp).drop N).length = m - N := by rw [List.length_drop, ← HA.out.2.2.2.2.2.2.2.1]
                obtain ⟨n3, hn3⟩ : ∃ n3, n3 = m - N := ⟨_, rfl⟩
                obtain ⟨c3, hc3⟩ : ∃ c3, c3 = c - N := ⟨_, rfl⟩
                replace hdrop : PQ.k73.C W7 A3 n3 ((tp lp).drop N) := by rw [hA3, hn3, ← hdl]; exact hdrop
                rw [← hA3, ← hn3, ← hc3] at hcut
                have b8 : Below W7.heap.size W7 (W7.alloc (Obj.cells #[] 73)) := (Below.refl _ _).alloc (Nat.le_refl _) _
                have hn65 : n3 ≤ 65536 := by have := HA.out.2.2.2.2.2.1; have := HA.out.2.2.2.2.2.2.2.2.1; omega
                have HX := Aside0.mk (And.intro hdrop (And.intro b8 hn65))
                clear hA3 hn3 hc3 hdrop b8 hn65 hdl hjN hj hi0 hsz hN0 hNm
                go_upto_region 37 with ((with_reducible refine gate_builtin (b := .append) (xs := #[.tmp 129, .tmp 132]) rfl ?_); at_builtin; refine Kd.R_append_rows PQ.k73 (w0 := W7) W7.heap.size rfl (.tmp 129) (.tmp 132) 67 73 (.agg #[(.int .i64 0), (.int .i64 0)]) 16 rfl und67 PQ.info73 rfl (by decide) (by decide) (.slice (some ⟨W7.heap.size, 0, none⟩) 0 0) [] ((tp lp).drop N) A3 n3 c3 (fun _ => True) (fun _ => False) rfl rfl (R_lit73 W7 W7.heap.size _ (Nat.le_refl _) trivial) (Kd.C_below HX.out.1 HX.out.2.1) (fun _ _ h => h) (fun _ h => h.elim) (fun _ _ => trivial) HX.out.2.1 HX.out.2.1.size (by have := HX.out.2.2; simp; omega) ?_; intro v9 W9 hR9 hB9 _ _)
                rw [List.nil_append, ← HDR.out.1] at hR9
                have HF : Aside0 (TI w W9 q Q v9 (dueP lp a3) (i + 1)) := ⟨(hT7.out.below hB9).more (by omega), newRT hR9 h7.out.2.2 h7.out.2.1.size, h7.out.2.1.trans (hB9.mono h7.out.2.1.size), hI6.out.lo, fun k hk => Nat.lt_of_lt_of_le (h7.out.2.2 k hk) hB9.size⟩
                have x9 := (hB9.block _ (blk_lt HB0.out.1)).trans HB0.out.1
                clear hcut hR9 hB9
                have q1 : W9.cell? ⟨B0, 1, none⟩ = some (.int .i64 a2) := (blk_cell x9 1).trans rfl
                have hst := times_calls (x := a2) HF.out.t (by have := HA.out.2.1; omega) HA.out.1.2.1 HF.out.r (fun k hk => hk.2)
                go_wp2_with (go_at_call 65; refine hst.mono ?_; rintro e W30 ⟨rfl, hT30, hO30⟩; replace hT30 := Aside0.mk hT30; replace hO30 := Aside0.mk hO30)
                go_roundg (nz - i).toNat
                case measure => exact hi.out.2.2
                case rel => exact ⟨i + 1, _, _, by simp [HA.out.2.2.2.2.1], ⟨by have := hi.out; omega, by have := hi.out; have := HA.out.2.2.1; omega, by have := hi.out; have := HA.out.2.2.1; omega⟩, ⟨HF.out.step hT30.out hO30.out⟩⟩
          · have hk5' : (kk == 5) = false := beq_eq_false_iff_ne.2 hk5
            replace hk5 := Aside0.mk hk5
            have hpc := PQ.convoyref04_Put.calls (lp.length + 2) (fun k => some k = (Value.slice A m c).ownBlock ∧ (w.heap.size ≤ k ∧ ¬ Q k)) (.slice A m c) (tp lp) a3 a2 (tp (putR lp a3 a2)) (putEr lp a3 a2) w W6 hI6.out.bw (Kd.R_tight2 rfl hI6.out.r) (pput_f HA.out.2.2.2.2.2.2.2.2.2.2.2.2.2.1 a3 a2 HA.out.2.2.2.2.2.1)
            obtain ⟨E, hE⟩ : ∃ E, E = putEr lp a3 a2 := ⟨_, rfl⟩
            have hEE : (E == E) = true := by simp
            rw [← hE] at hpc
            replace hE := Aside0.mk hE
            go_upto_region 11 with (go_at_call 46; refine hpc.mono ?_; rintro e W7 ⟨v7, rfl, hR7, hB7, hK7⟩)
            have o7 : Only (fun k => some k = (Value.slice A m c).ownBlock ∧ (w.heap.size ≤ k ∧ ¬ Q k)) W6 W7 := ⟨hB7.os.trans hI6.out.bw.os.symm, hB7.tape.trans hI6.out.bw.tape.symm, hB7.output.trans hI6.out.bw.output.symm, hK7.1, fun k hk hn => hK7.2 k hk hn⟩
            have hT7 := hI6.out.t.only o7 (fun k ht hp => hp.2.2 ht)
            have x7 := Aside0.mk ((o7.block _ (blk_lt x6.out) (fun hp => by have := hvl.out _ hp.1.symm; omega)).trans x6.out)
            have hR7' : PQ.k73.R 73 W7 w.heap.size (fun k => w.heap.size ≤ k ∧ ¬ (Q k ∨ W7.heap.size ≤ k)) v7 (tp (putR lp a3 a2)) := Kd.R_mono (Kd.R_bound hR7) (fun k hk => by
              refine ⟨hk.2.1, fun hq => ?_⟩
              rcases hq with hq | hq
              · rcases hk.1 with h9 | h9
                · exact h9.2.2 hq
                · have := hI6.out.up k hq; omega
              · have := hk.2.2.1; omega)
            have hpu := tput_calls (a := a3) (i := a2) hT7 HA.out.1.2.1 (by have := HA.out.2.1; omega) hB7.size
            rw [← hE.out] at hpu
            replace hR7' := Aside0.mk hR7'
            replace hB7 := Aside0.mk hB7
            have hs7 := Aside0.mk o7.size
            have q3 : W7.cell? ⟨wr.heap.size, 1, none⟩ = some (.int .i64 a2) := (blk_cell x7.out 1).trans rfl
            have q4 : W7.cell? ⟨wr.heap.size, 2, none⟩ = some (.int .i64 a3) := (blk_cell x7.out 2).trans rfl
            clear hpc q1 q2 o7 hT7 hR7 hK7
            go_upto_region 37 with (go_at_call 64; refine hpu.mono ?_; rintro e W8 ⟨rfl, hT8, hO8⟩)
            have HF : Aside0 (TI w W8 q (fun k => (Q k ∨ W7.heap.size ≤ k) ∧ w.heap.size ≤ k ∧ k < W8.heap.size) v7 (putR lp a3 a2) (i + 1)) := ⟨hT8.tight, Kd.R_mono (R_only hR7'.out hO8 (fun k hk hq => hk.2 (.inl hq))) (fun k hk => ⟨hk.1, fun hq => hk.2 hq.1⟩), below_only hB7.out hO8 hB7.out.size (fun k hk hq => by have := hI6.out.lo k hq; omega), fun k hk => hk.2.1, fun k hk => hk.2.2⟩
            have x8 := (hO8.block _ (blk_lt x7.out) (fun hq => by have := hs6.out.1 _ hq; omega)).trans x7.out
            clear hpu q3 q4 hT8 hO8
            have q1 : W8.cell? ⟨wr.heap.size, 1, none⟩ = some (.int .i64 a2) := (blk_cell x8 1).trans rfl
            have hst := times_calls (x := a2) HF.out.t (by have := HA.out.2.1; omega) HA.out.1.2.1 HF.out.r (fun k hk => hk.2)
            go_wp2_with (go_at_call 65; refine hst.mono ?_; rintro e W30 ⟨rfl, hT30, hO30⟩; replace hT30 := Aside0.mk hT30; replace hO30 := Aside0.mk hO30)
            go_roundg (nz - i).toNat
            case measure => exact hi.out.2.2
            case rel => exact ⟨i + 1, _, _, by simp [HA.out.2.2.2.2.1], ⟨by have := hi.out; omega, by have := hi.out; have := HA.out.2.2.1; omega, by have := hi.out; have := HA.out.2.2.1; omega⟩, ⟨HF.out.step hT30.out hO30.out⟩⟩
    · have hlt : decide (i < (nz : Int)) = false := decide_eq_false hin
      have hb := Aside0.mk hI.out.bw
      go_wp2
      go_ret
      exact ⟨rfl, hb.out⟩
end Go.Proofs.Ytljckmiphkoipaa

/-
  QueueDue: the walk.
-/
namespace Go.Proofs.Ytljckmiphkoipaa
set_option linter.unusedVariables false
set_option linter.unusedSimpArgs false
open Go.RowKit Go.MapKept Go.Maps Go.Proofs.YtljckmiphkoipaaW.PrintWords Go.Proofs.YtljckmiphkoipaaW.PrintLast Go.Proofs.YtljckmiphkoipaaW.PrintMore

/-- Two queues by time that hold the same, apart. -/
structure DI (w w' : World) (ba bb qa qb : Nat) (Qa Qb : Nat → Prop) (lp : List (Int × Int)) (s : Int) : Prop where
  ta : IsTimes w' ba qa Qa lp (s + lp.length)
  tb : IsTimes w' bb qb Qb lp (s + lp.length)
  dis : ∀ k, Qa k → ¬ Qb k
  bw : Below w.heap.size w w'
  la : ∀ k, Qa k → w.heap.size ≤ k ∧ k < w'.heap.size
  lb : ∀ k, Qb k → w.heap.size ≤ k ∧ k < w'.heap.size
  ha : w.heap.size ≤ ba ∧ ba ≤ w'.heap.size
  hb : w.heap.size ≤ bb ∧ bb ≤ w'.heap.size
theorem DI.below {w w' W : World} {ba bb qa qb : Nat} {Qa Qb : Nat → Prop} {lp : List (Int × Int)} {s : Int} (h : DI w w' ba bb qa qb Qa Qb lp s) (hb : Below w'.heap.size w' W) : DI w W ba bb qa qb Qa Qb lp s :=
  ⟨h.ta.below hb, h.tb.below hb, h.dis, h.bw.trans (hb.mono h.bw.size), fun k hk => ⟨(h.la k hk).1, Nat.lt_of_lt_of_le (h.la k hk).2 hb.size⟩, fun k hk => ⟨(h.lb k hk).1, Nat.lt_of_lt_of_le (h.lb k hk).2 hb.size⟩, ⟨h.ha.1, Nat.le_trans h.ha.2 hb.size⟩, ⟨h.hb.1, Nat.le_trans h.hb.2 hb.size⟩⟩
/-- Both are turned alike. -/
theorem DI.pair {w w' W1 W2 : World} {ba bb qa qb : Nat} {Qa Qb : Nat → Prop} {lp lp' : List (Int × Int)} {s s' : Int} (h : DI w w' ba bb qa qb Qa Qb lp s) (a1 : IsTimes W1 ba qa (fun k => Qa k ∨ w'.heap.size ≤ k) lp' (s' + lp'.length)) (o1 : Only Qa w' W1)
    (b2 : IsTimes W2 bb qb (fun k => Qb k ∨ W1.heap.size ≤ k) lp' (s' + lp'.length)) (o2 : Only Qb W1 W2) :
    DI w W2 ba bb qa qb (fun k => (Qa k ∨ w'.heap.size ≤ k) ∧ ba ≤ k ∧ k < W1.heap.size) (fun k => (Qb k ∨ W1.heap.size ≤ k) ∧ bb ≤ k ∧ k < W2.heap.size) lp' s' := by
  have s1 := o1.size
  have s2 := o2.size
  refine ⟨a1.tight.only o2 (fun k hk hq => ?_), b2.tight, fun k hk hq => ?_, ?_, fun k hk => ⟨by have := h.ha.1; omega, by have := hk.2.2; omega⟩, fun k hk => ⟨by have := h.hb.1; omega, hk.2.2⟩, ⟨h.ha.1, by have := h.ha.2; omega⟩, ⟨h.hb.1, by have := h.hb.2; omega⟩⟩
  · rcases hk.1 with h1 | h1
    · exact h.dis k h1 hq
    · have := (h.lb k hq).2; omega
  · rcases hq.1 with h2 | h2
    · rcases hk.1 with h1 | h1
      · exact h.dis k h1 h2
      · have := (h.lb k h2).2; omega
    · have := hk.2.2; omega
  · exact below_only (below_only h.bw o1 h.bw.size (fun k hk hq => by have := (h.la k hq).1; omega)) o2 (by have := h.bw.size; omega) (fun k hk hq => by have := (h.lb k hq).1; omega)

theorem at_kP {w : World} {A : Option Addr} {n : Nat} {xs : List (Int × Int)} (h : kP.C w A n xs) (i : Int) (h0 : 0 ≤ i) (h1 : i < n) : ∃ ad, A = some ad ∧ w.cell? (ad.add (i.toNat * 2)) = some (.int .i64 (xs.getD i.toNat (0, 0)).1) ∧
    w.cell? ⟨(ad.add (i.toNat * 2)).block, (ad.add (i.toNat * 2)).off + 1, none⟩ = some (.int .i64 (xs.getD i.toNat (0, 0)).2) := by
  obtain ⟨ad, c, e, _, hK, hc0⟩ := Kd.C_get h (0, 0) i h0 h1
  have hc : ∀ j u, c[j]? = some u → w.cell? (ad.add (i.toNat * 2 + j)) = some u := hc0
  have hK2 : c = encP (xs.getD i.toNat (0, 0)) := hK
  subst hK2
  exact ⟨ad, e, hc 0 _ rfl, by rw [← add_field _ _ 1 (by omega)]; exact hc 1 _ rfl⟩



set_option maxRecDepth 100000 in
set_option maxHeartbeats 16000000 in
theorem queueDue_walk (vs : Value) (zs : List (Int × Int × Int)) (now : Int) (w : World) (hzs : ScriptArg w vs zs) (hnow : (Lit.int .i64 now).wf = true) : Calls Try.prog 11 #[vs, .int .i64 now] w fun e w' => e = .returned (.bool true) ∧ Below w.heap.size w w' := by
  obtain ⟨As, cs, hvs⟩ := hzs.shape
  have hcl := hzs.cells As cs hvs
  subst hvs
  obtain ⟨nz, hnz⟩ : ∃ nz : Nat, nz = zs.length := ⟨_, rfl⟩
  rw [← hnz] at hcl ⊢
  have HZ := Aside0.mk (And.intro hzs.good (And.intro hzs.few (And.intro hnz hcl)))
  clear hzs hnz hcl hnow
  go_enter Try.func11, Try.ntmps11
  go_upto_region 2 with (first
    | (go_at_call 59; refine (newTimes_calls w).mono ?_; rintro e W1 ⟨qa, rfl, hT1, hB1⟩; replace hT1 := Aside0.mk hT1.tight; replace hB1 := Aside0.mk hB1)
    | (go_at_call 59; refine (newTimes_calls W1).mono ?_; rintro e W2 ⟨qb, rfl, hT2, hB2⟩; replace hT2 := Aside0.mk hT2.tight; replace hB2 := Aside0.mk hB2))
  have hI2 : DI w W2 w.heap.size W1.heap.size qa qb (fun k => w.heap.size ≤ k ∧ w.heap.size ≤ k ∧ k < W1.heap.size) (fun k => W1.heap.size ≤ k ∧ W1.heap.size ≤ k ∧ k < W2.heap.size) [] 0 := by
    have s1 := hB1.out.size
    have s2 := hB2.out.size
    exact ⟨hT1.out.below hB2.out, hT2.out, fun k h1 h2 => by omega, hB1.out.trans (hB2.out.mono s1), fun k hk => ⟨hk.1, by omega⟩, fun k hk => ⟨by omega, hk.2.2⟩, ⟨Nat.le_refl _, by omega⟩, ⟨s1, s2⟩⟩
  obtain ⟨bb, hbb⟩ : ∃ bb, bb = W1.heap.size := ⟨_, rfl⟩
  rw [← hbb] at hI2
  replace hI2 := Aside0.mk hI2
  clear hT1 hB1 hT2 hB2 hbb
  go_upto_region 4 with (go_at_call 39; refine (qawake_calls W2).mono ?_; rintro e W3 ⟨rfl, hB3⟩; have hI3 := Aside0.mk (hI2.out.below hB3); clear hB3 hI2)
  go_wp2
  go_loopg [27] (nz + 1) (fun kq v27 w' => ∃ (i s : Int) (lp : List (Int × Int)) (Qa Qb : Nat → Prop), v27 = .int .i64 i ∧ Aside0 (0 ≤ i ∧ i ≤ nz ∧ (nz - i).toNat < kq ∧ s ≤ i) ∧ Aside0 (DI w w' w.heap.size bb qa qb Qa Qb lp s))
  case atStart => exact ⟨0, 0, [], _, _, rfl, ⟨by omega, by omega, by omega, by omega⟩, hI3⟩
  case round =>
    clear hI3
    obtain ⟨i, s, lp, Qa, Qb, rfl, hi, hI⟩ := hrel
    by_cases hin : i < nz
    · have hlt : decide (i < (nz : Int)) = true := decide_eq_true hin
      have p1 : 0 ≤ i := hi.out.1
      obtain ⟨ad, eA, hx1, hx2, hx3⟩ := HZ.out.2.2.2 i p1 hin
      cases eA
      obtain ⟨a, haa⟩ : ∃ a, a = zs.getD i.toNat (0, 0, 0) := ⟨_, rfl⟩
      rw [← haa] at hx1 hx2 hx3
      replace hx1 := pw_cell_below hI.out.bw hx1
      replace hx2 := pw_cell_below hI.out.bw hx2
      replace hx3 := pw_cell_below hI.out.bw hx3
      have hga : goodI a.1 ∧ goodI a.2.1 ∧ goodI a.2.2 := by
        rw [haa, List.getD_eq_getElem?_getD, List.getElem?_eq_getElem (by have := HZ.out.2.2.1; omega)]
        exact HZ.out.1 _ (List.getElem_mem _)
      obtain ⟨a1, a2, a3⟩ := a
      simp only at hx1 hx2 hx3 hga
      have hiz : i < 5864062014634 := by have := HZ.out.2.2.1; have := HZ.out.2.1; omega
      have hiw : wrap64 (i + 1) = i + 1 := w64 _ (by omega)
      have t5 := Int.tmod_lt_of_pos a1 (show (0:Int) < 5 by omega)
      have t6 := Int.lt_tmod_of_pos a1 (show (0:Int) < 5 by omega)
      obtain ⟨tm, htm⟩ : ∃ tm, tm = Int.tmod a1 5 := ⟨_, rfl⟩
      have wtm : wrap64 tm = tm := w64 _ (by omega)
      have hss : s < 6999999900000 := by have := hi.out.2.2.2; omega
      have HA := Aside0.mk (And.intro hga (And.intro hiz (And.intro hin (And.intro hiw hss))))
      clear haa hga hiz hiw t5 t6 hss
      replace p1 := eq_true p1
      replace hin := eq_true hin
      go_upto_region 7 with fail
      obtain ⟨W4, hW4⟩ : ∃ W4, W4 = wr.alloc (Obj.cells #[.int .i64 a1, .int .i64 a2, .int .i64 a3] 69) := ⟨_, rfl⟩
      have b4 : Below wr.heap.size wr W4 := by rw [hW4]; exact (Below.refl _ _).alloc (Nat.le_refl _) _
      have x4 : W4.heap[wr.heap.size]? = some (.cells #[.int .i64 a1, .int .i64 a2, .int .i64 a3] 69 (0, 0)) := by rw [hW4]; exact heap_alloc_new wr _
      rw [← hW4]
      have hI4 := hI.out.below b4
      have hnB : ¬ Qa wr.heap.size ∧ ¬ Qb wr.heap.size := ⟨fun h => by have := (hI.out.la _ h).2; omega, fun h => by have := (hI.out.lb _ h).2; omega⟩
      have q1 : W4.cell? ⟨wr.heap.size, 1, none⟩ = some (.int .i64 a2) := (blk_cell x4 1).trans rfl
      have q2 : W4.cell? ⟨wr.heap.size, 2, none⟩ = some (.int .i64 a3) := (blk_cell x4 2).trans rfl
      have hpa := tput2_calls (a := a3) (i := a2) (hI4.ta.below (below_drew (Below.refl W4.heap.size W4))) HA.out.1.2.1 HA.out.2.2.2.2 hI4.ha.2
      have hpb := fun (u : World) (ho : Only Qa W4 u) => tput2_calls (w := u) (a := a3) (i := a2) (hI4.tb.only ho (fun k hk hq => hI4.dis k hq hk)) HA.out.1.2.1 HA.out.2.2.2.2 (Nat.le_trans hI4.hb.2 ho.size)
      obtain ⟨E, hE⟩ : ∃ E, E = putEr lp a3 a2 := ⟨_, rfl⟩
      have hEE : (E == E) = true := by simp
      rw [← hE] at hpa hpb
      replace hpb := Aside0.mk hpb
      replace hI4 := Aside0.mk hI4
      replace x4 := Aside0.mk x4
      replace hnB := Aside0.mk hnB
      clear hW4 b4 hx1 hx2 hx3 hI hE
      refine start_ (n := 13) (S := fun w' => w'.cell? ⟨wr.heap.size, 1, none⟩ = some (.int .i64 a2) ∧ w'.cell? ⟨wr.heap.size, 2, none⟩ = some (.int .i64 a3)) (ds := []) #[false, false, false, false, false, false, false, false, false, false, false, false, false] (by kernel_rfl) rfl rfl ⟨q1, q2⟩ (fun hHeld => ?_)
      refine pure_ (i := 0) (N := some 31) (v := ?_) (a' := ?_) #[true, false, false, false, false, false, false, false, false, false, false, false, false] rfl rfl (by kernel_rfl) (fun _ _ _ h => h) (Or.inl ⟨by rfl, ?_⟩) ?_ ?_
      rotate_left
      · intro w'
        go_simp
        with_reducible rfl
      rotate_left
      · simp only [Act.put, List.setIfInBounds_toArray, List.set_cons_zero, List.set_cons_succ, i64_w, i32_w]
        rfl
      refine pure_ (i := 1) (N := some 32) (v := ?_) (a' := ?_) #[true, true, false, false, false, false, false, false, false, false, false, false, false] rfl rfl (by kernel_rfl) (fun _ _ _ h => h) (Or.inl ⟨by rfl, ?_⟩) ?_ ?_
      rotate_left
      · intro w'
        go_simp
        with_reducible rfl
      rotate_left
      · simp only [Act.put, List.setIfInBounds_toArray, List.set_cons_zero, List.set_cons_succ, i64_w, i32_w]
        rfl
      refine pure_ (i := 3) (N := some 34) (v := ?_) (a' := ?_) #[true, true, false, true, false, false, false, false, false, false, false, false, false] rfl rfl (by kernel_rfl) (fun _ _ _ h => h) (Or.inl ⟨by rfl, ?_⟩) ?_ ?_
      rotate_left
      · intro w'
        go_simp
        with_reducible rfl
      rotate_left
      · simp only [Act.put, List.setIfInBounds_toArray, List.set_cons_zero, List.set_cons_succ, i64_w, i32_w]
        rfl
      refine pure_ (i := 6) (N := some 37) (v := ?_) (a' := ?_) #[true, true, false, true, false, false, true, false, false, false, false, false, false] rfl rfl (by kernel_rfl) (fun _ _ _ h => h) (Or.inl ⟨by rfl, ?_⟩) ?_ ?_
      rotate_left
      · intro w'
        go_simp
        with_reducible rfl
      rotate_left
      · simp only [Act.put, List.setIfInBounds_toArray, List.set_cons_zero, List.set_cons_succ, i64_w, i32_w]
        rfl
      refine pure_ (i := 7) (N := some 38) (v := ?_) (a' := ?_) #[true, true, false, true, false, false, true, true, false, false, false, false, false] rfl rfl (by kernel_rfl) (fun _ _ _ h => h) (Or.inl ⟨by rfl, ?_⟩) ?_ ?_
      rotate_left
      · intro w'
        go_simp
        with_reducible rfl
      rotate_left
      · simp only [Act.put, List.setIfInBounds_toArray, List.set_cons_zero, List.set_cons_succ, i64_w, i32_w]
        rfl
      refine pure_ (i := 9) (N := some 40) (v := ?_) (a' := ?_) #[true, true, false, true, false, false, true, true, false, true, false, false, false] rfl rfl (by kernel_rfl) (fun _ _ _ h => h) (Or.inl ⟨by rfl, ?_⟩) ?_ ?_
      rotate_left
      · intro w'
        go_simp
        with_reducible rfl
      rotate_left
      · simp only [Act.put, List.setIfInBounds_toArray, List.set_cons_zero, List.set_cons_succ, i64_w, i32_w]
        rfl
      refine take_ (i := 2) (N := some 33) (v := ?_) (a' := ?_) #[true, true, true, true, false, false, true, true, false, true, false, false, false] rfl rfl (by kernel_rfl) (fun _ _ _ h => h) (Or.inl ⟨by rfl, ?_⟩) hHeld ?_ ?_
      rotate_left
      · rintro w' ⟨s0, s1⟩
        go_simp
        with_reducible rfl
      rotate_left
      · simp only [Act.put, List.setIfInBounds_toArray, List.set_cons_zero, List.set_cons_succ, i64_w, i32_w]
        rfl
      refine take_ (i := 4) (N := some 35) (v := ?_) (a' := ?_) #[true, true, true, true, true, false, true, true, false, true, false, false, false] rfl rfl (by kernel_rfl) (fun _ _ _ h => h) (Or.inl ⟨by rfl, ?_⟩) hHeld ?_ ?_
      rotate_left
      · rintro w' ⟨s0, s1⟩
        go_simp
        with_reducible rfl
      rotate_left
      · simp only [Act.put, List.setIfInBounds_toArray, List.set_cons_zero, List.set_cons_succ, i64_w, i32_w]
        rfl
      refine take_ (i := 8) (N := some 39) (v := ?_) (a' := ?_) #[true, true, true, true, true, false, true, true, true, true, false, false, false] rfl rfl (by kernel_rfl) (fun _ _ _ h => h) (Or.inl ⟨by rfl, ?_⟩) hHeld ?_ ?_
      rotate_left
      · rintro w' ⟨s0, s1⟩
        go_simp
        with_reducible rfl
      rotate_left
      · simp only [Act.put, List.setIfInBounds_toArray, List.set_cons_zero, List.set_cons_succ, i64_w, i32_w]
        rfl
      refine take_ (i := 10) (N := some 41) (v := ?_) (a' := ?_) #[true, true, true, true, true, false, true, true, true, true, true, false, false] rfl rfl (by kernel_rfl) (fun _ _ _ h => h) (Or.inl ⟨by rfl, ?_⟩) hHeld ?_ ?_
      rotate_left
      · rintro w' ⟨s0, s1⟩
        go_simp
        with_reducible rfl
      rotate_left
      · simp only [Act.put, List.setIfInBounds_toArray, List.set_cons_zero, List.set_cons_succ, i64_w, i32_w]
        rfl
      refine one_ (i := 5) (N := some 36) #[true, true, true, true, true, true, true, true, true, true, true, false, false] rfl rfl (by kernel_rfl) (by decide) (fun K hK => ?_)
      refine goes_ Try.func64 (by kernel_rfl) rfl #[.pointer (some ⟨qa, 0, none⟩), .int .i64 a3, .int .i64 a2] (by rfl) rfl rfl (by simp only [List.map_toArray, List.map_cons, List.map_nil]; rfl) ?_
      with_reducible refine (hpa).mono ?_
      rintro e W5 ⟨rfl, hA5, hO5'⟩
      refine ⟨_, rfl, ?_⟩
      have hO5 : Only Qa W4 W5 := ⟨hO5'.os, hO5'.tape, hO5'.output, hO5'.size, hO5'.block⟩
      have x5 := Aside0.mk ((hO5.block _ (blk_lt x4.out) hnB.out.1).trans x4.out)
      have u1 : W5.cell? ⟨wr.heap.size, 1, none⟩ = some (.int .i64 a2) := (blk_cell x5.out 1).trans rfl
      have u2 : W5.cell? ⟨wr.heap.size, 2, none⟩ = some (.int .i64 a3) := (blk_cell x5.out 2).trans rfl
      replace hA5 := Aside0.mk hA5
      clear hO5'
      refine hK.out _ _ ⟨u1, u2⟩ (fun hHeld => ?_)
      clear hK K
      refine norm_ (a' := ?_) ?_ ?_
      rotate_left
      · show Act.put _ (some 36) _ = _
        simp only [Act.put, List.setIfInBounds_toArray, List.set_cons_zero, List.set_cons_succ, i64_w, i32_w]
        rfl
      refine one_ (i := 11) (N := some 42) #[true, true, true, true, true, true, true, true, true, true, true, true, false] rfl rfl (by kernel_rfl) (by decide) (fun K hK => ?_)
      refine goes_ Try.func64 (by kernel_rfl) rfl #[.pointer (some ⟨qb, 0, none⟩), .int .i64 a3, .int .i64 a2] (by rfl) rfl rfl (by simp only [List.map_toArray, List.map_cons, List.map_nil]; rfl) ?_
      with_reducible refine (hpb.out W5 hO5).mono ?_
      rintro e W6 ⟨rfl, hB6, hO6⟩
      refine ⟨_, rfl, ?_⟩
      have x6 := Aside0.mk ((hO6.block _ (blk_lt x5.out) hnB.out.2).trans x5.out)
      have r1 : W6.cell? ⟨wr.heap.size, 1, none⟩ = some (.int .i64 a2) := (blk_cell x6.out 1).trans rfl
      have r2 : W6.cell? ⟨wr.heap.size, 2, none⟩ = some (.int .i64 a3) := (blk_cell x6.out 2).trans rfl
      refine hK.out _ _ ⟨r1, r2⟩ (fun hHeld => ?_)
      clear hK K
      refine norm_ (a' := ?_) ?_ ?_
      rotate_left
      · show Act.put _ (some 42) _ = _
        simp only [Act.put, List.setIfInBounds_toArray, List.set_cons_zero, List.set_cons_succ, i64_w, i32_w]
        rfl
      refine pure_ (i := 12) (N := some 43) (v := ?_) (a' := ?_) #[true, true, true, true, true, true, true, true, true, true, true, true, true] rfl rfl (by kernel_rfl) (fun _ _ _ h => h) (Or.inl ⟨by rfl, ?_⟩) ?_ ?_
      rotate_left
      · intro w'
        go_simp
        with_reducible rfl
      rotate_left
      · simp only [Act.put, List.setIfInBounds_toArray, List.set_cons_zero, List.set_cons_succ, i64_w, i32_w]
        rfl
      refine done_ (by kernel_rfl) ?_
      have hI6 := hI4.out.pair hA5.out hO5 hB6 hO6
      obtain ⟨lp1, hlp1⟩ : ∃ lp1, lp1 = putR lp a3 a2 := ⟨_, rfl⟩
      rw [← hlp1] at hI6
      have hnB6 : ¬ ((Qa wr.heap.size ∨ W4.heap.size ≤ wr.heap.size) ∧ w.heap.size ≤ wr.heap.size ∧ wr.heap.size < W5.heap.size) ∧ ¬ ((Qb wr.heap.size ∨ W5.heap.size ≤ wr.heap.size) ∧ bb ≤ wr.heap.size ∧ wr.heap.size < W6.heap.size) := by
        have k4 := blk_lt x4.out
        have k5 := blk_lt x5.out
        refine ⟨fun h => ?_, fun h => ?_⟩
        · rcases h.1 with h | h
          · exact hnB.out.1 h
          · omega
        · rcases h.1 with h | h
          · exact hnB.out.2 h
          · omega
      obtain ⟨Qa1, hQa1⟩ : ∃ Qa1 : Nat → Prop, Qa1 = (fun k => (Qa k ∨ W4.heap.size ≤ k) ∧ w.heap.size ≤ k ∧ k < W5.heap.size) := ⟨_, rfl⟩
      obtain ⟨Qb1, hQb1⟩ : ∃ Qb1 : Nat → Prop, Qb1 = (fun k => (Qb k ∨ W5.heap.size ≤ k) ∧ bb ≤ k ∧ k < W6.heap.size) := ⟨_, rfl⟩
      rw [← hQa1, ← hQb1] at hI6
      have hn1 : Aside0 (¬ Qa1 wr.heap.size ∧ ¬ Qb1 wr.heap.size) := ⟨by rw [hQa1, hQb1]; exact hnB6⟩
      have hta := tat_calls hI6.ta HA.out.1.2.1
      replace hI6 := Aside0.mk hI6
      clear hpa hpb q1 q2 u1 u2 r2 hA5 hB6 hO5 hO6 hnB6 hnB hQa1 hQb1 hI4 x4 x5 hlp1
      obtain ⟨av, hav⟩ : ∃ av, av = atP lp1 a2 := ⟨_, rfl⟩
      rw [← hav] at hta
      replace hav := Aside0.mk hav
      by_cases hxm : a2 ∈ lp1.map (·.2)
      · rw [decide_eq_true hxm] at hta
        go_upto_region 10 with (go_at_call 66; refine hta.mono ?_; rintro e W7 ⟨rfl, hB7⟩)
        have hI7 := Aside0.mk (hI6.out.below hB7)
        have x7 := Aside0.mk ((hB7.block _ (blk_lt x6.out)).trans x6.out)
        have r0 : W7.cell? ⟨wr.heap.size, 0, none⟩ = some (.int .i64 a1) := (blk_cell x7.out 0).trans rfl
        have r3 : W7.cell? ⟨wr.heap.size, 1, none⟩ = some (.int .i64 a2) := (blk_cell x7.out 1).trans rfl
        clear hta r1 hB7
        by_cases h5 : tm = 0
        · have c5 : (tm == 0) = true := by simp [h5]
          obtain ⟨ag1, ag2⟩ := again_ok hI7.out.ta hxm
          have hdl := drop_len hI7.out.ta.nodup hxm
          rw [← hav.out] at ag1 ag2
          obtain ⟨lp2, hlp2⟩ : ∃ lp2, lp2 = lp1.filter fun p => decide (p.2 ≠ a2) := ⟨_, rfl⟩
          rw [← hlp2] at ag1 ag2 hdl
          have hda := tdrop_calls hI7.out.ta HA.out.1.2.1
          have hdb := fun (u : World) (ho : Only Qa1 W7 u) => tdrop_calls (w := u) (i := a2) (hI7.out.tb.only ho (fun k hk hq => hI7.out.dis k hq hk)) HA.out.1.2.1
          rw [← hlp2] at hda
          rw [← hlp2] at hdb
          replace hdb := Aside0.mk hdb
          have hnx : a2 ∉ lp2.map (·.2) := by rw [hlp2]; exact drop_notin lp1 a2
          have HG := Aside0.mk (And.intro ag1 (And.intro ag2 (And.intro hdl hnx)))
          replace hxm := Aside0.mk hxm
          clear ag1 ag2 hdl hnx h5 hlp2
          go_upto_region 12 with (go_at_call 62; refine hda.mono ?_; rintro e W8 ⟨rfl, hA8, hO8⟩; have x8 := Aside0.mk ((hO8.block _ (blk_lt x7.out) hn1.out.1).trans x7.out); have hdb8 := hdb.out W8 hO8; replace hA8 := Aside0.mk hA8; replace hO8 := Aside0.mk hO8)
          have r4 : W8.cell? ⟨wr.heap.size, 1, none⟩ = some (.int .i64 a2) := (blk_cell x8.out 1).trans rfl
          clear hda r0 r3
          go_upto_region 13 with (go_at_call 62; refine hdb8.mono ?_; rintro e W9 ⟨rfl, hB9, hO9⟩; have x9 := Aside0.mk ((hO9.block _ (blk_lt x8.out) hn1.out.2).trans x8.out))
          have hI9 := hI7.out.pair (lp' := lp2) (s' := s + 1) ((hA8.out.mono (fun k hk => .inl hk)).more (by have := HG.out.2.2.1; omega)) hO8.out ((hB9.mono (fun k hk => .inl hk)).more (by have := HG.out.2.2.1; omega)) hO9
          have hnB9 : ¬ ((Qa1 wr.heap.size ∨ W7.heap.size ≤ wr.heap.size) ∧ w.heap.size ≤ wr.heap.size ∧ wr.heap.size < W8.heap.size) ∧ ¬ ((Qb1 wr.heap.size ∨ W8.heap.size ≤ wr.heap.size) ∧ bb ≤ wr.heap.size ∧ wr.heap.size < W9.heap.size) := by
            have k4 := blk_lt x7.out
            have k5 := blk_lt x8.out
            refine ⟨fun h => ?_, fun h => ?_⟩
            · rcases h.1 with h | h
              · exact hn1.out.1 h
              · omega
            · rcases h.1 with h | h
              · exact hn1.out.2 h
              · omega
          obtain ⟨Qa2, hQa2⟩ : ∃ Qa2 : Nat → Prop, Qa2 = (fun k => (Qa1 k ∨ W7.heap.size ≤ k) ∧ w.heap.size ≤ k ∧ k < W8.heap.size) := ⟨_, rfl⟩
          obtain ⟨Qb2, hQb2⟩ : ∃ Qb2 : Nat → Prop, Qb2 = (fun k => (Qb1 k ∨ W8.heap.size ≤ k) ∧ bb ≤ k ∧ k < W9.heap.size) := ⟨_, rfl⟩
          rw [← hQa2, ← hQb2] at hI9
          have hn2 : Aside0 (¬ Qa2 wr.heap.size ∧ ¬ Qb2 wr.heap.size) := ⟨by rw [hQa2, hQb2]; exact hnB9⟩
          clear hnB9 hQa2 hQb2 hB9 hO9 r4 hdb8
          have hss1 : s + 1 < 6999999900000 := by have := hi.out.2.2.2; have := HA.out.2.1; omega
          have hpa := tput2_calls (a := av) (i := a2) hI9.ta HA.out.1.2.1 hss1 hI9.ha.2
          have hpb := fun (u : World) (ho : Only Qa2 W9 u) => tput2_calls (w := u) (a := av) (i := a2) (hI9.tb.only ho (fun k hk hq => hI9.dis k hq hk)) HA.out.1.2.1 hss1 (Nat.le_trans hI9.hb.2 ho.size)
          rw [HG.out.1, HG.out.2.1] at hpa hpb
          have r5 : W9.cell? ⟨wr.heap.size, 1, none⟩ = some (.int .i64 a2) := (blk_cell x9.out 1).trans rfl
          replace hpb := Aside0.mk hpb
          replace hI9 := Aside0.mk hI9
          clear hss1
          go_upto_region 15 with (first
            | (go_at_call_of 64 (Value.pointer (some ⟨qa, 0, none⟩)); refine hpa.mono ?_; rintro e W10 ⟨rfl, hA10, hO10⟩; have x10 := Aside0.mk ((hO10.block _ (blk_lt x9.out) hn2.out.1).trans x9.out); have r6 : W10.cell? ⟨wr.heap.size, 1, none⟩ = some (.int .i64 a2) := (blk_cell x10.out 1).trans rfl; have hpb10 := hpb.out W10 hO10; replace hA10 := Aside0.mk hA10; replace hO10 := Aside0.mk hO10)
            | (go_at_call_of 64 (Value.pointer (some ⟨qb, 0, none⟩)); refine hpb10.mono ?_; rintro e W11 ⟨rfl, hB11, hO11⟩; have x11 := Aside0.mk ((hO11.block _ (blk_lt x10.out) hn2.out.2).trans x10.out)))
          have hI11 := hI9.out.pair (lp' := putP lp2 av a2) (s' := s + 1) hA10.out hO10.out hB11 hO11
          obtain ⟨lp3, hlp3⟩ : ∃ lp3, lp3 = putP lp2 av a2 := ⟨_, rfl⟩
          have hat := again_at lp2 av a2 HG.out.2.2.2
          rw [← hlp3] at hI11 hat
          obtain ⟨pos, hpos⟩ : ∃ pos, pos = (lp2.filter fun y => decide (y.1 ≤ av)).length := ⟨_, rfl⟩
          rw [← hpos] at hat
          obtain ⟨Qa3, hQa3⟩ : ∃ Qa3 : Nat → Prop, Qa3 = (fun k => (Qa2 k ∨ W9.heap.size ≤ k) ∧ w.heap.size ≤ k ∧ k < W10.heap.size) := ⟨_, rfl⟩
          obtain ⟨Qb3, hQb3⟩ : ∃ Qb3 : Nat → Prop, Qb3 = (fun k => (Qb2 k ∨ W10.heap.size ≤ k) ∧ bb ≤ k ∧ k < W11.heap.size) := ⟨_, rfl⟩
          rw [← hQa3, ← hQb3] at hI11
          have htl := tall_calls hI11.ta
          have hf3 := hI11.ta.few
          have hx11 := x11.out
          obtain ⟨B0, hB0⟩ : ∃ B0, B0 = wr.heap.size := ⟨_, rfl⟩
          rw [← hB0] at hx11 ⊢
          replace hx11 := Aside0.mk hx11
          replace hI11 := Aside0.mk hI11
          replace hat := Aside0.mk hat
          clear hpa hpb r5 r6 hpb10 hQa3 hQb3 hB11 hO11 hlp3 hpos x11 hB0
          obtain ⟨m3, hm3⟩ : ∃ m3, m3 = lp3.length := ⟨_, rfl⟩
          replace hm3 := Aside0.mk hm3
          go_wp2_with (go_at_call 67; refine htl.mono ?_; rintro e W12 ⟨v12, rfl, hR12, hB12⟩; obtain ⟨A12, c12, rfl, hc12, hC12⟩ := Kd.R_reads hR12; rw [← hm3.out]; replace hC12 := Aside0.mk hC12; replace hB12 := Aside0.mk hB12; clear hR12 hc12)
          have hq12 : W12.cell? ⟨B0, 1, none⟩ = some (.int .i64 a2) := (blk_cell ((hB12.out.block _ (blk_lt hx11.out)).trans hx11.out) 1).trans rfl
          replace hf3 := Aside0.mk hf3
          clear htl
          go_loopg [83, 11] (m3 + 1) (fun kq v83 v11 w' => ∃ (j : Int) (b : Bool), v83 = .int .i64 j ∧ v11 = .bool b ∧ Aside0 (0 ≤ j ∧ j ≤ m3 ∧ (m3 - j).toNat < kq) ∧ Aside0 (b = decide ((pos : Int) < j)) ∧ Aside0 (Below W12.heap.size W12 w'))
          case atStart => exact ⟨0, false, rfl, rfl, ⟨by omega, by omega, by omega⟩, ⟨by simp⟩, ⟨Below.refl _ _⟩⟩
          case round =>
            obtain ⟨j, b, rfl, rfl, hj, hb, hBr⟩ := hrel
            by_cases hjm : j < m3
            · have hlt2 : decide (j < (m3 : Int)) = true := decide_eq_true hjm
              have j0 : 0 ≤ j := hj.out.1
              have hCr := Kd.C_below hC12.out hBr.out
              obtain ⟨ad1, eA1, u0, u1⟩ := at_kP hCr j j0 (by rw [← hm3.out]; exact hjm)
              obtain ⟨h1, h2, h3⟩ := hat.out j.toNat (by have := hm3.out; omega)
              obtain ⟨y1, hy1⟩ : ∃ y, y = (lp3.getD j.toNat (0, 0)).1 := ⟨_, rfl⟩
              obtain ⟨y2, hy2⟩ : ∃ y, y = (lp3.getD j.toNat (0, 0)).2 := ⟨_, rfl⟩
              rw [← hy1] at u0 h3
              rw [← hy2] at u1 h1 h2
              have wj : wrap64 (j + 1) = j + 1 := w64 _ (by have := hf3.out; have := hm3.out; omega)
              have HJ := Aside0.mk (And.intro hjm wj)
              cases eA1
              clear hy1 hy2 hCr wj
              replace hjm := eq_true hjm
              rcases Int.lt_trichotomy j pos with hp | hp | hp
              · have e1 : b = false := by rw [hb.out]; exact decide_eq_false (by omega)
                have e2 : (y2 == a2) = false := beq_eq_false_iff_ne.2 (h1 (by omega))
                subst e1
                have HCS := Aside0.mk hp
                replace j0 := eq_true j0
                clear h1 h2 h3 hp hb
                go_upto_region 19 with fail
                obtain ⟨W14, hW14⟩ : ∃ W14, W14 = wr.alloc (Obj.cells #[.int .i64 y1, .int .i64 y2] 102) := ⟨_, rfl⟩
                have b14 : Below wr.heap.size wr W14 := by rw [hW14]; exact (Below.refl _ _).alloc (Nat.le_refl _) _
                have x14 : W14.heap[wr.heap.size]? = some (.cells #[.int .i64 y1, .int .i64 y2] 102 (0, 0)) := by rw [hW14]; exact heap_alloc_new wr _
                rw [← hW14]
                have z0 : W14.cell? ⟨wr.heap.size, 0, none⟩ = some (.int .i64 y1) := (blk_cell x14 0).trans rfl
                have z1 : W14.cell? ⟨wr.heap.size, 1, none⟩ = some (.int .i64 y2) := (blk_cell x14 1).trans rfl
                have hB14 := Aside0.mk (hBr.out.trans (b14.mono hBr.out.size))
                have z2 : W14.cell? ⟨B0, 1, none⟩ = some (.int .i64 a2) := pw_cell_below hB14.out hq12
                clear hW14 b14 x14 u0 u1
                go_wp2
                go_roundg (m3 - j).toNat
                case measure => exact hj.out.2.2
                case rel => exact ⟨j + 1, _, by simp [HJ.out.2], by first | rfl | simp, ⟨by have := hj.out; omega, by have := hj.out; have := HJ.out.1; omega, by have := hj.out; have := HJ.out.1; omega⟩, ⟨by simp; have := HCS.out; omega⟩, hB14⟩
              · have e1 : b = false := by rw [hb.out]; exact decide_eq_false (by omega)
                have e2 : (y2 == a2) = true := by rw [h2 (by omega)]; simp
                subst e1
                have HCS := Aside0.mk hp
                replace j0 := eq_true j0
                clear h1 h2 h3 hp hb
                go_upto_region 19 with fail
                obtain ⟨W14, hW14⟩ : ∃ W14, W14 = wr.alloc (Obj.cells #[.int .i64 y1, .int .i64 y2] 102) := ⟨_, rfl⟩
                have b14 : Below wr.heap.size wr W14 := by rw [hW14]; exact (Below.refl _ _).alloc (Nat.le_refl _) _
                have x14 : W14.heap[wr.heap.size]? = some (.cells #[.int .i64 y1, .int .i64 y2] 102 (0, 0)) := by rw [hW14]; exact heap_alloc_new wr _
                rw [← hW14]
                have z0 : W14.cell? ⟨wr.heap.size, 0, none⟩ = some (.int .i64 y1) := (blk_cell x14 0).trans rfl
                have z1 : W14.cell? ⟨wr.heap.size, 1, none⟩ = some (.int .i64 y2) := (blk_cell x14 1).trans rfl
                have hB14 := Aside0.mk (hBr.out.trans (b14.mono hBr.out.size))
                have z2 : W14.cell? ⟨B0, 1, none⟩ = some (.int .i64 a2) := pw_cell_below hB14.out hq12
                clear hW14 b14 x14 u0 u1
                go_wp2
                go_roundg (m3 - j).toNat
                case measure => exact hj.out.2.2
                case rel => exact ⟨j + 1, _, by simp [HJ.out.2], by first | rfl | simp, ⟨by have := hj.out; omega, by have := hj.out; have := HJ.out.1; omega, by have := hj.out; have := HJ.out.1; omega⟩, ⟨by simp; have := HCS.out; omega⟩, hB14⟩
              · have e1 : b = true := by rw [hb.out]; exact decide_eq_true (by omega)
                have e2 : (y1 == av) = false := beq_eq_false_iff_ne.2 (h3 (by omega))
                subst e1
                have HCS := Aside0.mk hp
                replace j0 := eq_true j0
                clear h1 h2 h3 hp hb
                go_upto_region 19 with fail
                obtain ⟨W14, hW14⟩ : ∃ W14, W14 = wr.alloc (Obj.cells #[.int .i64 y1, .int .i64 y2] 102) := ⟨_, rfl⟩
                have b14 : Below wr.heap.size wr W14 := by rw [hW14]; exact (Below.refl _ _).alloc (Nat.le_refl _) _
                have x14 : W14.heap[wr.heap.size]? = some (.cells #[.int .i64 y1, .int .i64 y2] 102 (0, 0)) := by rw [hW14]; exact heap_alloc_new wr _
                rw [← hW14]
                have z0 : W14.cell? ⟨wr.heap.size, 0, none⟩ = some (.int .i64 y1) := (blk_cell x14 0).trans rfl
                have z1 : W14.cell? ⟨wr.heap.size, 1, none⟩ = some (.int .i64 y2) := (blk_cell x14 1).trans rfl
                have hB14 := Aside0.mk (hBr.out.trans (b14.mono hBr.out.size))
                have z2 : W14.cell? ⟨B0, 1, none⟩ = some (.int .i64 a2) := pw_cell_below hB14.out hq12
                clear hW14 b14 x14 u0 u1
                go_wp2
                go_roundg (m3 - j).toNat
                case measure => exact hj.out.2.2
                case rel => exact ⟨j + 1, _, by simp [HJ.out.2], by first | rfl | simp, ⟨by have := hj.out; omega, by have := hj.out; have := HJ.out.1; omega, by have := hj.out; have := HJ.out.1; omega⟩, ⟨by simp; have := HCS.out; omega⟩, hB14⟩
            · have hlt2 : decide (j < (m3 : Int)) = false := decide_eq_false hjm
              have HF : Aside0 (DI w _ w.heap.size bb qa qb Qa3 Qb3 lp3 (s + 1)) := Aside0.mk ((hI11.out.below hB12.out).below hBr.out)
              have SLE : s + 1 ≤ i + 1 := by have := hi.out.2.2.2; omega
              replace hjm := Aside0.mk hjm
              go_wp2
              go_roundg (nz - i).toNat
              case measure => exact hi.out.2.2.1
              case rel => exact ⟨i + 1, _, _, _, _, by simp [HA.out.2.2.2.1], ⟨by have := hi.out; omega, by have := hi.out; have := HA.out.2.2.1; omega, by have := hi.out; have := HA.out.2.2.1; omega, SLE⟩, HF⟩
        · have c5 : (tm == 0) = false := beq_eq_false_iff_ne.2 h5
          replace h5 := Aside0.mk h5
          replace hxm := Aside0.mk hxm
          go_wp2
          have HF := hI7
          have SLE : s ≤ i + 1 := by have := hi.out.2.2.2; omega
          go_roundg (nz - i).toNat
          case measure => exact hi.out.2.2.1
          case rel => exact ⟨i + 1, _, _, _, _, by simp [HA.out.2.2.2.1], ⟨by have := hi.out; omega, by have := hi.out; have := HA.out.2.2.1; omega, by have := hi.out; have := HA.out.2.2.1; omega, SLE⟩, HF⟩
      · rw [decide_eq_false hxm] at hta
        go_wp2_with (go_at_call 66; refine hta.mono ?_; rintro e W7 ⟨rfl, hB7⟩; replace hB7 := Aside0.mk hB7)
        have HF := Aside0.mk (hI6.out.below hB7.out)
        have SLE : s ≤ i + 1 := by have := hi.out.2.2.2; omega
        go_roundg (nz - i).toNat
        case measure => exact hi.out.2.2.1
        case rel => exact ⟨i + 1, _, _, _, _, by simp [HA.out.2.2.2.1], ⟨by have := hi.out; omega, by have := hi.out; have := HA.out.2.2.1; omega, by have := hi.out; have := HA.out.2.2.1; omega, SLE⟩, HF⟩
    · have hlt : decide (i < (nz : Int)) = false := decide_eq_false hin
      have hfew := hI.out.ta.few
      have hnn : s + (lp.length : Int) < 7000000000001 := by have := hi.out; have := HZ.out.2.2.1; have := HZ.out.2.1; omega
      have hdue := due_calls hI.out.ta hnn now
      obtain ⟨N, hN⟩ : ∃ N, N = dueN lp now := ⟨_, rfl⟩
      have hNl : N ≤ 65536 := by have := dueN_le lp now; omega
      have HN := Aside0.mk (And.intro hN (And.intro hNl hnn))
      obtain ⟨S0, hS0⟩ : ∃ S0, S0 = wr.heap.size := ⟨_, rfl⟩
      have hup : ∀ k, Qb k → k < S0 := fun k hk => by rw [hS0]; exact (hI.out.lb k hk).2
      rw [← hS0] at hdue
      replace hup := Aside0.mk hup
      clear hN hNl hnn hfew hin hS0
      go_wp2_with (go_at_call 63; refine hdue.mono ?_; rintro e W5 ⟨v5, rfl, hR5, hTa, hO5⟩; obtain ⟨A5, c5, e5, hc5, hC5⟩ := Kd.R_reads hR5; rw [dueV_len, ← HN.out.1] at e5; subst e5; replace hR5 := Aside0.mk hR5; replace hTa := Aside0.mk hTa; replace hO5 := Aside0.mk hO5; clear hc5 hC5)
      have hTb := Aside0.mk (hI.out.tb.only hO5.out (fun k hk hq => hI.out.dis k hq hk))
      have hbw := Aside0.mk (below_only hI.out.bw hO5.out hI.out.bw.size (fun k hk hq => by have := (hI.out.la k hq).1; omega))
      clear hdue
      go_loopg [109] (N + 1) (fun kq v109 w' => ∃ (j : Int), v109 = .int .i64 j ∧ Aside0 (0 ≤ j ∧ j ≤ N ∧ (N - j).toNat < kq) ∧ Aside0 (IsTimes w' bb qb Qb (lp.drop j.toNat) (s + lp.length)) ∧ Aside0 (Only Qb W5 w'))
      case atStart => exact ⟨0, rfl, ⟨by omega, by omega, by omega⟩, by simpa using hTb, ⟨Only.refl _ _⟩⟩
      case round =>
        obtain ⟨j, rfl, hj, hT, hO⟩ := hrel
        have hc := ttake_calls hT.out HN.out.2.2 now
        by_cases hjN : j < N
        · have hlt2 : decide (j < (N : Int)) = true := decide_eq_true hjN
          have j0 : 0 ≤ j := hj.out.1
          have hRj := R_only (Kd.R_mono (Kd.R_bound hR5.out) (fun k hk => hk.2.1)) hO.out (fun k hk hq => by have := hup.out k hq; omega)
          have hCj := (Kd.R_reads' hRj).2.2
          obtain ⟨ad1, eA1, u0⟩ := Kd.at_int hCj j j0 (by rw [dueV_len, ← HN.out.1]; exact hjN)
          obtain ⟨e1, e2⟩ := due_at (lp := lp) (now := now) (j := j.toNat) (by rw [← HN.out.1]; omega)
          rw [e1, e2] at hc
          simp only at hc
          obtain ⟨y, hy⟩ : ∃ y, y = (dueV lp now).getD j.toNat 0 := ⟨_, rfl⟩
          rw [← hy] at hc
          rw [show rd (dueV lp now) j = y from hy.symm] at u0
          have hyy : (y == y) = true := by simp
          have wj : wrap64 (j + 1) = j + 1 := w64 _ (by have := HN.out.2.1; omega)
          have HJ := Aside0.mk (And.intro hjN wj)
          cases eA1
          clear hy hRj hCj e1 e2 wj
          replace j0 := eq_true j0
          replace hjN := eq_true hjN
          go_wp2_with (go_at_call 61; refine hc.mono ?_; rintro e W6 ⟨rfl, hT6, hO6⟩; replace hT6 := Aside0.mk hT6; replace hO6 := Aside0.mk hO6)
          go_roundg (N - j).toNat
          case measure => exact hj.out.2.2
          case rel => exact ⟨j + 1, by simp [HJ.out.2], ⟨by have := hj.out; omega, by have := hj.out; have := HJ.out.1; omega, by have := hj.out; have := HJ.out.1; omega⟩, ⟨by rw [show (j + 1).toNat = j.toNat + 1 by have := hj.out; omega]; exact hT6.out⟩, ⟨hO.out.trans hO6.out⟩⟩
        · have hlt2 : decide (j < (N : Int)) = false := decide_eq_false hjN
          obtain ⟨e1, e2⟩ := due_end lp now
          rw [show j.toNat = dueN lp now by rw [← HN.out.1]; have := hj.out; omega] at hc
          rw [e1, e2] at hc
          simp only at hc
          clear e1 e2
          replace hjN := Aside0.mk hjN
          go_upto_region 33 with (go_at_call 61; refine hc.mono ?_; rintro e W6 ⟨rfl, hT6, hO6⟩)
          have oB := hO.out.trans hO6
          have hTa6 := hTa.out.only oB (fun k hk hq => hI.out.dis k hk hq)
          have hla := tlen_calls hTa6
          have hlb := tlen_calls hT6
          rw [dueP_eq] at hla
          obtain ⟨m, hm⟩ : ∃ m : Nat, m = (lp.drop (dueN lp now)).length := ⟨_, rfl⟩
          rw [← hm] at hla hlb
          have hmm : ((m : Int) == (m : Int)) = true := by simp
          have hbw6 := Aside0.mk (below_only hbw.out oB hbw.out.size (fun k hk hq => by have := (hI.out.lb k hq).1; omega))
          clear hc hm hTa6 hT6 hO6 oB
          go_wp2_with (first
            | (go_at_call_of 68 (Value.pointer (some ⟨qa, 0, none⟩)); refine hla.mono ?_; rintro e W7 ⟨rfl, h9⟩; rw [h9]; clear h9 W7)
            | (go_at_call_of 68 (Value.pointer (some ⟨qb, 0, none⟩)); refine hlb.mono ?_; rintro e W7 ⟨rfl, h9⟩; rw [h9]; clear h9 W7))
          go_ret
          exact ⟨by first | rfl | simp, hbw6.out⟩
end Go.Proofs.Ytljckmiphkoipaa
