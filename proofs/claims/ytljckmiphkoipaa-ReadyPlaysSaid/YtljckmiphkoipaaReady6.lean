/-
  ReadyAgain: what is done, as a plain function; the same wakes, rests and picks tell the same when the places that were picked are the schedule.
-/
import Derived.Test.YtljckmiphkoipaaReady5
namespace Go.Proofs.Ytljckmiphkoipaa
set_option linter.unusedVariables false
set_option linter.unusedSimpArgs false
open Go.RowKit Go.MapKept Go.Maps Go.Proofs.YtljckmiphkoipaaW.PrintWords Go.Proofs.YtljckmiphkoipaaW.PrintLast Go.Proofs.YtljckmiphkoipaaW.PrintMore

def kindOf (k : Int) : Int := Int.tmod (Int.tmod k 7 + 7) 7
def isPick (k : Int) : Bool := kindOf k == 3 || kindOf k == 4 || kindOf k == 6
def doneV (m : RM) (a : Int × Int) : Int := if isPick a.1 then (if m.l = [] then -1 else pickV m) else if kindOf a.1 = 5 then (if a.2 ∈ m.l then 1 else 0) else putE m.l a.2
def doneM (m : RM) (a : Int × Int) : RM := if isPick a.1 then pickM m else if kindOf a.1 = 5 then restM m a.2 else wakeM m a.2
def runM : RM → List (Int × Int) → RM
  | m, [] => m
  | m, a :: s => runM (doneM m a) s
def runV : RM → List (Int × Int) → List Int
  | _, [] => []
  | m, a :: s => doneV m a :: runV (doneM m a) s
theorem runM_append (m : RM) (s t : List (Int × Int)) : runM m (s ++ t) = runM (runM m s) t := by
  induction s generalizing m with
  | nil => rfl
  | cons a s ih => exact ih _
theorem runV_append (m : RM) (s t : List (Int × Int)) : runV m (s ++ t) = runV m s ++ runV (runM m s) t := by
  induction s generalizing m with
  | nil => rfl
  | cons a s ih => show doneV m a :: runV (doneM m a) (s ++ t) = _; rw [ih]; rfl
theorem runV_length (m : RM) (s : List (Int × Int)) : (runV m s).length = s.length := by
  induction s generalizing m with
  | nil => rfl
  | cons a s ih => simp [runV, ih]
theorem doneM_told (m : RM) (a : Int × Int) : ∃ t, (doneM m a).told = m.told ++ t ∧ t.length ≤ 1 := by
  unfold doneM
  split
  · unfold pickM; split
    · exact ⟨[], by simp, by simp⟩
    · exact ⟨[(pickP m).1], rfl, by simp⟩
  split
  · exact ⟨[], by simp [restM], by simp⟩
  · exact ⟨[], by simp [wakeM], by simp⟩
theorem runM_told (m : RM) (s : List (Int × Int)) : ∃ t, (runM m s).told = m.told ++ t ∧ t.length ≤ s.length := by
  induction s generalizing m with
  | nil => exact ⟨[], by simp [runM], by simp⟩
  | cons a s ih =>
    obtain ⟨t, h1, h2⟩ := doneM_told m a
    obtain ⟨u, h3, h4⟩ := ih (doneM m a)
    refine ⟨t ++ u, ?_, by simp; omega⟩
    show (runM (doneM m a) s).told = _
    rw [h3, h1, List.append_assoc]

/-- The one that plays again what the other told. -/
structure Follows (m o : RM) (F : List Int) : Prop where
  l : o.l = m.l
  told : o.told = m.told
  picks : o.picks = F

theorem follows_done {m o : RM} {F : List Int} (h : Follows m o F) (a : Int × Int) (t : List Int) (hF : F = (doneM m a).told ++ t) : doneV o a = doneV m a ∧ Follows (doneM m a) (doneM o a) F := by
  obtain ⟨h1, h2, h3⟩ := h
  unfold doneV doneM at *
  by_cases hk : isPick a.1
  · simp only [hk, if_true] at hF ⊢
    by_cases hl : m.l = []
    · have hlo : o.l = [] := by rw [h1, hl]
      simp only [hl, hlo, if_true, pickM]
      exact ⟨trivial, ⟨h1, h2, h3⟩⟩
    · have hlo : o.l ≠ [] := by rw [h1]; exact hl
      have hpos : 0 < m.l.length := List.length_pos_iff.2 hl
      have hr := placeOf_range (policy := m.policy) (lot := m.lot) (picks := m.picks) (told := m.told) hpos
      have hm : (pickM m).told = m.told ++ [(pickP m).1] := by unfold pickM; rw [if_neg hl]
      rw [hm] at hF
      have hp : (pickP o).1 = (pickP m).1 := by
        have hlen : o.told.length < o.picks.length := by rw [h2, h3, hF]; simp
        have hrd : rd o.picks o.told.length = (pickP m).1 := by
          rw [h3, h2, hF]
          unfold rd
          rw [List.getD_eq_getElem?_getD, Int.toNat_natCast, List.append_assoc, List.getElem?_append_right (Nat.le_refl _)]
          simp
        have hrm : 0 ≤ (pickP m).1 ∧ (pickP m).1 < m.l.length := hr
        unfold pickP at hrd hrm ⊢
        have ht : Int.tmod (placeOf m.policy m.lot m.picks m.told m.l).1 m.l.length = (placeOf m.policy m.lot m.picks m.told m.l).1 := Int.tmod_eq_of_lt hrm.1 hrm.2
        rw [placeOf, if_pos hlen, hrd, h1, ht]
        simp only
        rw [if_neg (by omega)]
      refine ⟨?_, ?_, ?_, ?_⟩
      · simp only [hl, hlo, if_false, pickV, hp, h1]
      · simp only [pickM, hl, hlo, if_false, hp, h1]
      · simp only [pickM, hl, hlo, if_false, hp, h2]
      · simp only [pickM, hlo, if_false]; exact h3
  · simp only [hk, if_false, Bool.false_eq_true] at hF ⊢
    split
    · refine ⟨by rw [h1], ?_, h2, h3⟩
      simp only [restM, h1]
    · refine ⟨by rw [h1], ?_, h2, h3⟩
      simp only [wakeM, h1]
theorem follows_run {F : List Int} : ∀ (s : List (Int × Int)) {m o : RM} (h : Follows m o F) (t : List Int) (hF : F = (runM m s).told ++ t), runV o s = runV m s ∧ Follows (runM m s) (runM o s) F
  | [], m, o, h, _, _ => ⟨rfl, h⟩
  | a :: s, m, o, h, t, hF => by
    have hF' : F = (runM (doneM m a) s).told ++ t := hF
    obtain ⟨u, hu, _⟩ := runM_told (doneM m a) s
    obtain ⟨e1, h1⟩ := follows_done h a (u ++ t) (by rw [hF', hu, List.append_assoc])
    obtain ⟨e2, h2⟩ := follows_run s h1 t hF'
    exact ⟨by show doneV o a :: _ = doneV m a :: _; rw [e1, e2], h2⟩

section
variable (w : World) (base g : Nat) (Q : Nat → Prop) (n k x : Int) (m : RM)
set_option maxRecDepth 100000 in
set_option maxHeartbeats 8000000 in
theorem done_calls (h : IsReady w base g Q n m) (hk : goodI k) (hx : goodI x) (hn : n < 4611686018427387903) (ht : m.told.length ≤ 17592186044415) (hbase : base ≤ w.heap.size) :
    Calls Try.prog 18 #[.pointer (some ⟨g, 0, none⟩), .agg #[.int .i64 k, .int .i64 x]] w fun e w' => e = .returned (.int .i64 (doneV m (k, x))) ∧ IsReady w' base g (fun i => Q i ∨ w.heap.size ≤ i) (n + 1) (doneM m (k, x)) ∧ Only Q w w' := by
  have hb0 : Below w.heap.size w (w.alloc (.cells #[.int .i64 k, .int .i64 x] 39)) := (Below.refl _ _).alloc (Nat.le_refl _) _
  have hs0 : (w.alloc (.cells #[.int .i64 k, .int .i64 x] 39)).heap.size = w.heap.size + 1 := by simp
  have h0 : IsReady (w.alloc (.cells #[.int .i64 k, .int .i64 x] 39)) base g Q n m := h.below hb0
  have hkr : -9223372036854775808 ≤ k ∧ k ≤ 9223372036854775807 := goodI_bounds hk
  have t1 := Int.tmod_lt_of_pos k (show (0:Int) < 7 by omega)
  have t2 := Int.lt_tmod_of_pos k (show (0:Int) < 7 by omega)
  have e1 : wrap64 (Int.tmod k 7) = Int.tmod k 7 := w64 _ (by omega)
  have e2 : wrap64 (Int.tmod k 7 + 7) = Int.tmod k 7 + 7 := w64 _ (by omega)
  have t3 := Int.tmod_lt_of_pos (Int.tmod k 7 + 7) (show (0:Int) < 7 by omega)
  have t4 := Int.tmod_nonneg (a := Int.tmod k 7 + 7) 7 (by omega)
  have e3 : wrap64 (Int.tmod (Int.tmod k 7 + 7) 7) = Int.tmod (Int.tmod k 7 + 7) 7 := w64 _ (by omega)
  have hpk := pick_calls (w.alloc (.cells #[.int .i64 k, .int .i64 x] 39)) base g Q n m h0 (by omega) ht (by omega)
  have hrs := rest_calls (w.alloc (.cells #[.int .i64 k, .int .i64 x] 39)) base g Q n x m h0 hx
  have hwk := wake_calls (w.alloc (.cells #[.int .i64 k, .int .i64 x] 39)) base g Q n x m h0 hx (by omega)
  unfold doneV doneM isPick
  obtain ⟨kk, hkk⟩ : ∃ kk, kk = kindOf k := ⟨_, rfl⟩
  have hkk' : Int.tmod (Int.tmod k 7 + 7) 7 = kk := hkk.symm
  rw [hkk'] at e3
  simp only [← hkk]
  have hB := Aside0.mk hb0
  have hI := Aside0.mk h
  replace hkk := Aside0.mk hkk
  have oA : Only Q w (w.alloc (.cells #[.int .i64 k, .int .i64 x] 39)) := Only.ofBelow hb0
  replace oA := Aside0.mk oA
  replace hs0 := Aside0.mk hs0
  clear hb0 h0 h hk hx hn ht hkr t1 t2 t3 t4 hbase
  by_cases c3 : (kk == 3 || kk == 4 || kk == 6) = true
  · simp only [c3, if_true]
    have hc : ((kk == 3) = true) ∨ ((kk == 3) = false ∧ (kk == 4) = true) ∨ ((kk == 3) = false ∧ (kk == 4) = false ∧ (kk == 6) = true) := by
      cases h3 : (kk == 3)
      · cases h4 : (kk == 4)
        · simp [h3, h4] at c3; simp [c3]
        · simp
      · simp
    have hfin : ∀ (V : Int) (w' : World), IsReady w' base g (fun i => Q i ∨ (w.alloc (.cells #[.int .i64 k, .int .i64 x] 39)).heap.size ≤ i) n (pickM m) → Only Q (w.alloc (.cells #[.int .i64 k, .int .i64 x] 39)) w' → IsReady w' base g (fun i => Q i ∨ w.heap.size ≤ i) (n + 1) (pickM m) ∧ Only Q w w' := by
      intro V w' h1 h2
      exact ⟨(h1.mono (fun i hi => hi.imp id (fun hh => by have := hs0.out; omega))).more (by omega), oA.out.trans h2⟩
    replace hfin := Aside0.mk hfin
    clear c3 hrs hwk
    by_cases hl : m.l = []
    · simp only [hl, if_true, ne_eq, not_true_eq_false, decide_false] at hpk ⊢
      replace hl := Aside0.mk hl
      rcases hc with d1 | ⟨d1, d2⟩ | ⟨d1, d2, d3⟩
      all_goals
        go_enter Try.func18, Try.ntmps18
        go_wp2_with (go_at_call 15; refine hpk.mono ?_; rintro e w' ⟨rfl, hI2, hO2⟩; replace hI2 := Aside0.mk hI2; replace hO2 := Aside0.mk hO2)
        go_ret
        exact ⟨by first | rfl | simp, hfin.out 0 _ hI2.out hO2.out⟩
    · have hd : decide (m.l ≠ []) = true := decide_eq_true hl
      rw [hd] at hpk
      simp only [hl, if_false]
      replace hl := Aside0.mk hl
      clear hd
      generalize pickV m = V at hpk ⊢
      rcases hc with d1 | ⟨d1, d2⟩ | ⟨d1, d2, d3⟩
      all_goals
        go_enter Try.func18, Try.ntmps18
        go_wp2_with (go_at_call 15; refine hpk.mono ?_; rintro e w' ⟨rfl, hI2, hO2⟩; replace hI2 := Aside0.mk hI2; replace hO2 := Aside0.mk hO2)
        go_ret
        exact ⟨by first | rfl | simp, hfin.out 0 _ hI2.out hO2.out⟩
  · have d1 : (kk == 3) = false := by cases h : (kk == 3) <;> simp_all
    have d2 : (kk == 4) = false := by cases h : (kk == 4) <;> simp_all
    have d3 : (kk == 6) = false := by cases h : (kk == 6) <;> simp_all
    simp only [c3, if_false, Bool.false_eq_true]
    clear c3 hpk
    have hfin : ∀ (M : RM) (nn : Int) (w' : World), nn ≤ n + 1 → IsReady w' base g Q nn M → Only Q (w.alloc (.cells #[.int .i64 k, .int .i64 x] 39)) w' → IsReady w' base g (fun i => Q i ∨ w.heap.size ≤ i) (n + 1) M ∧ Only Q w w' := by
      intro M nn w' h0 h1 h2
      exact ⟨(h1.mono (fun i hi => .inl hi)).more h0, oA.out.trans h2⟩
    replace hfin := Aside0.mk hfin
    by_cases c5 : kk = 5
    · have d5 : (kk == 5) = true := beq_iff_eq.2 c5
      simp only [c5, if_true]
      replace c5 := Aside0.mk c5
      clear hwk
      by_cases hm : x ∈ m.l
      · simp only [hm, decide_true, if_true] at hrs ⊢
        replace hm := Aside0.mk hm
        go_enter Try.func18, Try.ntmps18
        go_wp2_with (go_at_call 52; refine hrs.mono ?_; rintro e w' ⟨rfl, hI2, hO2⟩; replace hI2 := Aside0.mk hI2; replace hO2 := Aside0.mk hO2)
        go_ret
        exact ⟨by first | rfl | simp, hfin.out _ _ _ (by omega) hI2.out hO2.out⟩
      · simp only [hm, decide_false, if_false] at hrs ⊢
        replace hm := Aside0.mk hm
        go_enter Try.func18, Try.ntmps18
        go_wp2_with (go_at_call 52; refine hrs.mono ?_; rintro e w' ⟨rfl, hI2, hO2⟩; replace hI2 := Aside0.mk hI2; replace hO2 := Aside0.mk hO2)
        go_ret
        exact ⟨by first | rfl | simp, hfin.out _ _ _ (by omega) hI2.out hO2.out⟩
    · have d5 : (kk == 5) = false := beq_eq_false_iff_ne.2 c5
      simp only [c5, if_false]
      replace c5 := Aside0.mk c5
      clear hrs
      generalize putE m.l x = V at hwk ⊢
      go_enter Try.func18, Try.ntmps18
      go_wp2_with (go_at_call 14; refine hwk.mono ?_; rintro e w' ⟨rfl, hI2, hO2⟩; replace hI2 := Aside0.mk hI2; replace hO2 := Aside0.mk hO2)
      go_ret
      exact ⟨by first | rfl | simp, hfin.out _ _ _ (by omega) hI2.out hO2.out⟩
end
end Go.Proofs.Ytljckmiphkoipaa
