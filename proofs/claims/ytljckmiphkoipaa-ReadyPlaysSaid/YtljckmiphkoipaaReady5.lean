/-
  ReadyTurns: the walk.
-/
import Derived.Test.YtljckmiphkoipaaReady4
import Derived.Test.YtljckmiphkoipaaArgs
namespace Go.Proofs.Ytljckmiphkoipaa
set_option linter.unusedVariables false
set_option linter.unusedSimpArgs false
open Go.RowKit Go.MapKept Go.Maps Go.Proofs.YtljckmiphkoipaaW.PrintWords Go.Proofs.YtljckmiphkoipaaW.PrintLast Go.Proofs.YtljckmiphkoipaaW.PrintMore

/-- A step that leaves what lies below alone. -/
theorem below_only {F : Nat → Prop} {B : Nat} {w a b : World} (h : Below B w a) (o : Only F a b) (hB : B ≤ a.heap.size) (hF : ∀ i, i < B → ¬ F i) : Below B w b := h.trans (o.below hB hF)

theorem R_lit0 (w : World) (base : Nat) (ok : Nat → Prop) (hb : base ≤ w.heap.size) (hok : ok w.heap.size) : (Kd.int .i64).R 3 (w.alloc (.cells #[] 3)) base ok (.slice (some ⟨w.heap.size, 0, none⟩) 0 0) [] :=
  Kd.R_of_own ⟨rfl, .inr ⟨w.heap.size, 0, #[], rfl, hb, heap_alloc_new w _, by simp, by simp, by simp, by simp [encs]⟩⟩ (fun k hk => by simp [Value.ownBlock] at hk; subst hk; exact hok)
theorem pick_turn {lot : Int} {told r : List Int} {y : Int} (hn : (y :: r).Nodup) : pickV ⟨0, lot, [], told, y :: r⟩ = y ∧ pickM ⟨0, lot, [], told, y :: r⟩ = ⟨0, lot, [], told ++ [0], r⟩ := by
  have hp : pickP ⟨0, lot, [], told, y :: r⟩ = (0, lot) := by unfold pickP placeOf; simp
  have hf : (y :: r).filter (fun z => decide (z ≠ y)) = r := by
    rw [List.filter_cons]
    simp only [ne_eq, not_true_eq_false, decide_false, Bool.false_eq_true, if_false]
    refine List.filter_eq_self.2 fun z hz => ?_
    have := (List.nodup_cons.1 hn).1
    simp
    rintro rfl
    exact this hz
  constructor
  · unfold pickV; rw [if_neg (by simp), hp]; rfl
  · unfold pickM; rw [if_neg (by simp), hp]
    simp only [RM.mk.injEq, true_and]
    exact hf
theorem IsReady.nodup {w : World} {base g : Nat} {Q : Nat → Prop} {n : Int} {m : RM} (h : IsReady w base g Q n m) : m.l.Nodup := by
  obtain ⟨b, v2, v3, h⟩ := h
  exact h.turns.nodup
theorem IsReady.fewL {w : World} {base g : Nat} {Q : Nat → Prop} {n : Int} {m : RM} (h : IsReady w base g Q n m) : m.l.length ≤ 65536 := by
  obtain ⟨b, v2, v3, h⟩ := h
  exact h.turns.few
theorem IsReady.goodL {w : World} {base g : Nat} {Q : Nat → Prop} {n : Int} {m : RM} (h : IsReady w base g Q n m) : ∀ x ∈ m.l, goodI x := by
  obtain ⟨b, v2, v3, h⟩ := h
  exact h.turns.good
theorem IsReady.more {w : World} {base g : Nat} {Q : Nat → Prop} {n n' : Int} {m : RM} (h : IsReady w base g Q n m) (hn : n ≤ n') : IsReady w base g Q n' m := by
  obtain ⟨b, v2, v3, h⟩ := h
  exact ⟨b, v2, v3, h.blk, h.turns.more hn, h.picks, h.told, h.qg, h.qb, h.bg, h.base, h.lot, h.few⟩

set_option maxRecDepth 100000 in
set_option maxHeartbeats 8000000 in
theorem readyTurns_walk (v : Value) (zs : List Int) (w : World) (hz : IntsArg w v zs) : Calls Try.prog 3 #[v] w fun e w' => e = .returned (.bool true) ∧ Below w.heap.size w w' := by
  have hnew := new_calls w 0 0 (.slice none 0 0) [] (IntsAt.nil w) ⟨by omega, by omega⟩ (by simp) ⟨by omega, by omega⟩
  obtain ⟨A, c, rfl, hc, hC⟩ := hz.shape
  obtain ⟨nz, hnz⟩ : ∃ nz : Nat, nz = zs.length := ⟨_, rfl⟩
  rw [← hnz]
  have HZ := Aside0.mk (And.intro hz.good (And.intro hz.few (And.intro hC hnz)))
  clear hz hC hc hnz
  go_enter Try.func3, Try.ntmps3
  go_wp2_with (first
    | (go_at_call 12; refine hnew.mono ?_; rintro e w1 ⟨g, rfl, hI, hB⟩; replace hI := Aside0.mk hI; replace hB := Aside0.mk hB)
    | (go_at_call 13; refine (awake_calls _).mono ?_; rintro e w2 ⟨rfl, hB2⟩; replace hB2 := Aside0.mk hB2))
  have s1 : w.heap.size ≤ w1.heap.size := hB.out.size
  have s2 : w1.heap.size ≤ w2.heap.size := hB2.out.size
  obtain ⟨s, hs⟩ : ∃ s, s = w2.heap.size := ⟨_, rfl⟩
  have hI2 : IsReady w2 w.heap.size g (fun k => w.heap.size ≤ k ∧ k < s) 0 ⟨0, 0, [], [], []⟩ := ((hI.out.below hB2.out).tight).mono (fun k hk => ⟨hk.2.1, by rw [hs]; exact hk.2.2⟩)
  have b0 : Below w2.heap.size w2 (w2.alloc (Obj.cells #[] 3)) := (Below.refl _ _).alloc (Nat.le_refl _) _
  have hI3 := Aside0.mk (hI2.below b0)
  have hR3 := Aside0.mk (R_lit0 w2 w.heap.size (fun k => s ≤ k) (by omega) (by omega))
  have hB3 := Aside0.mk ((hB.out.trans (hB2.out.mono s1)).trans (b0.mono (by omega)))
  have hS := Aside0.mk (And.intro hs (And.intro s1 s2))
  clear hI2 b0 hI hB hB2 hs s1 s2 hnew
  go_loopg [27, 5] (nz + 1) (fun kq v27 v5 w' => ∃ (i : Int) (il : List Int), v27 = .int .i64 i ∧ Aside0 (0 ≤ i ∧ i ≤ nz ∧ (nz - i).toNat < kq) ∧ Aside0 (IsReady w' w.heap.size g (fun k => w.heap.size ≤ k ∧ k < s) i ⟨0, 0, [], [], il⟩) ∧
    Aside0 ((Kd.int .i64).R 3 w' w.heap.size (fun k => s ≤ k) v5 il) ∧ Aside0 (Below w.heap.size w w') ∧ Aside0 (s ≤ w'.heap.size))
  case atStart => exact ⟨0, [], rfl, ⟨by omega, by omega, by omega⟩, hI3, hR3, hB3, ⟨by have := hS.out; simp; omega⟩⟩
  case round =>
    obtain ⟨i, il, rfl, hi, hI, hR, hB, hs⟩ := hrel
    by_cases hin : i < nz
    · have hlt : decide (i < (nz : Int)) = true := decide_eq_true hin
      have p1 : 0 ≤ i := hi.out.1
      obtain ⟨ad, eA, hx⟩ := Kd.at_int (Kd.C_below HZ.out.2.2.1 (hB.out : Below w.heap.size w wr)) i p1 (by have := HZ.out.2.2.2; omega)
      cases eA
      obtain ⟨x, hxx⟩ : ∃ x, x = rd zs i := ⟨_, rfl⟩
      rw [← hxx] at hx
      have hgx : goodI x := by
        rw [hxx]; unfold rd
        rw [List.getD_eq_getElem?_getD, List.getElem?_eq_getElem (by have := HZ.out.2.2.2; omega)]
        exact HZ.out.1 _ (List.getElem_mem _)
      have hwk := wake_calls wr w.heap.size g _ i x _ hI.out hgx (by have := hi.out; have := HZ.out.2.1; have := HZ.out.2.2.2; omega)
      have hfew := hI.out.fewL
      simp only at hwk hfew
      replace hfew := Aside0.mk hfew
      replace hxx := Aside0.mk hxx
      replace hgx := Aside0.mk hgx
      have hiw : wrap64 (i + 1) = i + 1 := w64 _ (by have := hi.out; have := HZ.out.2.1; have := HZ.out.2.2.2; omega)
      replace hiw := Aside0.mk hiw
      have hin' := Aside0.mk hin
      replace p1 := eq_true p1
      replace hin := eq_true hin
      by_cases hp : putE il x = 0
      · rw [hp] at hwk
        have hput : putL il x = il ++ [x] := by
          unfold putE at hp; unfold putL
          split at hp
          · omega
          · split at hp
            · omega
            · rename_i h1 h2; rw [if_neg (by simp [h1]; omega)]
        replace hp := Aside0.mk hp
        replace hput := Aside0.mk hput
        go_wp2_with (first
          | (go_at_call 14; refine hwk.mono ?_; rintro e w3 ⟨rfl, hI4, hO4⟩; have hI5 := Aside0.mk hI4; have hB5 := Aside0.mk (below_only hB.out hO4 hB.out.size (fun i hi h => by omega)); have hR5 := Aside0.mk (R_only hR.out hO4 (fun k hk h => by omega)); have hs5 := Aside0.mk (Nat.le_trans hs.out hO4.size); clear hI4 hO4)
          | ((with_reducible refine gate_builtin (b := .append) (xs := #[.tmp 35, .tmp 37]) rfl ?_); at_builtin; refine Kd.R_append (Kd.int .i64) (w0 := w) w.heap.size rfl (.tmp 35) (.tmp 37) 22 3 (.int .i64 0) 8 rfl undSI info3 rfl (by decide) (by decide) u5 il x [.int .i64 x] (fun k => s ≤ k) (fun _ => False) rfl rfl rfl (fun _ h => h.elim) (fun k hk => Nat.le_trans hs5.out hk) hR5.out hB5.out hB5.out.size (by have := hfew.out; omega) ?_; intro v6 w6 hR6 hB6 hg6 hat6; replace hR6 := Aside0.mk hR6; replace hB6 := Aside0.mk hB6; replace hg6 := Aside0.mk hg6; clear hat6))
        go_roundg (nz - i).toNat
        case measure => exact hi.out.2.2
        case rel =>
          refine ⟨i + 1, il ++ [x], by simp [hiw.out], ⟨by have := hi.out; omega, by have := hin'.out; omega, by have := hin'.out; omega⟩, ⟨?_⟩, hR6, hB6, ⟨by have := hs5.out; have := hg6.out.size; omega⟩⟩
          have h1 := hI5.out
          unfold wakeM at h1
          simp only [hput.out] at h1
          exact h1.only (Only.ofGrown hg6.out) (fun k hk e => by have := hR5.out.1 k e.symm; omega)
      · have hpn : (putE il x == 0) = false := beq_eq_false_iff_ne.2 hp
        have hput : putL il x = il := by
          unfold putE at hp; unfold putL
          split at hp
          · rename_i h1; rw [if_pos (.inl h1)]
          · split at hp
            · rename_i h1 h2; rw [if_pos (.inr h2)]
            · exact absurd rfl hp
        replace hput := Aside0.mk hput
        replace hp := Aside0.mk hp
        go_wp2_with (go_at_call 14; refine hwk.mono ?_; rintro e w3 ⟨rfl, hI4, hO4⟩; have hI5 := Aside0.mk hI4; have hB5 := Aside0.mk (below_only hB.out hO4 hB.out.size (fun i hi h => by omega)); have hR5 := Aside0.mk (R_only hR.out hO4 (fun k hk h => by omega)); have hs5 := Aside0.mk (Nat.le_trans hs.out hO4.size); clear hI4 hO4)
        go_roundg (nz - i).toNat
        case measure => exact hi.out.2.2
        case rel =>
          refine ⟨i + 1, il, by simp [hiw.out], ⟨by have := hi.out; omega, by have := hin'.out; omega, by have := hin'.out; omega⟩, ⟨?_⟩, hR5, hB5, hs5⟩
          have h1 := hI5.out
          unfold wakeM at h1
          simp only [hput.out] at h1
          exact h1
    · have hlt : decide (i < (nz : Int)) = false := decide_eq_false hin
      replace hin := Aside0.mk hin
      obtain ⟨A5, cc5, e5, _⟩ := Kd.R_reads hR.out
      obtain ⟨m5, hm5⟩ : ∃ m5 : Nat, m5 = il.length := ⟨_, rfl⟩
      rw [← hm5] at e5
      subst e5
      replace hm5 := Aside0.mk hm5
      go_wp2
      obtain ⟨s2, hs2⟩ : ∃ s2, s2 = wr.heap.size := ⟨_, rfl⟩
      have hI6 : Aside0 (IsReady wr w.heap.size g (fun k => (w.heap.size ≤ k ∧ k < s) ∨ s2 ≤ k) i ⟨0, 0, [], [], il⟩) := ⟨hI.out.mono (fun k hk => .inl hk)⟩
      have hR6 : Aside0 ((Kd.int .i64).R 3 wr w.heap.size (fun k => s ≤ k ∧ k < s2) (.slice A5 m5 cc5) il) := ⟨Kd.R_mono (Kd.R_bound hR.out) (fun k hk => ⟨hk.1, by rw [hs2]; exact hk.2.2.1⟩)⟩
      have hn0 := Aside0.mk hI.out.nodup
      have hg0 := Aside0.mk hI.out.goodL
      have hf0 := Aside0.mk hI.out.fewL
      replace hs2 := Aside0.mk hs2
      clear hI hR
      go_loopg [42] (m5 + 1) (fun kq v42 w' => ∃ (j : Int), v42 = .int .i64 j ∧ Aside0 (0 ≤ j ∧ j ≤ m5 ∧ (m5 - j).toNat < kq) ∧ Aside0 (IsReady w' w.heap.size g (fun k => (w.heap.size ≤ k ∧ k < s) ∨ s2 ≤ k) i ⟨0, 0, [], List.replicate j.toNat 0, il.drop j.toNat⟩) ∧
        Aside0 ((Kd.int .i64).R 3 w' w.heap.size (fun k => s ≤ k ∧ k < s2) (.slice A5 m5 cc5) il) ∧ Aside0 (Below w.heap.size w w') ∧ Aside0 (s2 ≤ w'.heap.size))
      case atStart => exact ⟨0, rfl, ⟨by omega, by omega, by omega⟩, hI6, hR6, hB, ⟨by rw [hs2.out]; exact Nat.le_refl _⟩⟩
      case round =>
        obtain ⟨j, rfl, hj, hIj, hRj, hBj, hsj⟩ := hrel
        have hwb : w.heap.size ≤ s2 := by have := hB.out.size; have := hs2.out; omega
        have hni : i < 4611686018427387904 := by have := hi.out; have := HZ.out.2.1; have := HZ.out.2.2.2; omega
        by_cases hjm : j < m5
        · have hlt2 : decide (j < (m5 : Int)) = true := decide_eq_true hjm
          have p1 : 0 ≤ j := hj.out.1
          have hjl : j.toNat < il.length := by have := hm5.out; omega
          obtain ⟨ad, eA, hx⟩ := Kd.at_int (Kd.R_reads' hRj.out).2.2 j p1 (by have := hm5.out; omega)
          cases eA
          obtain ⟨y, hyy⟩ : ∃ y, y = rd il j := ⟨_, rfl⟩
          rw [← hyy] at hx
          have hcons : il.drop j.toNat = y :: il.drop (j + 1).toNat := by
            rw [show (j + 1).toNat = j.toNat + 1 by omega, ← List.getElem_cons_drop hjl, hyy]
            unfold rd
            rw [List.getD_eq_getElem?_getD, List.getElem?_eq_getElem hjl]; rfl
          have hnd : (y :: il.drop (j + 1).toNat).Nodup := by rw [← hcons]; exact List.Nodup.sublist (List.drop_sublist _ _) hn0.out
          have hrep : List.replicate j.toNat (0 : Int) ++ [0] = List.replicate (j + 1).toNat 0 := by rw [show (j + 1).toNat = j.toNat + 1 by omega, List.replicate_succ']
          have hpt := pick_turn (lot := 0) (told := List.replicate j.toNat 0) hnd
          rw [hrep] at hpt
          have hI7 : IsReady wr w.heap.size g (fun k => (w.heap.size ≤ k ∧ k < s) ∨ s2 ≤ k) i ⟨0, 0, [], List.replicate j.toNat 0, y :: il.drop (j + 1).toNat⟩ := by rw [← hcons]; exact hIj.out
          have hpk := pick_calls wr w.heap.size g _ i _ hI7 hni (by simp only [List.length_replicate]; have := hf0.out; simp only at this; omega) (by have := hBj.out.size; omega)
          rw [hpt.1, hpt.2] at hpk
          have hne : decide ((⟨0, 0, [], List.replicate j.toNat 0, y :: il.drop (j + 1).toNat⟩ : RM).l ≠ []) = true := by simp
          rw [hne] at hpk
          have hgy : goodI y := hg0.out y (by rw [hyy]; unfold rd; rw [List.getD_eq_getElem?_getD, List.getElem?_eq_getElem hjl]; exact List.getElem_mem _)
          have hnin : decide (y ∈ il.drop (j + 1).toNat) = false := decide_eq_false (List.nodup_cons.1 hnd).1
          have hjw : wrap64 (j + 1) = j + 1 := w64 _ (by have := hj.out; have := hm5.out; have := hf0.out; simp only at this; omega)
          have HJ := Aside0.mk (And.intro hcons (And.intro hnd (And.intro hrep (And.intro hgy (And.intro hnin (And.intro hjw (And.intro hjl (And.intro hjm (And.intro hwb hni)))))))))
          replace hyy := Aside0.mk hyy
          clear hcons hnd hrep hgy hnin hjw hjl hwb hni hpt hI7 hne
          replace p1 := eq_true p1
          replace hjm := eq_true hjm
          go_wp2_with (first
            | (go_at_call 15; refine hpk.mono ?_; rintro e w3 ⟨rfl, hI8, hO8⟩; have hI9 := Aside0.mk (hI8.mono (Q' := fun k => (w.heap.size ≤ k ∧ k < s) ∨ s2 ≤ k) (fun k hk => hk.elim id (fun h => .inr (Nat.le_trans hsj.out h)))); have hB9 := Aside0.mk (below_only hBj.out hO8 hBj.out.size (fun i hi h => by have := HJ.out.2.2.2.2.2.2.2.2.1; omega)); have hR9 := Aside0.mk (R_only hRj.out hO8 (fun k hk h => by omega)); have hs9 := Aside0.mk (Nat.le_trans hsj.out hO8.size); clear hI8 hO8)
            | (go_at_call 16; refine (rhas_calls w3 w.heap.size g _ i y _ hI9.out HJ.out.2.2.2.1).mono ?_; rintro e w3 ⟨rfl, rfl⟩; simp only [HJ.out.2.2.2.2.1]))
          go_roundg (m5 - j).toNat
          case measure => exact hj.out.2.2
          case rel => exact ⟨j + 1, by simp [HJ.out.2.2.2.2.2.1], ⟨by have := hj.out; omega, by have := HJ.out.2.2.2.2.2.2.2.1; omega, by have := HJ.out.2.2.2.2.2.2.2.1; omega⟩, hI9, hR9, hB9, hs9⟩
        · have hlt2 : decide (j < (m5 : Int)) = false := decide_eq_false hjm
          have hdr : il.drop j.toNat = [] := by rw [List.drop_eq_nil_iff]; have := hm5.out; omega
          have hjm5 : j = m5 := by have := hj.out; omega
          have hI7 : IsReady wr w.heap.size g (fun k => (w.heap.size ≤ k ∧ k < s) ∨ s2 ≤ k) i ⟨0, 0, [], List.replicate j.toNat 0, []⟩ := by have h7 := hIj.out; rw [hdr] at h7; exact h7
          have hpk := pick_calls wr w.heap.size g _ i _ hI7 hni (by simp only [List.length_replicate]; have := hm5.out; have := hf0.out; simp only at this; omega) (by have := hBj.out.size; omega)
          have e1 : pickV ⟨0, 0, [], List.replicate j.toNat 0, []⟩ = 0 := rfl
          have e2 : pickM ⟨0, 0, [], List.replicate j.toNat 0, []⟩ = ⟨0, 0, [], List.replicate j.toNat 0, []⟩ := rfl
          rw [e1, e2] at hpk
          simp only [ne_eq, not_true_eq_false, decide_false] at hpk
          replace hjm := Aside0.mk hjm
          replace hjm5 := Aside0.mk hjm5
          replace hwb := Aside0.mk hwb
          clear hdr hI7 e1 e2 hni
          go_wp2_with (first
            | (go_at_call 15; refine hpk.mono ?_; rintro e w3 ⟨rfl, hI8, hO8⟩; have hI9 := Aside0.mk hI8; have hB9 := Aside0.mk (below_only hBj.out hO8 hBj.out.size (fun i hi h => by have := hwb.out; omega)); clear hI8 hO8)
            | (go_at_call 17; refine (rturns_calls w3 w.heap.size g _ i _ hI9.out).mono ?_; rintro e w3 ⟨rfl, rfl⟩))
          go_ret
          refine ⟨?_, hB9.out⟩
          have := hjm5.out
          simp [this]
end Go.Proofs.Ytljckmiphkoipaa
