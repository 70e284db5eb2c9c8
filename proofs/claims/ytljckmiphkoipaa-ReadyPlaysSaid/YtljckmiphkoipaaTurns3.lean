/-
  A slice of ints of one's own, sorted by the library; and All of a queue by turn.
-/
import Derived.Test.YtljckmiphkoipaaTurns2
import Derived.Test.YtljckmiphkoipaaMapRange
import Derived.Test.YtljckmiphkoipaaShelf
namespace Go.Proofs.Ytljckmiphkoipaa
set_option linter.unusedVariables false
set_option linter.unusedSimpArgs false
open Go.RowKit Go.MapKept Go.Maps Go.Proofs.YtljckmiphkoipaaW.PrintWords Go.Proofs.YtljckmiphkoipaaW.PrintLast Go.Proofs.YtljckmiphkoipaaW.PrintMore
open Go.Sort in
theorem sort_calls (w : World) (base : Nat) (ok : Nat → Prop) (v : Value) (zs : List Int) (h : (Kd.int .i64).R 3 w base ok v zs) (hl : zs.length < 4611686018427387904) :
    Calls Try.prog 98 #[v] w fun e w' => e = .returned (.tuple #[]) ∧ (Kd.int .i64).R 3 w' base ok v (zs.mergeSort fun x y => decide (x ≤ y)) ∧ Only (fun k => some k = v.ownBlock) w w' := by
  have ho : w.ownsRow base 3 1 v zs.length (encs (Value.int .i64) zs) := Kd.own_of_R h
  have hok := h.1
  rcases ho.2 with ⟨rfl, h0⟩ | ⟨g, cap, cur, rfl, hg, hb, hn, hcap, hsz, ht⟩
  · obtain rfl : zs = [] := List.eq_nil_of_length_eq_zero h0
    refine (Try.slices_Sort_int_none none 0 w).mono ?_
    rintro e w' ⟨rfl, rfl⟩
    exact ⟨rfl, by simpa using h, Only.refl _ _⟩
  · rw [Nat.mul_one] at ht
    refine (Try.slices_Sort_int g 0 cap zs w (holds_of_blockI hb ht) (blk_lt hb) hl).mono ?_
    rintro e w' ⟨rfl, n, os, rfl⟩
    refine ⟨rfl, Kd.R_of_own ?_ hok, Only.ofGrown (grownBy_sortedI _)⟩
    have := ownsRow_sortedI (n := n) (os := os) (ts := zs.mergeSort fun x y => decide (x ≤ y)) (ss := zs) (List.length_mergeSort _) hg hb hn hcap hsz
    rw [List.length_mergeSort]
    exact this

theorem info3 : (Try.prog.info? 3).map (fun i => (i.zero, i.size, i.bytes)) = some (some (.int .i64 0), 1, 8) := by kernel_rfl
theorem undSI : Try.prog.underlying 22 = some (.slice 3) := by kernel_rfl

section
variable (w : World) (b : Nat) (l : List Int) (n x : Int)
theorem all_nil : Calls Try.prog 72 #[.pointer none] w fun e w' => e = .returned (.slice none 0 0) ∧ w' = w := by
  go_enter Try.func72, Try.ntmps72
  go_wp2
  go_ret
  exact ⟨rfl, rfl⟩

set_option maxRecDepth 100000 in
set_option maxHeartbeats 4000000 in
theorem all_calls (h : IsTurns w b l n) (hn : n < 4611686018427387904) : Calls Try.prog 72 #[.pointer (some ⟨b + 2, 0, none⟩)] w fun e w' => ∃ v, e = .returned v ∧ (Kd.int .i64).R 3 w' w.heap.size (fun _ => True) v l ∧ Below w.heap.size w w' := by
  obtain ⟨L, fr, te, h1, h2, rfl, h4⟩ := h
  have c1 : w.cell? ⟨b + 2, 1, none⟩ = some (.map (some (b + 1))) := (blk_cell h1.blk 1).trans rfl
  obtain ⟨wi, hrange, hrg0', hb0', hs0⟩ := h1.items.run_range undII
  have hrg0 := Aside0.mk hrg0'
  have hb0 := Aside0.mk hb0'
  have H := Aside0.mk (And.intro h1 (And.intro h2 (And.intro h4 hn)))
  clear hrg0' hb0' hs0 h1 h2 h4 hn
  go_enter Try.func72, Try.ntmps72
  go_wp2
  go_loopg [3] (L.length + 1) (fun kq v3 w' => ∃ (R : List (Int × Int)) (acc : List Int), Aside0 (Ranges (Value.int .i64) (Value.int .i64) goodI w' (b + 1) w.heap.size L R) ∧ Aside0 (R.length < kq) ∧
    Aside0 ((Kd.int .i64).R 3 w' w.heap.size (fun k => w.heap.size < k) v3 acc) ∧ Aside0 ((acc ++ R.map (·.1)).Perm (L.map (·.1))) ∧ Aside0 (Below w.heap.size w w') ∧ Aside0 (w.heap.size < w'.heap.size))
  case atStart => exact ⟨L, [], hrg0, ⟨by omega⟩, ⟨Kd.R_nil _ _ _ _ _⟩, ⟨by simp⟩, hb0, ⟨hrg0.out.lt.2⟩⟩
  case round =>
    obtain ⟨R, acc, hrg, hkq, hR, hP, hB, hW⟩ := hrel
    rcases hrg.out.run_next (P := Try.prog) keyI.inj 0 with ⟨hnil, hnx⟩ | ⟨p, w1, hp, hnx, hen, hrg1', ho1', hs1⟩
    · subst hnil
      have hP2 : (acc.mergeSort fun x y => decide (x ≤ y)) = L.map (·.1) := by
        have hp : acc.Perm (L.map (·.1)) := by simpa using hP.out
        have s1 := List.pairwise_mergeSort (le := fun (x y : Int) => decide (x ≤ y)) (fun a b c h1 h2 => by simp at h1 h2 ⊢; omega) (fun a b => by simp; omega) acc
        refine List.Perm.eq_of_pairwise (le := fun (x y : Int) => x ≤ y) (fun a b _ _ h1 h2 => by omega) (s1.imp (fun h => by simpa using h)) ?_ ((List.mergeSort_perm _ _).trans hp)
        rw [List.pairwise_map]
        exact H.out.2.1.sorted.imp (fun h => by omega)
      have hlen : acc.length < 4611686018427387904 := by
        have := hP.out.length_eq
        have := H.out.2.1.few
        simp at *
        omega
      obtain ⟨T, hT⟩ : ∃ T : List Int, T = L.map (·.1) := ⟨_, rfl⟩
      obtain ⟨L2, hL2⟩ : ∃ L2 : List Int, L2 = L.map (·.2) := ⟨_, rfl⟩
      obtain ⟨A3, cc, e3, _⟩ := Kd.R_reads hR.out
      obtain ⟨m, hm⟩ : ∃ m : Nat, m = acc.length := ⟨_, rfl⟩
      rw [← hm] at e3
      subst e3
      have hmL : m = L.length := by have := hP.out.length_eq; simp at this; omega
      have hm6 : m ≤ 65536 := by have := H.out.2.1.few; omega
      rw [← hT] at hP2
      have HM := Aside0.mk (And.intro hm (And.intro hmL (And.intro hm6 (And.intro hT (And.intro hL2 (And.intro hP2 hlen))))))
      clear hm hmL hm6 hT hL2 hP2 hlen
      go_wp2_with (go_at_call 98; refine (sort_calls _ _ _ _ _ hR.out HM.out.2.2.2.2.2.2).mono ?_; rintro e w2 ⟨rfl, hR2', hO2'⟩; have hR2 := Aside0.mk hR2'; have hO2 := Aside0.mk hO2'; clear hR2' hO2')
      have hB2 : Aside0 (Below w.heap.size w w2) := ⟨hB.out.trans (hO2.out.below (Below.size hB.out) (fun i hi e => by have := hR.out.1 _ e.symm; omega))⟩
      have hR3 : Aside0 ((Kd.int .i64).R 3 w2 w.heap.size (fun k => w.heap.size < k) (.slice A3 m cc) T) := ⟨by rw [← HM.out.2.2.2.2.2.1]; exact hR2.out⟩
      clear hR2
      go_loopg [27, 5] (m + 1) (fun kq v27 v5 w' => ∃ (j : Int), v27 = .int .i64 j ∧ Aside0 (0 ≤ j ∧ j ≤ m ∧ m - j.toNat < kq) ∧ Aside0 ((Kd.int .i64).R 3 w' w.heap.size (fun k => w.heap.size < k) (.slice A3 m cc) T) ∧
        Aside0 ((Kd.int .i64).R 3 w' w.heap.size (fun k => some k ≠ (Value.slice A3 m cc).ownBlock) v5 (L2.take j.toNat)) ∧ Aside0 (Below w.heap.size w w'))
      case atStart => exact ⟨0, rfl, ⟨by omega, by omega, by omega⟩, hR3, ⟨Kd.R_nil _ _ _ _ _⟩, hB2⟩
      case round =>
        obtain ⟨j, rfl, hj, hRT, hRL, hBr⟩ := hrel
        by_cases hjm : j < m
        · have hlt : decide (j < (m : Int)) = true := decide_eq_true hjm
          have hj0 : 0 ≤ j := hj.out.1
          have hTl : T.length = m := by rw [HM.out.2.2.2.1, List.length_map]; exact HM.out.2.1.symm
          have hL2l : L2.length = m := by rw [HM.out.2.2.2.2.1, List.length_map]; exact HM.out.2.1.symm
          have hC := (Kd.R_reads' hRT.out).2.2
          obtain ⟨ad, eA, hx⟩ := Kd.at_int hC j hj0 (by rw [hTl]; exact hjm)
          have hjL : j.toNat < L.length := by have := HM.out.2.1; omega
          have e1 : rd T j = (L[j.toNat]).1 := by
            unfold rd
            rw [HM.out.2.2.2.1, List.getD_eq_getElem?_getD, List.getElem?_map, List.getElem?_eq_getElem hjL]; rfl
          have e2 : rd L2 j = (L[j.toNat]).2 := by
            unfold rd
            rw [HM.out.2.2.2.2.1, List.getD_eq_getElem?_getD, List.getElem?_map, List.getElem?_eq_getElem hjL]; rfl
          have hmem : ((L[j.toNat]).1, (L[j.toNat]).2) ∈ L := List.getElem_mem hjL
          have hit : MII wr (b + 1) L := H.out.1.items.of_block (hBr.out.block _ (by have := H.out.1.lt; omega))
          have hl : (Instr.lookup 109 (.map (some (b + 1))) (.int .i64 (rd T j)) false).run Try.prog wr = .ok (.int .i64 (rd L2 j)) wr := by
            have hg : goodI (rd T j) := by rw [e1]; exact hit.goods _ hmem
            simpa using hit.look_some keyI undII hg (v := rd L2 j) (by rw [e1, e2]; exact aget_of_mem H.out.2.1.turnsNe hmem) false
          have c1' : wr.cell? ⟨b + 2, 1, none⟩ = some (.map (some (b + 1))) := (blk_cell ((hBr.out.block _ H.out.1.lt).trans H.out.1.blk) 1).trans rfl
          have htk : L2.take j.toNat ++ [rd L2 j] = L2.take (j + 1).toNat := by
            rw [show (j + 1).toNat = j.toNat + 1 by omega, List.take_add_one, List.getElem?_eq_getElem (by omega)]
            unfold rd
            rw [List.getD_eq_getElem?_getD, List.getElem?_eq_getElem (by omega)]; rfl
          have hfr : ∀ k, wr.heap.size ≤ k → some k ≠ (Value.slice A3 m cc).ownBlock := fun k hk e => by have := Kd.R_lt hRT.out k e.symm; omega
          have hl65 : (L2.take j.toNat).length + 1 ≤ 65537 := by rw [List.length_take]; have := HM.out.2.2.1; omega
          have hbs : w.heap.size ≤ wr.heap.size := Below.size hBr.out
          cases eA
          have HJ := Aside0.mk (And.intro e1 (And.intro e2 (And.intro htk (And.intro hfr (And.intro hl65 (And.intro hbs (And.intro hTl hL2l)))))))
          clear e1 e2 htk hfr hl65 hbs hTl hL2l hC hmem hit
          replace hj0 := eq_true hj0
          replace hjm := eq_true hjm
          go_wp2_with ((with_reducible refine gate_builtin (b := .append) (xs := #[.tmp 31, .tmp 38]) rfl ?_); at_builtin; refine Kd.R_append (Kd.int .i64) (w0 := w) w.heap.size rfl (.tmp 31) (.tmp 38) 22 3 (.int .i64 0) 8 rfl undSI info3 rfl (by decide) (by decide) u5 (L2.take j.toNat) (rd L2 j) [.int .i64 (rd L2 j)] (fun k => some k ≠ (Value.slice (some ad) m cc).ownBlock) (fun _ => False) rfl rfl rfl (fun _ h => h.elim) HJ.out.2.2.2.1 hRL.out hBr.out HJ.out.2.2.2.2.2.1 (by have := HJ.out.2.2.2.2.1; omega) ?_; intro v4 w3 hR3' hB3' hg3' hat3; have hR4 := Aside0.mk hR3'; have hB4 := Aside0.mk hB3'; have hg4 := Aside0.mk hg3'; clear hR3' hB3' hg3' hat3)
          go_roundg (m - j.toNat)
          case measure => have := hj.out; omega
          case rel =>
            have hjm' : j < m := of_eq_true hjm
            have hw : wrap64 (j + 1) = j + 1 := w64 _ (by have := hj.out; have := HM.out.2.2.1; omega)
            refine ⟨j + 1, by simp [hw], ⟨by have := hj.out; omega, by omega, by have := hj.out; omega⟩, ⟨Kd.R_grown2 hRT.out rfl hg4.out (fun k hk => hRL.out.1 k hk)⟩, ⟨?_⟩, hB4⟩
            · rw [← HJ.out.2.2.1]; exact hR4.out
        · have hlt : decide (j < (m : Int)) = false := decide_eq_false hjm
          replace hjm := Aside0.mk hjm
          go_wp2
          go_ret
          refine ⟨u5, rfl, ?_, hBr.out⟩
          have := hRL.out
          rw [List.take_of_length_le (by have := hjm.out; have := hj.out; rw [HM.out.2.2.2.2.1, List.length_map]; have := HM.out.2.1; omega), HM.out.2.2.2.2.1] at this
          exact Kd.R_mono this (fun _ _ => trivial)
    · have hrg1 := Aside0.mk hrg1'
      have ho1 := Aside0.mk ho1'
      have hpr := Aside0.mk hp
      clear hrg1' ho1' hp
      have hR1 : Aside0 ((Kd.int .i64).R 3 w1 w.heap.size (fun k => w.heap.size < k) u3 acc) := ⟨R_only hR.out ho1.out (fun k hk e => by omega)⟩
      have hB1 : Aside0 (Below w.heap.size w w1) := ⟨hB.out.trans (ho1.out.below (Below.size hB.out) (fun i hi e => by omega))⟩
      have hl1 : Aside0 (acc.length + 1 ≤ 65536) := ⟨by
        have := hP.out.length_eq
        have := H.out.2.1.few
        have := List.length_pos_of_mem hpr.out
        simp at *
        omega⟩
      have hW1 : Aside0 (w.heap.size < w1.heap.size) := ⟨by have := hW.out; omega⟩
      replace hs1 := Aside0.mk hs1
      go_wp2_with ((with_reducible refine gate_builtin (b := .append) (xs := #[.tmp 19, .tmp 21]) rfl ?_); at_builtin; refine Kd.R_append (Kd.int .i64) (w0 := w) w.heap.size rfl (.tmp 19) (.tmp 21) 22 3 (.int .i64 0) 8 rfl undSI info3 rfl (by decide) (by decide) u3 acc p.1 [.int .i64 p.1] (fun k => w.heap.size < k) (fun _ => False) rfl rfl rfl (fun _ h => h.elim) (fun k hk => Nat.lt_of_lt_of_le hW1.out hk) hR1.out hB1.out (Nat.le_of_lt hW1.out) (by have := hl1.out; omega) ?_; intro v4 w2 hR2' hB2' hg2' hat2; have hR2 := Aside0.mk hR2'; have hB2 := Aside0.mk hB2'; have hg2 := Aside0.mk hg2'; clear hR2' hB2' hg2' hat2)
      go_roundg R.length
      case measure => exact hkq.out
      case rel =>
        have hnod := hrg.out.nodup
        have hlen := length_adel hnod hpr.out
        refine ⟨adel R p.1, acc ++ [p.1], ⟨hrg1.out.only (Only.ofGrown hg2.out) ?_ ?_⟩, ⟨by omega⟩, hR2, ⟨?_⟩, hB2, ⟨by have := hg2.out.size; have := hW1.out; omega⟩⟩
        · intro e
          have := hR1.out.1 _ e.symm
          have := H.out.1.lt
          omega
        · intro e
          have := hR1.out.1 _ e.symm
          omega
        · refine List.Perm.trans ?_ hP.out
          rw [List.append_assoc]
          exact List.Perm.append_left acc (show (List.map (fun x : Int × Int => x.1) (p :: adel R p.1)).Perm (R.map (fun x : Int × Int => x.1)) from ((perm_adel hnod hpr.out).map _).symm)
end
end Go.Proofs.Ytljckmiphkoipaa
