/- Texts of one family in one file: Turns3, QBase, Times0, AppBig, Times1, Heap0, Heap1, Heap2, TimesM, Times2, Times3, Times4, Times5, Times6, OrderG, SortN, SortT, Times7, QRef, QTimes0, QArgs, QPlays0, QPlays1, QDue0, QTimes1, QTurns0. -/
import Derived.Test.YtljckmiphkoipaaMQD2
import Derived.Test.YtljckmiphkoipaaMapRange
import Derived.Test.YtljckmiphkoipaaShelf
import Derived.Test.YtljckmiphkoipaaMQD3
import Derived.Lib.SmallJoins
import Derived.Test.YtljckmiphkoipaaWSized
import Derived.Test.YtljckmiphkoipaaWApart
import Derived.ProofKit
import Derived.OpenShut
import Derived.Test.YtljckmiphkoipaaMQD1
import Derived.Laws.AppendOwn
import Derived.Deep.RegionWith
import Derived.Test.YtljckmiphkoipaaWEqStruct
import Derived.Laws.StructEq
import Derived.Sort.Grow
/-
  A slice of ints of one's own, sorted by the library; and All of a queue by turn.
-/
namespace Go.Proofs.Ytljckmiphkoipaa
set_option linter.unusedVariables false
set_option linter.unusedSimpArgs false
open Go.RowKit Go.MapKept Go.Maps Go.Proofs.YtljckmiphkoipaaW.PrintWords Go.Proofs.YtljckmiphkoipaaW.PrintLast Go.Proofs.YtljckmiphkoipaaW.PrintMore
open Go.Sort in
theorem sort_calls (w : World) (base : Nat) (ok : Nat → Prop) (v : Value) (zs : List Int) (h : (Kd.int .i64).R 3 w base ok v zs) (hl : zs.length < 4611686018427387904) :
    Calls Try.prog 98 #[v] w fun e w' => e = .returned (.tuple #[]) ∧ (Kd.int .i64).R 3 w' base ok v (zs.mergeSort fun x y => decide (x ≤ y)) ∧ Only (fun k => some k = v.ownBlock) w w' := by
  have ho : w.ownsRow base 3 1 v zs.length (encs (Value.int .i64) zs) := Kd.own_of_R h
  have hok := h.1
  rcases ho.2 with ⟨rfl, h0⟩ | ⟨g, cap, cur, rfl, hg, hb, hn, hcap, hsz, ht⟩
  · obtain rfl : zs = [] := List.eq_nil_of_length_eq_zero h0
    refine (Try.slices_Sort_int_none none 0 w).mono ?_
    rintro e w' ⟨rfl, rfl⟩
    exact ⟨rfl, by simpa using h, Only.refl _ _⟩
  · rw [Nat.mul_one] at ht
    refine (Try.slices_Sort_int g 0 cap zs w (holds_of_blockI hb ht) (blk_lt hb) hl).mono ?_
    rintro e w' ⟨rfl, n, os, rfl⟩
    refine ⟨rfl, Kd.R_of_own ?_ hok, Only.ofGrown (grownBy_sortedI _)⟩
    have := ownsRow_sortedI (n := n) (os := os) (ts := zs.mergeSort fun x y => decide (x ≤ y)) (ss := zs) (List.length_mergeSort _) hg hb hn hcap hsz
    rw [List.length_mergeSort]
    exact this

theorem info3 : (Try.prog.info? 3).map (fun i => (i.zero, i.size, i.bytes)) = some (some (.int .i64 0), 1, 8) := by kernel_rfl
theorem undSI : Try.prog.underlying 22 = some (.slice 3) := by kernel_rfl

section
variable (w : World) (b : Nat) (l : List Int) (n x : Int)
theorem all_nil : Calls Try.prog 72 #[.pointer none] w fun e w' => e = .returned (.slice none 0 0) ∧ w' = w := by
  go_enter Try.func72, Try.ntmps72
  go_wp2
  go_ret
  exact ⟨rfl, rfl⟩

set_option maxRecDepth 100000 in
set_option maxHeartbeats 4000000 in
theorem all_calls (h : IsTurns w b l n) (hn : n < 4611686018427387904) : Calls Try.prog 72 #[.pointer (some ⟨b + 2, 0, none⟩)] w fun e w' => ∃ v, e = .returned v ∧ (Kd.int .i64).R 3 w' w.heap.size (fun _ => True) v l ∧ Below w.heap.size w w' := by
  obtain ⟨L, fr, te, h1, h2, rfl, h4⟩ := h
  have c1 : w.cell? ⟨b + 2, 1, none⟩ = some (.map (some (b + 1))) := (blk_cell h1.blk 1).trans rfl
  obtain ⟨wi, hrange, hrg0', hb0', hs0⟩ := h1.items.run_range undII
  have hrg0 := Aside0.mk hrg0'
  have hb0 := Aside0.mk hb0'
  have H := Aside0.mk (And.intro h1 (And.intro h2 (And.intro h4 hn)))
  clear hrg0' hb0' hs0 h1 h2 h4 hn
  go_enter Try.func72, Try.ntmps72
  go_wp2
  go_loopg [3] (L.length + 1) (fun kq v3 w' => ∃ (R : List (Int × Int)) (acc : List Int), Aside0 (Ranges (Value.int .i64) (Value.int .i64) goodI w' (b + 1) w.heap.size L R) ∧ Aside0 (R.length < kq) ∧
    Aside0 ((Kd.int .i64).R 3 w' w.heap.size (fun k => w.heap.size < k) v3 acc) ∧ Aside0 ((acc ++ R.map (·.1)).Perm (L.map (·.1))) ∧ Aside0 (Below w.heap.size w w') ∧ Aside0 (w.heap.size < w'.heap.size))
  case atStart => exact ⟨L, [], hrg0, ⟨by omega⟩, ⟨Kd.R_nil _ _ _ _ _⟩, ⟨by simp⟩, hb0, ⟨hrg0.out.lt.2⟩⟩
  case round =>
    obtain ⟨R, acc, hrg, hkq, hR, hP, hB, hW⟩ := hrel
    rcases hrg.out.run_next (P := Try.prog) keyI.inj 0 with ⟨hnil, hnx⟩ | ⟨p, w1, hp, hnx, hen, hrg1', ho1', hs1⟩
    · subst hnil
      have hP2 : (acc.mergeSort fun x y => decide (x ≤ y)) = L.map (·.1) := by
        have hp : acc.Perm (L.map (·.1)) := by simpa using hP.out
        have s1 := List.pairwise_mergeSort (le := fun (x y : Int) => decide (x ≤ y)) (fun a b c h1 h2 => by simp at h1 h2 ⊢; omega) (fun a b => by simp; omega) acc
        refine List.Perm.eq_of_pairwise (le := fun (x y : Int) => x ≤ y) (fun a b _ _ h1 h2 => by omega) (s1.imp (fun h => by simpa using h)) ?_ ((List.mergeSort_perm _ _).trans hp)
        rw [List.pairwise_map]
        exact H.out.2.1.sorted.imp (fun h => by omega)
      have hlen : acc.length < 4611686018427387904 := by
        have := hP.out.length_eq
        have := H.out.2.1.few
        simp at *
        omega
      obtain ⟨T, hT⟩ : ∃ T : List Int, T = L.map (·.1) := ⟨_, rfl⟩
      obtain ⟨L2, hL2⟩ : ∃ L2 : List Int, L2 = L.map (·.2) := ⟨_, rfl⟩
      obtain ⟨A3, cc, e3, _⟩ := Kd.R_reads hR.out
      obtain ⟨m, hm⟩ : ∃ m : Nat, m = acc.length := ⟨_, rfl⟩
      rw [← hm] at e3
      subst e3
      have hmL : m = L.length := by have := hP.out.length_eq; simp at this; omega
      have hm6 : m ≤ 65536 := by have := H.out.2.1.few; omega
      rw [← hT] at hP2
      have HM := Aside0.mk (And.intro hm (And.intro hmL (And.intro hm6 (And.intro hT (And.intro hL2 (And.intro hP2 hlen))))))
      clear hm hmL hm6 hT hL2 hP2 hlen
      go_wp2_with (go_at_call 98; refine (sort_calls _ _ _ _ _ hR.out HM.out.2.2.2.2.2.2).mono ?_; rintro e w2 ⟨rfl, hR2', hO2'⟩; have hR2 := Aside0.mk hR2'; have hO2 := Aside0.mk hO2'; clear hR2' hO2')
      have hB2 : Aside0 (Below w.heap.size w w2) := ⟨hB.out.trans (hO2.out.below (Below.size hB.out) (fun i hi e => by have := hR.out.1 _ e.symm; omega))⟩
      have hR3 : Aside0 ((Kd.int .i64).R 3 w2 w.heap.size (fun k => w.heap.size < k) (.slice A3 m cc) T) := ⟨by rw [← HM.out.2.2.2.2.2.1]; exact hR2.out⟩
      clear hR2
      go_loopg [27, 5] (m + 1) (fun kq v27 v5 w' => ∃ (j : Int), v27 = .int .i64 j ∧ Aside0 (0 ≤ j ∧ j ≤ m ∧ m - j.toNat < kq) ∧ Aside0 ((Kd.int .i64).R 3 w' w.heap.size (fun k => w.heap.size < k) (.slice A3 m cc) T) ∧
        Aside0 ((Kd.int .i64).R 3 w' w.heap.size (fun k => some k ≠ (Value.slice A3 m cc).ownBlock) v5 (L2.take j.toNat)) ∧ Aside0 (Below w.heap.size w w'))
      case atStart => exact ⟨0, rfl, ⟨by omega, by omega, by omega⟩, hR3, ⟨Kd.R_nil _ _ _ _ _⟩, hB2⟩
      case round =>
        obtain ⟨j, rfl, hj, hRT, hRL, hBr⟩ := hrel
        by_cases hjm : j < m
        · have hlt : decide (j < (m : Int)) = true := decide_eq_true hjm
          have hj0 : 0 ≤ j := hj.out.1
          have hTl : T.length = m := by rw [HM.out.2.2.2.1, List.length_map]; exact HM.out.2.1.symm
          have hL2l : L2.length = m := by rw [HM.out.2.2.2.2.1, List.length_map]; exact HM.out.2.1.symm
          have hC := (Kd.R_reads' hRT.out).2.2
          obtain ⟨ad, eA, hx⟩ := Kd.at_int hC j hj0 (by rw [hTl]; exact hjm)
          have hjL : j.toNat < L.length := by have := HM.out.2.1; omega
          have e1 : rd T j = (L[j.toNat]).1 := by
            unfold rd
            rw [HM.out.2.2.2.1, List.getD_eq_getElem?_getD, List.getElem?_map, List.getElem?_eq_getElem hjL]; rfl
          have e2 : rd L2 j = (L[j.toNat]).2 := by
            unfold rd
            rw [HM.out.2.2.2.2.1, List.getD_eq_getElem?_getD, List.getElem?_map, List.getElem?_eq_getElem hjL]; rfl
          have hmem : ((L[j.toNat]).1, (L[j.toNat]).2) ∈ L := List.getElem_mem hjL
          have hit : MII wr (b + 1) L := H.out.1.items.of_block (hBr.out.block _ (by have := H.out.1.lt; omega))
          have hl : (Instr.lookup 109 (.map (some (b + 1))) (.int .i64 (rd T j)) false).run Try.prog wr = .ok (.int .i64 (rd L2 j)) wr := by
            have hg : goodI (rd T j) := by rw [e1]; exact hit.goods _ hmem
            simpa using hit.look_some keyI undII hg (v := rd L2 j) (by rw [e1, e2]; exact aget_of_mem H.out.2.1.turnsNe hmem) false
          have c1' : wr.cell? ⟨b + 2, 1, none⟩ = some (.map (some (b + 1))) := (blk_cell ((hBr.out.block _ H.out.1.lt).trans H.out.1.blk) 1).trans rfl
          have htk : L2.take j.toNat ++ [rd L2 j] = L2.take (j + 1).toNat := by
            rw [show (j + 1).toNat = j.toNat + 1 by omega, List.take_add_one, List.getElem?_eq_getElem (by omega)]
            unfold rd
            rw [List.getD_eq_getElem?_getD, List.getElem?_eq_getElem (by omega)]; rfl
          have hfr : ∀ k, wr.heap.size ≤ k → some k ≠ (Value.slice A3 m cc).ownBlock := fun k hk e => by have := Kd.R_lt hRT.out k e.symm; omega
          have hl65 : (L2.take j.toNat).length + 1 ≤ 65537 := by rw [List.length_take]; have := HM.out.2.2.1; omega
          have hbs : w.heap.size ≤ wr.heap.size := Below.size hBr.out
          cases eA
          have HJ := Aside0.mk (And.intro e1 (And.intro e2 (And.intro htk (And.intro hfr (And.intro hl65 (And.intro hbs (And.intro hTl hL2l)))))))
          clear e1 e2 htk hfr hl65 hbs hTl hL2l hC hmem hit
          replace hj0 := eq_true hj0
          replace hjm := eq_true hjm
          go_wp2_with ((with_reducible refine gate_builtin (b := .append) (xs := #[.tmp 31, .tmp 38]) rfl ?_); at_builtin; refine Kd.R_append (Kd.int .i64) (w0 := w) w.heap.size rfl (.tmp 31) (.tmp 38) 22 3 (.int .i64 0) 8 rfl undSI info3 rfl (by decide) (by decide) u5 (L2.take j.toNat) (rd L2 j) [.int .i64 (rd L2 j)] (fun k => some k ≠ (Value.slice (some ad) m cc).ownBlock) (fun _ => False) rfl rfl rfl (fun _ h => h.elim) HJ.out.2.2.2.1 hRL.out hBr.out HJ.out.2.2.2.2.2.1 (by have := HJ.out.2.2.2.2.1; omega) ?_; intro v4 w3 hR3' hB3' hg3' hat3; have hR4 := Aside0.mk hR3'; have hB4 := Aside0.mk hB3'; have hg4 := Aside0.mk hg3'; clear hR3' hB3' hg3' hat3)
          go_roundg (m - j.toNat)
          case measure => have := hj.out; omega
          case rel =>
            have hjm' : j < m := of_eq_true hjm
            have hw : wrap64 (j + 1) = j + 1 := w64 _ (by have := hj.out; have := HM.out.2.2.1; omega)
            refine ⟨j + 1, by simp [hw], ⟨by have := hj.out; omega, by omega, by have := hj.out; omega⟩, ⟨Kd.R_grown2 hRT.out rfl hg4.out (fun k hk => hRL.out.1 k hk)⟩, ⟨?_⟩, hB4⟩
            · rw [← HJ.out.2.2.1]; exact hR4.out
        · have hlt : decide (j < (m : Int)) = false := decide_eq_false hjm
          replace hjm := Aside0.mk hjm
          go_wp2
          go_ret
          refine ⟨u5, rfl, ?_, hBr.out⟩
          have := hRL.out
          rw [List.take_of_length_le (by have := hjm.out; have := hj.out; rw [HM.out.2.2.2.2.1, List.length_map]; have := HM.out.2.1; omega), HM.out.2.2.2.2.1] at this
          exact Kd.R_mono this (fun _ _ => trivial)
    · have hrg1 := Aside0.mk hrg1'
      have ho1 := Aside0.mk ho1'
      have hpr := Aside0.mk hp
      clear hrg1' ho1' hp
      have hR1 : Aside0 ((Kd.int .i64).R 3 w1 w.heap.size (fun k => w.heap.size < k) u3 acc) := ⟨R_only hR.out ho1.out (fun k hk e => by omega)⟩
      have hB1 : Aside0 (Below w.heap.size w w1) := ⟨hB.out.trans (ho1.out.below (Below.size hB.out) (fun i hi e => by omega))⟩
      have hl1 : Aside0 (acc.length + 1 ≤ 65536) := ⟨by
        have := hP.out.length_eq
        have := H.out.2.1.few
        have := List.length_pos_of_mem hpr.out
        simp at *
        omega⟩
      have hW1 : Aside0 (w.heap.size < w1.heap.size) := ⟨by have := hW.out; omega⟩
      replace hs1 := Aside0.mk hs1
      go_wp2_with ((with_reducible refine gate_builtin (b := .append) (xs := #[.tmp 19, .tmp 21]) rfl ?_); at_builtin; refine Kd.R_append (Kd.int .i64) (w0 := w) w.heap.size rfl (.tmp 19) (.tmp 21) 22 3 (.int .i64 0) 8 rfl undSI info3 rfl (by decide) (by decide) u3 acc p.1 [.int .i64 p.1] (fun k => w.heap.size < k) (fun _ => False) rfl rfl rfl (fun _ h => h.elim) (fun k hk => Nat.lt_of_lt_of_le hW1.out hk) hR1.out hB1.out (Nat.le_of_lt hW1.out) (by have := hl1.out; omega) ?_; intro v4 w2 hR2' hB2' hg2' hat2; have hR2 := Aside0.mk hR2'; have hB2 := Aside0.mk hB2'; have hg2 := Aside0.mk hg2'; clear hR2' hB2' hg2' hat2)
      go_roundg R.length
      case measure => exact hkq.out
      case rel =>
        have hnod := hrg.out.nodup
        have hlen := length_adel hnod hpr.out
        refine ⟨adel R p.1, acc ++ [p.1], ⟨hrg1.out.only (Only.ofGrown hg2.out) ?_ ?_⟩, ⟨by omega⟩, hR2, ⟨?_⟩, hB2, ⟨by have := hg2.out.size; have := hW1.out; omega⟩⟩
        · intro e
          have := hR1.out.1 _ e.symm
          have := H.out.1.lt
          omega
        · intro e
          have := hR1.out.1 _ e.symm
          omega
        · refine List.Perm.trans ?_ hP.out
          rw [List.append_assoc]
          exact List.Perm.append_left acc (show (List.map (fun x : Int × Int => x.1) (p :: adel R p.1)).Perm (R.map (fun x : Int × Int => x.1)) from ((perm_adel hnod hpr.out).map _).symm)
end
end Go.Proofs.Ytljckmiphkoipaa

/-
  What the queue's texts need: Put and Drop of a queue by turn as one contract each, where a number stands in a list, structs that come in.
-/
namespace Go.Proofs.Ytljckmiphkoipaa
set_option linter.unusedVariables false
set_option linter.unusedSimpArgs false
open Go.RowKit Go.MapKept Go.Maps Go.Proofs.YtljckmiphkoipaaW.PrintWords Go.Proofs.YtljckmiphkoipaaW.PrintLast Go.Proofs.YtljckmiphkoipaaW.PrintMore

theorem first_of {l : List Int} {x : Int} (h : x ∈ l) : ∃ k, k < l.length ∧ l.getD k 0 = x ∧ ∀ j, j < k → l.getD j 0 ≠ x := by
  induction l with
  | nil => cases h
  | cons a l ih =>
    by_cases ha : a = x
    · exact ⟨0, by simp, by simpa using ha, by omega⟩
    · have hx : x ∈ l := by
        rcases List.mem_cons.1 h with e | e
        · exact absurd e.symm ha
        · exact e
      obtain ⟨k, h1, h2, h3⟩ := ih hx
      refine ⟨k + 1, by simpa using h1, by simpa using h2, fun j hj => ?_⟩
      cases j with
      | zero => simpa using ha
      | succ j => simpa using h3 j (by omega)
theorem idxOf_spec {l : List Int} {x : Int} (h : x ∈ l) : ∃ k : Nat, k < l.length ∧ Lib.idxOf l x = k ∧ l.getD k 0 = x ∧ ∀ j, j < k → l.getD j 0 ≠ x := by
  obtain ⟨k, h1, h2, h3⟩ := first_of h
  have := Lib.idxOf_hit l l.length k x h1 (Nat.le_refl _) h2 h3
  rw [List.take_length] at this
  exact ⟨k, h1, this, h2, h3⟩
theorem goodI5 : goodI 5 := goodI_of (by omega) (by omega)
theorem below_only {F : Nat → Prop} {B : Nat} {w a b : World} (h : Below B w a) (o : Only F a b) (hB : B ≤ a.heap.size) (hF : ∀ i, i < B → ¬ F i) : Below B w b := h.trans (o.below hB hF)
theorem Only.ofBelowAt {B : Nat} {w w' : World} (h : Below B w w') : Only (fun k => B ≤ k) w w' := ⟨h.os, h.tape, h.output, h.size, fun k _ hn => h.block k (by omega)⟩
section
variable (w : World) (n x : Int)
def putL (l : List Int) (x : Int) : List Int := if x ∈ l ∨ 65536 ≤ l.length then l else l ++ [x]
def putE (l : List Int) (x : Int) : Int := if x ∈ l then 40 else if 65536 ≤ l.length then 3 else 0
theorem put_calls (b : Nat) (l : List Int) (h : IsTurns w b l n) (hx : goodI x) (hn : n < 4611686018427387904) : Calls Try.prog 47 #[.pointer (some ⟨b + 2, 0, none⟩), .int .i64 x] w fun e w' => e = .returned (.int .i64 (putE l x)) ∧ IsTurns w' b (putL l x) (n + 1) ∧ Only (tfoot b) w w' := by
  unfold putE putL
  by_cases hm : x ∈ l
  · simp only [hm, true_or, if_true]
    refine (put_there w b l n x h hx hm).mono ?_
    rintro e w' ⟨rfl, rfl⟩
    exact ⟨rfl, h.more (by omega), Only.refl _ _⟩
  · by_cases hf : 65536 ≤ l.length
    · simp only [hm, hf, or_true, if_true, if_false]
      refine (put_full w b l n x h hx hm (by have := h.few; omega)).mono ?_
      rintro e w' ⟨rfl, rfl⟩
      exact ⟨rfl, h.more (by omega), Only.refl _ _⟩
    · simp only [hm, hf, or_self, if_false]
      exact put_new w b l n x h hx hm (by omega) hn
theorem drop_calls (b : Nat) (l : List Int) (h : IsTurns w b l n) (hx : goodI x) : Calls Try.prog 44 #[.pointer (some ⟨b + 2, 0, none⟩), .int .i64 x] w fun e w' => e = .returned (.bool (decide (x ∈ l))) ∧ IsTurns w' b (l.filter (fun y => decide (y ≠ x))) n ∧ Only (tfoot b) w w' := by
  by_cases hm : x ∈ l
  · simp only [hm, decide_true]
    exact drop_in w b l n x h hx hm
  · simp only [hm, decide_false]
    refine (drop_not w b l n x h hx hm).mono ?_
    rintro e w' ⟨rfl, rfl⟩
    refine ⟨rfl, ?_, Only.refl _ _⟩
    rw [List.filter_eq_self.2 (fun y hy => by simp; rintro rfl; exact hm hy)]
    exact h
end
/-- Where a number stands. -/
def findV (l : List Int) (x : Int) : Int := if x ∈ l then Lib.idxOf l x else -1
theorem findV_neg {l : List Int} {x : Int} : decide (0 ≤ findV l x) = decide (x ∈ l) := by
  unfold findV
  by_cases h : x ∈ l
  · obtain ⟨k, _, h2, _⟩ := idxOf_spec h
    rw [if_pos h, h2, decide_eq_true h, decide_eq_true (by omega)]
  · rw [if_neg h, decide_eq_false h, decide_eq_false (by omega)]
theorem findV_range {l : List Int} {x : Int} (h : x ∈ l) : 0 ≤ findV l x ∧ findV l x < l.length := by
  obtain ⟨k, h1, h2, _⟩ := idxOf_spec h
  unfold findV
  rw [if_pos h, h2]
  omega
theorem rd_getD (l : List Int) (j : Nat) : rd l j = l.getD j 0 := rfl
theorem filter_ne_at {l : List Int} (hn : l.Nodup) {k : Nat} (hk : k < l.length) : l.filter (fun y => decide (y ≠ rd l (k : Nat))) = l.take k ++ l.drop (k + 1) := by
  have e : l[k] = rd l (k : Nat) := by rw [rd_getD, List.getD_eq_getElem?_getD, List.getElem?_eq_getElem hk]; rfl
  have hs : l = l.take k ++ l[k] :: l.drop (k + 1) := by rw [List.getElem_cons_drop hk, List.take_append_drop]
  rw [← e]
  generalize hx : l[k] = x at hs
  rw [hs] at hn
  obtain ⟨h1, h2, h3⟩ := List.nodup_append.1 hn
  have h4 := (List.nodup_cons.1 h2).1
  rw [show l.filter (fun y => decide (y ≠ x)) = (l.take k ++ x :: l.drop (k + 1)).filter (fun y => decide (y ≠ x)) from congrArg _ hs, List.filter_append]
  congr 1
  · exact List.filter_eq_self.2 (fun y hy => decide_eq_true (fun e => h3 y hy x (by simp) e))
  · rw [List.filter_cons_of_neg (by simp)]
    exact List.filter_eq_self.2 (fun y hy => decide_eq_true (fun e => h4 (e ▸ hy)))
open Go.ChangeShapes Go.WideShapes Go.ChangeAt Go.Joins
theorem list_of {α : Type} {R : Nat → α → Prop} : ∀ (n : Nat), (∀ i, i < n → ∃ p, R i p) → ∃ ps : List α, ps.length = n ∧ ∀ i p, ps[i]? = some p → R i p
  | 0, _ => ⟨[], rfl, fun i p h => by simp at h⟩
  | n + 1, h => by
    obtain ⟨ps, h1, h2⟩ := list_of n (fun i hi => h i (by omega))
    obtain ⟨p, hp⟩ := h n (by omega)
    refine ⟨ps ++ [p], by simp [h1], fun i q hq => ?_⟩
    by_cases hi : i < n
    · rw [List.getElem?_append_left (by omega)] at hq
      exact h2 i q hq
    · rw [List.getElem?_append_right (by omega), h1] at hq
      have : i = n := by
        rcases Nat.lt_or_ge (i - n) 1 with h | h
        · omega
        · rw [List.getElem?_eq_none (by simpa using h)] at hq; cases hq
      subst this
      simp at hq
      rw [← hq]; exact hp
section
variable {H : Type} {enc : TypeId × Value → H} {P : Program} {w : World} {base : Nat} {spare : Nat → Bool} {held : Bool}
theorem open_rows {α : Type} {t e : TypeId} {C : Nat} {fuel : Nat} {v : Value} {x : DataW H × List MemPlace} (encC : α → List Value) (good : α → Prop) (ht : P.underlying t = some (.slice e)) (hC : P.cellsOf e = C)
    (hE : ∀ n cs y, DataW.trod enc P w base spare held n e cs = some y → ∃ p, cs = encC p ∧ good p)
    (h : DataW.trod enc P w base spare held fuel t [v] = some x) :
    (v = .slice none 0 0 ∧ x = (.nil, [])) ∨ ∃ (a : Addr) (len cap : Nat) (ps : List α) (els spr : List (DataW H)), v = .slice (some a) len cap ∧ len ≤ cap ∧ cap ≤ maxLen ∧ ps.length = len ∧
      (∀ i p, ps[i]? = some p → good p ∧ ∀ k, k < C → w.cell? ((a.add (i * C)).add k) = (encC p)[k]?) ∧ x.1 = .slice els spr ∧ els.length = len := by
  rcases DataW.trod_slice ht h with ⟨h0, h1⟩ | ⟨a, len, cap, elems, rest, n, _, h0, rfl, hb, hl, hm, hlen, hel, hsp, hns⟩
  · exact .inl ⟨by simpa using h0, h1⟩
  right
  obtain ⟨ps, h2, h3⟩ := list_of (R := fun i p => good p ∧ ∀ k, k < C → w.cell? ((a.add (i * C)).add k) = (encC p)[k]?) len (fun i hi => by
    have h4 := hel i hi
    rw [List.getElem?_eq_getElem (by omega), hC, Option.bind_eq_some_iff] at h4
    obtain ⟨cs, hcs, hy⟩ := h4
    obtain ⟨p, rfl, hp⟩ := hE _ _ _ hy
    exact ⟨p, hp, fun k hk => (World.cells?_some hcs).2.2 k hk⟩)
  exact ⟨a, len, cap, ps, elems.map (·.1), rest.map (·.1), by simpa using h0, hl, hm, h2, h3, rfl, by simpa using hlen⟩
end
theorem cellsOf3 : Try.prog.cellsOf 3 = 1 := by kernel_rfl
end Go.Proofs.Ytljckmiphkoipaa

/-
  The row of a queue by time: its methods.
-/
namespace Go.Proofs.Ytljckmiphkoipaa
set_option linter.unusedVariables false
set_option linter.unusedSimpArgs false
open Go.RowKit Go.MapKept Go.Maps Go.Proofs.YtljckmiphkoipaaW.PrintWords Go.Proofs.YtljckmiphkoipaaW.PrintLast Go.Proofs.YtljckmiphkoipaaW.PrintMore

abbrev Tm := Int × Int × Int
def encT (x : Tm) : List Value := [.int .i64 x.1, .int .i64 x.2.1, .int .i64 x.2.2]
theorem encT_len (x : Tm) : (encT x).length = 3 := rfl
theorem encT_one (x : Tm) : ∀ u ∈ encT x, u.oneCell' = true := by
  intro u hu
  simp [encT] at hu
  rcases hu with rfl | rfl | rfl <;> rfl
abbrev kT : Kd Tm := flatKd encT 3 encT_len encT_one

/-- Which is ahead. -/
def ltT (x y : Tm) : Bool := decide (x.1 < y.1 ∨ (x.1 = y.1 ∧ x.2.1 < y.2.1))
def cmpT (x y : Tm) : Int := if x.1 < y.1 then -1 else if x.1 > y.1 then 1 else if x.2.1 < y.2.1 then -1 else if x.2.1 > y.2.1 then 1 else 0
theorem cmpT_lt (x y : Tm) : decide (cmpT x y < 0) = ltT x y := by
  unfold cmpT ltT
  split
  · rw [decide_eq_true (by omega), decide_eq_true (by omega)]
  split
  · rw [decide_eq_false (by omega), decide_eq_false (by omega)]
  split
  · rw [decide_eq_true (by omega), decide_eq_true (by omega)]
  split
  · rw [decide_eq_false (by omega), decide_eq_false (by omega)]
  · rw [decide_eq_false (by omega), decide_eq_false (by omega)]
theorem order_f (x y : Tm) : PQ.queue_order.f 3 x.1 x.2.1 x.2.2 y.1 y.2.1 y.2.2 = some (cmpT x y) := by
  unfold PQ.queue_order.f PQ.cmp_Compare_int64.f PQ.cmp_Compare_int.f PQ.cmp_isNaN_int64.f PQ.cmp_isNaN_int.f PQ.cmp_Or_int.f cmpT
  simp only [Option.bind_some, bne_self_eq_false, Bool.false_eq_true, if_false]
  by_cases h1 : x.1 < y.1
  · simp [h1, PQ.cmp_Or_int.l0, rd]
    by_cases h3 : x.2.1 < y.2.1
    · simp [h3]
    · by_cases h4 : y.2.1 < x.2.1 <;> simp [h3, h4]
  · by_cases h2 : x.1 > y.1
    · simp [h1, h2, PQ.cmp_Or_int.l0, rd]
      by_cases h3 : x.2.1 < y.2.1
      · simp [h3]
      · by_cases h4 : y.2.1 < x.2.1 <;> simp [h3, h4]
    · by_cases h3 : x.2.1 < y.2.1
      · simp [h1, h2, h3, PQ.cmp_Or_int.l0, rd, wrap64]
      · by_cases h4 : x.2.1 > y.2.1
        · simp [h1, h2, h3, h4, PQ.cmp_Or_int.l0, rd, wrap64]
        · simp [h1, h2, h3, h4, PQ.cmp_Or_int.l0, rd, wrap64]
theorem order_calls (x y : Tm) (w : World) : Calls Try.prog 92 #[.agg #[.int .i64 x.1, .int .i64 x.2.1, .int .i64 x.2.2], .agg #[.int .i64 y.1, .int .i64 y.2.1, .int .i64 y.2.2]] w fun e w' => e = .returned (.int .i64 (cmpT x y)) ∧ Below w.heap.size w w' :=
  PQ.queue_order.calls 3 _ _ _ _ _ _ _ w (order_f x y)

theorem rowLen_calls (A : Option Addr) (n c : Nat) (w : World) : Calls Try.prog 161 #[.slice A n c] w fun e w' => e = .returned (.int .i64 (n : Int)) ∧ w' = w := by
  go_enter Try.func161, Try.ntmps161
  go_wp2
  go_ret
  exact ⟨rfl, rfl⟩

theorem isAgg133 (w : World) : (isAgg 133).run Try.prog w = .ok false w := by kernel_rfl
theorem load133 {q : Nat} {v : Value} {w : World} (h : w.cell? ⟨q, 0, none⟩ = some v) : (loadVar 133 ⟨q, 0, none⟩).run Try.prog w = .ok v w := by
  have h2 := isAgg133 w
  simp [loadVar, Sem.run_bind, h2, h]
theorem recv133 (q : Nat) (w : World) (s : String) : (receiverAt 141 (.val (.pointer (some ⟨q, 0, none⟩))) false (some s)).run Try.prog w = (loadVar 133 ⟨q, 0, none⟩).run Try.prog w := by kernel_rfl
theorem infoLen : (Try.prog.info? 141).map (fun i => (i.methods.find? (fun m => m.name == "Len")).map (fun m => (m.path.toList, m.func))) = some (some ([], some (161, false))) := by kernel_rfl
theorem method_val {name : String} {f : Nat} (hi : (Try.prog.info? 141).map (fun i => (i.methods.find? (fun m => m.name == name)).map (fun m => (m.path.toList, m.func))) = some (some ([], some (f, false))))
    {q : Nat} {v : Value} {w : World} (h : w.cell? ⟨q, 0, none⟩ = some v) : (method 313 141 (.pointer (some ⟨q, 0, none⟩)) name).run Try.prog w = .ok (f, v) w := by
  cases h1 : Try.prog.info? 141 with
  | none => rw [h1] at hi; cases hi
  | some i =>
    rw [h1] at hi
    simp only [Option.map_some, Option.some.injEq] at hi
    cases h2 : i.methods.find? (fun m => m.name == name) with
    | none => rw [h2] at hi; cases hi
    | some m =>
      rw [h2] at hi
      simp only [Option.map_some, Option.some.injEq, Prod.mk.injEq] at hi
      obtain ⟨h3, h4⟩ := hi
      have h5 : m.path = #[] := by cases hp : m.path; rw [hp] at h3; simp at h3; rw [h3]
      unfold method
      simp [Sem.run_bind, typeInfo, h1, h2, h5, h4, follow, recv133, load133 h, Place.get]

theorem methodLen {q : Nat} {v : Value} {w : World} (h : w.cell? ⟨q, 0, none⟩ = some v) : (method 313 141 (.pointer (some ⟨q, 0, none⟩)) "Len").run Try.prog w = .ok (161, v) w := method_val (by kernel_rfl) h
theorem methodLess {q : Nat} {v : Value} {w : World} (h : w.cell? ⟨q, 0, none⟩ = some v) : (method 313 141 (.pointer (some ⟨q, 0, none⟩)) "Less").run Try.prog w = .ok (162, v) w := method_val (by kernel_rfl) h
theorem methodSwap {q : Nat} {v : Value} {w : World} (h : w.cell? ⟨q, 0, none⟩ = some v) : (method 313 141 (.pointer (some ⟨q, 0, none⟩)) "Swap").run Try.prog w = .ok (163, v) w := method_val (by kernel_rfl) h
theorem methodPush (q : Nat) (w : World) : (method 313 141 (.pointer (some ⟨q, 0, none⟩)) "Push").run Try.prog w = .ok (165, .pointer (some ⟨q, 0, none⟩)) w := by kernel_rfl
theorem methodPop (q : Nat) (w : World) : (method 313 141 (.pointer (some ⟨q, 0, none⟩)) "Pop").run Try.prog w = .ok (164, .pointer (some ⟨q, 0, none⟩)) w := by kernel_rfl
end Go.Proofs.Ytljckmiphkoipaa

/-
  One element more on a row of a queue by time, up to 7 * 10^12 elements (the kit's laws end at 2^47 bytes).
-/
namespace Go.Proofs.Ytljckmiphkoipaa
set_option linter.unusedVariables false
set_option linter.unusedSimpArgs false
open Go.RowKit Go.MapKept Go.Maps Go.Proofs.YtljckmiphkoipaaW.PrintWords Go.Proofs.YtljckmiphkoipaaW.PrintLast Go.Proofs.YtljckmiphkoipaaW.PrintMore

theorem fits24 {n : Nat} (h : n ≤ 7000000000000) : Builtin.nextslicecap (n + 1) n * 24 ≤ 281474976710656 := by
  have h2 : Builtin.nextslicecap (n + 1) n ≤ n + n / 2 + 1000 := by
    unfold Builtin.nextslicecap
    split
    · omega
    · split
      · omega
      · rw [growBy_four]
        repeat' split
        all_goals omega
  omega
theorem info137' : (Try.prog.info? 137).map (fun i => (i.zero, i.size, i.bytes)) = some (some (.agg #[.int .i64 0, .int .i64 0, .int .i64 0]), 3, 24) := by kernel_rfl
theorem und133' : Try.prog.underlying 133 = some (.slice 137) := by kernel_rfl
/-- The row that was made anew. -/
theorem own_grown (w : World) (base n old : Nat) (xs news : List Value) (hx : xs.length = n * 3) (hw : news.length = 3) (hn : n + 1 ≤ maxLen) (hbase : base ≤ w.heap.size) (ho : old < n + 1) (row : Option Nat) :
    (w.drew.alloc (.cells (xs.toArray ++ news.toArray ++ Builtin.zeroCells (Value.agg #[.int .i64 0, .int .i64 0, .int .i64 0]).cells (grownCap w (n + 1) old 137 - (n + 1))) 137)).ownsRow base 137 3 (.slice (some ⟨w.heap.size, 0, none⟩) (n + 1) (grownCap w (n + 1) old 137)) (n + 1) (xs ++ news) ∧
    w.grownBy (w.drew.alloc (.cells (xs.toArray ++ news.toArray ++ Builtin.zeroCells (Value.agg #[.int .i64 0, .int .i64 0, .int .i64 0]).cells (grownCap w (n + 1) old 137 - (n + 1))) 137)) row := by
  have hlen : (xs ++ news).length = (n + 1) * 3 := by rw [List.length_append, hx, hw]; omega
  have hge := grownCap_ge w (n + 1) old 137
  refine ⟨⟨hlen, .inr ⟨w.heap.size, _, _, rfl, hbase, heap_alloc_new w.drew _, hge, grownCap_le_maxLen w (n + 1) old 137 hn, ?_, ?_⟩⟩, ⟨rfl, rfl, rfl, by simp, fun k hk _ => heap_alloc_old w.drew _ hk⟩⟩
  · have h3 : (Value.agg #[.int .i64 0, .int .i64 0, .int .i64 0]).cells.size = 3 := rfl
    simp only [Array.size_append, List.size_toArray, size_zeroCells, h3, hx, hw]
    omega
  · simp only [Array.toList_append, List.append_assoc]
    rw [← List.append_assoc, ← hlen]
    exact List.take_left
theorem append_one {w : World} {base : Nat} {ok : Nat → Prop} {v : Value} {H : List Tm} {g : Nat} {x : Tm} (ty : TypeId) (h : kT.R 137 w base ok v H) (hx : w.heap[g]? = some (.cells #[.int .i64 x.1, .int .i64 x.2.1, .int .i64 x.2.2] 137 (0, 0))) (hbase : base ≤ w.heap.size) (hl : H.length ≤ 7000000000000) :
    ∃ v' w', (Builtin.append_ #[133, 133] ty #[v, .slice (some ⟨g, 0, none⟩) 1 1]).run Try.prog w = .ok v' w' ∧ kT.R 137 w' base (fun k => ok k ∨ w.heap.size ≤ k) v' (H ++ [x]) ∧ w.grownBy w' v.ownBlock := by
  obtain ⟨i0, hi, hz, hsz, hby⟩ := info_parts info137'
  have hown := own_of_flat h
  have hok := h.1
  obtain ⟨n, hn⟩ : ∃ n, n = H.length := ⟨_, rfl⟩
  rw [← hn] at hown hl
  obtain ⟨xs, hxs⟩ : ∃ xs, xs = H.flatMap encT := ⟨_, rfl⟩
  rw [← hxs] at hown
  have hnews : ∀ j u, (encT x)[j]? = some u → w.cell? ((⟨g, 0, none⟩ : Addr).add j) = some u := by
    intro j u hu
    have hj : j < 3 := (List.getElem?_eq_some_iff.1 hu).1
    match j, hj, hu with
    | 0, _, hu => rw [← hu]; exact blk_cell hx 0
    | 1, _, hu => rw [← hu]; exact blk_cell hx 1
    | 2, _, hu => rw [← hu]; exact blk_cell hx 2
  have hl3 : (encT x).length = 1 * i0.size := by rw [hsz]; rfl
  have hml : n + 1 ≤ maxLen := by simp only [maxLen]; omega
  have back : ∀ (v' : Value) (w' : World), w'.ownsRow base 137 3 v' (n + 1) (xs ++ encT x) → (∀ k, v'.ownBlock = some k → ok k ∨ w.heap.size ≤ k) → kT.R 137 w' base (fun k => ok k ∨ w.heap.size ≤ k) v' (H ++ [x]) := by
    intro v' w' h1 h2
    refine flat_of_own ?_ h2
    rw [List.length_append, List.length_singleton, ← hn, List.flatMap_append, ← hxs, List.flatMap_singleton]
    exact h1
  rcases hown.2 with ⟨rfl, h0⟩ | ⟨g0, cap, cur, rfl, hg0, hb, hnc, hcm, hcs, ht⟩
  · subst h0
    have hx0 : xs = [] := List.eq_nil_of_length_eq_zero (by simpa using hown.1)
    subst hx0
    have hr := run_append_nil (P := Try.prog) w 133 ty 137 i0 _ und133' hi hz ⟨g, 0, none⟩ 1 1 (encT x) hl3 hnews (by omega) (by omega) (by rw [hby]; omega)
    have hgr := own_grown w base 0 0 [] (encT x) rfl rfl hml hbase (by omega) (Value.ownBlock (.slice none 0 0))
    simp only [Nat.zero_add, List.nil_append, Array.empty_append] at hgr
    exact ⟨_, _, hr, back _ _ hgr.1 (fun k hk => by simp [Value.ownBlock] at hk; exact .inr (by omega)), hgr.2⟩
  · by_cases hroom : n + 1 ≤ cap
    · have hfit : n * i0.size + (encT x).length ≤ cur.size := by
        rw [hsz, hcs]
        have : (encT x).length = 3 := rfl
        omega
      have hr := run_append_room (P := Try.prog) w 133 ty 137 i0 und133' hi g0 n cap cur hb ⟨g, 0, none⟩ 1 1 (encT x) hl3 hnews (encT_one x) hroom hfit
      refine ⟨_, _, hr, back _ _ ⟨?_, .inr ⟨g0, cap, _, rfl, hg0, setRow_heap w g0 cur _ 137 _ hb, hroom, hcm, ?_, ?_⟩⟩ (fun k hk => .inl (hok k hk)), ⟨rfl, rfl, rfl, by simp, fun k _ hk => setRow_other w g0 k _ (fun e => hk (by simp [Value.ownBlock, e]))⟩⟩
      · rw [List.length_append, hown.1, encT_len]; omega
      · simp only [List.size_toArray, List.length_append, List.length_take, List.length_drop, Array.length_toList]
        omega
      · rw [hsz, ht]
        have e1 : (n + 1) * 3 = (xs ++ encT x).length := by rw [List.length_append, hown.1, encT_len]; omega
        rw [e1]
        exact List.take_left
    · have holds : ∀ j u, xs[j]? = some u → w.cell? ((⟨g0, 0, none⟩ : Addr).add j) = some u := hown.cells (g := g0) rfl
      have hcn : cap = n := by omega
      have hr := run_append_grow (P := Try.prog) w 133 ty 137 i0 _ und133' hi hz ⟨g0, 0, none⟩ n cap xs (by rw [hsz]; exact hown.1) holds ⟨g, 0, none⟩ 1 1 (encT x) hl3 hnews (by omega) (by omega) (by rw [hby, hcn]; exact fits24 hl)
      have hgr := own_grown w base n cap xs (encT x) hown.1 rfl hml hbase (by omega) (Value.ownBlock (.slice (some ⟨g0, 0, none⟩) n cap))
      exact ⟨_, _, hr, back _ _ hgr.1 (fun k hk => by simp [Value.ownBlock] at hk; exact .inr (by omega)), hgr.2⟩
theorem exec_append {P : Program} {oi : Oper} {a : Act} {w w1 : World} {s x : Operand} {t : TypeId} {v u v1 : Value} (ho : oi.op = .call { callee := .builtin .append, args := #[s, x], argTypes := #[t, t] }) (hs : a.eval s = v) (hx : a.eval x = u)
    (hr : (Builtin.append_ #[t, t] oi.type #[v, u]).run P w = .ok v1 w1) : (execOp a.eval oi).run P w = .ok (.value v1) w1 := by
  unfold execOp
  simp only [ho, resolve, invoke, builtin, Sem.run_bind, Sem.run_pure, Result.andThen_ok, List.map_toArray, List.map_cons, List.map_nil, hs, hx, hr]
end Go.Proofs.Ytljckmiphkoipaa

/-
  The row of a queue by time: Less, Swap, Push, Pop.
-/
namespace Go.Proofs.Ytljckmiphkoipaa
set_option linter.unusedVariables false
set_option linter.unusedSimpArgs false
open Go.RowKit Go.MapKept Go.Maps Go.Proofs.YtljckmiphkoipaaW.PrintWords Go.Proofs.YtljckmiphkoipaaW.PrintLast Go.Proofs.YtljckmiphkoipaaW.PrintMore

theorem FlatAt.cells3 {w : World} {g cap : Nat} {cur : Array Value} {H : List Tm} (h : FlatAt encT 3 137 w g cap cur H) {i : Nat} {x : Tm} (hx : H[i]? = some x) :
    w.cell? ⟨g, i * 3, none⟩ = some (.int .i64 x.1) ∧ w.cell? ⟨g, i * 3 + 1, none⟩ = some (.int .i64 x.2.1) ∧ w.cell? ⟨g, i * 3 + 2, none⟩ = some (.int .i64 x.2.2) :=
  ⟨h.cell encT_len hx (j := 0) rfl, h.cell encT_len hx (j := 1) rfl, h.cell encT_len hx (j := 2) rfl⟩

set_option maxRecDepth 100000 in
set_option maxHeartbeats 4000000 in
theorem less_calls {w : World} {g cap : Nat} {cur : Array Value} {H : List Tm} (h : FlatAt encT 3 137 w g cap cur H) {i k : Nat} {x y : Tm} (hx : H[i]? = some x) (hy : H[k]? = some y) :
    Calls Try.prog 162 #[.slice (some ⟨g, 0, none⟩) H.length cap, .int .i64 (i : Int), .int .i64 (k : Int)] w fun e w' => e = .returned (.bool (ltT x y)) ∧ Below w.heap.size w w' := by
  obtain ⟨a0, a1, a2⟩ := h.cells3 hx
  obtain ⟨b0, b1, b2⟩ := h.cells3 hy
  have hi : i < H.length := (List.getElem?_eq_some_iff.1 hx).1
  have hk : k < H.length := (List.getElem?_eq_some_iff.1 hy).1
  obtain ⟨n, hn⟩ : ∃ n, n = H.length := ⟨_, rfl⟩
  rw [← hn] at hi hk ⊢
  have p1 : ((0 : Int) ≤ (i : Int)) = True := eq_true (by omega)
  have p2 : ((i : Int) < (n : Int)) = True := eq_true (by omega)
  have p3 : ((0 : Int) ≤ (k : Int)) = True := eq_true (by omega)
  have p4 : ((k : Int) < (n : Int)) = True := eq_true (by omega)
  have p5 : (i < n) = True := eq_true hi
  have p6 : (k < n) = True := eq_true hk
  have hlt := cmpT_lt x y
  generalize ltT x y = b at hlt ⊢
  have ho := order_calls x y
  generalize cmpT x y = c at hlt ho
  clear h hx hy hi hk hn
  go_enter Try.func162, Try.ntmps162
  go_upto_region 1 with fail
  refine start_ (n := 11) (S := fun w' => w'.cell? ⟨g, i * 3, none⟩ = some (.int .i64 x.1) ∧ w'.cell? ⟨g, i * 3 + 1, none⟩ = some (.int .i64 x.2.1) ∧ w'.cell? ⟨g, i * 3 + 2, none⟩ = some (.int .i64 x.2.2) ∧ w'.cell? ⟨g, k * 3, none⟩ = some (.int .i64 y.1) ∧ w'.cell? ⟨g, k * 3 + 1, none⟩ = some (.int .i64 y.2.1) ∧ w'.cell? ⟨g, k * 3 + 2, none⟩ = some (.int .i64 y.2.2)) (ds := []) #[false, false, false, false, false, false, false, false, false, false, false] (by kernel_rfl) rfl rfl ⟨a0, a1, a2, b0, b1, b2⟩ (fun hHeld => ?_)
  refine pure_ (i := 0) (N := some 7) (v := ?_) (a' := ?_) #[true, false, false, false, false, false, false, false, false, false, false] rfl rfl (by kernel_rfl) (fun _ _ _ h => h) (Or.inl ⟨by rfl, ?_⟩) ?_ ?_
  rotate_left
  · intro w'
    go_simp
    with_reducible rfl
  rotate_left
  · simp only [Act.put, List.setIfInBounds_toArray, List.set_cons_zero, List.set_cons_succ, i64_w, i32_w]
    rfl
  refine pure_ (i := 1) (N := some 8) (v := ?_) (a' := ?_) #[true, true, false, false, false, false, false, false, false, false, false] rfl rfl (by kernel_rfl) (fun _ _ _ h => h) (Or.inl ⟨by rfl, ?_⟩) ?_ ?_
  rotate_left
  · intro w'
    go_simp
    with_reducible rfl
  rotate_left
  · simp only [Act.put, List.setIfInBounds_toArray, List.set_cons_zero, List.set_cons_succ, i64_w, i32_w]
    rfl
  refine pure_ (i := 2) (N := some 9) (v := ?_) (a' := ?_) #[true, true, true, false, false, false, false, false, false, false, false] rfl rfl (by kernel_rfl) (fun _ _ _ h => h) (Or.inl ⟨by rfl, ?_⟩) ?_ ?_
  rotate_left
  · intro w'
    go_simp
    with_reducible rfl
  rotate_left
  · simp only [Act.put, List.setIfInBounds_toArray, List.set_cons_zero, List.set_cons_succ, i64_w, i32_w]
    rfl
  refine pure_ (i := 4) (N := some 11) (v := ?_) (a' := ?_) #[true, true, true, false, true, false, false, false, false, false, false] rfl rfl (by kernel_rfl) (fun _ _ _ h => h) (Or.inl ⟨by rfl, ?_⟩) ?_ ?_
  rotate_left
  · intro w'
    go_simp
    with_reducible rfl
  rotate_left
  · simp only [Act.put, List.setIfInBounds_toArray, List.set_cons_zero, List.set_cons_succ, i64_w, i32_w]
    rfl
  refine pure_ (i := 5) (N := some 12) (v := ?_) (a' := ?_) #[true, true, true, false, true, true, false, false, false, false, false] rfl rfl (by kernel_rfl) (fun _ _ _ h => h) (Or.inl ⟨by rfl, ?_⟩) ?_ ?_
  rotate_left
  · intro w'
    go_simp
    with_reducible rfl
  rotate_left
  · simp only [Act.put, List.setIfInBounds_toArray, List.set_cons_zero, List.set_cons_succ, i64_w, i32_w]
    rfl
  refine pure_ (i := 6) (N := some 13) (v := ?_) (a' := ?_) #[true, true, true, false, true, true, true, false, false, false, false] rfl rfl (by kernel_rfl) (fun _ _ _ h => h) (Or.inl ⟨by rfl, ?_⟩) ?_ ?_
  rotate_left
  · intro w'
    go_simp
    with_reducible rfl
  rotate_left
  · simp only [Act.put, List.setIfInBounds_toArray, List.set_cons_zero, List.set_cons_succ, i64_w, i32_w]
    rfl
  refine take_ (i := 3) (N := some 10) (v := ?_) (a' := ?_) #[true, true, true, true, true, true, true, false, false, false, false] rfl rfl (by kernel_rfl) (fun _ _ _ h => h) (Or.inl ⟨by rfl, ?_⟩) hHeld ?_ ?_
  rotate_left
  · rintro w' ⟨s0, s1, s2, s3, s4, s5⟩
    go_simp
    with_reducible rfl
  rotate_left
  · simp only [Act.put, List.setIfInBounds_toArray, List.set_cons_zero, List.set_cons_succ, i64_w, i32_w]
    rfl
  refine take_ (i := 7) (N := some 14) (v := ?_) (a' := ?_) #[true, true, true, true, true, true, true, true, false, false, false] rfl rfl (by kernel_rfl) (fun _ _ _ h => h) (Or.inl ⟨by rfl, ?_⟩) hHeld ?_ ?_
  rotate_left
  · rintro w' ⟨s0, s1, s2, s3, s4, s5⟩
    go_simp
    with_reducible rfl
  rotate_left
  · simp only [Act.put, List.setIfInBounds_toArray, List.set_cons_zero, List.set_cons_succ, i64_w, i32_w]
    rfl
  refine one_ (i := 8) (N := some 15) #[true, true, true, true, true, true, true, true, true, false, false] rfl rfl (by kernel_rfl) (by decide) (fun K hK => ?_)
  refine goes_ Try.func92 (by kernel_rfl) rfl #[.agg #[.int .i64 x.1, .int .i64 x.2.1, .int .i64 x.2.2], .agg #[.int .i64 y.1, .int .i64 y.2.1, .int .i64 y.2.2]] (by rfl) rfl rfl (by simp only [List.map_toArray, List.map_cons, List.map_nil]; rfl) ?_
  with_reducible refine (ho w.drew).mono ?_
  rintro e w3 ⟨rfl, hB⟩
  refine ⟨_, rfl, ?_⟩
  have A0 := pw_cell_below hB a0
  have A1 := pw_cell_below hB a1
  have A2 := pw_cell_below hB a2
  have B0 := pw_cell_below hB b0
  have B1 := pw_cell_below hB b1
  have B2 := pw_cell_below hB b2
  replace hB := Aside0.mk hB
  refine hK.out _ _ ⟨A0, A1, A2, B0, B1, B2⟩ (fun hHeld => ?_)
  clear hK K
  refine norm_ (a' := ?_) ?_ ?_
  rotate_left
  · show Act.put _ (some 15) _ = _
    simp only [Act.put, List.setIfInBounds_toArray, List.set_cons_zero, List.set_cons_succ, i64_w, i32_w]
    rfl
  refine pure_ (i := 9) (N := some 16) (v := ?_) (a' := ?_) #[true, true, true, true, true, true, true, true, true, true, false] rfl rfl (by kernel_rfl) (fun _ _ _ h => h) (Or.inl ⟨by rfl, ?_⟩) ?_ ?_
  rotate_left
  · intro w'
    go_simp
    with_reducible rfl
  rotate_left
  · simp only [Act.put, List.setIfInBounds_toArray, List.set_cons_zero, List.set_cons_succ, i64_w, i32_w]
    rfl
  refine pure_ (i := 10) (N := some 6) (v := ?_) (a' := ?_) #[true, true, true, true, true, true, true, true, true, true, true] rfl rfl (by kernel_rfl) (fun _ _ _ h => h) (Or.inl ⟨by rfl, ?_⟩) ?_ ?_
  rotate_left
  · intro w'
    go_simp
    with_reducible rfl
  rotate_left
  · simp only [Act.put, List.setIfInBounds_toArray, List.set_cons_zero, List.set_cons_succ, i64_w, i32_w]
    rfl
  refine done_ (by kernel_rfl) ?_
  go_wp2
  go_ret
  refine ⟨by first | rfl | simp [hlt], ?_⟩
  exact (below_drew (Below.refl w.heap.size w)).trans hB.out

def swapL (H : List Tm) (i k : Nat) : List Tm := (H.set i (H.getD k (0, 0, 0))).set k (H.getD i (0, 0, 0))
theorem swapL_eq {H : List Tm} {i k : Nat} {x y : Tm} (hx : H[i]? = some x) (hy : H[k]? = some y) : swapL H i k = (H.set i y).set k x := by
  unfold swapL
  rw [List.getD_eq_getElem?_getD, List.getD_eq_getElem?_getD, hx, hy]; rfl
set_option maxRecDepth 100000 in
set_option maxHeartbeats 4000000 in
theorem swap_calls {w : World} {g cap : Nat} {cur : Array Value} {H : List Tm} (h : FlatAt encT 3 137 w g cap cur H) {i k : Nat} (hi : i < H.length) (hk : k < H.length) :
    Calls Try.prog 163 #[.slice (some ⟨g, 0, none⟩) H.length cap, .int .i64 (i : Int), .int .i64 (k : Int)] w fun e w' => e = .returned (.tuple #[]) ∧ (∃ cur', FlatAt encT 3 137 w' g cap cur' (swapL H i k)) ∧ Only (fun b => b = g) w w' := by
  obtain ⟨x, hx⟩ : ∃ x, H[i]? = some x := ⟨_, List.getElem?_eq_getElem hi⟩
  obtain ⟨y, hy⟩ : ∃ y, H[k]? = some y := ⟨_, List.getElem?_eq_getElem hk⟩
  rw [swapL_eq hx hy]
  obtain ⟨a0, a1, a2⟩ := h.cells3 hx
  obtain ⟨b0, b1, b2⟩ := h.cells3 hy
  obtain ⟨n, hn⟩ : ∃ n, n = H.length := ⟨_, rfl⟩
  have HF := Aside0.mk (And.intro h (And.intro hx (And.intro hy (And.intro hi hk))))
  rw [← hn] at hi hk ⊢
  have p1 : ((0 : Int) ≤ (i : Int)) = True := eq_true (by omega)
  have p2 : ((i : Int) < (n : Int)) = True := eq_true (by omega)
  have p3 : ((0 : Int) ≤ (k : Int)) = True := eq_true (by omega)
  have p4 : ((k : Int) < (n : Int)) = True := eq_true (by omega)
  have p5 : (i < n) = True := eq_true hi
  have p6 : (k < n) = True := eq_true hk
  have f0 := blk_frozen h.blk (i * 3)
  have f1 := blk_frozen h.blk (i * 3 + 1)
  have f2 := blk_frozen h.blk (i * 3 + 2)
  clear h hx hy hi hk hn
  go_enter Try.func163, Try.ntmps163
  refine start_ (n := 16) (S := fun w' => w'.cell? ⟨g, i * 3, none⟩ = some (.int .i64 x.1) ∧ w'.cell? ⟨g, i * 3 + 1, none⟩ = some (.int .i64 x.2.1) ∧ w'.cell? ⟨g, i * 3 + 2, none⟩ = some (.int .i64 x.2.2) ∧ w'.cell? ⟨g, k * 3, none⟩ = some (.int .i64 y.1) ∧ w'.cell? ⟨g, k * 3 + 1, none⟩ = some (.int .i64 y.2.1) ∧ w'.cell? ⟨g, k * 3 + 2, none⟩ = some (.int .i64 y.2.2)) (ds := [13, 15]) #[false, false, false, false, false, false, false, false, false, false, false, false, false, false, false, false] (by kernel_rfl) rfl rfl ⟨a0, a1, a2, b0, b1, b2⟩ (fun hHeld => ?_)
  refine pure_ (i := 0) (N := some 6) (v := ?_) (a' := ?_) #[true, false, false, false, false, false, false, false, false, false, false, false, false, false, false, false] rfl rfl (by kernel_rfl) (fun _ _ _ h => h) (Or.inl ⟨by rfl, ?_⟩) ?_ ?_
  rotate_left
  · intro w'
    go_simp
    with_reducible rfl
  rotate_left
  · simp only [Act.put, List.setIfInBounds_toArray, List.set_cons_zero, List.set_cons_succ, i64_w, i32_w]
    rfl
  refine pure_ (i := 1) (N := some 7) (v := ?_) (a' := ?_) #[true, true, false, false, false, false, false, false, false, false, false, false, false, false, false, false] rfl rfl (by kernel_rfl) (fun _ _ _ h => h) (Or.inl ⟨by rfl, ?_⟩) ?_ ?_
  rotate_left
  · intro w'
    go_simp
    with_reducible rfl
  rotate_left
  · simp only [Act.put, List.setIfInBounds_toArray, List.set_cons_zero, List.set_cons_succ, i64_w, i32_w]
    rfl
  refine pure_ (i := 2) (N := some 8) (v := ?_) (a' := ?_) #[true, true, true, false, false, false, false, false, false, false, false, false, false, false, false, false] rfl rfl (by kernel_rfl) (fun _ _ _ h => h) (Or.inl ⟨by rfl, ?_⟩) ?_ ?_
  rotate_left
  · intro w'
    go_simp
    with_reducible rfl
  rotate_left
  · simp only [Act.put, List.setIfInBounds_toArray, List.set_cons_zero, List.set_cons_succ, i64_w, i32_w]
    rfl
  refine pure_ (i := 3) (N := some 9) (v := ?_) (a' := ?_) #[true, true, true, true, false, false, false, false, false, false, false, false, false, false, false, false] rfl rfl (by kernel_rfl) (fun _ _ _ h => h) (Or.inl ⟨by rfl, ?_⟩) ?_ ?_
  rotate_left
  · intro w'
    go_simp
    with_reducible rfl
  rotate_left
  · simp only [Act.put, List.setIfInBounds_toArray, List.set_cons_zero, List.set_cons_succ, i64_w, i32_w]
    rfl
  refine pure_ (i := 4) (N := some 10) (v := ?_) (a' := ?_) #[true, true, true, true, true, false, false, false, false, false, false, false, false, false, false, false] rfl rfl (by kernel_rfl) (fun _ _ _ h => h) (Or.inl ⟨by rfl, ?_⟩) ?_ ?_
  rotate_left
  · intro w'
    go_simp
    with_reducible rfl
  rotate_left
  · simp only [Act.put, List.setIfInBounds_toArray, List.set_cons_zero, List.set_cons_succ, i64_w, i32_w]
    rfl
  refine pure_ (i := 5) (N := some 11) (v := ?_) (a' := ?_) #[true, true, true, true, true, true, false, false, false, false, false, false, false, false, false, false] rfl rfl (by kernel_rfl) (fun _ _ _ h => h) (Or.inl ⟨by rfl, ?_⟩) ?_ ?_
  rotate_left
  · intro w'
    go_simp
    with_reducible rfl
  rotate_left
  · simp only [Act.put, List.setIfInBounds_toArray, List.set_cons_zero, List.set_cons_succ, i64_w, i32_w]
    rfl
  refine pure_ (i := 6) (N := some 12) (v := ?_) (a' := ?_) #[true, true, true, true, true, true, true, false, false, false, false, false, false, false, false, false] rfl rfl (by kernel_rfl) (fun _ _ _ h => h) (Or.inl ⟨by rfl, ?_⟩) ?_ ?_
  rotate_left
  · intro w'
    go_simp
    with_reducible rfl
  rotate_left
  · simp only [Act.put, List.setIfInBounds_toArray, List.set_cons_zero, List.set_cons_succ, i64_w, i32_w]
    rfl
  refine pure_ (i := 8) (N := some 14) (v := ?_) (a' := ?_) #[true, true, true, true, true, true, true, false, true, false, false, false, false, false, false, false] rfl rfl (by kernel_rfl) (fun _ _ _ h => h) (Or.inl ⟨by rfl, ?_⟩) ?_ ?_
  rotate_left
  · intro w'
    go_simp
    with_reducible rfl
  rotate_left
  · simp only [Act.put, List.setIfInBounds_toArray, List.set_cons_zero, List.set_cons_succ, i64_w, i32_w]
    rfl
  refine pure_ (i := 9) (N := some 15) (v := ?_) (a' := ?_) #[true, true, true, true, true, true, true, false, true, true, false, false, false, false, false, false] rfl rfl (by kernel_rfl) (fun _ _ _ h => h) (Or.inl ⟨by rfl, ?_⟩) ?_ ?_
  rotate_left
  · intro w'
    go_simp
    with_reducible rfl
  rotate_left
  · simp only [Act.put, List.setIfInBounds_toArray, List.set_cons_zero, List.set_cons_succ, i64_w, i32_w]
    rfl
  refine pure_ (i := 10) (N := some 16) (v := ?_) (a' := ?_) #[true, true, true, true, true, true, true, false, true, true, true, false, false, false, false, false] rfl rfl (by kernel_rfl) (fun _ _ _ h => h) (Or.inl ⟨by rfl, ?_⟩) ?_ ?_
  rotate_left
  · intro w'
    go_simp
    with_reducible rfl
  rotate_left
  · simp only [Act.put, List.setIfInBounds_toArray, List.set_cons_zero, List.set_cons_succ, i64_w, i32_w]
    rfl
  refine take_ (i := 7) (N := some 13) (v := ?_) (a' := ?_) #[true, true, true, true, true, true, true, true, true, true, true, false, false, false, false, false] rfl rfl (by kernel_rfl) (fun _ _ _ h => h) (Or.inl ⟨by rfl, ?_⟩) hHeld ?_ ?_
  rotate_left
  · rintro w' ⟨s0, s1, s2, s3, s4, s5⟩
    go_simp
    with_reducible rfl
  rotate_left
  · simp only [Act.put, List.setIfInBounds_toArray, List.set_cons_zero, List.set_cons_succ, i64_w, i32_w]
    rfl
  refine take_ (i := 11) (N := some 17) (v := ?_) (a' := ?_) #[true, true, true, true, true, true, true, true, true, true, true, true, false, false, false, false] rfl rfl (by kernel_rfl) (fun _ _ _ h => h) (Or.inl ⟨by rfl, ?_⟩) hHeld ?_ ?_
  rotate_left
  · rintro w' ⟨s0, s1, s2, s3, s4, s5⟩
    go_simp
    with_reducible rfl
  rotate_left
  · simp only [Act.put, List.setIfInBounds_toArray, List.set_cons_zero, List.set_cons_succ, i64_w, i32_w]
    rfl
  refine pure_ (i := 12) (N := some 18) (v := ?_) (a' := ?_) #[true, true, true, true, true, true, true, true, true, true, true, true, true, false, false, false] rfl rfl (by kernel_rfl) (fun _ _ _ h => h) (Or.inl ⟨by rfl, ?_⟩) ?_ ?_
  rotate_left
  · intro w'
    go_simp
    with_reducible rfl
  rotate_left
  · simp only [Act.put, List.setIfInBounds_toArray, List.set_cons_zero, List.set_cons_succ, i64_w, i32_w]
    rfl
  refine last_ (i := 13) (N := none) #[true, true, true, true, true, true, true, true, true, true, true, true, true, true, false, false] rfl rfl (by kernel_rfl) (by decide) (fun K hK => ?_)
  refine skip_ (w1 := ?_) (by rfl) rfl ?_ ?_
  rotate_left
  · go_simp
    rfl
  obtain ⟨W1, hW1⟩ : ∃ W1, W1 = ((w.setCell ⟨g, i * 3, none⟩ (.int .i64 y.1)).setCell ⟨g, i * 3 + 1, none⟩ (.int .i64 y.2.1)).setCell ⟨g, i * 3 + 2, none⟩ (.int .i64 y.2.2) := ⟨_, rfl⟩
  obtain ⟨cur1, F1⟩ := HF.out.1.set3 HF.out.2.2.2.1 (x := y) (a := .int .i64 y.1) (b := .int .i64 y.2.1) (c := .int .i64 y.2.2) rfl
  have o1 : Only (fun b => b = g) w W1 := by rw [hW1]; exact (((Only.refl (fun b => b = g) w).setCell (fun _ => rfl) _).setCell (fun _ => rfl) _).setCell (fun _ => rfl) _
  rw [← hW1] at F1
  rw [← hW1]
  clear hW1
  obtain ⟨z, hz⟩ : ∃ z, (H.set i y)[k]? = some z := ⟨_, List.getElem?_eq_getElem (by rw [List.length_set]; exact HF.out.2.2.2.2)⟩
  obtain ⟨c0, c1, c2⟩ := F1.cells3 hz
  have f3 := blk_frozen F1.blk (k * 3)
  have f4 := blk_frozen F1.blk (k * 3 + 1)
  have f5 := blk_frozen F1.blk (k * 3 + 2)
  replace F1 := Aside0.mk F1
  replace o1 := Aside0.mk o1
  replace hz := Aside0.mk hz
  refine hK.out _ _ ?_
  clear hK K
  refine pure_ (i := 14) (N := some 19) (v := ?_) (a' := ?_) #[true, true, true, true, true, true, true, true, true, true, true, true, true, true, true, false] rfl rfl (by kernel_rfl) (fun _ _ _ h => h) (Or.inl ⟨by rfl, ?_⟩) ?_ ?_
  rotate_left
  · intro w'
    go_simp
    with_reducible rfl
  rotate_left
  · simp only [Act.put, List.setIfInBounds_toArray, List.set_cons_zero, List.set_cons_succ, i64_w, i32_w]
    rfl
  refine last_ (i := 15) (N := none) #[true, true, true, true, true, true, true, true, true, true, true, true, true, true, true, true] rfl rfl (by kernel_rfl) (by decide) (fun K hK => ?_)
  refine skip_ (w1 := ?_) (by rfl) rfl ?_ ?_
  rotate_left
  · go_simp
    rfl
  refine hK.out _ _ ?_
  clear hK K
  refine done_ (by kernel_rfl) ?_
  go_end0
  obtain ⟨cur2, F2⟩ := F1.out.set3 (i := k) (x := x) (a := .int .i64 x.1) (b := .int .i64 x.2.1) (c := .int .i64 x.2.2) (by rw [List.length_set]; exact HF.out.2.2.2.2) rfl
  have o2 := (((o1.out.setCell (p := ⟨g, k * 3, none⟩) (fun _ => rfl) (.int .i64 x.1)).setCell (p := ⟨g, k * 3 + 1, none⟩) (fun _ => rfl) (.int .i64 x.2.1)).setCell (p := ⟨g, k * 3 + 2, none⟩) (fun _ => rfl) (.int .i64 x.2.2))
  exact ⟨rfl, ⟨cur2, ⟨F2.blk, F2.size, F2.le, F2.get⟩⟩, o2.drew⟩

theorem info137 : (Try.prog.info? 137).map (fun i => (i.zero, i.size, i.bytes)) = some (some (.agg #[.int .i64 0, .int .i64 0, .int .i64 0]), 3, 24) := by kernel_rfl
theorem und133 : Try.prog.underlying 133 = some (.slice 137) := by kernel_rfl
theorem assert137 (cs : Array Value) (w : World) : (Instr.typeAssert (.iface 137 (.agg cs)) 20 137 false).run Try.prog w = .ok (.agg cs) w := by kernel_rfl
set_option maxRecDepth 100000 in
set_option maxHeartbeats 4000000 in
theorem push_calls {w : World} {base q mb : Nat} {t : Int} {v : Value} {H : List Tm} {ok : Nat → Prop} (x : Tm) (hq : w.heap[q]? = some (.cells #[v, .map (some mb), .int .i64 t] 135 (0, 0))) (h : kT.R 137 w base ok v H) (hn : ¬ ok q) (hbase : base ≤ w.heap.size) (hl : H.length ≤ 7000000000000) :
    Calls Try.prog 165 #[.pointer (some ⟨q, 0, none⟩), .iface 137 (.agg #[.int .i64 x.1, .int .i64 x.2.1, .int .i64 x.2.2])] w fun e w' => e = .returned (.tuple #[]) ∧
      (∃ v', w'.heap[q]? = some (.cells #[v', .map (some mb), .int .i64 t] 135 (0, 0)) ∧ kT.R 137 w' base (fun k => ok k ∨ w.heap.size ≤ k) v' (H ++ [x])) ∧ Only (fun b => b = q ∨ some b = v.ownBlock) w w' := by
  obtain ⟨A, c, rfl, hc, hC⟩ := Kd.R_reads h
  obtain ⟨n, hn1⟩ : ∃ n, n = H.length := ⟨_, rfl⟩
  rw [← hn1] at hq h ⊢
  have c0 : w.cell? ⟨q, 0, none⟩ = some (.slice A n c) := (blk_cell hq 0).trans rfl
  have f0 := blk_frozen hq 0
  have HH := Aside0.mk (And.intro hq (And.intro h (And.intro hn (And.intro hbase (And.intro hl hn1)))))
  clear hq h hn hbase hl hn1 hc hC
  have hta := assert137
  go_enter Try.func165, Try.ntmps165
  refine start_ (n := 10) (S := fun w' => w'.cell? ⟨q, 0, none⟩ = some (.slice A n c)) (ds := [9]) #[false, false, false, false, false, false, false, false, false, false] (by kernel_rfl) rfl rfl (c0) (fun hHeld => ?_)
  refine pure_ (i := 0) (N := some 4) (v := ?_) (a' := ?_) #[true, false, false, false, false, false, false, false, false, false] rfl rfl (by kernel_rfl) (fun _ _ _ h => h) (Or.inl ⟨by rfl, ?_⟩) ?_ ?_
  rotate_left
  · intro w'
    go_simp
    with_reducible rfl
  rotate_left
  · simp only [Act.put, List.setIfInBounds_toArray, List.set_cons_zero, List.set_cons_succ, i64_w, i32_w]
    rfl
  refine pure_ (i := 1) (N := some 5) (v := ?_) (a' := ?_) #[true, true, false, false, false, false, false, false, false, false] rfl rfl (by kernel_rfl) (fun _ _ _ h => h) (Or.inl ⟨by rfl, ?_⟩) ?_ ?_
  rotate_left
  · intro w'
    go_simp
    with_reducible rfl
  rotate_left
  · simp only [Act.put, List.setIfInBounds_toArray, List.set_cons_zero, List.set_cons_succ, i64_w, i32_w]
    rfl
  refine pure_ (i := 2) (N := some 6) (v := ?_) (a' := ?_) #[true, true, true, false, false, false, false, false, false, false] rfl rfl (by kernel_rfl) (fun _ _ _ h => h) (Or.inl ⟨by rfl, ?_⟩) ?_ ?_
  rotate_left
  · intro w'
    go_simp
    with_reducible rfl
  rotate_left
  · simp only [Act.put, List.setIfInBounds_toArray, List.set_cons_zero, List.set_cons_succ, i64_w, i32_w]
    rfl
  refine pure_ (i := 4) (N := some 8) (v := ?_) (a' := ?_) #[true, true, true, false, true, false, false, false, false, false] rfl rfl (by kernel_rfl) (fun _ _ _ h => h) (Or.inl ⟨by rfl, ?_⟩) ?_ ?_
  rotate_left
  · intro w'
    go_simp
    with_reducible rfl
  rotate_left
  · simp only [Act.put, List.setIfInBounds_toArray, List.set_cons_zero, List.set_cons_succ, i64_w, i32_w]
    rfl
  refine pure_ (i := 5) (N := some 9) (v := ?_) (a' := ?_) #[true, true, true, false, true, true, false, false, false, false] rfl rfl (by kernel_rfl) (fun _ _ _ h => h) (Or.inl ⟨by rfl, ?_⟩) ?_ ?_
  rotate_left
  · intro w'
    go_simp
    with_reducible rfl
  rotate_left
  · simp only [Act.put, List.setIfInBounds_toArray, List.set_cons_zero, List.set_cons_succ, i64_w, i32_w]
    rfl
  refine take_ (i := 3) (N := some 7) (v := ?_) (a' := ?_) #[true, true, true, true, true, true, false, false, false, false] rfl rfl (by kernel_rfl) (fun _ _ _ h => h) (Or.inl ⟨by rfl, ?_⟩) hHeld ?_ ?_
  rotate_left
  · intro w' s0
    go_simp
    with_reducible rfl
  rotate_left
  · simp only [Act.put, List.setIfInBounds_toArray, List.set_cons_zero, List.set_cons_succ, i64_w, i32_w]
    rfl
  refine one_ (i := 6) (N := some 10) #[true, true, true, true, true, true, true, false, false, false] rfl rfl (by kernel_rfl) (by decide) (fun K hK => ?_)
  refine value_ (w1 := ?_) (v := ?_) (by rfl) rfl ?_ ?_
  rotate_left 2
  · go_simp
    constructor
    · rfl
    · rfl
  rw [show (w.alloc (Obj.cells #[.int .i64 x.1, .int .i64 x.2.1, .int .i64 x.2.2] 137)).drew = w.drew.alloc (Obj.cells #[.int .i64 x.1, .int .i64 x.2.1, .int .i64 x.2.2] 137) from rfl]
  have c1 : (w.drew.alloc (Obj.cells #[.int .i64 x.1, .int .i64 x.2.1, .int .i64 x.2.2] 137)).cell? ⟨q, 0, none⟩ = some (.slice A n c) := pw_cell_below ((below_drew (Below.refl w.heap.size w)).alloc (Nat.le_refl _) _) c0
  refine hK.out _ _ (c1) (fun hHeld => ?_)
  clear hK K
  refine norm_ (a' := ?_) ?_ ?_
  rotate_left
  · show Act.put _ (some 10) _ = _
    simp only [Act.put, List.setIfInBounds_toArray, List.set_cons_zero, List.set_cons_succ, i64_w, i32_w]
    rfl
  refine one_ (i := 7) (N := some 11) #[true, true, true, true, true, true, true, true, false, false] rfl rfl (by kernel_rfl) (by decide) (fun K hK => ?_)
  obtain ⟨v2, w2, hrun2, hR2', hg2'⟩ := append_one (w := w.drew.alloc (Obj.cells #[.int .i64 x.1, .int .i64 x.2.1, .int .i64 x.2.2] 137)) (g := w.heap.size) 133 (Kd.R_below (Kd.R_drew (Kd.R_mono HH.out.2.1 (fun k hk => (Or.inl hk : ok k ∨ w.heap.size ≤ k)))) ((Below.refl _ _).alloc (Nat.le_refl _) _)) (heap_alloc_new w.drew _) (Nat.le_trans HH.out.2.2.2.1 (by simp)) HH.out.2.2.2.2.1
  have hR2 : kT.R 137 w2 base (fun k => ok k ∨ w.heap.size ≤ k) v2 (H ++ [x]) := Kd.R_mono hR2' (fun k hk => by rcases hk with hk | hk; exact hk; exact .inr (by simp at hk; omega))
  have hg2 : w.drew.grownBy w2 (Value.slice A n c).ownBlock := ⟨hg2'.os, hg2'.tape, hg2'.output, Nat.le_trans (by simp) hg2'.size, fun k hk hne => (hg2'.block k (by simp at hk ⊢; omega) hne).trans (heap_alloc_old w.drew _ hk)⟩
  refine value_ (w1 := w2) (v := v2) (by rfl) rfl (exec_append (s := .tmp 7) (x := .tmp 10) (t := 133) rfl rfl rfl hrun2) ?_
  clear hR2' hg2' hrun2
  have hq2 : w2.heap[q]? = _ := (hg2.block q (blk_lt HH.out.1) (fun e => HH.out.2.2.1 (HH.out.2.1.1 q e.symm))).trans HH.out.1
  have c2 : w2.cell? ⟨q, 0, none⟩ = some (.slice A n c) := (blk_cell hq2 0).trans rfl
  have f2 := blk_frozen hq2 0
  obtain ⟨A2, d2, e2, _⟩ := Kd.R_reads hR2
  obtain ⟨n2, hn2⟩ : ∃ n2 : Nat, n2 = (H ++ [x]).length := ⟨_, rfl⟩
  rw [← hn2] at e2
  subst e2
  replace hn2 := Aside0.mk hn2
  replace hR2 := Aside0.mk hR2
  replace hg2 := Aside0.mk hg2
  replace hq2 := Aside0.mk hq2
  skip
  refine hK.out _ _ (c2) (fun hHeld => ?_)
  clear hK K
  refine norm_ (a' := ?_) ?_ ?_
  rotate_left
  · show Act.put _ (some 11) _ = _
    simp only [Act.put, List.setIfInBounds_toArray, List.set_cons_zero, List.set_cons_succ, i64_w, i32_w]
    rfl
  refine pure_ (i := 8) (N := some 12) (v := ?_) (a' := ?_) #[true, true, true, true, true, true, true, true, true, false] rfl rfl (by kernel_rfl) (fun _ _ _ h => h) (Or.inl ⟨by rfl, ?_⟩) ?_ ?_
  rotate_left
  · intro w'
    go_simp
    with_reducible rfl
  rotate_left
  · simp only [Act.put, List.setIfInBounds_toArray, List.set_cons_zero, List.set_cons_succ, i64_w, i32_w]
    rfl
  refine last_ (i := 9) (N := none) #[true, true, true, true, true, true, true, true, true, true] rfl rfl (by kernel_rfl) (by decide) (fun K hK => ?_)
  refine skip_ (w1 := ?_) (by rfl) rfl ?_ ?_
  rotate_left
  · go_simp
    rfl
  refine hK.out _ _ ?_
  clear hK K
  refine done_ (by kernel_rfl) ?_
  go_end0
  have oA : Only (fun b => b = q ∨ some b = (Value.slice A n c).ownBlock) w w.drew := Only.ofBelow (below_drew (Below.refl _ _))
  have oB := (Only.ofGrown hg2.out).mono (G := fun b => b = q ∨ some b = (Value.slice A n c).ownBlock) (fun k _ e => .inr e)
  have oC := ((oA.trans oB).setCell (p := ⟨q, 0, none⟩) (fun _ => .inl rfl) (.slice A2 n2 d2))
  have hq3 := blk_put hq2.out 0 (.slice A2 n2 d2) rfl
  have o3 : Only (fun b => b = q) w2 (w2.setCell ⟨q, 0, none⟩ (.slice A2 n2 d2)) := (Only.refl (fun b => b = q) w2).setCell (fun _ => rfl) _
  have r3 := R_only hR2.out o3 (fun k hk e => by
    subst e
    rcases hk with hk | hk
    · exact HH.out.2.2.1 hk
    · have := blk_lt HH.out.1; omega)
  exact ⟨rfl, ⟨_, hq3, r3⟩, oC⟩

set_option maxRecDepth 100000 in
set_option maxHeartbeats 4000000 in
theorem pop_calls {w : World} {base q mb g cap : Nat} {t : Int} {H : List Tm} {cur : Array Value} (x : Tm) (hq : w.heap[q]? = some (.cells #[.slice (some ⟨g, 0, none⟩) (H ++ [x]).length cap, .map (some mb), .int .i64 t] 135 (0, 0))) (h : FlatAt encT 3 137 w g cap cur (H ++ [x])) (hl : H.length ≤ 7000000000000) :
    Calls Try.prog 164 #[.pointer (some ⟨q, 0, none⟩)] w fun e w' => e = .returned (.iface 137 (.agg #[.int .i64 x.1, .int .i64 x.2.1, .int .i64 x.2.2])) ∧
      w'.heap[q]? = some (.cells #[.slice (some ⟨g, 0, none⟩) H.length cap, .map (some mb), .int .i64 t] 135 (0, 0)) ∧ Only (fun b => b = q) w w' := by
  obtain ⟨a0, a1, a2⟩ := h.cells3 (i := H.length) (x := x) (by simp)
  have hcap : (H ++ [x]).length ≤ cap := h.le
  have hmax : (H ++ [x]).length = H.length + 1 := by simp
  obtain ⟨n, hn⟩ : ∃ n, n = H.length := ⟨_, rfl⟩
  rw [hmax] at hcap
  rw [hmax] at hq
  rw [← hn] at hq hcap a0 a1 a2 hl ⊢
  have c0 : w.cell? ⟨q, 0, none⟩ = some (.slice (some ⟨g, 0, none⟩) (n + 1) cap) := (blk_cell hq 0).trans rfl
  have f0 := blk_frozen hq 0
  obtain ⟨i0, hi0, _, hsz, _⟩ := info_parts info137
  have hlen : wrap64 (n : Int) = (n : Int) := w64 _ (by omega)
  have hcut := cut_to (P := Try.prog) 133 137 .i64 Try.underlying133 hi0 (some ⟨g, 0, none⟩) (n + 1) cap n (by omega) (by omega) hcap
  have hq0 := Aside0.mk hq
  clear hq h hi0 hsz hn hmax hcap
  go_enter Try.func164, Try.ntmps164
  go_upto_region 3 with fail
  obtain ⟨W1, hW1⟩ : ∃ W1, W1 = w.alloc (Obj.cells #[.int .i64 x.1, .int .i64 x.2.1, .int .i64 x.2.2] 137) := ⟨_, rfl⟩
  have b1 : Below w.heap.size w W1 := by rw [hW1]; exact (Below.refl _ _).alloc (Nat.le_refl _) _
  have x1 : W1.heap[w.heap.size]? = some (.cells #[.int .i64 x.1, .int .i64 x.2.1, .int .i64 x.2.2] 137 (0, 0)) := by rw [hW1]; exact heap_alloc_new w _
  have q1 : W1.heap[q]? = _ := (b1.block _ (blk_lt hq0.out)).trans hq0.out
  have hne : w.heap.size ≠ q := by have := blk_lt hq0.out; omega
  rw [← hW1]
  have d0 : W1.cell? ⟨q, 0, none⟩ = some (.slice (some ⟨g, 0, none⟩) (n + 1) cap) := (blk_cell q1 0).trans rfl
  have e0 := blk_frozen q1 0
  replace b1 := Aside0.mk b1
  replace x1 := Aside0.mk x1
  replace q1 := Aside0.mk q1
  clear hW1 c0 f0
  go_upto_region 4 with fail
  obtain ⟨W2, hW2⟩ : ∃ W2, W2 = W1.setCell ⟨q, 0, none⟩ (.slice (some ⟨g, 0, none⟩) n cap) := ⟨_, rfl⟩
  have q2 : W2.heap[q]? = some (.cells #[.slice (some ⟨g, 0, none⟩) n cap, .map (some mb), .int .i64 t] 135 (0, 0)) := by rw [hW2]; exact blk_put q1.out 0 _ rfl
  have o2 : Only (fun b => b = q) w W2 := by rw [hW2]; exact (Only.ofBelow (F := fun b => b = q) b1.out).setCell (p := ⟨q, 0, none⟩) (fun _ => rfl) _
  have x2 : W2.heap[w.heap.size]? = some (.cells #[.int .i64 x.1, .int .i64 x.2.1, .int .i64 x.2.2] 137 (0, 0)) := by rw [hW2]; exact (Below.heap_setCell _ _ _ _ hne).trans x1.out
  rw [← hW2]
  have y0 : W2.cell? ⟨w.heap.size, 0, none⟩ = some (.int .i64 x.1) := (blk_cell x2 0).trans rfl
  have y1 : W2.cell? ⟨w.heap.size, 1, none⟩ = some (.int .i64 x.2.1) := (blk_cell x2 1).trans rfl
  have y2 : W2.cell? ⟨w.heap.size, 2, none⟩ = some (.int .i64 x.2.2) := (blk_cell x2 2).trans rfl
  replace q2 := Aside0.mk q2
  replace o2 := Aside0.mk o2
  clear hW2 x2 d0 e0
  go_wp2
  go_ret
  exact ⟨rfl, q2.out, o2.out⟩
end Go.Proofs.Ytljckmiphkoipaa

/-
  A heap as a plain list: up, down; push and pop keep it a heap of the same things.
-/
namespace Go.Proofs.Ytljckmiphkoipaa
set_option linter.unusedVariables false
set_option linter.unusedSimpArgs false

def zT : Tm := (0, 0, 0)
def gt (H : List Tm) (i : Nat) : Tm := H.getD i (0, 0, 0)
theorem gt_some {H : List Tm} {i : Nat} (h : i < H.length) : H[i]? = some (gt H i) := by
  unfold gt
  rw [List.getD_eq_getElem?_getD, List.getElem?_eq_getElem h]; rfl
theorem swapL_length (H : List Tm) (i k : Nat) : (swapL H i k).length = H.length := by simp [swapL]
theorem gt_swap {H : List Tm} {i k : Nat} (hi : i < H.length) (hk : k < H.length) (m : Nat) : gt (swapL H i k) m = if m = k then gt H i else if m = i then gt H k else gt H m := by
  unfold gt swapL
  simp only [List.getD_eq_getElem?_getD, List.getElem?_set, List.length_set]
  by_cases h1 : m = k
  · subst h1; simp [hk]
  · rw [if_neg (Ne.symm h1), if_neg h1]
    by_cases h2 : m = i
    · subst h2; simp [hi]
    · rw [if_neg (Ne.symm h2), if_neg h2]
theorem set_perm {H : List Tm} : ∀ {i k : Nat}, i < H.length → k < H.length → (swapL H i k).Perm H := by
  intro i k hi hk
  have hx := gt_some hi
  have hy := gt_some hk
  rw [swapL_eq hx hy]
  rw [List.perm_iff_count]
  intro a
  by_cases hik : i = k
  · subst hik
    rw [List.set_set]
    rw [show H.set i (gt H i) = H from by
      apply List.ext_getElem?
      intro m
      rw [List.getElem?_set]
      by_cases h : i = m
      · subst h; rw [if_pos rfl, if_pos hi, hx]
      · simp [h]]
  · have e1 : H[i] = gt H i := by have := hx; rw [List.getElem?_eq_getElem hi] at this; exact Option.some.inj this
    have e2 : H[k] = gt H k := by have := hy; rw [List.getElem?_eq_getElem hk] at this; exact Option.some.inj this
    have hk' : k < (H.set i (gt H k)).length := by simpa using hk
    rw [List.count_set (h := hk'), List.count_set (h := hi)]
    have e3 : (H.set i (gt H k))[k] = gt H k := by rw [List.getElem_set_ne hik]; exact e2
    rw [e3, e1]
    have c1 : gt H i = a → 0 < H.count a := fun h => List.count_pos_iff.2 (h ▸ e1 ▸ List.getElem_mem _)
    by_cases ha : gt H i = a <;> by_cases hb : gt H k = a <;> simp_all <;> omega

theorem ltT_iff {x y : Tm} : ltT x y = true ↔ (x.1 < y.1 ∨ (x.1 = y.1 ∧ x.2.1 < y.2.1)) := by unfold ltT; simp
theorem ltT_false {x y : Tm} : ltT x y = false ↔ ¬ (x.1 < y.1 ∨ (x.1 = y.1 ∧ x.2.1 < y.2.1)) := by
  rw [← ltT_iff]; simp
theorem ge_trans {x y z : Tm} (h1 : ltT x y = false) (h2 : ltT y z = false) : ltT x z = false := by
  rw [ltT_false] at *; omega
theorem lt_ge {x y : Tm} (h : ltT x y = true) : ltT y x = false := by
  rw [ltT_false]; rw [ltT_iff] at h; omega
theorem ltT_irrefl (x : Tm) : ltT x x = false := by rw [ltT_false]; omega

/-- Of the first n each one is not ahead of its parent. -/
def Heap (H : List Tm) (n : Nat) : Prop := ∀ k, 0 < k → k < n → ltT (gt H k) (gt H ((k - 1) / 2)) = false

theorem Heap.least {H : List Tm} {n : Nat} (h : Heap H n) : ∀ k, k < n → ltT (gt H k) (gt H 0) = false := by
  intro k
  induction k using Nat.strongRecOn with
  | ind k ih =>
    intro hk
    by_cases h0 : k = 0
    · subst h0; exact ltT_irrefl _
    · exact ge_trans (h k (by omega) hk) (ih _ (by omega) (by omega))

/-! ### up -/
def upL : Nat → List Tm → Nat → List Tm
  | 0, H, _ => H
  | f + 1, H, j => if j = 0 then H else if ltT (gt H j) (gt H ((j - 1) / 2)) = true then upL f (swapL H ((j - 1) / 2) j) ((j - 1) / 2) else H
theorem upL_perm : ∀ (f : Nat) (H : List Tm) (j : Nat), j < H.length → (upL f H j).Perm H
  | 0, H, j, h => List.Perm.refl _
  | f + 1, H, j, h => by
    unfold upL
    split
    · exact List.Perm.refl _
    split
    · exact (upL_perm f _ _ (by rw [swapL_length]; omega)).trans (set_perm (by omega) h)
    · exact List.Perm.refl _
theorem upL_length (f : Nat) (H : List Tm) (j : Nat) (h : j < H.length) : (upL f H j).length = H.length := (upL_perm f H j h).length_eq

theorem upL_heap : ∀ (f : Nat) (H : List Tm) (j : Nat), j < f → j < H.length →
    (∀ k, 0 < k → k < H.length → k ≠ j → ltT (gt H k) (gt H ((k - 1) / 2)) = false) →
    (∀ k, 0 < k → k < H.length → (k - 1) / 2 = j → 0 < j → ltT (gt H k) (gt H ((j - 1) / 2)) = false) → Heap (upL f H j) H.length
  | 0, H, j, hf, _, _, _ => by omega
  | f + 1, H, j, hf, hj, h1, h2 => by
    unfold upL
    by_cases h0 : j = 0
    · rw [if_pos h0]
      intro k hk hkn
      exact h1 k hk hkn (by omega)
    rw [if_neg h0]
    obtain ⟨i, hi⟩ : ∃ i, i = (j - 1) / 2 := ⟨_, rfl⟩
    rw [← hi]
    by_cases hl : ltT (gt H j) (gt H i) = true
    · rw [if_pos hl]
      have hi' : i < H.length := by omega
      have hij : i ≠ j := by omega
      have hlen := swapL_length H i j
      rw [← hlen]
      refine upL_heap f (swapL H i j) i (by omega) (by rw [hlen]; exact hi') ?_ ?_
      · intro k hk hkn hki
        rw [hlen] at hkn
        rw [gt_swap hi' hj, gt_swap hi' hj]
        by_cases e1 : k = j
        · subst e1
          rw [if_pos rfl, if_neg (by omega), if_pos hi.symm]
          exact lt_ge hl
        · rw [if_neg e1, if_neg hki]
          by_cases e2 : (k - 1) / 2 = j
          · rw [if_pos e2]
            have := h2 k hk hkn e2 (by omega)
            rw [← hi] at this; exact this
          · rw [if_neg e2]
            by_cases e3 : (k - 1) / 2 = i
            · rw [if_pos e3]
              have h3 := h1 k hk hkn e1
              rw [e3] at h3
              exact ge_trans h3 (lt_ge hl)
            · rw [if_neg e3]; exact h1 k hk hkn e1
      · intro k hk hkn hki hi0
        rw [hlen] at hkn
        rw [gt_swap hi' hj, gt_swap hi' hj, if_neg (show (i - 1) / 2 ≠ j by omega), if_neg (show (i - 1) / 2 ≠ i by omega)]
        have h4 := h1 i hi0 hi' hij
        by_cases e1 : k = j
        · rw [if_pos e1]; exact h4
        · rw [if_neg e1, if_neg (by omega)]
          have h3 := h1 k hk hkn e1
          rw [hki] at h3
          exact ge_trans h3 h4
    · rw [if_neg hl]
      have hl' : ltT (gt H j) (gt H i) = false := by simpa using hl
      intro k hk hkn
      by_cases e1 : k = j
      · subst e1; rw [← hi]; exact hl'
      · exact h1 k hk hkn e1
theorem upL_fuel : ∀ (j : Nat) (f : Nat) (H : List Tm), j < f → upL f H j = upL (j + 1) H j := by
  intro j
  induction j using Nat.strongRecOn with
  | ind j ih =>
    intro f H hf
    obtain ⟨f, rfl⟩ : ∃ f', f = f' + 1 := ⟨f - 1, by omega⟩
    unfold upL
    by_cases h0 : j = 0
    · rw [if_pos h0, if_pos h0]
    rw [if_neg h0, if_neg h0]
    split
    · rw [ih _ (by omega) f _ (by omega), ih _ (by omega) j _ (by omega)]
    · rfl
theorem push_heap {H : List Tm} (h : Heap H H.length) (x : Tm) : Heap (upL (H.length + 1) (H ++ [x]) H.length) (H.length + 1) := by
  have hg : ∀ k, k < H.length → gt (H ++ [x]) k = gt H k := by
    intro k hk
    unfold gt
    rw [List.getD_eq_getElem?_getD, List.getElem?_append_left hk, List.getD_eq_getElem?_getD]
  have := upL_heap (H.length + 1) (H ++ [x]) H.length (by omega) (by simp) (fun k hk hkn hne => by
    have hk2 : k < H.length := by simp at hkn; omega
    rw [hg k hk2, hg _ (by omega)]
    exact h k hk hk2) (fun k hk hkn he h0 => by simp at hkn; omega)
  simpa using this

/-! ### down -/
def kid (H : List Tm) (i n : Nat) : Nat := if 2 * i + 2 < n ∧ ltT (gt H (2 * i + 2)) (gt H (2 * i + 1)) = true then 2 * i + 2 else 2 * i + 1
def downL : Nat → List Tm → Nat → Nat → List Tm
  | 0, H, _, _ => H
  | f + 1, H, i, n => if n ≤ 2 * i + 1 then H else if ltT (gt H (kid H i n)) (gt H i) = true then downL f (swapL H i (kid H i n)) (kid H i n) n else H
theorem kid_lt {H : List Tm} {i n : Nat} (h : ¬ n ≤ 2 * i + 1) : kid H i n < n ∧ i < kid H i n ∧ (kid H i n - 1) / 2 = i := by
  unfold kid
  split <;> omega
theorem downL_perm : ∀ (f : Nat) (H : List Tm) (i n : Nat), n ≤ H.length → (downL f H i n).Perm H
  | 0, H, i, n, h => List.Perm.refl _
  | f + 1, H, i, n, h => by
    unfold downL
    split
    · exact List.Perm.refl _
    rename_i hn
    have hk := kid_lt (H := H) hn
    split
    · exact (downL_perm f _ _ n (by rw [swapL_length]; exact h)).trans (set_perm (by omega) (by omega))
    · exact List.Perm.refl _
/-- What lies at n and behind stays. -/
theorem downL_tail : ∀ (f : Nat) (H : List Tm) (i n : Nat), n ≤ H.length → ∀ m, n ≤ m → gt (downL f H i n) m = gt H m
  | 0, H, i, n, h, m, hm => rfl
  | f + 1, H, i, n, h, m, hm => by
    unfold downL
    split
    · rfl
    rename_i hn
    have hk := kid_lt (H := H) hn
    split
    · rw [downL_tail f _ _ n (by rw [swapL_length]; exact h) m hm, gt_swap (by omega) (by omega), if_neg (by omega), if_neg (by omega)]
    · rfl
theorem downL_heap : ∀ (f : Nat) (H : List Tm) (i n : Nat), n ≤ H.length → n < i + f →
    (∀ k, 0 < k → k < n → (k - 1) / 2 ≠ i → ltT (gt H k) (gt H ((k - 1) / 2)) = false) →
    (∀ k, 0 < k → k < n → (k - 1) / 2 = i → 0 < i → ltT (gt H k) (gt H ((i - 1) / 2)) = false) → Heap (downL f H i n) n
  | 0, H, i, n, hn, hf, h1, h2 => by
    intro k hk hkn
    exact h1 k hk hkn (by omega)
  | f + 1, H, i, n, hn, hf, h1, h2 => by
    unfold downL
    by_cases h0 : n ≤ 2 * i + 1
    · rw [if_pos h0]
      intro k hk hkn
      exact h1 k hk hkn (by omega)
    rw [if_neg h0]
    obtain ⟨k1, k2, k3⟩ := kid_lt (H := H) h0
    have hmin : ∀ k, 0 < k → k < n → (k - 1) / 2 = i → ltT (gt H k) (gt H (kid H i n)) = false := by
      intro k hk hkn he
      have hc : k = 2 * i + 1 ∨ k = 2 * i + 2 := by omega
      unfold kid
      split
      · rename_i hh
        rcases hc with rfl | rfl
        · exact lt_ge hh.2
        · exact ltT_irrefl _
      · rename_i hh
        rcases hc with rfl | rfl
        · exact ltT_irrefl _
        · have : ¬ ltT (gt H (2 * i + 2)) (gt H (2 * i + 1)) = true := fun h => hh ⟨hkn, h⟩
          simpa using this
    obtain ⟨j, hj⟩ : ∃ j, j = kid H i n := ⟨_, rfl⟩
    rw [← hj] at k1 k2 k3 hmin ⊢
    have hi' : i < H.length := by omega
    have hj' : j < H.length := by omega
    by_cases hl : ltT (gt H j) (gt H i) = true
    · rw [if_pos hl]
      refine downL_heap f (swapL H i j) j n (by rw [swapL_length]; exact hn) (by omega) ?_ ?_
      · intro k hk hkn hkj
        rw [gt_swap hi' hj', gt_swap hi' hj', if_neg hkj]
        by_cases e1 : k = j
        · subst e1
          rw [if_pos rfl, if_pos k3]
          exact lt_ge hl
        · rw [if_neg e1]
          by_cases e2 : (k - 1) / 2 = i
          · rw [if_pos e2, if_neg (by omega)]
            exact hmin k hk hkn e2
          · rw [if_neg e2]
            by_cases e3 : k = i
            · subst e3
              rw [if_pos rfl]
              have := h2 j (by omega) k1 k3 hk
              exact this
            · rw [if_neg e3]; exact h1 k hk hkn e2
      · intro k hk hkn hkj hj0
        rw [gt_swap hi' hj', gt_swap hi' hj', k3, if_neg (show i ≠ j by omega), if_pos rfl, if_neg (show k ≠ j by omega), if_neg (show k ≠ i by omega)]
        have := h1 k hk hkn (by omega)
        rw [hkj] at this; exact this
    · rw [if_neg hl]
      have hl' : ltT (gt H j) (gt H i) = false := by simpa using hl
      intro k hk hkn
      by_cases e1 : (k - 1) / 2 = i
      · rw [e1]; exact ge_trans (hmin k hk hkn e1) hl'
      · exact h1 k hk hkn e1
theorem downL_fuel : ∀ (m f i n : Nat) (H : List Tm), n - i ≤ m → n - i ≤ f → downL f H i n = downL (n - i) H i n
  | 0, f, i, n, H, h1, h2 => by
    rw [show n - i = 0 by omega]
    cases f with
    | zero => rfl
    | succ f => unfold downL; rw [if_pos (by omega)]
  | m + 1, f, i, n, H, h1, h2 => by
    by_cases h0 : n ≤ 2 * i + 1
    · cases f with
      | zero => rw [show n - i = 0 by omega]
      | succ f =>
        cases hd : n - i with
        | zero => unfold downL; rw [if_pos h0]
        | succ d => unfold downL; rw [if_pos h0, if_pos h0]
    · obtain ⟨f, rfl⟩ : ∃ f', f = f' + 1 := ⟨f - 1, by omega⟩
      obtain ⟨d, hd⟩ : ∃ d, n - i = d + 1 := ⟨n - i - 1, by omega⟩
      obtain ⟨k1, k2, k3⟩ := kid_lt (H := H) h0
      rw [hd]
      unfold downL
      rw [if_neg h0, if_neg h0]
      split
      · rw [downL_fuel m f _ n _ (by omega) (by omega), downL_fuel m d _ n _ (by omega) (by omega)]
      · rfl
/-- The first one goes, the last one in its place. -/
def popL (H : List Tm) : List Tm := downL H.length (swapL H 0 (H.length - 1)) 0 (H.length - 1)
theorem popL_spec {H : List Tm} (h : Heap H H.length) (hne : H ≠ []) : (popL H).length = H.length ∧ gt (popL H) (H.length - 1) = gt H 0 ∧ (popL H).Perm H ∧ Heap (popL H) (H.length - 1) := by
  have hpos : 0 < H.length := List.length_pos_iff.2 hne
  have hl := swapL_length H 0 (H.length - 1)
  have hp : (popL H).Perm H := (downL_perm _ _ 0 (H.length - 1) (by rw [hl]; omega)).trans (set_perm hpos (by omega))
  refine ⟨hp.length_eq, ?_, hp, ?_⟩
  · unfold popL
    rw [downL_tail _ _ 0 (H.length - 1) (by rw [hl]; omega) _ (Nat.le_refl _), gt_swap hpos (by omega), if_pos rfl]
  · refine downL_heap _ _ 0 (H.length - 1) (by rw [hl]; omega) (by omega) ?_ ?_
    · intro k hk hkn hk0
      rw [gt_swap hpos (by omega), gt_swap hpos (by omega), if_neg (by omega), if_neg (by omega), if_neg (by omega), if_neg hk0]
      exact h k hk (by omega)
    · intro k hk hkn hk0 h0; omega
end Go.Proofs.Ytljckmiphkoipaa

/-
  container/heap over the row of a queue by time: up, down, Push, Pop.
-/
namespace Go.Proofs.Ytljckmiphkoipaa
set_option linter.unusedVariables false
set_option linter.unusedSimpArgs false
open Go.RowKit Go.MapKept Go.Maps Go.Proofs.YtljckmiphkoipaaW.PrintWords Go.Proofs.YtljckmiphkoipaaW.PrintLast Go.Proofs.YtljckmiphkoipaaW.PrintMore

theorem half_up {j : Nat} (h : j ≠ 0) : Int.tdiv ((j : Int) - 1) 2 = (((j - 1) / 2 : Nat) : Int) := by
  rw [Int.tdiv_eq_ediv_of_nonneg (by omega)]
  omega

section
variable {w : World} {q mb g cap : Nat} {t : Int} {H : List Tm} {cur : Array Value}
set_option maxRecDepth 100000 in
set_option maxHeartbeats 8000000 in
theorem up_calls {j : Nat} (hq : w.heap[q]? = some (.cells #[.slice (some ⟨g, 0, none⟩) H.length cap, .map (some mb), .int .i64 t] 135 (0, 0))) (hF : FlatAt encT 3 137 w g cap cur H) (hqg : q ≠ g) (hj : j < H.length) (hl : H.length ≤ 7000000000001) :
    Calls Try.prog 105 #[.iface 141 (.pointer (some ⟨q, 0, none⟩)), .int .i64 (j : Int)] w fun e w' => e = .returned (.tuple #[]) ∧ (∃ cur', FlatAt encT 3 137 w' g cap cur' (upL (j + 1) H j)) ∧ Only (fun b => b = g) w w' := by
  obtain ⟨n, hn⟩ : ∃ n, n = H.length := ⟨_, rfl⟩
  have HH := Aside0.mk (And.intro hq (And.intro hF (And.intro hqg (And.intro hj (And.intro hl hn)))))
  replace hn := Aside0.mk hn
  clear hq hF hqg hj hl
  go_enter Try.func105, Try.ntmps105
  go_wp2
  go_loopg [1] (j + 1) (fun kq v1 w' => ∃ (k : Nat) (H' : List Tm) (cur' : Array Value), v1 = .int .i64 (k : Int) ∧ Aside0 (k < kq ∧ k < n ∧ H'.length = n ∧ upL (k + 1) H' k = upL (j + 1) H j) ∧ Aside0 (FlatAt encT 3 137 w' g cap cur' H') ∧ Aside0 (Only (fun b => b = g) w w'))
  case atStart => exact ⟨j, H, cur, rfl, ⟨by omega, by have := HH.out.2.2.2.1; have := hn.out; omega, hn.out.symm, rfl⟩, ⟨HH.out.2.1⟩, ⟨Only.refl _ _⟩⟩
  case round =>
    obtain ⟨k, H', cur', rfl, hk, hF', ho⟩ := hrel
    have hqr : wr.heap[q]? = _ := (ho.out.block _ (blk_lt HH.out.1) HH.out.2.2.1).trans HH.out.1
    rw [← hn.out] at hqr
    have c0 : wr.cell? ⟨q, 0, none⟩ = some (.slice (some ⟨g, 0, none⟩) n cap) := (blk_cell hqr 0).trans rfl
    have m1 := methodLess c0
    by_cases h0 : k = 0
    · have e1 : wrap64 ((k : Int) - 1) = -1 := by rw [h0]; exact w64 _ (by omega)
      have e2 : Int.tdiv (-1) 2 = 0 := by decide
      have e3 : wrap64 0 = 0 := w64 _ (by omega)
      have e4 : ((0 : Int) == (k : Int)) = true := by rw [h0]; rfl
      have hres : upL (j + 1) H j = H' := by rw [← hk.out.2.2.2, h0]; rfl
      replace hqr := Aside0.mk hqr
      replace h0 := Aside0.mk h0
      replace hres := Aside0.mk hres
      go_wp2
      go_end0
      rw [hres.out]
      exact ⟨rfl, ⟨cur', hF'.out⟩, ho.out⟩
    · have e1 : wrap64 ((k : Int) - 1) = (k : Int) - 1 := w64 _ (by have := hk.out; have := HH.out.2.2.2.2.1; have := hn.out; omega)
      have e2 := half_up h0
      obtain ⟨i, hi⟩ : ∃ i, i = (k - 1) / 2 := ⟨_, rfl⟩
      rw [← hi] at e2
      have e3 : wrap64 (i : Int) = (i : Int) := w64 _ (by have := hk.out; have := HH.out.2.2.2.2.1; have := hn.out; omega)
      have e4 : ((i : Int) == (k : Int)) = false := beq_eq_false_iff_ne.2 (by omega)
      have hik : i < H'.length := by have := hk.out; omega
      have hkk : k < H'.length := by have := hk.out; omega
      have hls := less_calls hF'.out (gt_some hkk) (gt_some hik)
      rw [hk.out.2.2.1] at hls
      have hst : upL (k + 1) H' k = if ltT (gt H' k) (gt H' i) = true then upL k (swapL H' i k) i else H' := by
        show (if k = 0 then H' else if ltT (gt H' k) (gt H' ((k - 1) / 2)) = true then upL k (swapL H' ((k - 1) / 2) k) ((k - 1) / 2) else H') = _
        rw [if_neg h0, ← hi]
      have HK := Aside0.mk (And.intro h0 (And.intro hi (And.intro hik hkk)))
      replace hqr := Aside0.mk hqr
      clear h0 hi hik hkk
      cases hb : ltT (gt H' k) (gt H' i) with
      | false =>
        rw [hb] at hls hst
        rw [if_neg (by simp)] at hst
        replace hst := Aside0.mk hst
        replace hb := Aside0.mk hb
        go_wp2_with (go_at_call 162; refine hls.mono ?_; rintro e W1 ⟨rfl, hB1⟩; replace hB1 := Aside0.mk hB1)
        go_end0
        refine ⟨rfl, ⟨cur', ?_⟩, ho.out.trans (Only.ofBelow hB1.out)⟩
        rw [← hk.out.2.2.2, hst.out]
        exact hF'.out.only (Only.ofBelow (F := fun _ => False) hB1.out) (fun h => h)
      | true =>
        rw [hb] at hls hst
        rw [if_pos rfl] at hst
        replace hst := Aside0.mk hst
        replace hb := Aside0.mk hb
        go_upto_region 2 with (go_at_call 162; refine hls.mono ?_; rintro e W1 ⟨rfl, hB1⟩; have hq1 := (hB1.block _ (blk_lt hqr.out)).trans hqr.out; have d0 : W1.cell? ⟨q, 0, none⟩ = some (.slice (some ⟨g, 0, none⟩) n cap) := (blk_cell hq1 0).trans rfl; have hF1 := hF'.out.only (Only.ofBelow (F := fun _ => False) hB1) (fun h => h); replace hq1 := Aside0.mk hq1; replace hB1 := Aside0.mk hB1)
        have m2 := methodSwap d0
        have hsw := swap_calls hF1 HK.out.2.2.1 HK.out.2.2.2
        rw [hk.out.2.2.1] at hsw
        clear m1 c0 hls hF1
        go_wp2_with (go_at_call 163; refine hsw.mono ?_; rintro e W2 ⟨rfl, hF2, hO2⟩; replace hF2 := Aside0.mk hF2; replace hO2 := Aside0.mk hO2)
        go_roundg k
        case measure => have := hk.out; omega
        case rel =>
          obtain ⟨cur2, hF3⟩ := hF2.out
          refine ⟨i, swapL H' i k, cur2, rfl, ⟨by have := HK.out; omega, by have := HK.out; have := hk.out; omega, by rw [swapL_length]; exact hk.out.2.2.1, ?_⟩, ⟨hF3⟩, ⟨(ho.out.trans (Only.ofBelow hB1.out)).trans hO2.out⟩⟩
          rw [← hk.out.2.2.2, hst.out]
          exact (upL_fuel i k _ (by have := HK.out; omega)).symm

set_option maxRecDepth 100000 in
set_option maxHeartbeats 16000000 in
theorem down_calls {i0 n' : Nat} (hq : w.heap[q]? = some (.cells #[.slice (some ⟨g, 0, none⟩) H.length cap, .map (some mb), .int .i64 t] 135 (0, 0))) (hF : FlatAt encT 3 137 w g cap cur H) (hqg : q ≠ g) (hn' : n' ≤ H.length) (hi0 : i0 ≤ H.length) (hl : H.length ≤ 7000000000001) :
    Calls Try.prog 104 #[.iface 141 (.pointer (some ⟨q, 0, none⟩)), .int .i64 (i0 : Int), .int .i64 (n' : Int)] w fun e w' => (∃ b, e = .returned (.bool b)) ∧ (∃ cur', FlatAt encT 3 137 w' g cap cur' (downL (n' - i0) H i0 n')) ∧ Only (fun b => b = g) w w' := by
  obtain ⟨n, hn⟩ : ∃ n, n = H.length := ⟨_, rfl⟩
  have HH := Aside0.mk (And.intro hq (And.intro hF (And.intro hqg (And.intro hn' (And.intro hi0 (And.intro hl hn))))))
  replace hn := Aside0.mk hn
  clear hq hF hqg hn' hi0 hl
  go_enter Try.func104, Try.ntmps104
  go_wp2
  go_loopg [7] (n' - i0 + 1) (fun kq v7 w' => ∃ (i : Nat) (H' : List Tm) (cur' : Array Value), v7 = .int .i64 (i : Int) ∧ Aside0 (n' - i < kq ∧ i ≤ n ∧ H'.length = n ∧ downL (n' - i) H' i n' = downL (n' - i0) H i0 n') ∧ Aside0 (FlatAt encT 3 137 w' g cap cur' H') ∧ Aside0 (Only (fun b => b = g) w w'))
  case atStart => exact ⟨i0, H, cur, rfl, ⟨by omega, by have := HH.out.2.2.2.2.1; have := hn.out; omega, hn.out.symm, rfl⟩, ⟨HH.out.2.1⟩, ⟨Only.refl _ _⟩⟩
  case round =>
    obtain ⟨i, H', cur', rfl, hk, hF', ho⟩ := hrel
    have hqr : wr.heap[q]? = _ := (ho.out.block _ (blk_lt HH.out.1) HH.out.2.2.1).trans HH.out.1
    rw [← hn.out] at hqr
    have c0 : wr.cell? ⟨q, 0, none⟩ = some (.slice (some ⟨g, 0, none⟩) n cap) := (blk_cell hqr 0).trans rfl
    replace hqr := Aside0.mk hqr
    obtain ⟨n2, hn2⟩ : ∃ n2, n2 = n' - i := ⟨_, rfl⟩
    rw [← hn2] at hk
    obtain ⟨d, hd⟩ : ∃ d : Int, d = 2 * (i : Int) := ⟨_, rfl⟩
    obtain ⟨j1, hj1⟩ : ∃ j1 : Nat, j1 = 2 * i + 1 := ⟨_, rfl⟩
    obtain ⟨j2, hj2⟩ : ∃ j2 : Nat, j2 = 2 * i + 2 := ⟨_, rfl⟩
    have hbnd : i ≤ 7000000000001 := by have := hk.out; have := HH.out.2.2.2.2.2.1; have := hn.out; omega
    have e1 : wrap64 (2 * (i : Int)) = d := by rw [hd]; exact w64 _ (by omega)
    have e2 : wrap64 (d + 1) = (j1 : Int) := by rw [hd, hj1]; rw [w64 _ (by omega)]; omega
    have e3 : wrap64 ((j1 : Int) + 1) = (j2 : Int) := by rw [hj1, hj2]; rw [w64 _ (by omega)]; omega
    have e4 : decide ((j1 : Int) < 0) = false := decide_eq_false (by omega)
    by_cases h0 : n' ≤ 2 * i + 1
    · have g1 : decide ((n' : Int) ≤ (j1 : Int)) = true := decide_eq_true (by omega)
      have g2 : decide (n' ≤ j1) = true := decide_eq_true (by omega)
      have hres : downL n2 H' i n' = H' := by
        cases n2 with
        | zero => rfl
        | succ m => unfold downL; rw [if_pos h0]
      replace hres := Aside0.mk hres
      replace hj1 := Aside0.mk hj1
      replace hj2 := Aside0.mk hj2
      replace hd := Aside0.mk hd
      replace hn2 := Aside0.mk hn2
      replace hbnd := Aside0.mk hbnd
      replace h0 := Aside0.mk h0
      go_wp2
      go_ret
      refine ⟨⟨_, rfl⟩, ⟨cur', ?_⟩, ho.out⟩
      rw [← hk.out.2.2.2, hres.out]
      exact hF'.out
    · have g1 : decide ((n' : Int) ≤ (j1 : Int)) = false := decide_eq_false (by omega)
      have g2 : decide (n' ≤ j1) = false := decide_eq_false (by omega)
      have hil : i < H'.length := by have := hk.out.2.2.1; have := HH.out.2.2.2.1; have := hn.out; omega
      have hj1l : j1 < H'.length := by have := hk.out.2.2.1; have := HH.out.2.2.2.1; have := hn.out; omega
      have HK := Aside0.mk (And.intro h0 (And.intro hj1 (And.intro hil (And.intro (And.intro hj2 hn2) (show n2 = (n2 - 1) + 1 by omega)))))
      replace hj1l := Aside0.mk hj1l
      have hk1 : kid H' i n' = if 2 * i + 2 < n' ∧ ltT (gt H' (2 * i + 2)) (gt H' (2 * i + 1)) = true then 2 * i + 2 else 2 * i + 1 := rfl
      rw [← hj1, ← hj2] at hk1
      by_cases h2 : j2 < n'
      · have g3 : decide ((j2 : Int) < (n' : Int)) = true := decide_eq_true (by omega)
        have g4 : decide (j2 < n') = true := decide_eq_true h2
        have hj2l : j2 < H'.length := by have := hk.out.2.2.1; have := HH.out.2.2.2.1; have := hn.out; omega
        have hlt := less_calls hF'.out (gt_some hj2l) (gt_some hj1l.out)
        rw [hk.out.2.2.1] at hlt
        have m1 := methodLess c0
        replace hj2l := Aside0.mk hj2l
        cases hc : ltT (gt H' j2) (gt H' j1) with
        | true =>
          rw [hc] at hlt
          rw [if_pos ⟨h2, hc⟩] at hk1
          have HKID := Aside0.mk hk1
          have HJ := Aside0.mk (show i < j2 ∧ j2 < n' ∧ j2 ≤ n by have := HH.out.2.2.2.1; have := hn.out; omega)
          replace hc := Aside0.mk hc
          replace h2 := Aside0.mk h2
          clear hj1 hj2 hd hn2 hbnd h0 hil hk1
          go_upto_region 8 with (go_at_call 162; refine hlt.mono ?_; rintro e W1 ⟨rfl, hB1⟩; have hq1 := (hB1.block _ (blk_lt hqr.out)).trans hqr.out; have d0 : W1.cell? ⟨q, 0, none⟩ = some (.slice (some ⟨g, 0, none⟩) n cap) := (blk_cell hq1 0).trans rfl; have hF1 := Aside0.mk (hF'.out.only (Only.ofBelow (F := fun _ => False) hB1) (fun h => h)); replace hq1 := Aside0.mk hq1; have ho1 := Aside0.mk (ho.out.trans (Only.ofBelow hB1)); clear hB1)
          clear m1 c0 hlt
          have hls := less_calls (hF1).out (gt_some hj2l.out) (gt_some HK.out.2.2.1)
          rw [hk.out.2.2.1] at hls
          have mA := methodLess (d0)
          cases hb : ltT (gt H' j2) (gt H' i) with
          | false =>
            rw [hb] at hls
            have hres : downL n2 H' i n' = H' := by
              rw [HK.out.2.2.2.2, downL, if_neg HK.out.1, HKID.out, if_neg (by rw [hb]; simp)]
            replace hres := Aside0.mk hres
            replace hb := Aside0.mk hb
            go_wp2_with (go_at_call 162; refine hls.mono ?_; rintro e W3 ⟨rfl, hB3⟩; replace hB3 := Aside0.mk hB3)
            go_ret
            refine ⟨⟨_, rfl⟩, ⟨cur', ?_⟩, (ho1).out.trans (Only.ofBelow hB3.out)⟩
            rw [← hk.out.2.2.2, hres.out]
            exact (hF1).out.only (Only.ofBelow (F := fun _ => False) hB3.out) (fun h => h)
          | true =>
            rw [hb] at hls
            have hres : downL n2 H' i n' = downL (n2 - 1) (swapL H' i j2) j2 n' := by
              rw [HK.out.2.2.2.2, downL, if_neg HK.out.1, HKID.out, if_pos hb]
              rfl
            replace hres := Aside0.mk hres
            replace hb := Aside0.mk hb
            go_upto_region 9 with (go_at_call 162; refine hls.mono ?_; rintro e W3 ⟨rfl, hB3⟩; have hq3 := (hB3.block _ (blk_lt (hq1).out)).trans (hq1).out; have d3 : W3.cell? ⟨q, 0, none⟩ = some (.slice (some ⟨g, 0, none⟩) n cap) := (blk_cell hq3 0).trans rfl; have hF3 := (hF1).out.only (Only.ofBelow (F := fun _ => False) hB3) (fun h => h); replace hq3 := Aside0.mk hq3; replace hB3 := Aside0.mk hB3)
            have m3 := methodSwap d3
            have hsw := swap_calls hF3 HK.out.2.2.1 hj2l.out
            rw [hk.out.2.2.1] at hsw
            clear mA hls hF3
            go_wp2_with (go_at_call 163; refine hsw.mono ?_; rintro e W4 ⟨rfl, hF4, hO4⟩; replace hF4 := Aside0.mk hF4; replace hO4 := Aside0.mk hO4)
            go_roundg (n' - i)
            case measure => have := hk.out; have := HK.out; omega
            case rel =>
              obtain ⟨cur4, hF5⟩ := hF4.out
              refine ⟨j2, swapL H' i j2, cur4, rfl, ⟨by have := HK.out; have := HJ.out; omega, by have := HK.out; have := HJ.out; omega, by rw [swapL_length]; exact hk.out.2.2.1, ?_⟩, ⟨hF5⟩, ⟨((ho1).out.trans (Only.ofBelow hB3.out)).trans hO4.out⟩⟩
              rw [← hk.out.2.2.2, hres.out]
              exact (downL_fuel _ _ _ _ _ (Nat.le_refl _) (by have := HK.out; have := HJ.out; omega)).symm
        | false =>
          rw [hc] at hlt
          rw [if_neg (by rw [hc]; simp)] at hk1
          have HKID := Aside0.mk hk1
          have HJ := Aside0.mk (show i < j1 ∧ j1 < n' ∧ j1 ≤ n by have := HH.out.2.2.2.1; have := hn.out; omega)
          replace hc := Aside0.mk hc
          replace h2 := Aside0.mk h2
          clear hj1 hj2 hd hn2 hbnd h0 hil hk1
          go_upto_region 8 with (go_at_call 162; refine hlt.mono ?_; rintro e W1 ⟨rfl, hB1⟩; have hq1 := (hB1.block _ (blk_lt hqr.out)).trans hqr.out; have d0 : W1.cell? ⟨q, 0, none⟩ = some (.slice (some ⟨g, 0, none⟩) n cap) := (blk_cell hq1 0).trans rfl; have hF1 := Aside0.mk (hF'.out.only (Only.ofBelow (F := fun _ => False) hB1) (fun h => h)); replace hq1 := Aside0.mk hq1; have ho1 := Aside0.mk (ho.out.trans (Only.ofBelow hB1)); clear hB1)
          clear m1 c0 hlt
          have hls := less_calls (hF1).out (gt_some hj1l.out) (gt_some HK.out.2.2.1)
          rw [hk.out.2.2.1] at hls
          have mA := methodLess (d0)
          cases hb : ltT (gt H' j1) (gt H' i) with
          | false =>
            rw [hb] at hls
            have hres : downL n2 H' i n' = H' := by
              rw [HK.out.2.2.2.2, downL, if_neg HK.out.1, HKID.out, if_neg (by rw [hb]; simp)]
            replace hres := Aside0.mk hres
            replace hb := Aside0.mk hb
            go_wp2_with (go_at_call 162; refine hls.mono ?_; rintro e W3 ⟨rfl, hB3⟩; replace hB3 := Aside0.mk hB3)
            go_ret
            refine ⟨⟨_, rfl⟩, ⟨cur', ?_⟩, (ho1).out.trans (Only.ofBelow hB3.out)⟩
            rw [← hk.out.2.2.2, hres.out]
            exact (hF1).out.only (Only.ofBelow (F := fun _ => False) hB3.out) (fun h => h)
          | true =>
            rw [hb] at hls
            have hres : downL n2 H' i n' = downL (n2 - 1) (swapL H' i j1) j1 n' := by
              rw [HK.out.2.2.2.2, downL, if_neg HK.out.1, HKID.out, if_pos hb]
              rfl
            replace hres := Aside0.mk hres
            replace hb := Aside0.mk hb
            go_upto_region 9 with (go_at_call 162; refine hls.mono ?_; rintro e W3 ⟨rfl, hB3⟩; have hq3 := (hB3.block _ (blk_lt (hq1).out)).trans (hq1).out; have d3 : W3.cell? ⟨q, 0, none⟩ = some (.slice (some ⟨g, 0, none⟩) n cap) := (blk_cell hq3 0).trans rfl; have hF3 := (hF1).out.only (Only.ofBelow (F := fun _ => False) hB3) (fun h => h); replace hq3 := Aside0.mk hq3; replace hB3 := Aside0.mk hB3)
            have m3 := methodSwap d3
            have hsw := swap_calls hF3 HK.out.2.2.1 hj1l.out
            rw [hk.out.2.2.1] at hsw
            clear mA hls hF3
            go_wp2_with (go_at_call 163; refine hsw.mono ?_; rintro e W4 ⟨rfl, hF4, hO4⟩; replace hF4 := Aside0.mk hF4; replace hO4 := Aside0.mk hO4)
            go_roundg (n' - i)
            case measure => have := hk.out; have := HK.out; omega
            case rel =>
              obtain ⟨cur4, hF5⟩ := hF4.out
              refine ⟨j1, swapL H' i j1, cur4, rfl, ⟨by have := HK.out; have := HJ.out; omega, by have := HK.out; have := HJ.out; omega, by rw [swapL_length]; exact hk.out.2.2.1, ?_⟩, ⟨hF5⟩, ⟨((ho1).out.trans (Only.ofBelow hB3.out)).trans hO4.out⟩⟩
              rw [← hk.out.2.2.2, hres.out]
              exact (downL_fuel _ _ _ _ _ (Nat.le_refl _) (by have := HK.out; have := HJ.out; omega)).symm
      · have g3 : decide ((j2 : Int) < (n' : Int)) = false := decide_eq_false (by omega)
        have g4 : decide (j2 < n') = false := decide_eq_false h2
        rw [if_neg (fun hh => h2 hh.1)] at hk1
        have HKID := Aside0.mk hk1
        have HJ := Aside0.mk (show i < j1 ∧ j1 < n' ∧ j1 ≤ n by have := HH.out.2.2.2.1; have := hn.out; omega)
        replace h2 := Aside0.mk h2
        clear hj1 hj2 hd hn2 hbnd h0 hil hk1
        go_upto_region 8 with fail
        have hls := less_calls (hF').out (gt_some hj1l.out) (gt_some HK.out.2.2.1)
        rw [hk.out.2.2.1] at hls
        have mA := methodLess (c0)
        cases hb : ltT (gt H' j1) (gt H' i) with
        | false =>
          rw [hb] at hls
          have hres : downL n2 H' i n' = H' := by
            rw [HK.out.2.2.2.2, downL, if_neg HK.out.1, HKID.out, if_neg (by rw [hb]; simp)]
          replace hres := Aside0.mk hres
          replace hb := Aside0.mk hb
          go_wp2_with (go_at_call 162; refine hls.mono ?_; rintro e W3 ⟨rfl, hB3⟩; replace hB3 := Aside0.mk hB3)
          go_ret
          refine ⟨⟨_, rfl⟩, ⟨cur', ?_⟩, (ho).out.trans (Only.ofBelow hB3.out)⟩
          rw [← hk.out.2.2.2, hres.out]
          exact (hF').out.only (Only.ofBelow (F := fun _ => False) hB3.out) (fun h => h)
        | true =>
          rw [hb] at hls
          have hres : downL n2 H' i n' = downL (n2 - 1) (swapL H' i j1) j1 n' := by
            rw [HK.out.2.2.2.2, downL, if_neg HK.out.1, HKID.out, if_pos hb]
            rfl
          replace hres := Aside0.mk hres
          replace hb := Aside0.mk hb
          go_upto_region 9 with (go_at_call 162; refine hls.mono ?_; rintro e W3 ⟨rfl, hB3⟩; have hq3 := (hB3.block _ (blk_lt (hqr).out)).trans (hqr).out; have d3 : W3.cell? ⟨q, 0, none⟩ = some (.slice (some ⟨g, 0, none⟩) n cap) := (blk_cell hq3 0).trans rfl; have hF3 := (hF').out.only (Only.ofBelow (F := fun _ => False) hB3) (fun h => h); replace hq3 := Aside0.mk hq3; replace hB3 := Aside0.mk hB3)
          have m3 := methodSwap d3
          have hsw := swap_calls hF3 HK.out.2.2.1 hj1l.out
          rw [hk.out.2.2.1] at hsw
          clear mA hls hF3
          go_wp2_with (go_at_call 163; refine hsw.mono ?_; rintro e W4 ⟨rfl, hF4, hO4⟩; replace hF4 := Aside0.mk hF4; replace hO4 := Aside0.mk hO4)
          go_roundg (n' - i)
          case measure => have := hk.out; have := HK.out; omega
          case rel =>
            obtain ⟨cur4, hF5⟩ := hF4.out
            refine ⟨j1, swapL H' i j1, cur4, rfl, ⟨by have := HK.out; have := HJ.out; omega, by have := HK.out; have := HJ.out; omega, by rw [swapL_length]; exact hk.out.2.2.1, ?_⟩, ⟨hF5⟩, ⟨((ho).out.trans (Only.ofBelow hB3.out)).trans hO4.out⟩⟩
            rw [← hk.out.2.2.2, hres.out]
            exact (downL_fuel _ _ _ _ _ (Nat.le_refl _) (by have := HK.out; have := HJ.out; omega)).symm
end
end Go.Proofs.Ytljckmiphkoipaa

/-
  container/heap's Push and Pop over the row of a queue by time.
-/
namespace Go.Proofs.Ytljckmiphkoipaa
set_option linter.unusedVariables false
set_option linter.unusedSimpArgs false
open Go.RowKit Go.MapKept Go.Maps Go.Proofs.YtljckmiphkoipaaW.PrintWords Go.Proofs.YtljckmiphkoipaaW.PrintLast Go.Proofs.YtljckmiphkoipaaW.PrintMore

section
variable {w : World} {base q mb : Nat} {t : Int} {v : Value} {H : List Tm} {ok : Nat → Prop}
set_option maxRecDepth 100000 in
set_option maxHeartbeats 8000000 in
theorem heapPush_calls (x : Tm) (hq : w.heap[q]? = some (.cells #[v, .map (some mb), .int .i64 t] 135 (0, 0))) (h : kT.R 137 w base ok v H) (hn : ¬ ok q) (hbase : base ≤ w.heap.size) (hl : H.length ≤ 7000000000000) :
    Calls Try.prog 90 #[.iface 141 (.pointer (some ⟨q, 0, none⟩)), .iface 137 (.agg #[.int .i64 x.1, .int .i64 x.2.1, .int .i64 x.2.2])] w fun e w' => e = .returned (.tuple #[]) ∧
      (∃ v', w'.heap[q]? = some (.cells #[v', .map (some mb), .int .i64 t] 135 (0, 0)) ∧ kT.R 137 w' base (fun k => ok k ∨ w.heap.size ≤ k) v' (upL (H.length + 1) (H ++ [x]) H.length)) ∧ Only (fun b => b = q ∨ ok b) w w' := by
  have hpu := push_calls x hq h hn hbase hl
  have hqlt := blk_lt hq
  have hov := h.1
  obtain ⟨n, hn1⟩ : ∃ n, n = H.length := ⟨_, rfl⟩
  have HH := Aside0.mk (And.intro hn (And.intro hqlt (And.intro hl (And.intro hn1 hov))))
  have m0 := methodPush q w
  replace hn1 := Aside0.mk hn1
  clear hq h hn hbase hl hqlt hov
  go_enter Try.func90, Try.ntmps90
  go_upto_region 1 with (go_at_call 165; refine hpu.mono ?_; rintro e W1 ⟨rfl, ⟨v1, hq1, hR1⟩, hO1⟩; obtain ⟨g, cap, cur, e1, hbg, hokg, hcap, hF1⟩ := flat_form hR1 (by simp); subst e1)
  have hlen : (H ++ [x]).length = n + 1 := by rw [List.length_append, hn1.out]; rfl
  rw [hlen] at hq1
  have c1 : W1.cell? ⟨q, 0, none⟩ = some (.slice (some ⟨g, 0, none⟩) (n + 1) cap) := (blk_cell hq1 0).trans rfl
  have m1 := methodLen c1
  have hqg : q ≠ g := fun e => by
    rw [← e] at hokg
    rcases hokg with h | h
    · exact HH.out.1 h
    · have := HH.out.2.1; omega
  have hup := up_calls (j := n) (by rw [hlen]; exact hq1) hF1 hqg (by rw [hlen]; omega) (by rw [hlen]; have := HH.out.2.2.1; have := hn1.out; omega)
  have hw1 : wrap64 (n : Int) = (n : Int) := w64 _ (by have := HH.out.2.2.1; have := hn1.out; omega)
  have hrl := rowLen_calls (some ⟨g, 0, none⟩) (n + 1) cap W1
  have H1 := Aside0.mk (And.intro hq1 (And.intro hO1 (And.intro hbg (And.intro hokg (And.intro hcap (And.intro hqg hlen))))))
  clear hpu m0 hq1 hO1 hbg hokg hcap hqg hlen hF1 hR1
  go_wp2_with (first
    | (go_at_call 161; refine hrl.mono ?_; rintro e W9 ⟨rfl, h9⟩; rw [h9]; clear h9)
    | (go_at_call 105; refine hup.mono ?_; rintro e W2 ⟨rfl, ⟨cur2, hF2⟩, hO2⟩; replace hF2 := Aside0.mk hF2; replace hO2 := Aside0.mk hO2))
  go_end0
  obtain ⟨hq1, hO1, hbg, hokg, hcap, hqg, hlen⟩ := H1.out
  have hl2 : (upL (n + 1) (H ++ [x]) n).length = n + 1 := by rw [upL_length _ _ _ (by rw [hlen]; omega), hlen]
  refine ⟨rfl, ⟨_, (hO2.out.block q (blk_lt hq1) hqg).trans hq1, ?_⟩, ?_⟩
  · have hr := hF2.out.row (hk := encT_len) (h1 := encT_one) (base := base) (ok := fun k => ok k ∨ w.heap.size ≤ k) hbg hcap hokg
    rw [hl2] at hr
    rw [← hn1.out]
    exact hr
  · refine (hO1.mono (fun k _ hk => ?_)).then hO2.out (fun k hk e => ?_)
    · rcases hk with hk | hk
      · exact .inl hk
      · exact .inr (HH.out.2.2.2.2 k hk.symm)
    · subst e
      rcases hokg with h | h
      · exact .inr h
      · omega
set_option maxRecDepth 100000 in
set_option maxHeartbeats 8000000 in
theorem heapPop_calls (hq : w.heap[q]? = some (.cells #[v, .map (some mb), .int .i64 t] 135 (0, 0))) (h : kT.R 137 w base ok v H) (hn : ¬ ok q) (hne : H ≠ []) (hp : Heap H H.length) (hl : H.length ≤ 7000000000000) :
    Calls Try.prog 89 #[.iface 141 (.pointer (some ⟨q, 0, none⟩))] w fun e w' => e = .returned (.iface 137 (.agg #[.int .i64 (gt H 0).1, .int .i64 (gt H 0).2.1, .int .i64 (gt H 0).2.2])) ∧
      (∃ v', w'.heap[q]? = some (.cells #[v', .map (some mb), .int .i64 t] 135 (0, 0)) ∧ kT.R 137 w' base ok v' ((popL H).take (H.length - 1))) ∧ Only (fun b => b = q ∨ ok b) w w' := by
  obtain ⟨g, cap, cur, rfl, hbg, hokg, hcap, hF⟩ := flat_form h hne
  have hpos : 0 < H.length := List.length_pos_iff.2 hne
  obtain ⟨n, hn1⟩ : ∃ n, H.length = n + 1 := ⟨H.length - 1, by omega⟩
  have hqg : q ≠ g := fun e => hn (e ▸ hokg)
  obtain ⟨p1, p2, p3, p4⟩ := popL_spec hp hne
  have hsw := swap_calls hF (i := 0) (k := n) hpos (by omega)
  have hpop : popL H = downL (n - 0) (swapL H 0 n) 0 n := by
    unfold popL
    rw [hn1, Nat.add_sub_cancel, downL_fuel n (n + 1) 0 n _ (by omega) (by omega)]
  rw [hn1] at hsw hq p1 p2
  rw [Nat.add_sub_cancel] at p2
  obtain ⟨T, x, hTx, hT⟩ : ∃ T x, popL H = T ++ [x] ∧ T.length = n := by
    have hne2 : popL H ≠ [] := by intro e; rw [e] at p1; simp at p1
    refine ⟨(popL H).dropLast, (popL H).getLast hne2, (List.dropLast_concat_getLast hne2).symm, by rw [List.length_dropLast, p1]; rfl⟩
  have hx : x = gt H 0 := by
    rw [← p2, hTx]
    unfold gt
    rw [List.getD_eq_getElem?_getD, List.getElem?_append_right (by omega), hT]; simp
  have htake : (popL H).take (H.length - 1) = T := by rw [hTx, hn1, Nat.add_sub_cancel, ← hT, List.take_left]
  rw [htake, ← hx]
  have c0 : w.cell? ⟨q, 0, none⟩ = some (.slice (some ⟨g, 0, none⟩) (n + 1) cap) := (blk_cell hq 0).trans rfl
  have m0 := methodLen c0
  have m1 := methodSwap c0
  have hrl := rowLen_calls (some ⟨g, 0, none⟩) (n + 1) cap w
  have hw1 : wrap64 (n : Int) = (n : Int) := w64 _ (by omega)
  have HH := Aside0.mk (And.intro hq (And.intro hbg (And.intro hokg (And.intro hcap (And.intro hqg (And.intro hpop (And.intro hTx (And.intro hT (And.intro hl (And.intro hn1 hn))))))))))
  rw [hn1] at hl
  clear hq h hn hne hp hF hbg hokg hcap hqg hpop hTx hT hpos p1 p2 p3 p4 htake hx hl hn1
  go_enter Try.func89, Try.ntmps89
  go_upto_region 3 with (first
    | (go_at_call 161; refine hrl.mono ?_; rintro e W9 ⟨rfl, h9⟩; rw [h9]; clear h9)
    | (go_at_call 163; refine hsw.mono ?_; rintro e W1 ⟨rfl, ⟨cur1, hF1⟩, hO1⟩; replace hF1 := Aside0.mk hF1; replace hO1 := Aside0.mk hO1))
  have hq1 : W1.heap[q]? = _ := (hO1.out.block q (blk_lt HH.out.1) HH.out.2.2.2.2.1).trans HH.out.1
  have hls : (swapL H 0 n).length = n + 1 := by rw [swapL_length]; exact HH.out.2.2.2.2.2.2.2.2.2.1
  have hdn := down_calls (i0 := 0) (n' := n) (by rw [hls]; exact hq1) hF1.out HH.out.2.2.2.2.1 (by rw [hls]; omega) (by omega) (by rw [hls]; have := HH.out.2.2.2.2.2.2.2.2.1; have := HH.out.2.2.2.2.2.2.2.2.2.1; omega)
  rw [← HH.out.2.2.2.2.2.1, HH.out.2.2.2.2.2.2.1] at hdn
  replace hq1 := Aside0.mk hq1
  replace hls := Aside0.mk hls
  clear m0 m1 c0 hrl hsw
  go_upto_region 4 with (go_at_call 104; refine hdn.mono ?_; rintro e W2 ⟨⟨b, rfl⟩, ⟨cur2, hF2⟩, hO2⟩)
  have hq2 := (hO2.block q (blk_lt hq1.out) HH.out.2.2.2.2.1).trans hq1.out
  have hll : (T ++ [x]).length = n + 1 := by simp [HH.out.2.2.2.2.2.2.2.1]
  have hpo := pop_calls (base := 0) x (by rw [hll]; exact hq2) hF2 (by rw [HH.out.2.2.2.2.2.2.2.1]; have := HH.out.2.2.2.2.2.2.2.2.1; have := HH.out.2.2.2.2.2.2.2.2.2.1; omega)
  rw [HH.out.2.2.2.2.2.2.2.1] at hpo
  have m4 := methodPop q W2
  replace hq2 := Aside0.mk hq2
  replace hF2 := Aside0.mk hF2
  replace hO2 := Aside0.mk hO2
  replace hll := Aside0.mk hll
  clear hdn
  go_wp2_with (go_at_call 164; refine hpo.mono ?_; rintro e W3 ⟨rfl, hq3, hO3⟩; replace hq3 := Aside0.mk hq3; replace hO3 := Aside0.mk hO3)
  go_ret
  refine ⟨rfl, ⟨_, hq3.out, ?_⟩, ?_⟩
  · have hF3 := (hF2.out.only hO3.out (fun e => HH.out.2.2.2.2.1 e.symm)).take n
    rw [← HH.out.2.2.2.2.2.2.2.1, List.take_left] at hF3
    have hr := hF3.row (hk := encT_len) (h1 := encT_one) (base := base) (ok := ok) HH.out.2.1 HH.out.2.2.2.1 HH.out.2.2.1
    rw [HH.out.2.2.2.2.2.2.2.1] at hr
    exact hr
  · have hg : ∀ k, k = g → k = q ∨ ok k := fun k e => .inr (e ▸ HH.out.2.2.1)
    exact ((hO1.out.mono (fun k _ e => hg k e)).trans (hO2.out.mono (fun k _ e => hg k e))).trans (hO3.out.mono (fun k _ e => .inl e))
end
end Go.Proofs.Ytljckmiphkoipaa

/-
  A queue by time as a plain list in order: what its heap and its map hold, and what each step makes of them.
-/
namespace Go.Proofs.Ytljckmiphkoipaa
set_option linter.unusedVariables false
set_option linter.unusedSimpArgs false
open Go.RowKit Go.MapKept Go.Maps

structure TimesOk (H : List Tm) (M : List (Int × Tm)) (T : Int) (l : List Tm) : Prop where
  heap : Heap H H.length
  inH : ∀ p ∈ M, p.2 ∈ H
  item : ∀ p ∈ M, p.2.2.2 = p.1
  turns : ∀ x ∈ H, 0 ≤ x.2.1 ∧ x.2.1 < T
  ats : ∀ x ∈ H, 0 ≤ x.1 ∧ x.1 ≤ 4611686018427387904
  goods : ∀ x ∈ H, goodI x.2.2
  dist : H.Pairwise (fun x y => x.2.1 ≠ y.2.1)
  keys : M.Pairwise (fun p q => p.1 ≠ q.1)
  few : M.length ≤ 65536
  t0 : 0 ≤ T
  size : (H.length : Int) ≤ T
  sorted : l.Pairwise (fun x y => ltT x y = true)
  perm : l.Perm (M.map (·.2))

theorem TimesOk.empty : TimesOk [] [] 0 [] := ⟨fun k h1 h2 => by simp at h2, by simp, by simp, by simp, by simp, by simp, by simp, by simp, by simp, by omega, by simp, by simp, by simp⟩

section
variable {H : List Tm} {M : List (Int × Tm)} {T : Int} {l : List Tm}
theorem gt_mem {H : List Tm} {i : Nat} (h : i < H.length) : gt H i ∈ H := List.mem_of_getElem? (gt_some h)
theorem mem_gt {H : List Tm} {x : Tm} (h : x ∈ H) : ∃ i, i < H.length ∧ gt H i = x := by
  obtain ⟨i, hi⟩ := List.getElem?_of_mem h
  have hl := (List.getElem?_eq_some_iff.1 hi).1
  exact ⟨i, hl, by have := gt_some hl; rw [hi] at this; exact (Option.some.inj this).symm⟩
theorem TimesOk.mem (h : TimesOk H M T l) {x : Tm} : x ∈ l ↔ (x.2.2, x) ∈ M := by
  rw [h.perm.mem_iff, List.mem_map]
  constructor
  · rintro ⟨p, hp, rfl⟩
    have := h.item p hp
    obtain ⟨a, b⟩ := p
    simp only at this ⊢
    rw [this]; exact hp
  · intro hp
    exact ⟨_, hp, rfl⟩
theorem TimesOk.mem_get (h : TimesOk H M T l) {x : Tm} : x ∈ l ↔ aget M x.2.2 = some x := by
  rw [h.mem]
  exact ⟨fun hp => aget_of_mem h.keys hp, fun hg => aget_mem hg⟩
theorem TimesOk.len (h : TimesOk H M T l) : l.length = M.length := by have := h.perm.length_eq; simpa using this
theorem TimesOk.has (h : TimesOk H M T l) {i : Int} : aget M i = none ↔ i ∉ l.map (·.2.2) := by
  rw [aget_none]
  constructor
  · intro hn hm
    obtain ⟨x, hx, rfl⟩ := List.mem_map.1 hm
    exact hn _ (h.mem.1 hx) rfl
  · intro hn p hp e
    refine hn (List.mem_map.2 ⟨p.2, ?_, (h.item p hp).trans e⟩)
    rw [h.perm.mem_iff]
    exact List.mem_map.2 ⟨p, hp, rfl⟩
/-- What the pop of a heap leaves. -/
theorem pop_parts (hp : Heap H H.length) (hne : H ≠ []) : (gt H 0 :: (popL H).take (H.length - 1)).Perm H ∧ Heap ((popL H).take (H.length - 1)) ((popL H).take (H.length - 1)).length ∧ ((popL H).take (H.length - 1)).length = H.length - 1 := by
  obtain ⟨p1, p2, p3, p4⟩ := popL_spec hp hne
  have hpos : 0 < H.length := List.length_pos_iff.2 hne
  have hl : ((popL H).take (H.length - 1)).length = H.length - 1 := by rw [List.length_take, p1]; omega
  have hs : popL H = (popL H).take (H.length - 1) ++ [gt H 0] := by
    have h1 := (List.take_append_drop (H.length - 1) (popL H)).symm
    have h2 : (popL H).drop (H.length - 1) = [gt H 0] := by
      rw [List.drop_eq_getElem_cons (by rw [p1]; omega), show H.length - 1 + 1 = (popL H).length by rw [p1]; omega, List.drop_length]
      have h3 := gt_some (H := popL H) (i := H.length - 1) (by rw [p1]; omega)
      rw [List.getElem?_eq_getElem (by rw [p1]; omega), p2] at h3
      rw [Option.some.inj h3]
    rw [h2] at h1
    exact h1
  refine ⟨?_, ?_, hl⟩
  · refine List.Perm.trans ?_ p3
    exact (List.perm_append_singleton _ _).symm.trans (by rw [← hs])
  · rw [hl]
    intro k hk hkn
    have hg : ∀ m, m < H.length - 1 → gt ((popL H).take (H.length - 1)) m = gt (popL H) m := by
      intro m hm
      unfold gt
      rw [List.getD_eq_getElem?_getD, List.getElem?_take_of_lt hm, List.getD_eq_getElem?_getD]
    rw [hg k hkn, hg _ (by omega)]
    exact p4 k hk hkn
theorem TimesOk.pop (h : TimesOk H M T l) (hne : H ≠ []) {M' : List (Int × Tm)} {l' : List Tm} (hM : ∀ p ∈ M', p ∈ M ∧ p.2 ≠ gt H 0) (hk : M'.Pairwise (fun p q => p.1 ≠ q.1)) (hf : M'.length ≤ 65536) (hs : l'.Pairwise (fun x y => ltT x y = true)) (hp : l'.Perm (M'.map (·.2))) :
    TimesOk ((popL H).take (H.length - 1)) M' T l' := by
  obtain ⟨p1, p2, p3⟩ := pop_parts h.heap hne
  have hsub : ∀ x ∈ (popL H).take (H.length - 1), x ∈ H := fun x hx => p1.mem_iff.1 (List.mem_cons_of_mem _ hx)
  have hd := (p1.pairwise_iff (R := fun x y : Tm => x.2.1 ≠ y.2.1) (fun h => Ne.symm h)).2 h.dist
  refine ⟨p2, fun p hp => ?_, fun p hp => h.item p (hM p hp).1, fun x hx => h.turns x (hsub x hx), fun x hx => h.ats x (hsub x hx), fun x hx => h.goods x (hsub x hx), (List.pairwise_cons.1 hd).2, hk, hf, h.t0, by rw [p3]; have := h.size; omega, hs, hp⟩
  obtain ⟨h1, h2⟩ := hM p hp
  rcases List.mem_cons.1 (p1.mem_iff.2 (h.inH p h1)) with e | e
  · exact absurd e h2
  · exact e
theorem TimesOk.stale (h : TimesOk H M T l) (hne : H ≠ []) (hs : aget M (gt H 0).2.2 ≠ some (gt H 0)) : TimesOk ((popL H).take (H.length - 1)) M T l :=
  h.pop hne (fun p hp => ⟨hp, fun e => hs (by
    rw [← e]
    have := h.item p hp
    rw [this]
    exact aget_of_mem h.keys hp)⟩) h.keys h.few h.sorted h.perm
theorem TimesOk.top (h : TimesOk H M T l) (hne : H ≠ []) (hs : aget M (gt H 0).2.2 = some (gt H 0)) : ∃ l', l = gt H 0 :: l' := by
  have hx : gt H 0 ∈ l := h.mem_get.2 hs
  cases l with
  | nil => cases hx
  | cons y l' =>
    rcases List.mem_cons.1 hx with e | e
    · exact ⟨l', by rw [e]⟩
    · exfalso
      have h1 := (List.pairwise_cons.1 h.sorted).1 _ e
      have h2 := h.mem.1 (List.mem_cons_self (a := y) (l := l'))
      obtain ⟨i, hi, he⟩ := mem_gt (h.inH _ h2)
      have h3 := h.heap.least i hi
      rw [he] at h3
      rw [h1] at h3; cases h3
theorem TimesOk.nil (h : TimesOk [] M T l) : l = [] := by
  cases l with
  | nil => rfl
  | cons y l' =>
    have h2 := h.mem.1 (List.mem_cons_self (a := y) (l := l'))
    have := h.inH _ h2
    cases this
theorem TimesOk.take {x : Tm} {l' : List Tm} (h : TimesOk H M T (x :: l')) (hne : H ≠ []) (hx : gt H 0 = x) : TimesOk ((popL H).take (H.length - 1)) (adel M x.2.2) T l' := by
  have hm : (x.2.2, x) ∈ M := h.mem.1 List.mem_cons_self
  have hx' : x ∉ l' := fun hh => by
    have := (List.pairwise_cons.1 h.sorted).1 _ hh
    rw [ltT_irrefl] at this; cases this
  refine h.pop hne (fun p hp => ?_) (adel_nodup h.keys _) (Nat.le_trans (List.length_filter_le _ _) h.few) (List.pairwise_cons.1 h.sorted).2 ?_
  · obtain ⟨h1, h2⟩ := List.mem_filter.1 hp
    refine ⟨h1, fun e => ?_⟩
    have := h.item p h1
    rw [e, hx] at this
    simp [this] at h2
  · have h3 : M.Perm ((x.2.2, x) :: adel M x.2.2) := perm_adel (p := (x.2.2, x)) h.keys hm
    have h4 := h.perm.trans (h3.map (·.2))
    simp only [List.map_cons] at h4
    exact List.Perm.cons_inv h4
theorem TimesOk.drop (h : TimesOk H M T l) (i : Int) : TimesOk H (adel M i) T (l.filter (fun x => decide (x.2.2 ≠ i))) := by
  refine ⟨h.heap, fun p hp => h.inH p (List.mem_filter.1 hp).1, fun p hp => h.item p (List.mem_filter.1 hp).1, h.turns, h.ats, h.goods, h.dist, adel_nodup h.keys _, Nat.le_trans (List.length_filter_le _ _) h.few, h.t0, h.size, h.sorted.filter _, ?_⟩
  have h1 := h.perm.filter (fun x => decide (x.2.2 ≠ i))
  refine h1.trans ?_
  rw [List.filter_map]
  unfold adel
  refine List.Perm.of_eq (congrArg _ (List.filter_congr (fun p hp => ?_)))
  have := h.item p hp
  simp [this]

/-- One more, behind those of its tick. -/
def insT (l : List Tm) (x : Tm) : List Tm := l.filter (fun y => decide (y.1 ≤ x.1)) ++ x :: l.filter (fun y => !decide (y.1 ≤ x.1))
theorem insT_perm (l : List Tm) (x : Tm) : (insT l x).Perm (x :: l) := by
  unfold insT
  refine List.perm_middle.trans (List.Perm.cons x ?_)
  exact List.filter_append_perm (fun y => decide (y.1 ≤ x.1)) l
theorem TimesOk.put (h : TimesOk H M T l) {a i : Int} (ha : 0 ≤ a ∧ a ≤ 4611686018427387904) (hi : goodI i) (hn : aget M i = none) (hf : M.length < 65536) :
    TimesOk (upL (H.length + 1) (H ++ [(a, T, i)]) H.length) (aput M i (a, T, i)) (T + 1) (insT l (a, T, i)) := by
  have hup := upL_perm (H.length + 1) (H ++ [(a, T, i)]) H.length (by simp)
  have hmem : ∀ x, x ∈ upL (H.length + 1) (H ++ [(a, T, i)]) H.length ↔ x ∈ H ∨ x = (a, T, i) := by
    intro x; rw [hup.mem_iff]; simp
  have hlen := upL_length (H.length + 1) (H ++ [(a, T, i)]) H.length (by simp)
  have hlt : ∀ y ∈ l, 0 ≤ y.2.1 ∧ y.2.1 < T := fun y hy => h.turns y (h.inH _ (h.mem.1 hy))
  rw [aput_new hn]
  refine ⟨?_, ?_, ?_, ?_, ?_, ?_, ?_, ?_, by simp; omega, by have := h.t0; omega, ?_, ?_, ?_⟩
  · rw [hlen]; have := push_heap h.heap (a, T, i); simpa using this
  · intro p hp
    rw [hmem]
    rcases List.mem_append.1 hp with hp | hp
    · exact .inl (h.inH p hp)
    · rw [List.mem_singleton.1 hp]; exact .inr rfl
  · intro p hp
    rcases List.mem_append.1 hp with hp | hp
    · exact h.item p hp
    · rw [List.mem_singleton.1 hp]
  · intro x hx
    rcases (hmem x).1 hx with hx | rfl
    · have := h.turns x hx; omega
    · have := h.t0; simp; omega
  · intro x hx
    rcases (hmem x).1 hx with hx | rfl
    · exact h.ats x hx
    · exact ha
  · intro x hx
    rcases (hmem x).1 hx with hx | rfl
    · exact h.goods x hx
    · exact hi
  · refine (hup.pairwise_iff (R := fun x y : Tm => x.2.1 ≠ y.2.1) (fun h => Ne.symm h)).2 ?_
    rw [List.pairwise_append]
    refine ⟨h.dist, by simp, fun x hx y hy => ?_⟩
    rw [List.mem_singleton.1 hy]
    have := h.turns x hx
    simp; omega
  · rw [List.pairwise_append]
    refine ⟨h.keys, by simp, fun p hp q hq => ?_⟩
    rw [List.mem_singleton.1 hq]
    exact aget_none.1 hn p hp
  · rw [hlen]; simp; exact h.size
  · unfold insT
    rw [List.pairwise_append, List.pairwise_cons]
    refine ⟨h.sorted.filter _, ⟨fun y hy => ?_, h.sorted.filter _⟩, fun x hx y hy => ?_⟩
    · obtain ⟨h1, h2⟩ := List.mem_filter.1 hy
      simp at h2
      rw [ltT_iff]; left; exact h2
    · obtain ⟨h1, h2⟩ := List.mem_filter.1 hx
      have h2' : x.1 ≤ a := by simpa using h2
      have h3 := hlt x h1
      rcases List.mem_cons.1 hy with rfl | hy
      · rw [ltT_iff]
        simp only
        omega
      · obtain ⟨h4, h5⟩ := List.mem_filter.1 hy
        have h5' : a < y.1 := by simpa using h5
        rw [ltT_iff]; left; omega
  · refine (insT_perm l _).trans ?_
    rw [List.map_append, List.map_singleton]
    exact (h.perm.cons _).trans (List.perm_append_singleton _ _).symm
end

/-- Tick and item. -/
def pr (x : Tm) : Int × Int := (x.1, x.2.2)
def putP (lp : List (Int × Int)) (a i : Int) : List (Int × Int) := lp.filter (fun y => decide (y.1 ≤ a)) ++ (a, i) :: lp.filter (fun y => !decide (y.1 ≤ a))
theorem insT_pr (l : List Tm) (x : Tm) : (insT l x).map pr = putP (l.map pr) x.1 x.2.2 := by
  unfold insT putP
  rw [List.map_append, List.map_cons, List.filter_map, List.filter_map]
  rfl
end Go.Proofs.Ytljckmiphkoipaa

/-
  A queue by time: the object; New, Len, Put.
-/
namespace Go.Proofs.Ytljckmiphkoipaa
set_option linter.unusedVariables false
set_option linter.unusedSimpArgs false
open Go.RowKit Go.MapKept Go.Maps Go.Proofs.YtljckmiphkoipaaW.PrintWords Go.Proofs.YtljckmiphkoipaaW.PrintLast Go.Proofs.YtljckmiphkoipaaW.PrintMore

def encV (x : Tm) : Value := .agg #[.int .i64 x.1, .int .i64 x.2.1, .int .i64 x.2.2]
theorem und131 : Try.prog.underlying 131 = some (.map 3 137) := by kernel_rfl
theorem zero137 (w : World) : (zeroValue 137).run Try.prog w = .ok (.agg #[.int .i64 0, .int .i64 0, .int .i64 0]) w := by kernel_rfl
abbrev MT := IsMap (κ := Int) (ν := Tm) (Value.int .i64) encV goodI

structure TimesAt (w : World) (base q mb : Nat) (v : Value) (Q : Nat → Prop) (H : List Tm) (M : List (Int × Tm)) (T : Int) : Prop where
  blk : w.heap[q]? = some (.cells #[v, .map (some mb), .int .i64 T] 135 (0, 0))
  map_ : MT w mb M
  row : kT.R 137 w base (fun k => Q k ∧ k ≠ q ∧ k ≠ mb) v H
  qq : Q q
  qm : Q mb
  ne : q ≠ mb
  base : base ≤ q ∧ base ≤ mb

/-- A queue by time that holds these (tick, item), in order; behind at most n Puts; its blocks are in Q. -/
def IsTimes (w : World) (base q : Nat) (Q : Nat → Prop) (lp : List (Int × Int)) (n : Int) : Prop := ∃ mb v H M T l, TimesAt w base q mb v Q H M T ∧ TimesOk H M T l ∧ T ≤ n ∧ l.map pr = lp

section
variable {w w' : World} {base q mb : Nat} {v : Value} {Q Q' : Nat → Prop} {H : List Tm} {M : List (Int × Tm)} {T n : Int} {lp : List (Int × Int)}
theorem TimesAt.only {F : Nat → Prop} (h : TimesAt w base q mb v Q H M T) (ho : Only F w w') (hF : ∀ k, Q k → ¬ F k) : TimesAt w' base q mb v Q H M T :=
  ⟨(ho.block _ (blk_lt h.blk) (hF _ h.qq)).trans h.blk, h.map_.only ho (hF _ h.qm), R_only h.row ho (fun k hk => hF _ hk.1), h.qq, h.qm, h.ne, h.base⟩
theorem TimesAt.mono (h : TimesAt w base q mb v Q H M T) (hq : ∀ k, Q k → Q' k) : TimesAt w base q mb v Q' H M T :=
  ⟨h.blk, h.map_, Kd.R_mono h.row (fun k hk => ⟨hq k hk.1, hk.2⟩), hq _ h.qq, hq _ h.qm, h.ne, h.base⟩
theorem TimesAt.tight (h : TimesAt w base q mb v Q H M T) : TimesAt w base q mb v (fun k => Q k ∧ base ≤ k ∧ k < w.heap.size) H M T :=
  ⟨h.blk, h.map_, Kd.R_mono (Kd.R_bound h.row) (fun k hk => ⟨⟨hk.1.1, hk.2.1, hk.2.2.1⟩, hk.1.2⟩), ⟨h.qq, h.base.1, blk_lt h.blk⟩, ⟨h.qm, h.base.2, h.map_.lt⟩, h.ne, h.base⟩
theorem IsTimes.only {F : Nat → Prop} (h : IsTimes w base q Q lp n) (ho : Only F w w') (hF : ∀ k, Q k → ¬ F k) : IsTimes w' base q Q lp n := by
  obtain ⟨mb, v, H, M, T, l, h1, h2⟩ := h
  exact ⟨mb, v, H, M, T, l, h1.only ho hF, h2⟩
theorem IsTimes.below (h : IsTimes w base q Q lp n) (hb : Below w.heap.size w w') : IsTimes w' base q Q lp n := h.only (Only.ofBelow (F := fun _ => False) hb) (fun _ _ h => h)
theorem IsTimes.mono (h : IsTimes w base q Q lp n) (hq : ∀ k, Q k → Q' k) : IsTimes w base q Q' lp n := by
  obtain ⟨mb, v, H, M, T, l, h1, h2⟩ := h
  exact ⟨mb, v, H, M, T, l, h1.mono hq, h2⟩
theorem IsTimes.tight (h : IsTimes w base q Q lp n) : IsTimes w base q (fun k => Q k ∧ base ≤ k ∧ k < w.heap.size) lp n := by
  obtain ⟨mb, v, H, M, T, l, h1, h2⟩ := h
  exact ⟨mb, v, H, M, T, l, h1.tight, h2⟩
theorem IsTimes.more {m : Int} (h : IsTimes w base q Q lp n) (hm : n ≤ m) : IsTimes w base q Q lp m := by
  obtain ⟨mb, v, H, M, T, l, h1, h2, h3, h4⟩ := h
  exact ⟨mb, v, H, M, T, l, h1, h2, by omega, h4⟩
theorem IsTimes.lt (h : IsTimes w base q Q lp n) : q < w.heap.size := by obtain ⟨mb, v, H, M, T, l, h1, h2⟩ := h; exact blk_lt h1.blk
theorem IsTimes.few (h : IsTimes w base q Q lp n) : lp.length ≤ 65536 := by
  obtain ⟨mb, v, H, M, T, l, h1, h2, h3, rfl⟩ := h
  rw [List.length_map, h2.len]; exact h2.few
end

theorem newTimes_calls (w : World) : Calls Try.prog 59 #[] w fun e w' => ∃ q, e = .returned (.pointer (some ⟨q, 0, none⟩)) ∧ IsTimes w' w.heap.size q (fun k => w.heap.size ≤ k) [] 0 ∧ Below w.heap.size w w' := by
  have hmm := @run_makeMap Try.prog
  go_enter Try.func59, Try.ntmps59
  go_wp2
  go_ret
  have b1 : Below (w.alloc (Obj.map #[] 0)).heap.size (w.alloc (Obj.map #[] 0)) ((w.alloc (Obj.map #[] 0)).alloc (.cells #[.slice none 0 0, .map (some w.heap.size), .int .i64 0] 135)) := (Below.refl _ _).alloc (Nat.le_refl _) _
  refine ⟨w.heap.size + 1, by simp, ⟨w.heap.size, .slice none 0 0, [], [], 0, [], ⟨?_, ?_, Kd.R_nil _ _ _ _ _, by omega, by omega, by omega, ⟨by omega, by omega⟩⟩, TimesOk.empty, Int.le_refl _, rfl⟩, (((Below.refl _ _).alloc (Nat.le_refl _) _).alloc (by simp) _)⟩
  · have h := heap_alloc_new (w.alloc (Obj.map #[] 0)) (.cells #[.slice none 0 0, .map (some w.heap.size), .int .i64 0] 135)
    simpa using h
  · exact (IsMap.made (κ := Int) (ν := Tm) (Value.int .i64) encV goodI w).only (Only.ofBelow (F := fun _ => False) b1) (fun h => h)

section
variable {w : World} {base q : Nat} {Q : Nat → Prop} {n : Int} {lp : List (Int × Int)}
theorem tlen_calls (h : IsTimes w base q Q lp n) : Calls Try.prog 68 #[.pointer (some ⟨q, 0, none⟩)] w fun e w' => e = .returned (.int .i64 (lp.length : Int)) ∧ w' = w := by
  obtain ⟨mb, v, H, M, T, l, h1, h2, h3, rfl⟩ := h
  have c1 : w.cell? ⟨q, 1, none⟩ = some (.map (some mb)) := (blk_cell h1.blk 1).trans rfl
  have hl := fun u => h1.map_.run_len und131 u
  have he : (l.map pr).length = M.length := by rw [List.length_map, h2.len]
  rw [he]
  generalize (M.length : Int) = r at hl ⊢
  clear h1 h2 he
  go_enter Try.func68, Try.ntmps68
  go_wp2
  go_ret
  exact ⟨rfl, rfl⟩
theorem tlook {mb : Nat} {M : List (Int × Tm)} (h : MT w mb M) {i : Int} (hi : goodI i) : (Instr.lookup 131 (.map (some mb)) (.int .i64 i) true).run Try.prog w = .ok (.tuple #[.agg #[.int .i64 ((aget M i).getD zT).1, .int .i64 ((aget M i).getD zT).2.1, .int .i64 ((aget M i).getD zT).2.2], .bool (aget M i).isSome]) w := by
  cases ha : aget M i with
  | none => exact h.look_none keyI und131 hi ha (zero137 w) true
  | some x => exact h.look_some keyI und131 hi ha true
/-- A queue's answer for an item: its tick. -/
def atP (lp : List (Int × Int)) (i : Int) : Int := ((lp.find? (fun p => decide (p.2 = i))).map (·.1)).getD 0
theorem TimesOk.isSome {H : List Tm} {M : List (Int × Tm)} {T : Int} {l : List Tm} (h : TimesOk H M T l) (i : Int) : (aget M i).isSome = decide (i ∈ (l.map pr).map (·.2)) := by
  rw [List.map_map, show ((fun x : Int × Int => x.2) ∘ pr) = (fun x : Tm => x.2.2) from rfl]
  cases ha : aget M i with
  | none => rw [decide_eq_false (h.has.1 ha)]; rfl
  | some x =>
    rw [decide_eq_true ?_]; rfl
    apply Classical.byContradiction
    intro hn
    rw [h.has.2 hn] at ha; cases ha
theorem TimesOk.atv {H : List Tm} {M : List (Int × Tm)} {T : Int} {l : List Tm} (h : TimesOk H M T l) (i : Int) : ((aget M i).getD zT).1 = atP (l.map pr) i := by
  unfold atP
  rw [List.find?_map]
  cases ha : aget M i with
  | none =>
    have hn := h.has.1 ha
    rw [List.find?_eq_none.2 (fun x hx => by
      show ¬ (decide ((pr x).2 = i) = true)
      intro e
      exact hn (List.mem_map.2 ⟨x, hx, of_decide_eq_true e⟩))]
    rfl
  | some x =>
    have hi : x.2.2 = i := h.item _ (aget_mem ha)
    have hx : x ∈ l := h.mem_get.2 (by rw [hi]; exact ha)
    cases hf : l.find? ((fun p => decide (p.2 = i)) ∘ pr) with
    | none =>
      have := List.find?_eq_none.1 hf x hx
      simp [pr, hi] at this
    | some y =>
      have h1 := List.mem_of_find?_eq_some hf
      have h2 := List.find?_some hf
      have h2' : y.2.2 = i := of_decide_eq_true h2
      have h3 := h.mem_get.1 h1
      rw [h2', ha] at h3
      cases h3
      rfl

set_option maxRecDepth 100000 in
set_option maxHeartbeats 4000000 in
theorem tdrop_calls (h : IsTimes w base q Q lp n) {i : Int} (hi : goodI i) : Calls Try.prog 62 #[.pointer (some ⟨q, 0, none⟩), .int .i64 i] w fun e w' => e = .returned (.bool (decide (i ∈ lp.map (·.2)))) ∧ IsTimes w' base q Q (lp.filter (fun p => decide (p.2 ≠ i))) n ∧ Only Q w w' := by
  obtain ⟨mb, v, H, M, T, l, h1, h2, h3, rfl⟩ := h
  have c1 : w.cell? ⟨q, 1, none⟩ = some (.map (some mb)) := (blk_cell h1.blk 1).trans rfl
  have hl := tlook h1.map_ hi
  rw [h2.isSome i] at hl
  generalize (aget M i).getD zT = x at hl
  obtain ⟨r, hr⟩ : ∃ r, r = decide (i ∈ (l.map pr).map (·.2)) := ⟨_, rfl⟩
  rw [← hr] at hl ⊢
  have HH := Aside0.mk (And.intro h1 (And.intro h2 (And.intro h3 hi)))
  clear h1 h2 h3 hi hr
  go_enter Try.func62, Try.ntmps62
  go_upto_region 4 with fail
  obtain ⟨W1, hW1⟩ : ∃ W1, W1 = w.alloc (Obj.cells #[.int .i64 x.1, .int .i64 x.2.1, .int .i64 x.2.2] 137) := ⟨_, rfl⟩
  have b1 : Below w.heap.size w W1 := by rw [hW1]; exact (Below.refl _ _).alloc (Nat.le_refl _) _
  rw [← hW1]
  have k1 := HH.out.1.only (Only.ofBelow (F := fun _ => False) b1) (fun _ _ h => h)
  have d1 : W1.cell? ⟨q, 1, none⟩ = some (.map (some mb)) := (blk_cell k1.blk 1).trans rfl
  obtain ⟨W2, hr2, hm2, ho2, hs2⟩ := k1.map_.run_delete keyI und131 HH.out.2.2.2 3 0
  replace b1 := Aside0.mk b1
  replace k1 := Aside0.mk k1
  replace hm2 := Aside0.mk hm2
  replace ho2 := Aside0.mk ho2
  clear hW1 c1 hl hs2
  go_wp2
  go_ret
  obtain ⟨h1, h2, h3, hi⟩ := HH.out
  refine ⟨rfl, ⟨mb, v, H, adel M i, T, l.filter (fun x => decide (x.2.2 ≠ i)), ⟨(ho2.out.block _ (blk_lt k1.out.blk) h1.ne).trans k1.out.blk, hm2.out, R_only k1.out.row ho2.out (fun k hk e => hk.2.2 e), h1.qq, h1.qm, h1.ne, h1.base⟩, h2.drop i, h3, ?_⟩, (Only.ofBelow b1.out).trans (ho2.out.mono (fun k _ e => e ▸ h1.qm))⟩
  rw [List.filter_map]; rfl
set_option maxRecDepth 100000 in
set_option maxHeartbeats 4000000 in
theorem tat_calls (h : IsTimes w base q Q lp n) {i : Int} (hi : goodI i) : Calls Try.prog 66 #[.pointer (some ⟨q, 0, none⟩), .int .i64 i] w fun e w' => e = .returned (.tuple #[.int .i64 (atP lp i), .bool (decide (i ∈ lp.map (·.2)))]) ∧ Below w.heap.size w w' := by
  obtain ⟨mb, v, H, M, T, l, h1, h2, h3, rfl⟩ := h
  have c1 : w.cell? ⟨q, 1, none⟩ = some (.map (some mb)) := (blk_cell h1.blk 1).trans rfl
  have hl := tlook h1.map_ hi
  rw [h2.isSome i] at hl
  rw [← h2.atv i]
  generalize (aget M i).getD zT = x at hl ⊢
  generalize decide (i ∈ (l.map pr).map (·.2)) = r at hl ⊢
  clear h1 h2 h3 hi
  go_enter Try.func66, Try.ntmps66
  go_wp2
  go_ret2
  exact ⟨rfl, (Below.refl _ _).alloc (Nat.le_refl _) _⟩

def putEr (lp : List (Int × Int)) (a i : Int) : Int := if a < 0 ∨ 4611686018427387904 < a then 1 else if i ∈ lp.map (·.2) then 40 else if 65536 ≤ lp.length then 3 else 0
def putR (lp : List (Int × Int)) (a i : Int) : List (Int × Int) := if putEr lp a i = 0 then putP lp a i else lp
end
end Go.Proofs.Ytljckmiphkoipaa

/-
  A queue by time: Put.
-/
namespace Go.Proofs.Ytljckmiphkoipaa
set_option linter.unusedVariables false
set_option linter.unusedSimpArgs false
open Go.RowKit Go.MapKept Go.Maps Go.Proofs.YtljckmiphkoipaaW.PrintWords Go.Proofs.YtljckmiphkoipaaW.PrintLast Go.Proofs.YtljckmiphkoipaaW.PrintMore

section
variable {w : World} {base q : Nat} {Q : Nat → Prop} {n : Int} {lp : List (Int × Int)}
set_option maxRecDepth 100000 in
set_option maxHeartbeats 4000000 in
theorem tput_range (p : Value) {a i : Int} (ha : a < 0 ∨ 4611686018427387904 < a) : Calls Try.prog 64 #[p, .int .i64 a, .int .i64 i] w fun e w' => e = .returned (.int .i64 1) ∧ w' = w := by
  by_cases h1 : a < 0
  · have d1 : decide (a < 0) = true := decide_eq_true h1
    clear ha h1
    go_enter Try.func64, Try.ntmps64
    go_wp2
    go_ret
    exact ⟨rfl, rfl⟩
  · have d1 : decide (a < 0) = false := decide_eq_false h1
    have d2 : decide (4611686018427387904 < a) = true := decide_eq_true (by omega)
    clear ha h1
    go_enter Try.func64, Try.ntmps64
    go_wp2
    go_ret
    exact ⟨rfl, rfl⟩
set_option maxRecDepth 100000 in
set_option maxHeartbeats 4000000 in
theorem tput_there (h : IsTimes w base q Q lp n) {a i : Int} (ha : ¬ (a < 0 ∨ 4611686018427387904 < a)) (hi : goodI i) (hm : i ∈ lp.map (·.2)) : Calls Try.prog 64 #[.pointer (some ⟨q, 0, none⟩), .int .i64 a, .int .i64 i] w fun e w' => e = .returned (.int .i64 40) ∧ Below w.heap.size w w' := by
  have d1 : decide (a < 0) = false := decide_eq_false (by omega)
  have d2 : decide (4611686018427387904 < a) = false := decide_eq_false (by omega)
  obtain ⟨mb, v, H, M, T, l, h1, h2, h3, rfl⟩ := h
  have c1 : w.cell? ⟨q, 1, none⟩ = some (.map (some mb)) := (blk_cell h1.blk 1).trans rfl
  have hl := tlook h1.map_ hi
  rw [h2.isSome i, decide_eq_true hm] at hl
  generalize (aget M i).getD zT = x at hl
  clear h1 h2 h3 hi ha hm
  go_enter Try.func64, Try.ntmps64
  go_wp2
  go_ret
  exact ⟨rfl, (Below.refl _ _).alloc (Nat.le_refl _) _⟩
set_option maxRecDepth 100000 in
set_option maxHeartbeats 4000000 in
theorem tput_full (h : IsTimes w base q Q lp n) {a i : Int} (ha : ¬ (a < 0 ∨ 4611686018427387904 < a)) (hi : goodI i) (hm : i ∉ lp.map (·.2)) (hf : 65536 ≤ lp.length) : Calls Try.prog 64 #[.pointer (some ⟨q, 0, none⟩), .int .i64 a, .int .i64 i] w fun e w' => e = .returned (.int .i64 3) ∧ Below w.heap.size w w' := by
  have d1 : decide (a < 0) = false := decide_eq_false (by omega)
  have d2 : decide (4611686018427387904 < a) = false := decide_eq_false (by omega)
  obtain ⟨mb, v, H, M, T, l, h1, h2, h3, rfl⟩ := h
  have c1 : w.cell? ⟨q, 1, none⟩ = some (.map (some mb)) := (blk_cell h1.blk 1).trans rfl
  have hl := tlook h1.map_ hi
  rw [h2.isSome i, decide_eq_false hm] at hl
  generalize (aget M i).getD zT = x at hl
  have hb : Below w.heap.size w (w.alloc (Obj.cells #[.int .i64 x.1, .int .i64 x.2.1, .int .i64 x.2.2] 137)) := (Below.refl _ _).alloc (Nat.le_refl _) _
  have hln := fun u => ((h1.only (Only.ofBelow (F := fun _ => False) hb) (fun _ _ h => h)).map_).run_len und131 u
  have d3 : decide ((65536 : Int) ≤ (M.length : Int)) = true := decide_eq_true (by have := h2.len; rw [List.length_map] at hf; omega)
  have d4 : decide (65536 ≤ M.length) = true := decide_eq_true (by have := h2.len; rw [List.length_map] at hf; omega)
  have c2 : (w.alloc (Obj.cells #[.int .i64 x.1, .int .i64 x.2.1, .int .i64 x.2.2] 137)).cell? ⟨q, 1, none⟩ = some (.map (some mb)) := pw_cell_below hb c1
  replace hb := Aside0.mk hb
  clear h1 h2 h3 hi ha hm hf
  go_enter Try.func64, Try.ntmps64
  go_wp2
  go_ret
  exact ⟨rfl, hb.out⟩
set_option maxRecDepth 100000 in
set_option maxHeartbeats 8000000 in
theorem tput_new (h : IsTimes w base q Q lp n) {a i : Int} (ha : ¬ (a < 0 ∨ 4611686018427387904 < a)) (hi : goodI i) (hm : i ∉ lp.map (·.2)) (hf : lp.length < 65536) (hn : n < 6999999999998) (hbase : base ≤ w.heap.size) :
    Calls Try.prog 64 #[.pointer (some ⟨q, 0, none⟩), .int .i64 a, .int .i64 i] w fun e w' => e = .returned (.int .i64 0) ∧ IsTimes w' base q (fun k => Q k ∨ w.heap.size ≤ k) (putP lp a i) (n + 1) ∧ Only Q w w' := by
  have d1 : decide (a < 0) = false := decide_eq_false (by omega)
  have d2 : decide (4611686018427387904 < a) = false := decide_eq_false (by omega)
  obtain ⟨mb, v, H, M, T, l, h1, h2, h3, rfl⟩ := h
  have c1 : w.cell? ⟨q, 1, none⟩ = some (.map (some mb)) := (blk_cell h1.blk 1).trans rfl
  have hl := tlook h1.map_ hi
  rw [h2.isSome i, decide_eq_false hm] at hl
  have hnone : aget M i = none := h2.has.2 (by rw [List.map_map] at hm; exact hm)
  generalize (aget M i).getD zT = x0 at hl
  have HH := Aside0.mk (And.intro h1 (And.intro h2 (And.intro h3 (And.intro hi (And.intro (show 0 ≤ a ∧ a ≤ 4611686018427387904 by omega) (And.intro hnone (And.intro (show M.length < 65536 by have := h2.len; rw [List.length_map] at hf; omega) (And.intro hn hbase))))))))
  clear h1 h2 h3 hi ha hm hf hn hbase hnone
  go_enter Try.func64, Try.ntmps64
  go_upto_region 8 with fail
  obtain ⟨W1, hW1⟩ : ∃ W1, W1 = w.alloc (Obj.cells #[.int .i64 x0.1, .int .i64 x0.2.1, .int .i64 x0.2.2] 137) := ⟨_, rfl⟩
  have b1 : Below w.heap.size w W1 := by rw [hW1]; exact (Below.refl _ _).alloc (Nat.le_refl _) _
  rw [← hW1]
  have k1 := HH.out.1.only (Only.ofBelow (F := fun _ => False) b1) (fun _ _ h => h)
  have e1 : W1.cell? ⟨q, 1, none⟩ = some (.map (some mb)) := (blk_cell k1.blk 1).trans rfl
  have e2 : W1.cell? ⟨q, 2, none⟩ = some (.int .i64 T) := (blk_cell k1.blk 2).trans rfl
  have hln := fun u => k1.map_.run_len und131 u
  have d3 : decide ((65536 : Int) ≤ (M.length : Int)) = false := decide_eq_false (by have := HH.out.2.2.2.2.2.2.1; omega)
  have d4 : decide (65536 ≤ M.length) = false := decide_eq_false (by have := HH.out.2.2.2.2.2.2.1; omega)
  replace b1 := Aside0.mk b1
  replace k1 := Aside0.mk k1
  clear hW1 c1 hl d1 d2
  go_upto_region 11 with fail
  obtain ⟨W2, hW2⟩ : ∃ W2, W2 = W1.alloc (Obj.cells #[.int .i64 a, .int .i64 T, .int .i64 i] 137) := ⟨_, rfl⟩
  have b2 : Below W1.heap.size W1 W2 := by rw [hW2]; exact (Below.refl _ _).alloc (Nat.le_refl _) _
  have x2 : W2.heap[W1.heap.size]? = some (.cells #[.int .i64 a, .int .i64 T, .int .i64 i] 137 (0, 0)) := by rw [hW2]; exact heap_alloc_new W1 _
  rw [← hW2]
  have k2 := k1.out.only (Only.ofBelow (F := fun _ => False) b2) (fun _ _ h => h)
  have g2 : W2.cell? ⟨q, 2, none⟩ = some (.int .i64 T) := (blk_cell k2.blk 2).trans rfl
  have f2 := blk_frozen k2.blk 2
  have hTw : wrap64 (T + 1) = T + 1 := w64 _ (by have := HH.out.2.1.t0; have := HH.out.2.2.1; have := HH.out.2.2.2.2.2.2.2.1; omega)
  replace b2 := Aside0.mk b2
  replace k2 := Aside0.mk k2
  replace x2 := Aside0.mk x2
  clear hW2 e1 e2 hln d3 d4
  go_upto_region 12 with fail
  obtain ⟨W3, hW3⟩ : ∃ W3, W3 = W2.setCell ⟨q, 2, none⟩ (.int .i64 (T + 1)) := ⟨_, rfl⟩
  have q3 : W3.heap[q]? = some (.cells #[v, .map (some mb), .int .i64 (T + 1)] 135 (0, 0)) := by rw [hW3]; exact blk_put k2.out.blk 2 _ rfl
  have o3 : Only (fun b => b = q) W2 W3 := by rw [hW3]; exact (Only.refl (fun b => b = q) W2).setCell (fun _ => rfl) _
  have hlt2 : q < W1.heap.size := blk_lt k1.out.blk
  have x3 : W3.heap[W1.heap.size]? = _ := (o3.block _ (blk_lt x2.out) (by omega)).trans x2.out
  have m3 : MT W3 mb M := k2.out.map_.only o3 (fun e => HH.out.1.ne e.symm)
  have r3 := R_only k2.out.row o3 (fun k hk e => hk.2.1 e)
  rw [← hW3]
  clear hW3 g2 f2
  have y1 : W3.cell? ⟨q, 1, none⟩ = some (.map (some mb)) := (blk_cell q3 1).trans rfl
  have z0 : W3.cell? ⟨W1.heap.size, 0, none⟩ = some (.int .i64 a) := (blk_cell x3 0).trans rfl
  have z1 : W3.cell? ⟨W1.heap.size, 1, none⟩ = some (.int .i64 T) := (blk_cell x3 1).trans rfl
  have z2 : W3.cell? ⟨W1.heap.size, 2, none⟩ = some (.int .i64 i) := (blk_cell x3 2).trans rfl
  have H3 := Aside0.mk (And.intro q3 (And.intro o3 (And.intro x3 (And.intro m3 (And.intro r3 hlt2)))))
  clear q3 o3 x3 m3 r3 hlt2
  refine start_ (n := 7) (S := fun w' => w'.cell? ⟨q, 1, none⟩ = some (.map (some mb)) ∧ w'.cell? ⟨W1.heap.size, 0, none⟩ = some (.int .i64 a) ∧ w'.cell? ⟨W1.heap.size, 1, none⟩ = some (.int .i64 T) ∧ w'.cell? ⟨W1.heap.size, 2, none⟩ = some (.int .i64 i)) (ds := [6]) #[false, false, false, false, false, false, false] (by kernel_rfl) rfl rfl ⟨y1, z0, z1, z2⟩ (fun hHeld => ?_)
  refine pure_ (i := 0) (N := some 48) (v := ?_) (a' := ?_) #[true, false, false, false, false, false, false] rfl rfl (by kernel_rfl) (fun _ _ _ h => h) (Or.inl ⟨by rfl, ?_⟩) ?_ ?_
  rotate_left
  · intro w'
    go_simp
    with_reducible rfl
  rotate_left
  · simp only [Act.put, List.setIfInBounds_toArray, List.set_cons_zero, List.set_cons_succ, i64_w, i32_w]
    rfl
  refine pure_ (i := 1) (N := some 49) (v := ?_) (a' := ?_) #[true, true, false, false, false, false, false] rfl rfl (by kernel_rfl) (fun _ _ _ h => h) (Or.inl ⟨by rfl, ?_⟩) ?_ ?_
  rotate_left
  · intro w'
    go_simp
    with_reducible rfl
  rotate_left
  · simp only [Act.put, List.setIfInBounds_toArray, List.set_cons_zero, List.set_cons_succ, i64_w, i32_w]
    rfl
  refine pure_ (i := 2) (N := some 50) (v := ?_) (a' := ?_) #[true, true, true, false, false, false, false] rfl rfl (by kernel_rfl) (fun _ _ _ h => h) (Or.inl ⟨by rfl, ?_⟩) ?_ ?_
  rotate_left
  · intro w'
    go_simp
    with_reducible rfl
  rotate_left
  · simp only [Act.put, List.setIfInBounds_toArray, List.set_cons_zero, List.set_cons_succ, i64_w, i32_w]
    rfl
  refine pure_ (i := 4) (N := some 52) (v := ?_) (a' := ?_) #[true, true, true, false, true, false, false] rfl rfl (by kernel_rfl) (fun _ _ _ h => h) (Or.inl ⟨by rfl, ?_⟩) ?_ ?_
  rotate_left
  · intro w'
    go_simp
    with_reducible rfl
  rotate_left
  · simp only [Act.put, List.setIfInBounds_toArray, List.set_cons_zero, List.set_cons_succ, i64_w, i32_w]
    rfl
  refine take_ (i := 3) (N := some 51) (v := ?_) (a' := ?_) #[true, true, true, true, true, false, false] rfl rfl (by kernel_rfl) (fun _ _ _ h => h) (Or.inl ⟨by rfl, ?_⟩) hHeld ?_ ?_
  rotate_left
  · rintro w' ⟨s0, s1, s2, s3⟩
    go_simp
    with_reducible rfl
  rotate_left
  · simp only [Act.put, List.setIfInBounds_toArray, List.set_cons_zero, List.set_cons_succ, i64_w, i32_w]
    rfl
  refine take_ (i := 5) (N := some 53) (v := ?_) (a' := ?_) #[true, true, true, true, true, true, false] rfl rfl (by kernel_rfl) (fun _ _ _ h => h) (Or.inl ⟨by rfl, ?_⟩) hHeld ?_ ?_
  rotate_left
  · rintro w' ⟨s0, s1, s2, s3⟩
    go_simp
    with_reducible rfl
  rotate_left
  · simp only [Act.put, List.setIfInBounds_toArray, List.set_cons_zero, List.set_cons_succ, i64_w, i32_w]
    rfl
  refine last_ (i := 6) (N := none) #[true, true, true, true, true, true, true] rfl rfl (by kernel_rfl) (by decide) (fun K hK => ?_)
  obtain ⟨W4, hr4, hm4, ho4, hs4⟩ := (H3.out.2.2.2.1.of_block (w' := W3.drew) rfl).run_update keyI und131 HH.out.2.2.2.1 (a, T, i)
  replace hr4 : (Instr.mapUpdate 131 (.map (some mb)) (.int .i64 i) (.agg #[.int .i64 a, .int .i64 T, .int .i64 i])).run Try.prog W3.drew = .ok () W4 := hr4
  refine skip_ (w1 := W4) (by rfl) rfl (by go_simp) ?_
  replace hr4 := Aside0.mk hr4
  replace hs4 := Aside0.mk hs4
  refine hK.out _ _ ?_
  clear hK K
  refine done_ (by kernel_rfl) ?_
  have o4 : Only (fun b => b = mb) W3 W4 := ⟨ho4.os, ho4.tape, ho4.output, ho4.size, ho4.block⟩
  have q4 : W4.heap[q]? = _ := (o4.block _ (blk_lt H3.out.1) HH.out.1.ne).trans H3.out.1
  have x4 : W4.heap[W1.heap.size]? = _ := (o4.block _ (blk_lt H3.out.2.2.1) (by have := k1.out.map_.lt; omega)).trans H3.out.2.2.1
  have r4 := R_only H3.out.2.2.2.2.1 o4 (fun k hk e => hk.2.2 e)
  have hsz4 : w.heap.size ≤ W4.heap.size := by have := b1.out.size; have := b2.out.size; have := H3.out.2.1.size; have := o4.size; omega
  have hpush := heapPush_calls (w := W4.drew) (a, T, i) (by exact q4) (Kd.R_drew r4) (fun hk => hk.2.1 rfl) (by show base ≤ W4.heap.size; have := HH.out.2.2.2.2.2.2.2.2; omega) (by have := HH.out.2.1.size; have := HH.out.2.2.1; have := HH.out.2.2.2.2.2.2.2.1; omega)
  have z0' : W4.cell? ⟨W1.heap.size, 0, none⟩ = some (.int .i64 a) := (blk_cell x4 0).trans rfl
  have z1' : W4.cell? ⟨W1.heap.size, 1, none⟩ = some (.int .i64 T) := (blk_cell x4 1).trans rfl
  have z2' : W4.cell? ⟨W1.heap.size, 2, none⟩ = some (.int .i64 i) := (blk_cell x4 2).trans rfl
  have H4 := Aside0.mk (And.intro o4 (And.intro q4 (And.intro r4 (And.intro hm4 hsz4))))
  clear o4 q4 x4 r4 hm4 hsz4 y1 z0 z1 z2 ho4
  go_upto_region 13 with fail
  refine start_ (n := 7) (S := fun w' => w'.cell? ⟨W1.heap.size, 0, none⟩ = some (.int .i64 a) ∧ w'.cell? ⟨W1.heap.size, 1, none⟩ = some (.int .i64 T) ∧ w'.cell? ⟨W1.heap.size, 2, none⟩ = some (.int .i64 i)) (ds := [6]) #[false, false, false, false, false, false, false] (by kernel_rfl) rfl rfl ⟨z0', z1', z2'⟩ (fun hHeld => ?_)
  refine pure_ (i := 0) (N := some 54) (v := ?_) (a' := ?_) #[true, false, false, false, false, false, false] rfl rfl (by kernel_rfl) (fun _ _ _ h => h) (Or.inl ⟨by rfl, ?_⟩) ?_ ?_
  rotate_left
  · intro w'
    go_simp
    with_reducible rfl
  rotate_left
  · simp only [Act.put, List.setIfInBounds_toArray, List.set_cons_zero, List.set_cons_succ, i64_w, i32_w]
    rfl
  refine pure_ (i := 1) (N := some 55) (v := ?_) (a' := ?_) #[true, true, false, false, false, false, false] rfl rfl (by kernel_rfl) (fun _ _ _ h => h) (Or.inl ⟨by rfl, ?_⟩) ?_ ?_
  rotate_left
  · intro w'
    go_simp
    with_reducible rfl
  rotate_left
  · simp only [Act.put, List.setIfInBounds_toArray, List.set_cons_zero, List.set_cons_succ, i64_w, i32_w]
    rfl
  refine pure_ (i := 2) (N := some 56) (v := ?_) (a' := ?_) #[true, true, true, false, false, false, false] rfl rfl (by kernel_rfl) (fun _ _ _ h => h) (Or.inl ⟨by rfl, ?_⟩) ?_ ?_
  rotate_left
  · intro w'
    go_simp
    with_reducible rfl
  rotate_left
  · simp only [Act.put, List.setIfInBounds_toArray, List.set_cons_zero, List.set_cons_succ, i64_w, i32_w]
    rfl
  refine pure_ (i := 3) (N := some 57) (v := ?_) (a' := ?_) #[true, true, true, true, false, false, false] rfl rfl (by kernel_rfl) (fun _ _ _ h => h) (Or.inl ⟨by rfl, ?_⟩) ?_ ?_
  rotate_left
  · intro w'
    go_simp
    with_reducible rfl
  rotate_left
  · simp only [Act.put, List.setIfInBounds_toArray, List.set_cons_zero, List.set_cons_succ, i64_w, i32_w]
    rfl
  refine take_ (i := 4) (N := some 58) (v := ?_) (a' := ?_) #[true, true, true, true, true, false, false] rfl rfl (by kernel_rfl) (fun _ _ _ h => h) (Or.inl ⟨by rfl, ?_⟩) hHeld ?_ ?_
  rotate_left
  · rintro w' ⟨s0, s1, s2⟩
    go_simp
    with_reducible rfl
  rotate_left
  · simp only [Act.put, List.setIfInBounds_toArray, List.set_cons_zero, List.set_cons_succ, i64_w, i32_w]
    rfl
  refine pure_ (i := 5) (N := some 59) (v := ?_) (a' := ?_) #[true, true, true, true, true, true, false] rfl rfl (by kernel_rfl) (fun _ _ _ h => h) (Or.inl ⟨by rfl, ?_⟩) ?_ ?_
  rotate_left
  · intro w'
    go_simp
    with_reducible rfl
  rotate_left
  · simp only [Act.put, List.setIfInBounds_toArray, List.set_cons_zero, List.set_cons_succ, i64_w, i32_w]
    rfl
  refine last_ (i := 6) (N := some 60) #[true, true, true, true, true, true, true] rfl rfl (by kernel_rfl) (by decide) (fun K hK => ?_)
  refine goes_ Try.func90 (by kernel_rfl) rfl #[.iface 141 (.pointer (some ⟨q, 0, none⟩)), .iface 137 (.agg #[.int .i64 a, .int .i64 T, .int .i64 i])] (by rfl) rfl rfl (by simp only [List.map_toArray, List.map_cons, List.map_nil]; rfl) ?_
  with_reducible refine (hpush).mono ?_
  rintro e W5 ⟨rfl, ⟨v5, hq5, hr5⟩, ho5⟩
  refine ⟨_, rfl, ?_⟩
  replace hq5 := Aside0.mk hq5
  replace hr5 := Aside0.mk hr5
  replace ho5 := Aside0.mk ho5
  refine hK.out _ _ ?_
  clear hK K
  refine norm_ (a' := ?_) ?_ ?_
  rotate_left
  · show Act.put _ (some 60) _ = _
    simp only [Act.put, List.setIfInBounds_toArray, List.set_cons_zero, List.set_cons_succ, i64_w, i32_w]
    rfl
  refine done_ (by kernel_rfl) ?_
  go_wp2
  go_ret
  obtain ⟨h1, h2, h3, hi, ha, hnone, hf, hn, hbase⟩ := HH.out
  obtain ⟨q3, o3, x3, m3, r3, hlt2⟩ := H3.out
  obtain ⟨o4, q4, r4, hm4, hsz4⟩ := H4.out
  have o5 : Only (fun b => b = q ∨ (Q b ∧ b ≠ q ∧ b ≠ mb)) W4 W5 := ⟨ho5.out.os, ho5.out.tape, ho5.out.output, ho5.out.size, ho5.out.block⟩
  have oA : Only Q w W2 := (Only.ofBelow b1.out).trans (Only.ofBelow b2.out)
  have oB : Only Q w W3 := oA.then o3 (fun k _ e => e ▸ h1.qq)
  have oC : Only Q w W4 := oB.then o4 (fun k _ e => e ▸ h1.qm)
  have oD : Only Q w W5 := oC.then o5 (fun k _ e => by rcases e with e | e; exact e ▸ h1.qq; exact e.1)
  refine ⟨rfl, ⟨mb, v5, _, _, T + 1, insT l (a, T, i), ⟨hq5.out, hm4.only o5 (fun e => by rcases e with e | e; exact h1.ne e.symm; exact e.2.2 rfl), ?_, .inl h1.qq, .inl h1.qm, h1.ne, h1.base⟩, h2.put ha hi hnone hf, by omega, insT_pr l (a, T, i)⟩, oD⟩
  refine Kd.R_mono hr5.out (fun k hk => ?_)
  rcases hk with hk | hk
  · exact ⟨.inl hk.1, hk.2⟩
  · have hk' : W4.heap.size ≤ k := hk
    exact ⟨.inr (by omega), by have := blk_lt h1.blk; omega, by have := h1.map_.lt; omega⟩
end
theorem tput_calls {w : World} {base q : Nat} {Q : Nat → Prop} {n : Int} {lp : List (Int × Int)} (h : IsTimes w base q Q lp n) {a i : Int} (hi : goodI i) (hn : n < 6999999999998) (hbase : base ≤ w.heap.size) :
    Calls Try.prog 64 #[.pointer (some ⟨q, 0, none⟩), .int .i64 a, .int .i64 i] w fun e w' => e = .returned (.int .i64 (putEr lp a i)) ∧ IsTimes w' base q (fun k => Q k ∨ w.heap.size ≤ k) (putR lp a i) (n + 1) ∧ Only Q w w' := by
  unfold putR putEr
  by_cases ha : a < 0 ∨ 4611686018427387904 < a
  · simp only [ha, if_true]
    refine (tput_range _ ha).mono ?_
    rintro e w' ⟨rfl, rfl⟩
    exact ⟨rfl, (h.mono (fun k hk => .inl hk)).more (by omega), Only.refl _ _⟩
  simp only [ha, if_false]
  by_cases hm : i ∈ lp.map (·.2)
  · simp only [hm, if_true]
    refine (tput_there h ha hi hm).mono ?_
    rintro e w' ⟨rfl, hB⟩
    exact ⟨rfl, ((h.below hB).mono (fun k hk => .inl hk)).more (by omega), Only.ofBelow hB⟩
  simp only [hm, if_false]
  by_cases hf : 65536 ≤ lp.length
  · simp only [hf, if_true]
    refine (tput_full h ha hi hm hf).mono ?_
    rintro e w' ⟨rfl, hB⟩
    exact ⟨rfl, ((h.below hB).mono (fun k hk => .inl hk)).more (by omega), Only.ofBelow hB⟩
  simp only [hf, if_false, if_true]
  exact tput_new h ha hi hm (by omega) hn hbase
end Go.Proofs.Ytljckmiphkoipaa

/-
  A queue by time: the first item that is there (top).
-/
namespace Go.Proofs.Ytljckmiphkoipaa
set_option linter.unusedVariables false
set_option linter.unusedSimpArgs false
open Go.RowKit Go.MapKept Go.Maps Go.Proofs.YtljckmiphkoipaaW.PrintWords Go.Proofs.YtljckmiphkoipaaW.PrintLast Go.Proofs.YtljckmiphkoipaaW.PrintMore

theorem eqA137 (x y : Tm) (w : World) : (Op.equalIn 10000 137 (.agg #[.int .i64 x.1, .int .i64 x.2.1, .int .i64 x.2.2]) (.agg #[.int .i64 y.1, .int .i64 y.2.1, .int .i64 y.2.2])).run Try.prog w = .ok (x.1 == y.1 && (x.2.1 == y.2.1 && x.2.2 == y.2.2)) w :=
  eqA_of (d := 9999) Try.underlying137 (by kernel_rfl) (eqf_cons rfl (by kernel_rfl) (by kernel_rfl) (run_equalIn_int _ 9998 2 .i64 .i64 _ _ Try.underlying2) (eqf_cons rfl (by kernel_rfl) (by kernel_rfl) (run_equalIn_int _ 9998 3 .i64 .i64 _ _ Try.underlying3) (eqf_last rfl (by kernel_rfl) (by kernel_rfl) (run_equalIn_int _ 9998 3 .i64 .i64 _ _ Try.underlying3))))
theorem eql137 (x y : Tm) (w : World) : (binOp .eql 137 (.agg #[.int .i64 x.1, .int .i64 x.2.1, .int .i64 x.2.2]) (.agg #[.int .i64 y.1, .int .i64 y.2.1, .int .i64 y.2.2])).run Try.prog w = .ok (.bool (decide (x = y))) w := by
  rw [run_eql_struct, eqA137]
  congr 2
  obtain ⟨a, b, c⟩ := x
  obtain ⟨d, e, f⟩ := y
  simp only [Prod.mk.injEq]
  by_cases h1 : a = d <;> by_cases h2 : b = e <;> by_cases h3 : c = f <;> simp [h1, h2, h3]
theorem guard137 : Try.prog.eqGuardType Try.prog.depth 137 = false := by kernel_rfl

def three (w : World) (g : Nat) (a b c : Value) : World := ((w.setCell ⟨g, 0, none⟩ a).setCell ⟨g, 1, none⟩ b).setCell ⟨g, 2, none⟩ c
theorem three_blk {w : World} {g : Nat} {t : TypeId} {a0 a1 a2 : Value} (h : w.heap[g]? = some (.cells #[a0, a1, a2] t (0, 0))) (a b c : Value) : (three w g a b c).heap[g]? = some (.cells #[a, b, c] t (0, 0)) :=
  blk_put (blk_put (blk_put h 0 _ rfl) 1 _ rfl) 2 _ rfl
theorem three_only (w : World) (g : Nat) (a b c : Value) : Only (fun k => k = g) w (three w g a b c) :=
  (((Only.refl (fun k => k = g) w).setCell (fun _ => rfl) _).setCell (fun _ => rfl) _).setCell (fun _ => rfl) _


section
variable {w : World} {base q mb : Nat} {v : Value} {Q : Nat → Prop} {H : List Tm} {M : List (Int × Tm)} {T : Int} {l : List Tm}
/-- Behind top: who stands at the heap's top is there, or the heap is empty. -/
def TopOf (H : List Tm) (M : List (Int × Tm)) (x : Tm) (b : Bool) : Prop := (H = [] ∧ x = zT ∧ b = false) ∨ (H ≠ [] ∧ aget M (gt H 0).2.2 = some (gt H 0) ∧ x = gt H 0 ∧ b = true)
set_option maxRecDepth 100000 in
set_option maxHeartbeats 16000000 in
theorem top_at (h1 : TimesAt w base q mb v Q H M T) (h2 : TimesOk H M T l) (hT : T < 7000000000001) :
    Calls Try.prog 88 #[.pointer (some ⟨q, 0, none⟩)] w fun e w' => ∃ x b v' H', e = .returned (.tuple #[.agg #[.int .i64 x.1, .int .i64 x.2.1, .int .i64 x.2.2], .bool b]) ∧ TopOf H' M x b ∧ TimesAt w' base q mb v' Q H' M T ∧ TimesOk H' M T l ∧ Only Q w w' := by
  have hqlt := blk_lt h1.blk
  have hmlt := h1.map_.lt
  have HQ := Aside0.mk (And.intro h1.qq (And.intro h1.qm (And.intro h1.ne (And.intro h1.base (And.intro hqlt (And.intro hmlt hT))))))
  have h1t := h1.tight
  clear hqlt hmlt hT
  have hst : ∃ Q' : Nat → Prop, Q' = (fun k => Q k ∧ base ≤ k ∧ k < w.heap.size) := ⟨_, rfl⟩
  obtain ⟨Q', hQ'⟩ := hst
  rw [← hQ'] at h1t
  have hQs : ∀ k, Q' k → Q k ∧ k < w.heap.size := by intro k hk; rw [hQ'] at hk; exact ⟨hk.1, hk.2.2⟩
  replace h1t := Aside0.mk h1t
  replace h2 := Aside0.mk h2
  replace hQs := Aside0.mk hQs
  clear h1 hQ'
  go_enter Try.func88, Try.ntmps88
  go_upto_region 1 with fail
  obtain ⟨W0, hW0⟩ : ∃ W0, W0 = w.alloc (Obj.cells #[.int .i64 0, .int .i64 0, .int .i64 0] 137) := ⟨_, rfl⟩
  have b0 : Below w.heap.size w W0 := by rw [hW0]; exact (Below.refl _ _).alloc (Nat.le_refl _) _
  have x0 : W0.heap[w.heap.size]? = some (.cells #[.int .i64 0, .int .i64 0, .int .i64 0] 137 (0, 0)) := by rw [hW0]; exact heap_alloc_new w _
  rw [← hW0]
  have hI0 := Aside0.mk (h1t.out.only (Only.ofBelow (F := fun _ => False) b0) (fun _ _ h => h))
  replace b0 := Aside0.mk b0
  replace x0 := Aside0.mk x0
  clear hW0 h1t
  go_wp2
  go_loopg [4] (H.length + 1) (fun kq v4 w' => ∃ (v' : Value) (H' : List Tm), Aside0 (H'.length < kq) ∧ Aside0 (TimesAt w' base q mb v' Q' H' M T) ∧ Aside0 (TimesOk H' M T l) ∧ Aside0 (w'.heap[w.heap.size]? = some (.cells #[.int .i64 0, .int .i64 0, .int .i64 0] 137 (0, 0))) ∧ Aside0 (Only Q w w'))
  case atStart => exact ⟨v, H, ⟨by omega⟩, hI0, h2, x0, ⟨Only.ofBelow b0.out⟩⟩
  case round =>
    clear hI0 x0 b0
    obtain ⟨v', H', hk, hI, hO, hx, ho⟩ := hrel
    have hqr := hI.out.blk
    by_cases hne : H' = []
    · subst hne
      obtain ⟨A, c, e, _⟩ := Kd.R_reads hI.out.row
      have hv : v' = .slice A 0 c := e
      subst hv
      have c0 : wr.cell? ⟨q, 0, none⟩ = some (.slice A 0 c) := (blk_cell hqr 0).trans rfl
      have f0 := blk_frozen hx.out 0
      have f1 := blk_frozen hx.out 1
      have f2 := blk_frozen hx.out 2
      have y0 : wr.cell? ⟨w.heap.size, 0, none⟩ = some (.int .i64 0) := (blk_cell hx.out 0).trans rfl
      have y1 : wr.cell? ⟨w.heap.size, 1, none⟩ = some (.int .i64 0) := (blk_cell hx.out 1).trans rfl
      have y2 : wr.cell? ⟨w.heap.size, 2, none⟩ = some (.int .i64 0) := (blk_cell hx.out 2).trans rfl
      clear hqr
      go_wp2
      (try simp only [Exit.inBlock, Exit.then])
      have o5 := three_only wr w.heap.size (.int .i64 0) (.int .i64 0) (.int .i64 0)
      have x5 := three_blk hx.out (.int .i64 0) (.int .i64 0) (.int .i64 0)
      unfold three at o5 x5
      refine bodyPost_ret (results_ct rfl _ _ w.heap.size 137 #[.int .i64 0, .int .i64 0, .int .i64 0] (0, 0) _ rfl x5 Try.underlying137 rfl (by kernel_rfl)) rfl ?_
      exact ⟨zT, false, _, [], rfl, .inl ⟨rfl, rfl, rfl⟩, (hI.out.only o5 (fun k hk e => by have := (hQs.out k hk).2; omega)).mono (fun k hk => (hQs.out k hk).1), hO.out, ho.out.then o5 (fun k hk e => by omega)⟩
    · obtain ⟨g, cap, cur, e, hbg, hokg, hcap, hF⟩ := flat_form hI.out.row hne
      subst e
      have hpos : 0 < H'.length := List.length_pos_iff.2 hne
      obtain ⟨x, hxx⟩ : ∃ x, x = gt H' 0 := ⟨_, rfl⟩
      have hc3 := hF.cells3 (i := 0) (x := x) (by rw [hxx]; exact gt_some hpos)
      obtain ⟨a0, a1, a2⟩ := hc3
      rw [Nat.zero_mul] at a0 a1 a2
      rw [Nat.zero_add] at a1 a2
      obtain ⟨n, hn⟩ : ∃ n, n = H'.length := ⟨_, rfl⟩
      rw [← hn] at hqr
      have c0 : wr.cell? ⟨q, 0, none⟩ = some (.slice (some ⟨g, 0, none⟩) n cap) := (blk_cell hqr 0).trans rfl
      have p1 : decide ((0 : Int) < (n : Int)) = true := decide_eq_true (by omega)
      have p2 : decide (0 < n) = true := decide_eq_true (by omega)
      have p3 : ((0 : Int) < (n : Int)) = True := eq_true (by omega)
      have p4 : (0 < n) = True := eq_true (by omega)
      have hgi : goodI x.2.2 := hO.out.goods x (by rw [hxx]; exact gt_mem hpos)
      have HX := Aside0.mk (And.intro hxx (And.intro hn hgi))
      replace hne := Aside0.mk hne
      clear hqr hF hbg hokg hcap hpos hxx hn hgi
      go_upto_region 5 with fail
      obtain ⟨W1, hW1⟩ : ∃ W1, W1 = wr.alloc (Obj.cells #[.int .i64 x.1, .int .i64 x.2.1, .int .i64 x.2.2] 137) := ⟨_, rfl⟩
      have b1 : Below wr.heap.size wr W1 := by rw [hW1]; exact (Below.refl _ _).alloc (Nat.le_refl _) _
      have s1 : W1.heap.size = wr.heap.size + 1 := by rw [hW1]; simp
      have x1 : W1.heap[wr.heap.size]? = some (.cells #[.int .i64 x.1, .int .i64 x.2.1, .int .i64 x.2.2] 137 (0, 0)) := by rw [hW1]; exact heap_alloc_new wr _
      rw [← hW1]
      have k1 := hI.out.only (Only.ofBelow (F := fun _ => False) b1) (fun _ _ h => h)
      have d1 : W1.cell? ⟨q, 1, none⟩ = some (.map (some mb)) := (blk_cell k1.blk 1).trans rfl
      have d2 : W1.cell? ⟨wr.heap.size, 2, none⟩ = some (.int .i64 x.2.2) := (blk_cell x1 2).trans rfl
      have hlk := fun (u : World) (hu : Below W1.heap.size W1 u) => tlook (k1.only (Only.ofBelow (F := fun _ => False) hu) (fun _ _ h => h)).map_ HX.out.2.2
      obtain ⟨y, hy⟩ : ∃ y, y = (aget M x.2.2).getD zT := ⟨_, rfl⟩
      obtain ⟨r, hr⟩ : ∃ r, r = (aget M x.2.2).isSome := ⟨_, rfl⟩
      rw [← hy, ← hr] at hlk
      have hl0 := hlk W1.drew (below_drew (Below.refl _ _))
      replace hlk := Aside0.mk hlk
      replace hy := Aside0.mk hy
      replace hr := Aside0.mk hr
      replace k1 := Aside0.mk k1
      replace b1 := Aside0.mk b1
      replace s1 := Aside0.mk s1
      replace x1 := Aside0.mk x1
      clear hW1 c0 a0 a1 a2 p1 p2 p3 p4
      refine start_ (n := 13) (S := fun w' => w'.cell? ⟨q, 1, none⟩ = some (.map (some mb)) ∧ w'.cell? ⟨wr.heap.size, 2, none⟩ = some (.int .i64 x.2.2) ∧ (Instr.lookup 131 (.map (some mb)) (.int .i64 x.2.2) true).run Try.prog w' = .ok (.tuple #[.agg #[.int .i64 y.1, .int .i64 y.2.1, .int .i64 y.2.2], .bool r]) w') (ds := [11]) #[false, false, false, false, false, false, false, false, false, false, false, false, false] (by kernel_rfl) rfl rfl ⟨d1, d2, hl0⟩ (fun hHeld => ?_)
      refine pure_ (i := 0) (N := some 23) (v := ?_) (a' := ?_) #[true, false, false, false, false, false, false, false, false, false, false, false, false] rfl rfl (by kernel_rfl) (fun _ _ _ h => h) (Or.inl ⟨by rfl, ?_⟩) ?_ ?_
      rotate_left
      · intro w'
        go_simp
        with_reducible rfl
      rotate_left
      · simp only [Act.put, List.setIfInBounds_toArray, List.set_cons_zero, List.set_cons_succ, i64_w, i32_w]
        rfl
      refine pure_ (i := 1) (N := some 24) (v := ?_) (a' := ?_) #[true, true, false, false, false, false, false, false, false, false, false, false, false] rfl rfl (by kernel_rfl) (fun _ _ _ h => h) (Or.inl ⟨by rfl, ?_⟩) ?_ ?_
      rotate_left
      · intro w'
        go_simp
        with_reducible rfl
      rotate_left
      · simp only [Act.put, List.setIfInBounds_toArray, List.set_cons_zero, List.set_cons_succ, i64_w, i32_w]
        rfl
      refine pure_ (i := 2) (N := some 25) (v := ?_) (a' := ?_) #[true, true, true, false, false, false, false, false, false, false, false, false, false] rfl rfl (by kernel_rfl) (fun _ _ _ h => h) (Or.inl ⟨by rfl, ?_⟩) ?_ ?_
      rotate_left
      · intro w'
        go_simp
        with_reducible rfl
      rotate_left
      · simp only [Act.put, List.setIfInBounds_toArray, List.set_cons_zero, List.set_cons_succ, i64_w, i32_w]
        rfl
      refine pure_ (i := 4) (N := some 27) (v := ?_) (a' := ?_) #[true, true, true, false, true, false, false, false, false, false, false, false, false] rfl rfl (by kernel_rfl) (fun _ _ _ h => h) (Or.inl ⟨by rfl, ?_⟩) ?_ ?_
      rotate_left
      · intro w'
        go_simp
        with_reducible rfl
      rotate_left
      · simp only [Act.put, List.setIfInBounds_toArray, List.set_cons_zero, List.set_cons_succ, i64_w, i32_w]
        rfl
      refine take_ (i := 3) (N := some 26) (v := ?_) (a' := ?_) #[true, true, true, true, true, false, false, false, false, false, false, false, false] rfl rfl (by kernel_rfl) (fun _ _ _ h => h) (Or.inl ⟨by rfl, ?_⟩) hHeld ?_ ?_
      rotate_left
      · rintro w' ⟨s0, s1, s2⟩
        go_simp
        with_reducible rfl
      rotate_left
      · simp only [Act.put, List.setIfInBounds_toArray, List.set_cons_zero, List.set_cons_succ, i64_w, i32_w]
        rfl
      refine take_ (i := 5) (N := some 28) (v := ?_) (a' := ?_) #[true, true, true, true, true, true, false, false, false, false, false, false, false] rfl rfl (by kernel_rfl) (fun _ _ _ h => h) (Or.inl ⟨by rfl, ?_⟩) hHeld ?_ ?_
      rotate_left
      · rintro w' ⟨s0, s1, s2⟩
        go_simp
        with_reducible rfl
      rotate_left
      · simp only [Act.put, List.setIfInBounds_toArray, List.set_cons_zero, List.set_cons_succ, i64_w, i32_w]
        rfl
      refine take_ (i := 6) (N := some 29) (v := ?_) (a' := ?_) #[true, true, true, true, true, true, true, false, false, false, false, false, false] rfl rfl (by kernel_rfl) (fun _ _ _ h => h) (Or.inl ⟨by rfl, ?_⟩) hHeld ?_ ?_
      rotate_left
      · rintro w' ⟨s0, s1, s2⟩
        go_simp
        with_reducible rfl
      rotate_left
      · simp only [Act.put, List.setIfInBounds_toArray, List.set_cons_zero, List.set_cons_succ, i64_w, i32_w]
        rfl
      refine pure_ (i := 7) (N := some 22) (v := ?_) (a' := ?_) #[true, true, true, true, true, true, true, true, false, false, false, false, false] rfl rfl (by kernel_rfl) (fun _ _ _ h => h) (Or.inl ⟨by rfl, ?_⟩) ?_ ?_
      rotate_left
      · intro w'
        go_simp
        with_reducible rfl
      rotate_left
      · simp only [Act.put, List.setIfInBounds_toArray, List.set_cons_zero, List.set_cons_succ, i64_w, i32_w]
        rfl
      refine pure_ (i := 8) (N := some 30) (v := ?_) (a' := ?_) #[true, true, true, true, true, true, true, true, true, false, false, false, false] rfl rfl (by kernel_rfl) (fun _ _ _ h => h) (Or.inl ⟨by rfl, ?_⟩) ?_ ?_
      rotate_left
      · intro w'
        go_simp
        with_reducible rfl
      rotate_left
      · simp only [Act.put, List.setIfInBounds_toArray, List.set_cons_zero, List.set_cons_succ, i64_w, i32_w]
        rfl
      refine pure_ (i := 9) (N := some 31) (v := ?_) (a' := ?_) #[true, true, true, true, true, true, true, true, true, true, false, false, false] rfl rfl (by kernel_rfl) (fun _ _ _ h => h) (Or.inl ⟨by rfl, ?_⟩) ?_ ?_
      rotate_left
      · intro w'
        go_simp
        with_reducible rfl
      rotate_left
      · simp only [Act.put, List.setIfInBounds_toArray, List.set_cons_zero, List.set_cons_succ, i64_w, i32_w]
        rfl
      refine one_ (i := 10) (N := some 5) #[true, true, true, true, true, true, true, true, true, true, true, false, false] rfl rfl (by kernel_rfl) (by decide) (fun K hK => ?_)
      refine value_ (w1 := ?_) (v := ?_) (by rfl) rfl ?_ ?_
      rotate_left 2
      · go_simp
        constructor
        · rfl
        · rfl
      obtain ⟨WA, hWA⟩ : ∃ WA, WA = W1.drew.alloc (Obj.cells #[.int .i64 0, .int .i64 0, .int .i64 0] 137) := ⟨_, rfl⟩
      have bA : Below W1.heap.size W1 WA := by rw [hWA]; exact (below_drew (Below.refl _ _)).alloc (Nat.le_refl _) _
      have xA : WA.heap[W1.heap.size]? = some (.cells #[.int .i64 0, .int .i64 0, .int .i64 0] 137 (0, 0)) := by rw [hWA]; exact heap_alloc_new W1.drew _
      rw [show (W1.alloc (Obj.cells #[.int .i64 0, .int .i64 0, .int .i64 0] 137)).drew = WA from hWA.symm]
      clear hWA
      have e1 : WA.cell? ⟨q, 1, none⟩ = some (.map (some mb)) := pw_cell_below bA d1
      have e2 : WA.cell? ⟨wr.heap.size, 2, none⟩ = some (.int .i64 x.2.2) := pw_cell_below bA d2
      have e3 := hlk.out WA bA
      have f0 := blk_frozen xA 0
      have f1 := blk_frozen xA 1
      have f2 := blk_frozen xA 2
      have g0 : WA.cell? ⟨W1.heap.size, 0, none⟩ = some (.int .i64 0) := (blk_cell xA 0).trans rfl
      have g1 : WA.cell? ⟨W1.heap.size, 1, none⟩ = some (.int .i64 0) := (blk_cell xA 1).trans rfl
      have g2 : WA.cell? ⟨W1.heap.size, 2, none⟩ = some (.int .i64 0) := (blk_cell xA 2).trans rfl
      replace bA := Aside0.mk bA
      replace xA := Aside0.mk xA
      refine hK.out _ _ ⟨e1, e2, e3⟩ (fun hHeld => ?_)
      clear hK K
      refine norm_ (a' := ?_) ?_ ?_
      rotate_left
      · show Act.put _ (some 5) _ = _
        simp only [Act.put, List.setIfInBounds_toArray, List.set_cons_zero, List.set_cons_succ, i64_w, i32_w]
        rfl
      refine last_ (i := 11) (N := none) #[true, true, true, true, true, true, true, true, true, true, true, true, false] rfl rfl (by kernel_rfl) (by decide) (fun K hK => ?_)
      refine skip_ (w1 := ?_) (by rfl) rfl ?_ ?_
      rotate_left
      · go_simp
        rfl
      refine hK.out _ _ ?_
      clear hK K
      refine pure_ (i := 12) (N := some 6) (v := ?_) (a' := ?_) #[true, true, true, true, true, true, true, true, true, true, true, true, true] rfl rfl (by kernel_rfl) (fun _ _ _ h => h) (Or.inl ⟨by rfl, ?_⟩) ?_ ?_
      rotate_left
      · intro w'
        go_simp
        with_reducible rfl
      rotate_left
      · simp only [Act.put, List.setIfInBounds_toArray, List.set_cons_zero, List.set_cons_succ, i64_w, i32_w]
        rfl
      refine done_ (by kernel_rfl) ?_
      have o2 := three_only WA W1.heap.size (.int .i64 y.1) (.int .i64 y.2.1) (.int .i64 y.2.2)
      have y2 := three_blk xA.out (.int .i64 y.1) (.int .i64 y.2.1) (.int .i64 y.2.2)
      obtain ⟨W2, hW2⟩ : ∃ W2, W2 = three WA W1.heap.size (.int .i64 y.1) (.int .i64 y.2.1) (.int .i64 y.2.2) := ⟨_, rfl⟩
      rw [← hW2] at o2 y2
      have hW2' : W2 = ((WA.setCell ⟨W1.heap.size, 0, none⟩ (.int .i64 y.1)).setCell ⟨W1.heap.size, 1, none⟩ (.int .i64 y.2.1)).setCell ⟨W1.heap.size, 2, none⟩ (.int .i64 y.2.2) := hW2
      rw [← hW2']
      have b2 : Below W1.heap.size W1 W2 := below_only bA.out o2 (bA.out.size) (fun k hk e => by omega)
      have bw2 : Below wr.heap.size wr W2 := b1.out.trans (b2.mono b1.out.size)
      have k2 := Aside0.mk (hI.out.only (Only.ofBelow (F := fun _ => False) bw2) (fun _ _ h => h))
      have x2 := Aside0.mk ((bw2.block _ (blk_lt hx.out)).trans hx.out)
      have xx2 : W2.heap[wr.heap.size]? = _ := (b2.block _ (blk_lt x1.out)).trans x1.out
      clear hW2 hW2' f0 f1 f2 g0 g1 g2 e1 e2 e3 d1 d2 hl0
      have c0 : W2.cell? ⟨q, 0, none⟩ = some (.slice (some ⟨g, 0, none⟩) H'.length cap) := (blk_cell k2.out.blk 0).trans rfl
      have z0 : W2.cell? ⟨wr.heap.size, 0, none⟩ = some (.int .i64 x.1) := (blk_cell xx2 0).trans rfl
      have z1 : W2.cell? ⟨wr.heap.size, 1, none⟩ = some (.int .i64 x.2.1) := (blk_cell xx2 1).trans rfl
      have z2 : W2.cell? ⟨wr.heap.size, 2, none⟩ = some (.int .i64 x.2.2) := (blk_cell xx2 2).trans rfl
      have v0 : W2.cell? ⟨W1.heap.size, 0, none⟩ = some (.int .i64 y.1) := (blk_cell y2 0).trans rfl
      have v1 : W2.cell? ⟨W1.heap.size, 1, none⟩ = some (.int .i64 y.2.1) := (blk_cell y2 1).trans rfl
      have v2 : W2.cell? ⟨W1.heap.size, 2, none⟩ = some (.int .i64 y.2.2) := (blk_cell y2 2).trans rfl
      have hgd := guard137
      have heq := eql137 y x
      have o2 := Aside0.mk (Only.ofBelow (F := Q) bw2)
      replace xx2 := Aside0.mk xx2
      clear b2 bw2 y2
      by_cases hsm : aget M x.2.2 = some x
      · have hrt : r = true := by rw [hr.out, hsm]; rfl
        have hyx : y = x := by rw [hy.out, hsm]; rfl
        subst hrt
        rw [hyx, decide_eq_true (rfl : x = x)] at heq
        rw [hyx] at v0 v1 v2
        have f0 := blk_frozen x2.out 0
        have f1 := blk_frozen x2.out 1
        have f2 := blk_frozen x2.out 2
        have t0 : W2.cell? ⟨w.heap.size, 0, none⟩ = some (.int .i64 0) := (blk_cell x2.out 0).trans rfl
        have t1 : W2.cell? ⟨w.heap.size, 1, none⟩ = some (.int .i64 0) := (blk_cell x2.out 1).trans rfl
        have t2 : W2.cell? ⟨w.heap.size, 2, none⟩ = some (.int .i64 0) := (blk_cell x2.out 2).trans rfl
        replace hsm := Aside0.mk hsm
        replace hyx := Aside0.mk hyx
        go_wp2
        (try simp only [Exit.inBlock, Exit.then])
        have o5 := three_only W2 w.heap.size (.int .i64 x.1) (.int .i64 x.2.1) (.int .i64 x.2.2)
        have x5 := three_blk x2.out (.int .i64 x.1) (.int .i64 x.2.1) (.int .i64 x.2.2)
        unfold three at o5 x5
        refine bodyPost_ret (results_ct rfl _ _ w.heap.size 137 #[.int .i64 x.1, .int .i64 x.2.1, .int .i64 x.2.2] (0, 0) _ rfl x5 Try.underlying137 rfl (by kernel_rfl)) rfl ?_
        exact ⟨x, true, _, H', rfl, .inr ⟨hne.out, by rw [← HX.out.1]; exact hsm.out, HX.out.1, rfl⟩, (k2.out.only o5 (fun k hk e => by have := (hQs.out k hk).2; omega)).mono (fun k hk => (hQs.out k hk).1), hO.out, (ho.out.trans o2.out).then o5 (fun k hk e => by omega)⟩
      · have hst := Aside0.mk (show aget M (gt H' 0).2.2 ≠ some (gt H' 0) by rw [← HX.out.1]; exact hsm)
        cases hrb : r with
        | false =>
          subst hrb
          clear heq hgd
          replace hsm := Aside0.mk hsm
          have hpo := heapPop_calls (w := W2) k2.out.blk k2.out.row (fun hk => hk.2.1 rfl) hne.out hO.out.heap (by have := hO.out.size; have := HQ.out.2.2.2.2.2.2; omega)
          go_wp2_with (go_at_call 89; refine hpo.mono ?_; rintro e W3 ⟨rfl, ⟨v3, hq3, hr3⟩, ho3⟩; replace hq3 := Aside0.mk hq3; replace hr3 := Aside0.mk hr3; replace ho3 := Aside0.mk ho3)
          go_roundg H'.length
          case measure => exact hk.out
          case rel =>
            have hpos : 0 < H'.length := List.length_pos_iff.2 hne.out
            obtain ⟨p1, p2, p3⟩ := pop_parts hO.out.heap hne.out
            refine ⟨v3, _, ⟨by rw [p3]; omega⟩, ⟨⟨hq3.out, k2.out.map_.only ho3.out (fun e => by rcases e with e | e; exact HQ.out.2.2.1 e.symm; exact e.2.2 rfl), hr3.out, k2.out.qq, k2.out.qm, k2.out.ne, k2.out.base⟩⟩, ⟨hO.out.stale hne.out hst.out⟩, ⟨(ho3.out.block _ (blk_lt x2.out) (fun e => by rcases e with e | e; have := HQ.out.2.2.2.2.1; omega; have := (hQs.out _ e.1).2; omega)).trans x2.out⟩, ⟨(ho.out.trans o2.out).then ho3.out (fun k _ e => by rcases e with e | e; exact e ▸ HQ.out.1; exact (hQs.out _ e.1).1)⟩⟩
        | true =>
          subst hrb
          have hyx : ¬ (y = x) := by
            intro e
            obtain ⟨y', hy'⟩ := Option.isSome_iff_exists.1 hr.out.symm
            have h2 := hy.out
            rw [hy'] at h2
            have h3 : y = y' := h2
            exact hsm (by rw [hy', ← h3, e])
          rw [decide_eq_false hyx] at heq
          replace hyx := Aside0.mk hyx
          replace hsm := Aside0.mk hsm
          have hpo := heapPop_calls (w := W2) k2.out.blk k2.out.row (fun hk => hk.2.1 rfl) hne.out hO.out.heap (by have := hO.out.size; have := HQ.out.2.2.2.2.2.2; omega)
          go_wp2_with (go_at_call 89; refine hpo.mono ?_; rintro e W3 ⟨rfl, ⟨v3, hq3, hr3⟩, ho3⟩; replace hq3 := Aside0.mk hq3; replace hr3 := Aside0.mk hr3; replace ho3 := Aside0.mk ho3)
          go_roundg H'.length
          case measure => exact hk.out
          case rel =>
            have hpos : 0 < H'.length := List.length_pos_iff.2 hne.out
            obtain ⟨p1, p2, p3⟩ := pop_parts hO.out.heap hne.out
            refine ⟨v3, _, ⟨by rw [p3]; omega⟩, ⟨⟨hq3.out, k2.out.map_.only ho3.out (fun e => by rcases e with e | e; exact HQ.out.2.2.1 e.symm; exact e.2.2 rfl), hr3.out, k2.out.qq, k2.out.qm, k2.out.ne, k2.out.base⟩⟩, ⟨hO.out.stale hne.out hst.out⟩, ⟨(ho3.out.block _ (blk_lt x2.out) (fun e => by rcases e with e | e; have := HQ.out.2.2.2.2.1; omega; have := (hQs.out _ e.1).2; omega)).trans x2.out⟩, ⟨(ho.out.trans o2.out).then ho3.out (fun k _ e => by rcases e with e | e; exact e ▸ HQ.out.1; exact (hQs.out _ e.1).1)⟩⟩
end
end Go.Proofs.Ytljckmiphkoipaa

/-
  A queue by time: Next, Take, Due.
-/
namespace Go.Proofs.Ytljckmiphkoipaa
set_option linter.unusedVariables false
set_option linter.unusedSimpArgs false
open Go.RowKit Go.MapKept Go.Maps Go.Proofs.YtljckmiphkoipaaW.PrintWords Go.Proofs.YtljckmiphkoipaaW.PrintLast Go.Proofs.YtljckmiphkoipaaW.PrintMore

theorem TopOf.head {H : List Tm} {M : List (Int × Tm)} {T : Int} {l : List Tm} {x : Tm} {b : Bool} (h : TopOf H M x b) (hO : TimesOk H M T l) : pr x = (l.map pr).headD (0, 0) ∧ b = decide (l.map pr ≠ []) := by
  rcases h with ⟨rfl, rfl, rfl⟩ | ⟨hne, hg, rfl, rfl⟩
  · have := hO.nil
    subst this
    exact ⟨rfl, rfl⟩
  · obtain ⟨l', rfl⟩ := hO.top hne hg
    exact ⟨rfl, by simp⟩

section
variable {w : World} {base q : Nat} {Q : Nat → Prop} {n : Int} {lp : List (Int × Int)}
set_option maxRecDepth 100000 in
set_option maxHeartbeats 4000000 in
theorem tnext_calls (h : IsTimes w base q Q lp n) (hn : n < 7000000000001) : Calls Try.prog 84 #[.pointer (some ⟨q, 0, none⟩)] w fun e w' => e = .returned (.tuple #[.int .i64 (lp.headD (0, 0)).1, .int .i64 (lp.headD (0, 0)).2, .bool (decide (lp ≠ []))]) ∧ IsTimes w' base q Q lp n ∧ Only Q w w' := by
  obtain ⟨mb, v, H, M, T, l, h1, h2, h3, rfl⟩ := h
  have hc := top_at h1 h2 (by omega)
  replace h3 := Aside0.mk h3
  clear h1 h2 hn
  go_enter Try.func84, Try.ntmps84
  go_upto_region 2 with (go_at_call 88; refine hc.mono ?_; rintro e W1 ⟨x, b, v', H', rfl, ht, hI, hO, ho⟩; replace ht := Aside0.mk ht; replace hI := Aside0.mk hI; replace hO := Aside0.mk hO; replace ho := Aside0.mk ho)
  obtain ⟨W2, hW2⟩ : ∃ W2, W2 = W1.alloc (Obj.cells #[.int .i64 x.1, .int .i64 x.2.1, .int .i64 x.2.2] 137) := ⟨_, rfl⟩
  have b2 : Below W1.heap.size W1 W2 := by rw [hW2]; exact (Below.refl _ _).alloc (Nat.le_refl _) _
  have x2 : W2.heap[W1.heap.size]? = some (.cells #[.int .i64 x.1, .int .i64 x.2.1, .int .i64 x.2.2] 137 (0, 0)) := by rw [hW2]; exact heap_alloc_new W1 _
  rw [← hW2]
  have z0 : W2.cell? ⟨W1.heap.size, 0, none⟩ = some (.int .i64 x.1) := (blk_cell x2 0).trans rfl
  have z2 : W2.cell? ⟨W1.heap.size, 2, none⟩ = some (.int .i64 x.2.2) := (blk_cell x2 2).trans rfl
  replace b2 := Aside0.mk b2
  clear hW2 x2
  refine start_ (n := 8) (S := fun w' => w'.cell? ⟨W1.heap.size, 0, none⟩ = some (.int .i64 x.1) ∧ w'.cell? ⟨W1.heap.size, 2, none⟩ = some (.int .i64 x.2.2)) (ds := []) #[false, false, false, false, false, false, false, false] (by kernel_rfl) rfl rfl ⟨z0, z2⟩ (fun hHeld => ?_)
  refine pure_ (i := 0) (N := some 12) (v := ?_) (a' := ?_) #[true, false, false, false, false, false, false, false] rfl rfl (by kernel_rfl) (fun _ _ _ h => h) (Or.inl ⟨by rfl, ?_⟩) ?_ ?_
  rotate_left
  · intro w'
    go_simp
    with_reducible rfl
  rotate_left
  · simp only [Act.put, List.setIfInBounds_toArray, List.set_cons_zero, List.set_cons_succ, i64_w, i32_w]
    rfl
  refine pure_ (i := 2) (N := some 14) (v := ?_) (a' := ?_) #[true, false, true, false, false, false, false, false] rfl rfl (by kernel_rfl) (fun _ _ _ h => h) (Or.inl ⟨by rfl, ?_⟩) ?_ ?_
  rotate_left
  · intro w'
    go_simp
    with_reducible rfl
  rotate_left
  · simp only [Act.put, List.setIfInBounds_toArray, List.set_cons_zero, List.set_cons_succ, i64_w, i32_w]
    rfl
  refine pure_ (i := 4) (N := some 16) (v := ?_) (a' := ?_) #[true, false, true, false, true, false, false, false] rfl rfl (by kernel_rfl) (fun _ _ _ h => h) (Or.inl ⟨by rfl, ?_⟩) ?_ ?_
  rotate_left
  · intro w'
    go_simp
    with_reducible rfl
  rotate_left
  · simp only [Act.put, List.setIfInBounds_toArray, List.set_cons_zero, List.set_cons_succ, i64_w, i32_w]
    rfl
  refine take_ (i := 1) (N := some 13) (v := ?_) (a' := ?_) #[true, true, true, false, true, false, false, false] rfl rfl (by kernel_rfl) (fun _ _ _ h => h) (Or.inl ⟨by rfl, ?_⟩) hHeld ?_ ?_
  rotate_left
  · rintro w' ⟨s0, s1⟩
    go_simp
    with_reducible rfl
  rotate_left
  · simp only [Act.put, List.setIfInBounds_toArray, List.set_cons_zero, List.set_cons_succ, i64_w, i32_w]
    rfl
  refine pure_ (i := 5) (N := some 2) (v := ?_) (a' := ?_) #[true, true, true, false, true, true, false, false] rfl rfl (by kernel_rfl) (fun _ _ _ h => h) (Or.inl ⟨by rfl, ?_⟩) ?_ ?_
  rotate_left
  · intro w'
    go_simp
    with_reducible rfl
  rotate_left
  · simp only [Act.put, List.setIfInBounds_toArray, List.set_cons_zero, List.set_cons_succ, i64_w, i32_w]
    rfl
  refine take_ (i := 3) (N := some 15) (v := ?_) (a' := ?_) #[true, true, true, true, true, true, false, false] rfl rfl (by kernel_rfl) (fun _ _ _ h => h) (Or.inl ⟨by rfl, ?_⟩) hHeld ?_ ?_
  rotate_left
  · rintro w' ⟨s0, s1⟩
    go_simp
    with_reducible rfl
  rotate_left
  · simp only [Act.put, List.setIfInBounds_toArray, List.set_cons_zero, List.set_cons_succ, i64_w, i32_w]
    rfl
  refine pure_ (i := 6) (N := some 3) (v := ?_) (a' := ?_) #[true, true, true, true, true, true, true, false] rfl rfl (by kernel_rfl) (fun _ _ _ h => h) (Or.inl ⟨by rfl, ?_⟩) ?_ ?_
  rotate_left
  · intro w'
    go_simp
    with_reducible rfl
  rotate_left
  · simp only [Act.put, List.setIfInBounds_toArray, List.set_cons_zero, List.set_cons_succ, i64_w, i32_w]
    rfl
  refine pure_ (i := 7) (N := some 4) (v := ?_) (a' := ?_) #[true, true, true, true, true, true, true, true] rfl rfl (by kernel_rfl) (fun _ _ _ h => h) (Or.inl ⟨by rfl, ?_⟩) ?_ ?_
  rotate_left
  · intro w'
    go_simp
    with_reducible rfl
  rotate_left
  · simp only [Act.put, List.setIfInBounds_toArray, List.set_cons_zero, List.set_cons_succ, i64_w, i32_w]
    rfl
  refine done_ (by kernel_rfl) ?_
  go_wp2
  (try simp only [Exit.inBlock, Exit.then])
  refine bodyPost_ret (results_tmp3 rfl _ _ _) rfl ?_
  obtain ⟨e1, e2⟩ := ht.out.head hO.out
  have o2 : Only Q w W2.drew := (ho.out.trans (Only.ofBelow b2.out)).drew
  have b3 : Below W1.heap.size W1 W2.drew := below_drew b2.out
  refine ⟨by rw [← e1, ← e2]; rfl, ⟨mb, v', H', M, T, l, hI.out.only (Only.ofBelow (F := fun _ => False) b3) (fun _ _ h => h), hO.out, h3.out, rfl⟩, o2⟩
/-- What Take tells, and what it leaves. -/
def takeV (lp : List (Int × Int)) (now : Int) : Int × Bool := if lp ≠ [] ∧ (lp.headD (0, 0)).1 ≤ now then ((lp.headD (0, 0)).2, true) else (0, false)
def takeP (lp : List (Int × Int)) (now : Int) : List (Int × Int) := if lp ≠ [] ∧ (lp.headD (0, 0)).1 ≤ now then lp.drop 1 else lp
set_option maxRecDepth 100000 in
set_option maxHeartbeats 8000000 in
theorem ttake_calls (h : IsTimes w base q Q lp n) (hn : n < 7000000000001) (now : Int) : Calls Try.prog 61 #[.pointer (some ⟨q, 0, none⟩), .int .i64 now] w fun e w' => e = .returned (.tuple #[.int .i64 (takeV lp now).1, .bool (takeV lp now).2]) ∧ IsTimes w' base q Q (takeP lp now) n ∧ Only Q w w' := by
  obtain ⟨mb, v, H, M, T, l, h1, h2, h3, rfl⟩ := h
  have hc := top_at h1 h2 (by omega)
  have HQ := Aside0.mk (And.intro h1.qq (And.intro h1.qm (And.intro h1.ne (And.intro h3 (show T < 7000000000001 by omega)))))
  clear h1 h2 hn h3
  go_enter Try.func61, Try.ntmps61
  go_upto_region 2 with (go_at_call 88; refine hc.mono ?_; rintro e W1 ⟨x, b, v', H', rfl, ht, hI, hO, ho⟩; replace ht := Aside0.mk ht; replace hI := Aside0.mk hI; replace hO := Aside0.mk hO; replace ho := Aside0.mk ho)
  obtain ⟨W2, hW2⟩ : ∃ W2, W2 = W1.alloc (Obj.cells #[.int .i64 x.1, .int .i64 x.2.1, .int .i64 x.2.2] 137) := ⟨_, rfl⟩
  have b2 : Below W1.heap.size W1 W2 := by rw [hW2]; exact (Below.refl _ _).alloc (Nat.le_refl _) _
  have x2 : W2.heap[W1.heap.size]? = some (.cells #[.int .i64 x.1, .int .i64 x.2.1, .int .i64 x.2.2] 137 (0, 0)) := by rw [hW2]; exact heap_alloc_new W1 _
  rw [← hW2]
  obtain ⟨Q1, hQ1⟩ : ∃ Q1 : Nat → Prop, Q1 = (fun k => Q k ∧ base ≤ k ∧ k < W1.heap.size) := ⟨_, rfl⟩
  have hI1 := hI.out.tight
  rw [← hQ1] at hI1
  have hQs : Aside0 (∀ k, Q1 k → Q k ∧ k < W1.heap.size) := ⟨by intro k hk; rw [hQ1] at hk; exact ⟨hk.1, hk.2.2⟩⟩
  have hI2 := Aside0.mk (hI1.only (Only.ofBelow (F := fun _ => False) b2) (fun _ _ h => h))
  have o2 := Aside0.mk (ho.out.trans (Only.ofBelow (F := Q) b2))
  have z0 : W2.cell? ⟨W1.heap.size, 0, none⟩ = some (.int .i64 x.1) := (blk_cell x2 0).trans rfl
  obtain ⟨e1, e2⟩ := ht.out.head hO.out
  replace b2 := Aside0.mk b2
  replace x2 := Aside0.mk x2
  clear hW2 hc hI1 hQ1
  by_cases hd : l.map pr ≠ [] ∧ ((l.map pr).headD (0, 0)).1 ≤ now
  · have hv1 : takeV (l.map pr) now = (((l.map pr).headD (0, 0)).2, true) := if_pos hd
    have hv2 : takeP (l.map pr) now = (l.map pr).drop 1 := if_pos hd
    have HV := Aside0.mk (And.intro hv1 hv2)
    obtain ⟨hl, hle⟩ := hd
    rw [decide_eq_true hl] at e2
    subst e2
    have d1 : decide (now < x.1) = false := decide_eq_false (by rw [← e1] at hle; have : x.1 ≤ now := hle; omega)
    rcases ht.out with ⟨_, _, hh⟩ | ⟨hne, hg, hxg, _⟩
    · cases hh
    have hpo := heapPop_calls (w := W2) hI2.out.blk hI2.out.row (fun hk => hk.2.1 rfl) hne hO.out.heap (by have := hO.out.size; have := HQ.out.2.2.2.2; omega)
    have HX := Aside0.mk (And.intro hne (And.intro hg hxg))
    replace e1 := Aside0.mk e1
    replace hl := Aside0.mk hl
    clear hle hv1 hv2 hne hg hxg
    go_upto_region 5 with (go_at_call 89; refine hpo.mono ?_; rintro e W3 ⟨rfl, ⟨v3, hq3, hr3⟩, ho3⟩; replace hr3 := Aside0.mk hr3)
    have hF3 : ∀ b, (b = q ∨ (Q1 b ∧ b ≠ q ∧ b ≠ mb)) → Q b := fun b hb => by rcases hb with hb | hb; exact hb ▸ HQ.out.1; exact (hQs.out _ hb.1).1
    have hm3 : MT W3 mb M := hI2.out.map_.only ho3 (fun e => by rcases e with e | e; exact HQ.out.2.2.1 e.symm; exact e.2.2 rfl)
    have c3 : W3.cell? ⟨q, 1, none⟩ = some (.map (some mb)) := (blk_cell hq3 1).trans rfl
    have xx3 : W3.heap[W1.heap.size]? = _ := (ho3.block _ (blk_lt x2.out) (fun e => by
      rcases e with e | e
      · have := blk_lt hI.out.blk; omega
      · have := (hQs.out _ e.1).2; omega)).trans x2.out
    have z3 : W3.cell? ⟨W1.heap.size, 2, none⟩ = some (.int .i64 x.2.2) := (blk_cell xx3 2).trans rfl
    have hgi : goodI x.2.2 := hO.out.goods x (by rw [HX.out.2.2]; exact gt_mem (List.length_pos_iff.2 HX.out.1))
    have H3 := Aside0.mk (And.intro hq3 (And.intro ho3 (And.intro hF3 (And.intro hm3 (And.intro xx3 hgi)))))
    clear hq3 ho3 hF3 hm3 xx3 hgi z0 hpo
    refine start_ (n := 7) (S := fun w' => w'.cell? ⟨q, 1, none⟩ = some (.map (some mb)) ∧ w'.cell? ⟨W1.heap.size, 2, none⟩ = some (.int .i64 x.2.2)) (ds := [6]) #[false, false, false, false, false, false, false] (by kernel_rfl) rfl rfl ⟨c3, z3⟩ (fun hHeld => ?_)
    refine pure_ (i := 0) (N := some 26) (v := ?_) (a' := ?_) #[true, false, false, false, false, false, false] rfl rfl (by kernel_rfl) (fun _ _ _ h => h) (Or.inl ⟨by rfl, ?_⟩) ?_ ?_
    rotate_left
    · intro w'
      go_simp
      with_reducible rfl
    rotate_left
    · simp only [Act.put, List.setIfInBounds_toArray, List.set_cons_zero, List.set_cons_succ, i64_w, i32_w]
      rfl
    refine pure_ (i := 1) (N := some 27) (v := ?_) (a' := ?_) #[true, true, false, false, false, false, false] rfl rfl (by kernel_rfl) (fun _ _ _ h => h) (Or.inl ⟨by rfl, ?_⟩) ?_ ?_
    rotate_left
    · intro w'
      go_simp
      with_reducible rfl
    rotate_left
    · simp only [Act.put, List.setIfInBounds_toArray, List.set_cons_zero, List.set_cons_succ, i64_w, i32_w]
      rfl
    refine pure_ (i := 2) (N := some 28) (v := ?_) (a' := ?_) #[true, true, true, false, false, false, false] rfl rfl (by kernel_rfl) (fun _ _ _ h => h) (Or.inl ⟨by rfl, ?_⟩) ?_ ?_
    rotate_left
    · intro w'
      go_simp
      with_reducible rfl
    rotate_left
    · simp only [Act.put, List.setIfInBounds_toArray, List.set_cons_zero, List.set_cons_succ, i64_w, i32_w]
      rfl
    refine pure_ (i := 4) (N := some 30) (v := ?_) (a' := ?_) #[true, true, true, false, true, false, false] rfl rfl (by kernel_rfl) (fun _ _ _ h => h) (Or.inl ⟨by rfl, ?_⟩) ?_ ?_
    rotate_left
    · intro w'
      go_simp
      with_reducible rfl
    rotate_left
    · simp only [Act.put, List.setIfInBounds_toArray, List.set_cons_zero, List.set_cons_succ, i64_w, i32_w]
      rfl
    refine take_ (i := 3) (N := some 29) (v := ?_) (a' := ?_) #[true, true, true, true, true, false, false] rfl rfl (by kernel_rfl) (fun _ _ _ h => h) (Or.inl ⟨by rfl, ?_⟩) hHeld ?_ ?_
    rotate_left
    · rintro w' ⟨s0, s1⟩
      go_simp
      with_reducible rfl
    rotate_left
    · simp only [Act.put, List.setIfInBounds_toArray, List.set_cons_zero, List.set_cons_succ, i64_w, i32_w]
      rfl
    refine take_ (i := 5) (N := some 31) (v := ?_) (a' := ?_) #[true, true, true, true, true, true, false] rfl rfl (by kernel_rfl) (fun _ _ _ h => h) (Or.inl ⟨by rfl, ?_⟩) hHeld ?_ ?_
    rotate_left
    · rintro w' ⟨s0, s1⟩
      go_simp
      with_reducible rfl
    rotate_left
    · simp only [Act.put, List.setIfInBounds_toArray, List.set_cons_zero, List.set_cons_succ, i64_w, i32_w]
      rfl
    refine last_ (i := 6) (N := none) #[true, true, true, true, true, true, true] rfl rfl (by kernel_rfl) (by decide) (fun K hK => ?_)
    obtain ⟨W4, hr4, hm4, ho4, hs4⟩ := (H3.out.2.2.2.1.of_block (w' := W3.drew) rfl).run_delete keyI und131 H3.out.2.2.2.2.2 3 0
    refine value_ (w1 := W4) (v := .tuple #[]) (by rfl) rfl (by go_simp) ?_
    replace hr4 := Aside0.mk hr4
    replace hs4 := Aside0.mk hs4
    refine hK.out _ _ ?_
    clear hK K
    refine done_ (by kernel_rfl) ?_
    have o4 : Only (fun b => b = mb) W3 W4 := ⟨ho4.os, ho4.tape, ho4.output, ho4.size, ho4.block⟩
    have xx4 : W4.heap[W1.heap.size]? = _ := (o4.block _ (blk_lt H3.out.2.2.2.2.1) (by have := hI.out.map_.lt; omega)).trans H3.out.2.2.2.2.1
    have z4 : W4.cell? ⟨W1.heap.size, 2, none⟩ = some (.int .i64 x.2.2) := (blk_cell xx4 2).trans rfl
    replace o4 := Aside0.mk o4
    clear xx4 c3 z3
    go_wp2
    go_ret2
    rw [HV.out.1, HV.out.2]
    obtain ⟨hq3, ho3, hF3, hm3, xx3, hgi⟩ := H3.out
    obtain ⟨hne, hg, hxg⟩ := HX.out
    obtain ⟨l', hl'⟩ := hO.out.top hne hg
    have hO2 := hO.out
    rw [hl'] at hO2
    have hO3 := hO2.take hne rfl
    rw [← hxg] at hO3
    refine ⟨by rw [← e1.out]; rfl, ⟨mb, v3, _, adel M x.2.2, T, l', ⟨(o4.out.block _ (blk_lt hq3) HQ.out.2.2.1).trans hq3, hm4, ?_, HQ.out.1, HQ.out.2.1, HQ.out.2.2.1, hI2.out.base⟩, hO3, HQ.out.2.2.2.1, by rw [hl']; rfl⟩, ?_⟩
    · exact Kd.R_mono (R_only hr3.out o4.out (fun k hk e => hk.2.2 e)) (fun k hk => ⟨(hQs.out k hk.1).1, hk.2⟩)
    · exact (o2.out.then ho3 (fun k _ e => hF3 k e)).then o4.out (fun k _ e => e ▸ HQ.out.2.1)
  · have hv1 : takeV (l.map pr) now = (0, false) := if_neg hd
    have hv2 : takeP (l.map pr) now = l.map pr := if_neg hd
    have HV := Aside0.mk (And.intro hv1 hv2)
    by_cases hl : l.map pr = []
    · rw [decide_eq_false (by simpa using hl)] at e2
      subst e2
      replace hl := Aside0.mk hl
      replace e1 := Aside0.mk e1
      clear hd hv1 hv2
      go_wp2
      go_ret2
      rw [HV.out.1, HV.out.2]
      exact ⟨rfl, ⟨mb, v', H', M, T, l, hI2.out.mono (fun k hk => (hQs.out k hk).1), hO.out, HQ.out.2.2.2.1, rfl⟩, o2.out⟩
    · rw [decide_eq_true hl] at e2
      subst e2
      have d1 : decide (now < x.1) = true := decide_eq_true (by
        have h9 : ¬ ((l.map pr).headD (0, 0)).1 ≤ now := fun h => hd ⟨hl, h⟩
        rw [← e1] at h9
        have : ¬ x.1 ≤ now := h9
        omega)
      replace hl := Aside0.mk hl
      replace e1 := Aside0.mk e1
      clear hd hv1 hv2
      go_wp2
      go_ret2
      rw [HV.out.1, HV.out.2]
      exact ⟨rfl, ⟨mb, v', H', M, T, l, hI2.out.mono (fun k hk => (hQs.out k hk).1), hO.out, HQ.out.2.2.2.1, rfl⟩, o2.out⟩
end
end Go.Proofs.Ytljckmiphkoipaa

/-
  A queue by time: Due.
-/
namespace Go.Proofs.Ytljckmiphkoipaa
set_option linter.unusedVariables false
set_option linter.unusedSimpArgs false
open Go.RowKit Go.MapKept Go.Maps Go.Proofs.YtljckmiphkoipaaW.PrintWords Go.Proofs.YtljckmiphkoipaaW.PrintLast Go.Proofs.YtljckmiphkoipaaW.PrintMore

/-- What Due tells, and what it leaves. -/
def dueV (lp : List (Int × Int)) (now : Int) : List Int := (lp.takeWhile fun p => decide (p.1 ≤ now)).map (·.2)
def dueP (lp : List (Int × Int)) (now : Int) : List (Int × Int) := lp.dropWhile fun p => decide (p.1 ≤ now)
theorem due_yes {lp : List (Int × Int)} {now : Int} (h : lp ≠ [] ∧ (lp.headD (0, 0)).1 ≤ now) : takeV lp now = ((lp.headD (0, 0)).2, true) ∧ takeP lp now = lp.drop 1 ∧ dueV lp now = (lp.headD (0, 0)).2 :: dueV (lp.drop 1) now ∧ dueP lp now = dueP (lp.drop 1) now ∧ (lp.drop 1).length + 1 = lp.length := by
  refine ⟨if_pos h, if_pos h, ?_⟩
  cases lp with
  | nil => exact absurd rfl h.1
  | cons p lp =>
    have h2 : p.1 ≤ now := h.2
    simp [dueV, dueP, h2]
theorem due_no {lp : List (Int × Int)} {now : Int} (h : ¬ (lp ≠ [] ∧ (lp.headD (0, 0)).1 ≤ now)) : takeV lp now = (0, false) ∧ takeP lp now = lp ∧ dueV lp now = [] ∧ dueP lp now = lp := by
  refine ⟨if_neg h, if_neg h, ?_⟩
  cases lp with
  | nil => exact ⟨rfl, rfl⟩
  | cons p lp =>
    have h2 : ¬ p.1 ≤ now := fun h9 => h ⟨by simp, h9⟩
    simp [dueV, dueP, h2]
section
variable {w : World} {base q : Nat} {Q : Nat → Prop} {n : Int} {lp : List (Int × Int)}
set_option maxRecDepth 100000 in
set_option maxHeartbeats 8000000 in
theorem due_calls (h : IsTimes w base q Q lp n) (hn : n < 7000000000001) (now : Int) : Calls Try.prog 63 #[.pointer (some ⟨q, 0, none⟩), .int .i64 now] w fun e w' => ∃ v, e = .returned v ∧ (Kd.int .i64).R 3 w' w.heap.size (fun _ => True) v (dueV lp now) ∧ IsTimes w' base q Q (dueP lp now) n ∧ Only Q w w' := by
  have ht := h.tight
  have hfew := h.few
  have HH := Aside0.mk (And.intro hn hfew)
  obtain ⟨Q1, hQ1⟩ : ∃ Q1 : Nat → Prop, Q1 = (fun k => Q k ∧ base ≤ k ∧ k < w.heap.size) := ⟨_, rfl⟩
  rw [← hQ1] at ht
  have hQs : Aside0 (∀ k, Q1 k → Q k ∧ k < w.heap.size) := ⟨by intro k hk; rw [hQ1] at hk; exact ⟨hk.1, hk.2.2⟩⟩
  replace ht := Aside0.mk ht
  clear h hn hfew hQ1
  go_enter Try.func63, Try.ntmps63
  go_wp2
  go_loopg [5] (lp.length + 1) (fun kq v5 w' => ∃ (acc : List Int) (rest : List (Int × Int)), Aside0 (rest.length < kq ∧ rest.length + acc.length ≤ lp.length ∧ acc ++ dueV rest now = dueV lp now ∧ dueP rest now = dueP lp now) ∧
    Aside0 ((Kd.int .i64).R 3 w' w.heap.size (fun k => w.heap.size ≤ k) v5 acc) ∧ Aside0 (IsTimes w' base q Q1 rest n) ∧ Aside0 (Only Q1 w w'))
  case atStart => exact ⟨[], lp, ⟨by omega, by simp, by simp, rfl⟩, ⟨Kd.R_nil _ _ _ _ _⟩, ht, ⟨Only.refl _ _⟩⟩
  case round =>
    obtain ⟨acc, rest, hk, hR, hI, hO⟩ := hrel
    have hc := ttake_calls hI.out HH.out.1 now
    by_cases hd : rest ≠ [] ∧ (rest.headD (0, 0)).1 ≤ now
    · obtain ⟨e1, e2, e3, e4, e5⟩ := due_yes hd
      rw [e1, e2] at hc
      obtain ⟨z, hz⟩ : ∃ z, z = (rest.headD (0, 0)).2 := ⟨_, rfl⟩
      simp only at hc
      rw [← hz] at hc e3
      have HE := Aside0.mk (And.intro e3 (And.intro e4 e5))
      clear e1 e2 e3 e4 e5 hz hd
      go_upto_region 3 with (go_at_call 61; refine hc.mono ?_; rintro e W1 ⟨rfl, hI1, hO1⟩)
      have hR1 := Aside0.mk (R_only hR.out hO1 (fun k h1 h2 => by have := (hQs.out k h2).2; omega))
      have hOO := Aside0.mk (hO.out.trans hO1)
      have hsz := Aside0.mk hOO.out.size
      have hB1 := Aside0.mk (hOO.out.below (B := 0) (by omega) (fun i hi => by omega))
      have hal : Aside0 (acc.length + 1 ≤ 65536) := ⟨by have := hk.out.2.1; have := HE.out.2.2; have := HH.out.2; omega⟩
      replace hI1 := Aside0.mk hI1
      clear hc hO1
      go_wp2_with ((with_reducible refine gate_builtin (b := .append) (xs := #[.tmp 17, .tmp 19]) rfl ?_); at_builtin; refine Kd.R_append (Kd.int .i64) (w0 := W1) w.heap.size rfl (.tmp 17) (.tmp 19) 22 3 (.int .i64 0) 8 rfl undSI info3 rfl (by decide) (by decide) u5 acc z [.int .i64 z] (fun k => w.heap.size ≤ k) (fun _ => False) rfl rfl rfl (fun _ h => h.elim) (fun k hk => Nat.le_trans hsz.out hk) hR1.out ((Below.refl _ _).mono hsz.out) hsz.out (by have := hal.out; omega) ?_; intro v4 W2 hR2 hB2 hg2 hat2; replace hR2 := Aside0.mk hR2; replace hB2 := Aside0.mk hB2; replace hg2 := Aside0.mk hg2; clear hat2)
      go_roundg rest.length
      case measure => exact hk.out.1
      case rel =>
        have o2 : Only (fun k => some k = u5.ownBlock) W1 _ := Only.ofGrown hg2.out
        refine ⟨acc ++ [z], rest.drop 1, ⟨by have := HE.out.2.2; omega, by have := HE.out.2.2; have := hk.out.2.1; simp; omega, ?_, ?_⟩, hR2, ⟨hI1.out.only o2 (fun k h1 e => ?_)⟩, ⟨hOO.out.then o2 (fun k hk e => ?_)⟩⟩
        · rw [← hk.out.2.2.1, HE.out.1]; simp
        · rw [← hk.out.2.2.2, HE.out.2.1]
        · have := hR1.out.1 k e.symm; have := (hQs.out k h1).2; omega
        · have := hR1.out.1 k e.symm; omega
    · obtain ⟨e1, e2, e3, e4⟩ := due_no hd
      rw [e1, e2] at hc
      simp only at hc
      have HE := Aside0.mk (And.intro e3 e4)
      clear e1 e2 e3 e4 hd
      go_wp2_with (go_at_call 61; refine hc.mono ?_; rintro e W1 ⟨rfl, hI1, hO1⟩; replace hI1 := Aside0.mk hI1; replace hO1 := Aside0.mk hO1)
      go_ret
      have hR1 := R_only hR.out hO1.out (fun k h1 h2 => by have := (hQs.out k h2).2; omega)
      refine ⟨_, rfl, ?_, ?_, (hO.out.trans hO1.out).mono (fun k _ hk => (hQs.out k hk).1)⟩
      · have := hk.out.2.2.1
        rw [HE.out.1, List.append_nil] at this
        rw [← this]
        exact Kd.R_mono hR1 (fun _ _ => trivial)
      · rw [← hk.out.2.2.2, HE.out.2]
        exact hI1.out.mono (fun k hk => (hQs.out k hk).1)
end
end Go.Proofs.Ytljckmiphkoipaa

/-
  The order of a queue by time, by what it leaves: draws and new blocks alone (as slices.SortFunc asks it).
-/
namespace Go.Proofs.Ytljckmiphkoipaa
set_option linter.unusedVariables false
set_option linter.unusedSimpArgs false
open Go.RowKit Go.MapKept Go.Maps Go.Proofs.YtljckmiphkoipaaW.PrintWords Go.Proofs.YtljckmiphkoipaaW.PrintLast Go.Proofs.YtljckmiphkoipaaW.PrintMore

theorem reads_two {w : World} {g : Nat} {a b : Int} (h : w.heap[g]? = some (.cells #[.int .i64 a, .int .i64 b] 3 (0, 0))) : (Kd.int .i64).C w (some ⟨g, 0, none⟩) 2 [a, b] :=
  Kd.C_of_reads (enc := Value.int .i64) (d := (0 : Int)) ⟨rfl, by omega, fun _ => ⟨_, rfl, fun j hj => by
    match j, hj with
    | 0, _ => exact blk_cell h 0
    | 1, _ => exact blk_cell h 1⟩⟩
theorem order_parts (x y : Tm) : ∃ c1 c2, PQ.cmp_Compare_int64.f x.1 y.1 = some c1 ∧ PQ.cmp_Compare_int.f x.2.1 y.2.1 = some c2 ∧ PQ.cmp_Or_int.f 3 [c1, c2] = some (cmpT x y) := by
  have h := order_f x y
  unfold PQ.queue_order.f at h
  obtain ⟨c1, h1, h⟩ := Option.bind_eq_some_iff.1 h
  obtain ⟨c2, h2, h⟩ := Option.bind_eq_some_iff.1 h
  obtain ⟨r, h3, h⟩ := Option.bind_eq_some_iff.1 h
  cases h
  exact ⟨c1, c2, h1, h2, h3⟩
/-- Draws and new blocks alone. -/
def Grows (w w' : World) : Prop := ∃ q os, w' = Go.Sort.grow (w.drewN q) os
theorem Grows.drawn {w a b : World} (h : Grows w a) (hd : Drawn0 a b) : Grows w b := by
  obtain ⟨q, os, rfl⟩ := h
  obtain ⟨n, rfl⟩ := hd.out
  exact ⟨q + n, os, by show (⟨_, _, _, _, _⟩ : World) = ⟨_, _, _, _, _⟩; simp [Go.Sort.grow, World.drewN, Nat.add_assoc]⟩
theorem Grows.alloc {w a : World} (h : Grows w a) (o : Obj) : Grows w (a.alloc o) := by
  obtain ⟨q, os, rfl⟩ := h
  exact ⟨q, os ++ #[o], by rw [Go.Sort.alloc_eq_grow, Go.Sort.grow_grow]⟩
theorem Grows.drew {w a : World} (h : Grows w a) : Grows w a.drew := h.drawn ⟨⟨1, rfl⟩⟩
theorem Grows.refl (w : World) : Grows w w := ⟨0, #[], by simp [Go.Sort.grow, World.drewN]⟩

set_option maxRecDepth 100000 in
set_option maxHeartbeats 4000000 in
theorem order_grows (x y : Tm) (w : World) : Calls Try.prog 92 #[.agg #[.int .i64 x.1, .int .i64 x.2.1, .int .i64 x.2.2], .agg #[.int .i64 y.1, .int .i64 y.2.1, .int .i64 y.2.2]] w fun e w' => e = .returned (.int .i64 (cmpT x y)) ∧ Grows w w' := by
  obtain ⟨c1, c2, h1, h2, h3⟩ := order_parts x y
  obtain ⟨r, hr⟩ : ∃ r, r = cmpT x y := ⟨_, rfl⟩
  rw [← hr] at h3 ⊢
  have k1 := Aside0.mk (fun u => PQ.cmp_Compare_int64.calls x.1 y.1 c1 u h1)
  have k2 := Aside0.mk (fun u => PQ.cmp_Compare_int.calls x.2.1 y.2.1 c2 u h2)
  have k3 := Aside0.mk (fun (u : World) (g : Nat) (h : u.heap[g]? = some (.cells #[.int .i64 c1, .int .i64 c2] 3 (0, 0))) => (show Calls Try.prog 108 #[.slice (some ⟨g, 0, none⟩) 2 2] u fun e w' => e = .returned (.int .i64 r) ∧ Drawn0 u w' from PQ.cmp_Or_int.calls 3 (some ⟨g, 0, none⟩) 2 [c1, c2] r u (reads_two h) (Nat.le_refl _) h3))
  clear hr h1 h2 h3
  go_enter Try.func92, Try.ntmps92
  go_upto_region 1 with fail
  obtain ⟨W1, hW1⟩ : ∃ W1, W1 = (w.alloc (Obj.cells #[.int .i64 x.1, .int .i64 x.2.1, .int .i64 x.2.2] 137)).alloc (Obj.cells #[.int .i64 y.1, .int .i64 y.2.1, .int .i64 y.2.2] 137) := ⟨_, rfl⟩
  have G1 : Grows w W1 := by rw [hW1]; exact ((Grows.refl w).alloc _).alloc _
  have xb1 : W1.heap[w.heap.size]? = some (.cells #[.int .i64 x.1, .int .i64 x.2.1, .int .i64 x.2.2] 137 (0, 0)) := by
    rw [hW1]; exact blk_alloc (heap_alloc_new w _) _
  have xr1 : W1.heap[w.heap.size + 1]? = some (.cells #[.int .i64 y.1, .int .i64 y.2.1, .int .i64 y.2.2] 137 (0, 0)) := by
    have := heap_alloc_new (w.alloc (Obj.cells #[.int .i64 x.1, .int .i64 x.2.1, .int .i64 x.2.2] 137)) (Obj.cells #[.int .i64 y.1, .int .i64 y.2.1, .int .i64 y.2.2] 137)
    rw [hW1]; simpa using this
  rw [← hW1]
  have f0 : W1.cell? ⟨w.heap.size, 0, none⟩ = some (.int .i64 x.1) := (blk_cell xb1 0).trans rfl
  have f1 : W1.cell? ⟨w.heap.size, 1, none⟩ = some (.int .i64 x.2.1) := (blk_cell xb1 1).trans rfl
  have g0 : W1.cell? ⟨w.heap.size + 1, 0, none⟩ = some (.int .i64 y.1) := (blk_cell xr1 0).trans rfl
  have g1 : W1.cell? ⟨w.heap.size + 1, 1, none⟩ = some (.int .i64 y.2.1) := (blk_cell xr1 1).trans rfl
  replace G1 := Aside0.mk G1
  clear hW1 xb1 xr1
  refine start_ (n := 13) (S := fun w' => w'.cell? ⟨w.heap.size, 0, none⟩ = some (.int .i64 x.1) ∧ w'.cell? ⟨w.heap.size, 1, none⟩ = some (.int .i64 x.2.1) ∧ w'.cell? ⟨w.heap.size + 1, 0, none⟩ = some (.int .i64 y.1) ∧ w'.cell? ⟨w.heap.size + 1, 1, none⟩ = some (.int .i64 y.2.1)) (ds := [11]) #[false, false, false, false, false, false, false, false, false, false, false, false, false] (by kernel_rfl) rfl rfl ⟨f0, f1, g0, g1⟩ (fun hHeld => ?_)
  refine pure_ (i := 0) (N := some 5) (v := ?_) (a' := ?_) #[true, false, false, false, false, false, false, false, false, false, false, false, false] rfl rfl (by kernel_rfl) (fun _ _ _ h => h) (Or.inl ⟨by rfl, ?_⟩) ?_ ?_
  rotate_left
  · intro w'
    go_simp
    with_reducible rfl
  rotate_left
  · simp only [Act.put, List.setIfInBounds_toArray, List.set_cons_zero, List.set_cons_succ, i64_w, i32_w]
    rfl
  refine pure_ (i := 2) (N := some 7) (v := ?_) (a' := ?_) #[true, false, true, false, false, false, false, false, false, false, false, false, false] rfl rfl (by kernel_rfl) (fun _ _ _ h => h) (Or.inl ⟨by rfl, ?_⟩) ?_ ?_
  rotate_left
  · intro w'
    go_simp
    with_reducible rfl
  rotate_left
  · simp only [Act.put, List.setIfInBounds_toArray, List.set_cons_zero, List.set_cons_succ, i64_w, i32_w]
    rfl
  refine pure_ (i := 5) (N := some 10) (v := ?_) (a' := ?_) #[true, false, true, false, false, true, false, false, false, false, false, false, false] rfl rfl (by kernel_rfl) (fun _ _ _ h => h) (Or.inl ⟨by rfl, ?_⟩) ?_ ?_
  rotate_left
  · intro w'
    go_simp
    with_reducible rfl
  rotate_left
  · simp only [Act.put, List.setIfInBounds_toArray, List.set_cons_zero, List.set_cons_succ, i64_w, i32_w]
    rfl
  refine pure_ (i := 7) (N := some 12) (v := ?_) (a' := ?_) #[true, false, true, false, false, true, false, true, false, false, false, false, false] rfl rfl (by kernel_rfl) (fun _ _ _ h => h) (Or.inl ⟨by rfl, ?_⟩) ?_ ?_
  rotate_left
  · intro w'
    go_simp
    with_reducible rfl
  rotate_left
  · simp only [Act.put, List.setIfInBounds_toArray, List.set_cons_zero, List.set_cons_succ, i64_w, i32_w]
    rfl
  refine take_ (i := 1) (N := some 6) (v := ?_) (a' := ?_) #[true, true, true, false, false, true, false, true, false, false, false, false, false] rfl rfl (by kernel_rfl) (fun _ _ _ h => h) (Or.inl ⟨by rfl, ?_⟩) hHeld ?_ ?_
  rotate_left
  · rintro w' ⟨s0, s1, s2, s3⟩
    go_simp
    with_reducible rfl
  rotate_left
  · simp only [Act.put, List.setIfInBounds_toArray, List.set_cons_zero, List.set_cons_succ, i64_w, i32_w]
    rfl
  refine take_ (i := 3) (N := some 8) (v := ?_) (a' := ?_) #[true, true, true, true, false, true, false, true, false, false, false, false, false] rfl rfl (by kernel_rfl) (fun _ _ _ h => h) (Or.inl ⟨by rfl, ?_⟩) hHeld ?_ ?_
  rotate_left
  · rintro w' ⟨s0, s1, s2, s3⟩
    go_simp
    with_reducible rfl
  rotate_left
  · simp only [Act.put, List.setIfInBounds_toArray, List.set_cons_zero, List.set_cons_succ, i64_w, i32_w]
    rfl
  refine take_ (i := 6) (N := some 11) (v := ?_) (a' := ?_) #[true, true, true, true, false, true, true, true, false, false, false, false, false] rfl rfl (by kernel_rfl) (fun _ _ _ h => h) (Or.inl ⟨by rfl, ?_⟩) hHeld ?_ ?_
  rotate_left
  · rintro w' ⟨s0, s1, s2, s3⟩
    go_simp
    with_reducible rfl
  rotate_left
  · simp only [Act.put, List.setIfInBounds_toArray, List.set_cons_zero, List.set_cons_succ, i64_w, i32_w]
    rfl
  refine take_ (i := 8) (N := some 13) (v := ?_) (a' := ?_) #[true, true, true, true, false, true, true, true, true, false, false, false, false] rfl rfl (by kernel_rfl) (fun _ _ _ h => h) (Or.inl ⟨by rfl, ?_⟩) hHeld ?_ ?_
  rotate_left
  · rintro w' ⟨s0, s1, s2, s3⟩
    go_simp
    with_reducible rfl
  rotate_left
  · simp only [Act.put, List.setIfInBounds_toArray, List.set_cons_zero, List.set_cons_succ, i64_w, i32_w]
    rfl
  refine one_ (i := 4) (N := some 9) #[true, true, true, true, true, true, true, true, true, false, false, false, false] rfl rfl (by kernel_rfl) (by decide) (fun K hK => ?_)
  refine goes_ Try.func109 (by kernel_rfl) rfl #[.int .i64 x.1, .int .i64 y.1] (by rfl) rfl rfl (by simp only [List.map_toArray, List.map_cons, List.map_nil]; rfl) ?_
  with_reducible refine (k1.out W1.drew).mono ?_
  rintro e W2 ⟨rfl, hD2⟩
  refine ⟨_, rfl, ?_⟩
  have G2 := Aside0.mk (G1.out.drew.drawn hD2)
  have e2 : ∀ p, W2.cell? p = W1.cell? p := fun p => by obtain ⟨d, h⟩ := hD2.out; rw [h]; rfl
  have a0 := (e2 _).trans f0
  have a1 := (e2 _).trans f1
  have b0 := (e2 _).trans g0
  have b1 := (e2 _).trans g1
  clear hD2 e2
  refine hK.out _ _ ⟨a0, a1, b0, b1⟩ (fun hHeld => ?_)
  clear hK K
  refine norm_ (a' := ?_) ?_ ?_
  rotate_left
  · show Act.put _ (some 9) _ = _
    simp only [Act.put, List.setIfInBounds_toArray, List.set_cons_zero, List.set_cons_succ, i64_w, i32_w]
    rfl
  refine one_ (i := 9) (N := some 14) #[true, true, true, true, true, true, true, true, true, true, false, false, false] rfl rfl (by kernel_rfl) (by decide) (fun K hK => ?_)
  refine goes_ Try.func110 (by kernel_rfl) rfl #[.int .i64 x.2.1, .int .i64 y.2.1] (by rfl) rfl rfl (by simp only [List.map_toArray, List.map_cons, List.map_nil]; rfl) ?_
  with_reducible refine (k2.out W2).mono ?_
  rintro e W3 ⟨rfl, hD3⟩
  refine ⟨_, rfl, ?_⟩
  have G3 := Aside0.mk (G2.out.drawn hD3)
  have e3 : ∀ p, W3.cell? p = W2.cell? p := fun p => by obtain ⟨d, h⟩ := hD3.out; rw [h]; rfl
  have c0 := (e3 _).trans a0
  have c1' := (e3 _).trans a1
  have d0 := (e3 _).trans b0
  have d1 := (e3 _).trans b1
  clear hD3 e3
  refine hK.out _ _ ⟨c0, c1', d0, d1⟩ (fun hHeld => ?_)
  clear hK K
  refine norm_ (a' := ?_) ?_ ?_
  rotate_left
  · show Act.put _ (some 14) _ = _
    simp only [Act.put, List.setIfInBounds_toArray, List.set_cons_zero, List.set_cons_succ, i64_w, i32_w]
    rfl
  refine one_ (i := 10) (N := some 15) #[true, true, true, true, true, true, true, true, true, true, true, false, false] rfl rfl (by kernel_rfl) (by decide) (fun K hK => ?_)
  refine value_ (w1 := ?_) (v := ?_) (by rfl) rfl ?_ ?_
  rotate_left 2
  · go_simp
    constructor
    · rfl
    · rfl
  have b4 : Below W3.heap.size W3 (W3.alloc (Obj.cells #[.int .i64 c1, .int .i64 c2] 3)) := (Below.refl _ _).alloc (Nat.le_refl _) _
  refine hK.out _ _ ⟨pw_cell_below b4 c0, pw_cell_below b4 c1', pw_cell_below b4 d0, pw_cell_below b4 d1⟩ (fun hHeld => ?_)
  clear hK K
  refine norm_ (a' := ?_) ?_ ?_
  rotate_left
  · show Act.put _ (some 15) _ = _
    simp only [Act.put, List.setIfInBounds_toArray, List.set_cons_zero, List.set_cons_succ, i64_w, i32_w]
    rfl
  refine last_ (i := 11) (N := some 16) #[true, true, true, true, true, true, true, true, true, true, true, true, false] rfl rfl (by kernel_rfl) (by decide) (fun K hK => ?_)
  refine goes_ Try.func108 (by kernel_rfl) rfl #[.slice (some ⟨W3.heap.size, 0, none⟩) 2 2] (by rfl) rfl rfl (by simp only [List.map_toArray, List.map_cons, List.map_nil]; rfl) ?_
  with_reducible refine (k3.out _ _ (heap_alloc_new W3 _)).mono ?_
  rintro e W5 ⟨rfl, hD5⟩
  refine ⟨_, rfl, ?_⟩
  have G5 := (G3.out.alloc (Obj.cells #[.int .i64 c1, .int .i64 c2] 3)).drawn hD5
  refine hK.out _ _ ?_
  clear hK K
  refine norm_ (a' := ?_) ?_ ?_
  rotate_left
  · show Act.put _ (some 16) _ = _
    simp only [Act.put, List.setIfInBounds_toArray, List.set_cons_zero, List.set_cons_succ, i64_w, i32_w]
    rfl
  refine pure_ (i := 12) (N := some 4) (v := ?_) (a' := ?_) #[true, true, true, true, true, true, true, true, true, true, true, true, true] rfl rfl (by kernel_rfl) (fun _ _ _ h => h) (Or.inl ⟨by rfl, ?_⟩) ?_ ?_
  rotate_left
  · intro w'
    go_simp
    with_reducible rfl
  rotate_left
  · simp only [Act.put, List.setIfInBounds_toArray, List.set_cons_zero, List.set_cons_succ, i64_w, i32_w]
    rfl
  refine done_ (by kernel_rfl) ?_
  replace G5 := Aside0.mk G5
  go_wp2
  go_ret
  exact ⟨rfl, G5.out⟩
end Go.Proofs.Ytljckmiphkoipaa

/-
  slices.SortFunc of a row of a queue by time: of no element.
-/
namespace Go.Proofs.Ytljckmiphkoipaa
set_option linter.unusedVariables false
set_option linter.unusedSimpArgs false
open Go.RowKit Go.MapKept Go.Maps Go.Proofs.YtljckmiphkoipaaW.PrintWords Go.Proofs.YtljckmiphkoipaaW.PrintLast Go.Proofs.YtljckmiphkoipaaW.PrintMore

theorem insertionN (p : Option Addr) (cap : Nat) (fv : Value) (w : World) : Calls Try.prog 114 #[.slice p 0 cap, .int .i64 0, .int .i64 0, fv] w fun e w' => e = .returned (.tuple #[]) ∧ w' = w := by
  go_enter Try.func114, Try.ntmps114
  go_wp2
  refine wp_loop_rounds 1 ?_
  rw [rounds_succ]
  go_wp2
  go_end0
  exact ⟨rfl, rfl⟩
set_option maxHeartbeats 2000000 in
theorem pdqN (p : Option Addr) (cap : Nat) (lim : Int) (fv : Value) (w : World) : Calls Try.prog 106 #[.slice p 0 cap, .int .i64 0, .int .i64 0, .int .i64 lim, fv] w fun e w' => e = .returned (.tuple #[]) ∧ w' = w := by
  have hi := fun W => insertionN p cap fv W
  go_enter Try.func106, Try.ntmps106
  go_wp2
  refine wp_loop_rounds 1 ?_
  rw [rounds_succ]
  go_wp2_with (go_at_call 114; refine (hi _).mono ?_; rintro e w' ⟨rfl, rfl⟩)
  (try simp only [Exit.inBlock, Exit.then]); refine bodyPost_ret (results_none rfl _ _ _) rfl ?_
  exact ⟨rfl, rfl⟩
set_option maxHeartbeats 2000000 in
theorem sortN (p : Option Addr) (cap : Nat) (fv : Value) (w : World) : Calls Try.prog 91 #[.slice p 0 cap, fv] w fun e w' => e = .returned (.tuple #[]) ∧ w' = w := by
  have hl := Try.bits_Len 0 w (by omega) (by omega)
  have hp := fun lim W => pdqN p cap lim fv W
  go_enter Try.func91, Try.ntmps91
  go_wp2_with (first | (go_at_call 107; refine hl.mono ?_; rintro e w' ⟨rfl, rfl⟩) | (go_at_call 106; refine (hp _ _).mono ?_; rintro e w' ⟨rfl, rfl⟩))
  go_end0
  exact ⟨rfl, rfl⟩
end Go.Proofs.Ytljckmiphkoipaa

/-
  slices.SortFunc of a row of a queue by time.
-/
namespace Go.Proofs.Ytljckmiphkoipaa
set_option linter.unusedVariables false
set_option linter.unusedSimpArgs false
open Go.RowKit Go.MapKept Go.Maps Go.Proofs.YtljckmiphkoipaaW.PrintWords Go.Proofs.YtljckmiphkoipaaW.PrintLast Go.Proofs.YtljckmiphkoipaaW.PrintMore

theorem isAgg137 (w : World) : (isAgg 137).run Try.prog w = .ok true w := by kernel_rfl
theorem sizeOf137 (w : World) : (Go.sizeOf 137).run Try.prog w = .ok 3 w := by kernel_rfl
theorem ltOf_T : Go.Proofs.ltOf cmpT = ltT := by
  funext x y
  exact cmpT_lt x y
theorem swoT : Go.Sort.SWO (Go.Proofs.ltOf cmpT) := by
  rw [ltOf_T]
  refine ⟨fun x => ?_, fun x y z h1 h2 => ?_, fun x y z h1 h2 => ?_⟩
  · unfold ltT; simp
  · unfold ltT at *; simp at *; omega
  · unfold ltT at *; simp at *; omega
theorem cmpLaysT (blk off size : Nat) (w : World) : Go.Proofs.CmpLays Try.prog 92 #[] encT 3 cmpT blk off size w := fun m os dk _ x y => order_grows x y _
theorem sortT_some {w : World} {g cap : Nat} {cur : Array Value} {zs : List Tm} (hF : FlatAt encT 3 137 w g cap cur zs) (hl : zs.length < 4611686018427387904) :
    Calls Try.prog 91 #[.slice (some ⟨g, 0, none⟩) zs.length cap, .func (.func 92) #[] #[]] w fun e w' => e = .returned (.tuple #[]) ∧ ∃ zs' cur', zs'.Perm zs ∧ zs'.Pairwise (fun x y => ltT y x = false) ∧ FlatAt encT 3 137 w' g cap cur' zs' ∧ Only (fun b => b = g) w w' := by
  have eg : ∀ args w, (callFunc 92 args).run Try.prog w = .ok (.enter 92 args) w := Go.Proofs.enters_of Try.func92 (by kernel_rfl) rfl
  have hcon := Go.Proofs.AnyQ.slices_SortFunc Try.sortT 3 isAgg137 sizeOf137 encT encT_len encT_one cmpT swoT 92 #[] g 0 cap zs.toArray w eg (cmpLaysT g 0 _ w) (hF.holds encT_len) (blk_lt hF.blk) (by simpa using hl)
  change Calls Try.prog 91 #[.slice (some ⟨g, 0, none⟩) zs.toArray.size cap, .func (.func 92) #[] #[]] _ _ at hcon
  rw [List.size_toArray] at hcon
  refine hcon.mono ?_
  rintro e w' ⟨rfl, d', n, os, hp, hs, rfl⟩
  have hz : d'.size = zs.length := by have := hp.1; simpa using this
  obtain ⟨cur', h1, h2⟩ := hF.sorted (ys := d'.toList) encT_len (by simpa using hz) n os
  rw [Array.toArray_toList] at h1 h2
  refine ⟨rfl, d'.toList, cur', ?_, ?_, h1, h2⟩
  · have h3 := hp.2.2
    rw [← hz] at h3
    have e1 : d'.extract 0 d'.size = d' := by simp
    have e2 : zs.toArray.extract 0 d'.size = zs.toArray := by rw [hz]; simp
    rw [e1, e2] at h3
    simpa using h3
  · rw [ltOf_T, ← hz] at hs
    exact pairwise_of_sorted hs
theorem sortT_calls {w : World} {base : Nat} {ok : Nat → Prop} {v : Value} {zs : List Tm} (h : kT.R 137 w base ok v zs) (hl : zs.length < 4611686018427387904) :
    Calls Try.prog 91 #[v, .func (.func 92) #[] #[]] w fun e w' => e = .returned (.tuple #[]) ∧ ∃ zs', zs'.Perm zs ∧ zs'.Pairwise (fun x y => ltT y x = false) ∧ kT.R 137 w' base ok v zs' ∧ Only (fun b => some b = v.ownBlock) w w' := by
  by_cases hz : zs = []
  · subst hz
    obtain ⟨A, c, rfl, _⟩ := Kd.R_reads h
    refine (sortN A c (.func (.func 92) #[] #[]) w).mono ?_
    rintro e w' ⟨rfl, rfl⟩
    exact ⟨rfl, [], List.Perm.refl _, List.Pairwise.nil, h, Only.refl _ _⟩
  · obtain ⟨g, cap, cur, rfl, hg, hok, hcap, hF⟩ := flat_form h hz
    refine (sortT_some hF hl).mono ?_
    rintro e w' ⟨rfl, zs', cur', h1, h2, h3, h4⟩
    have hlen := h1.length_eq
    refine ⟨rfl, zs', h1, h2, ?_, h4.mono (fun k _ e => by simp [Value.ownBlock, e])⟩
    rw [← hlen]
    exact h3.row hg hcap hok
end Go.Proofs.Ytljckmiphkoipaa

/-
  A queue by time: All.
-/
namespace Go.Proofs.Ytljckmiphkoipaa
set_option linter.unusedVariables false
set_option linter.unusedSimpArgs false
open Go.RowKit Go.MapKept Go.Maps Go.Proofs.YtljckmiphkoipaaW.PrintWords Go.Proofs.YtljckmiphkoipaaW.PrintLast Go.Proofs.YtljckmiphkoipaaW.PrintMore

def encP (p : Int × Int) : List Value := [.int .i64 p.1, .int .i64 p.2]
theorem encP_len (x : Int × Int) : (encP x).length = 2 := rfl
theorem encP_one (x : Int × Int) : ∀ u ∈ encP x, u.oneCell' = true := by
  intro u hu
  simp [encP] at hu
  rcases hu with rfl | rfl <;> rfl
/-- Pairs of a tick and an item. -/
abbrev kP : Kd (Int × Int) := flatKd encP 2 encP_len encP_one
theorem und132 : Try.prog.underlying 132 = some (.slice 137) := by kernel_rfl
theorem und100 : Try.prog.underlying 100 = some (.slice 102) := by kernel_rfl
theorem info102 : (Try.prog.info? 102).map (fun i => (i.zero, i.size, i.bytes)) = some (some (.agg #[.int .i64 0, .int .i64 0]), 2, 16) := by kernel_rfl
theorem at_kT {w : World} {A : Option Addr} {n : Nat} {xs : List Tm} (h : kT.C w A n xs) (i : Int) (h0 : 0 ≤ i) (h1 : i < n) : ∃ ad, A = some ad ∧ w.cell? (ad.add (i.toNat * 3)) = some (.int .i64 (xs.getD i.toNat (0, 0, 0)).1) ∧
    w.cell? ⟨(ad.add (i.toNat * 3)).block, (ad.add (i.toNat * 3)).off + 1, none⟩ = some (.int .i64 (xs.getD i.toNat (0, 0, 0)).2.1) ∧ w.cell? ⟨(ad.add (i.toNat * 3)).block, (ad.add (i.toNat * 3)).off + 2, none⟩ = some (.int .i64 (xs.getD i.toNat (0, 0, 0)).2.2) := by
  obtain ⟨ad, c, e, _, hK, hc0⟩ := Kd.C_get h (0, 0, 0) i h0 h1
  have hc : ∀ j u, c[j]? = some u → w.cell? (ad.add (i.toNat * 3 + j)) = some u := hc0
  have hK2 : c = encT (xs.getD i.toNat (0, 0, 0)) := hK
  subst hK2
  exact ⟨ad, e, hc 0 _ rfl, by rw [← add_field _ _ 1 (by omega)]; exact hc 1 _ rfl, by rw [← add_field _ _ 2 (by omega)]; exact hc 2 _ rfl⟩
theorem ltT_asymm {x y : Tm} (h : ltT x y = true) : ltT y x = false := by unfold ltT at *; simp at *; omega
theorem TimesOk.sort_eq {H : List Tm} {M : List (Int × Tm)} {T : Int} {l zs : List Tm} (h : TimesOk H M T l) (hp : zs.Perm (M.map (·.2))) (hs : zs.Pairwise (fun x y => ltT y x = false)) : zs = l := by
  have hp2 : zs.Perm l := hp.trans h.perm.symm
  have hinH : ∀ x ∈ zs, x ∈ H := fun x hx => by
    obtain ⟨p, h1, rfl⟩ := List.mem_map.1 (hp.mem_iff.1 hx)
    exact h.inH p h1
  refine List.Perm.eq_of_pairwise (le := fun x y => ltT y x = false) (fun a b ha hb h1 h2 => ?_) hs (h.sorted.imp (fun h => ltT_asymm h)) hp2
  have ha' := hinH a ha
  have hb' := hinH b (hp2.mem_iff.2 hb)
  have ht : a.2.1 = b.2.1 := by unfold ltT at h1 h2; simp at h1 h2; omega
  obtain ⟨i, hi, rfl⟩ := List.mem_iff_getElem.1 ha'
  obtain ⟨j, hj, rfl⟩ := List.mem_iff_getElem.1 hb'
  have hd := List.pairwise_iff_getElem.1 h.dist
  rcases Nat.lt_trichotomy i j with hij | hij | hij
  · exact absurd ht (hd i j hi hj hij)
  · subst hij; rfl
  · exact absurd ht.symm (hd j i hj hi hij)

section
variable {w : World} {base q : Nat} {Q : Nat → Prop} {n : Int} {lp : List (Int × Int)}
set_option maxRecDepth 100000 in
set_option maxHeartbeats 8000000 in
theorem tall_calls (h : IsTimes w base q Q lp n) : Calls Try.prog 67 #[.pointer (some ⟨q, 0, none⟩)] w fun e w' => ∃ v, e = .returned v ∧ kP.R 102 w' w.heap.size (fun _ => True) v lp ∧ Below w.heap.size w w' := by
  obtain ⟨mb, vh, H, M, T, l, h1, h2, h3, rfl⟩ := h
  have c1 : w.cell? ⟨q, 1, none⟩ = some (.map (some mb)) := (blk_cell h1.blk 1).trans rfl
  obtain ⟨wi, hrange, hrg0', hb0', hs0⟩ := h1.map_.run_range und131
  have hrg0 := Aside0.mk hrg0'
  have hb0 := Aside0.mk hb0'
  have HS := Aside0.mk (And.intro h2 h1.map_.lt)
  clear hrg0' hb0' hs0 h1 h2 h3
  go_enter Try.func67, Try.ntmps67
  go_wp2
  go_loopg [3] (M.length + 1) (fun kq v3 w' => ∃ (R : List (Int × Tm)) (acc : List Tm), Aside0 (Ranges (Value.int .i64) encV goodI w' mb w.heap.size M R) ∧ Aside0 (R.length < kq) ∧
    Aside0 (kT.R 137 w' w.heap.size (fun k => w.heap.size < k) v3 acc) ∧ Aside0 ((acc ++ R.map (·.2)).Perm (M.map (·.2))) ∧ Aside0 (Below w.heap.size w w') ∧ Aside0 (w.heap.size < w'.heap.size))
  case atStart => exact ⟨M, [], hrg0, ⟨by omega⟩, ⟨Kd.R_nil _ _ _ _ _⟩, ⟨by simp⟩, hb0, ⟨hrg0.out.lt.2⟩⟩
  case round =>
    obtain ⟨R, acc, hrg, hkq, hR, hP, hB, hW⟩ := hrel
    rcases hrg.out.run_next (P := Try.prog) keyI.inj 0 with ⟨hnil, hnx⟩ | ⟨p, w1, hp, hnx, hen, hrg1', ho1', hs1⟩
    · subst hnil
      have hlen : acc.length < 4611686018427387904 := by
        have := hP.out.length_eq
        have := HS.out.1.few
        simp at *
        omega
      have hacc : acc.Perm (M.map (·.2)) := by simpa using hP.out
      have hc := sortT_calls hR.out hlen
      obtain ⟨A3, cc, e3, _⟩ := Kd.R_reads hR.out
      obtain ⟨m, hm⟩ : ∃ m : Nat, m = acc.length := ⟨_, rfl⟩
      rw [← hm] at e3
      subst e3
      have hml : m = l.length := by rw [hm, hacc.length_eq, HS.out.1.len]; simp
      have hm6 : m ≤ 65536 := by rw [hml, HS.out.1.len]; exact HS.out.1.few
      have HM := Aside0.mk (And.intro hm (And.intro hml (And.intro hm6 hacc)))
      clear hm hml hm6 hacc hlen
      go_upto_region 9 with (go_at_call 91; refine hc.mono ?_; rintro e W2 ⟨rfl, zs, hz1, hz2, hR2, hO2⟩)
      obtain rfl : zs = l := HS.out.1.sort_eq (hz1.trans HM.out.2.2.2) hz2
      have hB2 : Aside0 (Below w.heap.size w W2) := ⟨hB.out.trans (hO2.below (Below.size hB.out) (fun i hi e => by have := hR.out.1 _ e.symm; omega))⟩
      replace hR2 := Aside0.mk hR2
      obtain ⟨L2, hL2⟩ : ∃ L2, L2 = zs.map pr := ⟨_, rfl⟩
      have hL2l : Aside0 (L2.length = m) := ⟨by rw [hL2, List.length_map]; exact HM.out.2.1.symm⟩
      replace hL2 := Aside0.mk hL2
      clear hc hO2 hz1 hz2
      go_wp2
      go_loopg [28, 6] (m + 1) (fun kq v28 v6 w' => ∃ (j : Int), v28 = .int .i64 j ∧ Aside0 (0 ≤ j ∧ j ≤ m ∧ m - j.toNat < kq) ∧ Aside0 (kT.R 137 w' w.heap.size (fun k => w.heap.size < k) (.slice A3 m cc) zs) ∧
        Aside0 (kP.R 102 w' w.heap.size (fun k => some k ≠ (Value.slice A3 m cc).ownBlock) v6 (L2.take j.toNat)) ∧ Aside0 (Below w.heap.size w w'))
      case atStart => exact ⟨0, rfl, ⟨by omega, by omega, by omega⟩, hR2, ⟨Kd.R_nil _ _ _ _ _⟩, hB2⟩
      case round =>
        clear hR2 hB2 hB hR hP hrg W2
        obtain ⟨j, rfl, hj, hRT, hRL, hBr⟩ := hrel
        by_cases hjm : j < m
        · have hlt : decide (j < (m : Int)) = true := decide_eq_true hjm
          have hj0 : 0 ≤ j := hj.out.1
          have hC := (Kd.R_reads' hRT.out).2.2
          obtain ⟨ad, eA, y0, y1, y2⟩ := at_kT hC j hj0 (by rw [← HM.out.2.1]; exact hjm)
          have hjL : j.toNat < zs.length := by have := HM.out.2.1; omega
          obtain ⟨x, hx⟩ : ∃ x, x = zs.getD j.toNat (0, 0, 0) := ⟨_, rfl⟩
          rw [← hx] at y0 y1 y2
          have hxe : zs[j.toNat]? = some x := by rw [hx, List.getD_eq_getElem?_getD, List.getElem?_eq_getElem hjL]; rfl
          have htk : L2.take j.toNat ++ [(x.1, x.2.2)] = L2.take (j + 1).toNat := by
            rw [show (j + 1).toNat = j.toNat + 1 by omega, List.take_add_one, hL2.out, List.getElem?_map, hxe]; rfl
          have hfr : ∀ k, wr.heap.size ≤ k → some k ≠ (Value.slice A3 m cc).ownBlock := fun k hk e => by have := Kd.R_lt hRT.out k e.symm; omega
          have hl65 : (L2.take j.toNat).length + 1 ≤ 65537 := by rw [List.length_take]; have := HM.out.2.2.1; have := hL2l.out; omega
          cases eA
          have HJ := Aside0.mk (And.intro htk (And.intro hfr hl65))
          clear htk hfr hl65 hC hx hxe hjL
          replace hj0 := eq_true hj0
          replace hjm := eq_true hjm
          go_upto_region 13 with fail
          obtain ⟨W4, hW4⟩ : ∃ W4, W4 = wr.alloc (Obj.cells #[.int .i64 x.1, .int .i64 x.2.1, .int .i64 x.2.2] 137) := ⟨_, rfl⟩
          have b4 : Below wr.heap.size wr W4 := by rw [hW4]; exact (Below.refl _ _).alloc (Nat.le_refl _) _
          have x4 : W4.heap[wr.heap.size]? = some (.cells #[.int .i64 x.1, .int .i64 x.2.1, .int .i64 x.2.2] 137 (0, 0)) := by rw [hW4]; exact heap_alloc_new wr _
          rw [← hW4]
          have z0 : W4.cell? ⟨wr.heap.size, 0, none⟩ = some (.int .i64 x.1) := (blk_cell x4 0).trans rfl
          have z2 : W4.cell? ⟨wr.heap.size, 2, none⟩ = some (.int .i64 x.2.2) := (blk_cell x4 2).trans rfl
          have hRT4 := Aside0.mk (Kd.R_below hRT.out b4)
          have hRL4 := Aside0.mk (Kd.R_below hRL.out b4)
          have hB4 := Aside0.mk (hBr.out.trans (b4.mono hBr.out.size))
          have hs4 := Aside0.mk b4.size
          clear hW4 b4 x4 y0 y1 y2
          go_wp2_with ((with_reducible refine gate_builtin (b := .append) (xs := #[.tmp 32, .tmp 38]) rfl ?_); at_builtin; refine Kd.R_append kP (w0 := w) w.heap.size rfl (.tmp 32) (.tmp 38) 100 102 (.agg #[.int .i64 0, .int .i64 0]) 16 rfl und100 info102 rfl (by decide) (by decide) u6 (L2.take j.toNat) (x.1, x.2.2) [.int .i64 x.1, .int .i64 x.2.2] (fun k => some k ≠ (Value.slice (some ad) m cc).ownBlock) (fun _ => False) rfl rfl rfl (fun _ h => h.elim) (fun k hk => HJ.out.2.1 k (Nat.le_trans hs4.out hk)) hRL4.out hB4.out hB4.out.size (by have := HJ.out.2.2; omega) ?_; intro v4 w3 hR3' hB3' hg3' hat3; have hR5 := Aside0.mk hR3'; have hB5 := Aside0.mk hB3'; have hg5 := Aside0.mk hg3'; clear hR3' hB3' hg3' hat3)
          go_roundg (m - j.toNat)
          case measure => have := hj.out; omega
          case rel =>
            have hjm' : j < m := of_eq_true hjm
            have hw : wrap64 (j + 1) = j + 1 := w64 _ (by have := hj.out; have := HM.out.2.2.1; omega)
            refine ⟨j + 1, by simp [hw], ⟨by have := hj.out; omega, by omega, by have := hj.out; omega⟩, ⟨Kd.R_grown2 hRT4.out rfl hg5.out (fun k hk => hRL4.out.1 k hk)⟩, ⟨?_⟩, hB5⟩
            · rw [← HJ.out.1]; exact hR5.out
        · have hlt : decide (j < (m : Int)) = false := decide_eq_false hjm
          replace hjm := Aside0.mk hjm
          go_wp2
          go_ret
          refine ⟨u6, rfl, ?_, hBr.out⟩
          have := hRL.out
          rw [List.take_of_length_le (by have := hjm.out; have := hj.out; have := hL2l.out; omega), hL2.out] at this
          exact Kd.R_mono this (fun _ _ => trivial)
    · have hrg1 := Aside0.mk hrg1'
      have ho1 := Aside0.mk ho1'
      have hpr := Aside0.mk hp
      clear hrg1' ho1' hp
      have hR1 : Aside0 (kT.R 137 w1 w.heap.size (fun k => w.heap.size < k) u3 acc) := ⟨R_only hR.out ho1.out (fun k hk e => by omega)⟩
      have hB1 : Aside0 (Below w.heap.size w w1) := ⟨hB.out.trans (ho1.out.below (Below.size hB.out) (fun i hi e => by omega))⟩
      have hl1 : Aside0 (acc.length + 1 ≤ 65536) := ⟨by
        have := hP.out.length_eq
        have := HS.out.1.few
        have := List.length_pos_of_mem hpr.out
        simp at *
        omega⟩
      have hW1 : Aside0 (w.heap.size < w1.heap.size) := ⟨by have := hW.out; omega⟩
      replace hs1 := Aside0.mk hs1
      obtain ⟨pk, p1, p2, p3⟩ := p
      have hen2 : (Instr.entry (.pointer (some ⟨w.heap.size, 0, none⟩))).run Try.prog w1 = .ok (.tuple #[.int .i64 pk, .agg #[.int .i64 p1, .int .i64 p2, .int .i64 p3]]) w1 := hen
      clear hen
      go_upto_region 7 with fail
      obtain ⟨W4, hW4⟩ : ∃ W4, W4 = w1.alloc (Obj.cells #[.int .i64 p1, .int .i64 p2, .int .i64 p3] 137) := ⟨_, rfl⟩
      have b4 : Below w1.heap.size w1 W4 := by rw [hW4]; exact (Below.refl _ _).alloc (Nat.le_refl _) _
      have x4 : W4.heap[w1.heap.size]? = some (.cells #[.int .i64 p1, .int .i64 p2, .int .i64 p3] 137 (0, 0)) := by rw [hW4]; exact heap_alloc_new w1 _
      rw [← hW4]
      have z0 : W4.cell? ⟨w1.heap.size, 0, none⟩ = some (.int .i64 p1) := (blk_cell x4 0).trans rfl
      have z1 : W4.cell? ⟨w1.heap.size, 1, none⟩ = some (.int .i64 p2) := (blk_cell x4 1).trans rfl
      have z2 : W4.cell? ⟨w1.heap.size, 2, none⟩ = some (.int .i64 p3) := (blk_cell x4 2).trans rfl
      have hR4 := Aside0.mk (Kd.R_below hR1.out b4)
      have hB4 := Aside0.mk (hB1.out.trans (b4.mono hB1.out.size))
      have hs4 := Aside0.mk b4.size
      have o4 := Aside0.mk (Only.ofBelow (F := fun _ => False) b4)
      clear hW4 b4 x4 hnx hen2 c1
      go_wp2_with ((with_reducible refine gate_builtin (b := .append) (xs := #[.tmp 20, .tmp 22]) rfl ?_); at_builtin; refine Kd.R_append kT (w0 := w) w.heap.size rfl (.tmp 20) (.tmp 22) 132 137 (.agg #[.int .i64 0, .int .i64 0, .int .i64 0]) 24 rfl und132 info137 rfl (by decide) (by decide) u3 acc (p1, p2, p3) [.int .i64 p1, .int .i64 p2, .int .i64 p3] (fun k => w.heap.size < k) (fun _ => False) rfl rfl rfl (fun _ h => h.elim) (fun k hk => Nat.lt_of_lt_of_le hW1.out (Nat.le_trans hs4.out hk)) hR4.out hB4.out hB4.out.size (by have := hl1.out; omega) ?_; intro v4 w2 hR2' hB2' hg2' hat2; have hR2 := Aside0.mk hR2'; have hB2 := Aside0.mk hB2'; have hg2 := Aside0.mk hg2'; clear hR2' hB2' hg2' hat2)
      go_roundg R.length
      case measure => exact hkq.out
      case rel =>
        have hnod := hrg.out.nodup
        have hlen : (adel R pk).length < R.length := by
          have := length_adel hnod hpr.out
          simp only at this
          omega
        have hown : ∀ k, some k = u3.ownBlock → w.heap.size < k := fun k e => hR4.out.1 k e.symm
        refine ⟨adel R pk, acc ++ [(p1, p2, p3)], ⟨(hrg1.out.only o4.out (fun h => h) (fun h => h)).only (Only.ofGrown hg2.out) ?_ ?_⟩, ⟨by omega⟩, hR2, ⟨?_⟩, hB2, ⟨by have := hg2.out.size; have := hW1.out; have := hs4.out; omega⟩⟩
        · intro e
          have := hown _ e
          have := HS.out.2
          omega
        · intro e
          have := hown _ e
          omega
        · refine List.Perm.trans ?_ hP.out
          rw [List.append_assoc]
          exact List.Perm.append_left acc (show (List.map (fun x : Int × Tm => x.2) ((pk, p1, p2, p3) :: adel R pk)).Perm (R.map (fun x : Int × Tm => x.2)) from ((perm_adel hnod hpr.out).map _).symm)
end
end Go.Proofs.Ytljckmiphkoipaa

/-
  The document's lists of layer 4: Find, Without, Put, as plain functions.
-/
namespace Go.Proofs.Ytljckmiphkoipaa
set_option linter.unusedVariables false
set_option linter.unusedSimpArgs false
open Go.RowKit Go.Proofs.YtljckmiphkoipaaW.PrintWords Go.Proofs.YtljckmiphkoipaaW.PrintLast Go.Proofs.YtljckmiphkoipaaW.PrintMore

/-- The items of the document's list. -/
def itemsS (L : List PQ.S73) : List Int := L.map (·.f1)
theorem itemsS_length (L : List PQ.S73) : (itemsS L).length = L.length := by simp [itemsS]
theorem rd_f1 (L : List PQ.S73) (i : Int) : (PQ.rd_T73 L i).f1 = rd (itemsS L) i := by
  unfold PQ.rd_T73 rd itemsS
  rw [List.getD_eq_getElem?_getD, List.getD_eq_getElem?_getD, List.getElem?_map]
  cases L[i.toNat]? with
  | none => rfl
  | some a => rfl
theorem qfind_loop (L : List PQ.S73) (x : Int) (hl : L.length ≤ 9223372036854775806) : ∀ (d : Nat) (i : Int), 0 ≤ i → (L.length : Int) - i = d → (∀ j : Nat, (j : Int) < i → (itemsS L).getD j 0 ≠ x) → PQ.convoyref04_Find.l0 (d + 1) x L (L.length : Int) i = some (findV (itemsS L) x)
  | 0, i, h0, h1, hn => by
    unfold PQ.convoyref04_Find.l0
    rw [if_neg (by omega)]
    have : x ∉ itemsS L := by
      intro hx
      obtain ⟨k, h2, h3, _⟩ := first_of hx
      rw [itemsS_length] at h2
      exact hn k (by omega) h3
    rw [findV, if_neg this]
  | d + 1, i, h0, h1, hn => by
    have hlen := itemsS_length L
    unfold PQ.convoyref04_Find.l0
    rw [if_pos (by omega), if_pos h0, if_pos (by omega), rd_f1]
    by_cases he : rd (itemsS L) i = x
    · rw [if_pos he]
      have hx : x ∈ itemsS L := by
        rw [← he]; unfold rd
        rw [List.getD_eq_getElem?_getD, List.getElem?_eq_getElem (by omega)]; exact List.getElem_mem _
      obtain ⟨k, h2, h3, h4, h5⟩ := idxOf_spec hx
      rw [findV, if_pos hx, h3]
      have : (k : Int) = i := by
        rcases Int.lt_trichotomy (k : Int) i with h | h | h
        · exact absurd h4 (hn k h)
        · exact h
        · exact absurd he (by have := h5 i.toNat (by omega); exact this)
      rw [this]
    · rw [if_neg he, w64 _ (by omega)]
      exact qfind_loop L x hl d (i + 1) (by omega) (by omega) (fun j hj e => by
        by_cases hji : (j : Int) < i
        · exact hn j hji e
        · have : j = i.toNat := by omega
          subst this
          exact he e)
theorem qfind_f (L : List PQ.S73) (x : Int) (hl : L.length ≤ 9223372036854775806) : PQ.convoyref04_Find.f (L.length + 1) L x = some (findV (itemsS L) x) :=
  qfind_loop L x hl L.length 0 (Int.le_refl _) (by omega) (fun j hj => by omega)
theorem qfind_more {L : List PQ.S73} {x r : Int} : ∀ (d k : Nat), PQ.convoyref04_Find.f k L x = some r → PQ.convoyref04_Find.f (k + d) L x = some r
  | 0, k, h => h
  | d + 1, k, h => PQ.convoyref04_Find.mono _ _ _ _ (qfind_more d k h)

/-- A list without a place. -/
theorem qwithout_f (L : List PQ.S73) (i : Int) (h0 : 0 ≤ i) (h1 : i < L.length) (hl : L.length ≤ 65536) : PQ.convoyref04_Without.f L i = some (L.take i.toNat ++ L.drop (i.toNat + 1)) := by
  unfold PQ.convoyref04_Without.f
  rw [w64 _ (by omega)]
  simp only [Option.bind_some, if_pos h0, if_pos (show i ≤ L.length by omega), if_pos (show 0 ≤ i + 1 by omega), if_pos (show i + 1 ≤ L.length by omega), List.nil_append]
  rw [if_pos (by simp; omega), if_pos (by simp; omega)]
  rw [show (i + 1).toNat = i.toNat + 1 by omega]

/-- Where a new one goes. -/
def posS (L : List PQ.S73) (t : Int) : Nat → Nat
  | 0 => 0
  | i + 1 => if (L.getD i PQ.z73).f0 > t then posS L t i else i + 1
def insS (L : List PQ.S73) (t x : Int) : List PQ.S73 := L.take (posS L t L.length) ++ [⟨t, x⟩] ++ L.drop (posS L t L.length)
theorem posS_le (L : List PQ.S73) (t : Int) : ∀ i, posS L t i ≤ i
  | 0 => Nat.le_refl _
  | i + 1 => by
    unfold posS
    split
    · have := posS_le L t i; omega
    · omega
theorem qput_loop (L : List PQ.S73) (t x : Int) (hl : L.length ≤ 65536) : ∀ (i k : Nat), i ≤ L.length → PQ.convoyref04_Put.l0 (i + 1 + k) L t x (i : Int) = some (L.take (posS L t i) ++ [⟨t, x⟩] ++ L.drop (posS L t i), 0)
  | 0, k, hi => by
    rw [show 0 + 1 + k = k + 1 by omega]
    unfold PQ.convoyref04_Put.l0
    simp only [posS, Option.bind_some, Int.natCast_zero, Int.lt_irrefl, gt_iff_lt, if_false, if_pos (Int.le_refl 0), if_pos (show (0 : Int) ≤ L.length by omega), Int.toNat_zero, List.take_zero, List.drop_zero, List.nil_append, List.length_nil, Nat.add_zero, List.length_cons]
    rw [if_pos (by omega), if_pos (by omega), if_pos (by omega)]
  | i + 1, k, hi => by
    rw [show i + 1 + 1 + k = (i + 1 + k) + 1 by omega]
    unfold PQ.convoyref04_Put.l0
    rw [w64 _ (by omega), show ((i + 1 : Nat) : Int) - 1 = (i : Int) by omega, if_pos (by omega), if_pos (by omega), if_pos (by omega)]
    have e1 : (PQ.rd_T73 L (i : Int)) = L.getD i PQ.z73 := by unfold PQ.rd_T73; rw [Int.toNat_natCast]
    rw [e1]
    unfold posS
    by_cases hc : (L.getD i PQ.z73).f0 > t
    · rw [if_pos hc, if_pos hc]
      exact qput_loop L t x hl i k (by omega)
    · rw [if_neg hc, if_neg hc]
      simp only [Option.bind_some, if_pos (show (0 : Int) ≤ ((i + 1 : Nat) : Int) by omega), if_pos (show ((i + 1 : Nat) : Int) ≤ L.length by omega), Int.toNat_natCast, List.nil_append]
      rw [if_pos (by simp; omega), if_pos (by simp; omega), if_pos (by simp; omega)]
/-- The error's number. -/
def putES (L : List PQ.S73) (t x : Int) : Int := if t < 0 ∨ t > 4611686018427387904 then 1 else if x ∈ itemsS L then 40 else if 65536 ≤ L.length then 3 else 0
def putS (L : List PQ.S73) (t x : Int) : List PQ.S73 := if putES L t x = 0 then insS L t x else L
theorem put_j0_true (k : Nat) (L : List PQ.S73) (t x : Int) : PQ.convoyref04_Put.j0 (k + 1) L t x true = some (L, 1) := by
  rw [PQ.convoyref04_Put.j0, if_pos rfl]
theorem qput_f (L : List PQ.S73) (t x : Int) (hl : L.length ≤ 65536) : PQ.convoyref04_Put.f (L.length + 2) L t x = some (putS L t x, putES L t x) := by
  unfold PQ.convoyref04_Put.f
  by_cases h1 : t < 0
  · have e1 : putES L t x = 1 := if_pos (.inl h1)
    rw [if_pos h1, put_j0_true, putS, e1, if_neg (by omega)]
  · rw [if_neg h1]
    by_cases h2 : t > 4611686018427387904
    · have e1 : putES L t x = 1 := if_pos (.inr h2)
      rw [decide_eq_true h2, put_j0_true, putS, e1, if_neg (by omega)]
    · rw [decide_eq_false h2, PQ.convoyref04_Put.j0, if_neg (by simp), qfind_f L x (by omega), Option.bind_some]
      by_cases h3 : x ∈ itemsS L
      · have := findV_range h3
        have e1 : putES L t x = 40 := by unfold putES; rw [if_neg (by omega), if_pos h3]
        rw [if_pos (by omega), putS, e1, if_neg (by omega)]
      · have h4 : findV (itemsS L) x = -1 := if_neg h3
        rw [h4, if_neg (by omega)]
        by_cases h5 : 65536 ≤ L.length
        · have e1 : putES L t x = 3 := by unfold putES; rw [if_neg (by omega), if_neg h3, if_pos h5]
          rw [if_pos (by omega), putS, e1, if_neg (by omega)]
        · have e1 : putES L t x = 0 := by unfold putES; rw [if_neg (by omega), if_neg h3, if_neg h5]
          rw [if_neg (by omega), putS, e1, if_pos rfl]
          exact qput_loop L t x hl L.length 0 (Nat.le_refl _)
end Go.Proofs.Ytljckmiphkoipaa

/-
  QueueTimes: does a queue by time stand as a list (times).
-/
namespace Go.Proofs.Ytljckmiphkoipaa
set_option linter.unusedVariables false
set_option linter.unusedSimpArgs false
open Go.RowKit Go.MapKept Go.Maps Go.Proofs.YtljckmiphkoipaaW.PrintWords Go.Proofs.YtljckmiphkoipaaW.PrintLast Go.Proofs.YtljckmiphkoipaaW.PrintMore

/-- The document's list of a queue by time. -/
def tp (lp : List (Int × Int)) : List PQ.S73 := lp.map fun p => ⟨p.1, p.2⟩
theorem tp_length (lp : List (Int × Int)) : (tp lp).length = lp.length := by simp [tp]
theorem items_tp (lp : List (Int × Int)) : itemsS (tp lp) = lp.map (·.2) := by simp [itemsS, tp, Function.comp_def]
theorem tp_append (a b : List (Int × Int)) : tp (a ++ b) = tp a ++ tp b := by simp [tp]
theorem rd_tp (lp : List (Int × Int)) (i : Int) : PQ.rd_T73 (tp lp) i = ⟨(lp.getD i.toNat (0, 0)).1, (lp.getD i.toNat (0, 0)).2⟩ := by
  unfold PQ.rd_T73 tp
  rw [List.getD_eq_getElem?_getD, List.getD_eq_getElem?_getD, List.getElem?_map]
  cases lp[i.toNat]? with
  | none => rfl
  | some a => rfl
theorem pfind_f (lp : List (Int × Int)) (x : Int) (hl : lp.length ≤ 65536) : PQ.convoyref04_Find.f (lp.length + 1) (tp lp) x = some (findV (lp.map (·.2)) x) := by
  have := qfind_f (tp lp) x (by rw [tp_length]; omega)
  rw [items_tp, tp_length] at this
  exact this
theorem atP_not {lp : List (Int × Int)} {x : Int} (h : x ∉ lp.map (·.2)) : atP lp x = 0 := by
  unfold atP
  rw [List.find?_eq_none.2 (fun p hp => by simp; intro e; exact h (List.mem_map.2 ⟨p, hp, e⟩))]
  rfl
theorem atP_in {lp : List (Int × Int)} {x : Int} (h : x ∈ lp.map (·.2)) : 0 ≤ findV (lp.map (·.2)) x ∧ findV (lp.map (·.2)) x < lp.length ∧ (lp.getD (findV (lp.map (·.2)) x).toNat (0, 0)).1 = atP lp x := by
  obtain ⟨k, k1, k2, k3, k4⟩ := idxOf_spec h
  have e : findV (lp.map (·.2)) x = k := by unfold findV; rw [if_pos h, k2]
  have hk : k < lp.length := by simpa using k1
  refine ⟨by omega, by omega, ?_⟩
  rw [e, Int.toNat_natCast]
  unfold atP
  have hf : lp.find? (fun p => decide (p.2 = x)) = some lp[k] := by
    rw [List.find?_eq_some_iff_getElem]
    refine ⟨?_, k, hk, rfl, fun j hj => ?_⟩
    · have := k3
      rw [List.getD_eq_getElem?_getD, List.getElem?_map, List.getElem?_eq_getElem hk] at this
      simpa using this
    · have := k4 j hj
      rw [List.getD_eq_getElem?_getD, List.getElem?_map, List.getElem?_eq_getElem (by omega)] at this
      simpa using this
  rw [hf, List.getD_eq_getElem?_getD, List.getElem?_eq_getElem hk]
  rfl

theorem eqA102 (a b : Int) (w : World) : (Op.equalIn 10000 102 (.agg #[.int .i64 a, .int .i64 b]) (.agg #[.int .i64 a, .int .i64 b])).run Try.prog w = .ok (a == a && b == b) w :=
  eqA_of (d := 9999) Try.underlying102 (by kernel_rfl) (eqf_cons rfl (by kernel_rfl) (by kernel_rfl) (run_equalIn_int _ 9998 2 .i64 .i64 _ _ Try.underlying2) (eqf_last rfl (by kernel_rfl) (by kernel_rfl) (run_equalIn_int _ 9998 3 .i64 .i64 _ _ Try.underlying3)))
theorem neq102 (a b : Int) (w : World) : (binOp .neq 102 (.agg #[.int .i64 a, .int .i64 b]) (.agg #[.int .i64 a, .int .i64 b])).run Try.prog w = .ok (.bool false) w := by
  rw [run_neq_struct, eqA102]
  simp
theorem guard102 : Try.prog.eqGuardType Try.prog.depth 102 = false := by kernel_rfl

/-- What a loop that turns a row's numbers leaves of it. -/
def LeftP (w : World) (g m : Nat) (xs : List (Int × Int)) (i : Int) : Prop := 0 < m → ∃ cur, w.heap[g]? = some (.cells cur 102 (0, 0)) ∧ m * 2 ≤ cur.size ∧ ∀ j : Int, i ≤ j → j < m → cur[j.toNat * 2]? = some (.int .i64 (xs.getD j.toNat (0, 0)).1) ∧ cur[j.toNat * 2 + 1]? = some (.int .i64 (xs.getD j.toNat (0, 0)).2)
theorem LeftP.below {w w' : World} {g m : Nat} {xs : List (Int × Int)} {i : Int} (h : LeftP w g m xs i) {F : Nat → Prop} (ho : Only F w w') (hF : ¬ F g) : LeftP w' g m xs i := fun hm => by
  obtain ⟨cur, h1, h2, h3⟩ := h hm
  exact ⟨cur, (ho.block _ (blk_lt h1) hF).trans h1, h2, h3⟩
theorem LeftP.set {w : World} {g m : Nat} {xs : List (Int × Int)} {i : Int} (h : LeftP w g m xs i) (h0 : 0 ≤ i) (u : Value) : LeftP (w.setCell ⟨g, i.toNat * 2 + 1, none⟩ u) g m xs (i + 1) := fun hm => by
  obtain ⟨cur, h1, h2, h3⟩ := h hm
  refine ⟨_, blk_put h1 (i.toNat * 2 + 1) u rfl, by simpa using h2, fun j hj hm => ?_⟩
  rw [Array.getElem?_setIfInBounds, if_neg (by omega), Array.getElem?_setIfInBounds, if_neg (by omega)]
  exact h3 j (by omega) hm
theorem leftP_of {w : World} {base : Nat} {ok : Nat → Prop} {v : Value} {xs : List (Int × Int)} (h : kP.R 102 w base ok v xs) : ∃ A c g, v = .slice A xs.length c ∧ (xs.length ≠ 0 → A = some ⟨g, 0, none⟩) ∧ base ≤ g ∧ xs.length ≤ c ∧ LeftP w g xs.length xs 0 := by
  by_cases hz : xs = []
  · subst hz
    obtain ⟨A, c, e, hc, hC⟩ := Kd.R_reads h
    exact ⟨A, c, base, e, fun h => absurd rfl h, Nat.le_refl _, hc, fun hm => absurd hm (by simp)⟩
  · obtain ⟨g, cap, cur, rfl, hg, hok, hcap, hF⟩ := flat_form h hz
    refine ⟨_, cap, g, rfl, fun _ => rfl, hg, hF.le, fun hm => ⟨cur, hF.blk, by rw [hF.size]; exact Nat.mul_le_mul_right _ hF.le, fun j hj hjm => ?_⟩⟩
    have hx : xs[j.toNat]? = some (xs.getD j.toNat (0, 0)) := by rw [List.getD_eq_getElem?_getD, List.getElem?_eq_getElem (by omega)]; rfl
    exact ⟨hF.get _ _ hx 0 (by omega), hF.get _ _ hx 1 (by omega)⟩
end Go.Proofs.Ytljckmiphkoipaa

/-
  A slice of structs of three ints that comes in as an argument (the scripts of layer 4).
-/
namespace Go.Proofs.Ytljckmiphkoipaa
set_option linter.unusedVariables false
set_option linter.unusedSimpArgs false
open Go.ChangeShapes Go.WideShapes Go.ChangeAt Go.RowKit Go.Joins Go.Proofs.YtljckmiphkoipaaW.PrintWords

/-- What comes in: (kind, item, at). -/
structure ScriptArg (w : World) (v : Value) (zs : List (Int × Int × Int)) : Prop where
  shape : ∃ A c, v = .slice A zs.length c
  cells : ∀ A c, v = .slice A zs.length c → ∀ j : Int, 0 ≤ j → j < zs.length → ∃ ad, A = some ad ∧ w.cell? (ad.add (j.toNat * 3)) = some (.int .i64 (zs.getD j.toNat (0, 0, 0)).1) ∧
    w.cell? ⟨(ad.add (j.toNat * 3)).block, (ad.add (j.toNat * 3)).off + 1, none⟩ = some (.int .i64 (zs.getD j.toNat (0, 0, 0)).2.1) ∧
    w.cell? ⟨(ad.add (j.toNat * 3)).block, (ad.add (j.toNat * 3)).off + 2, none⟩ = some (.int .i64 (zs.getD j.toNat (0, 0, 0)).2.2)
  good : ∀ a ∈ zs, goodI a.1 ∧ goodI a.2.1 ∧ goodI a.2.2
  few : zs.length * 24 ≤ 140737488351232
theorem script_take (zs : List (Int × Int × Int)) {j : Int} (h0 : 0 ≤ j) (h1 : j < zs.length) : zs.take (j + 1).toNat = zs.take j.toNat ++ [zs.getD j.toNat (0, 0, 0)] := by
  rw [show (j + 1).toNat = j.toNat + 1 by omega, List.take_add_one, List.getElem?_eq_getElem (by omega), List.getD_eq_getElem?_getD, List.getElem?_eq_getElem (by omega)]
  rfl

def encScript (p : Int × Int × Int) : List Value := [.int .i64 p.1, .int .i64 p.2.1, .int .i64 p.2.2]
theorem cellsOf69 : Try.prog.cellsOf 69 = 3 := by kernel_rfl
theorem cellsOf2 : Try.prog.cellsOf 2 = 1 := by kernel_rfl
set_option maxRecDepth 100000 in
theorem scriptArg {H : Type} {enc : TypeId × Value → H} {W : World} {base b' : Nat} {spare : Nat → Bool} {held : Bool} {v : Value} {d : DataW H} {ps : List MemPlace} {ts : List TypeId} {ds : List (DataW H)} {j : Nat} {r : Reach}
    (hsz : (DataW.weightsEach Try.prog ts ds).all (· ≤ reachBytes) = true) (hv : Value.okWide Try.prog W r b' 64 v) (h : DataW.Trod enc Try.prog W base spare held 64 v d ps) (ht : ts[j]? = some 64) (hd : ds[j]? = some d) :
    ∃ zs, ScriptArg W v zs := by
  obtain ⟨fuel, hf⟩ := h
  obtain ⟨a0, len0, cap0, rfl⟩ := okWide_slice Try.underlying64 hv
  have hcs : (Value.slice a0 len0 cap0).cells.toList = [.slice a0 len0 cap0] := by simp [Value.cells]
  rw [hcs] at hf
  rcases open_rows (P := Try.prog) (C := 3) encScript (fun p => goodI p.1 ∧ goodI p.2.1 ∧ goodI p.2.2) Try.underlying64 cellsOf69 (fun n cs y hy => by
    obtain ⟨y0, y1, y2, m, _, hl, h0, h1, h2⟩ := Go.Deep.trod_struct3 Try.underlying69 hy
    rw [cellsOf69] at hl
    obtain ⟨c0, c1, c2, rfl⟩ : ∃ c0 c1 c2, cs = [c0, c1, c2] := by match cs, hl with | [c0, c1, c2], _ => exact ⟨c0, c1, c2, rfl⟩
    simp [cellsOf3, cellsOf2] at h0 h1 h2
    obtain ⟨n0, e0, _, g0⟩ := DataW.trod_int Try.underlying3 h0
    obtain ⟨n1, e1, _, g1⟩ := DataW.trod_int Try.underlying3 h1
    obtain ⟨n2, e2, _, g2⟩ := DataW.trod_int Try.underlying2 h2
    simp at e0 e1 e2
    subst e0 e1 e2
    exact ⟨(n0, n1, n2), rfl, g0, g1, g2⟩) hf with ⟨h1, _⟩ | ⟨a, len, cap, zs, els, spr, h1, hl, hm, hz, hc, hx, hle⟩
  · cases h1
    exact ⟨[], ⟨none, 0, rfl⟩, fun A c h j h0 h1 => by simp at h1; omega, by simp, by simp⟩
  · cases h1
    have hdx : d = .slice els spr := by
      have := hx
      simpa using this
    subst hdx
    have hs := sized_slice hsz ht hd Try.underlying64
    rw [show Try.prog.bytesOf 69 = 24 by kernel_rfl] at hs
    refine ⟨zs, ⟨some a, cap0, by rw [hz]⟩, fun A c h j h0 h1 => ?_, fun p hp => ?_, ?_⟩
    · rw [hz] at h
      injection h with h2 h3 h4
      subst h2
      have hj : zs[j.toNat]? = some (zs.getD j.toNat (0, 0, 0)) := by rw [List.getD_eq_getElem?_getD, List.getElem?_eq_getElem (by omega)]; rfl
      obtain ⟨_, hk⟩ := hc _ _ hj
      refine ⟨a, rfl, ?_, ?_, ?_⟩
      · have := hk 0 (by omega)
        simpa [Addr.add, encScript] using this
      · have := hk 1 (by omega)
        simpa [Addr.add, encScript] using this
      · have := hk 2 (by omega)
        simpa [Addr.add, encScript] using this
    · obtain ⟨i, hi⟩ := List.getElem?_of_mem hp
      exact (hc i p hi).1
    · have : els.length * 24 ≤ (els.length + spr.length) * 24 := Nat.mul_le_mul_right _ (by omega)
      have h7 : reachBytes = 140737488351232 := rfl
      rw [hz, ← hle]; omega
end Go.Proofs.Ytljckmiphkoipaa

/-
  QueueTurns: what is played, as a plain function.
-/
namespace Go.Proofs.Ytljckmiphkoipaa
set_option linter.unusedVariables false
set_option linter.unusedSimpArgs false
open Go.RowKit Go.Proofs.YtljckmiphkoipaaW.PrintWords Go.Proofs.YtljckmiphkoipaaW.PrintLast Go.Proofs.YtljckmiphkoipaaW.PrintMore

def kindQ (a : Int) : Int := Int.tmod (Int.tmod a 6 + 6) 6
theorem kindQ_f {a : Int} (h : goodI a) : PQ.convoylaw04_kind.f a 6 = some (kindQ a) := by
  have hb := goodI_bounds h
  have t1 := Int.tmod_lt_of_pos a (show (0:Int) < 6 by omega)
  have t2 := Int.lt_tmod_of_pos a (show (0:Int) < 6 by omega)
  unfold PQ.convoylaw04_kind.f kindQ
  rw [if_neg (by omega), w64 _ (by omega)]
theorem kindQ_in (a : Int) : -9223372036854775808 ≤ kindQ a ∧ kindQ a ≤ 9223372036854775807 := by
  have t1 := Int.tmod_lt_of_pos (Int.tmod a 6 + 6) (show (0:Int) < 6 by omega)
  have t2 := Int.lt_tmod_of_pos (Int.tmod a 6 + 6) (show (0:Int) < 6 by omega)
  unfold kindQ
  omega
/-- The document's list of a queue by turn. -/
def tl (l : List Int) : List PQ.S73 := l.map fun x => ⟨0, x⟩
theorem items_tl (l : List Int) : itemsS (tl l) = l := by simp [itemsS, tl, Function.comp_def]
theorem tl_length (l : List Int) : (tl l).length = l.length := by simp [tl]
theorem tl_append (l l' : List Int) : tl (l ++ l') = tl l ++ tl l' := by simp [tl]
theorem posS_tl (l : List Int) : posS (tl l) 0 l.length = l.length := by
  have h : ∀ i, posS (tl l) 0 i = i := fun i => by
    cases i with
    | zero => rfl
    | succ i =>
      unfold posS
      rw [if_neg]
      rw [List.getD_eq_getElem?_getD]
      unfold tl
      rw [List.getElem?_map]
      cases l[i]? with
      | none => simp [PQ.z73]
      | some a => simp
  exact h _
theorem insS_tl (l : List Int) (x : Int) : insS (tl l) 0 x = tl (l ++ [x]) := by
  unfold insS
  rw [tl_length, posS_tl, tl_append, ← tl_length, List.take_length, List.drop_length, List.append_nil]
  first | done | rfl
theorem putES_tl (l : List Int) (x : Int) : putES (tl l) 0 x = putE l x := by
  unfold putES putE
  rw [if_neg (by omega), items_tl, tl_length]
theorem putS_tl (l : List Int) (x : Int) : putS (tl l) 0 x = tl (putL l x) := by
  unfold putS
  rw [putES_tl l x, insS_tl]
  unfold putE putL
  by_cases h : x ∈ l
  · rw [if_pos h, if_neg (by omega)]; simp [h]
  · rw [if_neg h]
    by_cases h2 : 65536 ≤ l.length
    · rw [if_pos h2, if_neg (by omega)]; simp [h, h2]
    · rw [if_neg h2, if_pos rfl]; simp [h, h2]
theorem tput_f (l : List Int) (x : Int) (hl : l.length ≤ 65536) : PQ.convoyref04_Put.f (l.length + 2) (tl l) 0 x = some (tl (putL l x), putE l x) := by
  rw [← putS_tl l x, ← putES_tl l x, ← tl_length]
  exact qput_f _ _ _ (by rw [tl_length]; exact hl)
theorem tfind_f (l : List Int) (x : Int) (hl : l.length ≤ 65536) : PQ.convoyref04_Find.f (l.length + 1) (tl l) x = some (findV l x) := by
  have := qfind_f (tl l) x (by rw [tl_length]; omega)
  rw [items_tl, tl_length] at this
  exact this
theorem twithout_head (y : Int) (l : List Int) (hl : l.length ≤ 65535) : PQ.convoyref04_Without.f (tl (y :: l)) 0 = some (tl l) := by
  rw [qwithout_f _ 0 (Int.le_refl _) (by rw [tl_length]; simp) (by rw [tl_length]; simp; omega)]
  rfl
theorem twithout_f (l : List Int) (x : Int) (hl : l.length ≤ 65536) (hn : l.Nodup) (hx : x ∈ l) : PQ.convoyref04_Without.f (tl l) (findV l x) = some (tl (l.filter fun y => decide (y ≠ x))) := by
  have hr := findV_range hx
  rw [qwithout_f _ _ hr.1 (by rw [tl_length]; exact hr.2) (by rw [tl_length]; exact hl)]
  obtain ⟨k, k1, k2, k3, k4⟩ := idxOf_spec hx
  have h1 := filter_ne_at hn k1
  rw [rd_getD, k3] at h1
  unfold findV
  rw [if_pos hx, k2, h1, tl_append]
  simp [tl]
/-- What a script's line does to the list. -/
def playQ (l : List Int) (a : Int × Int × Int) : List Int :=
  if kindQ a.1 = 3 then l.tail else if kindQ a.1 = 4 then l.filter fun y => decide (y ≠ a.2.1) else if kindQ a.1 = 5 then (if a.2.1 ∈ l then (l.filter fun y => decide (y ≠ a.2.1)) ++ [a.2.1] else l) else putL l a.2.1
end Go.Proofs.Ytljckmiphkoipaa

/-
  QueueTimes: the document's list of a queue by time, plain.
-/
namespace Go.Proofs.Ytljckmiphkoipaa
set_option linter.unusedVariables false
set_option linter.unusedSimpArgs false
open Go.RowKit Go.Proofs.YtljckmiphkoipaaW.PrintWords Go.Proofs.YtljckmiphkoipaaW.PrintLast Go.Proofs.YtljckmiphkoipaaW.PrintMore

/-- How many are due. -/
def dueN (lp : List (Int × Int)) (now : Int) : Nat := (lp.takeWhile fun p => decide (p.1 ≤ now)).length
theorem dueN_le (lp : List (Int × Int)) (now : Int) : dueN lp now ≤ lp.length := (List.takeWhile_sublist _).length_le
theorem due_loop (lp : List (Int × Int)) (now : Int) (hl : lp.length ≤ 65536) : ∀ (d j : Nat), j + d = lp.length → PQ.convoyref04_Due.l0 (d + 1) (tp lp) now (j : Int) = some ((j + ((lp.drop j).takeWhile fun p => decide (p.1 ≤ now)).length : Nat) : Int)
  | 0, j, h => by
    unfold PQ.convoyref04_Due.l0
    rw [tp_length, if_neg (by omega), List.drop_eq_nil_of_le (by omega)]
    rfl
  | d + 1, j, h => by
    unfold PQ.convoyref04_Due.l0
    rw [tp_length, if_pos (by omega), if_pos (by omega), rd_tp, Int.toNat_natCast, w64 _ (by omega)]
    have hj : j < lp.length := by omega
    have e1 : lp.getD j (0, 0) = lp[j] := by rw [List.getD_eq_getElem?_getD, List.getElem?_eq_getElem hj]; rfl
    rw [List.drop_eq_getElem_cons hj, e1]
    by_cases hc : lp[j].1 ≤ now
    · rw [if_pos hc, List.takeWhile_cons_of_pos (by simpa using hc)]
      have := due_loop lp now hl d (j + 1) (by omega)
      rw [show ((j + 1 : Nat) : Int) = (j : Int) + 1 by omega] at this
      rw [this]
      congr 1
      simp; omega
    · rw [if_neg hc, List.takeWhile_cons_of_neg (by simpa using hc)]
      simp
theorem pdue_f (lp : List (Int × Int)) (now : Int) (hl : lp.length ≤ 65536) : PQ.convoyref04_Due.f (lp.length + 1) (tp lp) now = some (dueN lp now : Int) := by
  have := due_loop lp now hl lp.length 0 (by omega)
  rw [List.drop_zero, Nat.zero_add] at this
  exact this
theorem dueV_len (lp : List (Int × Int)) (now : Int) : (dueV lp now).length = dueN lp now := by simp [dueV, dueN]
theorem dueP_eq (lp : List (Int × Int)) (now : Int) : dueP lp now = lp.drop (dueN lp now) := by
  unfold dueP dueN
  induction lp with
  | nil => rfl
  | cons p lp ih =>
    by_cases h : p.1 ≤ now
    · simp [h, ih]
    · simp [h]
theorem dueV_eq (lp : List (Int × Int)) (now : Int) : dueV lp now = (lp.take (dueN lp now)).map (·.2) := by
  unfold dueV dueN
  congr 1
  induction lp with
  | nil => rfl
  | cons p lp ih =>
    by_cases h : p.1 ≤ now
    · simp [h, ← ih]
    · simp [h]
theorem dueN_pos {lp : List (Int × Int)} {now : Int} : (lp ≠ [] ∧ (lp.headD (0, 0)).1 ≤ now) ↔ 0 < dueN lp now := by
  cases lp with
  | nil => simp [dueN]
  | cons p lp =>
    unfold dueN
    by_cases h : p.1 ≤ now <;> simp [h]
theorem pwithout_head {lp : List (Int × Int)} (hne : lp ≠ []) (hl : lp.length ≤ 65536) : PQ.convoyref04_Without.f (tp lp) 0 = some (tp (lp.drop 1)) := by
  have hpos := List.length_pos_iff.2 hne
  rw [qwithout_f _ 0 (Int.le_refl _) (by rw [tp_length]; omega) (by rw [tp_length]; omega)]
  simp [tp]
theorem pwithout_f (lp : List (Int × Int)) (x : Int) (hl : lp.length ≤ 65536) (hn : (lp.map (·.2)).Nodup) (hx : x ∈ lp.map (·.2)) : PQ.convoyref04_Without.f (tp lp) (findV (lp.map (·.2)) x) = some (tp (lp.filter fun p => decide (p.2 ≠ x))) := by
  have hr := findV_range hx
  rw [List.length_map] at hr
  rw [qwithout_f _ _ hr.1 (by rw [tp_length]; exact hr.2) (by rw [tp_length]; exact hl)]
  obtain ⟨k, k1, k2, k3, k4⟩ := idxOf_spec hx
  have hk : k < lp.length := by simpa using k1
  have e : findV (lp.map (·.2)) x = k := by unfold findV; rw [if_pos hx, k2]
  rw [e, Int.toNat_natCast]
  have h1 : lp.take k ++ lp.drop (k + 1) = lp.filter fun p => decide (p.2 ≠ x) := by
    have hs : lp = lp.take k ++ lp[k] :: lp.drop (k + 1) := by rw [List.getElem_cons_drop hk, List.take_append_drop]
    have hx2 : lp[k].2 = x := by
      rw [List.getD_eq_getElem?_getD, List.getElem?_map, List.getElem?_eq_getElem hk] at k3
      simpa using k3
    generalize hz : lp[k] = z at hs hx2
    have hn2 : ((lp.take k).map (·.2) ++ z.2 :: (lp.drop (k + 1)).map (·.2)).Nodup := by
      rw [← List.map_cons, ← List.map_append, ← hs]; exact hn
    rw [List.nodup_append] at hn2
    obtain ⟨_, n2, n3⟩ := hn2
    rw [List.nodup_cons] at n2
    conv => rhs; rw [hs]
    rw [List.filter_append, List.filter_cons_of_neg (by simp [hx2])]
    rw [List.filter_eq_self.2, List.filter_eq_self.2]
    · intro p hp
      have : p.2 ≠ x := fun e => n2.1 (List.mem_map.2 ⟨p, hp, by rw [e, hx2]⟩)
      simpa using this
    · intro p hp
      have : p.2 ≠ x := fun e => n3 p.2 (List.mem_map.2 ⟨p, hp, rfl⟩) z.2 (by simp) (by rw [e, hx2])
      simpa using this
  rw [← h1, tp_append]
  simp [tp]
/-- Those due at a tick stand ahead of the others. -/
theorem sorted_split (t : Int) : ∀ {lp : List (Int × Int)}, lp.Pairwise (fun p q => p.1 ≤ q.1) → lp = lp.filter (fun y => decide (y.1 ≤ t)) ++ lp.filter (fun y => !decide (y.1 ≤ t))
  | [], _ => rfl
  | p :: lp, h => by
    obtain ⟨h1, h2⟩ := List.pairwise_cons.1 h
    by_cases hp : p.1 ≤ t
    · rw [List.filter_cons_of_pos (by simpa using hp), List.filter_cons_of_neg (by simpa using hp), List.cons_append, ← sorted_split t h2]
    · rw [List.filter_cons_of_neg (by simpa using hp), List.filter_cons_of_pos (by simpa using hp)]
      have e1 : lp.filter (fun y => decide (y.1 ≤ t)) = [] := List.filter_eq_nil_iff.2 (fun q hq => by have := h1 q hq; simp; omega)
      have e2 : lp.filter (fun y => !decide (y.1 ≤ t)) = lp := List.filter_eq_self.2 (fun q hq => by have := h1 q hq; simp; omega)
      rw [e1, e2]; rfl
theorem posS_split (A B : List (Int × Int)) (t : Int) (hA : ∀ p ∈ A, p.1 ≤ t) (hB : ∀ p ∈ B, t < p.1) : ∀ d, d ≤ B.length → posS (tp (A ++ B)) t (A.length + d) = A.length
  | 0, _ => by
    cases hk : A.length with
    | zero => rfl
    | succ k =>
      rw [Nat.add_zero]
      unfold posS
      rw [if_neg]
      have e : (tp (A ++ B)).getD k PQ.z73 = ⟨(A[k]'(by omega)).1, (A[k]'(by omega)).2⟩ := by
        unfold tp
        rw [List.getD_eq_getElem?_getD, List.getElem?_map, List.getElem?_append_left (by omega), List.getElem?_eq_getElem (by omega)]; rfl
      rw [e]
      have := hA _ (List.getElem_mem (show k < A.length by omega))
      simp; omega
  | d + 1, h => by
    rw [← Nat.add_assoc]
    unfold posS
    rw [if_pos]
    · exact posS_split A B t hA hB d (by omega)
    · have e : (tp (A ++ B)).getD (A.length + d) PQ.z73 = ⟨(B[d]'(by omega)).1, (B[d]'(by omega)).2⟩ := by
        unfold tp
        rw [List.getD_eq_getElem?_getD, List.getElem?_map, List.getElem?_append_right (by omega), Nat.add_sub_cancel_left, List.getElem?_eq_getElem (by omega)]; rfl
      rw [e]
      exact hB _ (List.getElem_mem (show d < B.length by omega))
theorem insS_tp {lp : List (Int × Int)} (h : lp.Pairwise (fun p q => p.1 ≤ q.1)) (t x : Int) : insS (tp lp) t x = tp (putP lp t x) := by
  have hs := sorted_split t h
  unfold insS putP
  generalize hA : lp.filter (fun y => decide (y.1 ≤ t)) = A at hs ⊢
  generalize hB : lp.filter (fun y => !decide (y.1 ≤ t)) = B at hs ⊢
  have kA : ∀ p ∈ A, p.1 ≤ t := fun p hp => by rw [← hA] at hp; simpa using (List.mem_filter.1 hp).2
  have kB : ∀ p ∈ B, t < p.1 := fun p hp => by rw [← hB] at hp; have := (List.mem_filter.1 hp).2; simp at this; omega
  rw [tp_length, hs]
  have hp := posS_split A B t kA kB B.length (Nat.le_refl _)
  rw [← List.length_append] at hp
  rw [hp, tp_append, tp_append]
  have e1 : A.length = (tp A).length := (tp_length A).symm
  rw [e1, List.take_left, List.drop_left]
  simp [tp]
theorem putES_tp (lp : List (Int × Int)) (t x : Int) : putES (tp lp) t x = putEr lp t x := by
  unfold putES putEr
  rw [items_tp, tp_length]
theorem putS_tp {lp : List (Int × Int)} (h : lp.Pairwise (fun p q => p.1 ≤ q.1)) (t x : Int) : putS (tp lp) t x = tp (putR lp t x) := by
  unfold putS putR
  rw [putES_tp, insS_tp h]
  split <;> rfl
theorem pput_f {lp : List (Int × Int)} (h : lp.Pairwise (fun p q => p.1 ≤ q.1)) (t x : Int) (hl : lp.length ≤ 65536) : PQ.convoyref04_Put.f (lp.length + 2) (tp lp) t x = some (tp (putR lp t x), putEr lp t x) := by
  rw [← putS_tp h, ← putES_tp, ← tp_length]
  exact qput_f _ _ _ (by rw [tp_length]; exact hl)
theorem IsTimes.sorted {w : World} {base q : Nat} {Q : Nat → Prop} {lp : List (Int × Int)} {n : Int} (h : IsTimes w base q Q lp n) : lp.Pairwise (fun p q => p.1 ≤ q.1) := by
  obtain ⟨mb, v, H, M, T, l, h1, h2, h3, rfl⟩ := h
  rw [List.pairwise_map]
  exact h2.sorted.imp (fun {x y} h => by unfold ltT at h; simp at h; show x.1 ≤ y.1; omega)
theorem IsTimes.nodup {w : World} {base q : Nat} {Q : Nat → Prop} {lp : List (Int × Int)} {n : Int} (h : IsTimes w base q Q lp n) : (lp.map (·.2)).Nodup := by
  obtain ⟨mb, v, H, M, T, l, h1, h2, h3, rfl⟩ := h
  have hp : ((l.map pr).map (·.2)).Perm (M.map (·.1)) := by
    rw [List.map_map]
    have := (h2.perm.map (fun x : Tm => x.2.2))
    rw [List.map_map] at this
    have e : M.map ((fun x : Tm => x.2.2) ∘ fun x => x.2) = M.map (·.1) := List.map_congr_left (fun p hp => h2.item p hp)
    rw [e] at this
    exact this
  rw [hp.nodup_iff, List.nodup_iff_pairwise_ne, List.pairwise_map]
  exact h2.keys
end Go.Proofs.Ytljckmiphkoipaa

/-
  QueueDue: plain laws; Put told by how many were dropped.
-/
namespace Go.Proofs.Ytljckmiphkoipaa
set_option linter.unusedVariables false
set_option linter.unusedSimpArgs false
open Go.RowKit Go.MapKept Go.Maps Go.Proofs.YtljckmiphkoipaaW.PrintWords Go.Proofs.YtljckmiphkoipaaW.PrintLast Go.Proofs.YtljckmiphkoipaaW.PrintMore

theorem putP_length (lp : List (Int × Int)) (a i : Int) : (putP lp a i).length = lp.length + 1 := by
  unfold putP
  have := (List.filter_append_perm (fun y : Int × Int => decide (y.1 ≤ a)) lp).length_eq
  rw [List.length_append] at this
  rw [List.length_append, List.length_cons]
  omega
/-- Put, of a queue of which s were dropped at most. -/
theorem tput2_calls {w : World} {base q : Nat} {Q : Nat → Prop} {s : Int} {lp : List (Int × Int)} (h : IsTimes w base q Q lp (s + lp.length)) {a i : Int} (hi : goodI i) (hn : s < 6999999900000) (hbase : base ≤ w.heap.size) :
    Calls Try.prog 64 #[.pointer (some ⟨q, 0, none⟩), .int .i64 a, .int .i64 i] w fun e w' => e = .returned (.int .i64 (putEr lp a i)) ∧ IsTimes w' base q (fun k => Q k ∨ w.heap.size ≤ k) (putR lp a i) (s + (putR lp a i).length) ∧ Only Q w w' := by
  unfold putR putEr
  by_cases ha : a < 0 ∨ 4611686018427387904 < a
  · simp only [ha, if_true]
    refine (tput_range _ ha).mono ?_
    rintro e w' ⟨rfl, rfl⟩
    exact ⟨rfl, h.mono (fun k hk => .inl hk), Only.refl _ _⟩
  simp only [ha, if_false]
  by_cases hm : i ∈ lp.map (·.2)
  · simp only [hm, if_true]
    refine (tput_there h ha hi hm).mono ?_
    rintro e w' ⟨rfl, hB⟩
    exact ⟨rfl, (h.below hB).mono (fun k hk => .inl hk), Only.ofBelow hB⟩
  simp only [hm, if_false]
  by_cases hf : 65536 ≤ lp.length
  · simp only [hf, if_true]
    refine (tput_full h ha hi hm hf).mono ?_
    rintro e w' ⟨rfl, hB⟩
    exact ⟨rfl, (h.below hB).mono (fun k hk => .inl hk), Only.ofBelow hB⟩
  simp only [hf, if_false, if_true]
  refine (tput_new h ha hi hm (by omega) (by omega) hbase).mono ?_
  rintro e w' ⟨rfl, h1, h2⟩
  exact ⟨rfl, h1.more (by rw [putP_length]; omega), h2⟩
theorem IsTimes.ats {w : World} {base q : Nat} {Q : Nat → Prop} {lp : List (Int × Int)} {n : Int} (h : IsTimes w base q Q lp n) : ∀ p ∈ lp, 0 ≤ p.1 ∧ p.1 ≤ 4611686018427387904 := by
  obtain ⟨mb, v, H, M, T, l, h1, h2, h3, rfl⟩ := h
  intro p hp
  obtain ⟨x, hx, rfl⟩ := List.mem_map.1 hp
  have hxH : x ∈ H := by
    obtain ⟨q, hq, rfl⟩ := List.mem_map.1 (h2.perm.mem_iff.1 hx)
    exact h2.inH q hq
  exact h2.ats x hxH
theorem drop_len {lp : List (Int × Int)} {x : Int} (hn : (lp.map (·.2)).Nodup) (hx : x ∈ lp.map (·.2)) : (lp.filter fun p => decide (p.2 ≠ x)).length + 1 = lp.length := by
  induction lp with
  | nil => simp at hx
  | cons p lp ih =>
    rw [List.map_cons, List.nodup_cons] at hn
    by_cases hp : p.2 = x
    · rw [List.filter_cons_of_neg (by simpa using hp), List.filter_eq_self.2 (fun y hy => by
        have : y.2 ≠ x := fun e => hn.1 (List.mem_map.2 ⟨y, hy, by rw [e, hp]⟩)
        simpa using this)]
      simp
    · rw [List.filter_cons_of_pos (by simpa using hp), List.length_cons, List.length_cons, ih hn.2 (by
        rw [List.map_cons, List.mem_cons] at hx
        rcases hx with hx | hx
        · exact absurd hx.symm hp
        · exact hx)]
theorem drop_notin (lp : List (Int × Int)) (x : Int) : x ∉ (lp.filter fun p => decide (p.2 ≠ x)).map (·.2) := by
  intro h
  obtain ⟨p, hp, rfl⟩ := List.mem_map.1 h
  have := (List.mem_filter.1 hp).2
  simp at this
/-- Put in again: it may be. -/
theorem again_ok {w : World} {base q : Nat} {Q : Nat → Prop} {lp : List (Int × Int)} {n x : Int} (h : IsTimes w base q Q lp n) (hx : x ∈ lp.map (·.2)) : putEr (lp.filter fun p => decide (p.2 ≠ x)) (atP lp x) x = 0 ∧ putR (lp.filter fun p => decide (p.2 ≠ x)) (atP lp x) x = putP (lp.filter fun p => decide (p.2 ≠ x)) (atP lp x) x := by
  have hfew := h.few
  have hl := drop_len h.nodup hx
  obtain ⟨k1, k2, k3⟩ := atP_in hx
  have hb := h.ats _ (show lp.getD (findV (lp.map (·.2)) x).toNat (0, 0) ∈ lp by
    rw [List.getD_eq_getElem?_getD, List.getElem?_eq_getElem (by omega)]; exact List.getElem_mem _)
  rw [k3] at hb
  have e : putEr (lp.filter fun p => decide (p.2 ≠ x)) (atP lp x) x = 0 := by
    unfold putEr
    rw [if_neg (by omega), if_neg (drop_notin lp x), if_neg (by omega)]
  exact ⟨e, by unfold putR; rw [if_pos e]⟩
/-- Where it stands then. -/
theorem again_at (lp : List (Int × Int)) (t x : Int) (hx : x ∉ lp.map (·.2)) (j : Nat) (hj : j < (putP lp t x).length) :
    (j < (lp.filter fun y => decide (y.1 ≤ t)).length → ((putP lp t x).getD j (0, 0)).2 ≠ x) ∧ (j = (lp.filter fun y => decide (y.1 ≤ t)).length → ((putP lp t x).getD j (0, 0)).2 = x) ∧ ((lp.filter fun y => decide (y.1 ≤ t)).length < j → ((putP lp t x).getD j (0, 0)).1 ≠ t) := by
  unfold putP at *
  generalize hA : lp.filter (fun y => decide (y.1 ≤ t)) = A at *
  generalize hB : lp.filter (fun y => !decide (y.1 ≤ t)) = B at *
  refine ⟨fun h => ?_, fun h => ?_, fun h => ?_⟩
  · rw [List.getD_eq_getElem?_getD, List.getElem?_append_left h, List.getElem?_eq_getElem h]
    intro e
    have hm : A[j] ∈ lp.filter (fun y => decide (y.1 ≤ t)) := by rw [hA]; exact List.getElem_mem h
    exact hx (List.mem_map.2 ⟨A[j], (List.mem_filter.1 hm).1, e⟩)
  · subst h
    rw [List.getD_eq_getElem?_getD, List.getElem?_append_right (Nat.le_refl _), Nat.sub_self]; rfl
  · obtain ⟨k, rfl⟩ : ∃ k, j = A.length + 1 + k := ⟨j - A.length - 1, by omega⟩
    rw [List.length_append, List.length_cons] at hj
    rw [List.getD_eq_getElem?_getD, List.getElem?_append_right (by omega), show A.length + 1 + k - A.length = k + 1 by omega, List.getElem?_cons_succ, List.getElem?_eq_getElem (by omega)]
    have hm : B[k]'(by omega) ∈ lp.filter (fun y => !decide (y.1 ≤ t)) := by rw [hB]; exact List.getElem_mem _
    have := (List.mem_filter.1 hm).2
    simp at this
    intro e
    have e' : (B[k]'(by omega)).1 = t := e
    omega
/-- The due ones, one by one. -/
theorem due_at {lp : List (Int × Int)} {now : Int} {j : Nat} (hj : j < dueN lp now) : takeV (lp.drop j) now = ((dueV lp now).getD j 0, true) ∧ takeP (lp.drop j) now = lp.drop (j + 1) := by
  have hl := dueN_le lp now
  have hjl : j < lp.length := by omega
  have hd : lp.drop j = lp[j] :: lp.drop (j + 1) := List.drop_eq_getElem_cons hjl
  have hle : lp[j].1 ≤ now := by
    have hm : lp[j] ∈ lp.takeWhile (fun p => decide (p.1 ≤ now)) := by
      have hp := List.takeWhile_prefix (fun p : Int × Int => decide (p.1 ≤ now)) (l := lp)
      have h1 : j < (lp.takeWhile (fun p => decide (p.1 ≤ now))).length := hj
      have := hp.getElem h1
      rw [← this]
      exact List.getElem_mem h1
    have h2 := List.all_eq_true.1 (List.all_takeWhile (p := fun p : Int × Int => decide (p.1 ≤ now)) (l := lp)) _ hm
    simpa using h2
  have hc : lp.drop j ≠ [] ∧ ((lp.drop j).headD (0, 0)).1 ≤ now := ⟨by rw [hd]; exact List.cons_ne_nil _ _, by rw [hd]; exact hle⟩
  obtain ⟨e1, e2, _⟩ := due_yes hc
  rw [e1, e2, hd]
  refine ⟨?_, by simp⟩
  rw [dueV_eq, List.getD_eq_getElem?_getD, List.getElem?_map, List.getElem?_take_of_lt hj, List.getElem?_eq_getElem hjl]
  rfl
theorem due_end (lp : List (Int × Int)) (now : Int) : takeV (lp.drop (dueN lp now)) now = (0, false) ∧ takeP (lp.drop (dueN lp now)) now = lp.drop (dueN lp now) := by
  have hc : ¬ (lp.drop (dueN lp now) ≠ [] ∧ ((lp.drop (dueN lp now)).headD (0, 0)).1 ≤ now) := by
    rw [← dueP_eq]
    unfold dueP
    rintro ⟨h1, h2⟩
    have h3 := List.head_dropWhile_not (fun p : Int × Int => decide (p.1 ≤ now)) (l := lp) h1
    have h4 : (List.dropWhile (fun p : Int × Int => decide (p.1 ≤ now)) lp).headD (0, 0) = (List.dropWhile (fun p : Int × Int => decide (p.1 ≤ now)) lp).head h1 := by
      rw [List.headD_eq_head?_getD, List.head?_eq_some_head h1]; rfl
    rw [h4] at h2
    simp at h3
    omega
  obtain ⟨e1, e2, _⟩ := due_no hc
  exact ⟨e1, e2⟩
end Go.Proofs.Ytljckmiphkoipaa

/-
  QueueTimes: does a queue by time stand as a list: the walk.
-/
namespace Go.Proofs.Ytljckmiphkoipaa
set_option linter.unusedVariables false
set_option linter.unusedSimpArgs false
open Go.RowKit Go.MapKept Go.Maps Go.Proofs.YtljckmiphkoipaaW.PrintWords Go.Proofs.YtljckmiphkoipaaW.PrintLast Go.Proofs.YtljckmiphkoipaaW.PrintMore


set_option maxRecDepth 100000 in
set_option maxHeartbeats 16000000 in
theorem times_calls {w : World} {base q lo : Nat} {Q P : Nat → Prop} {lp : List (Int × Int)} {n x : Int} {vl : Value} (h : IsTimes w base q Q lp n) (hn : n < 7000000000001) (hx : goodI x) (hR : PQ.k73.R 73 w lo P vl (tp lp)) (hP : ∀ k, P k → ¬ Q k) :
    Calls Try.prog 65 #[.pointer (some ⟨q, 0, none⟩), vl, .int .i64 x] w fun e w' => e = .returned (.bool true) ∧ IsTimes w' base q Q lp n ∧ Only Q w w' := by
  obtain ⟨A, c, rfl, hc, hC⟩ := Kd.R_reads hR
  obtain ⟨m, hm⟩ : ∃ m : Nat, m = (tp lp).length := ⟨_, rfl⟩
  have hml : m = lp.length := by rw [hm, tp_length]
  have hfew := h.few
  have hfd : ∀ u, Below w.heap.size w u → Calls Try.prog 40 #[.slice A m c, .int .i64 x] u fun e w' => e = .returned (.int .i64 (findV (lp.map (·.2)) x)) ∧ Below u.heap.size u w' := fun u hu => by
    have := PQ.convoyref04_Find.calls (lp.length + 1) A c (tp lp) x _ u (Kd.C_below hC hu) hc (pfind_f lp x hfew)
    rw [← hm] at this
    exact this
  obtain ⟨fv, hfv⟩ : ∃ fv, fv = findV (lp.map (·.2)) x := ⟨_, rfl⟩
  rw [← hfv] at hfd
  have hmm : ((m : Int) != (m : Int)) = false := by simp
  rw [← hm] at hc hR hC ⊢
  replace hfd := Aside0.mk hfd
  have HH := Aside0.mk (And.intro h (And.intro hn (And.intro hR (And.intro hP (And.intro hC (And.intro hm (And.intro hml (And.intro hfew hfv))))))))
  replace hx := Aside0.mk hx
  clear h hn hR hP hC hm hml hfew hfv
  go_enter Try.func65, Try.ntmps65
  go_upto_region 2 with (go_at_call 67; refine (tall_calls HH.out.1).mono ?_; rintro e W1 ⟨v1, rfl, hR1, hB1⟩; obtain ⟨A1, c1, g1, rfl, hA1, hg1, hc1, hL1⟩ := leftP_of hR1; rw [← HH.out.2.2.2.2.2.2.1] at hA1 hL1 hc1 ⊢; have hI1 := Aside0.mk (HH.out.1.below hB1); replace hB1 := Aside0.mk hB1; clear hR1; replace hA1 := Aside0.mk hA1; replace hL1 := Aside0.mk hL1)
  go_upto_region 4 with (go_at_call 68; refine (tlen_calls hI1.out).mono ?_; rintro e W2 ⟨rfl, h9⟩; rw [h9]; rw [← HH.out.2.2.2.2.2.2.1]; clear h9 W2)
  go_wp2
  go_loopg [30] (m + 1) (fun kq v30 w' => ∃ (i : Int), v30 = .int .i64 i ∧ Aside0 (0 ≤ i ∧ i ≤ m ∧ m - i.toNat < kq) ∧ Aside0 (LeftP w' g1 m lp i) ∧ Aside0 (Below w.heap.size w w'))
  case atStart => exact ⟨0, rfl, ⟨by omega, by omega, by omega⟩, hL1, hB1⟩
  case round =>
    obtain ⟨i, rfl, hi, hL, hB⟩ := hrel
    clear hL1 hB1 hI1
    by_cases him : i < m
    · have d1 : decide (i < (m : Int)) = true := decide_eq_true him
      have hm0 : m ≠ 0 := by have := hi.out; omega
      have e1 := hA1.out hm0
      subst e1
      have hi0 : 0 ≤ i := hi.out.1
      obtain ⟨cur, hcur, hcs, hcj⟩ := hL.out (by omega)
      have hCr := Kd.C_below HH.out.2.2.2.2.1 hB.out
      rw [HH.out.2.2.2.2.2.1] at hCr
      obtain ⟨ad, eA, y0, y1⟩ := PQ.at_T73 hCr i hi0 (by rw [← HH.out.2.2.2.2.2.1]; exact him)
      subst eA
      rw [rd_tp] at y0 y1
      clear hCr
      obtain ⟨z0, hz0⟩ : ∃ z, z = (lp.getD i.toNat (0, 0)).1 := ⟨_, rfl⟩
      obtain ⟨z, hz⟩ : ∃ z, z = (lp.getD i.toNat (0, 0)).2 := ⟨_, rfl⟩
      have x0 : wr.cell? ⟨g1, i.toNat * 2, none⟩ = some (.int .i64 z0) := (blk_cell hcur _).trans (by rw [hz0]; exact (hcj i (Int.le_refl _) him).1)
      have x1 : wr.cell? ⟨g1, i.toNat * 2 + 1, none⟩ = some (.int .i64 z) := (blk_cell hcur _).trans (by rw [hz]; exact (hcj i (Int.le_refl _) him).2)
      simp only at y0 y1
      rw [← hz] at y1
      rw [← hz0] at y0
      have HC := Aside0.mk (And.intro hcur (And.intro hcs him))
      clear hz hz0 hcur hcs hcj hm0 hA1
      go_upto_region 7 with fail
      obtain ⟨W4, hW4⟩ : ∃ W4, W4 = wr.alloc (Obj.cells #[.int .i64 z0, .int .i64 z] 73) := ⟨_, rfl⟩
      have b4 : Below wr.heap.size wr W4 := by rw [hW4]; exact (Below.refl _ _).alloc (Nat.le_refl _) _
      have x4 : W4.heap[wr.heap.size]? = some (.cells #[.int .i64 z0, .int .i64 z] 73 (0, 0)) := by rw [hW4]; exact heap_alloc_new wr _
      rw [← hW4]
      have o4 : Only (fun _ => False) wr W4 := Only.ofBelow b4
      have w4 : Below w.heap.size w W4 := hB.out.trans (b4.mono hB.out.size)
      have L4 := hL.out.below o4 (fun h => h)
      have hcur4 := (o4.block _ (blk_lt HC.out.1) (fun h => h)).trans HC.out.1
      have f0 : W4.cell? ⟨g1, i.toNat * 2, none⟩ = some (.int .i64 z0) := (blk_cell hcur4 _).trans ((blk_cell HC.out.1 _).symm.trans x0)
      have f1 : W4.cell? ⟨g1, i.toNat * 2 + 1, none⟩ = some (.int .i64 z) := (blk_cell hcur4 _).trans ((blk_cell HC.out.1 _).symm.trans x1)
      have f2 : W4.cell? ⟨wr.heap.size, 0, none⟩ = some (.int .i64 z0) := (blk_cell x4 0).trans rfl
      have f3 : W4.cell? ⟨wr.heap.size, 1, none⟩ = some (.int .i64 z) := (blk_cell x4 1).trans rfl
      have hgd := guard102
      have heq := neq102 z0 z
      have H4 := Aside0.mk (And.intro w4 (And.intro L4 hcur4))
      clear hW4 b4 x4 o4 w4 L4 hcur4 x0 x1 y0 y1
      refine start_ (n := 10) (S := fun w' => w'.cell? ⟨g1, i.toNat * 2, none⟩ = some (.int .i64 z0) ∧ w'.cell? ⟨g1, i.toNat * 2 + 1, none⟩ = some (.int .i64 z) ∧ w'.cell? ⟨wr.heap.size, 0, none⟩ = some (.int .i64 z0) ∧ w'.cell? ⟨wr.heap.size, 1, none⟩ = some (.int .i64 z)) (ds := []) #[false, false, false, false, false, false, false, false, false, false] (by kernel_rfl) rfl rfl ⟨f0, f1, f2, f3⟩ (fun hHeld => ?_)
      refine pure_ (i := 0) (N := some 35) (v := ?_) (a' := ?_) #[true, false, false, false, false, false, false, false, false, false] rfl rfl (by kernel_rfl) (fun _ _ _ h => h) (Or.inl ⟨by rfl, ?_⟩) ?_ ?_
      rotate_left
      · intro w'
        go_simp
        with_reducible rfl
      rotate_left
      · simp only [Act.put, List.setIfInBounds_toArray, List.set_cons_zero, List.set_cons_succ, i64_w, i32_w]
        rfl
      refine pure_ (i := 1) (N := some 36) (v := ?_) (a' := ?_) #[true, true, false, false, false, false, false, false, false, false] rfl rfl (by kernel_rfl) (fun _ _ _ h => h) (Or.inl ⟨by rfl, ?_⟩) ?_ ?_
      rotate_left
      · intro w'
        go_simp
        with_reducible rfl
      rotate_left
      · simp only [Act.put, List.setIfInBounds_toArray, List.set_cons_zero, List.set_cons_succ, i64_w, i32_w]
        rfl
      refine pure_ (i := 2) (N := some 37) (v := ?_) (a' := ?_) #[true, true, true, false, false, false, false, false, false, false] rfl rfl (by kernel_rfl) (fun _ _ _ h => h) (Or.inl ⟨by rfl, ?_⟩) ?_ ?_
      rotate_left
      · intro w'
        go_simp
        with_reducible rfl
      rotate_left
      · simp only [Act.put, List.setIfInBounds_toArray, List.set_cons_zero, List.set_cons_succ, i64_w, i32_w]
        rfl
      refine pure_ (i := 4) (N := some 39) (v := ?_) (a' := ?_) #[true, true, true, false, true, false, false, false, false, false] rfl rfl (by kernel_rfl) (fun _ _ _ h => h) (Or.inl ⟨by rfl, ?_⟩) ?_ ?_
      rotate_left
      · intro w'
        go_simp
        with_reducible rfl
      rotate_left
      · simp only [Act.put, List.setIfInBounds_toArray, List.set_cons_zero, List.set_cons_succ, i64_w, i32_w]
        rfl
      refine pure_ (i := 6) (N := some 41) (v := ?_) (a' := ?_) #[true, true, true, false, true, false, true, false, false, false] rfl rfl (by kernel_rfl) (fun _ _ _ h => h) (Or.inl ⟨by rfl, ?_⟩) ?_ ?_
      rotate_left
      · intro w'
        go_simp
        with_reducible rfl
      rotate_left
      · simp only [Act.put, List.setIfInBounds_toArray, List.set_cons_zero, List.set_cons_succ, i64_w, i32_w]
        rfl
      refine take_ (i := 3) (N := some 38) (v := ?_) (a' := ?_) #[true, true, true, true, true, false, true, false, false, false] rfl rfl (by kernel_rfl) (fun _ _ _ h => h) (Or.inl ⟨by rfl, ?_⟩) hHeld ?_ ?_
      rotate_left
      · rintro w' ⟨s0, s1, s2, s3⟩
        go_simp
        with_reducible rfl
      rotate_left
      · simp only [Act.put, List.setIfInBounds_toArray, List.set_cons_zero, List.set_cons_succ, i64_w, i32_w]
        rfl
      refine take_ (i := 5) (N := some 40) (v := ?_) (a' := ?_) #[true, true, true, true, true, true, true, false, false, false] rfl rfl (by kernel_rfl) (fun _ _ _ h => h) (Or.inl ⟨by rfl, ?_⟩) hHeld ?_ ?_
      rotate_left
      · rintro w' ⟨s0, s1, s2, s3⟩
        go_simp
        with_reducible rfl
      rotate_left
      · simp only [Act.put, List.setIfInBounds_toArray, List.set_cons_zero, List.set_cons_succ, i64_w, i32_w]
        rfl
      refine take_ (i := 7) (N := some 42) (v := ?_) (a' := ?_) #[true, true, true, true, true, true, true, true, false, false] rfl rfl (by kernel_rfl) (fun _ _ _ h => h) (Or.inl ⟨by rfl, ?_⟩) hHeld ?_ ?_
      rotate_left
      · rintro w' ⟨s0, s1, s2, s3⟩
        go_simp
        with_reducible rfl
      rotate_left
      · simp only [Act.put, List.setIfInBounds_toArray, List.set_cons_zero, List.set_cons_succ, i64_w, i32_w]
        rfl
      refine pure_ (i := 8) (N := some 43) (v := ?_) (a' := ?_) #[true, true, true, true, true, true, true, true, true, false] rfl rfl (by kernel_rfl) (fun _ _ _ h => h) (Or.inl ⟨by rfl, ?_⟩) ?_ ?_
      rotate_left
      · intro w'
        go_simp
        with_reducible rfl
      rotate_left
      · simp only [Act.put, List.setIfInBounds_toArray, List.set_cons_zero, List.set_cons_succ, i64_w, i32_w]
        rfl
      refine pure_ (i := 9) (N := some 44) (v := ?_) (a' := ?_) #[true, true, true, true, true, true, true, true, true, true] rfl rfl (by kernel_rfl) (fun _ _ _ h => h) (Or.inl ⟨by rfl, ?_⟩) ?_ ?_
      rotate_left
      · intro w'
        go_simp
        with_reducible rfl
      rotate_left
      · simp only [Act.put, List.setIfInBounds_toArray, List.set_cons_zero, List.set_cons_succ, i64_w, i32_w]
        rfl
      refine done_ (by kernel_rfl) ?_
      have f1' : W4.drew.cell? ⟨g1, i.toNat * 2 + 1, none⟩ = some (.int .i64 z) := f1
      have fr := blk_frozen (w := W4.drew) H4.out.2.2 (i.toNat * 2 + 1)
      have wi : wrap64 (i + 1) = i + 1 := w64 _ (by have := HC.out.2.2; have := HH.out.2.2.2.2.2.2.2.1; have := HH.out.2.2.2.2.2.2.1; omega)
      clear f0 f1 f2 f3
      go_wp2
      have L5 := (H4.out.2.1.below (w' := W4.drew) ((Only.refl (fun _ => False) W4).drew) (fun h => h)).set hi0 (.int .i64 (wrap64 (z - 1)))
      have w5 : Below w.heap.size w (W4.drew.setCell ⟨g1, i.toNat * 2 + 1, none⟩ (.int .i64 (wrap64 (z - 1)))) := ((Only.ofBelowAt H4.out.1).drew.setCell (p := ⟨g1, i.toNat * 2 + 1, none⟩) (fun _ => hg1) _).below (Nat.le_refl _) (fun k hk h => by omega)
      go_roundg (m - i.toNat)
      case measure => exact hi.out.2.2
      case rel => exact ⟨i + 1, by rw [wi], ⟨by have := hi.out; omega, by have := hi.out; have := HC.out.2.2; omega, by have := hi.out; have := HC.out.2.2; omega⟩, ⟨L5⟩, ⟨w5⟩⟩
    · have d1 : decide (i < (m : Int)) = false := decide_eq_false him
      have hta := tat_calls (HH.out.1.below hB.out) hx.out
      obtain ⟨av, hav⟩ : ∃ av, av = atP lp x := ⟨_, rfl⟩
      rw [← hav] at hta
      by_cases hxm : x ∈ lp.map (·.2)
      · rw [decide_eq_true hxm] at hta
        obtain ⟨k1, k2, k3⟩ := atP_in hxm
        rw [← HH.out.2.2.2.2.2.2.2.2] at k1 k2 k3
        rw [← hav] at k3
        rw [← HH.out.2.2.2.2.2.2.1] at k2
        have e1 : decide (fv < 0) = false := decide_eq_false (by omega)
        have e2 : decide (0 ≤ fv) = true := decide_eq_true k1
        have haa : (av == av) = true := by simp
        replace hxm := Aside0.mk hxm
        replace hav := Aside0.mk hav
        clear him
        go_upto_region 13 with (first
          | (go_at_call 66; refine hta.mono ?_; rintro e W3 ⟨rfl, hB3⟩; have hw3 := hB.out.trans (hB3.mono hB.out.size))
          | (go_at_call 40; refine (hfd.out W3 hw3).mono ?_; rintro e W4 ⟨rfl, hB4⟩; have hBw := Aside0.mk (hw3.trans (hB4.mono hw3.size))))
        have hC4 := Kd.C_below HH.out.2.2.2.2.1 hBw.out
        rw [HH.out.2.2.2.2.2.1] at hC4
        obtain ⟨ad, eA, y0, y1⟩ := PQ.at_T73 hC4 fv k1 (by rw [← HH.out.2.2.2.2.2.1]; exact k2)
        cases eA
        rw [rd_tp] at y0
        simp only [k3] at y0
        replace k1 := eq_true k1
        replace k2 := eq_true k2
        clear hC4 y1 hta hB3 hB4 hw3 k3
        go_upto_region 15 with fail
        clear y0 hfd
        have hQd : ∀ k, P k → ¬ Q k := HH.out.2.2.2.1
        have hIr := HH.out.1.below hBw.out
        have hc := tnext_calls hIr HH.out.2.1
        cases lp with
        | nil =>
          have hm0 : m = 0 := HH.out.2.2.2.2.2.2.1
          have hm1 : ((m : Int) == 0) = true := by simp [hm0]
          have hm2 : (m == 0) = true := by simp [hm0]
          replace hm0 := Aside0.mk hm0
          change Calls Try.prog 84 #[.pointer (some ⟨q, 0, none⟩)] W4 (fun e w' => e = .returned (.tuple #[.int .i64 0, .int .i64 0, .bool false]) ∧ IsTimes w' base q Q [] n ∧ Only Q W4 w') at hc
          clear hIr
          go_wp2_with (go_at_call 84; refine hc.mono ?_; rintro e W5 ⟨rfl, hI5, hO5⟩; replace hI5 := Aside0.mk hI5; replace hO5 := Aside0.mk hO5)
          go_ret
          exact ⟨by first | rfl | simp, hI5.out, (Only.ofBelow hBw.out).trans hO5.out⟩
        | cons p lp' =>
          obtain ⟨pa, pi⟩ := p
          have hm0 : m = lp'.length + 1 := HH.out.2.2.2.2.2.2.1
          have hm1 : ((m : Int) == 0) = false := by simp; omega
          have hm2 : (m == 0) = false := by simp; omega
          have hm3 := eq_true (show 0 < m by omega)
          have hm4 := eq_true (show (0 : Int) < (m : Int) by omega)
          replace hm0 := Aside0.mk hm0
          change Calls Try.prog 84 #[.pointer (some ⟨q, 0, none⟩)] W4 (fun e w' => e = .returned (.tuple #[.int .i64 pa, .int .i64 pi, .bool true]) ∧ IsTimes w' base q Q ((pa, pi) :: lp') n ∧ Only Q W4 w') at hc
          have hRr := Kd.R_below HH.out.2.2.1 hBw.out
          clear hIr
          go_upto_region 16 with (go_at_call 84; refine hc.mono ?_; rintro e W5 ⟨rfl, hI5, hO5⟩)
          have hR5 := R_only hRr hO5 hQd
          obtain ⟨A9, c9, e9, hc9, hC9⟩ := Kd.R_reads hR5
          rw [← HH.out.2.2.2.2.2.1] at e9
          cases e9
          obtain ⟨ad9, eA9, t0, t1⟩ := PQ.at_T73 hC9 0 (Int.le_refl _) (by rw [tp_length]; simp)
          rw [rd_tp] at t0 t1
          have t2 : W5.cell? (ad9.add 0) = some (.int .i64 pa) := t0
          have t3 : W5.cell? ⟨ad9.block, ad9.off + 1, none⟩ = some (.int .i64 pi) := t1
          have t4 : W5.cell? ad9 = some (.int .i64 pa) := t0
          cases eA9
          replace hI5 := Aside0.mk hI5
          replace hO5 := Aside0.mk hO5
          clear hRr hR5 hc9 hC9 hc
          go_wp2
          go_ret
          exact ⟨by first | rfl | simp, hI5.out, (Only.ofBelow hBw.out).trans hO5.out⟩
      · rw [decide_eq_false hxm] at hta
        have hfv : fv = -1 := by rw [HH.out.2.2.2.2.2.2.2.2]; exact if_neg hxm
        have hav0 : av = 0 := by rw [hav]; exact atP_not hxm
        have e1 : decide (fv < 0) = true := decide_eq_true (by omega)
        have e2 : decide (0 ≤ fv) = false := decide_eq_false (by omega)
        rw [hav0] at hta
        clear hav hav0 hfv
        replace hxm := Aside0.mk hxm
        clear him
        go_upto_region 13 with (first
          | (go_at_call 66; refine hta.mono ?_; rintro e W3 ⟨rfl, hB3⟩; have hw3 := hB.out.trans (hB3.mono hB.out.size))
          | (go_at_call 40; refine (hfd.out W3 hw3).mono ?_; rintro e W4 ⟨rfl, hB4⟩; have hBw := Aside0.mk (hw3.trans (hB4.mono hw3.size))))
        clear hta hB3 hB4 hw3
        go_upto_region 15 with fail
        clear hfd
        have hQd : ∀ k, P k → ¬ Q k := HH.out.2.2.2.1
        have hIr := HH.out.1.below hBw.out
        have hc := tnext_calls hIr HH.out.2.1
        cases lp with
        | nil =>
          have hm0 : m = 0 := HH.out.2.2.2.2.2.2.1
          have hm1 : ((m : Int) == 0) = true := by simp [hm0]
          have hm2 : (m == 0) = true := by simp [hm0]
          replace hm0 := Aside0.mk hm0
          change Calls Try.prog 84 #[.pointer (some ⟨q, 0, none⟩)] W4 (fun e w' => e = .returned (.tuple #[.int .i64 0, .int .i64 0, .bool false]) ∧ IsTimes w' base q Q [] n ∧ Only Q W4 w') at hc
          clear hIr
          go_wp2_with (go_at_call 84; refine hc.mono ?_; rintro e W5 ⟨rfl, hI5, hO5⟩; replace hI5 := Aside0.mk hI5; replace hO5 := Aside0.mk hO5)
          go_ret
          exact ⟨by first | rfl | simp, hI5.out, (Only.ofBelow hBw.out).trans hO5.out⟩
        | cons p lp' =>
          obtain ⟨pa, pi⟩ := p
          have hm0 : m = lp'.length + 1 := HH.out.2.2.2.2.2.2.1
          have hm1 : ((m : Int) == 0) = false := by simp; omega
          have hm2 : (m == 0) = false := by simp; omega
          have hm3 := eq_true (show 0 < m by omega)
          have hm4 := eq_true (show (0 : Int) < (m : Int) by omega)
          replace hm0 := Aside0.mk hm0
          change Calls Try.prog 84 #[.pointer (some ⟨q, 0, none⟩)] W4 (fun e w' => e = .returned (.tuple #[.int .i64 pa, .int .i64 pi, .bool true]) ∧ IsTimes w' base q Q ((pa, pi) :: lp') n ∧ Only Q W4 w') at hc
          have hRr := Kd.R_below HH.out.2.2.1 hBw.out
          clear hIr
          go_upto_region 16 with (go_at_call 84; refine hc.mono ?_; rintro e W5 ⟨rfl, hI5, hO5⟩)
          have hR5 := R_only hRr hO5 hQd
          obtain ⟨A9, c9, e9, hc9, hC9⟩ := Kd.R_reads hR5
          rw [← HH.out.2.2.2.2.2.1] at e9
          cases e9
          obtain ⟨ad9, eA9, t0, t1⟩ := PQ.at_T73 hC9 0 (Int.le_refl _) (by rw [tp_length]; simp)
          rw [rd_tp] at t0 t1
          have t2 : W5.cell? (ad9.add 0) = some (.int .i64 pa) := t0
          have t3 : W5.cell? ⟨ad9.block, ad9.off + 1, none⟩ = some (.int .i64 pi) := t1
          have t4 : W5.cell? ad9 = some (.int .i64 pa) := t0
          cases eA9
          replace hI5 := Aside0.mk hI5
          replace hO5 := Aside0.mk hO5
          clear hRr hR5 hc9 hC9 hc
          go_wp2
          go_ret
          exact ⟨by first | rfl | simp, hI5.out, (Only.ofBelow hBw.out).trans hO5.out⟩
end Go.Proofs.Ytljckmiphkoipaa

/-
  QueueTurns: awake; does a queue stand as a list.
-/
namespace Go.Proofs.Ytljckmiphkoipaa
set_option linter.unusedVariables false
set_option linter.unusedSimpArgs false
open Go.RowKit Go.MapKept Go.Maps Go.Proofs.YtljckmiphkoipaaW.PrintWords Go.Proofs.YtljckmiphkoipaaW.PrintLast Go.Proofs.YtljckmiphkoipaaW.PrintMore

theorem goodI_1 : goodI 1 := goodI_of (by omega) (by omega)
theorem goodI_3 : goodI 3 := goodI_of (by omega) (by omega)
set_option maxRecDepth 100000 in
set_option maxHeartbeats 4000000 in
theorem qawake_calls (w : World) : Calls Try.prog 39 #[] w fun e w' => e = .returned (.bool true) ∧ Below w.heap.size w w' := by
  have e5 : putE [] 5 = 0 := by decide
  have e3 : putE (putL [] 5) 3 = 0 := by decide
  have el : putL (putL [] 5) 3 = [5, 3] := by decide
  have et : putEr [] 7 1 = 0 := by decide
  have er : putR [] 7 1 = [(7, 1)] := by decide
  go_enter Try.func39, Try.ntmps39
  go_upto_region 3 with (first
    | (go_at_call 38; refine (newTurns_calls w).mono ?_; rintro e W1 ⟨b, rfl, hb, hT1, hB1⟩; replace hT1 := Aside0.mk hT1; replace hB1 := Aside0.mk hB1; replace hb := Aside0.mk hb)
    | (go_at_call 59; refine (newTimes_calls W1).mono ?_; rintro e W2 ⟨q, rfl, hq2, hB2⟩; replace hq2 := Aside0.mk hq2; replace hB2 := Aside0.mk hB2))
  have hT2 := Aside0.mk (hT1.out.only (Only.ofBelow (F := fun _ => False) hB2.out) (fun _ _ h => h))
  have hlt := Aside0.mk (And.intro hT1.out.lt (And.intro hB1.out.size hB2.out.size))
  have hq2t := Aside0.mk hq2.out.tight
  clear hT1 hq2
  go_upto_region 5 with (first
    | (go_at_call_of 47 (Value.int IntKind.i64 5); refine (put_calls W2 0 5 b [] hT2.out goodI5 (by omega)).mono ?_; rintro e W3 ⟨rfl, hT3, hO3⟩; simp only [e5]; replace hT3 := Aside0.mk hT3; replace hO3 := Aside0.mk hO3; clear hT2)
    | (go_at_call_of 47 (Value.int IntKind.i64 3); refine (put_calls W3 1 3 b _ hT3.out goodI_3 (by omega)).mono ?_; rintro e W4 ⟨rfl, hT4, hO4⟩; rw [el] at hT4; simp only [e3]; replace hT4 := Aside0.mk hT4; replace hO4 := Aside0.mk hO4; clear hT3)
    | (go_at_call 64; have hq4 := (hq2t.out.only hO3.out (fun k hk ht => by have := ht.2; have := hlt.out; omega)).only hO4.out (fun k hk ht => by have := ht.2; have := hlt.out; omega); refine (tput_calls (a := 7) hq4 goodI_1 (by omega) (by have := hlt.out; have := hO3.out.size; have := hO4.out.size; omega)).mono ?_; rintro e W5 ⟨rfl, hq5, hO5⟩; rw [er] at hq5; simp only [et]; replace hq5 := Aside0.mk hq5; replace hO5 := Aside0.mk hO5; clear hq4))
  have hT5 := Aside0.mk (hT4.out.only hO5.out (fun k hk hf => by have := hk.2; have := hf.2.1; have := hlt.out; omega))
  go_wp2_with (first
    | (go_at_call 42; refine (take_some W5 b [3] _ 5 hT5.out (by omega)).mono ?_; rintro e W6 ⟨rfl, hT6, hO6⟩; replace hO6 := Aside0.mk hO6)
    | (go_at_call 84; have hq6 := hq5.out.only hO6.out (fun k hk ht => by have := ht.2; have := hlt.out; rcases hk with hk | hk; have := hk.2.1; omega; have := hO3.out.size; have := hO4.out.size; omega); refine (tnext_calls hq6 (by omega)).mono ?_; rintro e W7 ⟨rfl, hq7, hO7⟩; replace hO7 := Aside0.mk hO7; simp only [List.headD_cons]))
  go_ret
  refine ⟨by first | rfl | simp, ?_⟩
  have s1 := hlt.out.2.1
  have s2 := hlt.out.2.2
  have eb := hb.out
  have c2 : Below w.heap.size w W2 := hB1.out.trans (hB2.out.mono hB1.out.size)
  have c3 := below_only c2 hO3.out c2.size (fun i hi hf => by have := hf.1; omega)
  have c4 := below_only c3 hO4.out c3.size (fun i hi hf => by have := hf.1; omega)
  have c5 := below_only c4 hO5.out c4.size (fun i hi hf => by have := hf.1; omega)
  have c6 := below_only c5 hO6.out c5.size (fun i hi hf => by have := hf.1; omega)
  exact below_only c6 hO7.out c6.size (fun i hi hf => by rcases hf with hf | hf; have := hf.1; omega; have := c4.size; omega)
end Go.Proofs.Ytljckmiphkoipaa
