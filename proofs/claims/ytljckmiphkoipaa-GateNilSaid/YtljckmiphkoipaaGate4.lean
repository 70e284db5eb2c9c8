/-
  The gates: Pass, Open.
-/
import Derived.Test.YtljckmiphkoipaaGate3
namespace Go.Proofs.Ytljckmiphkoipaa
set_option linter.unusedVariables false
set_option linter.unusedSimpArgs false
open Go.RowKit Go.MapKept Go.Maps Go.Proofs.YtljckmiphkoipaaW.PrintWords Go.Proofs.YtljckmiphkoipaaW.PrintLast Go.Proofs.YtljckmiphkoipaaW.PrintMore

def passM (wm : List (Int × Int)) (out : List Int) : List (Int × Int) := wm.filter (fun p => decide (p.1 ∉ out))
theorem passM_step (wm : List (Int × Int)) (acc : List Int) (y : Int) : adel (passM wm acc) y = passM wm (acc ++ [y]) := by
  unfold adel passM
  rw [List.filter_filter]
  refine List.filter_congr fun p _ => ?_
  by_cases h1 : p.1 = y <;> by_cases h2 : p.1 ∈ acc <;> simp [h1, h2]
theorem passM_nil (wm : List (Int × Int)) : passM wm [] = wm := by
  unfold passM
  exact List.filter_eq_self.2 (fun p _ => by simp)

section
variable (w : World) (base g : Nat) (Q : Nat → Prop) (n : Int) (op : Nat → Bool) (wm : List (Int × Int)) (x nn : Int)
set_option maxRecDepth 100000 in
set_option maxHeartbeats 8000000 in
theorem pass_calls (h : IsGates w base g Q n op wm) (hx : 0 ≤ x ∧ x < 256) (hnn : 0 ≤ nn) (hn : n < 4611686018427387904) (hbase : base ≤ w.heap.size) :
    Calls Try.prog 33 #[.pointer (some ⟨g, 0, none⟩), .int .i64 x, .int .i64 nn] w fun e w' => ∃ v, e = .returned (.tuple #[v, .int .i64 0]) ∧ (Kd.int .i64).R 3 w' base (fun k => w.heap.size ≤ k) v ((waitsAt wm x.toNat).take nn.toNat) ∧ IsGates w' base g Q n op (passM wm ((waitsAt wm x.toNat).take nn.toNat)) ∧ Only Q w w' := by
  have hc := may_calls w g x
  rw [if_pos hx] at hc
  have d0 : decide (nn < 0) = false := decide_eq_false (by omega)
  have ht := h.tight
  obtain ⟨k0, hk0⟩ : ∃ k0 : Nat, k0 = x.toNat := ⟨_, rfl⟩
  have hxk : x = (k0 : Int) := by omega
  rw [← hk0]
  obtain ⟨l, hl⟩ : ∃ l, l = waitsAt wm k0 := ⟨_, rfl⟩
  rw [← hl]
  have hlf : l.length ≤ 65536 := by
    obtain ⟨bw, q, h'⟩ := h
    cases hq : q x.toNat with
    | none => rw [hl, hk0, h'.none_ _ (by omega) hq]; simp
    | some b => rw [hl, hk0]; exact (h'.some_ _ (by omega) b hq).1.few
  replace hlf := Aside0.mk hlf
  have HG := Aside0.mk (And.intro ht (And.intro hx (And.intro hnn (And.intro hn (And.intro hbase (And.intro hk0 (And.intro hxk hl)))))))
  have p1 := hx.1
  have q1 := hx.2
  have hI0 := Aside0.mk (show IsGates w base g (fun k => Q k ∧ base ≤ k ∧ k < w.heap.size) n op (passM wm []) by rw [passM_nil]; exact ht)
  clear h hx hnn hn hbase ht hk0 hxk hl
  replace p1 := eq_true p1
  replace q1 := eq_true q1
  go_enter Try.func33, Try.ntmps33
  go_wp2_with (go_at_call 75; refine hc.mono ?_; rintro e w ⟨rfl, rfl⟩)
  go_loopg [9] (l.length + 1) (fun kq v9 w' => ∃ (acc rest : List Int), Aside0 (acc ++ rest = l ∧ acc.length ≤ nn ∧ rest.length < kq) ∧ Aside0 (IsGates w' base g (fun k => Q k ∧ base ≤ k ∧ k < w.heap.size) n op (passM wm acc)) ∧
    Aside0 (waitsAt (passM wm acc) k0 = rest) ∧ Aside0 ((Kd.int .i64).R 3 w' base (fun k => w.heap.size ≤ k) v9 acc) ∧ Aside0 (Only Q w w'))
  case atStart => exact ⟨[], l, ⟨by simp, by simpa using HG.out.2.2.1, by omega⟩, hI0, ⟨by rw [passM_nil]; exact HG.out.2.2.2.2.2.2.2.symm⟩, ⟨Kd.R_nil _ _ _ _ _⟩, ⟨Only.refl _ _⟩⟩
  case round =>
    obtain ⟨acc, rest, hacc, hI, hr, hR, hO⟩ := hrel
    obtain ⟨A9, cc9, e9, _⟩ := Kd.R_reads hR.out
    obtain ⟨m9, hm9⟩ : ∃ m9 : Nat, m9 = acc.length := ⟨_, rfl⟩
    rw [← hm9] at e9
    subst e9
    obtain ⟨bw, q, hA⟩ := hI.out
    have hk0 : k0 < 256 := by have := HG.out.2.1; have := HG.out.2.2.2.2.2.1; omega
    have hsw : w.heap.size ≤ wr.heap.size := hO.out.size
    have hlen : acc.length + rest.length = l.length := by rw [← hacc.out.1, List.length_append]
    have hfin : rest = [] ∨ ¬ ((m9 : Int) < nn) → acc = l.take nn.toNat := by
      intro hh
      have h1 := hacc.out.2.1
      rcases hh with hh | hh
      · have : acc = l := by rw [← hacc.out.1, hh, List.append_nil]
        rw [← this, List.take_of_length_le (by omega)]
      · have : acc.length = nn.toNat := by omega
        rw [← hacc.out.1, ← this, List.take_left]
    by_cases hlt : (m9 : Int) < nn
    · have d1 : decide ((m9 : Int) < nn) = true := decide_eq_true hlt
      have cT := hA.blk.cell_turns (k := k0) hk0
      rw [show k0 = x.toNat from HG.out.2.2.2.2.2.1] at cT
      have c2 := hA.blk.cell_map
      cases hq : q k0 with
      | none =>
        have hrest : rest = [] := by rw [← hr.out]; exact hA.none_ k0 hk0 hq
        have hac := hfin (.inl hrest)
        rw [ptrOf, ← HG.out.2.2.2.2.2.1, hq] at cT
        rw [HG.out.2.2.2.2.2.1] at cT
        simp only at cT
        replace hac := Aside0.mk hac
        replace hlt := Aside0.mk hlt
        replace hA := Aside0.mk hA
        clear hfin hlen hsw hk0 hm9 hq hrest
        go_wp2_with (go_at_call 42; refine (take_nil wr).mono ?_; rintro e wr ⟨rfl, rfl⟩)
        go_ret2
        rw [← hac.out]
        exact ⟨_, rfl, hR.out, (hI.out.mono (fun k hk => hk.1)), hO.out⟩
      | some b =>
        obtain ⟨t1, t2, t3, t4, t5⟩ := hA.some_ k0 hk0 b hq
        rw [hr.out] at t1
        rw [ptrOf, ← HG.out.2.2.2.2.2.1, hq] at cT
        rw [HG.out.2.2.2.2.2.1] at cT
        simp only at cT
        cases rest with
        | nil =>
          have hac := hfin (.inl rfl)
          have htk := take_empty wr b n t1
          replace hac := Aside0.mk hac
          replace hlt := Aside0.mk hlt
          replace hA := Aside0.mk hA
          clear hfin hlen hsw hk0 hm9 hq t1 t2 t3 t4 t5
          go_wp2_with (go_at_call 42; refine htk.mono ?_; rintro e wr ⟨rfl, rfl⟩)
          go_ret2
          rw [← hac.out]
          exact ⟨_, rfl, hR.out, (hI.out.mono (fun k hk => hk.1)), hO.out⟩
        | cons y rest =>
          have htk := take_some wr b rest n y t1 HG.out.2.2.2.1
          have hgy : goodI y := t1.good y (by simp)
          have hmem : (y, (k0 : Int)) ∈ passM wm acc := mem_waits (by rw [hr.out]; simp)
          have hnod := hA.wh.nodup
          have hwd := waits_nodup hnod k0
          rw [hr.out] at hwd
          have hfl : (y :: rest).filter (fun z => decide (z ≠ y)) = rest := by
            rw [List.filter_cons]
            simp only [ne_eq, not_true_eq_false, decide_false, Bool.false_eq_true, if_false]
            refine List.filter_eq_self.2 fun z hz => ?_
            have := (List.nodup_cons.1 hwd).1
            simp
            rintro rfl
            exact this hz
          have hwr : waitsAt (adel (passM wm acc) y) k0 = rest := by rw [waits_del hnod hmem, if_pos rfl, hr.out, hfl]
          have hfew := t1.few
          have HT := Aside0.mk (And.intro hA (And.intro hq (And.intro hgy (And.intro hmem (And.intro hfl (And.intro hwr (And.intro t3 (And.intro t4 (And.intro t5 (And.intro hk0 (And.intro hsw (And.intro hlen (And.intro hfew (And.intro hm9 hlt))))))))))))))
          clear hA hq hgy hmem hnod hwd hfl hwr t1 t2 t3 t4 t5 hk0 hsw hlen hfew hfin hlt hm9
          go_wp2_with (first
            | (go_at_call 42; refine htk.mono ?_; rintro e w1 ⟨rfl, hT1, hO1⟩; have c21 := (HT.out.1.blk.only hO1 HT.out.2.2.2.2.2.2.2.1).cell_map; obtain ⟨w2, hr2, hm2, ho2, hs2⟩ := (HT.out.1.wh.only hO1 HT.out.2.2.2.2.2.2.2.2.1).run_delete (P := Try.prog) keyI undII HT.out.2.2.1 3 0; have hA2 := Aside0.mk (HT.out.1.gone HT.out.2.2.2.2.2.2.2.2.2.1 HT.out.2.2.2.1 HT.out.2.1 (by rw [hr.out, HT.out.2.2.2.2.1]; exact hT1) hO1 hm2 ho2); have hOO := Aside0.mk ((hO1.mono (G := fun k => Q k ∧ base ≤ k ∧ k < w.heap.size) (fun i _ hi => HT.out.2.2.2.2.2.2.1 i hi)).then (ho2.mono (G := fun k => Q k ∧ base ≤ k ∧ k < w.heap.size) (fun i _ e => by subst e; exact HT.out.1.qw)) (fun _ _ h => h)); have hR2 := Aside0.mk (R_only hR.out hOO.out (fun k h1 h2 => by omega)); clear hT1 hO1 hm2 ho2 hs2)
            | ((with_reducible refine gate_builtin (b := .append) (xs := #[.tmp 41, .tmp 43]) rfl ?_); at_builtin; refine Kd.R_append (Kd.int .i64) (w0 := w2) base rfl (.tmp 41) (.tmp 43) 22 3 (.int .i64 0) 8 rfl undSI info3 rfl (by decide) (by decide) (.slice A9 m9 cc9) acc y [.int .i64 y] (fun k => w.heap.size ≤ k) (fun _ => False) rfl rfl rfl (fun _ h => h.elim) (fun k hk => by have := HT.out.2.2.2.2.2.2.2.2.2.2.1; have := hOO.out.size; omega) hR2.out (Below.refl _ _) (by have := HT.out.2.2.2.2.2.2.2.2.2.2.1; have := hOO.out.size; have := HG.out.2.2.2.2.1; omega) (by have h1 := hlf.out; have h2 := HT.out.2.2.2.2.2.2.2.2.2.2.2.1; simp only [List.length_cons] at h2; omega) ?_; intro v4 w4 hR4 hB4 hg4 hat4; replace hR4 := Aside0.mk hR4; replace hg4 := Aside0.mk hg4; clear hB4 hat4))
          go_roundg (rest.length + 1)
          case measure => have := hacc.out.2.2; simp at this; omega
          case rel =>
            have o4 := Only.ofGrown hg4.out
            have hnb : ∀ k, k < w.heap.size → ¬ some k = (Value.slice A9 m9 cc9).ownBlock := fun k hk e => by have := hR2.out.1 k e.symm; omega
            refine ⟨acc ++ [y], rest, ⟨by rw [← hacc.out.1]; simp, by have := HT.out.2.2.2.2.2.2.2.2.2.2.2.2.2; simp; omega, by omega⟩, ⟨?_⟩, ⟨by rw [← passM_step]; exact HT.out.2.2.2.2.2.1⟩, hR4, ⟨?_⟩⟩
            · rw [← passM_step]
              exact IsGates.only ⟨bw, q, hA2.out⟩ o4 (fun k hk e => hnb k hk.2.2 e)
            · exact (hO.out.then hOO.out (fun i hi h => h.1)).then o4 (fun i hi e => absurd e (hnb i hi))
    · have d1 : decide ((m9 : Int) < nn) = false := decide_eq_false hlt
      have hac := hfin (.inr hlt)
      replace hac := Aside0.mk hac
      replace hlt := Aside0.mk hlt
      replace hA := Aside0.mk hA
      clear hfin hlen hsw hk0 hm9
      go_wp2
      go_ret2
      rw [← hac.out]
      exact ⟨_, rfl, hR.out, (hI.out.mono (fun k hk => hk.1)), hO.out⟩

/-- Open: all of the row. -/
theorem open_calls (h : IsGates w base g Q n op wm) (hx : 0 ≤ x ∧ x < 256) (hn : n < 4611686018427387904) (hbase : base ≤ w.heap.size) :
    Calls Try.prog 25 #[.pointer (some ⟨g, 0, none⟩), .int .i64 x] w fun e w' => ∃ v, e = .returned (.tuple #[v, .int .i64 0]) ∧ (Kd.int .i64).R 3 w' base (fun k => w.heap.size ≤ k) v (waitsAt wm x.toNat) ∧ IsGates w' base g Q n (fun i => if i = x.toNat then true else op i) (passM wm (waitsAt wm x.toNat)) ∧ Only Q w w' := by
  have hc := may_calls w g x
  rw [if_pos hx] at hc
  obtain ⟨bw, q, hA⟩ := h
  have hk : x.toNat < 256 := by omega
  have co := hA.blk.cell_open (k := x.toNat) hk
  have fo := hA.blk.free x.toNat
  obtain ⟨W1, hW1⟩ : ∃ W1, W1 = w.setCell ⟨g, x.toNat, none⟩ (.bool true) := ⟨_, rfl⟩
  have o1 : Only (fun i => i = g) w W1 := by rw [hW1]; exact (Only.refl (fun i => i = g) w).setCell (fun _ => rfl) _
  have hG1 : GateAt W1 g bw (fun i => if i = x.toNat then true else op i) (ptrOf q) := by rw [hW1]; exact hA.blk.setOpen hk true
  have hA1 : GatesAt W1 base g bw q Q n (fun i => if i = x.toNat then true else op i) wm :=
    ⟨hG1, hA.wh.only o1 (fun e => hA.gw e.symm), hA.none_, fun k hk b hb => ⟨(hA.some_ k hk b hb).1.only o1 (fun i hi e => (hA.some_ k hk b hb).2.2.2.1 (e ▸ hi)), (hA.some_ k hk b hb).2⟩, hA.apart, hA.qg, hA.qw, hA.gw, hA.base, hA.in_⟩
  have hsz : W1.heap.size = w.heap.size := by rw [hW1]; simp [World.setCell]
  have cT := hG1.cell_turns (k := x.toNat) hk
  have hps := pass_calls W1 base g Q n _ wm x (waitsAt wm x.toNat).length ⟨bw, q, hA1⟩ hx (by omega) hn (by omega)
  rw [Int.toNat_natCast, List.take_length, hsz] at hps
  have hln : ∃ p, ptrOf q x.toNat = .pointer p ∧ Calls Try.prog 76 #[.pointer p] W1 fun e w' => e = .returned (.int .i64 ((waitsAt wm x.toNat).length : Int)) ∧ w' = W1 := by
    cases hq : q x.toNat with
    | none =>
      refine ⟨none, by rw [ptrOf, hq], ?_⟩
      rw [hA.none_ _ hk hq]
      exact len_nil W1
    | some b => exact ⟨_, by rw [ptrOf, hq], len_calls W1 b _ n (hA1.some_ _ hk b hq).1⟩
  obtain ⟨p, hp, hln⟩ := hln
  rw [hp] at cT
  generalize hlw : ((waitsAt wm x.toNat).length : Int) = lw at hln hps
  replace hlw := Aside0.mk hlw
  have HO := Aside0.mk (And.intro o1 hA.qg)
  have p1 := hx.1
  have q1 := hx.2
  clear hA hA1 hG1 hk hx hp o1 hsz hn hbase
  replace p1 := eq_true p1
  replace q1 := eq_true q1
  go_enter Try.func25, Try.ntmps25
  go_upto_region 5 with (go_at_call 75; refine hc.mono ?_; rintro e w ⟨rfl, rfl⟩)
  rw [← hW1]
  replace hW1 := Aside0.mk hW1
  clear co fo hc
  go_wp2_with (first
    | (go_at_call 76; refine hln.mono ?_; rintro e W1 ⟨rfl, rfl⟩)
    | (go_at_call 33; refine hps.mono ?_; rintro e w2 ⟨v, rfl, hR, hI, hO⟩; replace hR := Aside0.mk hR; replace hI := Aside0.mk hI; replace hO := Aside0.mk hO))
  go_ret2
  exact ⟨v, rfl, hR.out, hI.out, (HO.out.1.mono (fun i _ e => by subst e; exact HO.out.2)).trans hO.out⟩
end
end Go.Proofs.Ytljckmiphkoipaa
