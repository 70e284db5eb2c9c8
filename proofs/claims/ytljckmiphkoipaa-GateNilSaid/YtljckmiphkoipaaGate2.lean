/-
  The gates: Come.
-/
import Derived.Test.YtljckmiphkoipaaGate1
namespace Go.Proofs.Ytljckmiphkoipaa
set_option linter.unusedVariables false
set_option linter.unusedSimpArgs false
open Go.RowKit Go.MapKept Go.Maps Go.Proofs.YtljckmiphkoipaaW.PrintWords Go.Proofs.YtljckmiphkoipaaW.PrintLast Go.Proofs.YtljckmiphkoipaaW.PrintMore

section
variable (w : World) (base g : Nat) (Q : Nat → Prop) (n : Int) (op : Nat → Bool) (wm : List (Int × Int)) (x y : Int)
theorem wm_none : aget wm y = none ↔ y ∉ wm.map (·.1) := by
  rw [aget_none]
  constructor
  · intro h hx
    obtain ⟨p, hp, rfl⟩ := List.mem_map.1 hx
    exact h p hp rfl
  · intro h p hp e
    exact h (List.mem_map.2 ⟨p, hp, e⟩)
theorem wm_some (h : y ∈ wm.map (·.1)) : ∃ k, aget wm y = some k := by
  cases h' : aget wm y with
  | none => exact absurd h ((wm_none wm y).1 h')
  | some k => exact ⟨k, rfl⟩

theorem come_bad (hx : ¬ (0 ≤ x ∧ x < 256)) : Calls Try.prog 26 #[.pointer (some ⟨g, 0, none⟩), .int .i64 x, .int .i64 y] w fun e w' => e = .returned (.tuple #[.bool false, .int .i64 70]) ∧ w' = w := by
  have hc := may_calls w g x
  rw [if_neg hx] at hc
  clear hx
  go_enter Try.func26, Try.ntmps26
  go_wp2_with (go_at_call 75; refine hc.mono ?_; rintro e w ⟨rfl, rfl⟩)
  go_ret2
  exact ⟨rfl, rfl⟩
theorem come_twice (h : IsGates w base g Q n op wm) (hx : 0 ≤ x ∧ x < 256) (hy : goodI y) (hm : y ∈ wm.map (·.1)) : Calls Try.prog 26 #[.pointer (some ⟨g, 0, none⟩), .int .i64 x, .int .i64 y] w fun e w' => e = .returned (.tuple #[.bool false, .int .i64 71]) ∧ w' = w := by
  obtain ⟨bw, q, h⟩ := h
  have hc := may_calls w g x
  rw [if_pos hx] at hc
  have c2 := h.blk.cell_map
  obtain ⟨k, hk⟩ := wm_some wm y hm
  have hl : (Instr.lookup 109 (.map (some bw)) (.int .i64 y) true).run Try.prog w = .ok (.tuple #[.int .i64 k, .bool true]) w := by simpa using h.wh.look_some keyI undII hy hk true
  clear h hx hm hk
  go_enter Try.func26, Try.ntmps26
  go_wp2_with (go_at_call 75; refine hc.mono ?_; rintro e w ⟨rfl, rfl⟩)
  go_ret2
  exact ⟨rfl, rfl⟩
theorem come_open (h : IsGates w base g Q n op wm) (hx : 0 ≤ x ∧ x < 256) (hy : goodI y) (hm : y ∉ wm.map (·.1)) (ho : op x.toNat = true) : Calls Try.prog 26 #[.pointer (some ⟨g, 0, none⟩), .int .i64 x, .int .i64 y] w fun e w' => e = .returned (.tuple #[.bool true, .int .i64 0]) ∧ w' = w := by
  obtain ⟨bw, q, h⟩ := h
  have hc := may_calls w g x
  rw [if_pos hx] at hc
  have c2 := h.blk.cell_map
  have co := h.blk.cell_open (k := x.toNat) (by omega)
  rw [ho] at co
  have hl : (Instr.lookup 109 (.map (some bw)) (.int .i64 y) true).run Try.prog w = .ok (.tuple #[.int .i64 0, .bool false]) w := by simpa using h.wh.look_none keyI undII hy ((wm_none wm y).2 hm) (zeroI _) true
  have p1 := hx.1
  have q1 := hx.2
  clear h hx hm ho
  replace p1 := eq_true p1
  replace q1 := eq_true q1
  go_enter Try.func26, Try.ntmps26
  go_wp2_with (go_at_call 75; refine hc.mono ?_; rintro e w ⟨rfl, rfl⟩)
  go_ret2
  exact ⟨rfl, rfl⟩

theorem waits_push (k : Nat) : waitsAt (wm ++ [(y, x)]) k = if x = (k : Int) then waitsAt wm k ++ [y] else waitsAt wm k := by
  unfold waitsAt
  rw [List.filter_append, List.map_append]
  by_cases h : x = (k : Int)
  · rw [if_pos h, List.filter_cons]; simp [h]
  · rw [if_neg h, List.filter_cons]; simp [h]
theorem waits_mem (k : Nat) (h : y ∈ waitsAt wm k) : y ∈ wm.map (·.1) := by
  unfold waitsAt at h
  obtain ⟨p, hp, rfl⟩ := List.mem_map.1 h
  exact List.mem_map.2 ⟨p, (List.mem_filter.1 hp).1, rfl⟩
def comeM (wm : List (Int × Int)) (x y : Int) : List (Int × Int) := if 65536 ≤ (waitsAt wm x.toNat).length then wm else wm ++ [(y, x)]

/-- One more waits: what the object is then. -/
theorem GatesAt.come {w w1 w2 : World} {base g bw b : Nat} {q : Nat → Option Nat} {Q : Nat → Prop} {n : Int} {op : Nat → Bool} {wm : List (Int × Int)} {x y : Int} (h : GatesAt w base g bw q Q n op wm) (hx : 0 ≤ x ∧ x < 256) (hy : y ∉ wm.map (·.1))
    (hq : q x.toNat = some b) (hT : IsTurns w1 b (waitsAt wm x.toNat ++ [y]) (n + 1)) (hO : Only (tfoot b) w w1) (hM : MII w2 bw (aput wm y x)) (hO2 : Only (fun i => i = bw) w1 w2) :
    GatesAt w2 base g bw q Q (n + 1) op (wm ++ [(y, x)]) := by
  have hxl : x.toNat < 256 := by omega
  obtain ⟨t1, t2, t3, t4, t5⟩ := h.some_ _ hxl b hq
  have hap : aput wm y x = wm ++ [(y, x)] := aput_new ((wm_none wm y).2 hy)
  refine ⟨(h.blk.only hO t4).only hO2 h.gw, by rw [← hap]; exact hM, fun k hk hn => ?_, fun k hk b' hb' => ?_, h.apart, h.qg, h.qw, h.gw, h.base, ?_⟩
  · rw [waits_push, if_neg]
    · exact h.none_ k hk hn
    · rintro e
      rw [e] at hq
      rw [Int.toNat_natCast, hn] at hq; cases hq
  · obtain ⟨u1, u2, u3, u4, u5⟩ := h.some_ k hk b' hb'
    refine ⟨?_, u2, u3, u4, u5⟩
    by_cases e : x = (k : Int)
    · have ek : x.toNat = k := by omega
      rw [waits_push, if_pos e]
      rw [ek] at hq hT
      rw [hq] at hb'
      cases hb'
      exact hT.only hO2 (fun i hi e => t5 (e ▸ hi))
    · rw [waits_push, if_neg e]
      exact ((u1.only hO (fun i hi hi' => h.apart k x.toNat hk hxl (by omega) b' b hb' hq i hi hi')).only hO2 (fun i hi e => u5 (e ▸ hi))).more (by omega)
  · intro p hp
    rcases List.mem_append.1 hp with hp | hp
    · exact h.in_ p hp
    · rw [List.mem_singleton.1 hp]; exact hx

set_option maxRecDepth 100000 in
set_option maxHeartbeats 4000000 in
theorem come_old (bw b : Nat) (q : Nat → Option Nat) (h : GatesAt w base g bw q Q n op wm) (hq : q x.toNat = some b) (hx : 0 ≤ x ∧ x < 256) (hy : goodI y) (hm : y ∉ wm.map (·.1)) (ho : op x.toNat = false) (hn : n < 4611686018427387904) :
    Calls Try.prog 26 #[.pointer (some ⟨g, 0, none⟩), .int .i64 x, .int .i64 y] w fun e w' => e = .returned (.tuple #[.bool false, .int .i64 (if 65536 ≤ (waitsAt wm x.toNat).length then 3 else 0)]) ∧ IsGates w' base g Q (n + 1) op (comeM wm x y) ∧ Only Q w w' := by
  have hc := may_calls w g x
  rw [if_pos hx] at hc
  have c2 := h.blk.cell_map
  have co := h.blk.cell_open (k := x.toNat) (by omega)
  rw [ho] at co
  have cT := h.blk.cell_turns (k := x.toNat) (by omega)
  rw [ptrOf, hq] at cT
  simp only at cT
  have hl : (Instr.lookup 109 (.map (some bw)) (.int .i64 y) true).run Try.prog w = .ok (.tuple #[.int .i64 0, .bool false]) w := by simpa using h.wh.look_none keyI undII hy ((wm_none wm y).2 hm) (zeroI _) true
  obtain ⟨t1, t2, t3, t4, t5⟩ := h.some_ _ (by omega) b hq
  have hyn : y ∉ waitsAt wm x.toNat := fun hh => hm (waits_mem wm y _ hh)
  have hput := put_calls w n y b _ t1 hy hn
  have p1 := hx.1
  have q1 := hx.2
  have HG := Aside0.mk (And.intro h (And.intro hx (And.intro hm (And.intro hq (And.intro hy (And.intro t3 (And.intro t4 t5)))))))
  clear h hx hm ho hq hy t1 t2 t3 t4 t5 hn
  replace p1 := eq_true p1
  replace q1 := eq_true q1
  unfold comeM
  by_cases hf : 65536 ≤ (waitsAt wm x.toNat).length
  · simp only [putE, putL, hyn, hf, or_true, if_true, if_false] at hput ⊢
    replace hf := Aside0.mk hf
    replace hyn := Aside0.mk hyn
    go_enter Try.func26, Try.ntmps26
    go_wp2_with (first
      | (go_at_call 75; refine hc.mono ?_; rintro e w ⟨rfl, rfl⟩)
      | (go_at_call 47; refine hput.mono ?_; rintro e w1 ⟨rfl, hT, hO⟩; replace hT := Aside0.mk hT; replace hO := Aside0.mk hO))
    go_ret2
    obtain ⟨h, hx, hm, hq, hy, t3, t4, t5⟩ := HG.out
    refine ⟨rfl, ⟨bw, q, h.blk.only hO.out t4, h.wh.only hO.out t5, h.none_, fun k hk b' hb' => ?_, h.apart, h.qg, h.qw, h.gw, h.base, h.in_⟩, hO.out.mono (fun i _ hi => t3 i hi)⟩
    obtain ⟨u1, u2, u3, u4, u5⟩ := h.some_ k hk b' hb'
    refine ⟨?_, u2, u3, u4, u5⟩
    by_cases e : k = x.toNat
    · subst e
      rw [hq] at hb'; cases hb'
      exact hT.out
    · exact (u1.only hO.out (fun i hi hi' => h.apart k x.toNat hk (by omega) e b' b hb' hq i hi hi')).more (by omega)
  · simp only [putE, putL, hyn, hf, or_self, if_false] at hput ⊢
    replace hf := Aside0.mk hf
    replace hyn := Aside0.mk hyn
    go_enter Try.func26, Try.ntmps26
    go_wp2_with (first
      | (go_at_call 75; refine hc.mono ?_; rintro e w ⟨rfl, rfl⟩)
      | (go_at_call 47; refine hput.mono ?_; rintro e w1 ⟨rfl, hT, hO⟩; obtain ⟨w2, hr2, hm2, ho2, hs2⟩ := (HG.out.1.wh.only hO HG.out.2.2.2.2.2.2.2).run_update (P := Try.prog) keyI undII HG.out.2.2.2.2.1 x; have c21 := (HG.out.1.blk.only hO HG.out.2.2.2.2.2.2.1).cell_map; replace hT := Aside0.mk hT; replace hO := Aside0.mk hO; replace hm2 := Aside0.mk hm2; replace ho2 := Aside0.mk ho2; clear hs2))
    go_ret2
    obtain ⟨h, hx, hm, hq, hy, t3, t4, t5⟩ := HG.out
    exact ⟨rfl, ⟨bw, q, h.come hx hm hq hT.out hO.out hm2.out ho2.out⟩, (hO.out.mono (fun i _ hi => t3 i hi)).then ho2.out (fun i _ e => by subst e; exact h.qw)⟩

set_option maxRecDepth 100000 in
set_option maxHeartbeats 4000000 in
theorem come_new (bw : Nat) (q : Nat → Option Nat) (h : GatesAt w base g bw q Q n op wm) (hq : q x.toNat = none) (hx : 0 ≤ x ∧ x < 256) (hy : goodI y) (hm : y ∉ wm.map (·.1)) (ho : op x.toNat = false) (hn : 0 ≤ n ∧ n < 4611686018427387904) (hbase : base ≤ w.heap.size) :
    Calls Try.prog 26 #[.pointer (some ⟨g, 0, none⟩), .int .i64 x, .int .i64 y] w fun e w' => e = .returned (.tuple #[.bool false, .int .i64 0]) ∧ IsGates w' base g (fun k => Q k ∨ w.heap.size ≤ k) (n + 1) op (wm ++ [(y, x)]) ∧ Only Q w w' := by
  have hc := may_calls w g x
  rw [if_pos hx] at hc
  have c2 := h.blk.cell_map
  have co := h.blk.cell_open (k := x.toNat) (by omega)
  rw [ho] at co
  have cT := h.blk.cell_turns (k := x.toNat) (by omega)
  rw [ptrOf, hq] at cT
  simp only at cT
  have hl : (Instr.lookup 109 (.map (some bw)) (.int .i64 y) true).run Try.prog w = .ok (.tuple #[.int .i64 0, .bool false]) w := by simpa using h.wh.look_none keyI undII hy ((wm_none wm y).2 hm) (zeroI _) true
  have hw0 : waitsAt wm x.toNat = [] := h.none_ _ (by omega) hq
  have p1 := hx.1
  have q1 := hx.2
  obtain ⟨bw', q', hti⟩ : IsGates w base g (fun k => Q k ∧ base ≤ k ∧ k < w.heap.size) n op wm := IsGates.tight ⟨bw, q, h⟩
  have HG := Aside0.mk (And.intro h (And.intro hx (And.intro hm (And.intro hq (And.intro hy (And.intro hn (And.intro hw0 hbase)))))))
  have hgl := Aside0.mk (And.intro h.blk.lt h.wh.lt)
  clear h hx hm ho hq hy hn hw0 hti hbase
  replace p1 := eq_true p1
  replace q1 := eq_true q1
  go_enter Try.func26, Try.ntmps26
  go_wp2_with (go_at_call 75; refine hc.mono ?_; rintro e w ⟨rfl, rfl⟩)
  refine start_ (n := 7) (S := fun w' => True) (ds := []) #[false, false, false, false, false, false, false] (by kernel_rfl) rfl rfl trivial (fun hHeld => ?_)
  refine pure_ (i := 0) (N := some 41) (v := ?_) (a' := ?_) #[true, false, false, false, false, false, false] rfl rfl (by kernel_rfl) (fun _ _ _ h => h) (Or.inl ⟨by rfl, ?_⟩) ?_ ?_
  rotate_left
  · intro w'
    go_simp
    with_reducible rfl
  rotate_left
  · simp only [Act.put, List.setIfInBounds_toArray, List.set_cons_zero, List.set_cons_succ, i64_w, i32_w]
    rfl
  refine pure_ (i := 1) (N := some 42) (v := ?_) (a' := ?_) #[true, true, false, false, false, false, false] rfl rfl (by kernel_rfl) (fun _ _ _ h => h) (Or.inl ⟨by rfl, ?_⟩) ?_ ?_
  rotate_left
  · intro w'
    go_simp
    with_reducible rfl
  rotate_left
  · simp only [Act.put, List.setIfInBounds_toArray, List.set_cons_zero, List.set_cons_succ, i64_w, i32_w]
    rfl
  refine pure_ (i := 3) (N := some 44) (v := ?_) (a' := ?_) #[true, true, false, true, false, false, false] rfl rfl (by kernel_rfl) (fun _ _ _ h => h) (Or.inl ⟨by rfl, ?_⟩) ?_ ?_
  rotate_left
  · intro w'
    go_simp
    with_reducible rfl
  rotate_left
  · simp only [Act.put, List.setIfInBounds_toArray, List.set_cons_zero, List.set_cons_succ, i64_w, i32_w]
    rfl
  refine pure_ (i := 4) (N := some 45) (v := ?_) (a' := ?_) #[true, true, false, true, true, false, false] rfl rfl (by kernel_rfl) (fun _ _ _ h => h) (Or.inl ⟨by rfl, ?_⟩) ?_ ?_
  rotate_left
  · intro w'
    go_simp
    with_reducible rfl
  rotate_left
  · simp only [Act.put, List.setIfInBounds_toArray, List.set_cons_zero, List.set_cons_succ, i64_w, i32_w]
    rfl
  refine one_ (i := 2) (N := some 43) #[true, true, true, true, true, false, false] rfl rfl (by kernel_rfl) (by decide) (fun K hK => ?_)
  refine goes_ Try.func38 (by kernel_rfl) rfl #[] (by rfl) rfl rfl (by simp only [List.map_toArray, List.map_cons, List.map_nil]) ?_
  with_reducible refine (newTurns_calls w.drew).mono ?_
  rintro e w2 ⟨b, rfl, hb, hT, hB⟩
  refine ⟨_, rfl, ?_⟩
  have fz : w2.frozen? ⟨g, 256 + x.toNat, none⟩ = false := (HG.out.1.blk.only (Only.ofBelow (F := fun _ => False) (show Below w.heap.size w w2 from ⟨hB.os, hB.tape, hB.output, hB.size, hB.block⟩)) (fun h => h)).free _
  have cT2 : w2.cell? ⟨g, 256 + x.toNat, none⟩ = some (.pointer none) := pw_cell_below (show Below w.heap.size w w2 from ⟨hB.os, hB.tape, hB.output, hB.size, hB.block⟩) cT
  replace hT := Aside0.mk hT
  replace hB := Aside0.mk hB
  replace hb := Aside0.mk hb
  refine hK.out _ _ trivial (fun hHeld => ?_)
  clear hK K
  refine norm_ (a' := ?_) ?_ ?_
  rotate_left
  · show Act.put _ (some 43) _ = _
    simp only [Act.put, List.setIfInBounds_toArray, List.set_cons_zero, List.set_cons_succ, i64_w, i32_w]
    rfl
  refine pure_ (i := 5) (N := some 46) (v := ?_) (a' := ?_) #[true, true, true, true, true, true, false] rfl rfl (by kernel_rfl) (fun _ _ _ h => h) (Or.inl ⟨by rfl, ?_⟩) ?_ ?_
  rotate_left
  · intro w'
    go_simp
    with_reducible rfl
  rotate_left
  · simp only [Act.put, List.setIfInBounds_toArray, List.set_cons_zero, List.set_cons_succ, i64_w, i32_w]
    rfl
  refine one_ (i := 6) (N := none) #[true, true, true, true, true, true, true] rfl rfl (by kernel_rfl) (by decide) (fun K hK => ?_)
  refine skip_ (w1 := ?_) (by rfl) rfl ?_ ?_
  rotate_left
  · go_simp
    rfl
  refine hK.out _ _ trivial (fun hHeld => ?_)
  clear hK K
  refine done_ (by kernel_rfl) ?_
  obtain ⟨h, hx, hm, hq, hy, hn, hw0, hbase⟩ := HG.out
  have hB2 : Below w.heap.size w w2 := ⟨hB.out.os, hB.out.tape, hB.out.output, hB.out.size, hB.out.block⟩
  have hbw : b = w.heap.size := hb.out
  have hlg : g < w.heap.size := hgl.out.1
  have hlb : bw < w.heap.size := hgl.out.2
  obtain ⟨W3, hW3⟩ : ∃ W3, W3 = w2.setCell ⟨g, 256 + x.toNat, none⟩ (.pointer (some ⟨b + 2, 0, none⟩)) := ⟨_, rfl⟩
  have o3 : Only (fun k => k = g) w2 W3 := by rw [hW3]; exact (Only.refl (fun k => k = g) w2).setCell (fun _ => rfl) _
  have hA2 := h.only (Only.ofBelow (F := fun _ => False) hB2) (fun _ _ h => h)
  have hG3 : GateAt W3 g bw op (ptrOf (fun i => if i = x.toNat then some b else q i)) := by
    have h1 := hA2.blk.setTurns (k := x.toNat) (by omega) (.pointer (some ⟨b + 2, 0, none⟩))
    rw [← hW3] at h1
    have e1 : (fun i => if i = x.toNat then (.pointer (some ⟨b + 2, 0, none⟩)) else ptrOf q i) = ptrOf (fun i => if i = x.toNat then some b else q i) := by
      funext i
      unfold ptrOf
      by_cases e : i = x.toNat
      · simp [e]
      · simp [e]
    rw [← e1]; exact h1
  have t3 : IsTurns W3 b [] n := (hT.out.only o3 (fun i hi e => by have := hi.1; omega)).more hn.1
  have hA3 : GatesAt W3 base g bw (fun i => if i = x.toNat then some b else q i) (fun k => Q k ∨ w.heap.size ≤ k) n op wm := by
    refine ⟨hG3, hA2.wh.only o3 (fun e => h.gw e.symm), fun k hk hk2 => ?_, fun k hk b' hb' => ?_, fun k k' hk hk' hne b1 b2 h1 h2 i hi hi' => ?_, .inl h.qg, .inl h.qw, h.gw, h.base, h.in_⟩
    · by_cases e : k = x.toNat
      · simp [e] at hk2
      · simp only [e, if_false] at hk2; exact h.none_ k hk hk2
    · by_cases e : k = x.toNat
      · simp only [e, if_true] at hb'
        cases hb'
        refine ⟨by rw [e, hw0]; exact t3, by omega, fun i hi => .inr (by have := hi.1; omega), fun hh => by have := hh.1; omega, fun hh => by have := hh.1; omega⟩
      · simp only [e, if_false] at hb'
        obtain ⟨u1, u2, u3, u4, u5⟩ := hA2.some_ k hk b' hb'
        exact ⟨u1.only o3 (fun i hi e => u4 (e ▸ hi)), u2, fun i hi => .inl (u3 i hi), u4, u5⟩
    · have lt : ∀ k b', k < 256 → q k = some b' → b' + 2 < w.heap.size := fun k b' hk hb' => (h.some_ k hk b' hb').1.lt
      by_cases e1 : k = x.toNat
      · have e2 : ¬ k' = x.toNat := fun e => hne (e1.trans e.symm)
        simp only [e1, if_true] at h1
        simp only [e2, if_false] at h2
        cases h1
        have := lt k' b2 hk' h2; have := hi.1; have := hi'.2; omega
      · simp only [e1, if_false] at h1
        by_cases e2 : k' = x.toNat
        · simp only [e2, if_true] at h2
          cases h2
          have := lt k b1 hk h1; have := hi.2; have := hi'.1; omega
        · simp only [e2, if_false] at h2
          exact h.apart k k' hk hk' hne b1 b2 h1 h2 i hi hi'
  have hO3 : Only Q w W3 := (Only.ofBelow (F := Q) hB2).then o3 (fun i _ e => by subst e; exact h.qg)
  rw [← hW3]
  have hq3 : (fun i => if i = x.toNat then some b else q i) x.toNat = some b := by simp
  obtain ⟨_, _, s3, s4, s5⟩ := hA3.some_ x.toNat (by omega) b hq3
  have hput := put_calls W3 n y b [] t3 hy hn.2
  have ep : putE [] y = 0 := by simp [putE]
  have el : putL [] y = [y] := by simp [putL]
  rw [ep, el] at hput
  have cT3 := hA3.blk.cell_turns (k := x.toNat) (by omega)
  simp only [ptrOf, if_true] at cT3
  have H3 := Aside0.mk (And.intro hA3 (And.intro hO3 (And.intro hq3 (And.intro s3 (And.intro s4 (And.intro s5 (And.intro hx (And.intro hm (And.intro hy (And.intro hw0 (And.intro hbw (And.intro hlg hlb))))))))))))
  clear hA3 hO3 hq3 s3 s4 s5 hx hm hy hw0 h hq hn hbase hB2 hW3 o3 hA2 hG3 t3 ep el fz cT2 cT c2 co hl hc hbw hlg hlb hT hB hb HG hgl
  go_wp2_with (go_at_call 47; refine hput.mono ?_; rintro e w4 ⟨rfl, hT4, hO4⟩; obtain ⟨w5, hr5, hm5, ho5, hs5⟩ := (H3.out.1.wh.only hO4 H3.out.2.2.2.2.2.1).run_update (P := Try.prog) keyI undII H3.out.2.2.2.2.2.2.2.2.1 x; have c21 := (H3.out.1.blk.only hO4 H3.out.2.2.2.2.1).cell_map; replace hT4 := Aside0.mk hT4; replace hO4 := Aside0.mk hO4; replace hm5 := Aside0.mk hm5; replace ho5 := Aside0.mk ho5; clear hs5)
  go_ret2
  obtain ⟨hA3, hO3, hq3, s3, s4, s5, hx, hm, hy, hw0, hbw, hlg, hlb⟩ := H3.out
  have hT5 : IsTurns w4 b (waitsAt wm x.toNat ++ [y]) (n + 1) := by rw [hw0]; exact hT4.out
  exact ⟨rfl, ⟨bw, _, hA3.come hx hm (b := b) (by simp) hT5 hO4.out hm5.out ho5.out⟩, (hO3.then hO4.out (fun i hi hh => by have := hh.1; omega)).then ho5.out (fun i hi e => by subst e; exact hA3.qw.resolve_right (by omega))⟩
end
end Go.Proofs.Ytljckmiphkoipaa
