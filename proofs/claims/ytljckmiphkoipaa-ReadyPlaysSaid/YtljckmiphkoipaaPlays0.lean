/-
  ReadyPlays: what is played, as a plain function; the code's object and the document's beside each other in one world.
-/
import Derived.Test.YtljckmiphkoipaaRef5
namespace Go.Proofs.Ytljckmiphkoipaa
set_option linter.unusedVariables false
set_option linter.unusedSimpArgs false
open Go.RowKit Go.MapKept Go.Maps Go.Proofs.YtljckmiphkoipaaW.PrintWords Go.Proofs.YtljckmiphkoipaaW.PrintLast Go.Proofs.YtljckmiphkoipaaW.PrintMore

def playM (m : RM) (a : Int × Int) : RM := if kindOf a.1 = 3 ∨ kindOf a.1 = 4 then pickM m else if kindOf a.1 = 5 then restM m a.2 else if kindOf a.1 = 6 then m else wakeM m a.2
def playsM : RM → List (Int × Int) → RM
  | m, [] => m
  | m, a :: s => playsM (playM m a) s
theorem playsM_append (m : RM) (s t : List (Int × Int)) : playsM m (s ++ t) = playsM (playsM m s) t := by
  induction s generalizing m with
  | nil => rfl
  | cons a s ih => exact ih _
theorem pickM_policy (m : RM) : (pickM m).policy = m.policy := by unfold pickM; split <;> rfl
theorem pickM_told (m : RM) : (pickM m).told.length ≤ m.told.length + 1 := by
  unfold pickM
  split
  · omega
  · simp
theorem playM_small (m : RM) (a : Int × Int) : (playM m a).policy = m.policy ∧ (playM m a).told.length ≤ m.told.length + 1 := by
  unfold playM
  split
  · exact ⟨pickM_policy m, pickM_told m⟩
  split
  · exact ⟨rfl, Nat.le_succ _⟩
  split
  · exact ⟨rfl, Nat.le_succ _⟩
  · exact ⟨rfl, Nat.le_succ _⟩
theorem playsM_small (m : RM) (s : List (Int × Int)) : (playsM m s).policy = m.policy ∧ (playsM m s).told.length ≤ m.told.length + s.length := by
  induction s generalizing m with
  | nil => exact ⟨rfl, by simp [playsM]⟩
  | cons a s ih =>
    obtain ⟨h1, h2⟩ := ih (playM m a)
    obtain ⟨h3, h4⟩ := playM_small m a
    exact ⟨h1.trans h3, by show (playsM (playM m a) s).told.length ≤ _; simp; omega⟩

theorem same_C {w : World} {A1 A2 : Option Addr} {c1 c2 : Nat} {l : List Int} (h1 : (Kd.int .i64).C w A1 l.length l) (g1 : l.length ≤ c1) (h2 : (Kd.int .i64).C w A2 l.length l) (g2 : l.length ≤ c2) (hl : l.length ≤ 9223372036854775806) :
    Calls Try.prog 20 #[.slice A1 l.length c1, .slice A2 l.length c2] w fun e w' => e = .returned (.bool true) ∧ Below w.heap.size w w' := by
  refine (PRd.convoylaw22_same.calls (l.length + 1) A1 c1 l A2 c2 l true w h1 g1 h2 g2 ?_).mono ?_
  · unfold PRd.convoylaw22_same.f
    rw [if_pos rfl]
    exact same_loop l hl l.length 0 (by omega) (by omega)
  · rintro e w' ⟨rfl, ⟨d, rfl⟩⟩
    exact ⟨rfl, ⟨rfl, rfl, rfl, Nat.le_refl _, fun _ _ => rfl⟩⟩

theorem RefV.policy {w0 w : World} {base : Nat} {P : Nat → Prop} {cs : Array Value} {m : RM} (h : RefV w0 base P w (.agg cs) m) : ∃ Ap np cp A1 n1 c1 A2 n2 c2, cs = #[.int .i64 m.policy, .int .u64 m.lot, .slice Ap np cp, .slice A1 n1 c1, .slice A2 n2 c2] := by
  obtain ⟨Ap, cp, lv, tv, h1, h2, h3, h4, h5⟩ := h.shape
  obtain ⟨A1, c1, rfl, _⟩ := Kd.R_reads h4
  obtain ⟨A2, c2, rfl, _⟩ := Kd.R_reads h5
  injection h1 with h1
  exact ⟨_, _, _, _, _, _, _, _, _, h1⟩

/-- The code's object at g stands as m, the document's struct (block bm) as mv; apart. -/
structure PI (w0 w : World) (base lo bm g : Nat) (Qr P : Nat → Prop) (i : Int) (m mv : RM) (cs : Array Value) : Prop where
  r : IsReady w base g Qr i m
  v : RefV w0 lo P w (.agg cs) mv
  b : w.heap[bm]? = some (.cells cs 80 (0, 0))
  d : ∀ k, Qr k → ¬ P k
  q : ∀ k, Qr k → lo ≤ k ∧ k < w.heap.size ∧ k ≠ bm
  p : ∀ k, P k → lo ≤ k ∧ k < w.heap.size ∧ k ≠ bm
  bl : lo ≤ bm
  bw : Below lo w0 w
  hb : base ≤ w.heap.size
  lb : lo ≤ base
  lw : lo ≤ w0.heap.size

section
variable {w0 w w' : World} {base lo bm g : Nat} {Qr P : Nat → Prop} {i : Int} {m mv m' mv' : RM} {cs : Array Value}
theorem PI.lt (h : PI w0 w base lo bm g Qr P i m mv cs) : bm < w.heap.size := blk_lt h.b
theorem PI.los (h : PI w0 w base lo bm g Qr P i m mv cs) : lo ≤ w.heap.size := by have := h.lt; have := h.bl; omega
theorem PI.below (h : PI w0 w base lo bm g Qr P i m mv cs) (hB : Below w.heap.size w w') : PI w0 w' base lo bm g Qr P i m mv cs :=
  ⟨h.r.below hB, h.v.below hB, (hB.block _ h.lt).trans h.b, h.d, fun k hk => ⟨(h.q k hk).1, by have := (h.q k hk).2.1; have := hB.size; omega, (h.q k hk).2.2⟩, fun k hk => ⟨(h.p k hk).1, by have := (h.p k hk).2.1; have := hB.size; omega, (h.p k hk).2.2⟩, h.bl, h.bw.trans (hB.mono h.los), by have := h.hb; have := hB.size; omega, h.lb, h.lw⟩
theorem PI.more (h : PI w0 w base lo bm g Qr P i m mv cs) {j : Int} (hj : i ≤ j) : PI w0 w base lo bm g Qr P j m mv cs := ⟨h.r.more hj, h.v, h.b, h.d, h.q, h.p, h.bl, h.bw, h.hb, h.lb, h.lw⟩
theorem PI.only {F : Nat → Prop} (h : PI w0 w base lo bm g Qr P i m mv cs) (ho : Only F w w') (h1 : ∀ k, Qr k → ¬ F k) (h2 : ∀ k, P k → ¬ F k) (h3 : ¬ F bm) (h4 : ∀ k, k < lo → ¬ F k) : PI w0 w' base lo bm g Qr P i m mv cs :=
  ⟨h.r.only ho h1, h.v.only ho h2, (ho.block _ h.lt h3).trans h.b, h.d, fun k hk => ⟨(h.q k hk).1, by have := (h.q k hk).2.1; have := ho.size; omega, (h.q k hk).2.2⟩, fun k hk => ⟨(h.p k hk).1, by have := (h.p k hk).2.1; have := ho.size; omega, (h.p k hk).2.2⟩, h.bl, below_only h.bw ho h.los h4, by have := h.hb; have := ho.size; omega, h.lb, h.lw⟩
/-- The code's object went on. -/
theorem PI.ready (h : PI w0 w base lo bm g Qr P i m mv cs) {j : Int} {S : Nat} (hr : IsReady w' base g (fun k => Qr k ∨ S ≤ k) j m') (hS : w.heap.size ≤ S) (ho : Only Qr w w') : PI w0 w' base lo bm g (fun k => (Qr k ∨ S ≤ k) ∧ base ≤ k ∧ k < w'.heap.size) P j m' mv cs := by
  have hs := ho.size
  have hlt := h.lt
  refine ⟨hr.tight, h.v.only ho (fun k hk hq => h.d k hq hk), (ho.block _ h.lt (fun hq => (h.q _ hq).2.2 rfl)).trans h.b, fun k hk hp => ?_, fun k hk => ?_, fun k hk => ⟨(h.p k hk).1, by have := (h.p k hk).2.1; omega, (h.p k hk).2.2⟩, h.bl, ?_, by have := h.hb; omega, h.lb, h.lw⟩
  · rcases hk.1 with hk1 | hk1
    · exact h.d k hk1 hp
    · have := (h.p k hp).2.1; omega
  · refine ⟨?_, hk.2.2, ?_⟩
    · have := h.lb; have := hk.2.1; omega
    · rcases hk.1 with hk1 | hk1
      · exact (h.q k hk1).2.2
      · omega
  · exact below_only h.bw ho h.los (fun k hk hq => by have := (h.q k hq).1; omega)
/-- The document's struct is stored anew. -/
theorem PI.store {P' : Nat → Prop} {b0 b1 b2 b3 b4 : Value} (h : PI w0 w base lo bm g Qr P i m mv cs) (h5 : ∃ c0 c1 c2 c3 c4, cs = #[c0, c1, c2, c3, c4]) (hv : RefV w0 lo P' w (.agg #[b0, b1, b2, b3, b4]) mv') (hP : ∀ k, P' k → k < w.heap.size → lo ≤ k ∧ k ≠ bm ∧ ¬ Qr k) :
    PI w0 (five w bm b0 b1 b2 b3 b4) base lo bm g Qr (fun k => P' k ∧ k < w.heap.size) i m mv' #[b0, b1, b2, b3, b4] := by
  obtain ⟨c0, c1, c2, c3, c4, rfl⟩ := h5
  have ho := five_only w bm b0 b1 b2 b3 b4
  have hs := ho.size
  have hlo := h.los
  refine ⟨h.r.only ho (fun k hk e => (h.q k hk).2.2 e), hv.tight.only ho (fun k hk e => (hP k hk.1 hk.2).2.1 e), five_blk h.b _ _ _ _ _, fun k hk hp => (hP k hp.1 hp.2).2.2 hk, fun k hk => ⟨(h.q k hk).1, by have := (h.q k hk).2.1; omega, (h.q k hk).2.2⟩, fun k hk => ⟨(hP k hk.1 hk.2).1, by have := hk.2; omega, (hP k hk.1 hk.2).2.1⟩, h.bl, below_only h.bw ho h.los (fun k hk e => by have := h.bl; omega), by have := h.hb; omega, h.lb, h.lw⟩
theorem PI.nodup (h : PI w0 w base lo bm g Qr P i m mv cs) : m.l.Nodup ∧ m.l.length ≤ 65536 ∧ in64 m.lot := by
  obtain ⟨b, v2, v3, h⟩ := h.r
  exact ⟨h.turns.nodup, h.turns.few, h.lot⟩
end
theorem RefV.agg {w0 w : World} {base : Nat} {P : Nat → Prop} {v : Value} {m : RM} (h : RefV w0 base P w v m) : ∃ p l Ap np cp A1 n1 c1 A2 n2 c2, v = .agg #[.int .i64 p, .int .u64 l, .slice Ap np cp, .slice A1 n1 c1, .slice A2 n2 c2] := by
  obtain ⟨Ap, cp, lv, tv, h1, h2, h3, h4, h5⟩ := h.shape
  obtain ⟨A1, c1, rfl, _⟩ := Kd.R_reads h4
  obtain ⟨A2, c2, rfl, _⟩ := Kd.R_reads h5
  exact ⟨_, _, _, _, _, _, _, _, _, _, _, h1⟩
theorem restM_not {m : RM} {x : Int} (h : x ∉ m.l) : restM m x = m := by
  unfold restM
  rw [List.filter_eq_self.2 (fun y hy => by simp; rintro rfl; exact h hy)]
theorem playM_pick {m : RM} {a : Int × Int} (h : kindOf a.1 = 3 ∨ kindOf a.1 = 4) : playM m a = pickM m := if_pos h
theorem playM_rest {m : RM} {a : Int × Int} (h : kindOf a.1 = 5) : playM m a = restM m a.2 := by unfold playM; rw [if_neg (by omega), if_pos h]
theorem playM_clone {m : RM} {a : Int × Int} (h : kindOf a.1 = 6) : playM m a = m := by unfold playM; rw [if_neg (by omega), if_neg (by omega), if_pos h]
theorem playM_wake {m : RM} {a : Int × Int} (h3 : kindOf a.1 ≠ 3) (h4 : kindOf a.1 ≠ 4) (h5 : kindOf a.1 ≠ 5) (h6 : kindOf a.1 ≠ 6) : playM m a = wakeM m a.2 := by unfold playM; rw [if_neg (by omega), if_neg h5, if_neg h6]
theorem findV_range {l : List Int} {x : Int} (h : x ∈ l) : 0 ≤ findV l x ∧ findV l x < l.length := by
  obtain ⟨k, h1, h2, _⟩ := idxOf_spec h
  unfold findV
  rw [if_pos h, h2]
  omega
end Go.Proofs.Ytljckmiphkoipaa
