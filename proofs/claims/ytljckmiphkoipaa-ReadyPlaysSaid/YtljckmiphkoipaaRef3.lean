/-
  The document's ready ones: whose turn it is (place, Peek), as plain functions.
-/
import Derived.Test.YtljckmiphkoipaaRef2
import Derived.Test.YtljckmiphkoipaaPRdx19
namespace Go.Proofs.Ytljckmiphkoipaa
set_option linter.unusedVariables false
set_option linter.unusedSimpArgs false
open Go.RowKit Go.MapKept Go.Maps Go.Proofs.YtljckmiphkoipaaW.PrintWords Go.Proofs.YtljckmiphkoipaaW.PrintLast Go.Proofs.YtljckmiphkoipaaW.PrintMore

theorem rd_mem {l : List Int} {j : Nat} (h : j < l.length) : rd l j ∈ l := by
  unfold rd
  rw [Int.toNat_natCast, List.getD_eq_getElem?_getD, List.getElem?_eq_getElem h]
  exact List.getElem_mem _
theorem rd_getD (l : List Int) (j : Nat) : rd l j = l.getD j 0 := rfl
theorem foldl_min_le : ∀ (l : List Int) (a : Int), l.foldl min a ≤ a ∧ ∀ x ∈ l, l.foldl min a ≤ x
  | [], a => ⟨Int.le_refl _, by simp⟩
  | y :: l, a => by
    rw [List.foldl_cons]
    obtain ⟨h1, h2⟩ := foldl_min_le l (min a y)
    refine ⟨by omega, fun x hx => ?_⟩
    rcases List.mem_cons.1 hx with rfl | hx
    · omega
    · exact h2 x hx
theorem foldl_max_ge : ∀ (l : List Int) (a : Int), a ≤ l.foldl max a ∧ ∀ x ∈ l, x ≤ l.foldl max a
  | [], a => ⟨Int.le_refl _, by simp⟩
  | y :: l, a => by
    rw [List.foldl_cons]
    obtain ⟨h1, h2⟩ := foldl_max_ge l (max a y)
    refine ⟨by omega, fun x hx => ?_⟩
    rcases List.mem_cons.1 hx with rfl | hx
    · omega
    · exact h2 x hx
theorem minOf_le {l : List Int} {x : Int} (hx : x ∈ l) : Lib.minOf l ≤ x := (foldl_min_le l _).2 x hx
theorem maxOf_ge {l : List Int} {x : Int} (hx : x ∈ l) : x ≤ Lib.maxOf l := (foldl_max_ge l _).2 x hx

/-- The first of the least. -/
theorem first_least {l : List Int} {at_ : Nat} (h : at_ < l.length) (h1 : ∀ j, j < l.length → rd l at_ ≤ rd l (j : Nat)) (h2 : ∀ j, j < at_ → rd l at_ < rd l (j : Nat)) : Lib.idxOf l (Lib.minOf l) = at_ := by
  have hne : l ≠ [] := fun e => by subst e; simp at h
  obtain ⟨k, k1, k2, k3, k4⟩ := idxOf_spec (minOf_mem hne)
  have e1 : rd l at_ = Lib.minOf l := by
    have a := minOf_le (rd_mem h)
    have b := h1 k k1
    rw [rd_getD l k, k3] at b
    omega
  rw [k2]
  rcases Nat.lt_trichotomy k at_ with hh | hh | hh
  · have := h2 k hh
    rw [rd_getD l k, k3] at this; omega
  · rw [hh]
  · exact absurd (by rw [← rd_getD]; exact e1) (k4 at_ hh)
theorem first_most {l : List Int} {at_ : Nat} (h : at_ < l.length) (h1 : ∀ j, j < l.length → rd l (j : Nat) ≤ rd l at_) (h2 : ∀ j, j < at_ → rd l (j : Nat) < rd l at_) : Lib.idxOf l (Lib.maxOf l) = at_ := by
  have hne : l ≠ [] := fun e => by subst e; simp at h
  obtain ⟨k, k1, k2, k3, k4⟩ := idxOf_spec (maxOf_mem hne)
  have e1 : rd l at_ = Lib.maxOf l := by
    have a := maxOf_ge (rd_mem h)
    have b := h1 k k1
    rw [rd_getD l k, k3] at b
    omega
  rw [k2]
  rcases Nat.lt_trichotomy k at_ with hh | hh | hh
  · have := h2 k hh
    rw [rd_getD l k, k3] at this; omega
  · rw [hh]
  · exact absurd (by rw [← rd_getD]; exact e1) (k4 at_ hh)

theorem least_loop (lot : Int) (ps l told : List Int) (hl : l.length ≤ 65536) : ∀ (d : Nat) (a i : Nat), i ≤ l.length → l.length - i = d → a < l.length → (∀ j, j < i → rd l a ≤ rd l (j : Nat)) → (∀ j, j < a → rd l a < rd l (j : Nat)) → (a < i ∨ a = 0) →
    PRd.convoyref22_place.l0 (d + 1) a (l.length : Int) i 3 lot ps l told = some (Lib.idxOf l (Lib.minOf l), lot)
  | 0, a, i, h0, h1, h2, h3, h4, h5 => by
    unfold PRd.convoyref22_place.l0
    rw [if_neg (by omega), first_least h2 (fun j hj => h3 j (by omega)) h4]
  | d + 1, a, i, h0, h1, h2, h3, h4, h5 => by
    unfold PRd.convoyref22_place.l0
    rw [if_pos (by omega), if_pos rfl, if_pos (by omega), if_pos (by omega), if_pos (by omega), if_pos (by omega), w64 _ (by omega)]
    by_cases hc : rd l (i : Nat) < rd l (a : Nat)
    · rw [if_pos hc]
      have := least_loop lot ps l told hl d i (i + 1) (by omega) (by omega) (by omega) (fun j hj => by
        by_cases hji : j = i
        · subst hji; omega
        · have := h3 j (by omega); omega) (fun j hj => by have := h3 j hj; omega) (by omega)
      simpa using this
    · rw [if_neg hc, if_neg (by omega)]
      have := least_loop lot ps l told hl d a (i + 1) (by omega) (by omega) h2 (fun j hj => by
        by_cases hji : j = i
        · subst hji; omega
        · exact h3 j (by omega)) h4 (by omega)
      simpa using this
theorem most_loop (lot : Int) (ps l told : List Int) (hl : l.length ≤ 65536) : ∀ (d : Nat) (a i : Nat), i ≤ l.length → l.length - i = d → a < l.length → (∀ j, j < i → rd l (j : Nat) ≤ rd l a) → (∀ j, j < a → rd l (j : Nat) < rd l a) → (a < i ∨ a = 0) →
    PRd.convoyref22_place.l0 (d + 1) a (l.length : Int) i 4 lot ps l told = some (Lib.idxOf l (Lib.maxOf l), lot)
  | 0, a, i, h0, h1, h2, h3, h4, h5 => by
    unfold PRd.convoyref22_place.l0
    rw [if_neg (by omega), first_most h2 (fun j hj => h3 j (by omega)) h4]
  | d + 1, a, i, h0, h1, h2, h3, h4, h5 => by
    unfold PRd.convoyref22_place.l0
    rw [if_pos (by omega), if_neg (by omega), if_pos rfl, if_pos (by omega), if_pos (by omega), if_pos (by omega), if_pos (by omega), w64 _ (by omega)]
    by_cases hc : rd l (i : Nat) > rd l (a : Nat)
    · rw [if_pos hc]
      have := most_loop lot ps l told hl d i (i + 1) (by omega) (by omega) (by omega) (fun j hj => by
        by_cases hji : j = i
        · subst hji; omega
        · have := h3 j (by omega); omega) (fun j hj => by have := h3 j hj; omega) (by omega)
      simpa using this
    · rw [if_neg hc]
      have := most_loop lot ps l told hl d a (i + 1) (by omega) (by omega) h2 (fun j hj => by
        by_cases hji : j = i
        · subst hji; omega
        · exact h3 j (by omega)) h4 (by omega)
      simpa using this

theorem place_f {pol lot : Int} {ps l told : List Int} (hpol : 0 ≤ pol ∧ pol ≤ 4) (hlot : in64 lot) (hpos : 0 < l.length) (hl : l.length ≤ 65536) : PRd.convoyref22_place.f (l.length + 1) pol lot ps l told = some (placeOf pol lot ps [] l) := by
  unfold PRd.convoyref22_place.f placeOf
  by_cases hp : 0 < ps.length
  · have a1 := Int.tmod_lt_of_pos (rd ps 0) (show (0:Int) < l.length by omega)
    have a2 := Int.lt_tmod_of_pos (rd ps 0) (show (0:Int) < l.length by omega)
    rw [if_pos (by omega), if_pos (by omega), if_neg (by omega), if_pos (by simpa using hp), w64 _ (by omega)]
    simp only [List.length_nil, Int.ofNat_zero, Int.natCast_zero, Int.cast_ofNat_Int]
    generalize Int.tmod (rd ps 0) l.length = t at a1 a2 ⊢
    congr 2
    by_cases ht : t < 0
    · rw [if_pos ht, Int.tmod_eq_of_lt (by omega) (by omega)]
    · rw [if_neg ht, Int.tmod_eq_emod_of_nonneg (by omega), show t + (l.length : Int) = t + (l.length : Int) * 1 by omega, Int.add_mul_emod_self_left, Int.emod_eq_of_lt (by omega) (by omega)]
  · have hps : ps = [] := List.eq_nil_of_length_eq_zero (by omega)
    subst hps
    rw [if_neg (show ¬ ((([] : List Int).length : Int) > 0) by simp), if_neg (show ¬ ([] : List Int).length < ([] : List Int).length by simp)]
    by_cases e0 : pol = 0
    · subst e0; rfl
    rw [if_neg e0]
    by_cases e1 : pol = 1
    · subst e1; rw [if_pos rfl, if_pos rfl, w64 _ (by omega)]
    rw [if_neg e1, if_neg e1]
    by_cases e2 : pol = 2
    · subst e2
      rw [if_pos rfl, if_pos rfl]
      have h1 : convoyref22_Mix.f (IntKind.u64.wrap (lot + 11400714819323198485)) = some (mixOf lot) := by
        exact if_pos (in64_wrap _)
      have h2 : convoyref22_part.f (mixOf lot) l.length = some (partv (mixOf lot) l.length) := by
        exact if_pos ⟨mixv_range _, by omega⟩
      rw [h1, Option.bind_some, h2, Option.bind_some]
    rw [if_neg e2, if_neg e2]
    by_cases e3 : pol = 3
    · subst e3
      rw [if_pos rfl]
      exact least_loop lot [] l told hl l.length 0 0 (by omega) (by omega) hpos (fun j hj => by omega) (fun j hj => by omega) (by omega)
    · have e4 : pol = 4 := by omega
      subst e4
      rw [if_neg (by omega), if_pos rfl]
      exact most_loop lot [] l told hl l.length 0 0 (by omega) (by omega) hpos (fun j hj => by omega) (fun j hj => by omega) (by omega)

def refP (m : RM) : Int × Int := placeOf m.policy m.lot m.picks [] m.l
def refV (m : RM) : Int := if m.l = [] then 0 else rd m.l (refP m).1
def refPick (m : RM) : RM := if m.l = [] then m else { m with lot := (refP m).2, picks := m.picks.drop 1, told := m.told ++ [(refP m).1], l := m.l.take (refP m).1.toNat ++ m.l.drop ((refP m).1.toNat + 1) }

section
variable {w0 w : World} {base : Nat} {P : Nat → Prop} {v : Value} {m : RM}
theorem rfplace_calls (h : RefV w0 base P w v m) (hw : Below w0.heap.size w0 w) (hpol : 0 ≤ m.policy ∧ m.policy ≤ 4) (hlot : in64 m.lot) (hpos : 0 < m.l.length) (hl : m.l.length ≤ 65536) :
    Calls Try.prog 87 #[v] w fun e w' => e = .returned (.tuple #[.int .i64 (refP m).1, .int .u64 (refP m).2]) ∧ Below w.heap.size w w' := by
  obtain ⟨Ap, cp, lv, tv, rfl, h2, h3, h4, h5⟩ := h.shape
  obtain ⟨A1, c1, rfl, hc1, hC1⟩ := Kd.R_reads h4
  obtain ⟨A2, c2, rfl, hc2, hC2⟩ := Kd.R_reads h5
  exact PRd.convoyref22_place.calls (m.l.length + 1) m.policy m.lot Ap cp m.picks A1 c1 m.l A2 c2 m.told _ _ w (Kd.C_below h3 hw) h2 hC1 hc1 hC2 hc2 (place_f hpol hlot hpos hl)
theorem rfpeek_calls (h : RefV w0 base P w v m) (hw : Below w0.heap.size w0 w) (hpol : 0 ≤ m.policy ∧ m.policy ≤ 4) (hlot : in64 m.lot) (hl : m.l.length ≤ 65536) :
    Calls Try.prog 86 #[v] w fun e w' => e = .returned (.tuple #[.int .i64 (refV m), .bool (decide (m.l ≠ []))]) ∧ Below w.heap.size w w' := by
  obtain ⟨Ap, cp, lv, tv, rfl, h2, h3, h4, h5⟩ := h.shape
  obtain ⟨A1, c1, rfl, hc1, hC1⟩ := Kd.R_reads h4
  obtain ⟨A2, c2, rfl, hc2, hC2⟩ := Kd.R_reads h5
  refine PRd.convoyref22_Peek.calls (m.l.length + 1) m.policy m.lot Ap cp m.picks A1 c1 m.l A2 c2 m.told _ _ w (Kd.C_below h3 hw) h2 hC1 hc1 hC2 hc2 ?_
  unfold PRd.convoyref22_Peek.f refV
  by_cases he : m.l = []
  · simp [he]
  · have hpos : 0 < m.l.length := List.length_pos_iff.2 he
    rw [if_neg (by omega), place_f hpol hlot hpos hl, Option.bind_some, if_neg he, decide_eq_true he]
    have hr := placeOf_range (policy := m.policy) (lot := m.lot) (picks := m.picks) (told := []) hpos
    rw [if_pos hr.1, if_pos hr.2]
    rfl
end
end Go.Proofs.Ytljckmiphkoipaa
