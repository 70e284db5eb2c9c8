/-
  The ready ones: the law's awake; nil.
-/
import Derived.Test.YtljckmiphkoipaaReady3
namespace Go.Proofs.Ytljckmiphkoipaa
set_option linter.unusedVariables false
set_option linter.unusedSimpArgs false
open Go.RowKit Go.MapKept Go.Maps Go.Proofs.YtljckmiphkoipaaW.PrintWords Go.Proofs.YtljckmiphkoipaaW.PrintLast Go.Proofs.YtljckmiphkoipaaW.PrintMore

theorem goodI5 : goodI 5 := goodI_of (by omega) (by omega)
theorem goodI6 : goodI 6 := goodI_of (by omega) (by omega)
theorem IntsAt.nil (w : World) : IntsAt w (.slice none 0 0) [] := .inl ⟨none, 0, rfl, rfl⟩

set_option maxHeartbeats 4000000 in
theorem awake_calls (w : World) : Calls Try.prog 13 #[] w fun e w' => e = .returned (.bool true) ∧ Below w.heap.size w w' := by
  have hc := new_calls w 0 0 (.slice none 0 0) [] (IntsAt.nil w) ⟨by omega, by omega⟩ (by simp) ⟨by omega, by omega⟩
  have e5 : putE [] 5 = 0 := by decide
  have e6 : putE [5] 6 = 0 := by decide
  have ep : pickV ⟨0, 0, [], [], [5, 6]⟩ = 5 := by decide
  go_enter Try.func13, Try.ntmps13
  go_wp2_with (first
    | (go_at_call 12; refine hc.mono ?_; rintro e w1 ⟨g, rfl, hI, hB⟩; replace hI := Aside0.mk hI; replace hB := Aside0.mk hB)
    | (go_at_call 14; refine (wake_calls w1 w.heap.size g _ 0 5 _ hI.out goodI5 (by omega)).mono ?_; rintro e w2 ⟨rfl, hI2, hO2⟩; replace hI2 := Aside0.mk hI2; replace hO2 := Aside0.mk hO2; clear hI; simp only [e5])
    | (go_at_call 14; refine (wake_calls w2 w.heap.size g _ 1 6 _ hI2.out goodI6 (by omega)).mono ?_; rintro e w3 ⟨rfl, hI3, hO3⟩; replace hI3 := Aside0.mk hI3; replace hO3 := Aside0.mk hO3; clear hI2; simp only [e6, wakeM, e5])
    | (go_at_call 15; refine (pick_calls w3 w.heap.size g _ 2 ⟨0, 0, [], [], [5, 6]⟩ hI3.out (by omega) (by simp) (by have := hB.out.size; have := hO2.out.size; have := hO3.out.size; omega)).mono ?_; rintro e w4 ⟨rfl, hI4, hO4⟩; replace hI4 := Aside0.mk hI4; replace hO4 := Aside0.mk hO4; clear hI3; simp only [ep])
    | (go_at_call 16; refine (rhas_calls w4 w.heap.size g _ 2 6 _ hI4.out goodI6).mono ?_; rintro e w5 ⟨rfl, rfl⟩))
  have ed : decide (6 ∈ (pickM ⟨0, 0, [], [], [5, 6]⟩).l) = true := by decide
  have e7 : putE (putL [] 5) 6 = 0 := by decide
  all_goals first
    | (go_ret; exact ⟨by simp [ed], (hB.out.trans ((hO2.out.trans hO3.out).below hB.out.size (fun i hi h => by omega))).trans (hO4.out.below (by have := hB.out.size; have := hO2.out.size; have := hO3.out.size; omega) (fun i hi h => by omega))⟩)
    | (exfalso; simp_all)
theorem readyNil_walk (a : Int) (w : World) (_wa : (Lit.int .i64 a).wf = true) : Calls Try.prog 9 #[.int .i64 a] w fun e w' => e = .returned (.bool true) ∧ Below w.heap.size w w' := by
  have h1 := pick_nil w
  have h2 := peek_nil w
  have h3 := awake_calls w
  go_enter Try.func9, Try.ntmps9
  go_wp2_with (first
    | (go_at_call 15; refine h1.mono ?_; rintro e w ⟨rfl, rfl⟩)
    | (go_at_call 57; refine h2.mono ?_; rintro e w ⟨rfl, rfl⟩)
    | (go_at_call 13; refine h3.mono ?_; rintro e w1 ⟨rfl, hB⟩; replace hB := Aside0.mk hB)
    | (go_at_call 14; refine (wake_nil _ _).mono ?_; rintro e w1 ⟨rfl, rfl⟩)
    | (go_at_call 52; refine (rest_nil _ _).mono ?_; rintro e w1 ⟨rfl, rfl⟩)
    | (go_at_call 16; refine (rhas_nil _ _).mono ?_; rintro e w1 ⟨rfl, rfl⟩)
    | (go_at_call 21; refine (rall_nil _).mono ?_; rintro e w1 ⟨rfl, rfl⟩)
    | (go_at_call 58; refine (rlen_nil _).mono ?_; rintro e w1 ⟨rfl, rfl⟩)
    | (go_at_call 17; refine (rturns_nil _).mono ?_; rintro e w1 ⟨rfl, rfl⟩)
    | (go_at_call 19; refine (rtold_nil _).mono ?_; rintro e w1 ⟨rfl, rfl⟩)
    | (go_at_call 54; refine (rclone_nil _).mono ?_; rintro e w1 ⟨rfl, rfl⟩))
  go_ret
  exact ⟨by first | rfl | simp, hB.out⟩
end Go.Proofs.Ytljckmiphkoipaa
