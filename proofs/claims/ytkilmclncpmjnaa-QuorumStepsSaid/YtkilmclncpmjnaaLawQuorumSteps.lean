/- A change goes by three configurations, all right, and ends: for every configuration and every row that is wanted; no condition. -/
import Derived.Test.YtkilmclncpmjnaaRows
import Derived.Test.YtkilmclncpmjnaaPureSteps
import Derived.Test.YtkilmclncpmjnaaOpen
namespace Go.Proofs.Ytkilmclncpmjnaa.quorumSteps
open Go.ChangeShapes Go.WideShapes Go.ChangeAt Go.RowKit Go.Deep
open Go.ChangeMaps (open_string shut_string)
open Go.Proofs.YtkilmclncpmjnaaW.PrintWords Go.Proofs.YtkilmclncpmjnaaW.PrintLast Go.Proofs.YtkilmclncpmjnaaW.PrintMore Go.Proofs.Ytkilmclncpmjnaa.Open
set_option linter.unusedVariables false
theorem own : ownKnob Try.prog.godebug = none := by kernel_rfl
theorem laidOut : laidOutB Try.prog = true := by kernel_rfl
set_option maxRecDepth 100000 in
theorem lifted (os : Os) (started : os.Started) (H : Type) (enc : TypeId × Value → H) :
    ReturnsInHanded {} Try.checked os 4 .any (Rows.quorumStepsSpec.pre6 enc Try.prog Try.f4 Rows.quorumStepsRow.domain false) (Rows.quorumStepsSpec.post enc Try.prog Try.f4 false true false false) := by
  refine returnsInHanded_of_change_sized (C := Try.checked) own started (by kernel_rfl) Try.func4
    (ChangeSpec.witness6 (enc := enc) (C := Try.checked) false ⟨#[], #[.agg #[.slice none 0 0, .slice none 0 0, .slice none 0 0, .slice none 0 0], .slice none 0 0], []⟩ 8 (by kernel_rfl) (by kernel_rfl) (by kernel_rfl) (by kernel_rfl)) ?_
  intro W base args ds gs before hval0 hW hcnd hsz0 _
  have hval : ∀ (j : Nat) t v, Try.f4.params[j]? = some t → args[j]? = some v → Value.okWide Try.prog W .any base t v := hval0
  have hW' := hW
  obtain ⟨p, q, hA0, hV, rfl, hfz, hnd⟩ := hW
  have hA : DataW.TrodAll enc Try.prog W 0 (fun _ => true) true Try.f4.params.toList args.toList ds p := hA0
  have hsz : (DataW.weightsEach Try.prog (Try.f4.params.toList ++ Rows.quorumStepsSpec.plain.varTypes Try.prog) (ds ++ gs)).all (· ≤ reachBytes) = true := hsz0
  rw [Try.params4] at hA hval hsz
  obtain ⟨v0, vs0, d0, ds0, p0, q0, hargs, rfl, rfl, h0, r0⟩ := trodAll_cons hA
  obtain ⟨v1, vs1, d1, ds1, p1, q1, rfl, rfl, rfl, h1, r1⟩ := trodAll_cons r0
  obtain ⟨rfl, rfl, rfl⟩ := trodAll_nil r1
  obtain rfl : args = #[v0, v1] := by cases args; simp_all
  obtain ⟨rfl, rfl⟩ := trodVars_none hV
  have k0 := h0
  have lt0 : ∀ x ∈ p0, x.block < W.heap.size := by obtain ⟨m, hm⟩ := k0; exact DataW.trod_lt m _ _ _ hm
  obtain ⟨cs0, rfl, hz0⟩ := okWide_struct Try.underlying24 (hval 0 24 v0 rfl rfl)
  obtain ⟨fu0, hf0⟩ := h0
  obtain ⟨hl0, n0, hfd0⟩ := open_fields Try.underlying24 (by kernel_rfl) (by kernel_rfl) (by simpa [Value.cells] using hf0)
  obtain ⟨u0_0, y0_0, e0_0, t0_0⟩ := hfd0 0 _ rfl
  obtain ⟨u0_1, y0_1, e0_1, t0_1⟩ := hfd0 1 _ rfl
  obtain ⟨u0_2, y0_2, e0_2, t0_2⟩ := hfd0 2 _ rfl
  obtain ⟨u0_3, y0_3, e0_3, t0_3⟩ := hfd0 3 _ rfl
  obtain ⟨cl0⟩ := cs0
  have ec0 : cl0 = [u0_0, u0_1, u0_2, u0_3] := arr_of [u0_0, u0_1, u0_2, u0_3] cl0 hl0 (fun j hj => match j, hj with | 0, _ => e0_0 | 1, _ => e0_1 | 2, _ => e0_2 | 3, _ => e0_3)
  subst ec0
  obtain ⟨l0_0, A0_0, c0_0, rfl, hc0_0, hr0_0, hg0_0⟩ := open_row (opens_slice Try.underlying22 (by kernel_rfl) (opens_int Try.underlying3)) t0_0
  obtain ⟨l0_1, A0_1, c0_1, rfl, hc0_1, hr0_1, hg0_1⟩ := open_row (opens_slice Try.underlying22 (by kernel_rfl) (opens_int Try.underlying3)) t0_1
  obtain ⟨l0_2, A0_2, c0_2, rfl, hc0_2, hr0_2, hg0_2⟩ := open_row (opens_slice Try.underlying22 (by kernel_rfl) (opens_int Try.underlying3)) t0_2
  obtain ⟨l0_3, A0_3, c0_3, rfl, hc0_3, hr0_3, hg0_3⟩ := open_row (opens_slice Try.underlying22 (by kernel_rfl) (opens_int Try.underlying3)) t0_3
  have k1 := h1
  have lt1 : ∀ x ∈ p1, x.block < W.heap.size := by obtain ⟨m, hm⟩ := k1; exact DataW.trod_lt m _ _ _ hm
  obtain ⟨a1, len1, cap1, rfl⟩ := okWide_slice Try.underlying22 (hval 1 22 v1 rfl rfl)
  obtain ⟨fu1, hf1⟩ := h1
  obtain ⟨l1, A1, c1, he1, hc1, hr1, hg1⟩ := open_row (opens_slice Try.underlying22 (by kernel_rfl) (opens_int Try.underlying3)) (by simpa [Value.cells] using hf1)
  obtain ⟨rfl, rfl, rfl⟩ : a1 = A1 ∧ len1 = l1.length ∧ cap1 = c1 := by simpa using he1
  clear he1
  obtain ⟨k, hk⟩ := P06b.QuorumSteps l0_0 l0_1 l0_2 l0_3 l1
  clear hA0 hval0 hsz0 hsz hval
  refine (P06b.watershedlaw06_QuorumSteps.calls k _ _ l0_0 _ _ l0_1 _ _ l0_2 _ _ l0_3 _ _ l1 true W hr0_0 hc0_0 hr0_1 hc0_1 hr0_2 hc0_2 hr0_3 hc0_3 hr1 hc1 hk).mono fun e W' ⟨he, bel⟩ => ?_
  subst he
  exact ⟨_, rfl, _, _, _, [], _, [], hW', trodAll_mk1 (shut_bool Try.underlying4 _), (trodAll_cons_mk (Below.trod laidOut (by kernel_rfl) (of_decide_eq_true (by kernel_rfl)) k0 bel lt0) (trodAll_cons_mk (Below.trod laidOut (by kernel_rfl) (of_decide_eq_true (by kernel_rfl)) k1 bel lt1) trodAll_mk0)), rfl, bel.frame _, fun h => by cases h⟩
theorem over : Rows.quorumStepsRow.holds Try.pinned (OpenSpec.ofChange Rows.quorumStepsSpec) :=
  OpenClaim.holds_of_wide 4 Try.f4 rfl rfl rfl rfl rfl rfl rfl ⟨rfl, rfl, rfl, rfl, rfl⟩ rfl rfl rfl rfl rfl (by kernel_rfl) Try.func4 (by kernel_rfl)
    (of_decide_eq_true (by kernel_rfl)) (by unfold Func.isWrapper; first | (rw [if_pos (by decide +kernel)]; kernel_rfl) | (rw [if_neg (by decide +kernel)]; exact ⟨rfl, rfl⟩))
    (fun os started H enc _ => lifted os started H enc)
theorem proved : Rows.QuorumStepsSaid := over
#print axioms proved
end Go.Proofs.Ytkilmclncpmjnaa.quorumSteps
namespace Go.Proofs.Ytkilmclncpmjnaa
/-- The row, under a short name, for the claim. -/
theorem quorumSteps_holds : Rows.QuorumStepsSaid := quorumSteps.proved
end Go.Proofs.Ytkilmclncpmjnaa
