/- Two sets by which one configuration agrees meet in its voters, and in its old ones where it is joint; so do sets by which it and its next one agree. For every configuration and every two sets; no condition. -/
import Derived.Test.YtkilmclncpmjnaaRows
import Derived.Test.YtkilmclncpmjnaaPureMeet
import Derived.Test.YtkilmclncpmjnaaOpen
namespace Go.Proofs.Ytkilmclncpmjnaa.quorumMeet
open Go.ChangeShapes Go.WideShapes Go.ChangeAt Go.RowKit Go.Deep
open Go.ChangeMaps (open_string shut_string)
open Go.Proofs.YtkilmclncpmjnaaW.PrintWords Go.Proofs.YtkilmclncpmjnaaW.PrintLast Go.Proofs.YtkilmclncpmjnaaW.PrintMore Go.Proofs.Ytkilmclncpmjnaa.Open
set_option linter.unusedVariables false
theorem own : ownKnob Try.prog.godebug = none := by kernel_rfl
theorem laidOut : laidOutB Try.prog = true := by kernel_rfl
set_option maxRecDepth 100000 in
theorem lifted (os : Os) (started : os.Started) (H : Type) (enc : TypeId × Value → H) :
    ReturnsInHanded {} Try.checked os 3 .any (Rows.quorumMeetSpec.pre6 enc Try.prog Try.f3 Rows.quorumMeetRow.domain false) (Rows.quorumMeetSpec.post enc Try.prog Try.f3 false true false false) := by
  refine returnsInHanded_of_change_sized (C := Try.checked) own started (by kernel_rfl) Try.func3
    (ChangeSpec.witness6 (enc := enc) (C := Try.checked) false ⟨#[], #[.agg #[.slice none 0 0, .slice none 0 0, .slice none 0 0, .slice none 0 0], .slice none 0 0, .slice none 0 0], []⟩ 8 (by kernel_rfl) (by kernel_rfl) (by kernel_rfl) (by kernel_rfl)) ?_
  intro W base args ds gs before hval0 hW hcnd hsz0 _
  have hval : ∀ (j : Nat) t v, Try.f3.params[j]? = some t → args[j]? = some v → Value.okWide Try.prog W .any base t v := hval0
  have hW' := hW
  obtain ⟨p, q, hA0, hV, rfl, hfz, hnd⟩ := hW
  have hA : DataW.TrodAll enc Try.prog W 0 (fun _ => true) true Try.f3.params.toList args.toList ds p := hA0
  have hsz : (DataW.weightsEach Try.prog (Try.f3.params.toList ++ Rows.quorumMeetSpec.plain.varTypes Try.prog) (ds ++ gs)).all (· ≤ reachBytes) = true := hsz0
  rw [Try.params3] at hA hval hsz
  obtain ⟨v0, vs0, d0, ds0, p0, q0, hargs, rfl, rfl, h0, r0⟩ := trodAll_cons hA
  obtain ⟨v1, vs1, d1, ds1, p1, q1, rfl, rfl, rfl, h1, r1⟩ := trodAll_cons r0
  obtain ⟨v2, vs2, d2, ds2, p2, q2, rfl, rfl, rfl, h2, r2⟩ := trodAll_cons r1
  obtain ⟨rfl, rfl, rfl⟩ := trodAll_nil r2
  obtain rfl : args = #[v0, v1, v2] := by cases args; simp_all
  obtain ⟨rfl, rfl⟩ := trodVars_none hV
  have k0 := h0
  have lt0 : ∀ x ∈ p0, x.block < W.heap.size := by obtain ⟨m, hm⟩ := k0; exact DataW.trod_lt m _ _ _ hm
  obtain ⟨cs0, rfl, hz0⟩ := okWide_struct Try.underlying24 (hval 0 24 v0 rfl rfl)
  obtain ⟨fu0, hf0⟩ := h0
  obtain ⟨hl0, n0, hfd0⟩ := open_fields Try.underlying24 (by kernel_rfl) (by kernel_rfl) (by simpa [Value.cells] using hf0)
  obtain ⟨u0_0, y0_0, e0_0, t0_0⟩ := hfd0 0 _ rfl
  obtain ⟨u0_1, y0_1, e0_1, t0_1⟩ := hfd0 1 _ rfl
  obtain ⟨u0_2, y0_2, e0_2, t0_2⟩ := hfd0 2 _ rfl
  obtain ⟨u0_3, y0_3, e0_3, t0_3⟩ := hfd0 3 _ rfl
  obtain ⟨cl0⟩ := cs0
  have ec0 : cl0 = [u0_0, u0_1, u0_2, u0_3] := arr_of [u0_0, u0_1, u0_2, u0_3] cl0 hl0 (fun j hj => match j, hj with | 0, _ => e0_0 | 1, _ => e0_1 | 2, _ => e0_2 | 3, _ => e0_3)
  subst ec0
  obtain ⟨l0_0, A0_0, c0_0, rfl, hc0_0, hr0_0, hg0_0⟩ := open_row (opens_slice Try.underlying22 (by kernel_rfl) (opens_int Try.underlying3)) t0_0
  obtain ⟨l0_1, A0_1, c0_1, rfl, hc0_1, hr0_1, hg0_1⟩ := open_row (opens_slice Try.underlying22 (by kernel_rfl) (opens_int Try.underlying3)) t0_1
  obtain ⟨l0_2, A0_2, c0_2, rfl, hc0_2, hr0_2, hg0_2⟩ := open_row (opens_slice Try.underlying22 (by kernel_rfl) (opens_int Try.underlying3)) t0_2
  obtain ⟨l0_3, A0_3, c0_3, rfl, hc0_3, hr0_3, hg0_3⟩ := open_row (opens_slice Try.underlying22 (by kernel_rfl) (opens_int Try.underlying3)) t0_3
  have k1 := h1
  have lt1 : ∀ x ∈ p1, x.block < W.heap.size := by obtain ⟨m, hm⟩ := k1; exact DataW.trod_lt m _ _ _ hm
  obtain ⟨a1, len1, cap1, rfl⟩ := okWide_slice Try.underlying22 (hval 1 22 v1 rfl rfl)
  obtain ⟨fu1, hf1⟩ := h1
  obtain ⟨l1, A1, c1, he1, hc1, hr1, hg1⟩ := open_row (opens_slice Try.underlying22 (by kernel_rfl) (opens_int Try.underlying3)) (by simpa [Value.cells] using hf1)
  obtain ⟨rfl, rfl, rfl⟩ : a1 = A1 ∧ len1 = l1.length ∧ cap1 = c1 := by simpa using he1
  clear he1
  have k2 := h2
  have lt2 : ∀ x ∈ p2, x.block < W.heap.size := by obtain ⟨m, hm⟩ := k2; exact DataW.trod_lt m _ _ _ hm
  obtain ⟨a2, len2, cap2, rfl⟩ := okWide_slice Try.underlying22 (hval 2 22 v2 rfl rfl)
  obtain ⟨fu2, hf2⟩ := h2
  obtain ⟨l2, A2, c2, he2, hc2, hr2, hg2⟩ := open_row (opens_slice Try.underlying22 (by kernel_rfl) (opens_int Try.underlying3)) (by simpa [Value.cells] using hf2)
  obtain ⟨rfl, rfl, rfl⟩ : a2 = A2 ∧ len2 = l2.length ∧ cap2 = c2 := by simpa using he2
  clear he2
  obtain ⟨k, hk⟩ := P06.QuorumMeet l0_0 l0_1 l0_2 l0_3 l1 l2
  clear hA0 hval0 hsz0 hsz hval
  refine (P06.watershedlaw06_QuorumMeet.calls k _ _ l0_0 _ _ l0_1 _ _ l0_2 _ _ l0_3 _ _ l1 _ _ l2 true W hr0_0 hc0_0 hr0_1 hc0_1 hr0_2 hc0_2 hr0_3 hc0_3 hr1 hc1 hr2 hc2 hk).mono fun e W' ⟨he, bel⟩ => ?_
  subst he
  exact ⟨_, rfl, _, _, _, [], _, [], hW', trodAll_mk1 (shut_bool Try.underlying4 _), (trodAll_cons_mk (Below.trod laidOut (by kernel_rfl) (of_decide_eq_true (by kernel_rfl)) k0 bel lt0) (trodAll_cons_mk (Below.trod laidOut (by kernel_rfl) (of_decide_eq_true (by kernel_rfl)) k1 bel lt1) (trodAll_cons_mk (Below.trod laidOut (by kernel_rfl) (of_decide_eq_true (by kernel_rfl)) k2 bel lt2) trodAll_mk0))), rfl, bel.frame _, fun h => by cases h⟩
theorem over : Rows.quorumMeetRow.holds Try.pinned (OpenSpec.ofChange Rows.quorumMeetSpec) :=
  OpenClaim.holds_of_wide 3 Try.f3 rfl rfl rfl rfl rfl rfl rfl ⟨rfl, rfl, rfl, rfl, rfl⟩ rfl rfl rfl rfl rfl (by kernel_rfl) Try.func3 (by kernel_rfl)
    (of_decide_eq_true (by kernel_rfl)) (by unfold Func.isWrapper; first | (rw [if_pos (by decide +kernel)]; kernel_rfl) | (rw [if_neg (by decide +kernel)]; exact ⟨rfl, rfl⟩))
    (fun os started H enc _ => lifted os started H enc)
theorem proved : Rows.QuorumMeetSaid := over
#print axioms proved
end Go.Proofs.Ytkilmclncpmjnaa.quorumMeet
namespace Go.Proofs.Ytkilmclncpmjnaa
/-- The row, under a short name, for the claim. -/
theorem quorumMeet_holds : Rows.QuorumMeetSaid := quorumMeet.proved
end Go.Proofs.Ytkilmclncpmjnaa
