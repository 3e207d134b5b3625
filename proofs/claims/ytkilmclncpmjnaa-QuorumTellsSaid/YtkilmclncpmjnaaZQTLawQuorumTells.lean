/- The package and the reference's second reading answer alike for every configuration, set and node, and what they answer shares nothing with what they were asked. -/
import Derived.Test.YtkilmclncpmjnaaRows
import Derived.Test.YtkilmclncpmjnaaZQTPureZ
import Derived.Test.YtkilmclncpmjnaaZQTOpen
namespace Go.Proofs.Ytkilmclncpmjnaa.quorumTells
open Go.ChangeShapes Go.WideShapes Go.ChangeAt Go.RowKit Go.Deep
open Go.ChangeMaps (open_string shut_string)
open Go.Proofs.YtkilmclncpmjnaaW.PrintWords Go.Proofs.YtkilmclncpmjnaaW.PrintLast Go.Proofs.YtkilmclncpmjnaaW.PrintMore Go.Proofs.Ytkilmclncpmjnaa.Open
set_option linter.unusedVariables false
theorem own : ownKnob Try.prog.godebug = none := by kernel_rfl
theorem laidOut : laidOutB Try.prog = true := by kernel_rfl
set_option maxRecDepth 100000 in
theorem lifted (os : Os) (started : os.Started) (H : Type) (enc : TypeId × Value → H) :
    ReturnsInHanded {} Try.checked os 5 .any (Rows.quorumTellsSpec.pre6 enc Try.prog Try.f5 Rows.quorumTellsRow.domain false) (Rows.quorumTellsSpec.post enc Try.prog Try.f5 false true false false) := by
  refine returnsInHanded_of_change_sized (C := Try.checked) own started (by kernel_rfl) Try.func5
    (ChangeSpec.witness6 (enc := enc) (C := Try.checked) false ⟨#[], #[.agg #[.slice none 0 0, .slice none 0 0, .slice none 0 0, .slice none 0 0], .slice none 0 0, .int .i64 0], []⟩ 8 (by kernel_rfl) (by kernel_rfl) (by kernel_rfl) (by kernel_rfl)) ?_
  intro W base args ds gs before hval0 hW hcnd hsz0 _
  have hval : ∀ (j : Nat) t v, Try.f5.params[j]? = some t → args[j]? = some v → Value.okWide Try.prog W .any base t v := hval0
  have hW' := hW
  obtain ⟨p, q, hA0, hV, rfl, hfz, hnd⟩ := hW
  have hA : DataW.TrodAll enc Try.prog W 0 (fun _ => true) true Try.f5.params.toList args.toList ds p := hA0
  have hsz : (DataW.weightsEach Try.prog (Try.f5.params.toList ++ Rows.quorumTellsSpec.plain.varTypes Try.prog) (ds ++ gs)).all (· ≤ reachBytes) = true := hsz0
  rw [Try.params5] at hA hval hsz
  obtain ⟨v0, vs0, d0, ds0, p0, q0, hargs, rfl, rfl, h0, r0⟩ := trodAll_cons hA
  obtain ⟨v1, vs1, d1, ds1, p1, q1, rfl, rfl, rfl, h1, r1⟩ := trodAll_cons r0
  obtain ⟨v2, vs2, d2, ds2, p2, q2, rfl, rfl, rfl, h2, r2⟩ := trodAll_cons r1
  obtain ⟨rfl, rfl, rfl⟩ := trodAll_nil r2
  obtain rfl : args = #[v0, v1, v2] := by cases args; simp_all
  obtain ⟨rfl, rfl⟩ := trodVars_none hV
  have k0 := h0
  have lt0 : ∀ x ∈ p0, x.block < W.heap.size := by obtain ⟨m, hm⟩ := k0; exact DataW.trod_lt m _ _ _ hm
  obtain ⟨cs0, rfl, hz0⟩ := okWide_struct Try.underlying24 (hval 0 24 v0 rfl rfl)
  obtain ⟨fu0, hf0⟩ := h0
  obtain ⟨hl0, n0, hfd0⟩ := open_fields Try.underlying24 (by kernel_rfl) (by kernel_rfl) (by simpa [Value.cells] using hf0)
  obtain ⟨u0_0, y0_0, e0_0, t0_0⟩ := hfd0 0 _ rfl
  obtain ⟨u0_1, y0_1, e0_1, t0_1⟩ := hfd0 1 _ rfl
  obtain ⟨u0_2, y0_2, e0_2, t0_2⟩ := hfd0 2 _ rfl
  obtain ⟨u0_3, y0_3, e0_3, t0_3⟩ := hfd0 3 _ rfl
  obtain ⟨cl0⟩ := cs0
  have ec0 : cl0 = [u0_0, u0_1, u0_2, u0_3] := arr_of [u0_0, u0_1, u0_2, u0_3] cl0 hl0 (fun j hj => match j, hj with | 0, _ => e0_0 | 1, _ => e0_1 | 2, _ => e0_2 | 3, _ => e0_3)
  subst ec0
  obtain ⟨l0_0, A0_0, c0_0, rfl, hc0_0, hr0_0, hg0_0⟩ := open_row (opens_slice Try.underlying22 (by kernel_rfl) (opens_int Try.underlying3)) t0_0
  obtain ⟨l0_1, A0_1, c0_1, rfl, hc0_1, hr0_1, hg0_1⟩ := open_row (opens_slice Try.underlying22 (by kernel_rfl) (opens_int Try.underlying3)) t0_1
  obtain ⟨l0_2, A0_2, c0_2, rfl, hc0_2, hr0_2, hg0_2⟩ := open_row (opens_slice Try.underlying22 (by kernel_rfl) (opens_int Try.underlying3)) t0_2
  obtain ⟨l0_3, A0_3, c0_3, rfl, hc0_3, hr0_3, hg0_3⟩ := open_row (opens_slice Try.underlying22 (by kernel_rfl) (opens_int Try.underlying3)) t0_3
  have k1 := h1
  have lt1 : ∀ x ∈ p1, x.block < W.heap.size := by obtain ⟨m, hm⟩ := k1; exact DataW.trod_lt m _ _ _ hm
  obtain ⟨a1, len1, cap1, rfl⟩ := okWide_slice Try.underlying22 (hval 1 22 v1 rfl rfl)
  obtain ⟨fu1, hf1⟩ := h1
  obtain ⟨l1, A1, c1, he1, hc1, hr1, hg1⟩ := open_row (opens_slice Try.underlying22 (by kernel_rfl) (opens_int Try.underlying3)) (by simpa [Value.cells] using hf1)
  obtain ⟨rfl, rfl, rfl⟩ : a1 = A1 ∧ len1 = l1.length ∧ cap1 = c1 := by simpa using he1
  clear he1
  obtain ⟨a2, rfl, rfl, rfl, w2⟩ := open_int Try.underlying3 (hval 2 3 v2 rfl rfl) h2
  clear hA0 hval0 hsz0 hsz hval
  refine (P06t.tells_true _ _ _ _ _ l0_0 l0_1 l0_2 l0_3 l1 a2 W ⟨⟨_, _, rfl, hc0_0, hr0_0⟩, ⟨_, _, rfl, hc0_1, hr0_1⟩, ⟨_, _, rfl, hc0_2, hr0_2⟩, ⟨_, _, rfl, hc0_3, hr0_3⟩⟩ ⟨_, _, rfl, hc1, hr1⟩).mono fun e W' ⟨he, bel⟩ => ?_
  subst he
  exact ⟨_, rfl, _, _, _, [], _, [], hW', trodAll_mk1 (shut_bool Try.underlying4 _), (trodAll_cons_mk (Below.trod laidOut (by kernel_rfl) (of_decide_eq_true (by kernel_rfl)) k0 bel lt0) (trodAll_cons_mk (Below.trod laidOut (by kernel_rfl) (of_decide_eq_true (by kernel_rfl)) k1 bel lt1) (trodAll_cons_mk (shut_int Try.underlying3 w2) trodAll_mk0))), rfl, bel.frame _, fun h => by cases h⟩
theorem over : Rows.quorumTellsRow.holds Try.pinned (OpenSpec.ofChange Rows.quorumTellsSpec) :=
  OpenClaim.holds_of_wide 5 Try.f5 rfl rfl rfl rfl rfl rfl rfl ⟨rfl, rfl, rfl, rfl, rfl⟩ rfl rfl rfl rfl rfl (by kernel_rfl) Try.func5 (by kernel_rfl)
    (of_decide_eq_true (by kernel_rfl)) (by unfold Func.isWrapper; first | (rw [if_pos (by decide +kernel)]; kernel_rfl) | (rw [if_neg (by decide +kernel)]; exact ⟨rfl, rfl⟩))
    (fun os started H enc _ => lifted os started H enc)
theorem proved : Rows.QuorumTellsSaid := over
#print axioms proved
end Go.Proofs.Ytkilmclncpmjnaa.quorumTells
namespace Go.Proofs.Ytkilmclncpmjnaa
/-- The row, under a short name, for the claim. -/
theorem quorumTells_holds : Rows.QuorumTellsSaid := quorumTells.proved
end Go.Proofs.Ytkilmclncpmjnaa
