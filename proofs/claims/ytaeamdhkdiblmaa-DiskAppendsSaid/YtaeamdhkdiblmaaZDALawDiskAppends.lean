/- What is appended to a file, in however many parts, is what it has; synced now and then, a crash leaves at least what was there at its last sync: for every list of parts, every list of syncs and every number of bytes kept. -/
import Derived.Test.YtaeamdhkdiblmaaRows
import Derived.Test.YtaeamdhkdiblmaaZDADmD
import Derived.Test.YtaeamdhkdiblmaaZDAOpenW
namespace Go.Proofs.Ytaeamdhkdiblmaa.diskAppends
open Go.ChangeShapes Go.WideShapes Go.ChangeAt Go.RowKit Go.Deep
open Go.ChangeMaps (open_string shut_string)
open Go.Proofs.YtaeamdhkdiblmaaW.PrintWords Go.Proofs.YtaeamdhkdiblmaaW.PrintLast Go.Proofs.YtaeamdhkdiblmaaW.PrintMore Go.Proofs.Ytaeamdhkdiblmaa.Open
set_option linter.unusedVariables false
theorem own : ownKnob Try.prog.godebug = none := by kernel_rfl
theorem laidOut : laidOutB Try.prog = true := by kernel_rfl
set_option maxRecDepth 100000 in
theorem lifted (os : Os) (started : os.Started) (H : Type) (enc : TypeId × Value → H) :
    ReturnsInHanded {} Try.checked os 3 .any (Rows.diskAppendsSpec.pre6 enc Try.prog Try.f3 Rows.diskAppendsRow.domain false) (Rows.diskAppendsSpec.post enc Try.prog Try.f3 false true false false) := by
  refine returnsInHanded_of_change_sized (C := Try.checked) own started (by kernel_rfl) Try.func3
    (ChangeSpec.witness6 (enc := enc) (C := Try.checked) false ⟨#[], #[.slice none 0 0, .slice none 0 0, .int .i64 0], []⟩ 8 (by kernel_rfl) (by kernel_rfl) (by kernel_rfl) (by kernel_rfl)) ?_
  intro W base args ds gs before hval0 hW hcnd hsz0 _
  have hval : ∀ (j : Nat) t v, Try.f3.params[j]? = some t → args[j]? = some v → Value.okWide Try.prog W .any base t v := hval0
  have hW' := hW
  obtain ⟨p, q, hA0, hV, rfl, hfz, hnd⟩ := hW
  have hA : DataW.TrodAll enc Try.prog W 0 (fun _ => true) true Try.f3.params.toList args.toList ds p := hA0
  have hsz : (DataW.weightsEach Try.prog (Try.f3.params.toList ++ Rows.diskAppendsSpec.plain.varTypes Try.prog) (ds ++ gs)).all (· ≤ reachBytes) = true := hsz0
  rw [Try.params3] at hA hval hsz
  obtain ⟨v0, vs0, d0, ds0, p0, q0, hargs, rfl, rfl, h0, r0⟩ := trodAll_cons hA
  obtain ⟨v1, vs1, d1, ds1, p1, q1, rfl, rfl, rfl, h1, r1⟩ := trodAll_cons r0
  obtain ⟨v2, vs2, d2, ds2, p2, q2, rfl, rfl, rfl, h2, r2⟩ := trodAll_cons r1
  obtain ⟨rfl, rfl, rfl⟩ := trodAll_nil r2
  obtain rfl : args = #[v0, v1, v2] := by cases args; simp_all
  obtain ⟨rfl, rfl⟩ := trodVars_none hV
  have k0 := h0
  have lt0 : ∀ x ∈ p0, x.block < W.heap.size := by obtain ⟨m, hm⟩ := k0; exact DataW.trod_lt m _ _ _ hm
  obtain ⟨a0, len0, cap0, rfl⟩ := okWide_slice Try.underlying22 (hval 0 22 v0 rfl rfl)
  obtain ⟨fu0, hf0⟩ := h0
  obtain ⟨l0, A0, c0, he0, hc0, hr0, hg0⟩ := open_rowW (opensW_slice Try.underlying22 (by kernel_rfl) (by kernel_rfl : Try.prog.bytesOf 32 = 24) (opensW_slice Try.underlying32 (by kernel_rfl) (by kernel_rfl : Try.prog.bytesOf 5 = 1) (opensW_of (opens_int Try.underlying5)))) (by simpa [Value.cells] using hf0) (reach_of hsz 0 22 _ rfl rfl)
  obtain ⟨rfl, rfl, rfl⟩ : a0 = A0 ∧ len0 = l0.length ∧ cap0 = c0 := by simpa using he0
  clear he0
  have k1 := h1
  have lt1 : ∀ x ∈ p1, x.block < W.heap.size := by obtain ⟨m, hm⟩ := k1; exact DataW.trod_lt m _ _ _ hm
  obtain ⟨a1, len1, cap1, rfl⟩ := okWide_slice Try.underlying23 (hval 1 23 v1 rfl rfl)
  obtain ⟨fu1, hf1⟩ := h1
  obtain ⟨l1, A1, c1, he1, hc1, hr1, hg1⟩ := open_rowW (opensW_slice Try.underlying23 (by kernel_rfl) (by kernel_rfl : Try.prog.bytesOf 4 = 1) (opensW_of (opens_bool Try.underlying4))) (by simpa [Value.cells] using hf1) (reach_of hsz 1 23 _ rfl rfl)
  obtain ⟨rfl, rfl, rfl⟩ : a1 = A1 ∧ len1 = l1.length ∧ cap1 = c1 := by simpa using he1
  clear he1
  obtain ⟨a2, rfl, rfl, rfl, w2⟩ := open_int Try.underlying3 (hval 2 3 v2 rfl rfl) h2
  have hk2 : a2 ≤ 9223372036854775807 := by have z := w2; simp only [Lit.wf, Bool.and_eq_true, decide_eq_true_eq] at z; have hm : IntKind.i64.max = 9223372036854775807 := (by decide); omega
  have hs0 : l0.length ≤ 281474976710656 ∧ ∀ x ∈ l0, x.length ≤ 281474976710656 := ⟨by have := hg0.1; simp only [reachBytes] at this; omega, fun x hx => by have := (hg0.2 x hx).1; simp only [reachBytes] at this; omega⟩
  clear hA0 hval0 hsz0 hsz hval
  refine (Dk.appends _ _ l0 _ _ l1 a2 W hr0 hc0 hr1 hk2 hs0).mono fun e W' ⟨he, bel⟩ => ?_
  subst he
  exact ⟨_, rfl, _, _, _, [], _, [], hW', trodAll_mk1 (shut_bool Try.underlying4 _), (trodAll_cons_mk (Below.trod laidOut (by kernel_rfl) (of_decide_eq_true (by kernel_rfl)) k0 bel lt0) (trodAll_cons_mk (Below.trod laidOut (by kernel_rfl) (of_decide_eq_true (by kernel_rfl)) k1 bel lt1) (trodAll_cons_mk (shut_int Try.underlying3 w2) trodAll_mk0))), rfl, bel.frame _, fun h => by cases h⟩
theorem over : Rows.diskAppendsRow.holds Try.pinned (OpenSpec.ofChange Rows.diskAppendsSpec) :=
  OpenClaim.holds_of_wide 3 Try.f3 rfl rfl rfl rfl rfl rfl rfl ⟨rfl, rfl, rfl, rfl, rfl⟩ rfl rfl rfl rfl rfl (by kernel_rfl) Try.func3 (by kernel_rfl)
    (of_decide_eq_true (by kernel_rfl)) (by unfold Func.isWrapper; first | (rw [if_pos (by decide +kernel)]; kernel_rfl) | (rw [if_neg (by decide +kernel)]; exact ⟨rfl, rfl⟩))
    (fun os started H enc _ => lifted os started H enc)
theorem proved : Rows.DiskAppendsSaid := over
#print axioms proved
end Go.Proofs.Ytaeamdhkdiblmaa.diskAppends
namespace Go.Proofs.Ytaeamdhkdiblmaa
/-- The row, under a short name, for the claim. -/
theorem diskAppends_holds : Rows.DiskAppendsSaid := diskAppends.proved
end Go.Proofs.Ytaeamdhkdiblmaa
