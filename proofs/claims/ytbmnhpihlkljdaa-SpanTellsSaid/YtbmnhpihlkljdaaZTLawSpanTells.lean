/- Of any spans and texts what is told is just what the document tells; they stay; no condition. -/
import Derived.Test.YtbmnhpihlkljdaaRows
import Derived.Test.YtbmnhpihlkljdaaZTPureU
import Derived.Test.YtbmnhpihlkljdaaZTOpen
namespace Go.Proofs.Ytbmnhpihlkljdaa.spanTells
open Go.ChangeShapes Go.WideShapes Go.ChangeAt Go.RowKit Go.Deep
open Go.ChangeMaps (open_string shut_string)
open Go.Proofs.YtbmnhpihlkljdaaW.PrintWords Go.Proofs.YtbmnhpihlkljdaaW.PrintLast Go.Proofs.YtbmnhpihlkljdaaW.PrintMore Go.Proofs.Ytbmnhpihlkljdaa.Open
set_option linter.unusedVariables false
theorem own : ownKnob Try.prog.godebug = none := by kernel_rfl
theorem laidOut : laidOutB Try.prog = true := by kernel_rfl
set_option maxRecDepth 100000 in
theorem lifted (os : Os) (started : os.Started) (H : Type) (enc : TypeId × Value → H) :
    ReturnsInHanded {} Try.checked os 4 .any (Rows.spanTellsSpec.pre6 enc Try.prog Try.f4 Rows.spanTellsRow.domain false) (Rows.spanTellsSpec.post enc Try.prog Try.f4 false true false false) := by
  refine returnsInHanded_of_change_sized (C := Try.checked) own started (by kernel_rfl) Try.func4
    (ChangeSpec.witness6 (enc := enc) (C := Try.checked) false ⟨#[], #[.agg #[.string ByteArray.empty, .string ByteArray.empty], .agg #[.string ByteArray.empty, .string ByteArray.empty], .slice none 0 0], []⟩ 8 (by kernel_rfl) (by kernel_rfl) (by kernel_rfl) (by kernel_rfl)) ?_
  intro W base args ds gs before hval0 hW hcnd hsz0 _
  have hval : ∀ (j : Nat) t v, Try.f4.params[j]? = some t → args[j]? = some v → Value.okWide Try.prog W .any base t v := hval0
  have hW' := hW
  obtain ⟨p, q, hA0, hV, rfl, hfz, hnd⟩ := hW
  have hA : DataW.TrodAll enc Try.prog W 0 (fun _ => true) true Try.f4.params.toList args.toList ds p := hA0
  have hsz : (DataW.weightsEach Try.prog (Try.f4.params.toList ++ Rows.spanTellsSpec.plain.varTypes Try.prog) (ds ++ gs)).all (· ≤ reachBytes) = true := hsz0
  rw [Try.params4] at hA hval hsz
  obtain ⟨v0, vs0, d0, ds0, p0, q0, hargs, rfl, rfl, h0, r0⟩ := trodAll_cons hA
  obtain ⟨v1, vs1, d1, ds1, p1, q1, rfl, rfl, rfl, h1, r1⟩ := trodAll_cons r0
  obtain ⟨v2, vs2, d2, ds2, p2, q2, rfl, rfl, rfl, h2, r2⟩ := trodAll_cons r1
  obtain ⟨rfl, rfl, rfl⟩ := trodAll_nil r2
  obtain rfl : args = #[v0, v1, v2] := by cases args; simp_all
  obtain ⟨rfl, rfl⟩ := trodVars_none hV
  have k0 := h0
  have lt0 : ∀ x ∈ p0, x.block < W.heap.size := by obtain ⟨m, hm⟩ := k0; exact DataW.trod_lt m _ _ _ hm
  obtain ⟨cs0, rfl, hz0⟩ := okWide_struct Try.underlying26 (hval 0 26 v0 rfl rfl)
  obtain ⟨fu0, hf0⟩ := h0
  obtain ⟨hl0, n0, hfd0⟩ := open_fields Try.underlying26 (by kernel_rfl) (by kernel_rfl) (by simpa [Value.cells] using hf0)
  obtain ⟨u0_0, y0_0, e0_0, t0_0⟩ := hfd0 0 _ rfl
  obtain ⟨u0_1, y0_1, e0_1, t0_1⟩ := hfd0 1 _ rfl
  obtain ⟨cl0⟩ := cs0
  have ec0 : cl0 = [u0_0, u0_1] := arr_of [u0_0, u0_1] cl0 hl0 (fun j hj => match j, hj with | 0, _ => e0_0 | 1, _ => e0_1)
  subst ec0
  obtain ⟨a0_0, he0_0, hg0_0⟩ := (opens_string Try.underlying9) W _ _ _ _ _ _ t0_0
  obtain rfl : u0_0 = .string a0_0 := by simpa [Kd.int, Kd.bool, Kd.string, Kd.scalar] using he0_0
  obtain ⟨a0_1, he0_1, hg0_1⟩ := (opens_string Try.underlying9) W _ _ _ _ _ _ t0_1
  obtain rfl : u0_1 = .string a0_1 := by simpa [Kd.int, Kd.bool, Kd.string, Kd.scalar] using he0_1
  have k1 := h1
  have lt1 : ∀ x ∈ p1, x.block < W.heap.size := by obtain ⟨m, hm⟩ := k1; exact DataW.trod_lt m _ _ _ hm
  obtain ⟨cs1, rfl, hz1⟩ := okWide_struct Try.underlying26 (hval 1 26 v1 rfl rfl)
  obtain ⟨fu1, hf1⟩ := h1
  obtain ⟨hl1, n1, hfd1⟩ := open_fields Try.underlying26 (by kernel_rfl) (by kernel_rfl) (by simpa [Value.cells] using hf1)
  obtain ⟨u1_0, y1_0, e1_0, t1_0⟩ := hfd1 0 _ rfl
  obtain ⟨u1_1, y1_1, e1_1, t1_1⟩ := hfd1 1 _ rfl
  obtain ⟨cl1⟩ := cs1
  have ec1 : cl1 = [u1_0, u1_1] := arr_of [u1_0, u1_1] cl1 hl1 (fun j hj => match j, hj with | 0, _ => e1_0 | 1, _ => e1_1)
  subst ec1
  obtain ⟨a1_0, he1_0, hg1_0⟩ := (opens_string Try.underlying9) W _ _ _ _ _ _ t1_0
  obtain rfl : u1_0 = .string a1_0 := by simpa [Kd.int, Kd.bool, Kd.string, Kd.scalar] using he1_0
  obtain ⟨a1_1, he1_1, hg1_1⟩ := (opens_string Try.underlying9) W _ _ _ _ _ _ t1_1
  obtain rfl : u1_1 = .string a1_1 := by simpa [Kd.int, Kd.bool, Kd.string, Kd.scalar] using he1_1
  have k2 := h2
  have lt2 : ∀ x ∈ p2, x.block < W.heap.size := by obtain ⟨m, hm⟩ := k2; exact DataW.trod_lt m _ _ _ hm
  obtain ⟨a2, len2, cap2, rfl⟩ := okWide_slice Try.underlying24 (hval 2 24 v2 rfl rfl)
  obtain ⟨fu2, hf2⟩ := h2
  obtain ⟨l2, A2, c2, he2, hc2, hr2, hg2⟩ := open_row (opens_slice Try.underlying24 (by kernel_rfl) (opens_string Try.underlying9)) (by simpa [Value.cells] using hf2)
  obtain ⟨rfl, rfl, rfl⟩ : a2 = A2 ∧ len2 = l2.length ∧ cap2 = c2 := by simpa using he2
  clear he2
  have z2 : l2.length * 16 ≤ 140737488351232 := by
    rcases slice_datum Try.underlying24 (by simpa [Value.cells] using hf2) with e | ⟨es, rest, e, hes⟩
    · rw [e]; decide
    · subst e
      have z := sized_slice hsz (j := 2) (t := 24) rfl rfl Try.underlying24
      have hb : Try.prog.bytesOf 9 = 16 := by kernel_rfl
      rw [hb, hes] at z
      have hR : reachBytes = 140737488351232 := by decide
      rw [hR] at z
      exact Nat.le_trans (Nat.mul_le_mul_right _ (Nat.le_add_right _ _)) z
  obtain ⟨k, hk⟩ := (P04t.spanTells_true a0_0 a0_1 a1_0 a1_1 l2 (by have := z2; omega)).rounds
  obtain ⟨kk, hkk⟩ := (P04t.ev_kept l2 (by have := z2; omega)).rounds
  clear hA0 hval0 hsz0 hsz hval
  refine (P04t.watershedlaw04_SpanTells.calls k a0_0 a0_1 a1_0 a1_1 _ _ l2 true W hr2 hc2 kk hkk (by have := z2; omega) hk).mono fun e W' ⟨he, bel⟩ => ?_
  subst he
  exact ⟨_, rfl, _, _, _, [], _, [], hW', trodAll_mk1 (shut_bool Try.underlying4 _), (trodAll_cons_mk (Below.trod laidOut (by kernel_rfl) (of_decide_eq_true (by kernel_rfl)) k0 bel lt0) (trodAll_cons_mk (Below.trod laidOut (by kernel_rfl) (of_decide_eq_true (by kernel_rfl)) k1 bel lt1) (trodAll_cons_mk (Below.trod laidOut (by kernel_rfl) (of_decide_eq_true (by kernel_rfl)) k2 bel lt2) trodAll_mk0))), rfl, bel.frame _, fun h => by cases h⟩
theorem over : Rows.spanTellsRow.holds Try.pinned (OpenSpec.ofChange Rows.spanTellsSpec) :=
  OpenClaim.holds_of_wide 4 Try.f4 rfl rfl rfl rfl rfl rfl rfl ⟨rfl, rfl, rfl, rfl, rfl⟩ rfl rfl rfl rfl rfl (by kernel_rfl) Try.func4 (by kernel_rfl)
    (of_decide_eq_true (by kernel_rfl)) (by unfold Func.isWrapper; first | (rw [if_pos (by decide +kernel)]; kernel_rfl) | (rw [if_neg (by decide +kernel)]; exact ⟨rfl, rfl⟩))
    (fun os started H enc _ => lifted os started H enc)
theorem proved : Rows.SpanTellsSaid := over
#print axioms proved
end Go.Proofs.Ytbmnhpihlkljdaa.spanTells
namespace Go.Proofs.Ytbmnhpihlkljdaa
/-- The row, under a short name, for the claim. -/
theorem spanTells_holds : Rows.SpanTellsSaid := spanTells.proved
end Go.Proofs.Ytbmnhpihlkljdaa
