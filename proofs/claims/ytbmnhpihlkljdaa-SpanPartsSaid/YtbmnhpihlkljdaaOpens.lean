import Derived.Test.YtbmnhpihlkljdaaOpen
import Derived.Test.YtbmnhpihlkljdaaP04x0
namespace Go.Proofs.Ytbmnhpihlkljdaa.Open
open Go.ChangeShapes Go.WideShapes Go.ChangeAt Go.RowKit Go.Deep
open Go.Proofs.YtbmnhpihlkljdaaW.PrintWords Go.Proofs.YtbmnhpihlkljdaaW.PrintLast Go.Proofs.YtbmnhpihlkljdaaW.PrintMore
/-- A span opens. -/
theorem opens26 {H : Type} {enc : TypeId × Value → H} : Opens enc Try.prog 26 P04.k26 (fun x => x.f0.size ≤ maxLen ∧ x.f1.size ≤ maxLen) := by
  intro w base spare held fuel cs x h
  obtain ⟨hl, n, hf⟩ := open_fields Try.underlying26 (by kernel_rfl) (by kernel_rfl) h
  obtain ⟨u0, y0, e0, t0⟩ := hf 0 _ rfl
  obtain ⟨u1, y1, e1, t1⟩ := hf 1 _ rfl
  have ec : cs = [u0, u1] := arr_of [u0, u1] cs hl (fun j hj => match j, hj with | 0, _ => e0 | 1, _ => e1)
  subst ec
  obtain ⟨a0, he0, hg0⟩ := opens_string Try.underlying9 w _ _ _ _ _ _ t0
  obtain rfl : u0 = .string a0 := by simpa [Kd.string, Kd.scalar] using he0
  obtain ⟨a1, he1, hg1⟩ := opens_string Try.underlying9 w _ _ _ _ _ _ t1
  obtain rfl : u1 = .string a1 := by simpa [Kd.string, Kd.scalar] using he1
  exact ⟨⟨a0, a1⟩, P04.k26_mk w ⟨a0, a1⟩, hg0, hg1⟩
end Go.Proofs.Ytbmnhpihlkljdaa.Open
