import Derived.Test.YtbmnhpihlkljdaaPureW
import Derived.Test.YtbmnhpihlkljdaaP04wx5
namespace Go.Proofs.Ytbmnhpihlkljdaa.P04w
open Go.RowKit Go.Proofs.YtbmnhpihlkljdaaW.PrintWords Go.Proofs.YtbmnhpihlkljdaaW.PrintLast Go.Proofs.YtbmnhpihlkljdaaW.PrintMore
theorem ev_j0 (a b c d : ByteArray) : Ev (fun k => watershedlaw04_SpanWithin.j0 k false a b c d) true := by
  obtain ⟨K1, e1⟩ := ev_meet a b c d
  obtain ⟨K2, e2⟩ := ev_within a b a b
  obtain ⟨K3, e3⟩ := ev_right a b
  obtain ⟨K4, e4⟩ := ev_within (meet a b c d).1 (meet a b c d).2.1 a b
  obtain ⟨K5, e5⟩ := ev_within (meet a b c d).1 (meet a b c d).2.1 c d
  obtain ⟨K6, e6⟩ := ev_within a b ⟨#[]⟩ ⟨#[]⟩
  dsimp only at e1 e2 e3 e4 e5 e6
  refine ⟨max K1 (max K2 (max K3 (max K4 (max K5 K6)))) + 1, fun k hk => ?_⟩
  obtain ⟨k, rfl⟩ : ∃ j, k = j + 1 := ⟨k - 1, by omega⟩
  have hm := @meet_within a b c d
  have ha := @within_all a b
  simp only [watershedlaw04_SpanWithin.j0, Bool.false_eq_true, if_false, e1 k (by omega), Option.bind_some, e2 k (by omega), e3 k (by omega), within_self, beq_self_eq_true, if_true]
  cases h : (meet a b c d).2.2
  · simp only [Bool.false_eq_true, if_false]
    cases h2 : right a b
    · simp
    · have := ha h2
      rw [this] at e6
      simp only [if_true, span_All.f, Option.bind_some]
      rw [e6 k (by omega)]
      rfl
  · obtain ⟨m1, m2⟩ := hm h
    rw [m1] at e4
    rw [m2] at e5
    simp only [if_true, e4 k (by omega), e5 k (by omega), Option.bind_some]
    cases h2 : right a b
    · simp
    · have := ha h2
      rw [this] at e6
      simp only [if_true, span_All.f, Option.bind_some]
      rw [e6 k (by omega)]
      rfl
theorem spanWithin_true (a b c d e f x : ByteArray) : Ev (fun k => watershedlaw04_SpanWithin.f k a b c d e f x) true := by
  obtain ⟨K0, e0⟩ := ev_awake
  obtain ⟨b1, K1, e1⟩ := ev_few [a, b, c, d, e, f, x]
  obtain ⟨K2, e2⟩ := ev_within a b c d
  obtain ⟨K3, e3⟩ := ev_has a b x
  obtain ⟨K4, e4⟩ := ev_has c d x
  obtain ⟨K5, e5⟩ := ev_within c d e f
  obtain ⟨K6, e6⟩ := ev_within a b e f
  obtain ⟨K7, e7⟩ := ev_within c d a b
  obtain ⟨K8, e8⟩ := ev_j0 a b c d
  dsimp only at e0 e1 e2 e3 e4 e5 e6 e7 e8
  refine ⟨max K0 (max K1 (max K2 (max K3 (max K4 (max K5 (max K6 (max K7 K8))))))), fun k hk => ?_⟩
  have h2 := @within_has a b c d x
  have h3 := @within_trans a b c d e f
  have h4 := @within_anti a b c d
  simp only [watershedlaw04_SpanWithin.f, e0 k (by omega), e1 k (by omega), e2 k (by omega), e3 k (by omega), e4 k (by omega), e5 k (by omega), e6 k (by omega), e7 k (by omega), Option.bind_some, if_true]
  have e8' := e8 k (by omega)
  cases b1
  · simp
  cases w1 : within a b c d
  · simpa using e8'
  have hx : within c d a b = true → (!(a.toList == c.toList) || (!(b.toList == d.toList))) = false := fun w => by
    obtain ⟨r1, r2⟩ := h4 w1 w
    simp [r1, r2]
  have hy : within c d e f = true → within a b e f = true := fun w => h3 w1 w
  have hz : has a b x = true → has c d x = true := fun w => h2 w1 w
  cases w2 : has a b x
  · cases w3 : within c d e f
    · cases w4 : within c d a b
      · simpa using e8'
      · simpa [hx w4] using e8'
    · rw [hy w3]
      cases w4 : within c d a b
      · simpa using e8'
      · simpa [hx w4] using e8'
  · rw [hz w2]
    cases w3 : within c d e f
    · cases w4 : within c d a b
      · simpa using e8'
      · simpa [hx w4] using e8'
    · rw [hy w3]
      cases w4 : within c d a b
      · simpa using e8'
      · simpa [hx w4] using e8'
#print axioms spanWithin_true
end Go.Proofs.Ytbmnhpihlkljdaa.P04w
