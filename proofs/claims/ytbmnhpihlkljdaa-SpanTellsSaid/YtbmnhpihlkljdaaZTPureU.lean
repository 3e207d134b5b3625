import Derived.Test.YtbmnhpihlkljdaaZTPureT
import Derived.Test.YtbmnhpihlkljdaaZTP04tx10
namespace Go.Proofs.Ytbmnhpihlkljdaa.P04t
open Go.RowKit Go.Proofs.YtbmnhpihlkljdaaW.PrintWords Go.Proofs.YtbmnhpihlkljdaaW.PrintLast Go.Proofs.YtbmnhpihlkljdaaW.PrintMore
theorem ev_t_end (l : List ByteArray) (a b : ByteArray) (hl : l.length ≤ 60) : Ev (fun k => (watershedkit_LentTexts.f l).bind fun t282 => ((span_Cut.f k a b t282).bind fun t285 => ((watershedref04_Cut.f k a b l).bind fun t288 => ((watershedlaw04_same.f k t285 t288).bind fun t291 => (if t291 = true then ((watershedkit_KeptTexts.f t282 l).bind fun t292 => (some t292)) else (none)))))) true := by
  obtain ⟨K1, e1⟩ := ev_cut a b l (by omega)
  obtain ⟨K2, e2⟩ := ev_rcut a b l (by omega)
  have hc : (cut a b l).length < 4398046511104 := by
    unfold cut
    split
    · have := cut_len b (cutTexts l) a
      have := cutTexts_le l
      omega
    · simp
  obtain ⟨K3, e3⟩ := ev_same (cut a b l) hc
  dsimp only at e1 e2 e3
  refine ⟨max K1 (max K2 K3), fun k hk => ?_⟩
  simp only [watershedkit_LentTexts.f, watershedkit_KeptTexts.f, Option.bind_some, e1 k (by omega), e2 k (by omega), e3 k (by omega), if_true]
theorem ev_t_l (l : List ByteArray) (a b : ByteArray) (hl : l.length ≤ 60) : ∀ (m i : Nat), l.length = i + m → Ev (fun k => watershedlaw04_SpanTells.l0 k l (i : Int) a b) true := by
  intro m
  induction m with
  | zero =>
    intro i h
    refine Ev.step (fun k => ?_) (ev_t_end l a b hl)
    simp only [watershedlaw04_SpanTells.l0]
    rw [if_neg (by omega)]
  | succ m ih =>
    intro i h
    have hw1 : wrap64 ((i : Int) + 1) = ((i + 1 : Nat) : Int) := by rw [w64 (by omega) (by omega)]; omega
    obtain ⟨x, hx⟩ : ∃ x, x = rdOf ByteArray.empty l (i : Int) := ⟨_, rfl⟩
    obtain ⟨K1, e1⟩ := ev_key x
    obtain ⟨K2, e2⟩ := ev_rkey x
    obtain ⟨K3, e3⟩ := ev_has a b x
    obtain ⟨K4, e4⟩ := ev_rhas a b x
    obtain ⟨K5, e5⟩ := ih (i + 1) (by omega)
    dsimp only at e1 e2 e3 e4 e5
    refine ⟨max K1 (max K2 (max K3 (max K4 K5))) + 1, fun k hk => ?_⟩
    obtain ⟨k, rfl⟩ : ∃ j, k = j + 1 := ⟨k - 1, by omega⟩
    simp only [watershedlaw04_SpanTells.l0]
    rw [if_pos (by omega), if_pos (by omega), ← hx, hw1]
    simp only [e1 k (by omega), e2 k (by omega), e3 k (by omega), e4 k (by omega), Option.bind_some, bne_self_eq_false, Bool.false_eq_true, if_false]
    exact e5 k (by omega)
theorem spanTells_true (a b c d : ByteArray) (l : List ByteArray) (hl : l.length < 8796093022204) : Ev (fun k => watershedlaw04_SpanTells.f k a b c d l) true := by
  obtain ⟨K0, e0⟩ := ev_awake
  obtain ⟨b1, h1⟩ := ev_few ([a, b, c, d] ++ l)
  have hlen : ([a, b, c, d] : List ByteArray).length + l.length < 8796093022208 := by simp; omega
  cases hb1 : b1
  · obtain ⟨K1, e1⟩ := h1
    dsimp only at e0 e1
    refine ⟨max K0 K1, fun k hk => ?_⟩
    simp only [watershedlaw04_SpanTells.f, e0 k (by omega), Option.bind_some, if_true, if_pos hlen, e1 k (by omega), hb1, Bool.false_eq_true, if_false]
  · obtain ⟨k1, g1⟩ := h1.rounds
    rw [hb1] at g1
    have n1 := (few_len _ k1).1 0 g1
    have n1' : l.length ≤ 60 := by simp at n1; omega
    obtain ⟨K1, e1⟩ := h1
    obtain ⟨K2, e2⟩ := ev_meet a b c d
    obtain ⟨K3, e3⟩ := ev_rmeet a b c d
    obtain ⟨K4, e4⟩ := ev_within a b c d
    obtain ⟨K5, e5⟩ := ev_rwithin a b c d
    obtain ⟨K6, e6⟩ := ev_right a b
    obtain ⟨K7, e7⟩ := ev_rright a b
    obtain ⟨K8, e8⟩ := ev_t_l l a b n1' l.length 0 (by omega)
    dsimp only at e0 e1 e2 e3 e4 e5 e6 e7 e8
    refine ⟨max K0 (max K1 (max K2 (max K3 (max K4 (max K5 (max K6 (max K7 K8))))))) + 1, fun k hk => ?_⟩
    obtain ⟨k, rfl⟩ : ∃ j, k = j + 1 := ⟨k - 1, by omega⟩
    have e8' := e8 k (by omega)
    simp only [watershedlaw04_SpanTells.f, e0 (k + 1) (by omega), Option.bind_some, if_true, if_pos hlen, e1 (k + 1) (by omega), hb1, e2 (k + 1) (by omega), e3 (k + 1) (by omega), e4 (k + 1) (by omega), e5 (k + 1) (by omega), e6 (k + 1) (by omega), e7 (k + 1) (by omega), beq_self_eq_true, Bool.not_true, Bool.or_self, Bool.false_eq_true, if_false, bne_self_eq_false, watershedlaw04_SpanTells.j0]
    simpa using e8'
#print axioms spanTells_true
end Go.Proofs.Ytbmnhpihlkljdaa.P04t
