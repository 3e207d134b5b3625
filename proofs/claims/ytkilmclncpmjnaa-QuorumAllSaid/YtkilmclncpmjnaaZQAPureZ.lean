import Derived.Test.YtkilmclncpmjnaaZQAPureN
import Derived.Test.YtkilmclncpmjnaaZQALa
set_option linter.unusedSimpArgs false
set_option linter.unusedVariables false
namespace Go.Proofs.Ytkilmclncpmjnaa.P06t
open Go.RowKit Go.Proofs.YtkilmclncpmjnaaW.PrintWords Go.Proofs.YtkilmclncpmjnaaW.PrintLast Go.Proofs.YtkilmclncpmjnaaW.PrintMore Go.Proofs.Ytkilmclncpmjnaa.St
set_option maxHeartbeats 8000000 in
set_option maxRecDepth 100000 in
theorem tells_great (s0 s1 s2 s3 ss : Value) (l0 l1 l2 l3 ls : List Int) (node : Int) (w : World)
    (hr : R4 w s0 s1 s2 s3 l0 l1 l2 l3) (hrs : Row w ss ls) (hgr : watershedlaw06_great.f l0 l1 l2 l3 ls = some true) :
    Calls Try.prog 5 #[.agg #[s0, s1, s2, s3], ss, .int .i64 node] w fun e w' => e = .returned (.bool true) ∧ Below w.heap.size w w' := by
  have hu24 := Try.underlying24
  have HS : Aside0 (Stay (T1 w s0 s1 s2 s3 ss l0 l1 l2 l3 ls) (w.alloc (.cells #[s0, s1, s2, s3] 24))) := ⟨⟨fun V hV => by
    have h1 : Below w.heap.size w (w.alloc (.cells #[s0, s1, s2, s3] 24)) := below_alloc (Below.refl _ _) _
    exact ⟨below_tr h1 hV, (stay_blk (blk_new w _)).out V hV, hr.below (below_tr h1 hV), hrs.below (below_tr h1 hV)⟩⟩⟩
  replace hgr := Aside0.mk hgr
  clear hr hrs
  go_enter Try.func5, Try.ntmps5
  go_wp2_with (first
    | (go_at_call 7; (with_reducible refine (watershedlaw06_awake.calls true _ rfl).mono ?_); rintro e wa ⟨rfl, hb⟩; replace HS := Aside0.mk (HS.out.step hb); clear hb; obtain ⟨ca0, ca1, ca2, ca3⟩ := Blk.c4 HS.out.now.k3)
    | (go_at_call 8; (with_reducible refine (q8 HS.out.now.r HS.out.now.rs hgr.out).mono ?_); rintro e wb ⟨rfl, hb⟩; replace HS := Aside0.mk (HS.out.step hb); clear hb; obtain ⟨cb0, cb1, cb2, cb3⟩ := Blk.c4 HS.out.now.k3))
  go_ret
  exact ⟨rfl, HS.out.now.b⟩
theorem begin_len (v o l w s : List Int) (hv : v.length ≤ 40) (hs : s.length ≤ 40) : ∃ b0 b1 b2 b3 e, begin_ v o l w s = (b0, b1, b2, b3, e) ∧ b0.length ≤ 40 ∧ b1.length ≤ 40 ∧ b2.length ≤ 40 ∧ b3.length ≤ 40 := by
  unfold begin_
  have := less_len s v
  split
  · split
    · exact ⟨_, _, _, _, _, rfl, by simp, by simp, by simp, by simp⟩
    · split
      · exact ⟨_, _, _, _, _, rfl, by simp, by simp, by simp, by simp⟩
      · exact ⟨_, _, _, _, _, rfl, hv, by simp, by omega, hs⟩
  · exact ⟨_, _, _, _, _, rfl, by simp, by simp, by simp, by simp⟩
theorem next_len (v o l w : List Int) (hv : v.length ≤ 40) (hw : w.length ≤ 40) : ∃ b0 b1 b2 b3 e, next v o l w = (b0, b1, b2, b3, e) ∧ b0.length ≤ 40 ∧ b1.length ≤ 40 ∧ b2.length ≤ 40 ∧ b3.length ≤ 40 := by
  unfold next
  split
  · split
    · exact ⟨_, _, _, _, _, rfl, hw, hv, by simp, hw⟩
    · exact ⟨_, _, _, _, _, rfl, hv, by simp, by simp, by simp⟩
  · exact ⟨_, _, _, _, _, rfl, by simp, by simp, by simp, by simp⟩
theorem max_le {n : Nat} {K : List Nat} (h : ∀ x ∈ K, x ≤ n) (i : Nat) (hi : i < K.length) : K[i] ≤ n := h _ (List.getElem_mem hi)
theorem tells_true (s0 s1 s2 s3 ss : Value) (l0 l1 l2 l3 ls : List Int) (node : Int) (w : World) (hr : R4 w s0 s1 s2 s3 l0 l1 l2 l3) (hrs : Row w ss ls) :
    Calls Try.prog 5 #[.agg #[s0, s1, s2, s3], ss, .int .i64 node] w fun e w' => e = .returned (.bool true) ∧ Below w.heap.size w w' := by
  obtain ⟨g, hg, hh⟩ := great l0 l1 l2 l3 ls
  cases g
  · obtain ⟨m0, m1, m2, m3, ms⟩ := hh rfl
    obtain ⟨b0, b1, b2, b3, e5, hb, n00, n01, n02, n03⟩ := begin_len l0 l1 l2 l3 ls m0 ms
    obtain ⟨x0, x1, x2, x3, y5, hx, n10, n11, n12, n13⟩ := next_len l0 l1 l2 l3 m0 m3
    obtain ⟨hnd, hnl⟩ := ev_nodes l0 l1 l2 l3 m0 m1 m2
    obtain ⟨K0, e0⟩ := ev_begin l0 l1 l2 l3 ls m0 m1 m2 m3 ms
    obtain ⟨K1, e1⟩ := ev_rbegin l0 l1 l2 l3 ls m0 m1 m2 m3 ms
    obtain ⟨K2, e2⟩ := ev_next l0 l1 l2 l3 m0 m1 m2 m3
    obtain ⟨K3, e3⟩ := ev_rnext l0 l1 l2 l3 m0 m1 m2 m3
    obtain ⟨K4, e4⟩ := ev_sameL b0 b1 b2 b3 (by omega) (by omega) (by omega) (by omega)
    obtain ⟨K5, e5⟩ := ev_sameL x0 x1 x2 x3 (by omega) (by omega) (by omega) (by omega)
    obtain ⟨K6, e6⟩ := ev_rightq l0 l1 l2 l3 m0 m1 m2 m3
    obtain ⟨K7, e7⟩ := ev_rright l0 l1 l2 l3 m0 m1 m2 m3
    obtain ⟨K8, e8⟩ := ev_agrees l0 l1 l2 l3 ls m0 m1 m2 m3 ms
    obtain ⟨K9, e9⟩ := ev_ragrees l0 l1 l2 l3 ls m0 m1 m2 m3 ms
    obtain ⟨K10, e10⟩ := ev_votes l0 l1 l2 l3 node m0 m1
    obtain ⟨K11, e11⟩ := ev_rvotes l0 l1 l2 l3 node m0 m1
    obtain ⟨K12, e12⟩ := ev_has l0 l1 l2 l3 node m0 m1 m2
    obtain ⟨K13, e13⟩ := ev_rhas l0 l1 l2 l3 node m0 m1 m2
    obtain ⟨K14, e14⟩ := hnd
    obtain ⟨K15, e15⟩ := ev_sameX _ hnl
    obtain ⟨K16, e16⟩ := ev_sameC l0 l1 l2 l3 (by omega) (by omega) (by omega) (by omega)
    obtain ⟨k, hk⟩ : ∃ k, k = K0 + K1 + K2 + K3 + K4 + K5 + K6 + K7 + K8 + K9 + K10 + K11 + K12 + K13 + K14 + K15 + K16 := ⟨_, rfl⟩
    exact tells_walk s0 s1 s2 s3 ss l0 l1 l2 l3 ls node b0 b1 b2 b3 x0 x1 x2 x3 _ _ _ _ _ _ w hr hrs m0 m1 m2 m3 ms (by omega) (by omega) hg
      ((e0 k (by omega)).trans (by rw [hb])) ((e1 k (by omega)).trans (by rw [hb])) ((e2 k (by omega)).trans (by rw [hx])) ((e3 k (by omega)).trans (by rw [hx]))
      (e4 k (by omega)) (e5 k (by omega)) (e6 k (by omega)) (e7 k (by omega)) (e8 k (by omega)) (e9 k (by omega)) (e10 k (by omega)) (e11 k (by omega)) (e12 k (by omega)) (e13 k (by omega)) (e14 k (by omega)) (e15 k (by omega)) (e16 k (by omega))
  · exact tells_great s0 s1 s2 s3 ss l0 l1 l2 l3 ls node w hr hrs hg
end Go.Proofs.Ytkilmclncpmjnaa.P06t
