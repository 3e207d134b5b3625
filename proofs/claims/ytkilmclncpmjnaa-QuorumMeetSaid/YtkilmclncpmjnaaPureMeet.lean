import Derived.Test.YtkilmclncpmjnaaPureA
namespace Go.Proofs.Ytkilmclncpmjnaa.P06
open Go.RowKit Go.Proofs.YtkilmclncpmjnaaW.PrintWords Go.Proofs.YtkilmclncpmjnaaW.PrintLast Go.Proofs.YtkilmclncpmjnaaW.PrintMore
def bothB (l a b : List Int) : Bool := l.any fun x => a.contains x && b.contains x
theorem ev_both_1 (l b : List Int) (i : Int) (x : Int) (n : Nat) (hi : i = n) (hn : n < l.length) (hx : rd l i = x) (r : Bool) (suf : List Int) : ∀ (pre : List Int) (x8 : Bool), (pre ++ suf).length ≤ 100 →
    Ev (fun k => watershedlaw06_both.l2 k l (pre ++ suf) b i (x8 || suf.contains x) false 0) r →
    Ev (fun k => watershedlaw06_both.l1 k l (pre ++ suf) b i x8 false (pre.length : Int)) r := by
  induction suf with
  | nil =>
    intro pre x8 hl h
    refine Ev.step (f := fun k => watershedlaw06_both.l2 k l (pre ++ []) b i x8 false 0) (fun k => ?_) (by simpa using h)
    simp only [watershedlaw06_both.l1]
    rw [if_neg (by simp)]
  | cons y ys ih =>
    intro pre x8 hl h
    have hlen := len_mid pre y ys
    have hb : ((pre ++ y :: ys).length : Int) ≤ 100 := by omega
    refine Ev.step (f := fun k => watershedlaw06_both.l1 k l (pre ++ y :: ys) b i (x8 || (y == x)) false ((pre ++ [y]).length : Int)) (fun k => ?_) ?_
    · simp only [watershedlaw06_both.l1]
      have hw : wrap64 ((pre.length : Int) + 1) = ((pre ++ [y]).length : Int) := by rw [w64 (by omega) (by omega)]; simp
      rw [if_pos (by omega), hw]
      cases x8
      · rw [if_neg (by simp), if_pos (by omega), if_pos (by omega), if_pos (by omega), rd_mid, hx]
        simp
      · rw [if_pos rfl]
        simp
    · have h2 := ih (pre ++ [y]) (x8 || (y == x)) (by simpa using hl) (by
        have e : (x8 || (y :: ys).contains x) = ((x8 || (y == x)) || ys.contains x) := by
          rw [Bool.or_assoc, List.contains_cons, BEq.comm (a := x) (b := y)]
        rw [e] at h
        simpa using h)
      simpa using h2
theorem ev_both_2 (l a : List Int) (i : Int) (x : Int) (n : Nat) (hi : i = n) (hn : n < l.length) (hx : rd l i = x) (x8 : Bool) (r : Bool) (suf : List Int) : ∀ (pre : List Int) (x9 : Bool), (pre ++ suf).length ≤ 100 →
    Ev (fun k => if (x8 && (x9 || suf.contains x)) = true then some true else watershedlaw06_both.l0 k l a (pre ++ suf) (wrap64 (i + 1))) r →
    Ev (fun k => watershedlaw06_both.l2 k l a (pre ++ suf) i x8 x9 (pre.length : Int)) r := by
  induction suf with
  | nil =>
    intro pre x9 hl h
    refine Ev.step (f := fun k => if (x8 && x9) = true then some true else watershedlaw06_both.l0 k l a (pre ++ []) (wrap64 (i + 1))) (fun k => ?_) (by simpa using h)
    simp only [watershedlaw06_both.l2]
    rw [if_neg (by simp)]
    cases x8 <;> cases x9 <;> simp
  | cons y ys ih =>
    intro pre x9 hl h
    have hlen := len_mid pre y ys
    have hb : ((pre ++ y :: ys).length : Int) ≤ 100 := by omega
    refine Ev.step (f := fun k => watershedlaw06_both.l2 k l a (pre ++ y :: ys) i x8 (x9 || (y == x)) ((pre ++ [y]).length : Int)) (fun k => ?_) ?_
    · simp only [watershedlaw06_both.l2]
      have hw : wrap64 ((pre.length : Int) + 1) = ((pre ++ [y]).length : Int) := by rw [w64 (by omega) (by omega)]; simp
      rw [if_pos (by omega), hw]
      cases x9
      · rw [if_neg (by simp), if_pos (by omega), if_pos (by omega), if_pos (by omega), rd_mid, hx]
        simp
      · rw [if_pos rfl]
        simp
    · have h2 := ih (pre ++ [y]) (x9 || (y == x)) (by simpa using hl) (by
        have e : (x9 || (y :: ys).contains x) = ((x9 || (y == x)) || ys.contains x) := by
          rw [Bool.or_assoc, List.contains_cons, BEq.comm (a := x) (b := y)]
        rw [e] at h
        simpa using h)
      simpa using h2
theorem ev_both_l (a b : List Int) (ha : a.length ≤ 100) (hb : b.length ≤ 100) (suf : List Int) : ∀ (pre : List Int), (pre ++ suf).length ≤ 100 →
    Ev (fun k => watershedlaw06_both.l0 k (pre ++ suf) a b (pre.length : Int)) (bothB suf a b) := by
  induction suf with
  | nil =>
    intro pre hl
    refine Ev.step (f := fun _ => some false) (fun k => ?_) (Ev.now _)
    simp only [watershedlaw06_both.l0, List.append_nil]
    rw [if_neg (by omega)]
  | cons x xs ih =>
    intro pre hl
    have hlen := len_mid pre x xs
    have hb' : ((pre ++ x :: xs).length : Int) ≤ 100 := by omega
    refine Ev.step (f := fun k => watershedlaw06_both.l1 k (pre ++ x :: xs) a b (pre.length : Int) false false 0) (fun k => ?_) ?_
    · simp only [watershedlaw06_both.l0]
      rw [if_pos (by omega)]
    · have hw : wrap64 ((pre.length : Int) + 1) = ((pre ++ [x]).length : Int) := by rw [w64 (by omega) (by omega)]; simp
      have h2 := ih (pre ++ [x]) (by simpa using hl)
      refine ev_both_1 (pre ++ x :: xs) b (pre.length : Int) x pre.length rfl (by simp) (rd_mid _ _ _) _ a [] false (by simpa using ha) ?_
      refine ev_both_2 (pre ++ x :: xs) a (pre.length : Int) x pre.length rfl (by simp) (rd_mid _ _ _) _ _ b [] false (by simpa using hb) ?_
      simp only [hw, Bool.false_or, List.nil_append]
      have e : bothB (x :: xs) a b = ((a.contains x && b.contains x) || bothB xs a b) := rfl
      rw [e]
      cases a.contains x && b.contains x
      · simpa using h2
      · simpa using Ev.now true
theorem ev_both (l a b : List Int) (hl : l.length ≤ 100) (ha : a.length ≤ 100) (hb : b.length ≤ 100) : Ev (fun k => watershedlaw06_both.f k l a b) (bothB l a b) := by
  have h := ev_both_l a b ha hb l [] (by simpa using hl)
  simpa [watershedlaw06_both.f] using h
/-- Two sets by which more than half of a row is meant meet in it. -/
theorem meet (l a b : List Int) (ha : most l a = true) (hb : most l b = true) : bothB l a b = true := by
  have key : ∀ l : List Int, (l.filter a.contains).length + (l.filter b.contains).length ≤ l.length + (l.filter fun x => a.contains x && b.contains x).length := by
    intro l
    induction l with
    | nil => simp
    | cons x xs ih =>
      have c1 : a.contains x = true ∨ a.contains x = false := by cases a.contains x <;> simp
      have c2 : b.contains x = true ∨ b.contains x = false := by cases b.contains x <;> simp
      rcases c1 with c1 | c1 <;> rcases c2 with c2 | c2 <;> simp only [List.filter_cons, c1, c2, if_true, Bool.false_eq_true, if_false, Bool.and_self, Bool.and_true, Bool.and_false, List.length_cons] <;> omega
  unfold most at ha hb
  have ha' := of_decide_eq_true ha
  have hb' := of_decide_eq_true hb
  have hk := key l
  have hpos : (l.filter fun x => a.contains x && b.contains x) ≠ [] := by
    intro h
    rw [h] at hk
    simp at hk
    omega
  obtain ⟨x, hx⟩ := List.exists_mem_of_ne_nil _ hpos
  have hx2 := List.mem_filter.1 hx
  unfold bothB
  exact List.any_eq_true.2 ⟨x, hx2.1, hx2.2⟩
theorem great (v o l w s : List Int) : ∃ g, watershedlaw06_great.f v o l w s = some g ∧ (g = false → v.length ≤ 40 ∧ o.length ≤ 40 ∧ l.length ≤ 40 ∧ w.length ≤ 40 ∧ s.length ≤ 40) := by
  unfold watershedlaw06_great.f
  by_cases c1 : (v.length : Int) > 40
  · exact ⟨true, by rw [if_pos c1], by simp⟩
  by_cases c2 : (o.length : Int) > 40
  · exact ⟨true, by rw [if_neg c1, if_pos c2], by simp⟩
  by_cases c3 : (l.length : Int) > 40
  · exact ⟨true, by rw [if_neg c1, if_neg c2, if_pos c3], by simp⟩
  by_cases c4 : (w.length : Int) > 40
  · exact ⟨true, by rw [if_neg c1, if_neg c2, if_neg c3, if_pos c4], by simp⟩
  refine ⟨_, by rw [if_neg c1, if_neg c2, if_neg c3, if_neg c4], fun h => ?_⟩
  have h' := of_decide_eq_false h
  exact ⟨by omega, by omega, by omega, by omega, by omega⟩
theorem next_len (v o l w : List Int) (hv : v.length ≤ 40) (hw : w.length ≤ 40) : (next v o l w).1.length ≤ 40 ∧ (next v o l w).2.1.length ≤ 40 ∧ (next v o l w).2.2.1.length ≤ 40 ∧ (next v o l w).2.2.2.1.length ≤ 40 := by
  unfold next
  split
  · split
    · exact ⟨hw, hv, by simp, hw⟩
    · exact ⟨hv, by simp, by simp, by simp⟩
  · simp
theorem QuorumMeet (v o l w a b : List Int) : ∃ k, watershedlaw06_QuorumMeet.f k v o l w a b = some true := by
  refine Ev.rounds ?_
  unfold watershedlaw06_QuorumMeet.f
  simp only [watershedlaw06_awake.f, Option.bind_some, if_true]
  obtain ⟨g1, e1, h1⟩ := great v o l w a
  obtain ⟨g2, e2, h2⟩ := great v o l w b
  simp only [e1, e2, Option.bind_some]
  have stop : Ev (fun k => watershedlaw06_QuorumMeet.j0 k a b true v o l w) true := Ev.step (f := fun _ => some true) (fun k => by simp only [watershedlaw06_QuorumMeet.j0, if_true]) (Ev.now _)
  cases g1
  rotate_left
  · simpa using stop
  cases g2
  rotate_left
  · simpa using stop
  simp only [Bool.false_eq_true, if_false]
  obtain ⟨hv, ho, hl, hw, ha⟩ := h1 rfl
  obtain ⟨_, _, _, _, hb⟩ := h2 rfl
  refine Ev.bind (f := fun k t => watershedlaw06_QuorumMeet.j0 k a b (!t) v o l w) (ev_agrees v o l w a hv ho hl hw ha) ?_
  cases ca : agrees v o l w a
  · exact stop
  simp only [Bool.not_true]
  -- what the first set gives
  have ma : most v a = true := by unfold agrees at ca; simp only [Bool.and_eq_true] at ca; exact ca.2.1
  have moa : o ≠ [] → most o a = true := by
    intro hne
    unfold agrees at ca
    simp only [Bool.and_eq_true, Bool.or_eq_true, decide_eq_true_eq] at ca
    exact ca.2.2.resolve_left hne
  have tail : Ev (fun k => watershedlaw06_QuorumMeet.j1 k a b false v o l w) true := by
    refine Ev.step (f := fun k => (quorum_Next.f k v o l w).bind fun bt => if bt.2.2.2.2 = true then (quorum_Agrees.f k bt.1 bt.2.1 bt.2.2.1 bt.2.2.2.1 b).bind fun t => if t = true then (watershedlaw06_both.f k v a b).bind fun t2 => some t2 else some true else some true) (fun k => by simp only [watershedlaw06_QuorumMeet.j1, Bool.false_eq_true, if_false]) ?_
    refine Ev.bind (f := fun k bt => _) (ev_next v o l w hv ho hl hw) ?_
    obtain ⟨q1, q2, q3, q4⟩ := next_len v o l w hv hw
    cases cn : (next v o l w).2.2.2.2
    · simpa [cn] using Ev.now true
    simp only [if_true]
    refine Ev.bind (f := fun k t => _) (ev_agrees _ _ _ _ b q1 q2 q3 q4 hb) ?_
    cases cg : agrees (next v o l w).1 (next v o l w).2.1 (next v o l w).2.2.1 (next v o l w).2.2.2.1 b
    · simpa [cg] using Ev.now true
    simp only [if_true]
    have mb : most v b = true := by
      unfold agrees at cg
      simp only [Bool.and_eq_true, Bool.or_eq_true, decide_eq_true_eq] at cg
      unfold next at cg cn
      by_cases c : right v o l w = true ∧ w ≠ []
      · rw [if_pos c] at cg
        by_cases c2 : o = []
        · rw [if_pos c2] at cg
          rcases cg.2.2 with h | h
          · have h' : v = [] := h
            rw [h'] at ma
            exact absurd ma (by simp [most])
          · exact h
        · rw [if_neg c2] at cg
          exact cg.2.1
      · rw [if_neg c] at cn
        exact absurd cn (by decide)
    refine Ev.bind (f := fun k t => some t) (ev_both v a b (by omega) (by omega) (by omega)) ?_
    rw [meet v a b ma mb]
    exact Ev.now _
  refine Ev.step (f := fun k => (quorum_Agrees.f k v o l w b).bind fun t => if t = true then (watershedlaw06_both.f k v a b).bind fun t2 => if t2 = true then (if (o.length : Int) > 0 then (watershedlaw06_both.f k o a b).bind fun t3 => watershedlaw06_QuorumMeet.j1 k a b (!t3) v o l w else watershedlaw06_QuorumMeet.j1 k a b false v o l w) else watershedlaw06_QuorumMeet.j1 k a b true v o l w else watershedlaw06_QuorumMeet.j1 k a b false v o l w) (fun k => by simp only [watershedlaw06_QuorumMeet.j0, Bool.false_eq_true, if_false]) ?_
  refine Ev.bind (f := fun k t => _) (ev_agrees v o l w b hv ho hl hw hb) ?_
  cases cb : agrees v o l w b
  · simpa using tail
  simp only [if_true]
  have mb : most v b = true := by unfold agrees at cb; simp only [Bool.and_eq_true] at cb; exact cb.2.1
  refine Ev.bind (f := fun k t => _) (ev_both v a b (by omega) (by omega) (by omega)) ?_
  rw [meet v a b ma mb]
  simp only [if_true]
  by_cases c2 : o = []
  · have hz : ¬ ((o.length : Int) > 0) := by rw [c2]; simp
    simp only [if_neg hz]
    exact tail
  · have hz : ((o.length : Int) > 0) := by
      have : o.length ≠ 0 := fun h => c2 (List.eq_nil_of_length_eq_zero h)
      omega
    simp only [if_pos hz]
    have mob : most o b = true := by
      unfold agrees at cb
      simp only [Bool.and_eq_true, Bool.or_eq_true, decide_eq_true_eq] at cb
      exact cb.2.2.resolve_left c2
    refine Ev.bind (f := fun k t => watershedlaw06_QuorumMeet.j1 k a b (!t) v o l w) (ev_both o a b (by omega) (by omega) (by omega)) ?_
    rw [meet o a b (moa c2) mob]
    exact tail
end Go.Proofs.Ytkilmclncpmjnaa.P06
