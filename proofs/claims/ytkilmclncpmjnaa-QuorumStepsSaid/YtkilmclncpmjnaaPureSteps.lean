import Derived.Test.YtkilmclncpmjnaaPureAb
import Derived.Test.YtkilmclncpmjnaaP06bx6
namespace Go.Proofs.Ytkilmclncpmjnaa.P06b
open Go.RowKit Go.Proofs.YtkilmclncpmjnaaW.PrintWords Go.Proofs.YtkilmclncpmjnaaW.PrintLast Go.Proofs.YtkilmclncpmjnaaW.PrintMore
def begin_ (v o l w s : List Int) : List Int × List Int × List Int × List Int × Int :=
  if right v o l w = true ∧ v ≠ [] ∧ ok s = true ∧ s ≠ [] then (if w ≠ [] then ([], [], [], [], 25) else if s = v then ([], [], [], [], 7) else (v, [], less s v, s, 0)) else ([], [], [], [], 2)
theorem pos_len {l : List Int} (h : l ≠ []) : 0 < l.length := by
  cases l with
  | nil => exact absurd rfl h
  | cons x xs => simp
theorem ev_j0_true (k' : List Int) (v o l w : List Int) : Ev (fun k => quorum_Begin.j0 k k' true v o l w) ([], [], [], [], 2) :=
  Ev.step (f := fun _ => some ([], [], [], [], 2)) (fun k => by simp only [quorum_Begin.j0, if_true]) (Ev.now _)
theorem ev_begin (v o l w s : List Int) (hv : v.length ≤ 40) (ho : o.length ≤ 40) (hl : l.length ≤ 40) (hw : w.length ≤ 40) (hs : s.length ≤ 40) : Ev (fun k => quorum_Begin.f k v o l w s) (begin_ v o l w s) := by
  unfold quorum_Begin.f
  refine Ev.bind (f := fun k t => _) (ev_right v o l w hv ho hl hw) ?_
  unfold begin_
  cases c : right v o l w
  · simpa using ev_j0_true s v o l w
  simp only [if_true, true_and]
  by_cases c1 : v = []
  · have hz : (v.length : Int) = 0 := by rw [c1]; rfl
    have hz' : ((v.length : Int) == 0) = true := by rw [hz]; rfl
    simp only [if_pos hz, hz']
    rw [if_neg (fun h => h.1 c1)]
    exact ev_j0_true s v o l w
  have hz : ¬ (v.length : Int) = 0 := by have := pos_len c1; omega
  simp only [if_neg hz]
  refine Ev.bind (f := fun k t => _) (ev_rise [s] (by simp; omega)) ?_
  have e : [s].all ok = ok s := by simp
  rw [e]
  cases c2 : ok s
  · simpa using ev_j0_true s v o l w
  simp only [if_true, true_and]
  by_cases c3 : s = []
  · have hz' : ((s.length : Int) == 0) = true := by rw [c3]; rfl
    rw [if_neg (fun h => h.2 c3)]
    simp only [hz']
    exact ev_j0_true s v o l w
  have hz' : ((s.length : Int) == 0) = false := by have := pos_len c3; simp; omega
  rw [if_pos ⟨c1, c3⟩]
  simp only [hz']
  refine Ev.step (f := fun k => if (decide ((w.length : Int) > 0)) = true then some ([], [], [], [], 25) else (slices_Equal_int_int.f k s v).bind fun t => if t = true then some ([], [], [], [], 7) else (quorum_without.f k s v).bind fun t2 => some (v, [], t2, s, 0)) (fun k => ?_) ?_
  · simp only [quorum_Begin.j0, Bool.false_eq_true, if_false, quorum_group_changes.f, Option.bind_some, clone v (by omega), clone s (by omega)]
  by_cases c4 : w = []
  · have hz4 : ¬ (decide ((w.length : Int) > 0) = true) := by rw [c4]; simp
    simp only [if_neg hz4]
    rw [if_neg (fun h => h c4)]
    refine Ev.bind (f := fun k t => _) (ev_eq s v (by omega)) ?_
    by_cases c5 : s = v
    · simpa [c5] using Ev.now (α := List Int × List Int × List Int × List Int × Int) ([], [], [], [], 7)
    · rw [if_neg c5]
      simp only [c5, decide_false, Bool.false_eq_true, if_false]
      exact Ev.bind (f := fun _ t => some (v, [], t, s, (0 : Int))) (ev_without s v (by omega) (by omega)) (Ev.now _)
  · have hz4 : decide ((w.length : Int) > 0) = true := by have := pos_len c4; simp; omega
    simp only [if_pos hz4]
    rw [if_pos c4]
    exact Ev.now _
theorem bad_filter (p : Int → Bool) (l : List Int) : ∀ q q' : Int, q' ≤ q → bad q l = false → bad q' (l.filter p) = false := by
  induction l with
  | nil => intro q q' _ _; rfl
  | cons x xs ih =>
    intro q q' hq h
    unfold bad at h
    simp only [Bool.or_eq_false_iff, decide_eq_false_iff_not] at h
    obtain ⟨⟨⟨h1, h2⟩, h3⟩, h4⟩ := h
    cases c : p x
    · rw [List.filter_cons_of_neg (by simp [c])]
      exact ih x q' (by omega) h4
    · rw [List.filter_cons_of_pos c]
      unfold bad
      simp only [Bool.or_eq_false_iff, decide_eq_false_iff_not]
      exact ⟨⟨⟨h1, h2⟩, by omega⟩, ih x x (by omega) h4⟩
theorem ok_less (s v : List Int) (h : ok s = true) : ok (less s v) = true := by
  unfold ok at h ⊢
  have : bad 0 s = false := by simpa using h
  have := bad_filter (fun x => !v.contains x) s 0 0 (by omega) this
  unfold less
  rw [this]
  rfl
theorem most_self (l : List Int) (h : l ≠ []) : most l l = true := by
  unfold most
  have e : l.filter l.contains = l := List.filter_eq_self.2 (fun x hx => by simpa using hx)
  rw [e]
  have := pos_len h
  simp
  omega
theorem most_nil (l : List Int) : most l [] = false := by
  unfold most
  have e : l.filter ([] : List Int).contains = [] := List.filter_eq_nil_iff.2 (fun x _ => by simp)
  rw [e]
  simp
theorem ev_votes (v o l w : List Int) (x : Int) (hv : v.length ≤ 40) (ho : o.length ≤ 40) : Ev (fun k => quorum_Votes.f k v o l w x) (v.contains x || o.contains x) := by
  unfold quorum_Votes.f
  refine Ev.bind (f := fun k t => _) (ev_contains v x (by omega)) ?_
  cases v.contains x
  · simp only [Bool.false_eq_true, if_false, Bool.false_or]
    exact Ev.bind (f := fun _ t => some t) (ev_contains o x (by omega)) (Ev.now _)
  · simpa using Ev.now true
theorem ev_has (v o l w : List Int) (x : Int) (hv : v.length ≤ 40) (ho : o.length ≤ 40) (hl : l.length ≤ 40) : Ev (fun k => quorum_Has.f k v o l w x) (v.contains x || o.contains x || l.contains x) := by
  unfold quorum_Has.f
  refine Ev.bind (f := fun k t => _) (ev_votes v o l w x hv ho) ?_
  cases v.contains x || o.contains x
  · simp only [Bool.false_eq_true, if_false, Bool.false_or]
    exact Ev.bind (f := fun _ t => some t) (ev_contains l x (by omega)) (Ev.now _)
  · simpa using Ev.now true
theorem ev_rightq (v o l w : List Int) (hv : v.length ≤ 40) (ho : o.length ≤ 40) (hl : l.length ≤ 40) (hw : w.length ≤ 40) : Ev (fun k => quorum_Right.f k v o l w) (right v o l w) := by
  unfold quorum_Right.f
  exact Ev.bind (f := fun _ t => some t) (ev_right v o l w hv ho hl hw) (Ev.now _)
theorem great (v o l w s : List Int) : ∃ g, watershedlaw06_great.f v o l w s = some g ∧ (g = false → v.length ≤ 40 ∧ o.length ≤ 40 ∧ l.length ≤ 40 ∧ w.length ≤ 40 ∧ s.length ≤ 40) := by
  unfold watershedlaw06_great.f
  by_cases c1 : (v.length : Int) > 40
  · exact ⟨true, by rw [if_pos c1], by simp⟩
  by_cases c2 : (o.length : Int) > 40
  · exact ⟨true, by rw [if_neg c1, if_pos c2], by simp⟩
  by_cases c3 : (l.length : Int) > 40
  · exact ⟨true, by rw [if_neg c1, if_neg c2, if_pos c3], by simp⟩
  by_cases c4 : (w.length : Int) > 40
  · exact ⟨true, by rw [if_neg c1, if_neg c2, if_neg c3, if_pos c4], by simp⟩
  refine ⟨_, by rw [if_neg c1, if_neg c2, if_neg c3, if_neg c4], fun h => ?_⟩
  have h' := of_decide_eq_false h
  exact ⟨by omega, by omega, by omega, by omega, by omega⟩
theorem ev_loop (v o l w s : List Int) (hv : v.length ≤ 40) (hs : s.length ≤ 40) (hne : s ≠ []) (ho : o = []) (hok : ok s = true) (hr : right v o l w = true) (hvne : v ≠ []) (hol : o.length ≤ 40) (hll : l.length ≤ 40) (hwl : w.length ≤ 40) (suf : List Int) : ∀ pre : List Int, pre ++ suf = s →
    Ev (fun k => watershedlaw06_QuorumSteps.l0 k s (pre.length : Int) v o l w v [] (less s v) s s v [] s s [] [] []) true := by
  have hlen := less_len s v
  induction suf with
  | nil =>
    intro pre hp
    have hp' : pre = s := by simpa using hp
    subst hp'
    have rf : right pre [] [] [] = true := by unfold right; rw [hok, if_neg hne, if_pos rfl, if_pos rfl]; rfl
    refine Ev.step (f := fun k => (quorum_Agrees.f k pre [] [] [] pre).bind fun t => if t = true then (quorum_Agrees.f k v o l w v).bind fun t2 => if t2 = true then (quorum_Agrees.f k pre [] [] [] []).bind fun t3 => some (!t3) else none else none) (fun k => ?_) ?_
    · simp only [watershedlaw06_QuorumSteps.l0]
      rw [if_neg (by omega)]
    refine Ev.bind (f := fun k t => _) (ev_agrees pre [] [] [] pre hs (by simp) (by simp) (by simp) hs) ?_
    have e1 : agrees pre [] [] [] pre = true := by unfold agrees; rw [rf, most_self pre hne]; rfl
    rw [e1]
    simp only [if_true]
    refine Ev.bind (f := fun k t => _) (ev_agrees v o l w v hv hol hll hwl hv) ?_
    have e2 : agrees v o l w v = true := by unfold agrees; rw [hr, most_self v hvne, ho]; rfl
    rw [e2]
    simp only [if_true]
    refine Ev.bind (f := fun _ t => some (!t)) (ev_agrees pre [] [] [] [] hs (by simp) (by simp) (by simp) (by simp)) ?_
    have e3 : agrees pre [] [] [] [] = false := by unfold agrees; rw [most_nil]; simp
    rw [e3]
    exact Ev.now _
  | cons x xs ih =>
    intro pre hp
    have hl2 := len_mid pre x xs
    rw [hp] at hl2
    have hx : rd s (pre.length : Int) = x := by rw [← hp]; exact rd_mid pre x xs
    have hmem : x ∈ s := by rw [← hp]; simp
    have hw : wrap64 ((pre.length : Int) + 1) = ((pre ++ [x]).length : Int) := by rw [w64 (by omega) (by omega)]; simp
    refine Ev.step (f := fun k => (quorum_Has.f k v [] (less s v) s x).bind fun t => if t = true then (quorum_Votes.f k s v [] s x).bind fun t2 => if t2 = true then watershedlaw06_QuorumSteps.l0 k s ((pre ++ [x]).length : Int) v o l w v [] (less s v) s s v [] s s [] [] [] else none else none) (fun k => ?_) ?_
    · simp only [watershedlaw06_QuorumSteps.l0]
      rw [if_pos (by omega), if_pos (by omega), hx, hw]
    refine Ev.bind (f := fun k t => _) (ev_has v [] (less s v) s x hv (by simp) (by omega)) ?_
    have e1 : (v.contains x || ([] : List Int).contains x || (less s v).contains x) = true := by
      cases c : v.contains x
      · have hmem2 : x ∈ less s v := List.mem_filter.2 ⟨hmem, by simp only [c]; rfl⟩
        have : (less s v).contains x = true := by simpa using hmem2
        rw [this]
        simp
      · rfl
    rw [e1]
    simp only [if_true]
    refine Ev.bind (f := fun k t => _) (ev_votes s v [] s x hs hv) ?_
    have e2 : (s.contains x || v.contains x) = true := by
      have : s.contains x = true := by simpa using hmem
      rw [this]
      rfl
    rw [e2]
    simp only [if_true]
    exact ih (pre ++ [x]) (by rw [← hp]; simp)
theorem QuorumSteps (v o l w s : List Int) : ∃ k, watershedlaw06_QuorumSteps.f k v o l w s = some true := by
  refine Ev.rounds ?_
  unfold watershedlaw06_QuorumSteps.f
  simp only [watershedlaw06_awake.f, Option.bind_some, if_true]
  obtain ⟨g1, e1, h1⟩ := great v o l w s
  simp only [e1, Option.bind_some]
  cases g1
  rotate_left
  · simpa using Ev.now true
  simp only [Bool.false_eq_true, if_false]
  obtain ⟨hv, ho, hl, hw, hs⟩ := h1 rfl
  refine Ev.bind (f := fun k t => _) (ev_begin v o l w s hv ho hl hw hs) ?_
  have stop : Ev (fun k => (watershedkit_SameConfig.f k [] [] [] [] [] [] [] []).bind fun t => some t) true := by
    refine Ev.bind (f := fun _ t => some t) (a := true) ?_ (Ev.now _)
    refine Ev.of (k := 5) (watershedkit_SameConfig.mono [] [] [] [] [] [] [] []) ?_
    decide +kernel
  unfold begin_
  by_cases c : right v o l w = true ∧ v ≠ [] ∧ ok s = true ∧ s ≠ []
  rotate_left
  · rw [if_neg c]
    simpa using stop
  rw [if_pos c]
  obtain ⟨cr, cv, cs, cn⟩ := c
  by_cases c1 : w = []
  rotate_left
  · rw [if_pos c1]
    simpa using stop
  rw [if_neg (fun h => h c1)]
  by_cases c2 : s = v
  · rw [if_pos c2]
    simpa using stop
  rw [if_neg c2]
  simp only [if_true]
  have hlen := less_len s v
  -- what is known of the configuration
  have hvk : ok v = true ∧ o = [] := by
    unfold right at cr
    simp only [Bool.and_eq_true] at cr
    obtain ⟨⟨⟨⟨k1, _⟩, _⟩, _⟩, k2⟩ := cr
    refine ⟨k1, ?_⟩
    rw [if_neg cv] at k2
    by_cases co : o = []
    · exact co
    · rw [if_neg co] at k2
      simp only [Bool.and_eq_true, decide_eq_true_eq] at k2
      exact absurd (k2.1.symm.trans c1) cv
  have rd_ : right v [] (less s v) s = true := by
    unfold right
    rw [hvk.1, ok_less s v cs, cs, if_neg cv, if_pos rfl, if_neg cn]
    simp [c2, ok, bad]
  have rj : right s v [] s = true := by
    unfold right
    rw [hvk.1, cs, if_neg cn, if_neg cv]
    simp [ok, bad]
  have rf : right s [] [] [] = true := by
    unfold right
    rw [cs, if_neg cn, if_pos rfl, if_pos rfl]
    rfl
  have n1 : next v [] (less s v) s = (s, v, [], s, true) := by
    unfold next
    rw [if_pos ⟨rd_, cn⟩, if_pos rfl]
  have n2 : next s v [] s = (s, [], [], [], true) := by
    unfold next
    rw [if_pos ⟨rj, cn⟩, if_neg cv]
  have n3 : next s [] [] [] = ([], [], [], [], false) := by
    unfold next
    rw [if_neg (fun h => h.2 rfl)]
  refine Ev.bind (f := fun k t => _) (ev_next v [] (less s v) s hv (by simp) (by omega) hs) ?_
  rw [n1]
  refine Ev.bind (f := fun k t => _) (ev_next s v [] s hs hv (by simp) hs) ?_
  rw [n2]
  refine Ev.bind (f := fun k t => _) (ev_next s [] [] [] hs (by simp) (by simp) (by simp)) ?_
  rw [n3]
  simp only [if_true, Bool.false_eq_true, if_false]
  refine Ev.bind (f := fun k t => _) (ev_rightq v [] (less s v) s hv (by simp) (by omega) hs) ?_
  rw [rd_]
  simp only [if_true]
  refine Ev.bind (f := fun k t => _) (ev_rightq s v [] s hs hv (by simp) hs) ?_
  rw [rj]
  simp only [if_true]
  refine Ev.bind (f := fun k t => _) (ev_rightq s [] [] [] hs (by simp) (by simp) (by simp)) ?_
  rw [rf]
  simp only [if_true]
  refine Ev.bind (f := fun k t => _) (ev_same v v (by omega)) ?_
  simp only [decide_true, if_true]
  refine Ev.bind (f := fun k t => _) (ev_same v v (by omega)) ?_
  simp only [decide_true, if_true]
  refine Ev.bind (f := fun k t => _) (ev_same s s (by omega)) ?_
  simp only [decide_true, if_true]
  refine Ev.bind (f := fun k t => _) (ev_same s s (by omega)) ?_
  simp only [decide_true, if_true]
  exact ev_loop v o l w s hv hs cn hvk.2 cs cr cv ho hl hw s [] rfl
end Go.Proofs.Ytkilmclncpmjnaa.P06b
