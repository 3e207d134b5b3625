import Derived.Test.YtkilmclncpmjnaaZQAPureAt
import Derived.Test.YtkilmclncpmjnaaZQAP06tx4
import Derived.Test.YtkilmclncpmjnaaZQALa
set_option linter.unusedSimpArgs false
namespace Go.Proofs.Ytkilmclncpmjnaa.P06t
open Go.RowKit Go.Proofs.YtkilmclncpmjnaaW.PrintWords Go.Proofs.YtkilmclncpmjnaaW.PrintLast Go.Proofs.YtkilmclncpmjnaaW.PrintMore
def begin_ (v o l w s : List Int) : List Int × List Int × List Int × List Int × Int :=
  if right v o l w = true ∧ v ≠ [] ∧ ok s = true ∧ s ≠ [] then (if w ≠ [] then ([], [], [], [], 25) else if s = v then ([], [], [], [], 7) else (v, [], less s v, s, 0)) else ([], [], [], [], 2)
theorem pos_len {l : List Int} (h : l ≠ []) : 0 < l.length := by
  cases l with
  | nil => exact absurd rfl h
  | cons x xs => simp
theorem ev_j0_true (k' : List Int) (v o l w : List Int) : Ev (fun k => quorum_Begin.j0 k k' true v o l w) ([], [], [], [], 2) :=
  Ev.step (f := fun _ => some ([], [], [], [], 2)) (fun k => by simp only [quorum_Begin.j0, if_true]) (Ev.now _)
theorem ev_begin (v o l w s : List Int) (hv : v.length ≤ 40) (ho : o.length ≤ 40) (hl : l.length ≤ 40) (hw : w.length ≤ 40) (hs : s.length ≤ 40) : Ev (fun k => quorum_Begin.f k v o l w s) (begin_ v o l w s) := by
  unfold quorum_Begin.f
  refine Ev.bind (f := fun k t => _) (ev_right v o l w hv ho hl hw) ?_
  unfold begin_
  cases c : right v o l w
  · simpa using ev_j0_true s v o l w
  simp only [if_true, true_and]
  by_cases c1 : v = []
  · have hz : (v.length : Int) = 0 := by rw [c1]; rfl
    have hz' : ((v.length : Int) == 0) = true := by rw [hz]; rfl
    simp only [if_pos hz, hz']
    rw [if_neg (fun h => h.1 c1)]
    exact ev_j0_true s v o l w
  have hz : ¬ (v.length : Int) = 0 := by have := pos_len c1; omega
  simp only [if_neg hz]
  refine Ev.bind (f := fun k t => _) (ev_rise [s] (by simp; omega)) ?_
  have e : [s].all ok = ok s := by simp
  rw [e]
  cases c2 : ok s
  · simpa using ev_j0_true s v o l w
  simp only [if_true, true_and]
  by_cases c3 : s = []
  · have hz' : ((s.length : Int) == 0) = true := by rw [c3]; rfl
    rw [if_neg (fun h => h.2 c3)]
    simp only [hz']
    exact ev_j0_true s v o l w
  have hz' : ((s.length : Int) == 0) = false := by have := pos_len c3; simp; omega
  rw [if_pos ⟨c1, c3⟩]
  simp only [hz']
  refine Ev.step (f := fun k => if (decide ((w.length : Int) > 0)) = true then some ([], [], [], [], 25) else (slices_Equal_int_int.f k s v).bind fun t => if t = true then some ([], [], [], [], 7) else (quorum_without.f k s v).bind fun t2 => some (v, [], t2, s, 0)) (fun k => ?_) ?_
  · simp only [quorum_Begin.j0, Bool.false_eq_true, if_false, quorum_group_changes.f, Option.bind_some, clone v (by omega), clone s (by omega)]
  by_cases c4 : w = []
  · have hz4 : ¬ (decide ((w.length : Int) > 0) = true) := by rw [c4]; simp
    simp only [if_neg hz4]
    rw [if_neg (fun h => h c4)]
    refine Ev.bind (f := fun k t => _) (ev_eq s v (by omega)) ?_
    by_cases c5 : s = v
    · simpa [c5] using Ev.now (α := List Int × List Int × List Int × List Int × Int) ([], [], [], [], 7)
    · rw [if_neg c5]
      simp only [c5, decide_false, Bool.false_eq_true, if_false]
      exact Ev.bind (f := fun _ t => some (v, [], t, s, (0 : Int))) (ev_without s v (by omega) (by omega)) (Ev.now _)
  · have hz4 : decide ((w.length : Int) > 0) = true := by have := pos_len c4; simp; omega
    simp only [if_pos hz4]
    rw [if_pos c4]
    exact Ev.now _
theorem ev_votes (v o l w : List Int) (x : Int) (hv : v.length ≤ 40) (ho : o.length ≤ 40) : Ev (fun k => quorum_Votes.f k v o l w x) (v.contains x || o.contains x) := by
  unfold quorum_Votes.f
  refine Ev.bind (f := fun k t => _) (ev_contains v x (by omega)) ?_
  cases v.contains x
  · simp only [Bool.false_eq_true, if_false, Bool.false_or]
    exact Ev.bind (f := fun _ t => some t) (ev_contains o x (by omega)) (Ev.now _)
  · simpa using Ev.now true
theorem ev_has (v o l w : List Int) (x : Int) (hv : v.length ≤ 40) (ho : o.length ≤ 40) (hl : l.length ≤ 40) : Ev (fun k => quorum_Has.f k v o l w x) (v.contains x || o.contains x || l.contains x) := by
  unfold quorum_Has.f
  refine Ev.bind (f := fun k t => _) (ev_votes v o l w x hv ho) ?_
  cases v.contains x || o.contains x
  · simp only [Bool.false_eq_true, if_false, Bool.false_or]
    exact Ev.bind (f := fun _ t => some t) (ev_contains l x (by omega)) (Ev.now _)
  · simpa using Ev.now true
theorem ev_rightq (v o l w : List Int) (hv : v.length ≤ 40) (ho : o.length ≤ 40) (hl : l.length ≤ 40) (hw : w.length ≤ 40) : Ev (fun k => quorum_Right.f k v o l w) (right v o l w) := by
  unfold quorum_Right.f
  exact Ev.bind (f := fun _ t => some t) (ev_right v o l w hv ho hl hw) (Ev.now _)
theorem great (v o l w s : List Int) : ∃ g, watershedlaw06_great.f v o l w s = some g ∧ (g = false → v.length ≤ 40 ∧ o.length ≤ 40 ∧ l.length ≤ 40 ∧ w.length ≤ 40 ∧ s.length ≤ 40) := by
  unfold watershedlaw06_great.f
  by_cases c1 : (v.length : Int) > 40
  · exact ⟨true, by rw [if_pos c1], by simp⟩
  by_cases c2 : (o.length : Int) > 40
  · exact ⟨true, by rw [if_neg c1, if_pos c2], by simp⟩
  by_cases c3 : (l.length : Int) > 40
  · exact ⟨true, by rw [if_neg c1, if_neg c2, if_pos c3], by simp⟩
  by_cases c4 : (w.length : Int) > 40
  · exact ⟨true, by rw [if_neg c1, if_neg c2, if_neg c3, if_pos c4], by simp⟩
  refine ⟨_, by rw [if_neg c1, if_neg c2, if_neg c3, if_neg c4], fun h => ?_⟩
  have h' := of_decide_eq_false h
  exact ⟨by omega, by omega, by omega, by omega, by omega⟩
theorem ev_row_l (suf : List Int) : ∀ (pre : List Int) (p : Int), (pre ++ suf).length ≤ 100 → (pre = [] → p = 0) → (∀ q z, pre = q ++ [z] → p = z) →
    Ev (fun k => watershedref06_row.l0 k (pre ++ suf) (pre.length : Int)) (!bad p suf) := by
  induction suf with
  | nil =>
    intro pre p hl h0 h1
    refine Ev.step (f := fun _ => some true) (fun k => ?_) (Ev.now _)
    simp only [watershedref06_row.l0, List.append_nil]
    rw [if_neg (by omega)]
  | cons x xs ih =>
    intro pre p hl h0 h1
    have hlen := len_mid pre x xs
    have hb : ((pre ++ x :: xs).length : Int) ≤ 100 := by omega
    refine Ev.step (f := fun k => if x < 1 then some false else if x > 5 then some false else if p ≥ x then some false else watershedref06_row.l0 k (pre ++ x :: xs) ((pre ++ [x]).length : Int)) (fun k => ?_) ?_
    · simp only [watershedref06_row.l0]
      rw [if_pos (by omega), if_pos (by omega), rd_mid]
      by_cases c1 : x < 1
      · rw [if_pos c1, if_pos c1]
      rw [if_neg c1, if_neg c1]
      by_cases c2 : x > 5
      · rw [if_pos c2, if_pos c2]
      rw [if_neg c2, if_neg c2]
      have hw : wrap64 ((pre.length : Int) + 1) = ((pre ++ [x]).length : Int) := by rw [w64 (by omega) (by omega)]; simp
      by_cases c3 : pre = []
      · subst c3
        have := h0 rfl
        subst this
        rw [if_neg (by simp), if_neg (by omega), hw]
      · obtain ⟨q, z, rfl⟩ : ∃ q z, pre = q ++ [z] := ⟨pre.dropLast, pre.getLast c3, (List.dropLast_concat_getLast c3).symm⟩
        have := h1 q z rfl
        subst this
        have hq : wrap64 (((q ++ [p]).length : Int) - 1) = (q.length : Int) := by rw [w64 (by omega) (by omega)]; simp
        have hr : rd (q ++ [p] ++ x :: xs) (q.length : Int) = p := by rw [List.append_assoc]; exact rd_mid q p (x :: xs)
        rw [if_pos (by simp), hq, if_pos (by omega), if_pos (by simp; omega), hr, hw]
    · unfold bad
      by_cases c1 : x < 1
      · simp only [if_pos c1]
        simpa [c1] using Ev.now false
      simp only [if_neg c1]
      by_cases c2 : x > 5
      · simp only [if_pos c2]
        simpa [c2] using Ev.now false
      simp only [if_neg c2]
      by_cases c3 : p ≥ x
      · simp only [if_pos c3]
        simpa [c3] using Ev.now false
      simp only [if_neg c3]
      have h := ih (pre ++ [x]) x (by simpa using hl) (by simp) (fun q z hz => by simpa using (List.append_inj_right' hz rfl))
      simpa [c1, c2, c3] using h
theorem ev_row (l : List Int) (hl : l.length ≤ 100) : Ev (fun k => watershedref06_row.f k l) (ok l) := by
  have h := ev_row_l l [] 0 (by simpa using hl) (fun _ => rfl) (fun q z h => by simp at h)
  simpa [watershedref06_row.f, ok] using h
theorem ev_in_l (x : Int) (suf : List Int) : ∀ (pre : List Int), (pre ++ suf).length ≤ 1000 → Ev (fun k => watershedref06_in.l0 k (pre ++ suf) x (pre.length : Int)) (suf.contains x) := by
  induction suf with
  | nil =>
    intro pre hl
    refine Ev.step (f := fun _ => some false) (fun k => ?_) (by simpa using Ev.now false)
    simp only [watershedref06_in.l0, List.append_nil]
    rw [if_neg (by omega)]
  | cons y ys ih =>
    intro pre hl
    have hlen := len_mid pre y ys
    have hb : ((pre ++ y :: ys).length : Int) ≤ 1000 := by omega
    have hw : wrap64 ((pre.length : Int) + 1) = ((pre ++ [y]).length : Int) := by rw [w64 (by omega) (by omega)]; simp
    refine Ev.step (f := fun k => if y = x then some true else watershedref06_in.l0 k (pre ++ y :: ys) x ((pre ++ [y]).length : Int)) (fun k => ?_) ?_
    · simp only [watershedref06_in.l0]
      rw [if_pos (by omega), if_pos (by omega), rd_mid, hw]
    · by_cases c : y = x
      · simp only [if_pos c]
        simpa [c] using Ev.now true
      · simp only [if_neg c]
        have h := ih (pre ++ [y]) (by simpa using hl)
        have e : (y :: ys).contains x = ys.contains x := by
          simp only [List.contains_cons]
          have : (x == y) = false := by simp; exact fun e => c e.symm
          rw [this, Bool.false_or]
        rw [e]
        simpa using h
theorem ev_in (l : List Int) (x : Int) (hl : l.length ≤ 1000) : Ev (fun k => watershedref06_in.f k l x) (l.contains x) := by
  have h := ev_in_l x l [] (by simpa using hl)
  simpa [watershedref06_in.f] using h
theorem ev_rless_l (m : List Int) (hm : m.length ≤ 1000) (suf : List Int) : ∀ (pre acc : List Int), (pre ++ suf).length ≤ 1000 → acc.length ≤ pre.length →
    Ev (fun k => watershedref06_less.l0 k (pre ++ suf) m acc (pre.length : Int)) (acc ++ less suf m) := by
  induction suf with
  | nil =>
    intro pre acc hl ha
    refine Ev.step (f := fun _ => some acc) (fun k => ?_) (by simpa [less] using Ev.now acc)
    simp only [watershedref06_less.l0, List.append_nil]
    rw [if_neg (by omega)]
  | cons x xs ih =>
    intro pre acc hl ha
    have hlen := len_mid pre x xs
    have hb : ((pre ++ x :: xs).length : Int) ≤ 1000 := by omega
    refine Ev.step (f := fun k => (watershedref06_in.f k m x).bind fun t => if t = true then watershedref06_less.l0 k (pre ++ x :: xs) m acc ((pre ++ [x]).length : Int) else watershedref06_less.l0 k (pre ++ x :: xs) m (acc ++ [x]) ((pre ++ [x]).length : Int)) (fun k => ?_) ?_
    · simp only [watershedref06_less.l0]
      have hw : wrap64 ((pre.length : Int) + 1) = ((pre ++ [x]).length : Int) := by rw [w64 (by omega) (by omega)]; simp
      rw [if_pos (by omega), if_pos (by omega), rd_mid, hw]
      have ha' : acc.length < 17592186044416 := by omega
      simp only [if_pos ha']
    · refine Ev.bind (f := fun k t => if t = true then watershedref06_less.l0 k (pre ++ x :: xs) m acc ((pre ++ [x]).length : Int) else watershedref06_less.l0 k (pre ++ x :: xs) m (acc ++ [x]) ((pre ++ [x]).length : Int)) (ev_in m x hm) ?_
      cases c : m.contains x
      · have h := ih (pre ++ [x]) (acc ++ [x]) (by simpa using hl) (by simp; omega)
        have e : less (x :: xs) m = x :: less xs m := by unfold less; rw [List.filter_cons_of_pos (by simp only [c]; rfl)]
        rw [e]
        simpa using h
      · have h := ih (pre ++ [x]) acc (by simpa using hl) (by simp; omega)
        have e : less (x :: xs) m = less xs m := by unfold less; rw [List.filter_cons_of_neg (by simp only [c]; exact Bool.false_ne_true)]
        rw [e]
        simpa using h
theorem ev_rless (l m : List Int) (hl : l.length ≤ 1000) (hm : m.length ≤ 1000) : Ev (fun k => watershedref06_less.f k l m) (less l m) := by
  have h := ev_rless_l m hm l [] [] (by simpa using hl) (by simp)
  simpa [watershedref06_less.f] using h
def rtail (v o l w : List Int) : Bool := if o ≠ [] then decide (w = v) && decide (l = []) else if w = [] then decide (l = []) else !decide (w = v) && decide (l = less w v)
/-- Behind the look that no learner is a voter. -/
theorem ev_rr_l (v o w : List Int) (hv : v.length ≤ 40) (ho : o.length ≤ 40) (hw : w.length ≤ 40) (suf : List Int) : ∀ (pre : List Int), (pre ++ suf).length ≤ 40 →
    Ev (fun k => watershedref06_Right.l0 k (pre.length : Int) v o (pre ++ suf) w) (suf.all (fun x => !v.contains x) && rtail v o (pre ++ suf) w) := by
  induction suf with
  | nil =>
    intro pre hl
    have hp : pre.length ≤ 100 := by simp at hl; omega
    refine Ev.step (f := fun k => if (o.length : Int) > 0 then ((watershedkit_SameInts.f k w v).bind fun t211 => (if t211 = true then (some (decide (pre = []))) else (some false))) else (if (w.length : Int) = 0 then (some (decide (pre = []))) else ((watershedkit_SameInts.f k w v).bind fun t212 => (if t212 = true then (some false) else ((watershedref06_less.f k w v).bind fun t213 => ((watershedkit_SameInts.f k pre t213).bind fun t216 => (some t216))))))) (fun k => ?_) ?_
    · simp only [watershedref06_Right.l0, List.append_nil, nil_len]
      rw [if_neg (by omega)]
    · simp only [List.all_nil, Bool.true_and, List.append_nil, rtail]
      by_cases c1 : o = []
      · have hz : ¬ (o.length : Int) > 0 := by rw [c1]; simp
        simp only [if_neg hz, c1, ne_eq, not_true_eq_false, if_false]
        by_cases c2 : w = []
        · have hz2 : (w.length : Int) = 0 := by rw [c2]; rfl
          simp only [if_pos hz2, if_pos c2]
          exact Ev.now _
        · have hz2 : ¬ (w.length : Int) = 0 := by have := pos_len c2; omega
          simp only [if_neg hz2, if_neg c2]
          refine Ev.bind (f := fun k t => _) (ev_same w v (by omega)) ?_
          by_cases c3 : w = v
          · simpa [c3] using Ev.now false
          · simp only [c3, decide_false, Bool.false_eq_true, if_false, Bool.not_false, Bool.true_and]
            refine Ev.bind (f := fun k t => _) (ev_rless w v (by omega) (by omega)) ?_
            exact Ev.bind (f := fun _ t => some t) (ev_same pre (less w v) hp) (Ev.now _)
      · have hz : (o.length : Int) > 0 := by have := pos_len c1; omega
        simp only [if_pos hz, ne_eq, c1, not_false_eq_true, if_true]
        refine Ev.bind (f := fun k t => _) (ev_same w v (by omega)) ?_
        by_cases c3 : w = v
        · simpa [c3] using Ev.now (decide (pre = []))
        · simpa [c3] using Ev.now false
  | cons x xs ih =>
    intro pre hl
    have hlen := len_mid pre x xs
    have hb : ((pre ++ x :: xs).length : Int) ≤ 40 := by omega
    have hw1 : wrap64 ((pre.length : Int) + 1) = ((pre ++ [x]).length : Int) := by rw [w64 (by omega) (by omega)]; simp
    refine Ev.step (f := fun k => (watershedref06_in.f k v x).bind fun t => if t = true then some false else watershedref06_Right.l0 k ((pre ++ [x]).length : Int) v o (pre ++ x :: xs) w) (fun k => ?_) ?_
    · simp only [watershedref06_Right.l0]
      rw [if_pos (by omega), if_pos (by omega), rd_mid, hw1]
    · refine Ev.bind (f := fun k t => if t = true then some false else watershedref06_Right.l0 k ((pre ++ [x]).length : Int) v o (pre ++ x :: xs) w) (ev_in v x (by omega)) ?_
      cases c : v.contains x
      · have h := ih (pre ++ [x]) (by simpa using hl)
        rw [List.append_assoc, List.singleton_append] at h
        simp only [List.all_cons, c, Bool.not_false, Bool.true_and, Bool.false_eq_true, if_false]
        exact h
      · have c' : x ∈ v := by simpa using c
        simpa [List.all_cons, c'] using Ev.now false
theorem less_out (w v : List Int) : (less w v).all (fun x => !v.contains x) = true := by
  unfold less
  rw [List.all_eq_true]
  intro x hx
  exact (List.mem_filter.1 hx).2
/-- The reference's Right is right. -/
theorem right_eq (v o l w : List Int) (hv : v ≠ []) : (ok v && ok o && ok l && ok w && (l.all (fun x => !v.contains x) && rtail v o l w)) = right v o l w := by
  unfold right rtail
  rw [if_neg hv]
  congr 1
  by_cases c1 : o = []
  · simp only [c1, ne_eq, not_true_eq_false, if_false, if_true]
    by_cases c2 : w = []
    · simp only [c2, if_true]
      by_cases c3 : l = []
      · simp [c3]
      · simp [c3]
    · simp only [c2, if_false]
      by_cases c3 : l = less w v
      · rw [c3, less_out]; rfl
      · simp [c3]
  · simp only [ne_eq, c1, not_false_eq_true, if_true, if_false]
    by_cases c3 : l = []
    · simp [c3]
    · simp [c3]
theorem ev_rright (v o l w : List Int) (hv : v.length ≤ 40) (ho : o.length ≤ 40) (hl : l.length ≤ 40) (hw : w.length ≤ 40) : Ev (fun k => watershedref06_Right.f k v o l w) (right v o l w) := by
  have ht : Ev (fun k => watershedref06_Right.j0 k true v o l w) false := Ev.step (f := fun _ => some false) (fun k => by simp [watershedref06_Right.j0]) (Ev.now _)
  have hf : Ev (fun k => watershedref06_Right.j0 k false v o l w) (if v = [] then decide (o = [] ∧ l = [] ∧ w = []) else (l.all (fun x => !v.contains x) && rtail v o l w)) := by
    have e0 : ((wrap64 ((wrap64 ((o.length : Int) + (l.length : Int))) + (w.length : Int))) == 0) = decide (o = [] ∧ l = [] ∧ w = []) := by
      rw [w64 (i := (o.length : Int) + (l.length : Int)) (by omega) (by omega), w64 (by omega) (by omega)]
      cases o <;> cases l <;> cases w <;> simp <;> omega
    refine Ev.step (f := fun k => if (v.length : Int) = 0 then some (decide (o = [] ∧ l = [] ∧ w = [])) else watershedref06_Right.l0 k 0 v o l w) (fun k => by simp only [watershedref06_Right.j0, Bool.false_eq_true, if_false, e0]) ?_
    by_cases c : v = []
    · have hz : (v.length : Int) = 0 := by rw [c]; rfl
      simp only [if_pos hz, if_pos c]
      exact Ev.now _
    · have hz : ¬ (v.length : Int) = 0 := by have := pos_len c; omega
      simp only [if_neg hz, if_neg c]
      have h := ev_rr_l v o w hv ho hw l [] (by simpa using hl)
      simpa using h
  unfold watershedref06_Right.f
  refine Ev.bind (f := fun k t => _) (ev_row v (by omega)) ?_
  cases c1 : ok v
  · simpa [right, c1] using ht
  refine Ev.bind (f := fun k t => _) (ev_row o (by omega)) ?_
  cases c2 : ok o
  · simpa [right, c1, c2] using ht
  refine Ev.bind (f := fun k t => _) (ev_row l (by omega)) ?_
  cases c3 : ok l
  · simpa [right, c1, c2, c3] using ht
  refine Ev.bind (f := fun k t => _) (ev_row w (by omega)) ?_
  cases c4 : ok w
  · simpa [right, c1, c2, c3, c4] using ht
  simp only [Bool.not_true]
  by_cases c : v = []
  · have e : right v o l w = decide (o = [] ∧ l = [] ∧ w = []) := by simp only [right, c1, c2, c3, c4, if_pos c, Bool.and_self, Bool.true_and]
    rw [e]
    rw [if_pos c] at hf
    exact hf
  · rw [if_neg c] at hf
    have e := right_eq v o l w c
    rw [c1, c2, c3, c4] at e
    simp only [Bool.and_self, Bool.true_and] at e
    rw [← e]
    exact hf
theorem ev_half_l (s : List Int) (hs : s.length ≤ 100) (suf : List Int) : ∀ (pre : List Int) (n : Nat), (pre ++ suf).length ≤ 100 → n ≤ pre.length →
    Ev (fun k => watershedref06_half.l0 k (pre ++ suf) s (n : Int) (pre.length : Int)) (decide ((pre ++ suf).length < 2 * (n + (suf.filter s.contains).length))) := by
  induction suf with
  | nil =>
    intro pre n hl hn
    have hb : (pre.length : Int) ≤ 100 := by simp at hl; omega
    refine Ev.step (f := fun _ => some (decide (pre.length < 2 * n))) (fun k => ?_) (by simpa using Ev.now _)
    simp only [watershedref06_half.l0, List.append_nil]
    rw [if_neg (by omega), w64 (by omega) (by omega)]
    congr 1
    by_cases c : pre.length < 2 * n
    · rw [decide_eq_true c, decide_eq_true (by omega)]
    · rw [decide_eq_false c, decide_eq_false (by omega)]
  | cons x xs ih =>
    intro pre n hl hn
    have hlen := len_mid pre x xs
    have hb : ((pre ++ x :: xs).length : Int) ≤ 100 := by omega
    have hw1 : wrap64 ((pre.length : Int) + 1) = ((pre ++ [x]).length : Int) := by rw [w64 (by omega) (by omega)]; simp
    have hw2 : wrap64 ((n : Int) + 1) = ((n + 1 : Nat) : Int) := by rw [w64 (by omega) (by omega)]; omega
    refine Ev.step (f := fun k => (watershedref06_in.f k s x).bind fun t => if t = true then watershedref06_half.l0 k (pre ++ x :: xs) s ((n + 1 : Nat) : Int) ((pre ++ [x]).length : Int) else watershedref06_half.l0 k (pre ++ x :: xs) s (n : Int) ((pre ++ [x]).length : Int)) (fun k => ?_) ?_
    · simp only [watershedref06_half.l0]
      rw [if_pos (by omega), if_pos (by omega), rd_mid, hw1, hw2]
    · refine Ev.bind (f := fun k t => _) (ev_in s x (by omega)) ?_
      cases c : s.contains x
      · have h := ih (pre ++ [x]) n (by simpa using hl) (by simp; omega)
        rw [List.append_assoc, List.singleton_append] at h
        rw [List.filter_cons_of_neg (by rw [c]; simp)]
        exact h
      · have h := ih (pre ++ [x]) (n + 1) (by simpa using hl) (by simp; omega)
        rw [List.append_assoc, List.singleton_append] at h
        rw [List.filter_cons_of_pos c, List.length_cons, show n + ((xs.filter s.contains).length + 1) = n + 1 + (xs.filter s.contains).length by omega]
        exact h
theorem ev_half (l s : List Int) (hl : l.length ≤ 100) (hs : s.length ≤ 100) : Ev (fun k => watershedref06_half.f k l s) (most l s) := by
  have h := ev_half_l s hs l [] 0 (by simpa using hl) (by simp)
  simpa [watershedref06_half.f, most] using h
theorem ev_ragrees (v o l w s : List Int) (hv : v.length ≤ 40) (ho : o.length ≤ 40) (hl : l.length ≤ 40) (hw : w.length ≤ 40) (hs : s.length ≤ 40) : Ev (fun k => watershedref06_Agrees.f k v o l w s) (agrees v o l w s) := by
  unfold watershedref06_Agrees.f agrees
  refine Ev.bind (f := fun k t => _) (ev_rright v o l w hv ho hl hw) ?_
  cases c1 : right v o l w
  · simpa using Ev.now false
  simp only [if_true, Bool.true_and]
  by_cases c2 : v = []
  · have hz : ¬ (v.length : Int) > 0 := by rw [c2]; simp
    have : most v s = false := by rw [c2]; simp [most]
    simp only [if_neg hz, this, Bool.false_and]
    exact Ev.now _
  · have hz : (v.length : Int) > 0 := by have := pos_len c2; omega
    simp only [if_pos hz]
    refine Ev.bind (f := fun k t => _) (ev_half v s (by omega) (by omega)) ?_
    cases c3 : most v s
    · simpa using Ev.now false
    simp only [if_true, Bool.true_and]
    by_cases c4 : o = []
    · have hz4 : (o.length : Int) = 0 := by rw [c4]; rfl
      simp only [if_pos hz4, c4, decide_true, Bool.true_or]
      exact Ev.now _
    · have hz4 : ¬ (o.length : Int) = 0 := by have := pos_len c4; omega
      simp only [if_neg hz4, c4, decide_false, Bool.false_or]
      exact Ev.bind (f := fun _ t => some t) (ev_half o s (by omega) (by omega)) (Ev.now _)
theorem ev_rvotes (v o l w : List Int) (x : Int) (hv : v.length ≤ 40) (ho : o.length ≤ 40) : Ev (fun k => watershedref06_Votes.f k v o l w x) (v.contains x || o.contains x) := by
  unfold watershedref06_Votes.f
  refine Ev.bind (f := fun k t => _) (ev_in v x (by omega)) ?_
  cases v.contains x
  · simp only [Bool.false_eq_true, if_false, Bool.false_or]
    exact Ev.bind (f := fun _ t => some t) (ev_in o x (by omega)) (Ev.now _)
  · simpa using Ev.now true
theorem ev_rhas (v o l w : List Int) (x : Int) (hv : v.length ≤ 40) (ho : o.length ≤ 40) (hl : l.length ≤ 40) : Ev (fun k => watershedref06_Has.f k v o l w x) (v.contains x || o.contains x || l.contains x) := by
  unfold watershedref06_Has.f
  refine Ev.bind (f := fun k t => _) (ev_rvotes v o l w x hv ho) ?_
  cases v.contains x || o.contains x
  · simp only [Bool.false_eq_true, if_false, Bool.false_or]
    exact Ev.bind (f := fun _ t => some t) (ev_in l x (by omega)) (Ev.now _)
  · simpa using Ev.now true
theorem copy (l : List Int) (hl : l.length ≤ 100) : watershedkit_CopyInts.f l = some l := by
  unfold watershedkit_CopyInts.f
  rw [if_pos (by simp; omega)]
  rfl
theorem ev_rbegin (v o l w s : List Int) (hv : v.length ≤ 40) (ho : o.length ≤ 40) (hl : l.length ≤ 40) (hw : w.length ≤ 40) (hs : s.length ≤ 40) : Ev (fun k => watershedref06_Begin.f k v o l w s) (begin_ v o l w s) := by
  have ht : Ev (fun k => watershedref06_Begin.j0 k s true v o l w) ([], [], [], [], 2) := Ev.step (f := fun _ => some ([], [], [], [], 2)) (fun k => by simp only [watershedref06_Begin.j0, if_true]) (Ev.now _)
  unfold watershedref06_Begin.f
  refine Ev.bind (f := fun k t => _) (ev_rright v o l w hv ho hl hw) ?_
  unfold begin_
  cases c : right v o l w
  · simpa using ht
  simp only [if_true, true_and]
  by_cases c1 : v = []
  · have hz : (v.length : Int) = 0 := by rw [c1]; rfl
    simp only [if_pos hz]
    rw [if_neg (fun h => h.1 c1)]
    exact ht
  have hz : ¬ (v.length : Int) = 0 := by have := pos_len c1; omega
  simp only [if_neg hz]
  refine Ev.bind (f := fun k t => _) (ev_row s (by omega)) ?_
  cases c2 : ok s
  · simpa using ht
  simp only [if_true, true_and]
  by_cases c3 : s = []
  · have hz' : ((s.length : Int) == 0) = true := by rw [c3]; rfl
    rw [if_neg (fun h => h.2 c3)]
    simp only [hz']
    exact ht
  have hz' : ((s.length : Int) == 0) = false := by have := pos_len c3; simp; omega
  rw [if_pos ⟨c1, c3⟩]
  simp only [hz']
  refine Ev.step (f := fun k => if (w.length : Int) > 0 then some ([], [], [], [], 25) else (watershedkit_SameInts.f k s v).bind fun t => if t = true then some ([], [], [], [], 7) else (watershedref06_less.f k s v).bind fun t2 => some (v, [], t2, s, 0)) (fun k => ?_) ?_
  · simp only [watershedref06_Begin.j0, Bool.false_eq_true, if_false, Option.bind_some, copy v (by omega), copy s (by omega)]
  by_cases c4 : w = []
  · have hz4 : ¬ ((w.length : Int) > 0) := by rw [c4]; simp
    simp only [if_neg hz4]
    rw [if_neg (fun h => h c4)]
    refine Ev.bind (f := fun k t => _) (ev_same s v (by omega)) ?_
    by_cases c5 : s = v
    · simpa [c5] using Ev.now (α := List Int × List Int × List Int × List Int × Int) ([], [], [], [], 7)
    · rw [if_neg c5]
      simp only [c5, decide_false, Bool.false_eq_true, if_false]
      exact Ev.bind (f := fun _ t => some (v, [], t, s, (0 : Int))) (ev_rless s v (by omega) (by omega)) (Ev.now _)
  · have hz4 : (w.length : Int) > 0 := by have := pos_len c4; omega
    simp only [if_pos hz4]
    rw [if_pos c4]
    exact Ev.now _
theorem ev_rnext (v o l w : List Int) (hv : v.length ≤ 40) (ho : o.length ≤ 40) (hl : l.length ≤ 40) (hw : w.length ≤ 40) : Ev (fun k => watershedref06_Next.f k v o l w) (next v o l w) := by
  have ht : Ev (fun k => watershedref06_Next.j0 k true v o l w) ([], [], [], [], false) := Ev.step (f := fun _ => some ([], [], [], [], false)) (fun k => by simp only [watershedref06_Next.j0, if_true]) (Ev.now _)
  unfold watershedref06_Next.f
  refine Ev.bind (f := fun k t => _) (ev_rright v o l w hv ho hl hw) ?_
  unfold next
  cases c : right v o l w
  · simpa using ht
  simp only [if_true, true_and, nil_len]
  by_cases c1 : w = []
  · simp only [c1, decide_true, ne_eq, not_true_eq_false, if_false]
    simpa [c1] using ht
  · simp only [c1, decide_false, ne_eq, not_false_eq_true, if_true]
    refine Ev.step (f := fun _ => some (if o = [] then (w, v, [], w, true) else (v, [], [], [], true))) (fun k => ?_) (Ev.now _)
    simp only [watershedref06_Next.j0, Bool.false_eq_true, if_false, copy v (by omega), copy w (by omega), Option.bind_some]
    by_cases c2 : o = []
    · rw [if_neg (by rw [c2]; simp), if_pos c2]
    · rw [if_pos (by have := pos_len c2; omega), if_neg c2]
theorem ev_sameC (a b c d : List Int) (ha : a.length ≤ 100) (hb : b.length ≤ 100) (hc : c.length ≤ 100) (hd : d.length ≤ 100) : Ev (fun k => watershedkit_SameConfig.f k a b c d a b c d) true := by
  obtain ⟨K1, e1⟩ := ev_same a a ha
  obtain ⟨K2, e2⟩ := ev_same b b hb
  obtain ⟨K3, e3⟩ := ev_same c c hc
  obtain ⟨K4, e4⟩ := ev_same d d hd
  dsimp only at e1 e2 e3 e4
  refine ⟨max K1 (max K2 (max K3 K4)), fun k hk => ?_⟩
  simp only [watershedkit_SameConfig.f, e1 k (by omega), e2 k (by omega), e3 k (by omega), e4 k (by omega), Option.bind_some, decide_true, if_true]
theorem ev_sameL (a b c d : List Int) (ha : a.length ≤ 100) (hb : b.length ≤ 100) (hc : c.length ≤ 100) (hd : d.length ≤ 100) : Ev (fun k => watershedlaw06_same.f k a b c d a b c d) true := by
  obtain ⟨K1, e1⟩ := ev_sameC a b c d ha hb hc hd
  dsimp only at e1
  exact ⟨K1, fun k hk => by simp only [watershedlaw06_same.f, e1 k hk, Option.bind_some]⟩
end Go.Proofs.Ytkilmclncpmjnaa.P06t
