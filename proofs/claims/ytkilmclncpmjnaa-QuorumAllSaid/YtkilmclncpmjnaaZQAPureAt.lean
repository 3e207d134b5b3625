import Derived.Test.YtkilmclncpmjnaaZQAP06tx3
import Derived.Test.YtkilmclncpmjnaaZQAP06tx5
namespace Go.Proofs.Ytkilmclncpmjnaa.P06t
open Go.RowKit Go.Proofs.YtkilmclncpmjnaaW.PrintWords Go.Proofs.YtkilmclncpmjnaaW.PrintLast Go.Proofs.YtkilmclncpmjnaaW.PrintMore
/-! Plain facts -/
theorem w64 {i : Int} (h0 : -9223372036854775808 ≤ i) (h : i ≤ 9223372036854775807) : wrap64 i = i := by unfold wrap64; omega
theorem rd_mid (pre : List Int) (x : Int) (suf : List Int) : rd (pre ++ x :: suf) (pre.length : Int) = x := by
  unfold rd
  simp [List.getD_eq_getElem?_getD]
theorem len_mid {α : Type} (pre : List α) (x : α) (suf : List α) : ((pre ++ x :: suf).length : Int) = pre.length + 1 + suf.length := by simp; omega
def bad (p : Int) : List Int → Bool
  | [] => false
  | x :: xs => decide (x < 1) || decide (x > 5) || decide (p ≥ x) || bad x xs
def ok (l : List Int) : Bool := !bad 0 l
theorem ev_rise_1 (suf : List Int) : ∀ (pre : List Int) (p : Int), (pre ++ suf).length ≤ 100 → (pre = [] → p = 0) → (∀ q z, pre = q ++ [z] → p = z) →
    Ev (fun k => quorum_rise_1.l0 k (pre ++ suf) (pre ++ suf) ((pre ++ suf).length : Int) (pre.length : Int)) (bad p suf) := by
  induction suf with
  | nil =>
    intro pre p hl h0 h1
    refine Ev.step (f := fun _ => some false) (fun k => ?_) (Ev.now _)
    simp only [quorum_rise_1.l0, List.append_nil]
    rw [if_neg (by omega)]
  | cons x xs ih =>
    intro pre p hl h0 h1
    have hlen := len_mid pre x xs
    have hb : ((pre ++ x :: xs).length : Int) ≤ 100 := by omega
    refine Ev.step (f := fun k => if x < 1 then some true else if x > 5 then some true else if p ≥ x then some true else quorum_rise_1.l0 k (pre ++ x :: xs) (pre ++ x :: xs) ((pre ++ x :: xs).length : Int) ((pre ++ [x]).length : Int)) (fun k => ?_) ?_
    · simp only [quorum_rise_1.l0]
      rw [if_pos (by omega), if_pos (by omega), if_pos (by omega), rd_mid]
      by_cases c1 : x < 1
      · rw [if_pos c1, if_pos c1]
      rw [if_neg c1, if_neg c1]
      by_cases c2 : x > 5
      · rw [if_pos c2, if_pos c2]
      rw [if_neg c2, if_neg c2]
      have hw : wrap64 ((pre.length : Int) + 1) = ((pre ++ [x]).length : Int) := by rw [w64 (by omega) (by omega)]; simp
      by_cases c3 : pre = []
      · subst c3
        have := h0 rfl
        subst this
        rw [if_neg (by simp), if_neg (by omega), hw]
      · obtain ⟨q, z, rfl⟩ : ∃ q z, pre = q ++ [z] := ⟨pre.dropLast, pre.getLast c3, (List.dropLast_concat_getLast c3).symm⟩
        have := h1 q z rfl
        subst this
        have hq : wrap64 (((q ++ [p]).length : Int) - 1) = (q.length : Int) := by rw [w64 (by omega) (by omega)]; simp
        have hr : rd (q ++ [p] ++ x :: xs) (q.length : Int) = p := by rw [List.append_assoc]; exact rd_mid q p (x :: xs)
        rw [if_pos (by simp), hq, if_pos (by omega), if_pos (by simp; omega), hr, hw]
    · unfold bad
      by_cases c1 : x < 1
      · simp only [if_pos c1]
        simpa [c1] using Ev.now true
      simp only [if_neg c1]
      by_cases c2 : x > 5
      · simp only [if_pos c2]
        simpa [c2] using Ev.now true
      simp only [if_neg c2]
      by_cases c3 : p ≥ x
      · simp only [if_pos c3]
        simpa [c3] using Ev.now true
      simp only [if_neg c3]
      have h := ih (pre ++ [x]) x (by simpa using hl) (by simp) (fun q z hz => by simpa using (List.append_inj_right' hz rfl))
      simpa [c1, c2, c3] using h
theorem ev_rise1 (l : List Int) (hl : l.length ≤ 100) : Ev (fun k => quorum_rise_1.f k l) (bad 0 l) := by
  have h := ev_rise_1 l [] 0 (by simpa using hl) (fun _ => rfl) (fun q z h => by simp at h)
  simpa [quorum_rise_1.f] using h

/-- A loop over a list from its front: what is left decides. -/
theorem ev_rise (ls : List (List Int)) (h : ∀ l ∈ ls, l.length ≤ 100) : Ev (fun k => quorum_rise.f k ls) (ls.all ok) := by
  unfold quorum_rise.f
  induction ls with
  | nil => exact Ev.now _
  | cons l ls ih =>
    have h1 := ev_rise1 l (h l (by simp))
    have h2 := ih (fun x hx => h x (by simp [hx]))
    simp only [quorum_rise.go]
    refine Ev.bind (f := fun k b => if b = true then some false else quorum_rise.go k ls) h1 ?_
    cases hb : bad 0 l
    · simpa [ok, hb] using h2
    · simpa [ok, hb] using Ev.now false
theorem eq_snoc {α : Type} [DecidableEq α] (x y : α) (xs ys : List α) : decide (x :: xs = y :: ys) = (decide (x = y) && decide (xs = ys)) := by simp
theorem ev_eq_l (suf : List Int) : ∀ (pre pre' suf' : List Int), (pre ++ suf).length ≤ 100 → pre.length = pre'.length → suf.length = suf'.length →
    Ev (fun k => slices_Equal_int_int.l0 k (pre ++ suf) (pre' ++ suf') ((pre ++ suf).length : Int) (pre.length : Int)) (decide (suf = suf')) := by
  induction suf with
  | nil =>
    intro pre pre' suf' hl he hs
    have : suf' = [] := List.eq_nil_of_length_eq_zero (by simpa using hs.symm)
    subst this
    refine Ev.step (f := fun _ => some true) (fun k => ?_) (Ev.now _)
    simp only [slices_Equal_int_int.l0, List.append_nil]
    rw [if_neg (by omega)]
  | cons x xs ih =>
    intro pre pre' suf' hl he hs
    cases suf' with
    | nil => simp at hs
    | cons y ys =>
      have hlen := len_mid pre x xs
      have hlen' := len_mid pre' y ys
      have hs' : xs.length = ys.length := by simpa using hs
      have hb : ((pre ++ x :: xs).length : Int) ≤ 100 := by omega
      refine Ev.step (f := fun k => if x = y then slices_Equal_int_int.l0 k (pre ++ x :: xs) (pre' ++ y :: ys) ((pre ++ x :: xs).length : Int) ((pre ++ [x]).length : Int) else some false) (fun k => ?_) ?_
      · simp only [slices_Equal_int_int.l0]
        have hw : wrap64 ((pre.length : Int) + 1) = ((pre ++ [x]).length : Int) := by rw [w64 (by omega) (by omega)]; simp
        rw [if_pos (by omega), if_pos (by omega), if_pos (by omega), if_pos (by omega), rd_mid, he, rd_mid, ← he, hw]
      · rw [eq_snoc]
        by_cases c : x = y
        · simp only [if_pos c]
          have h := ih (pre ++ [x]) (pre' ++ [y]) ys (by simpa using hl) (by simp [he]) hs'
          simpa [c] using h
        · simp only [if_neg c]
          simpa [c] using Ev.now false
theorem ev_eq (a b : List Int) (ha : a.length ≤ 100) : Ev (fun k => slices_Equal_int_int.f k a b) (decide (a = b)) := by
  unfold slices_Equal_int_int.f
  by_cases c : a.length = b.length
  · have h := ev_eq_l a [] [] b (by simpa using ha) rfl c
    simp only [if_pos (show (a.length : Int) = (b.length : Int) by omega)]
    simpa using h
  · simp only [if_neg (show ¬ (a.length : Int) = (b.length : Int) by omega)]
    have : a ≠ b := fun e => c (by rw [e])
    simpa [this] using Ev.now false
theorem ev_same_l (suf : List Int) : ∀ (pre pre' suf' : List Int), (pre ++ suf).length ≤ 100 → pre.length = pre'.length → suf.length = suf'.length →
    Ev (fun k => watershedkit_SameInts.l0 k (pre ++ suf) (pre' ++ suf') (pre.length : Int)) (decide (suf = suf')) := by
  induction suf with
  | nil =>
    intro pre pre' suf' hl he hs
    have : suf' = [] := List.eq_nil_of_length_eq_zero (by simpa using hs.symm)
    subst this
    refine Ev.step (f := fun _ => some true) (fun k => ?_) (Ev.now _)
    simp only [watershedkit_SameInts.l0, List.append_nil]
    rw [if_neg (by omega)]
  | cons x xs ih =>
    intro pre pre' suf' hl he hs
    cases suf' with
    | nil => simp at hs
    | cons y ys =>
      have hlen := len_mid pre x xs
      have hlen' := len_mid pre' y ys
      have hs' : xs.length = ys.length := by simpa using hs
      have hb : ((pre ++ x :: xs).length : Int) ≤ 100 := by omega
      refine Ev.step (f := fun k => if x = y then watershedkit_SameInts.l0 k (pre ++ x :: xs) (pre' ++ y :: ys) ((pre ++ [x]).length : Int) else some false) (fun k => ?_) ?_
      · simp only [watershedkit_SameInts.l0]
        have hw : wrap64 ((pre.length : Int) + 1) = ((pre ++ [x]).length : Int) := by rw [w64 (by omega) (by omega)]; simp
        rw [if_pos (by omega), if_pos (by omega), if_pos (by omega), rd_mid, he, rd_mid, ← he, hw]
      · rw [eq_snoc]
        by_cases c : x = y
        · simp only [if_pos c]
          have h := ih (pre ++ [x]) (pre' ++ [y]) ys (by simpa using hl) (by simp [he]) hs'
          simpa [c] using h
        · simp only [if_neg c]
          simpa [c] using Ev.now false
theorem ev_same (a b : List Int) (ha : a.length ≤ 100) : Ev (fun k => watershedkit_SameInts.f k a b) (decide (a = b)) := by
  unfold watershedkit_SameInts.f
  by_cases c : a.length = b.length
  · have h := ev_same_l a [] [] b (by simpa using ha) rfl c
    simp only [if_pos (show (a.length : Int) = (b.length : Int) by omega)]
    simpa using h
  · simp only [if_neg (show ¬ (a.length : Int) = (b.length : Int) by omega)]
    have : a ≠ b := fun e => c (by rw [e])
    simpa [this] using Ev.now false
theorem ev_index_l (x : Int) (suf : List Int) : ∀ (pre : List Int), (pre ++ suf).length ≤ 100 →
    ∃ n : Int, Ev (fun k => slices_Index_int_int.l0 k (pre ++ suf) x ((pre ++ suf).length : Int) (pre.length : Int)) n ∧ (decide (n ≥ 0) = suf.contains x) := by
  induction suf with
  | nil =>
    intro pre hl
    refine ⟨-1, Ev.step (f := fun _ => some (-1)) (fun k => ?_) (Ev.now _), by simp⟩
    simp only [slices_Index_int_int.l0, List.append_nil]
    rw [if_neg (by omega)]
  | cons y ys ih =>
    intro pre hl
    have hlen := len_mid pre y ys
    have hb : ((pre ++ y :: ys).length : Int) ≤ 100 := by omega
    have hs : ∀ k, slices_Index_int_int.l0 (k + 1) (pre ++ y :: ys) x ((pre ++ y :: ys).length : Int) (pre.length : Int) = if x = y then some (pre.length : Int) else slices_Index_int_int.l0 k (pre ++ y :: ys) x ((pre ++ y :: ys).length : Int) ((pre ++ [y]).length : Int) := by
      intro k
      simp only [slices_Index_int_int.l0]
      have hw : wrap64 ((pre.length : Int) + 1) = ((pre ++ [y]).length : Int) := by rw [w64 (by omega) (by omega)]; simp
      rw [if_pos (by omega), if_pos (by omega), if_pos (by omega), rd_mid, hw]
    by_cases c : x = y
    · refine ⟨pre.length, Ev.step hs (by simp only [if_pos c]; exact Ev.now _), by simp [c]⟩
    · obtain ⟨n, hn, he⟩ := ih (pre ++ [y]) (by simpa using hl)
      refine ⟨n, Ev.step hs (by simp only [if_neg c]; simpa using hn), by rw [he]; simp [c]⟩
theorem ev_contains (l : List Int) (x : Int) (hl : l.length ≤ 100) : Ev (fun k => slices_Contains_int_int.f k l x) (l.contains x) := by
  obtain ⟨n, hn, he⟩ := ev_index_l x l [] (by simpa using hl)
  unfold slices_Contains_int_int.f slices_Index_int_int.f
  refine Ev.bind (f := fun _ t => some (decide (t ≥ 0))) (a := n) (by simpa using hn) ?_
  rw [he]
  exact Ev.now _
def less (l m : List Int) : List Int := l.filter fun x => !m.contains x
theorem ev_without_l (m : List Int) (hm : m.length ≤ 100) (suf : List Int) : ∀ (pre acc : List Int), (pre ++ suf).length ≤ 100 → acc.length ≤ pre.length →
    Ev (fun k => quorum_without.l0 k m acc (pre ++ suf) ((pre ++ suf).length : Int) (pre.length : Int)) (acc ++ less suf m) := by
  induction suf with
  | nil =>
    intro pre acc hl ha
    refine Ev.step (f := fun _ => some acc) (fun k => ?_) (by simpa [less] using Ev.now acc)
    simp only [quorum_without.l0, List.append_nil]
    rw [if_neg (by omega)]
  | cons x xs ih =>
    intro pre acc hl ha
    have hlen := len_mid pre x xs
    have hb : ((pre ++ x :: xs).length : Int) ≤ 100 := by omega
    refine Ev.step (f := fun k => (slices_Contains_int_int.f k m x).bind fun t => if t = true then quorum_without.l0 k m acc (pre ++ x :: xs) ((pre ++ x :: xs).length : Int) ((pre ++ [x]).length : Int) else quorum_without.l0 k m (acc ++ [x]) (pre ++ x :: xs) ((pre ++ x :: xs).length : Int) ((pre ++ [x]).length : Int)) (fun k => ?_) ?_
    · simp only [quorum_without.l0]
      have hw : wrap64 ((pre.length : Int) + 1) = ((pre ++ [x]).length : Int) := by rw [w64 (by omega) (by omega)]; simp
      rw [if_pos (by omega), if_pos (by omega), if_pos (by omega), rd_mid, hw]
      have ha' : acc.length < 17592186044416 := by omega
      simp only [if_pos ha']
    · refine Ev.bind (f := fun k t => if t = true then quorum_without.l0 k m acc (pre ++ x :: xs) ((pre ++ x :: xs).length : Int) ((pre ++ [x]).length : Int) else quorum_without.l0 k m (acc ++ [x]) (pre ++ x :: xs) ((pre ++ x :: xs).length : Int) ((pre ++ [x]).length : Int)) (ev_contains m x hm) ?_
      cases c : m.contains x
      · have h := ih (pre ++ [x]) (acc ++ [x]) (by simpa using hl) (by simp; omega)
        have e : less (x :: xs) m = x :: less xs m := by unfold less; rw [List.filter_cons_of_pos (by simp only [c]; rfl)]
        rw [e]
        simpa using h
      · have h := ih (pre ++ [x]) acc (by simpa using hl) (by simp; omega)
        have e : less (x :: xs) m = less xs m := by unfold less; rw [List.filter_cons_of_neg (by simp only [c]; exact Bool.false_ne_true)]
        rw [e]
        simpa using h
theorem ev_without (l m : List Int) (hl : l.length ≤ 100) (hm : m.length ≤ 100) : Ev (fun k => quorum_without.f k l m) (less l m) := by
  have h := ev_without_l m hm l [] [] (by simpa using hl) (by simp)
  simpa [quorum_without.f] using h
theorem less_len (l m : List Int) : (less l m).length ≤ l.length := List.length_filter_le _ _
/-- Is a configuration right? -/
def right (v o l w : List Int) : Bool :=
  (ok v && ok o && ok l && ok w) &&
  (if v = [] then decide (o = [] ∧ l = [] ∧ w = []) else if o = [] then (if w = [] then decide (l = []) else !decide (w = v) && decide (l = less w v)) else decide (w = v) && decide (l = []))
theorem nil_len (l : List Int) : ((l.length : Int) == 0) = decide (l = []) := by
  cases l <;> simp
  omega
theorem ev_right (v o l w : List Int) (hv : v.length ≤ 40) (ho : o.length ≤ 40) (hl : l.length ≤ 40) (hw : w.length ≤ 40) : Ev (fun k => quorum_group_right.f k v o l w) (right v o l w) := by
  unfold quorum_group_right.f
  refine Ev.bind (f := fun k t => _) (ev_rise [v, o, l, w] (by simp; omega)) ?_
  unfold right
  have e : ([v, o, l, w].all ok) = (ok v && ok o && ok l && ok w) := by simp [Bool.and_assoc]
  rw [e]
  cases c : (ok v && ok o && ok l && ok w)
  · simpa using Ev.now false
  simp only [if_true, Bool.true_and]
  by_cases c1 : v = []
  · have hz : (v.length : Int) = 0 := by rw [c1]; rfl
    simp only [if_pos hz, if_pos c1]
    have e2 : (wrap64 (wrap64 ((o.length : Int) + l.length) + w.length) == 0) = decide (o = [] ∧ l = [] ∧ w = []) := by
      rw [w64 (i := (o.length : Int) + l.length) (by omega) (by omega), w64 (by omega) (by omega), Bool.eq_iff_iff]
      simp only [beq_iff_eq, decide_eq_true_eq]
      constructor
      · intro h
        exact ⟨List.eq_nil_of_length_eq_zero (by omega), List.eq_nil_of_length_eq_zero (by omega), List.eq_nil_of_length_eq_zero (by omega)⟩
      · rintro ⟨rfl, rfl, rfl⟩
        rfl
    rw [e2]
    exact Ev.now _
  have hz : ¬ (v.length : Int) = 0 := fun h => c1 (List.eq_nil_of_length_eq_zero (by omega))
  simp only [if_neg hz, if_neg c1, quorum_group_joint.f, quorum_group_changes.f, Option.bind_some]
  by_cases c2 : o = []
  · have hz2 : ¬ (decide ((o.length : Int) > 0) = true) := by rw [c2]; simp
    simp only [if_neg hz2, if_pos c2]
    by_cases c3 : w = []
    · have hz3 : ¬ (decide ((w.length : Int) > 0) = true) := by rw [c3]; simp
      simp only [if_neg hz3, if_pos c3, nil_len]
      exact Ev.now _
    · have hz3 : (decide ((w.length : Int) > 0) = true) := by
        have : w.length ≠ 0 := fun h => c3 (List.eq_nil_of_length_eq_zero h)
        simp; omega
      simp only [if_pos hz3, if_neg c3]
      refine Ev.bind (f := fun k t => _) (ev_eq w v (by omega)) ?_
      by_cases c4 : w = v
      · simpa [c4] using Ev.now false
      · simp only [c4, decide_false, Bool.false_eq_true, if_false, Bool.not_false, Bool.true_and]
        refine Ev.bind (f := fun k t => _) (ev_without w v (by omega) (by omega)) ?_
        have h := ev_eq l (less w v) (by omega)
        exact Ev.bind (f := fun _ t => some t) h (Ev.now _)
  · have hz2 : (decide ((o.length : Int) > 0) = true) := by
      have : o.length ≠ 0 := fun h => c2 (List.eq_nil_of_length_eq_zero h)
      simp; omega
    simp only [if_pos hz2, if_neg c2]
    refine Ev.bind (f := fun k t => _) (ev_eq w v (by omega)) ?_
    by_cases c4 : w = v
    · simp only [c4, decide_true, if_true, Bool.true_and, nil_len]
      exact Ev.now _
    · simpa [c4] using Ev.now false
def most (l s : List Int) : Bool := decide (l.length < 2 * (l.filter s.contains).length)
theorem less_count (l s : List Int) : (less l s).length + (l.filter s.contains).length = l.length := by
  unfold less
  induction l with
  | nil => rfl
  | cons x xs ih =>
    cases c : s.contains x
    · rw [List.filter_cons_of_pos (by simp only [c]; rfl), List.filter_cons_of_neg (by simp only [c]; exact Bool.false_ne_true)]
      simp only [List.length_cons]
      omega
    · rw [List.filter_cons_of_neg (by simp only [c]; exact Bool.false_ne_true), List.filter_cons_of_pos c]
      simp only [List.length_cons]
      omega
theorem ev_most (l s : List Int) (hl : l.length ≤ 100) (hs : s.length ≤ 100) : Ev (fun k => quorum_most.f k l s) (most l s) := by
  unfold quorum_most.f
  refine Ev.bind (f := fun _ t => _) (ev_without l s hl hs) ?_
  have hc := less_count l s
  have e : decide (wrap64 (2 * wrap64 ((l.length : Int) - ((less l s).length : Int))) > (l.length : Int)) = most l s := by
    rw [w64 (i := (l.length : Int) - ((less l s).length : Int)) (by omega) (by omega), w64 (by omega) (by omega)]
    unfold most
    rw [Bool.eq_iff_iff]
    simp only [decide_eq_true_eq]
    omega
  rw [e]
  exact Ev.now _
def agrees (v o l w s : List Int) : Bool := right v o l w && (most v s && (decide (o = []) || most o s))
theorem ev_agrees (v o l w s : List Int) (hv : v.length ≤ 40) (ho : o.length ≤ 40) (hl : l.length ≤ 40) (hw : w.length ≤ 40) (hs : s.length ≤ 40) : Ev (fun k => quorum_Agrees.f k v o l w s) (agrees v o l w s) := by
  unfold quorum_Agrees.f agrees
  refine Ev.bind (f := fun _ t => _) (ev_right v o l w hv ho hl hw) ?_
  cases right v o l w
  · simpa using Ev.now false
  simp only [if_true, Bool.true_and]
  refine Ev.bind (f := fun _ t => _) (ev_most v s (by omega) (by omega)) ?_
  cases most v s
  · simpa using Ev.now false
  simp only [if_true, Bool.true_and, quorum_group_joint.f, Option.bind_some]
  by_cases c2 : o = []
  · have hz2 : ¬ (decide ((o.length : Int) > 0) = true) := by rw [c2]; simp
    simp only [if_neg hz2]
    simpa [c2] using Ev.now true
  · have hz2 : (decide ((o.length : Int) > 0) = true) := by
      have : o.length ≠ 0 := fun h => c2 (List.eq_nil_of_length_eq_zero h)
      simp; omega
    simp only [if_pos hz2, c2, decide_false, Bool.false_or]
    exact Ev.bind (f := fun _ t => some t) (ev_most o s (by omega) (by omega)) (Ev.now _)
theorem clone (l : List Int) (hl : l.length ≤ 100) : slices_Clone_int_int.f l = some l := by
  unfold slices_Clone_int_int.f
  rw [if_pos (by simp; omega)]
  rfl
def next (v o l w : List Int) : List Int × List Int × List Int × List Int × Bool :=
  if right v o l w = true ∧ w ≠ [] then (if o = [] then (w, v, [], w, true) else (v, [], [], [], true)) else ([], [], [], [], false)
theorem ev_next (v o l w : List Int) (hv : v.length ≤ 40) (ho : o.length ≤ 40) (hl : l.length ≤ 40) (hw : w.length ≤ 40) : Ev (fun k => quorum_Next.f k v o l w) (next v o l w) := by
  unfold quorum_Next.f
  refine Ev.bind (f := fun _ t => _) (ev_right v o l w hv ho hl hw) ?_
  unfold next
  cases c : right v o l w
  · simp only [Bool.false_eq_true, if_false, false_and, Bool.not_false]
    exact Ev.step (f := fun _ => some ([], [], [], [], false)) (fun k => by simp only [quorum_Next.j0, if_true]) (Ev.now _)
  · simp only [if_true, true_and, quorum_group_changes.f, Option.bind_some]
    by_cases c3 : w = []
    · have hz3 : (decide ((w.length : Int) > 0)) = false := by rw [c3]; simp
      rw [hz3]
      refine Ev.step (f := fun _ => some ([], [], [], [], false)) (fun k => by simp only [quorum_Next.j0, Bool.not_false, if_true]) (by simpa [c3] using Ev.now _)
    · have hz3 : (decide ((w.length : Int) > 0)) = true := by
        have : w.length ≠ 0 := fun h => c3 (List.eq_nil_of_length_eq_zero h)
        simp; omega
      rw [hz3, if_pos c3]
      by_cases c2 : o = []
      · refine Ev.step (f := fun _ => some (w, v, [], w, true)) (fun k => ?_) (by rw [if_pos c2]; exact Ev.now _)
        have hz2 : (decide ((o.length : Int) > 0)) = false := by rw [c2]; simp
        simp only [quorum_Next.j0, Bool.not_true, Bool.false_eq_true, if_false, quorum_group_joint.f, Option.bind_some, hz2, clone v (by omega), clone w (by omega)]
      · refine Ev.step (f := fun _ => some (v, [], [], [], true)) (fun k => ?_) (by rw [if_neg c2]; exact Ev.now _)
        have hz2 : (decide ((o.length : Int) > 0)) = true := by
          have : o.length ≠ 0 := fun h => c2 (List.eq_nil_of_length_eq_zero h)
          simp; omega
        simp only [quorum_Next.j0, Bool.not_true, Bool.false_eq_true, if_false, quorum_group_joint.f, Option.bind_some, hz2, if_true, clone v (by omega)]
end Go.Proofs.Ytkilmclncpmjnaa.P06t
