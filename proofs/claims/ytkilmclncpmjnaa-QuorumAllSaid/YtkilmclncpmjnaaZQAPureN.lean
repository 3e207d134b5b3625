import Derived.Test.YtkilmclncpmjnaaZQAPureR
import Derived.Test.YtkilmclncpmjnaaZQAP06tx10
set_option linter.unusedSimpArgs false
namespace Go.Proofs.Ytkilmclncpmjnaa.P06t
open Go.RowKit Go.Proofs.YtkilmclncpmjnaaW.PrintWords Go.Proofs.YtkilmclncpmjnaaW.PrintLast Go.Proofs.YtkilmclncpmjnaaW.PrintMore
def Rise (l : List Int) : Prop := l.Pairwise (· < ·)
theorem rise_ext : ∀ a b : List Int, Rise a → Rise b → (∀ x, x ∈ a ↔ x ∈ b) → a = b
  | [], [], _, _, _ => rfl
  | [], y :: b, _, _, h => absurd ((h y).2 (by simp)) (by simp)
  | x :: a, [], _, _, h => absurd ((h x).1 (by simp)) (by simp)
  | x :: a, y :: b, ha, hb, h => by
    obtain ⟨a1, a2⟩ := List.pairwise_cons.1 ha
    obtain ⟨b1, b2⟩ := List.pairwise_cons.1 hb
    have e : x = y := by
      rcases List.mem_cons.1 ((h x).1 (by simp)) with e | e
      · exact e
      · rcases List.mem_cons.1 ((h y).2 (by simp)) with e' | e'
        · exact e'.symm
        · have h1 := b1 x e
          have h2 := a1 y e'
          omega
    subst e
    congr 1
    refine rise_ext a b a2 b2 fun z => ⟨fun hz => ?_, fun hz => ?_⟩
    · rcases List.mem_cons.1 ((h z).1 (List.mem_cons_of_mem _ hz)) with e | e
      · have := a1 z hz
        omega
      · exact e
    · rcases List.mem_cons.1 ((h z).2 (List.mem_cons_of_mem _ hz)) with e | e
      · have := b1 z hz
        omega
      · exact e
theorem compact_spec (d : Array Int) (hs : ∀ i j, i ≤ j → j < d.size → d[i]! ≤ d[j]!) : ∀ m, m ≤ d.size →
    Rise (Lib.compactUpTo d m) ∧ ∀ x, x ∈ Lib.compactUpTo d m ↔ ∃ j, j < m ∧ d[j]! = x := by
  intro m
  induction m with
  | zero => exact fun _ => ⟨by simp [Lib.compactUpTo, Rise], fun x => by simp [Lib.compactUpTo]⟩
  | succ m ih =>
    intro hm
    obtain ⟨i1, i2⟩ := ih (by omega)
    rw [Lib.compactUpTo_succ]
    cases hk : Lib.keeps d m
    · have h0 : 0 < m := by
        rcases Nat.eq_zero_or_pos m with h | h
        · rw [h, Lib.keeps_lt_one d 0 (by omega)] at hk; cases hk
        · exact h
      have he : d[m]! = d[m - 1]! := by
        rcases Classical.em (d[m]! = d[m - 1]!) with h | h
        · exact h
        · rw [Lib.keeps_pos h] at hk; cases hk
      simp only [Bool.false_eq_true, if_false, List.append_nil]
      refine ⟨i1, fun x => ?_⟩
      rw [i2]
      constructor
      · rintro ⟨j, hj, e⟩; exact ⟨j, by omega, e⟩
      · rintro ⟨j, hj, e⟩
        rcases Nat.lt_or_ge j m with h | h
        · exact ⟨j, h, e⟩
        · obtain rfl : j = m := by omega
          exact ⟨j - 1, by omega, he ▸ e⟩
    · simp only [if_true]
      refine ⟨List.pairwise_append.2 ⟨i1, by simp, fun x hx y hy => ?_⟩, fun x => ?_⟩
      · obtain rfl : y = d[m]! := by simpa using hy
        obtain ⟨j, hj, rfl⟩ := (i2 x).1 hx
        have hne : d[m]! ≠ d[m - 1]! := by
          intro e
          rw [Lib.keeps_neg (by omega) e] at hk; cases hk
        have h1 := hs j (m - 1) (by omega) (by omega)
        have h2 := hs (m - 1) m (by omega) (by omega)
        omega
      · rw [List.mem_append, i2]
        constructor
        · rintro (⟨j, hj, e⟩ | h)
          · exact ⟨j, by omega, e⟩
          · exact ⟨m, by omega, (by simpa using h : x = d[m]!).symm⟩
        · rintro ⟨j, hj, e⟩
          rcases Nat.lt_or_ge j m with h | h
          · exact .inl ⟨j, h, e⟩
          · obtain rfl : j = m := by omega
            right; simpa using e.symm
theorem compact_rise (l : List Int) : Rise (Lib.compact (l.mergeSort fun x y => decide (x ≤ y))) ∧ ∀ x, x ∈ Lib.compact (l.mergeSort fun x y => decide (x ≤ y)) ↔ x ∈ l := by
  have hp : (l.mergeSort fun x y => decide (x ≤ y)).Pairwise (· ≤ ·) := by
    have h := List.pairwise_mergeSort (le := fun x y : Int => decide (x ≤ y)) (fun a b c h1 h2 => by
      simp only [decide_eq_true_eq] at *; omega) (fun a b => by
      simp only [Bool.or_eq_true, decide_eq_true_eq]; omega) l
    exact h.imp fun {a b} h => by simpa using h
  obtain ⟨m, hm⟩ : ∃ m, m = l.mergeSort fun x y => decide (x ≤ y) := ⟨_, rfl⟩
  rw [← hm] at hp ⊢
  have hs : ∀ i j, i ≤ j → j < m.toArray.size → m.toArray[i]! ≤ m.toArray[j]! := by
    intro i j hij hj
    have hj' : j < m.length := by simpa using hj
    have hi' : i < m.length := by omega
    rw [getElem!_pos _ j (by simpa using hj'), getElem!_pos _ i (by simpa using hi')]
    rcases Nat.lt_or_ge i j with h | h
    · have := List.pairwise_iff_getElem.1 hp i j hi' hj' h
      simpa using this
    · obtain rfl : i = j := by omega
      omega
  obtain ⟨c1, c2⟩ := compact_spec m.toArray hs m.length (by simp)
  refine ⟨c1, fun x => ?_⟩
  unfold Lib.compact
  rw [c2]
  have hx : x ∈ l ↔ x ∈ m := by rw [hm, List.mem_mergeSort]
  rw [hx]
  constructor
  · rintro ⟨j, hj, rfl⟩
    rw [getElem!_pos _ j (by simpa using hj)]
    simp
  · intro h
    obtain ⟨j, hj, e⟩ := List.getElem_of_mem h
    exact ⟨j, hj, by rw [getElem!_pos _ j (by simpa using hj)]; simpa using e⟩
theorem mn_le (a b : Int) : mn a b ≤ a ∧ mn a b ≤ b ∧ (mn a b = a ∨ mn a b = b) := by unfold mn; split <;> omega
theorem fold_mn (l : List Int) : ∀ m, (l.foldl mn m ≤ m ∧ ∀ x ∈ l, l.foldl mn m ≤ x) ∧ (l.foldl mn m = m ∨ l.foldl mn m ∈ l) := by
  induction l with
  | nil => intro m; simp
  | cons y ys ih =>
    intro m
    obtain ⟨⟨i1, i2⟩, i3⟩ := ih (mn m y)
    obtain ⟨a, b, c⟩ := mn_le m y
    simp only [List.foldl_cons]
    refine ⟨⟨by omega, fun x hx => ?_⟩, ?_⟩
    · rcases List.mem_cons.1 hx with rfl | h
      · omega
      · exact i2 x h
    · rcases i3 with e | e
      · rcases c with c | c
        · exact .inl (by omega)
        · right; rw [e, c]; simp
      · exact .inr (List.mem_cons_of_mem _ e)
theorem ev_nodes_l1 (acc : List Int) (ha : acc.length ≤ 1000) (R : List Int) (suf : List Int) : ∀ (pre : List Int) (m : Int), (pre ++ suf).length ≤ 1000 →
    Ev (fun k => watershedref06_Nodes.l0 k (less (pre ++ suf) [suf.foldl mn m]) (acc ++ [suf.foldl mn m])) R → Ev (fun k => watershedref06_Nodes.l1 k (pre ++ suf) acc m (pre.length : Int)) R := by
  induction suf with
  | nil =>
    intro pre m hl hR
    refine Ev.step (f := fun k => (watershedref06_less.f k (pre ++ []) [m]).bind fun t => watershedref06_Nodes.l0 k t (acc ++ [m])) (fun k => ?_) ?_
    · simp only [watershedref06_Nodes.l1, List.append_nil]
      rw [if_neg (by omega), if_pos (by omega)]
    · exact Ev.bind (f := fun k t => watershedref06_Nodes.l0 k t (acc ++ [m])) (ev_rless _ [m] hl (by simp)) hR
  | cons x xs ih =>
    intro pre m hl hR
    have hlen := len_mid pre x xs
    have hb : ((pre ++ x :: xs).length : Int) ≤ 1000 := by omega
    have hw : wrap64 ((pre.length : Int) + 1) = ((pre ++ [x]).length : Int) := by rw [w64 (by omega) (by omega)]; simp
    refine Ev.step (f := fun k => watershedref06_Nodes.l1 k (pre ++ x :: xs) acc (mn m x) ((pre ++ [x]).length : Int)) (fun k => ?_) ?_
    · simp only [watershedref06_Nodes.l1]
      rw [if_pos (by omega), if_pos (by omega), rd_mid, hw]
    · have h := ih (pre ++ [x]) (mn m x) (by simpa using hl)
      rw [List.append_assoc, List.singleton_append] at h
      exact h hR
theorem ev_nodes_l0 : ∀ (n : Nat) (x3 : List Int), x3.length ≤ n → ∃ r : List Int, (∀ acc : List Int, x3.length + acc.length ≤ 1000 → Ev (fun k => watershedref06_Nodes.l0 k x3 acc) (acc ++ r)) ∧ Rise r ∧ (∀ x, x ∈ r ↔ x ∈ x3) ∧ r.length ≤ x3.length := by
  intro n
  induction n with
  | zero =>
    intro x3 h
    obtain rfl : x3 = [] := by cases x3 <;> simp_all
    refine ⟨[], fun acc _ => ?_, by simp [Rise], by simp, by simp⟩
    refine Ev.step (f := fun _ => some acc) (fun k => ?_) (by simpa using Ev.now acc)
    simp only [watershedref06_Nodes.l0]
    rw [if_neg (by simp)]
  | succ n ih =>
    intro x3 h
    cases x3 with
    | nil =>
      refine ⟨[], fun acc _ => ?_, by simp [Rise], by simp, by simp⟩
      refine Ev.step (f := fun _ => some acc) (fun k => ?_) (by simpa using Ev.now acc)
      simp only [watershedref06_Nodes.l0]
      rw [if_neg (by simp)]
    | cons y ys =>
      obtain ⟨⟨f1, f2⟩, f3⟩ := fold_mn (y :: ys) y
      obtain ⟨m, hm⟩ : ∃ m, m = (y :: ys).foldl mn y := ⟨_, rfl⟩
      rw [← hm] at f1 f2 f3
      have hmem : m ∈ y :: ys := by rcases f3 with e | e; (rw [e]; simp); exact e
      have hlt : (less (y :: ys) [m]).length < (y :: ys).length := by
        unfold less
        refine List.length_filter_lt_length_iff_exists.2 ⟨m, hmem, by simp⟩
      obtain ⟨r, r1, r2, r3, r4⟩ := ih (less (y :: ys) [m]) (by simp at h; simp at hlt; omega)
      have hin : ∀ x, x ∈ less (y :: ys) [m] ↔ x ∈ y :: ys ∧ x ≠ m := fun x => by unfold less; rw [List.mem_filter]; simp
      refine ⟨m :: r, fun acc ha => ?_, List.pairwise_cons.2 ⟨fun x hx => ?_, r2⟩, fun x => ?_, by simp at hlt ⊢; omega⟩
      · refine Ev.step (f := fun k => watershedref06_Nodes.l1 k (y :: ys) acc y 0) (fun k => ?_) ?_
        · simp only [watershedref06_Nodes.l0]
          rw [if_pos (by simp), if_pos (by simp)]
          rfl
        · have e := ev_nodes_l1 acc (by omega) (acc ++ m :: r) (y :: ys) [] y (by simp at ha ⊢; omega) (by
            rw [← hm, List.nil_append]
            have := r1 (acc ++ [m]) (by simp at ha hlt ⊢; omega)
            simpa using this)
          simpa using e
      · have h1 := ((r3 x).1 hx)
        obtain ⟨h1, h2⟩ := (hin x).1 h1
        have := f2 x h1
        omega
      · rw [List.mem_cons, r3, hin]
        constructor
        · rintro (rfl | ⟨h, _⟩)
          · exact hmem
          · exact h
        · intro h
          rcases Classical.em (x = m) with e | e
          · exact .inl e
          · exact .inr ⟨h, e⟩
theorem ev_nodes (a b c d : List Int) (ha : a.length ≤ 40) (hb : b.length ≤ 40) (hc : c.length ≤ 40) : Ev (fun k => watershedref06_Nodes.f k a b c d) (Nd.nodesL a b c) ∧ (Nd.nodesL a b c).length ≤ 1000 := by
  obtain ⟨r, r1, r2, r3, r4⟩ := ev_nodes_l0 _ (a ++ b ++ c) (Nat.le_refl _)
  have e : Nd.nodesL a b c = r := by
    obtain ⟨c1, c2⟩ := compact_rise (a ++ b ++ c)
    exact rise_ext _ _ c1 r2 fun x => (c2 x).trans (r3 x).symm
  rw [e]
  refine ⟨?_, by simp at r4; omega⟩
  obtain ⟨K, hK⟩ := r1 [] (by simp; omega)
  refine ⟨K, fun k hk => ?_⟩
  have := hK k hk
  simp only [watershedref06_Nodes.f, Option.bind_some, List.nil_append, List.length_nil]
  rw [if_pos (by omega), if_pos (by omega), if_pos (by simp; omega)]
  simpa using this
theorem ev_sameX_l (suf : List Int) : ∀ (pre : List Int), (pre ++ suf).length ≤ 1000 → Ev (fun k => watershedkit_SameInts.l0 k (pre ++ suf) (pre ++ suf) (pre.length : Int)) true := by
  induction suf with
  | nil =>
    intro pre hl
    refine Ev.step (f := fun _ => some true) (fun k => ?_) (Ev.now _)
    simp only [watershedkit_SameInts.l0, List.append_nil]
    rw [if_neg (by omega)]
  | cons x xs ih =>
    intro pre hl
    have hlen := len_mid pre x xs
    have hb : ((pre ++ x :: xs).length : Int) ≤ 1000 := by omega
    have hw : wrap64 ((pre.length : Int) + 1) = ((pre ++ [x]).length : Int) := by rw [w64 (by omega) (by omega)]; simp
    refine Ev.step (f := fun k => watershedkit_SameInts.l0 k (pre ++ x :: xs) (pre ++ x :: xs) ((pre ++ [x]).length : Int)) (fun k => ?_) ?_
    · simp only [watershedkit_SameInts.l0]
      rw [if_pos (by omega), if_pos (by omega), if_pos (by omega), if_pos trivial, hw]
    · have h := ih (pre ++ [x]) (by simpa using hl)
      rw [List.append_assoc, List.singleton_append] at h
      exact h
theorem ev_sameX (a : List Int) (ha : a.length ≤ 1000) : Ev (fun k => watershedkit_SameInts.f k a a) true := by
  have h := ev_sameX_l a [] (by simpa using ha)
  simpa [watershedkit_SameInts.f] using h
end Go.Proofs.Ytkilmclncpmjnaa.P06t
