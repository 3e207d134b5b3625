import Derived.Test.YtbmnhpihlkljdaaPureC
import Derived.Test.YtbmnhpihlkljdaaP04cx5
namespace Go.Proofs.Ytbmnhpihlkljdaa.P04c
open Go.RowKit Go.Proofs.YtbmnhpihlkljdaaW.PrintWords Go.Proofs.YtbmnhpihlkljdaaW.PrintLast Go.Proofs.YtbmnhpihlkljdaaW.PrintMore
theorem ev_within (a b c d : ByteArray) : Ev (fun k => span_Within.f k a b c d) (within a b c d) := by
  obtain ⟨K1, h1⟩ := ev_right a b
  obtain ⟨K2, h2⟩ := ev_right c d
  refine ⟨max K1 K2, fun k hk => ?_⟩
  have hc : (cmp c a ≤ 0) ↔ lt a c = false := by
    have := cmp_le c a
    by_cases e : cmp c a ≤ 0 <;> simp [e] at this <;> simp [e, this]
  simp only [span_Within.f, span_ends.f, Option.bind_some, over_eq, compare_eq, h1 k (by omega), h2 k (by omega), within, hc]
  cases right a b <;> cases right c d <;> cases lt a c <;> simp
/-- The last loop: each piece is within. -/
theorem ev_l2 (lo hi : ByteArray) (suf : List S26) : ∀ (pre : List S26), (pre ++ suf).length < 4398046511104 → (∀ s ∈ suf, right s.f0 s.f1 = true ∧ within s.f0 s.f1 lo hi = true) →
    Ev (fun k => watershedlaw04_SpanCuts.l2 k (pre ++ suf) (pre.length : Int) lo hi) true := by
  induction suf with
  | nil =>
    intro pre hl h
    refine Ev.step (f := fun _ => some true) (fun k => ?_) (Ev.now _)
    simp only [watershedlaw04_SpanCuts.l2, List.append_nil]
    rw [if_neg (by omega)]
  | cons s r ih =>
    intro pre hl h
    have hlen := len_mid pre s r
    have hw : wrap64 ((pre.length : Int) + 1) = ((pre ++ [s]).length : Int) := by rw [w64 (by omega) (by omega)]; simp
    obtain ⟨g1, g2⟩ := h s (by simp)
    have i1 := ih (pre ++ [s]) (by simpa using hl) (fun x hx => h x (by simp [hx]))
    rw [List.append_assoc, List.singleton_append] at i1
    obtain ⟨K1, e1⟩ := ev_within s.f0 s.f1 lo hi
    obtain ⟨K2, e2⟩ := ev_right s.f0 s.f1
    obtain ⟨K3, e3⟩ := i1
    dsimp only at e1 e2 e3
    refine ⟨max K1 (max K2 K3) + 1, fun k hk => ?_⟩
    obtain ⟨k, rfl⟩ : ∃ j, k = j + 1 := ⟨k - 1, by omega⟩
    simp only [watershedlaw04_SpanCuts.l2]
    rw [if_pos (by omega), if_pos (by omega), rdT_mid, e1 k (by omega), hw]
    simp only [Option.bind_some, g2, if_true]
    rw [e2 k (by omega)]
    simp only [Option.bind_some, g1, if_true]
    exact e3 k (by omega)
theorem cnt_le (l : List S26) (y : ByteArray) : cnt l y ≤ l.length := List.countP_le_length
/-- The inner loop counts the pieces that have a key. -/
theorem ev_l1 (x3 : List ByteArray) (l : List S26) (ok : Bool) (i : Nat) (lo hi c d ml mh : ByteArray) (hl : l.length < 4398046511104) (hi3 : i < x3.length) (hi4 : x3.length < 4398046511104)
    (R : Ev (fun k => watershedlaw04_SpanCuts.l0 k x3 l ok ((i + 1 : Nat) : Int) lo hi c d ml mh) true)
    (hcnt : cnt l (rdOf ByteArray.empty x3 (i : Int)) = if has lo hi (rdOf ByteArray.empty x3 (i : Int)) = true then 1 else 0)
    (hm : (has lo hi (rdOf ByteArray.empty x3 (i : Int)) && has c d (rdOf ByteArray.empty x3 (i : Int))) = (ok && has ml mh (rdOf ByteArray.empty x3 (i : Int)))) :
    ∀ (suf pre : List S26) (n : Nat), l = pre ++ suf → n + cnt suf (rdOf ByteArray.empty x3 (i : Int)) = cnt l (rdOf ByteArray.empty x3 (i : Int)) →
      Ev (fun k => watershedlaw04_SpanCuts.l1 k x3 l ok (i : Int) (n : Int) (pre.length : Int) lo hi c d ml mh) true := by
  obtain ⟨y, hy⟩ : ∃ y, y = rdOf ByteArray.empty x3 (i : Int) := ⟨_, rfl⟩
  rw [← hy] at hcnt hm
  rw [← hy]
  have hw1 : wrap64 ((i : Int) + 1) = ((i + 1 : Nat) : Int) := by rw [w64 (by omega) (by omega)]; omega
  intro suf
  induction suf with
  | nil =>
    intro pre n e hn
    obtain ⟨K1, e1⟩ := ev_has lo hi y
    obtain ⟨K2, e2⟩ := ev_has c d y
    obtain ⟨K3, e3⟩ := ev_has ml mh y
    obtain ⟨K4, e4⟩ := R
    have hn' : n = if has lo hi y = true then 1 else 0 := by rw [← hcnt, ← hn]; simp [cnt]
    dsimp only at e1 e2 e3 e4
    refine ⟨max K1 (max K2 (max K3 K4)) + 1, fun k hk => ?_⟩
    obtain ⟨k, rfl⟩ : ∃ j, k = j + 1 := ⟨k - 1, by omega⟩
    have hp : (pre.length : Int) = (l.length : Int) := by rw [e]; simp
    simp only [watershedlaw04_SpanCuts.l1]
    rw [if_neg (by omega), if_pos (by omega), if_pos (by omega), ← hy, hw1, e1 k (by omega), e4 k (by omega)]
    simp only [Option.bind_some, e2 k (by omega), e3 k (by omega)]
    cases h1 : has lo hi y <;> cases h2 : has c d y <;> cases h3 : ok <;> cases h4 : has ml mh y <;> simp [h1, h2, h3, h4] at hm hn' ⊢ <;> subst hn' <;> simp
  | cons s r ih =>
    intro pre n e hn
    have hlen : (l.length : Int) = pre.length + 1 + r.length := by rw [e]; exact len_mid pre s r
    have hw : wrap64 ((pre.length : Int) + 1) = ((pre ++ [s]).length : Int) := by rw [w64 (by omega) (by omega)]; simp
    have hc := cnt_le l y
    have hw2 : wrap64 ((n : Int) + 1) = ((n + 1 : Nat) : Int) := by rw [w64 (by omega) (by omega)]; omega
    have hr : rd_T26 l (pre.length : Int) = s := by rw [e]; exact rdT_mid pre s r
    obtain ⟨K1, e1⟩ := ev_has s.f0 s.f1 y
    cases hs : has s.f0 s.f1 y
    · obtain ⟨K2, e2⟩ := ih (pre ++ [s]) n (by rw [e]; simp) (by rw [← hn]; simp [cnt, hs])
      dsimp only at e1 e2
      refine ⟨max K1 K2 + 1, fun k hk => ?_⟩
      obtain ⟨k, rfl⟩ : ∃ j, k = j + 1 := ⟨k - 1, by omega⟩
      simp only [watershedlaw04_SpanCuts.l1]
      rw [if_pos (by omega), if_pos (by omega), if_pos (by omega), if_pos (by omega), hr, ← hy, e1 k (by omega), hw]
      simp only [Option.bind_some, hs, Bool.false_eq_true, if_false]
      exact e2 k (by omega)
    · obtain ⟨K2, e2⟩ := ih (pre ++ [s]) (n + 1) (by rw [e]; simp) (by rw [← hn]; simp [cnt, hs]; omega)
      dsimp only at e1 e2
      refine ⟨max K1 K2 + 1, fun k hk => ?_⟩
      obtain ⟨k, rfl⟩ : ∃ j, k = j + 1 := ⟨k - 1, by omega⟩
      simp only [watershedlaw04_SpanCuts.l1]
      rw [if_pos (by omega), if_pos (by omega), if_pos (by omega), if_pos (by omega), hr, ← hy, e1 k (by omega), hw, hw2]
      simp only [Option.bind_some, hs, if_true]
      exact e2 k (by omega)
theorem ev_l0 (x3 : List ByteArray) (l : List S26) (ok : Bool) (lo hi c d ml mh : ByteArray) (hl : l.length < 4398046511104) (hi4 : x3.length < 4398046511104)
    (hcnt : ∀ y, cnt l y = if has lo hi y = true then 1 else 0) (hm : ∀ y, (has lo hi y && has c d y) = (ok && has ml mh y))
    (hin : ∀ s ∈ l, right s.f0 s.f1 = true ∧ within s.f0 s.f1 lo hi = true) :
    ∀ (m i : Nat), x3.length = i + m → Ev (fun k => watershedlaw04_SpanCuts.l0 k x3 l ok (i : Int) lo hi c d ml mh) true := by
  intro m
  induction m with
  | zero =>
    intro i h
    refine Ev.step (f := fun k => watershedlaw04_SpanCuts.l2 k ([] ++ l) (([] : List S26).length : Int) lo hi) (fun k => ?_) (ev_l2 lo hi l [] (by simpa using hl) hin)
    simp only [watershedlaw04_SpanCuts.l0]
    rw [if_neg (by omega)]
    rfl
  | succ m ih =>
    intro i h
    have h1 := ev_l1 x3 l ok i lo hi c d ml mh hl (by omega) hi4 (ih (i + 1) (by omega)) (hcnt _) (hm _) l [] 0 rfl (by simp)
    refine Ev.step (f := fun k => watershedlaw04_SpanCuts.l1 k x3 l ok (i : Int) ((0 : Nat) : Int) (([] : List S26).length : Int) lo hi c d ml mh) (fun k => ?_) h1
    simp only [watershedlaw04_SpanCuts.l0]
    rw [if_pos (by omega)]
    rfl
theorem few_len (l : List ByteArray) : ∀ (k : Nat), (∀ i, watershedlaw04_few.l0 k l i = some true → l.length ≤ 60) ∧ (∀ i b, watershedlaw04_few.j1 k l i b = some true → l.length ≤ 60)
  | 0 => ⟨fun i h => by simp [watershedlaw04_few.l0] at h, fun i b h => by simp [watershedlaw04_few.j1] at h⟩
  | k + 1 => by
    obtain ⟨h0, h1⟩ := few_len l k
    refine ⟨fun i h => ?_, fun i b h => ?_⟩
    · simp only [watershedlaw04_few.l0] at h
      split at h
      · exact h1 _ _ h
      · exact h1 _ _ h
    · simp only [watershedlaw04_few.j1] at h
      split at h
      · split at h
        · split at h
          · split at h
            · cases h
            · exact h0 _ h
          · cases h
        · cases h
      · have := Option.some.inj h
        have := of_decide_eq_true this
        omega
theorem cut_len (hi : ByteArray) : ∀ (suf : List ByteArray) (lo : ByteArray), (cutL hi lo suf).length ≤ suf.length + 1
  | [], lo => by simp [cutL]
  | x :: xs, lo => by
    unfold cutL
    split
    · have := cut_len hi xs x
      simp; omega
    · have := cut_len hi xs lo
      simp; omega
theorem not_has {lo hi : ByteArray} (h : right lo hi = false) (y : ByteArray) : has lo hi y = false := by simp [has, h]
theorem ev_j0 (x2 x3 : List ByteArray) (a b c d : ByteArray) (h2 : x2.length ≤ 60) (h3 : x3.length ≤ 60) : Ev (fun k => watershedlaw04_SpanCuts.j0 k x2 x3 false a b c d) true := by
  obtain ⟨K1, e1⟩ := ev_cut a b x2 (by omega)
  obtain ⟨K2, e2⟩ := ev_meet a b c d
  obtain ⟨K3, e3⟩ := ev_cut ⟨#[]⟩ ⟨#[]⟩ x2 (by omega)
  have hc := cutTexts_le x2
  have hr0 : right ⟨#[]⟩ ⟨#[]⟩ = true := by simp [right, isE, toList_eq]
  have hp : parts (cut ⟨#[]⟩ ⟨#[]⟩ x2) = true := by
    unfold parts cut
    rw [if_pos hr0, cut_parts _ _ _ _ hr0 rfl]
    simp [isE, toList_eq]
  have hl0 : (cut ⟨#[]⟩ ⟨#[]⟩ x2).length < 4398046511104 := by
    unfold cut
    rw [if_pos hr0]
    have := cut_len ⟨#[]⟩ (cutTexts x2) ⟨#[]⟩
    omega
  have hl : (cut a b x2).length < 4398046511104 := by
    unfold cut
    split
    · have := cut_len b (cutTexts x2) a
      omega
    · simp
  obtain ⟨K4, e4⟩ := ev_parts _ hl0
  obtain ⟨K5, e5⟩ := ev_right a b
  rw [hp] at e4
  have hcnt : ∀ y, cnt (cut a b x2) y = if has a b y = true then 1 else 0 := fun y => by
    unfold cut
    cases h : right a b
    · rw [not_has h]; simp [cnt]
    · rw [if_pos rfl]; exact cut_cnt b y _ a h
  have hin : ∀ s ∈ cut a b x2, right s.f0 s.f1 = true ∧ within s.f0 s.f1 a b = true := fun s hs => by
    unfold cut at hs
    cases h : right a b
    · rw [h] at hs; simp at hs
    · rw [if_pos h] at hs; exact cut_within b _ a a h h (lt_irr _) s hs
  obtain ⟨K6, e6⟩ := ev_l0 x3 (cut a b x2) (meet a b c d).2.2 a b c d (meet a b c d).1 (meet a b c d).2.1 hl (by omega) hcnt (meet_has a b c d) hin x3.length 0 (by omega)
  dsimp only at e1 e2 e3 e4 e5 e6
  refine ⟨max K1 (max K2 (max K3 (max K4 (max K5 K6)))) + 2, fun k hk => ?_⟩
  obtain ⟨k, rfl⟩ : ∃ j, k = j + 2 := ⟨k - 2, by omega⟩
  have e6' := e6 k (by omega)
  simp only [watershedlaw04_SpanCuts.j0, span_All.f, Option.bind_some, e1 (k + 1) (by omega), e2 (k + 1) (by omega), e3 (k + 1) (by omega), e4 (k + 1) (by omega), e5 (k + 1) (by omega), Bool.false_eq_true, if_false, if_true, watershedlaw04_SpanCuts.j1]
  by_cases z : ((cut a b x2).length : Int) = 0
  · have hrf : right a b = false := by
      cases h : right a b
      · rfl
      · exfalso
        unfold cut at z
        rw [if_pos h] at z
        have := cut_ne b (cutTexts x2) a
        have hz : (cutL b a (cutTexts x2)).length = 0 := by omega
        exact this (List.eq_nil_of_length_eq_zero hz)
    rw [if_pos z, hrf]
    simpa using e6'
  · rw [if_neg z]
    exact e6'
theorem spanCuts_true (a b c d : ByteArray) (x2 x3 : List ByteArray) (h : x2.length < 8796093022204) : Ev (fun k => watershedlaw04_SpanCuts.f k a b c d x2 x3) true := by
  unfold watershedlaw04_SpanCuts.f
  refine Ev.bind (f := fun k t => if t = true then ((some (([a, b, c, d] : List ByteArray) : List ByteArray)).bind fun y198 => (if y198.length + x2.length < 8796093022208 then ((watershedlaw04_few.f k (y198 ++ x2)).bind fun t204 => (if t204 = true then ((watershedlaw04_few.f k x3).bind fun t205 => (watershedlaw04_SpanCuts.j0 k x2 x3 (!t205) a b c d)) else (watershedlaw04_SpanCuts.j0 k x2 x3 true a b c d))) else (none))) else none) ev_awake ?_
  have hlen : ([a, b, c, d] : List ByteArray).length + x2.length < 8796093022208 := by simp; omega
  simp only [if_true, Option.bind_some, if_pos hlen]
  have ht : Ev (fun k => watershedlaw04_SpanCuts.j0 k x2 x3 true a b c d) true := Ev.step (f := fun _ => some true) (fun k => by simp [watershedlaw04_SpanCuts.j0]) (Ev.now _)
  obtain ⟨b1, h1⟩ := ev_few ([a, b, c, d] ++ x2)
  refine Ev.bind (f := fun k t204 => if t204 = true then ((watershedlaw04_few.f k x3).bind fun t205 => (watershedlaw04_SpanCuts.j0 k x2 x3 (!t205) a b c d)) else (watershedlaw04_SpanCuts.j0 k x2 x3 true a b c d)) h1 ?_
  cases hb1 : b1
  · simpa using ht
  · simp only [if_true]
    obtain ⟨b2, h2⟩ := ev_few x3
    refine Ev.bind (f := fun k t205 => watershedlaw04_SpanCuts.j0 k x2 x3 (!t205) a b c d) h2 ?_
    cases hb2 : b2
    · simpa using ht
    · obtain ⟨k1, g1⟩ := h1.rounds
      obtain ⟨k2, g2⟩ := h2.rounds
      rw [hb1] at g1
      rw [hb2] at g2
      have n1 := (few_len _ k1).1 0 g1
      have n2 := (few_len _ k2).1 0 g2
      have n1' : x2.length ≤ 60 := by simp at n1; omega
      exact ev_j0 x2 x3 a b c d n1' n2
#print axioms spanCuts_true
end Go.Proofs.Ytbmnhpihlkljdaa.P04c
