import Derived.Test.YtbmnhpihlkljdaaPureAc
namespace Go.Proofs.Ytbmnhpihlkljdaa.P04c
open Go.RowKit Go.Proofs.YtbmnhpihlkljdaaW.PrintWords Go.Proofs.YtbmnhpihlkljdaaW.PrintLast Go.Proofs.YtbmnhpihlkljdaaW.PrintMore
theorem lt_irr (x : ByteArray) : lt x x = false := bL_irr _
theorem lt_trans {x y z : ByteArray} (h : lt x y = true) (k : lt y z = true) : lt x z = true := bL_trans _ _ _ h k
theorem lt_asym {x y : ByteArray} (h : lt x y = true) : lt y x = false := bL_asym _ _ h
theorem lt_tri {x y : ByteArray} (h : lt x y = false) : x = y ∨ lt y x = true := (bL_tri _ _ h).imp (fun e => toList_inj e) id
theorem lt_of_le {x y z : ByteArray} (h : lt y x = false) (k : lt y z = true) : lt x z = true := by
  rcases lt_tri h with e | e
  · rw [← e]; exact k
  · exact lt_trans e k
theorem le_trans' {x y z : ByteArray} (h : lt y x = false) (k : lt z y = false) : lt z x = false := by
  cases c : lt z x
  · rfl
  · have := lt_of_le k c
    rw [this] at h; cases h
theorem isE_key {x : ByteArray} (h : key x = true) : isE x = false := by
  have h1 : 1 ≤ x.size := by
    simp [key] at h
    exact h.1.1
  cases c : isE x
  · rfl
  · have : x.toList = [] := by simpa [isE] using c
    rw [isE_size] at this
    omega
theorem isE_lt {x y : ByteArray} (h : isE x = true) : lt y x = false := by
  have : x.toList = [] := by simpa [isE] using h
  unfold lt; rw [this]; exact bL_nil _
/-- A cut that a span has. -/
theorem has_split {lo hi x : ByteArray} (h : has lo hi x = true) (hne : (x.toList == lo.toList) = false) : right lo x = true ∧ right x hi = true ∧ lt lo x = true := by
  simp only [has, Bool.and_eq_true, Bool.not_eq_true'] at h
  obtain ⟨⟨⟨hr, hk⟩, hl⟩, ha⟩ := h
  have hne' : x ≠ lo := fun e => by rw [e] at hne; simp at hne
  have hlt : lt lo x = true := by
    rcases lt_tri hl with e | e
    · exact absurd e hne'
    · exact e
  have hE := isE_key hk
  simp only [right, Bool.and_eq_true] at hr
  refine ⟨?_, ?_, hlt⟩
  · simp [right, hE, hk, hlt]
    simpa using hr.1.1
  · simp only [right, hk, hE, Bool.and_eq_true, Bool.or_true, true_and]
    refine ⟨hr.1.2, ?_⟩
    simpa [above] using ha
theorem has_parts {lo hi x y : ByteArray} (h : has lo hi x = true) (hne : (x.toList == lo.toList) = false) : has lo hi y = (has lo x y || has x hi y) ∧ (has lo x y && has x hi y) = false := by
  obtain ⟨h1, h2, h3⟩ := has_split h hne
  have hr : right lo hi = true := by simp only [has, Bool.and_eq_true] at h; exact h.1.1.1
  have hk : key x = true := by simp only [has, Bool.and_eq_true] at h; exact h.1.1.2
  have ha : above hi x = true := by simp only [has, Bool.and_eq_true] at h; exact h.2
  have hE := isE_key hk
  simp only [has, h1, h2, hr, above, hE, Bool.true_and, Bool.false_or]
  cases key y
  · simp
  · cases c : lt y x
    · have : lt y lo = false := le_trans' (by rw [lt_asym h3]) c
      simp [this]
    · have : above hi y = true := by
        unfold above at ha ⊢
        cases d : isE hi
        · simp [d] at ha ⊢
          exact lt_trans c ha
        · rfl
      unfold above at this
      simp [this]
/-! Meet -/
theorem lt_le {x y z : ByteArray} (h : lt x y = true) (k : lt z y = false) : lt x z = true := by
  rcases lt_tri k with e | e
  · rw [e]; exact h
  · exact lt_trans h e
theorem lt_smax (y a c : ByteArray) : lt y (smax a c) = (lt y a || lt y c) := by
  unfold smax
  cases h : lt a c
  · have h' : Op.bytesLess a.toList c.toList = false := h
    rw [h', if_neg (by simp)]
    cases k : lt y c
    · simp
    · rw [lt_le k h]; rfl
  · have h' : Op.bytesLess a.toList c.toList = true := h
    rw [h', if_pos rfl]
    cases k : lt y a
    · simp
    · rw [lt_trans k h]; rfl
theorem above_meetHi (b d y : ByteArray) : above (meetHi b d) y = (above b y && above d y) := by
  unfold meetHi over
  cases hb : isE b
  · cases hd : isE d
    · cases h : lt b d
      · simp [above, hb, hd]
        intro k; exact lt_le k h
      · simp [above, hb, hd]
        intro k; exact lt_trans k h
    · simp [above, hb, hd]
  · simp [above, hb]
theorem smax_or (a c : ByteArray) : smax a c = a ∨ smax a c = c := by unfold smax; split <;> simp
theorem meetHi_or (b d : ByteArray) : meetHi b d = b ∨ meetHi b d = d := by unfold meetHi; split <;> simp
theorem meet_has (a b c d y : ByteArray) : (has a b y && has c d y) = ((meet a b c d).2.2 && has (meet a b c d).1 (meet a b c d).2.1 y) := by
  cases h1 : right a b
  · simp [meet, has, h1]
  cases h2 : right c d
  · simp [meet, has, h1, h2]
  have e1 : (has a b y && has c d y) = (key y && !lt y (smax a c) && above (meetHi b d) y) := by
    rw [lt_smax, above_meetHi]
    simp only [has, h1, h2]
    cases key y <;> cases lt y a <;> cases lt y c <;> cases above b y <;> cases above d y <;> rfl
  cases h3 : right (smax a c) (meetHi b d)
  · rw [e1]
    simp only [meet, h1, h2, h3, Bool.and_false, Bool.false_eq_true, if_false, Bool.false_and]
    cases k : (key y && !lt y (smax a c) && above (meetHi b d) y)
    · rfl
    · exfalso
      simp only [Bool.and_eq_true, Bool.not_eq_true'] at k
      obtain ⟨⟨k1, k2⟩, k3⟩ := k
      simp only [right, Bool.and_eq_true] at h1 h2
      have r1 : (isE (smax a c) || key (smax a c)) = true := by
        rcases smax_or a c with e | e
        · rw [e]; exact h1.1.1
        · rw [e]; exact h2.1.1
      have r2 : (isE (meetHi b d) || key (meetHi b d)) = true := by
        rcases meetHi_or b d with e | e
        · rw [e]; exact h1.1.2
        · rw [e]; exact h2.1.2
      have r3 : (isE (meetHi b d) || lt (smax a c) (meetHi b d)) = true := by
        unfold above at k3
        cases z : isE (meetHi b d)
        · simp [z] at k3
          simp [lt_of_le k2 k3]
        · rfl
      rw [right, r1, r2, r3] at h3
      cases h3
  · rw [e1]
    simp only [meet, h1, h2, h3, Bool.and_self, if_true, Bool.true_and]
    simp [has, h3]
/-! Pieces -/
def cnt (l : List S26) (y : ByteArray) : Nat := l.countP fun s => has s.f0 s.f1 y
theorem cut_cnt (hi y : ByteArray) : ∀ (suf : List ByteArray) (lo : ByteArray), right lo hi = true → cnt (cutL hi lo suf) y = if has lo hi y = true then 1 else 0
  | [], lo, _ => by
    unfold cutL cnt
    cases c : has lo hi y <;> simp [c]
  | x :: xs, lo, hr => by
    unfold cutL
    by_cases c : (has lo hi x && !(x.toList == lo.toList)) = true
    · rw [if_pos c]
      simp only [Bool.and_eq_true, Bool.not_eq_true'] at c
      obtain ⟨h1, h2, h3⟩ := has_split c.1 c.2
      obtain ⟨h4, h5⟩ := has_parts (y := y) c.1 c.2
      have ih := cut_cnt hi y xs x h2
      unfold cnt at ih ⊢
      rw [List.countP_cons, ih, h4]
      cases d : has lo x y <;> cases e : has x hi y <;> simp [d, e] at h5 ⊢
    · rw [if_neg c]
      exact cut_cnt hi y xs lo hr
theorem cut_ne (hi : ByteArray) : ∀ (suf : List ByteArray) (lo : ByteArray), cutL hi lo suf ≠ []
  | [], lo => by simp [cutL]
  | x :: xs, lo => by
    unfold cutL
    split
    · simp
    · exact cut_ne hi xs lo
theorem cut_parts (hi : ByteArray) : ∀ (suf : List ByteArray) (lo h : ByteArray), right lo hi = true → h.toList = lo.toList → pL h false (cutL hi lo suf) = isE hi
  | [], lo, h, hr, he => by simp [cutL, pL, hr, he]
  | x :: xs, lo, h, hr, he => by
    unfold cutL
    by_cases c : (has lo hi x && !(x.toList == lo.toList)) = true
    · rw [if_pos c]
      simp only [Bool.and_eq_true, Bool.not_eq_true'] at c
      obtain ⟨h1, h2, h3⟩ := has_split c.1 c.2
      have hE : isE x = false := by
        have := c.1
        simp only [has, Bool.and_eq_true] at this
        exact isE_key this.1.1.2
      have ih := cut_parts hi xs x x h2 rfl
      unfold pL
      rw [hE, ih]
      simp [h1, he]
    · rw [if_neg c]
      exact cut_parts hi xs lo h hr he
def within (a b c d : ByteArray) : Bool := right a b && right c d && !lt a c && over d b
theorem cut_within (HI : ByteArray) : ∀ (suf : List ByteArray) (lo LO : ByteArray), right lo HI = true → right LO HI = true → lt lo LO = false → ∀ s ∈ cutL HI lo suf, right s.f0 s.f1 = true ∧ within s.f0 s.f1 LO HI = true
  | [], lo, LO, hr, hR, hl, s, hs => by
    simp [cutL] at hs
    subst hs
    refine ⟨hr, ?_⟩
    simp [within, hr, hR, hl, over, lt_irr]
  | x :: xs, lo, LO, hr, hR, hl, s, hs => by
    unfold cutL at hs
    by_cases c : (has lo HI x && !(x.toList == lo.toList)) = true
    · rw [if_pos c] at hs
      simp only [Bool.and_eq_true, Bool.not_eq_true'] at c
      obtain ⟨h1, h2, h3⟩ := has_split c.1 c.2
      have hk := c.1
      simp only [has, Bool.and_eq_true] at hk
      have hE := isE_key hk.1.1.2
      rcases List.mem_cons.1 hs with rfl | hs
      · refine ⟨h1, ?_⟩
        have ha := hk.2
        simp only [within, h1, hR, hl, over, hE, Bool.not_false, Bool.true_and]
        unfold above at ha
        cases d : isE HI
        · simp [d] at ha
          simp [lt_asym ha]
        · rfl
      · exact cut_within HI xs x LO h2 hR (le_trans' hl (lt_asym h3)) s hs
    · rw [if_neg c] at hs
      exact cut_within HI xs lo LO hr hR hl s hs
end Go.Proofs.Ytbmnhpihlkljdaa.P04c
