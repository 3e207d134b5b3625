import Derived.Test.YtbmnhpihlkljdaaPureAw
namespace Go.Proofs.Ytbmnhpihlkljdaa.P04w
open Go.RowKit Go.Proofs.YtbmnhpihlkljdaaW.PrintWords Go.Proofs.YtbmnhpihlkljdaaW.PrintLast Go.Proofs.YtbmnhpihlkljdaaW.PrintMore
theorem lt_irr (x : ByteArray) : lt x x = false := bL_irr _
theorem lt_trans {x y z : ByteArray} (h : lt x y = true) (k : lt y z = true) : lt x z = true := bL_trans _ _ _ h k
theorem lt_asym {x y : ByteArray} (h : lt x y = true) : lt y x = false := bL_asym _ _ h
theorem lt_tri {x y : ByteArray} (h : lt x y = false) : x = y ∨ lt y x = true := (bL_tri _ _ h).imp (fun e => toList_inj e) id
theorem lt_of_le {x y z : ByteArray} (h : lt y x = false) (k : lt y z = true) : lt x z = true := by
  rcases lt_tri h with e | e
  · rw [← e]; exact k
  · exact lt_trans e k
theorem le_trans' {x y z : ByteArray} (h : lt y x = false) (k : lt z y = false) : lt z x = false := by
  cases c : lt z x
  · rfl
  · have := lt_of_le k c
    rw [this] at h; cases h
theorem isE_key {x : ByteArray} (h : key x = true) : isE x = false := by
  have h1 : 1 ≤ x.size := by
    simp [key] at h
    exact h.1.1
  cases c : isE x
  · rfl
  · have : x.toList = [] := by simpa [isE] using c
    rw [isE_size] at this
    omega
theorem isE_lt {x y : ByteArray} (h : isE x = true) : lt y x = false := by
  have : x.toList = [] := by simpa [isE] using h
  unfold lt; rw [this]; exact bL_nil _
/-- A cut that a span has. -/
theorem has_split {lo hi x : ByteArray} (h : has lo hi x = true) (hne : (x.toList == lo.toList) = false) : right lo x = true ∧ right x hi = true ∧ lt lo x = true := by
  simp only [has, Bool.and_eq_true, Bool.not_eq_true'] at h
  obtain ⟨⟨⟨hr, hk⟩, hl⟩, ha⟩ := h
  have hne' : x ≠ lo := fun e => by rw [e] at hne; simp at hne
  have hlt : lt lo x = true := by
    rcases lt_tri hl with e | e
    · exact absurd e hne'
    · exact e
  have hE := isE_key hk
  simp only [right, Bool.and_eq_true] at hr
  refine ⟨?_, ?_, hlt⟩
  · simp [right, hE, hk, hlt]
    simpa using hr.1.1
  · simp only [right, hk, hE, Bool.and_eq_true, Bool.or_true, true_and]
    refine ⟨hr.1.2, ?_⟩
    simpa [above] using ha
theorem has_parts {lo hi x y : ByteArray} (h : has lo hi x = true) (hne : (x.toList == lo.toList) = false) : has lo hi y = (has lo x y || has x hi y) ∧ (has lo x y && has x hi y) = false := by
  obtain ⟨h1, h2, h3⟩ := has_split h hne
  have hr : right lo hi = true := by simp only [has, Bool.and_eq_true] at h; exact h.1.1.1
  have hk : key x = true := by simp only [has, Bool.and_eq_true] at h; exact h.1.1.2
  have ha : above hi x = true := by simp only [has, Bool.and_eq_true] at h; exact h.2
  have hE := isE_key hk
  simp only [has, h1, h2, hr, above, hE, Bool.true_and, Bool.false_or]
  cases key y
  · simp
  · cases c : lt y x
    · have : lt y lo = false := le_trans' (by rw [lt_asym h3]) c
      simp [this]
    · have : above hi y = true := by
        unfold above at ha ⊢
        cases d : isE hi
        · simp [d] at ha ⊢
          exact lt_trans c ha
        · rfl
      unfold above at this
      simp [this]
/-! Meet -/
theorem lt_le {x y z : ByteArray} (h : lt x y = true) (k : lt z y = false) : lt x z = true := by
  rcases lt_tri k with e | e
  · rw [e]; exact h
  · exact lt_trans h e
theorem lt_smax (y a c : ByteArray) : lt y (smax a c) = (lt y a || lt y c) := by
  unfold smax
  cases h : lt a c
  · have h' : Op.bytesLess a.toList c.toList = false := h
    rw [h', if_neg (by simp)]
    cases k : lt y c
    · simp
    · rw [lt_le k h]; rfl
  · have h' : Op.bytesLess a.toList c.toList = true := h
    rw [h', if_pos rfl]
    cases k : lt y a
    · simp
    · rw [lt_trans k h]; rfl
theorem above_meetHi (b d y : ByteArray) : above (meetHi b d) y = (above b y && above d y) := by
  unfold meetHi over
  cases hb : isE b
  · cases hd : isE d
    · cases h : lt b d
      · simp [above, hb, hd]
        intro k; exact lt_le k h
      · simp [above, hb, hd]
        intro k; exact lt_trans k h
    · simp [above, hb, hd]
  · simp [above, hb]
theorem smax_or (a c : ByteArray) : smax a c = a ∨ smax a c = c := by unfold smax; split <;> simp
theorem meetHi_or (b d : ByteArray) : meetHi b d = b ∨ meetHi b d = d := by unfold meetHi; split <;> simp
theorem meet_has (a b c d y : ByteArray) : (has a b y && has c d y) = ((meet a b c d).2.2 && has (meet a b c d).1 (meet a b c d).2.1 y) := by
  cases h1 : right a b
  · simp [meet, has, h1]
  cases h2 : right c d
  · simp [meet, has, h1, h2]
  have e1 : (has a b y && has c d y) = (key y && !lt y (smax a c) && above (meetHi b d) y) := by
    rw [lt_smax, above_meetHi]
    simp only [has, h1, h2]
    cases key y <;> cases lt y a <;> cases lt y c <;> cases above b y <;> cases above d y <;> rfl
  cases h3 : right (smax a c) (meetHi b d)
  · rw [e1]
    simp only [meet, h1, h2, h3, Bool.and_false, Bool.false_eq_true, if_false, Bool.false_and]
    cases k : (key y && !lt y (smax a c) && above (meetHi b d) y)
    · rfl
    · exfalso
      simp only [Bool.and_eq_true, Bool.not_eq_true'] at k
      obtain ⟨⟨k1, k2⟩, k3⟩ := k
      simp only [right, Bool.and_eq_true] at h1 h2
      have r1 : (isE (smax a c) || key (smax a c)) = true := by
        rcases smax_or a c with e | e
        · rw [e]; exact h1.1.1
        · rw [e]; exact h2.1.1
      have r2 : (isE (meetHi b d) || key (meetHi b d)) = true := by
        rcases meetHi_or b d with e | e
        · rw [e]; exact h1.1.2
        · rw [e]; exact h2.1.2
      have r3 : (isE (meetHi b d) || lt (smax a c) (meetHi b d)) = true := by
        unfold above at k3
        cases z : isE (meetHi b d)
        · simp [z] at k3
          simp [lt_of_le k2 k3]
        · rfl
      rw [right, r1, r2, r3] at h3
      cases h3
  · rw [e1]
    simp only [meet, h1, h2, h3, Bool.and_self, if_true, Bool.true_and]
    simp [has, h3]
def within (a b c d : ByteArray) : Bool := right a b && right c d && !lt a c && over d b
/-! Within is an order -/
theorem over_trans {x y z : ByteArray} (h : over x y = true) (k : over y z = true) : over x z = true := by
  unfold over at *
  cases hx : isE x
  · cases hy : isE y
    · cases hz : isE z
      · simp [hx, hy, hz] at h k ⊢
        exact le_trans' k h
      · simp [hy, hz] at k
    · simp [hx, hy] at h
  · rfl
theorem over_refl (x : ByteArray) : over x x = true := by
  unfold over; cases isE x <;> simp [lt_irr]
theorem isE_inj {x y : ByteArray} (h : isE x = true) (k : isE y = true) : x = y := by
  apply toList_inj
  unfold isE at h k
  rw [beq_iff_eq.1 h, beq_iff_eq.1 k]
theorem over_anti {x y : ByteArray} (h : over x y = true) (k : over y x = true) : x = y := by
  unfold over at *
  cases hx : isE x
  · cases hy : isE y
    · simp [hx, hy] at h k
      rcases lt_tri h with e | e
      · exact e
      · rw [k] at e; cases e
    · simp [hx, hy] at h
  · cases hy : isE y
    · simp [hx, hy] at k
    · exact isE_inj hx hy
theorem over_above {x y z : ByteArray} (h : over x y = true) (k : above y z = true) : above x z = true := by
  unfold over at h
  unfold above at *
  cases hx : isE x
  · cases hy : isE y
    · simp [hx, hy] at h k ⊢
      exact lt_le k h
    · simp [hx, hy] at h
  · rfl
theorem within_has {a b c d y : ByteArray} (h : within a b c d = true) (k : has a b y = true) : has c d y = true := by
  simp only [within, has, Bool.and_eq_true, Bool.not_eq_true'] at *
  obtain ⟨⟨⟨_, h2⟩, h3⟩, h4⟩ := h
  obtain ⟨⟨⟨_, k2⟩, k3⟩, k4⟩ := k
  exact ⟨⟨⟨h2, k2⟩, le_trans' h3 k3⟩, over_above h4 k4⟩
theorem within_trans {a b c d e f : ByteArray} (h : within a b c d = true) (k : within c d e f = true) : within a b e f = true := by
  simp only [within, Bool.and_eq_true, Bool.not_eq_true'] at *
  obtain ⟨⟨⟨h1, h2⟩, h3⟩, h4⟩ := h
  obtain ⟨⟨⟨_, k2⟩, k3⟩, k4⟩ := k
  exact ⟨⟨⟨h1, k2⟩, le_trans' k3 h3⟩, over_trans k4 h4⟩
theorem within_anti {a b c d : ByteArray} (h : within a b c d = true) (k : within c d a b = true) : a = c ∧ b = d := by
  simp only [within, Bool.and_eq_true, Bool.not_eq_true'] at *
  obtain ⟨⟨⟨_, h2⟩, h3⟩, h4⟩ := h
  obtain ⟨⟨⟨_, k2⟩, k3⟩, k4⟩ := k
  refine ⟨?_, over_anti k4 h4⟩
  rcases lt_tri h3 with e | e
  · exact e
  · rw [k3] at e; cases e
theorem within_self (a b : ByteArray) : within a b a b = right a b := by
  unfold within; rw [lt_irr, over_refl]; cases right a b <;> rfl
theorem within_all {a b : ByteArray} (h : right a b = true) : within a b ⟨#[]⟩ ⟨#[]⟩ = true := by
  have h1 : right ⟨#[]⟩ ⟨#[]⟩ = true := by simp [right, isE, toList_eq]
  have h2 : isE ⟨#[]⟩ = true := by simp [isE, toList_eq]
  have h3 : lt a ⟨#[]⟩ = false := isE_lt h2
  simp [within, h, h1, h3, over, h2]
theorem lt_smax_l (a c : ByteArray) : lt (smax a c) a = false := by
  have := lt_smax (smax a c) a c
  rw [lt_irr] at this
  cases h : lt (smax a c) a
  · rfl
  · rw [h] at this; simp at this
theorem lt_smax_r (a c : ByteArray) : lt (smax a c) c = false := by
  have := lt_smax (smax a c) a c
  rw [lt_irr] at this
  cases h : lt (smax a c) c
  · rfl
  · rw [h] at this; simp at this
theorem over_tot {x y : ByteArray} (h : over x y = false) : over y x = true := by
  unfold over at *
  cases hx : isE x
  · cases hy : isE y
    · simp [hx, hy] at h ⊢
      exact lt_asym h
    · rfl
  · simp [hx] at h
theorem over_meet_l (b d : ByteArray) : over b (meetHi b d) = true := by
  unfold meetHi
  split
  · assumption
  · exact over_refl _
theorem over_meet_r (b d : ByteArray) : over d (meetHi b d) = true := by
  unfold meetHi
  split
  · exact over_refl _
  · rename_i h
    exact over_tot (by simpa using h)
theorem meet_within {a b c d : ByteArray} (h : (meet a b c d).2.2 = true) : within (meet a b c d).1 (meet a b c d).2.1 a b = true ∧ within (meet a b c d).1 (meet a b c d).2.1 c d = true := by
  unfold meet at *
  split at h
  · rename_i hr
    rw [if_pos hr]
    simp only [Bool.and_eq_true] at hr
    simp only [within, hr.1.1, hr.1.2, hr.2, lt_smax_l, lt_smax_r, over_meet_l, over_meet_r]
    simp
  · cases h
theorem ev_within (a b c d : ByteArray) : Ev (fun k => span_Within.f k a b c d) (within a b c d) := by
  obtain ⟨K1, h1⟩ := ev_right a b
  obtain ⟨K2, h2⟩ := ev_right c d
  refine ⟨max K1 K2, fun k hk => ?_⟩
  have hc : (cmp c a ≤ 0) ↔ lt a c = false := by
    have := cmp_le c a
    by_cases e : cmp c a ≤ 0 <;> simp [e] at this <;> simp [e, this]
  simp only [span_Within.f, span_ends.f, Option.bind_some, over_eq, compare_eq, h1 k (by omega), h2 k (by omega), within, hc]
  cases right a b <;> cases right c d <;> cases lt a c <;> simp
end Go.Proofs.Ytbmnhpihlkljdaa.P04w
