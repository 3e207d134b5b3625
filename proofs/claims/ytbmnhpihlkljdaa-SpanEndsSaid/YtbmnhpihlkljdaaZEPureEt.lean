import Derived.Test.YtbmnhpihlkljdaaZEPureEa
namespace Go.Proofs.Ytbmnhpihlkljdaa.P04e
open Go.RowKit Go.Proofs.YtbmnhpihlkljdaaW.PrintWords Go.Proofs.YtbmnhpihlkljdaaW.PrintLast Go.Proofs.YtbmnhpihlkljdaaW.PrintMore
theorem lt_irr (x : ByteArray) : lt x x = false := bL_irr _
theorem lt_trans {x y z : ByteArray} (h : lt x y = true) (k : lt y z = true) : lt x z = true := bL_trans _ _ _ h k
theorem lt_asym {x y : ByteArray} (h : lt x y = true) : lt y x = false := bL_asym _ _ h
theorem lt_tri {x y : ByteArray} (h : lt x y = false) : x = y ∨ lt y x = true := (bL_tri _ _ h).imp (fun e => toList_inj e) id
theorem lt_of_le {x y z : ByteArray} (h : lt y x = false) (k : lt y z = true) : lt x z = true := by
  rcases lt_tri h with e | e
  · rw [← e]; exact k
  · exact lt_trans e k
theorem le_trans' {x y z : ByteArray} (h : lt y x = false) (k : lt z y = false) : lt z x = false := by
  cases c : lt z x
  · rfl
  · have := lt_of_le k c
    rw [this] at h; cases h
theorem isE_key {x : ByteArray} (h : key x = true) : isE x = false := by
  have h1 : 1 ≤ x.size := by
    simp [key] at h
    exact h.1.1
  cases c : isE x
  · rfl
  · have : x.toList = [] := by simpa [isE] using c
    rw [isE_size] at this
    omega
theorem isE_lt {x y : ByteArray} (h : isE x = true) : lt y x = false := by
  have : x.toList = [] := by simpa [isE] using h
  unfold lt; rw [this]; exact bL_nil _
/-- A cut that a span has. -/
theorem has_split {lo hi x : ByteArray} (h : has lo hi x = true) (hne : (x.toList == lo.toList) = false) : right lo x = true ∧ right x hi = true ∧ lt lo x = true := by
  simp only [has, Bool.and_eq_true, Bool.not_eq_true'] at h
  obtain ⟨⟨⟨hr, hk⟩, hl⟩, ha⟩ := h
  have hne' : x ≠ lo := fun e => by rw [e] at hne; simp at hne
  have hlt : lt lo x = true := by
    rcases lt_tri hl with e | e
    · exact absurd e hne'
    · exact e
  have hE := isE_key hk
  simp only [right, Bool.and_eq_true] at hr
  refine ⟨?_, ?_, hlt⟩
  · simp [right, hE, hk, hlt]
    simpa using hr.1.1
  · simp only [right, hk, hE, Bool.and_eq_true, Bool.or_true, true_and]
    refine ⟨hr.1.2, ?_⟩
    simpa [above] using ha
theorem has_parts {lo hi x y : ByteArray} (h : has lo hi x = true) (hne : (x.toList == lo.toList) = false) : has lo hi y = (has lo x y || has x hi y) ∧ (has lo x y && has x hi y) = false := by
  obtain ⟨h1, h2, h3⟩ := has_split h hne
  have hr : right lo hi = true := by simp only [has, Bool.and_eq_true] at h; exact h.1.1.1
  have hk : key x = true := by simp only [has, Bool.and_eq_true] at h; exact h.1.1.2
  have ha : above hi x = true := by simp only [has, Bool.and_eq_true] at h; exact h.2
  have hE := isE_key hk
  simp only [has, h1, h2, hr, above, hE, Bool.true_and, Bool.false_or]
  cases key y
  · simp
  · cases c : lt y x
    · have : lt y lo = false := le_trans' (by rw [lt_asym h3]) c
      simp [this]
    · have : above hi y = true := by
        unfold above at ha ⊢
        cases d : isE hi
        · simp [d] at ha ⊢
          exact lt_trans c ha
        · rfl
      unfold above at this
      simp [this]
/-! Meet -/
theorem lt_le {x y z : ByteArray} (h : lt x y = true) (k : lt z y = false) : lt x z = true := by
  rcases lt_tri k with e | e
  · rw [e]; exact h
  · exact lt_trans h e
theorem lt_smax (y a c : ByteArray) : lt y (smax a c) = (lt y a || lt y c) := by
  unfold smax
  cases h : lt a c
  · have h' : Op.bytesLess a.toList c.toList = false := h
    rw [h', if_neg (by simp)]
    cases k : lt y c
    · simp
    · rw [lt_le k h]; rfl
  · have h' : Op.bytesLess a.toList c.toList = true := h
    rw [h', if_pos rfl]
    cases k : lt y a
    · simp
    · rw [lt_trans k h]; rfl
theorem above_meetHi (b d y : ByteArray) : above (meetHi b d) y = (above b y && above d y) := by
  unfold meetHi over
  cases hb : isE b
  · cases hd : isE d
    · cases h : lt b d
      · simp [above, hb, hd]
        intro k; exact lt_le k h
      · simp [above, hb, hd]
        intro k; exact lt_trans k h
    · simp [above, hb, hd]
  · simp [above, hb]
theorem smax_or (a c : ByteArray) : smax a c = a ∨ smax a c = c := by unfold smax; split <;> simp
theorem meetHi_or (b d : ByteArray) : meetHi b d = b ∨ meetHi b d = d := by unfold meetHi; split <;> simp
theorem meet_has (a b c d y : ByteArray) : (has a b y && has c d y) = ((meet a b c d).2.2 && has (meet a b c d).1 (meet a b c d).2.1 y) := by
  cases h1 : right a b
  · simp [meet, has, h1]
  cases h2 : right c d
  · simp [meet, has, h1, h2]
  have e1 : (has a b y && has c d y) = (key y && !lt y (smax a c) && above (meetHi b d) y) := by
    rw [lt_smax, above_meetHi]
    simp only [has, h1, h2]
    cases key y <;> cases lt y a <;> cases lt y c <;> cases above b y <;> cases above d y <;> rfl
  cases h3 : right (smax a c) (meetHi b d)
  · rw [e1]
    simp only [meet, h1, h2, h3, Bool.and_false, Bool.false_eq_true, if_false, Bool.false_and]
    cases k : (key y && !lt y (smax a c) && above (meetHi b d) y)
    · rfl
    · exfalso
      simp only [Bool.and_eq_true, Bool.not_eq_true'] at k
      obtain ⟨⟨k1, k2⟩, k3⟩ := k
      simp only [right, Bool.and_eq_true] at h1 h2
      have r1 : (isE (smax a c) || key (smax a c)) = true := by
        rcases smax_or a c with e | e
        · rw [e]; exact h1.1.1
        · rw [e]; exact h2.1.1
      have r2 : (isE (meetHi b d) || key (meetHi b d)) = true := by
        rcases meetHi_or b d with e | e
        · rw [e]; exact h1.1.2
        · rw [e]; exact h2.1.2
      have r3 : (isE (meetHi b d) || lt (smax a c) (meetHi b d)) = true := by
        unfold above at k3
        cases z : isE (meetHi b d)
        · simp [z] at k3
          simp [lt_of_le k2 k3]
        · rfl
      rw [right, r1, r2, r3] at h3
      cases h3
  · rw [e1]
    simp only [meet, h1, h2, h3, Bool.and_self, if_true, Bool.true_and]
    simp [has, h3]
def within (a b c d : ByteArray) : Bool := right a b && right c d && !lt a c && over d b
theorem ev_within (a b c d : ByteArray) : Ev (fun k => span_Within.f k a b c d) (within a b c d) := by
  obtain ⟨K1, h1⟩ := ev_right a b
  obtain ⟨K2, h2⟩ := ev_right c d
  refine ⟨max K1 K2, fun k hk => ?_⟩
  have hc : (cmp c a ≤ 0) ↔ lt a c = false := by
    have := cmp_le c a
    by_cases e : cmp c a ≤ 0 <;> simp [e] at this <;> simp [e, this]
  simp only [span_Within.f, span_ends.f, Option.bind_some, over_eq, compare_eq, h1 k (by omega), h2 k (by omega), within, hc]
  cases right a b <;> cases right c d <;> cases lt a c <;> simp
theorem few_len (l : List ByteArray) : ∀ (k : Nat), (∀ i, watershedlaw04_few.l0 k l i = some true → l.length ≤ 60) ∧ (∀ i b, watershedlaw04_few.j1 k l i b = some true → l.length ≤ 60)
  | 0 => ⟨fun i h => by simp [watershedlaw04_few.l0] at h, fun i b h => by simp [watershedlaw04_few.j1] at h⟩
  | k + 1 => by
    obtain ⟨h0, h1⟩ := few_len l k
    refine ⟨fun i h => ?_, fun i b h => ?_⟩
    · simp only [watershedlaw04_few.l0] at h
      split at h
      · exact h1 _ _ h
      · exact h1 _ _ h
    · simp only [watershedlaw04_few.j1] at h
      split at h
      · split at h
        · split at h
          · split at h
            · cases h
            · exact h0 _ h
          · cases h
        · cases h
      · have := Option.some.inj h
        have := of_decide_eq_true this
        omega
theorem cut_len (hi : ByteArray) : ∀ (suf : List ByteArray) (lo : ByteArray), (cutL hi lo suf).length ≤ suf.length + 1
  | [], lo => by simp [cutL]
  | x :: xs, lo => by
    unfold cutL
    split
    · have := cut_len hi xs x
      simp; omega
    · have := cut_len hi xs lo
      simp; omega
theorem ev_rkey_l (b : ByteArray) (hb : b.size ≤ 20) : ∀ (m i : Nat), b.size = i + m → Ev (fun k => watershedref04_Key.l0 k b (i : Int)) (keyL b m i) := by
  intro m
  induction m with
  | zero =>
    intro i h
    refine Ev.step (f := fun _ => some true) (fun k => ?_) (Ev.now _)
    simp only [watershedref04_Key.l0]
    rw [if_neg (by omega)]
  | succ m ih =>
    intro i h
    refine Ev.step (f := fun k => if okc (bt b i) = true then watershedref04_Key.l0 k b ((i + 1 : Nat) : Int) else some false) (fun k => ?_) ?_
    · simp only [watershedref04_Key.l0]
      have hw : wrap64 ((i : Int) + 1) = ((i + 1 : Nat) : Int) := by rw [w64 (by omega) (by omega)]; omega
      rw [if_pos (by omega), if_pos (by omega), hw, okc_if]
    · have h1 := ih (i + 1) (by omega)
      unfold keyL
      by_cases c : okc (bt b i) = true
      · simp only [if_pos c]
        simpa [c] using h1
      · simp only [if_neg c]
        simpa [c] using Ev.now false
theorem ev_rkey (b : ByteArray) : Ev (fun k => watershedref04_Key.f k b) (key b) := by
  by_cases c : (b.size : Int) < 1
  · refine Ev.congr (g := fun k => watershedref04_Key.f k b) (f := fun k => watershedref04_Key.j0 k b true) (fun k => by simp only [watershedref04_Key.f]; rw [if_pos c]) ?_
    refine Ev.step (f := fun _ => some false) (fun k => by simp [watershedref04_Key.j0]) ?_
    have : ¬ 1 ≤ b.size := by omega
    simpa [key, this] using Ev.now false
  · refine Ev.congr (g := fun k => watershedref04_Key.f k b) (f := fun k => watershedref04_Key.j0 k b (decide ((b.size : Int) > 20))) (fun k => by simp only [watershedref04_Key.f]; rw [if_neg c]) ?_
    by_cases d : (b.size : Int) > 20
    · refine Ev.step (f := fun _ => some false) (fun k => by simp [watershedref04_Key.j0, d]) ?_
      have : ¬ b.size ≤ 20 := by omega
      simpa [key, this] using Ev.now false
    · refine Ev.step (f := fun k => watershedref04_Key.l0 k b ((0 : Nat) : Int)) (fun k => by simp [watershedref04_Key.j0, d]) ?_
      have h := ev_rkey_l b (by omega) b.size 0 (by omega)
      have h1 : 1 ≤ b.size := by omega
      have h2 : b.size ≤ 20 := by omega
      simpa [key, h1, h2] using h
theorem isE_dec (b : ByteArray) : isE b = decide (b.toList = []) := by
  unfold isE
  cases hb : (b.toList == ([] : List UInt8))
  · exact (decide_eq_false (by simpa using hb)).symm
  · exact (decide_eq_true (by simpa using hb)).symm
theorem ev_rright (lo hi : ByteArray) : Ev (fun k => watershedref04_Right.f k lo hi) (right lo hi) := by
  obtain ⟨K1, h1⟩ := ev_rkey lo
  obtain ⟨K2, h2⟩ := ev_rkey hi
  refine ⟨max K1 K2, fun k hk => ?_⟩
  simp only [watershedref04_Right.f, h1 k (by omega), h2 k (by omega), right, isE_dec, lt, Option.bind_some]
  by_cases c1 : lo.toList = [] <;> by_cases c2 : hi.toList = [] <;> cases key lo <;> cases key hi <;> simp [c1, c2]
theorem ev_rhas (a b x : ByteArray) : Ev (fun k => watershedref04_Has.f k a b x) (has a b x) := by
  obtain ⟨K1, h1⟩ := ev_rright a b
  obtain ⟨K2, h2⟩ := ev_rkey x
  dsimp only at h1 h2
  refine ⟨max K1 K2, fun k hk => ?_⟩
  simp only [watershedref04_Has.f, h1 k (by omega), h2 k (by omega), Option.bind_some, has, above, isE_dec]
  cases right a b
  · simp
  cases key x
  · simp
  have e : (Op.bytesLess a.toList x.toList = true ∨ a.toList = x.toList) ↔ lt x a = false := by
    constructor
    · rintro (h | h)
      · exact lt_asym h
      · unfold lt; rw [h]; exact bL_irr _
    · intro h
      rcases lt_tri h with e | e
      · right; rw [e]
      · left; exact e
  cases h3 : lt x a
  · rw [h3] at e
    rcases e.2 rfl with e1 | e1
    · by_cases c : b.toList = [] <;> simp [e1, c, lt]
    · by_cases c2 : Op.bytesLess a.toList x.toList = true
      · by_cases c : b.toList = [] <;> simp [c2, c, lt]
      · by_cases c : b.toList = [] <;> simp [e1, c, lt, bL_irr]
  · rw [h3] at e
    have e1 : ¬ Op.bytesLess a.toList x.toList = true := fun h => by simpa using e.1 (.inl h)
    have e2 : ¬ a.toList = x.toList := fun h => by simpa using e.1 (.inr h)
    simp [e1, e2]
theorem ev_rwithin (a b c d : ByteArray) : Ev (fun k => watershedref04_Within.f k a b c d) (within a b c d) := by
  obtain ⟨K1, h1⟩ := ev_rright a b
  obtain ⟨K2, h2⟩ := ev_rright c d
  dsimp only at h1 h2
  refine ⟨max K1 K2, fun k hk => ?_⟩
  simp only [watershedref04_Within.f, h1 k (by omega), h2 k (by omega), Option.bind_some, within, over, isE_dec]
  cases right a b
  · simp
  cases right c d
  · simp
  have e : ∀ x y : ByteArray, (Op.bytesLess x.toList y.toList = true ∨ x.toList = y.toList) ↔ lt y x = false := fun x y => by
    constructor
    · rintro (h | h)
      · exact lt_asym h
      · unfold lt; rw [h]; exact bL_irr _
    · intro h
      rcases lt_tri h with e | e
      · right; rw [e]
      · left; exact e
  have g : (if d.toList = ([] : List UInt8) then (some true) else (if b.toList = ([] : List UInt8) then (some false) else (if (Op.bytesLess b.toList d.toList) = true then (some true) else (if b.toList = d.toList then (some true) else (some false))))) = some (decide (d.toList = []) || (!decide (b.toList = []) && !lt d b)) := by
    by_cases c1 : d.toList = []
    · simp [c1]
    by_cases c2 : b.toList = []
    · simp [c1, c2]
    have e2 := e b d
    cases h3 : lt d b
    · rw [h3] at e2
      rcases e2.2 rfl with e1 | e1
      · simp [c1, c2, e1]
      · by_cases c3 : Op.bytesLess b.toList d.toList = true
        · simp [c1, c2, c3]
        · rw [if_neg c1, if_neg c2, if_neg c3, if_pos e1]; simp [c1, c2]
    · rw [h3] at e2
      have e1 : ¬ Op.bytesLess b.toList d.toList = true := fun h => by simpa using e2.1 (.inl h)
      have e3 : ¬ b.toList = d.toList := fun h => by simpa using e2.1 (.inr h)
      simp [c1, c2, e1, e3]
  simp only [g, if_true, Bool.true_and]
  have e1 := e c a
  cases h3 : lt a c
  · rw [h3] at e1
    rcases e1.2 rfl with e2 | e2
    · simp [e2]
    · by_cases c3 : Op.bytesLess c.toList a.toList = true
      · simp [c3]
      · rw [if_neg c3, if_pos e2]; simp
  · rw [h3] at e1
    have e2 : ¬ Op.bytesLess c.toList a.toList = true := fun h => by simpa using e1.1 (.inl h)
    have e3 : ¬ c.toList = a.toList := fun h => by simpa using e1.1 (.inr h)
    simp [e2, e3]
theorem ev_rmeet (a b c d : ByteArray) : Ev (fun k => watershedref04_Meet.f k a b c d) (meet a b c d) := by
  obtain ⟨K1, h1⟩ := ev_rright a b
  obtain ⟨K2, h2⟩ := ev_rright c d
  obtain ⟨K3, h3⟩ := ev_rright (smax a c) (meetHi b d)
  dsimp only at h1 h2 h3
  have hj : ∀ k, max K1 (max K2 K3) ≤ k → watershedref04_Meet.j1 (k + 1) a b c d (smax a c) (meetHi b d) = some (meet a b c d) := fun k hk => by
    simp only [watershedref04_Meet.j1, h1 k (by omega), h2 k (by omega), h3 k (by omega), Option.bind_some, meet]
    cases right a b <;> cases right c d <;> cases right (smax a c) (meetHi b d) <;> simp
  refine ⟨max K1 (max K2 K3) + 2, fun k hk => ?_⟩
  obtain ⟨k, rfl⟩ : ∃ j, k = j + 2 := ⟨k - 2, by omega⟩
  have hj' := hj k (by omega)
  simp only [watershedref04_Meet.f, watershedref04_Meet.j0]
  by_cases c1 : b.toList = []
  · have : meetHi b d = d := by simp [meetHi, over, isE_dec, c1]
    rw [this] at hj'
    simp only [if_pos c1, if_true]
    exact hj'
  by_cases c2 : d.toList = []
  · have : meetHi b d = b := by simp [meetHi, over, isE_dec, c1, c2]
    rw [this] at hj'
    simp only [if_neg c1, if_pos c2, Bool.false_eq_true, if_false]
    exact hj'
  simp only [if_neg c1, if_neg c2]
  by_cases c3 : Op.bytesLess d.toList b.toList = true
  · have h4 : lt b d = false := lt_asym (x := d) (y := b) c3
    have : meetHi b d = d := by simp [meetHi, over, isE_dec, c1, c2, h4]
    rw [this] at hj'
    rw [if_pos c3]
    exact hj'
  · have h4 : lt d b = false := by simpa [lt] using c3
    have : meetHi b d = b := by
      rcases lt_tri h4 with e | e
      · rw [e]; simp [meetHi]
      · simp [meetHi, over, isE_dec, c1, c2, e]
    rw [this] at hj'
    rw [if_neg c3]
    exact hj'
/-! Rising rows -/
def Rise (l : List ByteArray) : Prop := l.Pairwise fun x y => lt x y = true
theorem rise_ext : ∀ a b : List ByteArray, Rise a → Rise b → (∀ x, x ∈ a ↔ x ∈ b) → a = b
  | [], [], _, _, _ => rfl
  | [], y :: b, _, _, h => absurd ((h y).2 (by simp)) (by simp)
  | x :: a, [], _, _, h => absurd ((h x).1 (by simp)) (by simp)
  | x :: a, y :: b, ha, hb, h => by
    obtain ⟨a1, a2⟩ := List.pairwise_cons.1 ha
    obtain ⟨b1, b2⟩ := List.pairwise_cons.1 hb
    have e : x = y := by
      rcases List.mem_cons.1 ((h x).1 (by simp)) with e | e
      · exact e
      · rcases List.mem_cons.1 ((h y).2 (by simp)) with e' | e'
        · exact e'.symm
        · have h1 := b1 x e
          have h2 := a1 y e'
          have := lt_asym h1
          rw [h2] at this; cases this
    subst e
    congr 1
    refine rise_ext a b a2 b2 fun z => ⟨fun hz => ?_, fun hz => ?_⟩
    · rcases List.mem_cons.1 ((h z).1 (List.mem_cons_of_mem _ hz)) with e | e
      · have := a1 z hz
        rw [e, lt_irr] at this; cases this
      · exact e
    · rcases List.mem_cons.1 ((h z).2 (List.mem_cons_of_mem _ hz)) with e | e
      · have := b1 z hz
        rw [e, lt_irr] at this; cases this
      · exact e
theorem compact_spec (d : Array (List UInt8)) (hs : ∀ i j, i ≤ j → j < d.size → Op.bytesLess d[j]! d[i]! = false) : ∀ m, m ≤ d.size →
    (Lib.compactUpTo d m).Pairwise (fun x y => Op.bytesLess x y = true) ∧ ∀ x, x ∈ Lib.compactUpTo d m ↔ ∃ j, j < m ∧ d[j]! = x := by
  intro m
  induction m with
  | zero => exact fun _ => ⟨by simp [Lib.compactUpTo], fun x => by simp [Lib.compactUpTo]⟩
  | succ m ih =>
    intro hm
    obtain ⟨i1, i2⟩ := ih (by omega)
    rw [Lib.compactUpTo_succ]
    cases hk : Lib.keeps d m
    · have h0 : 0 < m := by
        rcases Nat.eq_zero_or_pos m with h | h
        · rw [h, Lib.keeps_lt_one d 0 (by omega)] at hk; cases hk
        · exact h
      have he : d[m]! = d[m - 1]! := by
        rcases Classical.em (d[m]! = d[m - 1]!) with h | h
        · exact h
        · rw [Lib.keeps_pos h] at hk; cases hk
      simp only [Bool.false_eq_true, if_false, List.append_nil]
      refine ⟨i1, fun x => ?_⟩
      rw [i2]
      constructor
      · rintro ⟨j, hj, e⟩; exact ⟨j, by omega, e⟩
      · rintro ⟨j, hj, e⟩
        rcases Nat.lt_or_ge j m with h | h
        · exact ⟨j, h, e⟩
        · obtain rfl : j = m := by omega
          exact ⟨j - 1, by omega, he ▸ e⟩
    · simp only [if_true]
      refine ⟨List.pairwise_append.2 ⟨i1, by simp, fun x hx y hy => ?_⟩, fun x => ?_⟩
      · obtain rfl : y = d[m]! := by simpa using hy
        obtain ⟨j, hj, rfl⟩ := (i2 x).1 hx
        have hne : d[m]! ≠ d[m - 1]! := by
          intro e
          rw [Lib.keeps_neg (by omega) e] at hk; cases hk
        have h1 := hs j (m - 1) (by omega) (by omega)
        have h2 := hs (m - 1) m (by omega) (by omega)
        rcases bL_tri _ _ h2 with e | e
        · exact absurd e hne
        · rcases bL_tri _ _ h1 with e' | e'
          · rw [← e']; exact e
          · exact bL_trans _ _ _ e' e
      · rw [List.mem_append, i2]
        constructor
        · rintro (⟨j, hj, e⟩ | h)
          · exact ⟨j, by omega, e⟩
          · exact ⟨m, by omega, (by simpa using h : x = d[m]!).symm⟩
        · rintro ⟨j, hj, e⟩
          rcases Nat.lt_or_ge j m with h | h
          · exact .inl ⟨j, h, e⟩
          · obtain rfl : j = m := by omega
            right; simpa using e.symm
theorem le_bL (x y : List UInt8) : decide (x ≤ y) = !Op.bytesLess y x := by
  rw [Go.Proofs.bytesLess_eq]
  by_cases h : y < x
  · have : ¬ x ≤ y := fun h2 => h2 h
    simp [h, this]
  · have : x ≤ y := h
    simp [h, this]
theorem sorted_rise (l : List ByteArray) : (sortedOf l).Pairwise fun x y => Op.bytesLess y x = false := by
  have h := List.pairwise_mergeSort (le := fun x y : List UInt8 => decide (x ≤ y)) (fun a b c h1 h2 => by
    simp only [le_bL, Bool.not_eq_true'] at *
    cases h : Op.bytesLess c a
    · rfl
    · rcases bL_tri _ _ h1 with e | e
      · subst e; rw [h2] at h; cases h
      · have := bL_trans _ _ _ h e
        rw [this] at h2; cases h2) (fun a b => by
    simp only [le_bL]
    cases h : Op.bytesLess b a
    · rfl
    · rw [bL_asym _ _ h]; rfl) (l.map bs)
  exact h.imp fun {a b} h => by simpa only [le_bL, Bool.not_eq_true'] using h
theorem cutTexts_rise (l : List ByteArray) : Rise (cutTexts l) ∧ ∀ x, x ∈ cutTexts l ↔ x ∈ l := by
  have hp := sorted_rise l
  have hs : ∀ i j, i ≤ j → j < (sortedOf l).toArray.size → Op.bytesLess (sortedOf l).toArray[j]! (sortedOf l).toArray[i]! = false := by
    intro i j hij hj
    have hj' : j < (sortedOf l).length := by simpa using hj
    have hi' : i < (sortedOf l).length := by omega
    rw [getElem!_pos _ j (by simpa using hj'), getElem!_pos _ i (by simpa using hi')]
    rcases Nat.lt_or_ge i j with h | h
    · have := List.pairwise_iff_getElem.1 hp i j hi' hj' h
      simpa using this
    · obtain rfl : i = j := by omega
      exact bL_irr _
  obtain ⟨c1, c2⟩ := compact_spec (sortedOf l).toArray hs (sortedOf l).length (by simp)
  have hsb : ∀ x : List UInt8, (sb x).toList = x := fun x => by rw [toList_eq]; simp [sb]
  refine ⟨?_, fun x => ?_⟩
  · unfold Rise cutTexts
    rw [List.pairwise_map]
    exact c1.imp fun {a b} h => by unfold lt; rw [hsb, hsb]; exact h
  · unfold cutTexts Lib.compact
    rw [List.mem_map]
    constructor
    · rintro ⟨y, hy, rfl⟩
      obtain ⟨j, hj, rfl⟩ := (c2 y).1 hy
      rw [getElem!_pos _ j (by simpa using hj)]
      have : (sortedOf l)[j] ∈ sortedOf l := List.getElem_mem hj
      unfold sortedOf at this
      rw [List.mem_mergeSort, List.mem_map] at this
      obtain ⟨z, hz, e⟩ := this
      have e2 : sb ((sortedOf l).toArray[j]'(by simpa using hj)) = z := by
        have : (sortedOf l).toArray[j]'(by simpa using hj) = bs z := by rw [List.getElem_toArray]; exact e.symm
        rw [this, sb_bs]
      rw [e2]; exact hz
    · intro hx
      have : bs x ∈ sortedOf l := by
        unfold sortedOf
        rw [List.mem_mergeSort, List.mem_map]
        exact ⟨x, hx, rfl⟩
      obtain ⟨j, hj, e⟩ := List.getElem_of_mem this
      refine ⟨bs x, (c2 _).2 ⟨j, hj, ?_⟩, sb_bs x⟩
      rw [getElem!_pos _ j (by simpa using hj)]
      simpa using e
/-! One cut behind the other -/
def okx (lo hi x : ByteArray) : Bool := has lo hi x && !(x.toList == lo.toList)
def pieces (hi : ByteArray) : ByteArray → List ByteArray → List S26
  | lo, [] => [⟨lo, hi⟩]
  | lo, c :: cs => ⟨lo, c⟩ :: pieces hi c cs
theorem okx_split {lo hi x : ByteArray} (h : okx lo hi x = true) : right lo x = true ∧ right x hi = true ∧ lt lo x = true ∧ key x = true := by
  simp only [okx, Bool.and_eq_true, Bool.not_eq_true'] at h
  obtain ⟨a, b, c⟩ := has_split h.1 h.2
  refine ⟨a, b, c, ?_⟩
  have := h.1
  simp only [has, Bool.and_eq_true] at this
  exact this.1.1.2
theorem okx_parts {lo hi x y : ByteArray} (h : okx lo hi x = true) : has lo hi y = (has lo x y || has x hi y) := by
  simp only [okx, Bool.and_eq_true, Bool.not_eq_true'] at h
  exact (has_parts (y := y) h.1 h.2).1
theorem lt_ne {x y : ByteArray} (h : lt x y = true) : (y.toList == x.toList) = false := by
  cases e : (y.toList == x.toList)
  · rfl
  · have e' : y.toList = x.toList := by simpa using e
    unfold lt at h
    rw [e', bL_irr] at h; cases h
theorem has_hi {lo x y : ByteArray} (hk : key x = true) (h : lt y x = false) : has lo x y = false := by
  simp [has, above, isE_key hk, h]
theorem okx_next {lo hi x y : ByteArray} (h : okx lo hi x = true) (hxy : lt x y = true) : okx x hi y = okx lo hi y := by
  obtain ⟨_, _, h3, hk⟩ := okx_split h
  unfold okx
  rw [okx_parts h (y := y), has_hi hk (lt_asym hxy), lt_ne hxy, lt_ne (lt_trans h3 hxy), Bool.false_or]
theorem cutL_pieces (hi : ByteArray) : ∀ (l : List ByteArray) (lo : ByteArray), Rise l → cutL hi lo l = pieces hi lo (l.filter (okx lo hi))
  | [], lo, _ => rfl
  | x :: xs, lo, hr => by
    obtain ⟨r1, r2⟩ := List.pairwise_cons.1 hr
    unfold cutL
    cases c : okx lo hi x
    · have c' : (has lo hi x && !(x.toList == lo.toList)) = false := c
      rw [if_neg (by rw [c']; simp), List.filter_cons_of_neg (by rw [c]; simp)]
      exact cutL_pieces hi xs lo r2
    · have c' : (has lo hi x && !(x.toList == lo.toList)) = true := c
      rw [if_pos c', List.filter_cons_of_pos c, cutL_pieces hi xs x r2]
      have : xs.filter (okx x hi) = xs.filter (okx lo hi) := List.filter_congr fun y hy => by rw [okx_next c (r1 y hy)]
      rw [this]; rfl
def insC (x : ByteArray) : List S26 → List S26
  | [] => []
  | s :: r => if okx s.f0 s.f1 x = true then ⟨s.f0, x⟩ :: ⟨x, s.f1⟩ :: r else s :: insC x r
def insS (x : ByteArray) : List ByteArray → List ByteArray
  | [] => [x]
  | c :: cs => if x = c then c :: cs else if lt x c = true then x :: c :: cs else c :: insS x cs
theorem mem_insS (x y : ByteArray) : ∀ cs, y ∈ insS x cs ↔ y = x ∨ y ∈ cs
  | [] => by simp [insS]
  | c :: cs => by
    unfold insS
    by_cases e : x = c
    · rw [if_pos e]; subst e; simp
    · rw [if_neg e]
      cases h : lt x c
      · rw [if_neg (by simp), List.mem_cons, mem_insS x y cs, List.mem_cons]
        constructor
        · rintro (h | h | h)
          · exact .inr (.inl h)
          · exact .inl h
          · exact .inr (.inr h)
        · rintro (h | h | h)
          · exact .inr (.inl h)
          · exact .inl h
          · exact .inr (.inr h)
      · rw [if_pos rfl]; simp
theorem rise_insS (x : ByteArray) : ∀ cs, Rise cs → Rise (insS x cs)
  | [], _ => by simp [insS, Rise]
  | c :: cs, h => by
    obtain ⟨r1, r2⟩ := List.pairwise_cons.1 h
    unfold insS
    by_cases e : x = c
    · rw [if_pos e]; exact h
    · rw [if_neg e]
      cases h1 : lt x c
      · rw [if_neg (by simp)]
        have hc : lt c x = true := by
          rcases lt_tri h1 with e' | e'
          · exact absurd e' e
          · exact e'
        refine List.pairwise_cons.2 ⟨fun y hy => ?_, rise_insS x cs r2⟩
        rcases (mem_insS x y cs).1 hy with rfl | hy
        · exact hc
        · exact r1 y hy
      · rw [if_pos rfl]
        refine List.pairwise_cons.2 ⟨fun y hy => ?_, h⟩
        rcases List.mem_cons.1 hy with rfl | hy
        · exact h1
        · exact lt_trans h1 (r1 y hy)
theorem insC_pieces (hi x : ByteArray) : ∀ (cs : List ByteArray) (lo : ByteArray), Rise cs → (∀ c ∈ cs, okx lo hi c = true) → insC x (pieces hi lo cs) = pieces hi lo (if okx lo hi x = true then insS x cs else cs)
  | [], lo, _, _ => by
    unfold pieces insC
    cases h : okx lo hi x <;> simp [insC, insS, pieces]
  | c :: cs, lo, hr, ho => by
    obtain ⟨r1, r2⟩ := List.pairwise_cons.1 hr
    have hc := ho c (by simp)
    obtain ⟨s1, s2, s3, s4⟩ := okx_split hc
    have ih := insC_pieces hi x cs c r2 (fun d hd => by rw [okx_next hc (r1 d hd)]; exact ho d (by simp [hd]))
    simp only [pieces, insC]
    cases h : okx lo hi x
    · have h1 : okx lo c x = false := by
        cases e : okx lo c x
        · rfl
        · exfalso
          simp only [okx, Bool.and_eq_true, Bool.not_eq_true'] at e
          have : okx lo hi x = true := by
            unfold okx
            rw [okx_parts hc, e.1, e.2]; rfl
          rw [this] at h; cases h
      have h2 : okx c hi x = false := by
        cases e : okx c hi x
        · rfl
        · exfalso
          obtain ⟨_, _, e3, _⟩ := okx_split e
          rw [okx_next hc e3] at e
          rw [e] at h; cases h
      rw [h2] at ih
      simp only [h1, Bool.false_eq_true, if_false] at ih ⊢
      rw [ih]; rfl
    · simp only [if_true]
      unfold insS
      by_cases e : x = c
      · subst e
        have h1 : okx lo x x = false := by unfold okx; rw [has_hi s4 (lt_irr _)]; rfl
        have h2 : okx x hi x = false := by simp [okx]
        rw [h2] at ih
        simp only [h1, Bool.false_eq_true, if_false] at ih ⊢
        rw [ih]; simp [pieces]
      · rw [if_neg e]
        cases h1 : lt x c
        · have hcx : lt c x = true := by
            rcases lt_tri h1 with e' | e'
            · exact absurd e' e
            · exact e'
          have h2 : okx lo c x = false := by unfold okx; rw [has_hi s4 h1]; rfl
          rw [okx_next hc hcx, h] at ih
          simp only [h2, Bool.false_eq_true, if_false, if_true] at ih ⊢
          rw [ih]; rfl
        · rw [if_pos rfl]
          have h2 : okx lo c x = true := by
            simp only [okx, has, Bool.and_eq_true, Bool.not_eq_true'] at h ⊢
            obtain ⟨⟨⟨⟨_, k2⟩, k3⟩, _⟩, k5⟩ := h
            refine ⟨⟨⟨⟨s1, k2⟩, k3⟩, ?_⟩, k5⟩
            simp [above, h1]
          rw [if_pos h2]; rfl
def step (lo hi : ByteArray) (cs : List ByteArray) (x : ByteArray) : List ByteArray := if okx lo hi x = true then insS x cs else cs
theorem step_spec (lo hi : ByteArray) : ∀ (l cs : List ByteArray), Rise cs → (∀ c ∈ cs, okx lo hi c = true) →
    Rise (l.foldl (step lo hi) cs) ∧ (∀ x, x ∈ l.foldl (step lo hi) cs ↔ x ∈ cs ∨ (x ∈ l ∧ okx lo hi x = true)) ∧ l.foldl (fun o x => insC x o) (pieces hi lo cs) = pieces hi lo (l.foldl (step lo hi) cs)
  | [], cs, h, ho => ⟨h, fun x => by simp, rfl⟩
  | y :: l, cs, h, ho => by
    have h1 : Rise (step lo hi cs y) := by unfold step; split; exact rise_insS _ _ h; exact h
    have h2 : ∀ x, x ∈ step lo hi cs y ↔ x ∈ cs ∨ (x = y ∧ okx lo hi x = true) := fun x => by
      unfold step
      cases e : okx lo hi y
      · simp only [Bool.false_eq_true, if_false]
        constructor
        · exact .inl
        · rintro (h | ⟨rfl, h⟩)
          · exact h
          · rw [e] at h; cases h
      · simp only [if_true]
        rw [mem_insS]
        constructor
        · rintro (rfl | h)
          · exact .inr ⟨rfl, e⟩
          · exact .inl h
        · rintro (h | ⟨h, _⟩)
          · exact .inr h
          · exact .inl h
    have h3 : ∀ c ∈ step lo hi cs y, okx lo hi c = true := fun c hc => by
      rcases (h2 c).1 hc with h | h
      · exact ho c h
      · exact h.2
    obtain ⟨i1, i2, i3⟩ := step_spec lo hi l _ h1 h3
    simp only [List.foldl_cons]
    refine ⟨i1, fun x => ?_, ?_⟩
    · rw [i2, h2, List.mem_cons]
      constructor
      · rintro ((h | ⟨h, h'⟩) | ⟨h, h'⟩)
        · exact .inl h
        · exact .inr ⟨.inl h, h'⟩
        · exact .inr ⟨.inr h, h'⟩
      · rintro (h | ⟨h | h, h'⟩)
        · exact .inl (.inl h)
        · exact .inl (.inr ⟨h, h'⟩)
        · exact .inr ⟨h, h'⟩
    · rw [insC_pieces hi y cs lo h ho]
      exact i3
/-- Cut once over the sorted texts, or one cut behind the other: the same pieces. -/
theorem cut_same (lo hi : ByteArray) (l : List ByteArray) : cutL hi lo (cutTexts l) = l.foldl (fun o x => insC x o) [⟨lo, hi⟩] := by
  obtain ⟨c1, c2⟩ := cutTexts_rise l
  obtain ⟨s1, s2, s3⟩ := step_spec lo hi l [] (by simp [Rise]) (by simp)
  have e : l.foldl (fun o x => insC x o) [⟨lo, hi⟩] = pieces hi lo (l.foldl (step lo hi) []) := s3
  rw [cutL_pieces hi _ lo c1, e]
  congr 1
  refine rise_ext _ _ (c1.filter _) s1 fun x => ?_
  rw [List.mem_filter, s2, c2]
  simp
theorem insC_len (x : ByteArray) : ∀ o, (insC x o).length ≤ o.length + 1
  | [] => by simp [insC]
  | s :: r => by
    unfold insC
    split
    · simp
    · have := insC_len x r
      simp; omega
/-! The reference's loops -/
theorem ev_rcut_in (at_ : List ByteArray) (i : Nat) (hi : i < at_.length) (ha : at_.length < 4398046511104) (x : ByteArray) (hx : rdOf ByteArray.empty at_ (i : Int) = x) (R : List S26) :
    ∀ (suf pre : List S26), (pre ++ suf).length + 2 < 4398046511104 → Ev (fun k => watershedref04_Cut.l0 k at_ (pre ++ insC x suf) ((i + 1 : Nat) : Int)) R →
      Ev (fun k => watershedref04_Cut.l1 k at_ (pre ++ suf) (i : Int) (pre.length : Int)) R := by
  have hw1 : wrap64 ((i : Int) + 1) = ((i + 1 : Nat) : Int) := by rw [w64 (by omega) (by omega)]; omega
  intro suf
  induction suf with
  | nil =>
    intro pre hl h
    refine Ev.step (fun k => ?_) h
    simp only [watershedref04_Cut.l1, List.append_nil, insC]
    rw [if_neg (by omega), hw1]
  | cons s r ih =>
    intro pre hl h
    have hlen := len_mid pre s r
    have hw : wrap64 ((pre.length : Int) + 1) = ((pre ++ [s]).length : Int) := by rw [w64 (by omega) (by omega)]; simp
    cases c : okx s.f0 s.f1 x
    · have i1 := ih (pre ++ [s]) (by simpa using hl) (by simpa [insC, c] using h)
      rw [List.append_assoc, List.singleton_append] at i1
      obtain ⟨K1, e1⟩ := ev_rhas s.f0 s.f1 x
      obtain ⟨K2, e2⟩ := i1
      dsimp only at e1 e2
      refine ⟨max K1 K2 + 1, fun k hk => ?_⟩
      obtain ⟨k, rfl⟩ : ∃ j, k = j + 1 := ⟨k - 1, by omega⟩
      simp only [watershedref04_Cut.l1]
      rw [if_pos (by omega), if_pos (by omega), if_pos (by omega), if_pos (by omega), rdT_mid, hx, e1 k (by omega), hw]
      simp only [Option.bind_some]
      cases c1 : has s.f0 s.f1 x
      · simp only [Bool.false_eq_true, if_false]
        exact e2 k (by omega)
      · have c2 : x.toList = s.f0.toList := by simpa [okx, c1] using c
        rw [if_pos rfl, if_pos c2]
        exact e2 k (by omega)
    · have c1 : has s.f0 s.f1 x = true := by simp only [okx, Bool.and_eq_true] at c; exact c.1
      have c2 : ¬ x.toList = s.f0.toList := by simp only [okx, Bool.and_eq_true, Bool.not_eq_true'] at c; simpa using c.2
      obtain ⟨K1, e1⟩ := ev_rhas s.f0 s.f1 x
      obtain ⟨K2, e2⟩ := h
      dsimp only at e1 e2
      refine ⟨max K1 K2 + 1, fun k hk => ?_⟩
      obtain ⟨k, rfl⟩ : ∃ j, k = j + 1 := ⟨k - 1, by omega⟩
      have e2' := e2 k (by omega)
      have hd : (pre ++ s :: r).drop (((pre ++ [s]).length : Int)).toNat = r := by
        rw [Int.toNat_natCast, show pre ++ s :: r = (pre ++ [s]) ++ r by simp, List.drop_left]
      have ht : (pre ++ s :: r).take ((pre.length : Int)).toNat = pre := by
        rw [Int.toNat_natCast, List.take_left]
      simp only [insC, c, if_true] at e2'
      have hl' : pre.length + (r.length + 1) + 2 < 4398046511104 := by simpa using hl
      simp only [watershedref04_Cut.l1]
      rw [if_pos (by omega), if_pos (by omega), if_pos (by omega), if_pos (by omega), rdT_mid, hx, e1 k (by omega), hw, hw1]
      simp only [Option.bind_some, c1, if_true, if_neg c2, hd, ht]
      rw [if_pos (by omega), if_pos (by simp; omega), if_pos (by simp; omega), if_pos (by omega), if_pos (by simp; omega), if_pos (by simp; omega)]
      simpa using e2'
theorem ev_rcut_l (at_ : List ByteArray) (ha : at_.length < 4398046511104) : ∀ (m i : Nat) (out : List S26), at_.length = i + m → out.length + m + 2 < 4398046511104 →
    Ev (fun k => watershedref04_Cut.l0 k at_ out (i : Int)) ((at_.drop i).foldl (fun o x => insC x o) out) := by
  intro m
  induction m with
  | zero =>
    intro i out h hl
    refine Ev.step (f := fun _ => some out) (fun k => ?_) ?_
    · simp only [watershedref04_Cut.l0]
      rw [if_neg (by omega)]
    · rw [List.drop_of_length_le (by omega)]
      exact Ev.now _
  | succ m ih =>
    intro i out h hl
    have hi : i < at_.length := by omega
    have hx : rdOf ByteArray.empty at_ (i : Int) = at_[i] := by simp [rdOf, List.getD_eq_getElem?_getD, List.getElem?_eq_getElem hi]
    have hil := insC_len at_[i] out
    have i1 := ih (i + 1) (insC at_[i] out) (by omega) (by omega)
    have h1 := ev_rcut_in at_ i hi ha at_[i] hx _ out [] (by simp; omega) (by simpa using i1)
    rw [List.drop_eq_getElem_cons hi, List.foldl_cons]
    refine Ev.step (f := fun k => watershedref04_Cut.l1 k at_ ([] ++ out) (i : Int) (([] : List S26).length : Int)) (fun k => ?_) h1
    simp only [watershedref04_Cut.l0]
    rw [if_pos (by omega)]
    rfl
theorem ev_rcut (lo hi : ByteArray) (l : List ByteArray) (hl : l.length < 1099511627776) : Ev (fun k => watershedref04_Cut.f k lo hi l) (cut lo hi l) := by
  have h := ev_rcut_l l (by omega) l.length 0 [⟨lo, hi⟩] (by omega) (by simp; omega)
  unfold watershedref04_Cut.f
  refine Ev.bind (f := fun k t => if t = true then (watershedref04_Cut.l0 k l (([(⟨lo, hi⟩ : S26)] : List (S26))) 0) else (some ([] : List (S26)))) (ev_rright lo hi) ?_
  unfold cut
  by_cases c : right lo hi = true
  · simp only [if_pos c]
    rw [cut_same]
    simpa using h
  · simp only [if_neg c]
    exact Ev.now _
theorem ev_same_l (l : List S26) (hl : l.length < 4398046511104) : ∀ (m i : Nat), l.length = i + m → Ev (fun k => watershedlaw04_same.l0 k l l (i : Int)) true := by
  intro m
  induction m with
  | zero =>
    intro i h
    refine Ev.step (f := fun _ => some true) (fun k => ?_) (Ev.now _)
    simp only [watershedlaw04_same.l0]
    rw [if_neg (by omega)]
  | succ m ih =>
    intro i h
    have hw1 : wrap64 ((i : Int) + 1) = ((i + 1 : Nat) : Int) := by rw [w64 (by omega) (by omega)]; omega
    refine Ev.step (f := fun k => watershedlaw04_same.l0 k l l ((i + 1 : Nat) : Int)) (fun k => ?_) (ih (i + 1) (by omega))
    simp only [watershedlaw04_same.l0]
    rw [if_pos (by omega), if_pos (by omega), if_pos (by omega), hw1]
    simp
theorem ev_same (l : List S26) (hl : l.length < 4398046511104) : Ev (fun k => watershedlaw04_same.f k l l) true := by
  have h := ev_same_l l hl l.length 0 (by omega)
  unfold watershedlaw04_same.f
  simpa using h
theorem ev_kept_l (l : List ByteArray) (hl : l.length + 12 < 4398046511104000) : ∀ (m i : Nat), l.length + 12 = i + m → Ev (fun k => keptT.l0 k l (l ++ marksT 12) (i : Int)) true := by
  have hlen : (((l ++ marksT 12).length : Nat) : Int) = (l.length : Int) + 12 := by rw [List.length_append, marksT_len]; omega
  intro m
  induction m with
  | zero =>
    intro i h
    refine Ev.step (f := fun _ => some true) (fun k => ?_) (Ev.now _)
    simp only [keptT.l0, hlen]
    rw [if_neg (by omega)]
  | succ m ih =>
    intro i h
    have hw1 : wrap64 ((i : Int) + 1) = ((i + 1 : Nat) : Int) := by rw [w64 (by omega) (by omega)]; omega
    refine Ev.step (f := fun k => keptT.l0 k l (l ++ marksT 12) ((i + 1 : Nat) : Int)) (fun k => ?_) (ih (i + 1) (by omega))
    simp only [keptT.l0, hlen]
    rw [if_pos (by omega), hw1]
    by_cases c : (i : Int) < (l.length : Int)
    · have e : rdOf ByteArray.empty (l ++ marksT 12) (i : Int) = rdOf ByteArray.empty l (i : Int) := by
        simp [rdOf, List.getD_eq_getElem?_getD, List.getElem?_append_left (show i < l.length by omega)]
      rw [if_pos c, if_pos (by omega), e, if_pos rfl, if_neg (by omega)]
    · have e : rdOf ByteArray.empty (l ++ marksT 12) (i : Int) = mtxt ((i : Int) - l.length) := by
        have h1 : i - l.length < 12 := by omega
        have h2 : ((i - l.length : Nat) : Int) = (i : Int) - l.length := by omega
        simp [rdOf, List.getD_eq_getElem?_getD, List.getElem?_append_right (show l.length ≤ i by omega), marksT, h1, h2]
      rw [if_neg c, if_pos (by omega), if_pos (by omega), w64 (by omega) (by omega), mtxt_eq, Option.bind_some, e, if_pos rfl]
theorem ev_kept (l : List ByteArray) (hl : l.length + 12 < 4398046511104000) : Ev (fun k => keptT.f k (l ++ marksT 12) l) true := by
  have h := ev_kept_l l hl (l.length + 12) 0 (by omega)
  unfold keptT.f
  simpa using h
end Go.Proofs.Ytbmnhpihlkljdaa.P04e
