import Derived.Test.YtbmnhpihlkljdaaZEPureEt
import Derived.Test.YtbmnhpihlkljdaaZEP04ex10
import Derived.Test.YtbmnhpihlkljdaaZEP04ex12
import Derived.Test.YtbmnhpihlkljdaaZEP04ex13
namespace Go.Proofs.Ytbmnhpihlkljdaa.P04e
open Go.RowKit Go.Proofs.YtbmnhpihlkljdaaW.PrintWords Go.Proofs.YtbmnhpihlkljdaaW.PrintLast Go.Proofs.YtbmnhpihlkljdaaW.PrintMore
theorem ev_t_end (l : List ByteArray) (a b : ByteArray) (hl : l.length ≤ 60) : Ev (fun k => (watershedkit_LentTexts.f l).bind fun t282 => ((span_Cut.f k a b t282).bind fun t285 => ((watershedref04_Cut.f k a b l).bind fun t288 => ((watershedlaw04_same.f k t285 t288).bind fun t291 => (if t291 = true then ((watershedkit_KeptTexts.f t282 l).bind fun t292 => (some t292)) else (none)))))) true := by
  obtain ⟨K1, e1⟩ := ev_cut a b l (by omega)
  obtain ⟨K2, e2⟩ := ev_rcut a b l (by omega)
  have hc : (cut a b l).length < 4398046511104 := by
    unfold cut
    split
    · have := cut_len b (cutTexts l) a
      have := cutTexts_le l
      omega
    · simp
  obtain ⟨K3, e3⟩ := ev_same (cut a b l) hc
  dsimp only at e1 e2 e3
  refine ⟨max K1 (max K2 K3), fun k hk => ?_⟩
  simp only [watershedkit_LentTexts.f, watershedkit_KeptTexts.f, Option.bind_some, e1 k (by omega), e2 k (by omega), e3 k (by omega), if_true]
theorem ev_t_l (l : List ByteArray) (a b : ByteArray) (hl : l.length ≤ 60) : ∀ (m i : Nat), l.length = i + m → Ev (fun k => watershedlaw04_SpanTells.l0 k l (i : Int) a b) true := by
  intro m
  induction m with
  | zero =>
    intro i h
    refine Ev.step (fun k => ?_) (ev_t_end l a b hl)
    simp only [watershedlaw04_SpanTells.l0]
    rw [if_neg (by omega)]
  | succ m ih =>
    intro i h
    have hw1 : wrap64 ((i : Int) + 1) = ((i + 1 : Nat) : Int) := by rw [w64 (by omega) (by omega)]; omega
    obtain ⟨x, hx⟩ : ∃ x, x = rdOf ByteArray.empty l (i : Int) := ⟨_, rfl⟩
    obtain ⟨K1, e1⟩ := ev_key x
    obtain ⟨K2, e2⟩ := ev_rkey x
    obtain ⟨K3, e3⟩ := ev_has a b x
    obtain ⟨K4, e4⟩ := ev_rhas a b x
    obtain ⟨K5, e5⟩ := ih (i + 1) (by omega)
    dsimp only at e1 e2 e3 e4 e5
    refine ⟨max K1 (max K2 (max K3 (max K4 K5))) + 1, fun k hk => ?_⟩
    obtain ⟨k, rfl⟩ : ∃ j, k = j + 1 := ⟨k - 1, by omega⟩
    simp only [watershedlaw04_SpanTells.l0]
    rw [if_pos (by omega), if_pos (by omega), ← hx, hw1]
    simp only [e1 k (by omega), e2 k (by omega), e3 k (by omega), e4 k (by omega), Option.bind_some, bne_self_eq_false, Bool.false_eq_true, if_false]
    exact e5 k (by omega)
theorem spanTells_true (a b c d : ByteArray) (l : List ByteArray) (hl : l.length < 8796093022204) : Ev (fun k => watershedlaw04_SpanTells.f k a b c d l) true := by
  obtain ⟨K0, e0⟩ := ev_awake
  obtain ⟨b1, h1⟩ := ev_few ([a, b, c, d] ++ l)
  have hlen : ([a, b, c, d] : List ByteArray).length + l.length < 8796093022208 := by simp; omega
  cases hb1 : b1
  · obtain ⟨K1, e1⟩ := h1
    dsimp only at e0 e1
    refine ⟨max K0 K1, fun k hk => ?_⟩
    simp only [watershedlaw04_SpanTells.f, e0 k (by omega), Option.bind_some, if_true, if_pos hlen, e1 k (by omega), hb1, Bool.false_eq_true, if_false]
  · obtain ⟨k1, g1⟩ := h1.rounds
    rw [hb1] at g1
    have n1 := (few_len _ k1).1 0 g1
    have n1' : l.length ≤ 60 := by simp at n1; omega
    obtain ⟨K1, e1⟩ := h1
    obtain ⟨K2, e2⟩ := ev_meet a b c d
    obtain ⟨K3, e3⟩ := ev_rmeet a b c d
    obtain ⟨K4, e4⟩ := ev_within a b c d
    obtain ⟨K5, e5⟩ := ev_rwithin a b c d
    obtain ⟨K6, e6⟩ := ev_right a b
    obtain ⟨K7, e7⟩ := ev_rright a b
    obtain ⟨K8, e8⟩ := ev_t_l l a b n1' l.length 0 (by omega)
    dsimp only at e0 e1 e2 e3 e4 e5 e6 e7 e8
    refine ⟨max K0 (max K1 (max K2 (max K3 (max K4 (max K5 (max K6 (max K7 K8))))))) + 1, fun k hk => ?_⟩
    obtain ⟨k, rfl⟩ : ∃ j, k = j + 1 := ⟨k - 1, by omega⟩
    have e8' := e8 k (by omega)
    simp only [watershedlaw04_SpanTells.f, e0 (k + 1) (by omega), Option.bind_some, if_true, if_pos hlen, e1 (k + 1) (by omega), hb1, e2 (k + 1) (by omega), e3 (k + 1) (by omega), e4 (k + 1) (by omega), e5 (k + 1) (by omega), e6 (k + 1) (by omega), e7 (k + 1) (by omega), beq_self_eq_true, Bool.not_true, Bool.or_self, Bool.false_eq_true, if_false, bne_self_eq_false, watershedlaw04_SpanTells.j0]
    simpa using e8'
def rL : Option ByteArray → List S26 → Bool
  | _, [] => true
  | p, s :: r => right s.f0 s.f1 && (match p with | none => true | some h => !isE h && decide (h.toList = s.f0.toList)) && rL (some s.f1) r
theorem ev_rparts_l (suf : List S26) : ∀ (pre : List S26) (p : Option ByteArray), (pre ++ suf).length ≤ 1000 → (pre = [] → p = none) → (∀ q z, pre = q ++ [z] → p = some z.f1) →
    Ev (fun k => watershedref04_Parts.l0 k (pre ++ suf) (pre.length : Int)) (rL p suf) := by
  induction suf with
  | nil =>
    intro pre p hl h0 h1
    refine Ev.step (f := fun _ => some true) (fun k => ?_) (Ev.now _)
    simp only [watershedref04_Parts.l0, List.append_nil]
    rw [if_neg (by omega)]
  | cons s r ih =>
    intro pre p hl h0 h1
    have hlen := len_mid pre s r
    have hb : ((pre ++ s :: r).length : Int) ≤ 1000 := by omega
    have hw : wrap64 ((pre.length : Int) + 1) = ((pre ++ [s]).length : Int) := by rw [w64 (by omega) (by omega)]; simp
    have i1 := ih (pre ++ [s]) (some s.f1) (by simpa using hl) (by simp) (fun q z hz => by have := List.append_inj_right' hz rfl; simp at this; rw [this])
    rw [List.append_assoc, List.singleton_append] at i1
    by_cases c3 : pre = []
    · subst c3
      have := h0 rfl
      subst this
      refine Ev.step (f := fun k => (watershedref04_Right.f k s.f0 s.f1).bind fun t => if t = true then watershedref04_Parts.l0 k ([] ++ s :: r) ((([] : List S26) ++ [s]).length : Int) else some false) (fun k => ?_) ?_
      · simp only [watershedref04_Parts.l0]
        have e := rdT_mid [] s r
        rw [if_pos (by omega), if_pos (by omega), e, hw]
        simp
      · refine Ev.bind (f := fun k t => if t = true then watershedref04_Parts.l0 k ([] ++ s :: r) ((([] : List S26) ++ [s]).length : Int) else some false) (ev_rright s.f0 s.f1) ?_
        unfold rL
        by_cases c : right s.f0 s.f1 = true
        · simpa [c] using i1
        · simpa [c] using Ev.now false
    · obtain ⟨q, z, rfl⟩ : ∃ q z, pre = q ++ [z] := ⟨pre.dropLast, pre.getLast c3, (List.dropLast_concat_getLast c3).symm⟩
      have := h1 q z rfl
      subst this
      have hq : wrap64 (((q ++ [z]).length : Int) - 1) = (q.length : Int) := by rw [w64 (by omega) (by omega)]; simp
      have hr : rd_T26 (q ++ [z] ++ s :: r) (q.length : Int) = z := by rw [List.append_assoc]; exact rdT_mid q z (s :: r)
      refine Ev.step (f := fun k => (watershedref04_Right.f k s.f0 s.f1).bind fun t => if t = true then (if z.f1.toList = ([] : List UInt8) then some false else if z.f1.toList = s.f0.toList then watershedref04_Parts.l0 k (q ++ [z] ++ s :: r) ((q ++ [z] ++ [s]).length : Int) else some false) else some false) (fun k => ?_) ?_
      · simp only [watershedref04_Parts.l0]
        rw [if_pos (by omega), if_pos (by omega), rdT_mid, hq, hr, hw]
        rw [if_pos (show (0 : Int) ≤ q.length by omega), if_pos (show (q.length : Int) < (q ++ [z] ++ s :: r).length by first | (simp; done) | (simp; omega)), if_pos (show ((q ++ [z]).length : Int) > 0 by first | (simp; done) | (simp; omega))]
      · refine Ev.bind (f := fun k t => if t = true then (if z.f1.toList = ([] : List UInt8) then some false else if z.f1.toList = s.f0.toList then watershedref04_Parts.l0 k (q ++ [z] ++ s :: r) ((q ++ [z] ++ [s]).length : Int) else some false) else some false) (ev_rright s.f0 s.f1) ?_
        unfold rL
        by_cases c : right s.f0 s.f1 = true
        · by_cases d : z.f1.toList = []
          · simpa [c, d, isE_dec] using Ev.now false
          · by_cases e : z.f1.toList = s.f0.toList
            · have d' : ¬ s.f0.toList = [] := fun x => d (e.trans x)
              simpa [c, d, e, d', isE_dec] using i1
            · simpa [c, d, e, isE_dec] using Ev.now false
        · simpa [c] using Ev.now false
def lastE : ByteArray → List S26 → Bool
  | h, [] => isE h
  | _, s :: r => lastE s.f1 r
theorem lastE_snoc (h : ByteArray) : ∀ (l : List S26) (s : S26), lastE h (l ++ [s]) = isE s.f1
  | [], s => rfl
  | x :: l, s => by simpa [lastE] using lastE_snoc x.f1 l s
/-- Both tell the same, behind the first. -/
theorem pL_rL : ∀ (l : List S26) (h : ByteArray), pL h (isE h) l = (if l = [] then isE h else !isE h && rL (some h) l && lastE h l)
  | [], h => by simp [pL]
  | s :: r, h => by
    have ih := pL_rL r s.f1
    rw [if_neg (by simp)]
    unfold pL rL lastE
    rw [ih]
    have sy : decide (s.f0.toList = h.toList) = decide (h.toList = s.f0.toList) := by
      by_cases e : h.toList = s.f0.toList
      · rw [decide_eq_true e, decide_eq_true e.symm]
      · rw [decide_eq_false e, decide_eq_false (fun x => e x.symm)]
    rw [sy]
    dsimp only
    cases r with
    | nil => cases right s.f0 s.f1 <;> cases isE h <;> cases decide (h.toList = s.f0.toList) <;> simp [rL, lastE]
    | cons a b =>
      rw [if_neg (by simp)]
      cases hE1 : isE s.f1
      · cases right s.f0 s.f1 <;> cases isE h <;> cases decide (h.toList = s.f0.toList) <;> simp
      · have hn : rL (some s.f1) (a :: b) = false := by unfold rL; simp [hE1]
        rw [hn]
        cases right s.f0 s.f1 <;> cases isE h <;> cases decide (h.toList = s.f0.toList) <;> simp
theorem ev_rparts (l : List S26) (hl : l.length ≤ 1000) : Ev (fun k => watershedref04_Parts.f k l) (parts l) := by
  cases l with
  | nil =>
    refine Ev.congr (f := fun k => watershedref04_Parts.j0 k [] true) (fun k => by simp [watershedref04_Parts.f]) ?_
    refine Ev.step (f := fun _ => some false) (fun k => by simp [watershedref04_Parts.j0]) ?_
    simpa [parts, pL] using Ev.now false
  | cons s r =>
    have hlen : ((s :: r).length : Int) = r.length + 1 := by simp
    have hb : (s :: r).length ≤ 1000 := hl
    have h0 : rd_T26 (s :: r) 0 = s := by simp [rd_T26]
    have hw : wrap64 (((s :: r).length : Int) - 1) = (r.length : Int) := by rw [w64 (by omega) (by omega)]; omega
    obtain ⟨q, z, e⟩ : ∃ q z, s :: r = q ++ [z] := ⟨(s :: r).dropLast, (s :: r).getLast (by simp), (List.dropLast_concat_getLast (by simp)).symm⟩
    have hq : q.length = r.length := by have := congrArg List.length e; simp at this; omega
    have hz : rd_T26 (s :: r) (r.length : Int) = z := by rw [e, ← hq]; exact rdT_mid q z []
    have hlast : lastE ⟨#[]⟩ (s :: r) = isE z.f1 := by rw [e]; exact lastE_snoc _ q z
    have hsp : parts (s :: r) = (decide (s.f0.toList = []) && (isE z.f1 && rL none (s :: r))) := by
      have := pL_rL r s.f1
      unfold parts pL rL
      rw [this]
      have hl2 : lastE s.f1 r = isE z.f1 := hlast
      have hE : (⟨#[]⟩ : ByteArray).toList = [] := by simp [toList_eq]
      rw [hE, ← hl2]
      cases r with
      | nil => cases right s.f0 s.f1 <;> cases decide (s.f0.toList = []) <;> simp [rL, lastE]
      | cons a b =>
        rw [if_neg (by simp)]
        have : rL (some s.f1) (a :: b) = true → isE s.f1 = false := by
          intro h
          unfold rL at h
          simp at h
          exact h.1.2.1
        cases hE1 : isE s.f1
        · cases right s.f0 s.f1 <;> cases decide (s.f0.toList = []) <;> cases rL (some s.f1) (a :: b) <;> cases lastE s.f1 (a :: b) <;> simp
        · have hn : rL (some s.f1) (a :: b) = false := by
            cases hr : rL (some s.f1) (a :: b)
            · rfl
            · rw [this hr] at hE1; cases hE1
          rw [hn]
          cases right s.f0 s.f1 <;> cases decide (s.f0.toList = []) <;> cases lastE s.f1 (a :: b) <;> simp
    rw [hsp]
    have hf : ∀ k, watershedref04_Parts.f k (s :: r) = if s.f0.toList = ([] : List UInt8) then watershedref04_Parts.j0 k (s :: r) (z.f1.toList != ([] : List UInt8)) else watershedref04_Parts.j0 k (s :: r) true := fun k => by
      simp only [watershedref04_Parts.f]
      rw [if_neg (by omega), if_pos (by omega), h0, hw, hz]
      by_cases c : s.f0.toList = []
      · rw [if_pos c, if_pos c, if_pos (by omega), if_pos (by omega)]
      · rw [if_neg c, if_neg c]
    refine Ev.congr hf ?_
    by_cases c : s.f0.toList = []
    · simp only [if_pos c]
      by_cases d : z.f1.toList = []
      · refine Ev.step (f := fun k => watershedref04_Parts.l0 k ([] ++ s :: r) ((([] : List S26)).length : Int)) (fun k => by simp [watershedref04_Parts.j0, d]) ?_
        have := ev_rparts_l (s :: r) [] none (by simpa using hl) (fun _ => rfl) (fun q z h => by simp at h)
        simpa [c, d, isE_dec] using this
      · refine Ev.step (f := fun _ => some false) (fun k => by simp [watershedref04_Parts.j0, d]) ?_
        simpa [c, d, isE_dec] using Ev.now false
    · simp only [if_neg c]
      refine Ev.step (f := fun _ => some false) (fun k => by simp [watershedref04_Parts.j0]) ?_
      simpa [c] using Ev.now false

/-! SpanParts -/
theorem ev_tail (l : List S26) (x : List ByteArray) (_ : l.length ≤ 1000 ∨ (l.length : Int) > 30) :
    Ev (fun k => (watershedlaw04_few.f k x).bind fun t => if t = true then (if (l.length : Int) > 30 then some true else (span_Parts.f k l).bind fun t202 => (watershedref04_Parts.f k l).bind fun t203 => some (t202 == t203)) else some true) true := by
  obtain ⟨b, hb⟩ := ev_few x
  refine Ev.bind (f := fun k t => if t = true then (if (l.length : Int) > 30 then some true else (span_Parts.f k l).bind fun t202 => (watershedref04_Parts.f k l).bind fun t203 => some (t202 == t203)) else some true) hb ?_
  cases b
  · simpa using Ev.now true
  · simp only [if_true]
    by_cases c : (l.length : Int) > 30
    · simp only [if_pos c]; exact Ev.now _
    · simp only [if_neg c]
      refine Ev.bind (f := fun k t => (watershedref04_Parts.f k l).bind fun t203 => some (t == t203)) (ev_parts l (by omega)) ?_
      refine Ev.bind (f := fun k t => some (parts l == t)) (ev_rparts l (by omega)) ?_
      simpa using Ev.now true
theorem ev_sp_l (l : List S26) : ∀ (m i : Nat) (x : List ByteArray), i + m = 31 → x.length = 2 * i → Ev (fun k => watershedlaw04_SpanParts.l0 k l x (i : Int)) true := by
  intro m
  have ht := fun x => ev_tail l x (by rcases Nat.lt_or_ge 30 l.length with h | h <;> omega)
  induction m with
  | zero =>
    intro i x h hx
    refine Ev.step (fun k => ?_) (ht x)
    simp only [watershedlaw04_SpanParts.l0]
    rw [if_neg (show ¬ (i : Int) < 31 by omega)]
    split <;> rfl
  | succ m ih =>
    intro i x h hx
    by_cases c : (i : Int) < (l.length : Int)
    · have hw : wrap64 ((i : Int) + 1) = ((i + 1 : Nat) : Int) := by rw [w64 (by omega) (by omega)]; omega
      refine Ev.step (f := fun k => watershedlaw04_SpanParts.l0 k l (x ++ [(rd_T26 l (i : Int)).f0, (rd_T26 l (i : Int)).f1]) ((i + 1 : Nat) : Int)) (fun k => ?_) (ih (i + 1) _ (by omega) (by simp; omega))
      simp only [watershedlaw04_SpanParts.l0]
      rw [if_pos c, if_pos (by omega), if_pos (by omega), hw, Option.bind_some, if_pos (by simp; omega)]
    · refine Ev.step (fun k => ?_) (ht x)
      simp only [watershedlaw04_SpanParts.l0]
      rw [if_neg c]
theorem spanParts_true (l : List S26) : Ev (fun k => watershedlaw04_SpanParts.f k l) true := by
  unfold watershedlaw04_SpanParts.f
  refine Ev.bind (f := fun k t => if t = true then watershedlaw04_SpanParts.l0 k l ([] : List ByteArray) 0 else none) ev_awake ?_
  simp only [if_true]
  exact ev_sp_l l 31 0 [] (by omega) rfl
theorem ev_l2_e (l : List ByteArray) (hl : l.length = 12) (i j : Nat) (hi : i < 12) (hj : j < 12) (R : Ev (fun k => watershedlaw04_SpanEnds.l1 k l (i : Int) ((j + 1 : Nat) : Int)) true) : ∀ (m n : Nat), 12 = n + m → Ev (fun k => watershedlaw04_SpanEnds.l2 k l (i : Int) (j : Int) (n : Int)) true := by
  have hw1 : wrap64 ((j : Int) + 1) = ((j + 1 : Nat) : Int) := by rw [w64 (by omega) (by omega)]; omega
  have hlI : (l.length : Int) = 12 := by omega
  have hm : Int.tmod (wrap64 ((i : Int) + (j : Int))) 12 = (((i + j) % 12 : Nat) : Int) := by rw [w64 (by omega) (by omega)]; rw [Int.tmod_eq_emod_of_nonneg (by omega)]; omega
  intro m
  induction m with
  | zero =>
    intro n h
    refine Ev.step (fun k => ?_) R
    simp only [watershedlaw04_SpanEnds.l2, hlI]
    rw [if_neg (by omega), hw1]
  | succ m ih =>
    intro n h
    have hw : wrap64 ((n : Int) + 1) = ((n + 1 : Nat) : Int) := by rw [w64 (by omega) (by omega)]; omega
    obtain ⟨K1, e1⟩ := spanTells_true (rdOf ByteArray.empty l (i : Int)) (rdOf ByteArray.empty l (j : Int)) (rdOf ByteArray.empty l (n : Int)) (rdOf ByteArray.empty l (((i + j) % 12 : Nat) : Int)) l (by omega)
    obtain ⟨K2, e2⟩ := spanParts_true [(⟨rdOf ByteArray.empty l (n : Int), rdOf ByteArray.empty l (i : Int)⟩ : S26), ⟨rdOf ByteArray.empty l (i : Int), rdOf ByteArray.empty l (j : Int)⟩, ⟨rdOf ByteArray.empty l (j : Int), ⟨#[]⟩⟩]
    obtain ⟨K3, e3⟩ := spanParts_true [(⟨⟨#[]⟩, rdOf ByteArray.empty l (i : Int)⟩ : S26), ⟨rdOf ByteArray.empty l (i : Int), rdOf ByteArray.empty l (j : Int)⟩, ⟨rdOf ByteArray.empty l (j : Int), ⟨#[]⟩⟩]
    obtain ⟨K4, e4⟩ := ih (n + 1) (by omega)
    dsimp only at e1 e2 e3 e4
    refine ⟨max K1 (max K2 (max K3 K4)) + 1, fun k hk => ?_⟩
    obtain ⟨k, rfl⟩ : ∃ j, k = j + 1 := ⟨k - 1, by omega⟩
    simp only [watershedlaw04_SpanEnds.l2, hlI]
    rw [if_pos (by omega), if_pos (by omega), if_pos (by omega), if_pos (by omega), if_pos (by omega), if_pos (by omega), if_neg (by omega), hm, if_pos (by omega), if_pos (by omega), e1 k (by omega), hw]
    simp only [Option.bind_some, if_true]
    rw [e2 k (by omega)]
    simp only [Option.bind_some, if_true]
    rw [e3 k (by omega)]
    simp only [Option.bind_some, if_true]
    exact e4 k (by omega)
theorem ev_l1_e (l : List ByteArray) (hl : l.length = 12) (i : Nat) (hi : i < 12) (R : Ev (fun k => watershedlaw04_SpanEnds.l0 k l ((i + 1 : Nat) : Int)) true) : ∀ (m j : Nat), 12 = j + m → Ev (fun k => watershedlaw04_SpanEnds.l1 k l (i : Int) (j : Int)) true := by
  have hw1 : wrap64 ((i : Int) + 1) = ((i + 1 : Nat) : Int) := by rw [w64 (by omega) (by omega)]; omega
  intro m
  induction m with
  | zero =>
    intro j h
    refine Ev.step (fun k => ?_) R
    simp only [watershedlaw04_SpanEnds.l1]
    rw [if_neg (by omega), hw1]
  | succ m ih =>
    intro j h
    refine Ev.step (fun k => ?_) (ev_l2_e l hl i j hi (by omega) (ih (j + 1) (by omega)) 12 0 rfl)
    simp only [watershedlaw04_SpanEnds.l1]
    rw [if_pos (by omega)]
    rfl
theorem ev_l0_e (l : List ByteArray) (hl : l.length = 12) : ∀ (m i : Nat), 12 = i + m → Ev (fun k => watershedlaw04_SpanEnds.l0 k l (i : Int)) true := by
  intro m
  induction m with
  | zero =>
    intro i h
    obtain ⟨K1, e1⟩ := spanParts_true []
    obtain ⟨K2, e2⟩ := spanParts_true [(⟨⟨#[]⟩, ⟨#[]⟩⟩ : S26)]
    obtain ⟨K3, e3⟩ := spanParts_true [(⟨⟨#[]⟩, ⟨#[]⟩⟩ : S26), ⟨⟨#[]⟩, ⟨#[]⟩⟩]
    dsimp only at e1 e2 e3
    refine ⟨max K1 (max K2 K3) + 1, fun k hk => ?_⟩
    obtain ⟨k, rfl⟩ : ∃ j, k = j + 1 := ⟨k - 1, by omega⟩
    simp only [watershedlaw04_SpanEnds.l0]
    rw [if_neg (by omega), e1 k (by omega)]
    simp only [Option.bind_some, if_true]
    rw [e2 k (by omega)]
    simp only [Option.bind_some, if_true]
    rw [e3 k (by omega)]
    rfl
  | succ m ih =>
    intro i h
    refine Ev.step (fun k => ?_) (ev_l1_e l hl i (by omega) (ih (i + 1) (by omega)) 12 0 rfl)
    simp only [watershedlaw04_SpanEnds.l0]
    rw [if_pos (by omega)]
    rfl
theorem spanEnds_true : Ev (fun k => watershedlaw04_SpanEnds.f k) true := by
  unfold watershedlaw04_SpanEnds.f
  refine Ev.bind (f := fun k t => if t = true then watershedlaw04_SpanEnds.l0 k _ 0 else none) ev_awake ?_
  simp only [if_true]
  exact ev_l0_e _ rfl 12 0 rfl
end Go.Proofs.Ytbmnhpihlkljdaa.P04e
