import Derived.Test.YtbmnhpihlkljdaaZEP04ex3
import Derived.Test.YtbmnhpihlkljdaaZEP04ex4
import Derived.Test.YtbmnhpihlkljdaaZEP04ex6
import Derived.Test.YtbmnhpihlkljdaaZEP04ex7
import Derived.Test.YtbmnhpihlkljdaaZEP04ex8
import Derived.Test.YtbmnhpihlkljdaaZEP04ex9
namespace Go.Proofs.Ytbmnhpihlkljdaa.P04e
open Go.RowKit Go.Proofs.YtbmnhpihlkljdaaW.PrintWords Go.Proofs.YtbmnhpihlkljdaaW.PrintLast Go.Proofs.YtbmnhpihlkljdaaW.PrintMore
/-! Plain facts -/
theorem w64 {i : Int} (h0 : -9223372036854775808 ≤ i) (h : i ≤ 9223372036854775807) : wrap64 i = i := by unfold wrap64; omega
theorem len_mid {α : Type} (pre : List α) (x : α) (suf : List α) : ((pre ++ x :: suf).length : Int) = pre.length + 1 + suf.length := by simp; omega
theorem rdOf_mid {α : Type} (d : α) (pre : List α) (x : α) (suf : List α) : rdOf d (pre ++ x :: suf) (pre.length : Int) = x := by
  unfold rdOf
  simp [List.getD_eq_getElem?_getD]
theorem rdT_mid (pre : List S26) (x : S26) (suf : List S26) : rd_T26 (pre ++ x :: suf) (pre.length : Int) = x := by
  unfold rd_T26
  simp [List.getD_eq_getElem?_getD]

/-! The order of texts -/
theorem bL_irr : ∀ x, Op.bytesLess x x = false
  | [] => rfl
  | a :: x => by simp [Op.bytesLess, bL_irr x]
theorem bL_tri : ∀ x y, Op.bytesLess x y = false → x = y ∨ Op.bytesLess y x = true
  | [], [], _ => .inl rfl
  | [], b :: y, h => by simp [Op.bytesLess] at h
  | a :: x, [], _ => .inr rfl
  | a :: x, b :: y, h => by
    simp only [Op.bytesLess, Bool.or_eq_false_iff, decide_eq_false_iff_not, Bool.and_eq_false_iff, beq_eq_false_iff_ne] at h
    obtain ⟨h1, h2⟩ := h
    by_cases e : a = b
    · subst e
      rcases bL_tri x y (by simpa using h2) with e | e
      · exact .inl (by rw [e])
      · exact .inr (by simp [Op.bytesLess, e])
    · refine .inr ?_
      have : b < a := by
        rw [UInt8.lt_iff_toNat_lt] at h1 ⊢
        have : a.toNat ≠ b.toNat := fun e' => e (UInt8.toNat_inj.1 e')
        omega
      simp [Op.bytesLess, this]
theorem bL_trans : ∀ x y z, Op.bytesLess x y = true → Op.bytesLess y z = true → Op.bytesLess x z = true
  | _, [], _, h, _ => by simp [Op.bytesLess] at h
  | _, _ :: _, [], _, h => by simp [Op.bytesLess] at h
  | [], _ :: _, _ :: _, _, _ => rfl
  | a :: x, b :: y, c :: z, h1, h2 => by
    simp only [Op.bytesLess, Bool.or_eq_true, decide_eq_true_eq, Bool.and_eq_true, beq_iff_eq] at h1 h2 ⊢
    rcases h1 with h1 | ⟨rfl, h1⟩
    · rcases h2 with h2 | ⟨rfl, h2⟩
      · left; rw [UInt8.lt_iff_toNat_lt] at *; omega
      · exact .inl h1
    · rcases h2 with h2 | ⟨rfl, h2⟩
      · exact .inl h2
      · exact .inr ⟨rfl, bL_trans x y z h1 h2⟩
theorem bL_asym (x y : List UInt8) (h : Op.bytesLess x y = true) : Op.bytesLess y x = false := by
  cases e : Op.bytesLess y x
  · rfl
  · have := bL_trans x y x h e
    rw [bL_irr] at this
    cases this
theorem bL_nil (x : List UInt8) : Op.bytesLess x [] = false := by cases x <;> rfl

theorem toList_loop (b : ByteArray) : ∀ (m i : Nat) (r : List UInt8), b.size ≤ i + m → ByteArray.toList.loop b i r = r.reverse ++ b.data.toList.drop i := by
  intro m
  induction m with
  | zero =>
    intro i r h
    rw [ByteArray.toList.loop, if_neg (by omega), List.drop_eq_nil_of_le (by rw [data_length]; omega), List.append_nil]
  | succ m ih =>
    intro i r h
    rw [ByteArray.toList.loop]
    by_cases c : i < b.size
    · rw [if_pos c, ih (i + 1) _ (by omega)]
      have hl : i < b.data.toList.length := by rw [data_length]; exact c
      rw [List.drop_eq_getElem_cons hl, List.reverse_cons, List.append_assoc]
      congr 2
      have hc : i < b.data.size := c
      simp only [ByteArray.get!, Array.getElem_toList, getElem!_pos b.data i hc, List.singleton_append]
    · rw [if_neg c, List.drop_eq_nil_of_le (by rw [data_length]; omega), List.append_nil]
theorem toList_eq (b : ByteArray) : b.toList = b.data.toList := by
  have := toList_loop b b.size 0 [] (by omega)
  simpa [ByteArray.toList] using this
theorem size_toList (b : ByteArray) : b.toList.length = b.size := by rw [toList_eq, data_length]
theorem toList_inj {a b : ByteArray} (h : a.toList = b.toList) : a = b := by
  rw [toList_eq, toList_eq] at h
  cases a; cases b
  simpa [Array.toList_inj] using h

/-! Key -/
def okc (c : Int) : Bool := (decide (c ≥ 97) && decide (c ≤ 122)) || (decide (c ≥ 48) && decide (c ≤ 57))
theorem okc_if {α : Type} (c : Int) (L F : α) : (if c ≥ 97 then (if c ≤ 122 then L else (if c ≥ 48 then (if c ≤ 57 then L else F) else F)) else (if c ≥ 48 then (if c ≤ 57 then L else F) else F)) = if okc c = true then L else F := by
  by_cases h1 : c ≥ 97 <;> by_cases h2 : c ≤ 122 <;> by_cases h3 : c ≥ 48 <;> by_cases h4 : c ≤ 57 <;> simp [okc, h1, h2, h3, h4]
def keyL (b : ByteArray) : Nat → Nat → Bool
  | 0, _ => true
  | m + 1, i => okc (bt b i) && keyL b m (i + 1)
def key (b : ByteArray) : Bool := decide (1 ≤ b.size) && decide (b.size ≤ 20) && keyL b b.size 0
theorem isE_size (b : ByteArray) : b.toList = [] ↔ b.size = 0 := by rw [← size_toList]; exact List.length_eq_zero_iff.symm
theorem ev_key_l (b : ByteArray) (hb : b.size ≤ 20) : ∀ (m i : Nat), b.size = i + m → Ev (fun k => span_Key.l0 k b (b.size : Int) (i : Int)) (keyL b m i) := by
  intro m
  induction m with
  | zero =>
    intro i h
    refine Ev.step (f := fun _ => some true) (fun k => ?_) (Ev.now _)
    simp only [span_Key.l0]
    rw [if_neg (by omega)]
  | succ m ih =>
    intro i h
    refine Ev.step (f := fun k => if okc (bt b i) = true then span_Key.l0 k b (b.size : Int) ((i + 1 : Nat) : Int) else some false) (fun k => ?_) ?_
    · simp only [span_Key.l0]
      have hw : wrap64 ((i : Int) + 1) = ((i + 1 : Nat) : Int) := by rw [w64 (by omega) (by omega)]; omega
      rw [if_pos (by omega), if_pos (by omega), if_pos (by omega), hw, okc_if]
    · have h1 := ih (i + 1) (by omega)
      unfold keyL
      by_cases c : okc (bt b i) = true
      · simp only [if_pos c]
        simpa [c] using h1
      · simp only [if_neg c]
        simpa [c] using Ev.now false
theorem ev_key (b : ByteArray) : Ev (fun k => span_Key.f k b) (key b) := by
  by_cases c : b.toList = []
  · have hz := (isE_size b).1 c
    refine Ev.congr (g := fun k => span_Key.f k b) (f := fun k => span_Key.j0 k b true) (fun k => by simp [span_Key.f, c]) ?_
    refine Ev.step (f := fun _ => some false) (fun k => by simp [span_Key.j0]) ?_
    simpa [key, hz] using Ev.now false
  · have hz : b.size ≠ 0 := fun e => c ((isE_size b).2 e)
    refine Ev.congr (g := fun k => span_Key.f k b) (f := fun k => span_Key.j0 k b (decide ((b.size : Int) > 20))) (fun k => by simp [span_Key.f, c]) ?_
    by_cases d : (b.size : Int) > 20
    · refine Ev.step (f := fun _ => some false) (fun k => by simp [span_Key.j0, d]) ?_
      have : ¬ b.size ≤ 20 := by omega
      simpa [key, this] using Ev.now false
    · refine Ev.step (f := fun k => span_Key.l0 k b (b.size : Int) ((0 : Nat) : Int)) (fun k => by simp [span_Key.j0, d]) ?_
      have h := ev_key_l b (by omega) b.size 0 (by omega)
      have h1 : 1 ≤ b.size := by omega
      have h2 : b.size ≤ 20 := by omega
      simpa [key, h1, h2] using h

/-! Right, Has, Within -/
def isE (b : ByteArray) : Bool := b.toList == ([] : List UInt8)
def lt (x y : ByteArray) : Bool := Op.bytesLess x.toList y.toList
def right (lo hi : ByteArray) : Bool := (isE lo || key lo) && (isE hi || key hi) && (isE hi || lt lo hi)
def cmp (x y : ByteArray) : Int := if lt x y = true then -1 else if x.toList = y.toList then 0 else 1
theorem compare_eq (x y : ByteArray) : span_text_compare.f x y = some (cmp x y) := by
  have h : ∀ z, cmp_isNaN_string.f z = some false := fun z => by simp [cmp_isNaN_string.f]
  cases hl : lt x y
  · have hl' : Op.bytesLess x.toList y.toList = false := hl
    by_cases e : x.toList = y.toList
    · simp only [span_text_compare.f, cmp_Compare_string.f, h, Option.bind_some, cmp, hl, hl', Bool.false_eq_true, if_false, if_pos e]
    · simp only [span_text_compare.f, cmp_Compare_string.f, h, Option.bind_some, cmp, hl, hl', Bool.false_eq_true, if_false, if_neg e]
  · have hl' : Op.bytesLess x.toList y.toList = true := hl
    simp only [span_text_compare.f, cmp_Compare_string.f, h, Option.bind_some, cmp, hl, hl', Bool.false_eq_true, if_false, if_true]
theorem cmp_pos (x y : ByteArray) : decide (cmp x y > 0) = lt y x := by
  unfold cmp
  cases h : lt x y
  · by_cases e : x.toList = y.toList
    · simp [e, lt, bL_irr]
    · rcases bL_tri _ _ h with h' | h'
      · exact absurd h' e
      · simp [e, lt, h']
  · have := bL_asym _ _ h
    simp [lt, this]
theorem cmp_le (x y : ByteArray) : decide (cmp x y ≤ 0) = !lt y x := by
  rw [← cmp_pos]
  by_cases h : cmp x y > 0
  · have : ¬ cmp x y ≤ 0 := by omega
    simp [h, this]
  · have : cmp x y ≤ 0 := by omega
    simp [h, this]
theorem cmp_ge (x y : ByteArray) : decide (cmp x y ≥ 0) = !lt x y := by
  unfold cmp
  cases h : lt x y
  · by_cases e : x.toList = y.toList <;> simp [e]
  · simp
def above (h t : ByteArray) : Bool := isE h || lt t h
theorem above_eq (h t : ByteArray) : span_high_above.f h t = some (above h t) := by
  simp only [span_high_above.f, span_text_none.f, Option.bind_some, compare_eq, cmp_pos, above, isE]
  cases h.toList == ([] : List UInt8) <;> simp
theorem ev_right (lo hi : ByteArray) : Ev (fun k => span_Right.f k lo hi) (right lo hi) := by
  obtain ⟨K1, h1⟩ := ev_key lo
  obtain ⟨K2, h2⟩ := ev_key hi
  refine ⟨max K1 K2, fun k hk => ?_⟩
  simp only [span_Right.f, span_ends.f, span_text_none.f, Option.bind_some, above_eq, h1 k (by omega), h2 k (by omega), right, above, isE]
  cases lo.toList == ([] : List UInt8) <;> cases hi.toList == ([] : List UInt8) <;> cases key lo <;> cases key hi <;> cases lt lo hi <;> simp
def has (lo hi x : ByteArray) : Bool := right lo hi && key x && !lt x lo && above hi x
theorem ev_has (lo hi x : ByteArray) : Ev (fun k => span_Has.f k lo hi x) (has lo hi x) := by
  obtain ⟨K1, h1⟩ := ev_right lo hi
  obtain ⟨K2, h2⟩ := ev_key x
  refine ⟨max K1 K2, fun k hk => ?_⟩
  have hc : (cmp lo x ≤ 0) ↔ lt x lo = false := by
    have := cmp_le lo x
    by_cases c : cmp lo x ≤ 0 <;> simp [c] at this <;> simp [c, this]
  simp only [span_Has.f, span_ends.f, Option.bind_some, above_eq, compare_eq, h1 k (by omega), h2 k (by omega), has, hc]
  cases right lo hi <;> cases key x <;> cases lt x lo <;> simp

/-! few: it ends -/
theorem ev_few (l : List ByteArray) : ∃ b, Ev (fun k => watershedlaw04_few.f k l) b := by
  have key : ∀ (m i : Nat), i + m = 61 → ∃ b, Ev (fun k => watershedlaw04_few.l0 k l (i : Int)) b := by
    intro m
    induction m with
    | zero =>
      intro i h
      refine ⟨_, Ev.step (f := fun k => watershedlaw04_few.j1 k l (i : Int) false) (fun k => ?_) (Ev.step (f := fun _ => some (decide ((l.length : Int) ≤ 60))) (fun k => ?_) (Ev.now _))⟩
      · simp only [watershedlaw04_few.l0]
        have : decide ((i : Int) < 61) = false := decide_eq_false (by omega)
        rw [this]
        split <;> rfl
      · simp only [watershedlaw04_few.j1]; rw [if_neg (by simp)]
    | succ m ih =>
      intro i h
      by_cases c : (i : Int) < (l.length : Int)
      · obtain ⟨b, hb⟩ := ih (i + 1) (by omega)
        have hw : wrap64 ((i : Int) + 1) = ((i + 1 : Nat) : Int) := by rw [w64 (by omega) (by omega)]; omega
        have h1 : ∀ k, watershedlaw04_few.l0 (k + 1) l (i : Int) = watershedlaw04_few.j1 k l (i : Int) true := fun k => by
          simp only [watershedlaw04_few.l0]
          have : decide ((i : Int) < 61) = true := decide_eq_true (by omega)
          rw [if_pos c, this]
        by_cases d : ((rdOf ByteArray.empty l (i : Int)).size : Int) > 40
        · refine ⟨false, Ev.step h1 (Ev.step (f := fun _ => some false) (fun k => ?_) (Ev.now _))⟩
          simp only [watershedlaw04_few.j1]
          rw [if_pos trivial, if_pos (by omega), if_pos c, if_pos d]
        · refine ⟨b, Ev.step h1 (Ev.step (f := fun k => watershedlaw04_few.l0 k l ((i + 1 : Nat) : Int)) (fun k => ?_) hb)⟩
          simp only [watershedlaw04_few.j1]
          rw [if_pos trivial, if_pos (by omega), if_pos c, if_neg d, hw]
      · refine ⟨_, Ev.step (f := fun k => watershedlaw04_few.j1 k l (i : Int) false) (fun k => ?_) (Ev.step (f := fun _ => some (decide ((l.length : Int) ≤ 60))) (fun k => ?_) (Ev.now _))⟩
        · simp only [watershedlaw04_few.l0]; rw [if_neg c]
        · simp only [watershedlaw04_few.j1]; rw [if_neg (by simp)]
  exact key 61 0 (by omega)

/-! Meet, Cut, awake -/
def over (h g : ByteArray) : Bool := isE h || (!isE g && !lt h g)
theorem over_eq (h g : ByteArray) : span_high_over.f h g = some (over h g) := by
  simp only [span_high_over.f, span_text_none.f, Option.bind_some, compare_eq, cmp_ge, over, isE]
  cases h.toList == ([] : List UInt8) <;> cases g.toList == ([] : List UInt8) <;> simp
def E0 : ByteArray := ⟨#[]⟩
def meetHi (h g : ByteArray) : ByteArray := if over h g = true then g else h
def meet (a b c d : ByteArray) : ByteArray × ByteArray × Bool :=
  if (right a b && right c d && right (smax a c) (meetHi b d)) = true then (smax a c, meetHi b d, true) else (⟨#[]⟩, ⟨#[]⟩, false)
theorem ev_meet (a b c d : ByteArray) : Ev (fun k => span_Meet.f k a b c d) (meet a b c d) := by
  obtain ⟨K1, h1⟩ := ev_right a b
  obtain ⟨K2, h2⟩ := ev_right c d
  obtain ⟨K3, h3⟩ := ev_right (smax a c) (meetHi b d)
  have hf : ∀ k, span_Meet.f k a b c d = span_Meet.j0 k a b c d (smax a c) (meetHi b d) := fun k => by
    simp only [span_Meet.f, span_ends.f, Option.bind_some, over_eq, meetHi]
    cases over b d <;> simp
  refine Ev.congr hf (Ev.step (f := fun k => span_Meet.j0 (k + 1) a b c d (smax a c) (meetHi b d)) (fun k => rfl) ⟨max K1 (max K2 K3), fun k hk => ?_⟩)
  simp only [span_Meet.j0, h1 k (by omega), h2 k (by omega), h3 k (by omega), Option.bind_some, meet]
  cases right a b <;> cases right c d <;> cases right (smax a c) (meetHi b d) <;> simp

def cutL (hi : ByteArray) : ByteArray → List ByteArray → List S26
  | lo, [] => [⟨lo, hi⟩]
  | lo, x :: xs => if (has lo hi x && !(x.toList == lo.toList)) = true then ⟨lo, x⟩ :: cutL hi x xs else cutL hi lo xs
theorem ev_cut_l (hi : ByteArray) (suf : List ByteArray) : ∀ (pre : List ByteArray) (out : List S26) (lo : ByteArray), out.length + suf.length < 4398046511104 → (pre ++ suf).length < 4398046511104 →
    Ev (fun k => span_Cut.l0 k out (pre ++ suf) ((pre ++ suf).length : Int) (pre.length : Int) lo hi) (out ++ cutL hi lo suf) := by
  induction suf with
  | nil =>
    intro pre out lo h1 h2
    refine Ev.step (f := fun _ => some (out ++ [⟨lo, hi⟩])) (fun k => ?_) (Ev.now _)
    simp only [span_Cut.l0, List.append_nil]
    rw [if_neg (by omega), if_pos (by simpa using h1)]
  | cons x xs ih =>
    intro pre out lo h1 h2
    have hlen := len_mid pre x xs
    have hw : wrap64 ((pre.length : Int) + 1) = ((pre ++ [x]).length : Int) := by rw [w64 (by omega) (by omega)]; simp
    have h1' : out.length + (xs.length + 1) < 4398046511104 := by simpa using h1
    refine Ev.step (f := fun k => (span_Has.f k lo hi x).bind fun t => if t = true then (if x.toList = lo.toList then span_Cut.l0 k out (pre ++ x :: xs) ((pre ++ x :: xs).length : Int) ((pre ++ [x]).length : Int) lo hi else span_Cut.l0 k (out ++ [⟨lo, x⟩]) (pre ++ x :: xs) ((pre ++ x :: xs).length : Int) ((pre ++ [x]).length : Int) x hi) else span_Cut.l0 k out (pre ++ x :: xs) ((pre ++ x :: xs).length : Int) ((pre ++ [x]).length : Int) lo hi) (fun k => ?_) ?_
    · simp only [span_Cut.l0]
      rw [if_pos (by omega), if_pos (by omega), if_pos (by omega), rdOf_mid, hw]
      congr 1
      funext t
      by_cases c : t = true
      · rw [if_pos c, if_pos c]
        by_cases d : x.toList = lo.toList
        · rw [if_pos d, if_pos d]
        · rw [if_neg d, if_neg d, if_pos (by omega)]
      · rw [if_neg c, if_neg c]
    · refine Ev.bind (f := fun k t => if t = true then (if x.toList = lo.toList then span_Cut.l0 k out (pre ++ x :: xs) ((pre ++ x :: xs).length : Int) ((pre ++ [x]).length : Int) lo hi else span_Cut.l0 k (out ++ [⟨lo, x⟩]) (pre ++ x :: xs) ((pre ++ x :: xs).length : Int) ((pre ++ [x]).length : Int) x hi) else span_Cut.l0 k out (pre ++ x :: xs) ((pre ++ x :: xs).length : Int) ((pre ++ [x]).length : Int) lo hi) (ev_has lo hi x) ?_
      have i1 := ih (pre ++ [x]) out lo (by omega) (by simpa using h2)
      have i2 := ih (pre ++ [x]) (out ++ [⟨lo, x⟩]) x (by simp; omega) (by simpa using h2)
      rw [List.append_assoc, List.singleton_append] at i1 i2
      unfold cutL
      by_cases c : has lo hi x = true
      · by_cases d : x.toList = lo.toList
        · simpa [c, d] using i1
        · simpa [c, d] using i2
      · simpa [c] using i1
def cut (lo hi : ByteArray) (at_ : List ByteArray) : List S26 := if right lo hi = true then cutL hi lo (cutTexts at_) else []
theorem cutTexts_le (l : List ByteArray) : (cutTexts l).length ≤ l.length := by
  have := compact_le (sortedOf l)
  simpa [cutTexts, sortedOf_length] using this
theorem ev_cut (lo hi : ByteArray) (l : List ByteArray) (hl : l.length < 1099511627776) : Ev (fun k => span_Cut.f k lo hi l) (cut lo hi l) := by
  have hle := cutTexts_le l
  have h := ev_cut_l hi (cutTexts l) [] [] lo (by simp; omega) (by simp; omega)
  unfold span_Cut.f
  refine Ev.bind (f := fun k t => if t = true then (cutF l).bind fun t149 => span_Cut.l0 k ([] : List S26) t149 (t149.length : Int) 0 lo hi else some ([] : List S26)) (ev_right lo hi) ?_
  unfold cut
  by_cases c : right lo hi = true
  · simp only [if_pos c, cutF, if_pos hl, Option.bind_some]
    simpa using h
  · simp only [if_neg c]
    exact Ev.now _

theorem m1 : cutTexts [(⟨#[109]⟩ : ByteArray)] = [(⟨#[109]⟩ : ByteArray)] := by
  simp [cutTexts, sortedOf, bs, sb, Lib.compact, Lib.compactUpTo, Lib.keeps]

/-! Parts -/
def pL : ByteArray → Bool → List S26 → Bool
  | _, o, [] => o
  | h, o, s :: r => right s.f0 s.f1 && decide (s.f0.toList = h.toList) && !o && !(isE s.f1 && !r.isEmpty) && pL s.f1 (isE s.f1) r
theorem ev_parts_l (suf : List S26) : ∀ (pre : List S26) (h : ByteArray) (o : Bool), (pre ++ suf).length < 4398046511104 →
    Ev (fun k => span_Parts.l0 k (pre ++ suf) h o (pre ++ suf) ((pre ++ suf).length : Int) (pre.length : Int)) (pL h o suf) := by
  induction suf with
  | nil =>
    intro pre h o hl
    refine Ev.step (f := fun _ => some o) (fun k => ?_) (Ev.now _)
    simp only [span_Parts.l0, List.append_nil]
    rw [if_neg (by omega)]
  | cons s r ih =>
    intro pre h o hl
    have hlen := len_mid pre s r
    have hw : wrap64 ((pre.length : Int) + 1) = ((pre ++ [s]).length : Int) := by rw [w64 (by omega) (by omega)]; simp
    have hw2 : wrap64 (((pre ++ s :: r).length : Int) - 1) = ((pre.length + r.length : Nat) : Int) := by rw [w64 (by omega) (by omega)]; omega
    have hr : ((pre.length : Int) < ((pre.length + r.length : Nat) : Int)) ↔ r.isEmpty = false := by
      cases r with
      | nil => simp
      | cons a b => simp; omega
    refine Ev.step (f := fun k => (span_Right.f k s.f0 s.f1).bind fun t => if t = true then (if s.f0.toList = h.toList then (if o = true then some false else (if s.f1.toList = ([] : List UInt8) then (if r.isEmpty = false then some false else span_Parts.l0 k (pre ++ s :: r) s.f1 (isE s.f1) (pre ++ s :: r) ((pre ++ s :: r).length : Int) ((pre ++ [s]).length : Int)) else span_Parts.l0 k (pre ++ s :: r) s.f1 (isE s.f1) (pre ++ s :: r) ((pre ++ s :: r).length : Int) ((pre ++ [s]).length : Int))) else some false) else some false) (fun k => ?_) ?_
    · simp only [span_Parts.l0]
      rw [if_pos (by omega), if_pos (by omega), if_pos (by omega), rdT_mid, hw, hw2]
      simp only [hr, isE]
    · refine Ev.bind (f := fun k t => if t = true then (if s.f0.toList = h.toList then (if o = true then some false else (if s.f1.toList = ([] : List UInt8) then (if r.isEmpty = false then some false else span_Parts.l0 k (pre ++ s :: r) s.f1 (isE s.f1) (pre ++ s :: r) ((pre ++ s :: r).length : Int) ((pre ++ [s]).length : Int)) else span_Parts.l0 k (pre ++ s :: r) s.f1 (isE s.f1) (pre ++ s :: r) ((pre ++ s :: r).length : Int) ((pre ++ [s]).length : Int))) else some false) else some false) (ev_right s.f0 s.f1) ?_
      have i1 := ih (pre ++ [s]) s.f1 (isE s.f1) (by simpa using hl)
      rw [List.append_assoc, List.singleton_append] at i1
      unfold pL
      have hE : isE s.f1 = decide (s.f1.toList = []) := by
        unfold isE
        cases hb : (s.f1.toList == ([] : List UInt8))
        · exact (decide_eq_false (by simpa using hb)).symm
        · exact (decide_eq_true (by simpa using hb)).symm
      by_cases c1 : right s.f0 s.f1 = true
      · by_cases c2 : s.f0.toList = h.toList
        · by_cases c3 : o = true
          · simpa [c1, c2, c3] using Ev.now false
          · by_cases c4 : s.f1.toList = []
            · by_cases c5 : r.isEmpty = false
              · simpa [c1, c2, c3, c4, c5, hE] using Ev.now false
              · simpa [c1, c2, c3, c4, c5, hE] using i1
            · simpa [c1, c2, c3, c4, hE] using i1
        · simpa [c1, c2] using Ev.now false
      · simpa [c1] using Ev.now false
def parts (l : List S26) : Bool := pL ⟨#[]⟩ false l
theorem ev_parts (l : List S26) (hl : l.length < 4398046511104) : Ev (fun k => span_Parts.f k l) (parts l) := by
  have h := ev_parts_l l [] ⟨#[]⟩ false (by simpa using hl)
  simpa [span_Parts.f, parts] using h

/-! awake -/
theorem key_m : key ⟨#[109]⟩ = true := by decide
theorem key_a : key ⟨#[97]⟩ = true := by decide
theorem key_b : key ⟨#[98]⟩ = true := by decide
theorem key_c : key ⟨#[99]⟩ = true := by decide
theorem key_a1 : key ⟨#[97, 49]⟩ = true := by decide
theorem key_A : key ⟨#[65]⟩ = false := by decide
theorem cut_m : cut ⟨#[]⟩ ⟨#[]⟩ [⟨#[109]⟩] = [⟨⟨#[]⟩, ⟨#[109]⟩⟩, ⟨⟨#[109]⟩, ⟨#[]⟩⟩] := by
  simp [cut, m1, cutL, right, has, above, isE, toList_eq, key_m, lt, Op.bytesLess]
theorem meet_m : meet ⟨#[97]⟩ ⟨#[99]⟩ ⟨#[98]⟩ ⟨#[]⟩ = (⟨#[98]⟩, ⟨#[99]⟩, true) := by
  simp [meet, meetHi, over, smax, right, isE, toList_eq, key_a, key_b, key_c, lt, Op.bytesLess]
theorem parts_m : parts [⟨⟨#[]⟩, ⟨#[109]⟩⟩, ⟨⟨#[109]⟩, ⟨#[]⟩⟩] = true := by
  simp [parts, pL, right, isE, toList_eq, key_m, lt, Op.bytesLess]
theorem ev_awake : Ev (fun k => watershedlaw04_awake.f k) true := by
  obtain ⟨K1, h1⟩ := ev_cut ⟨#[]⟩ ⟨#[]⟩ [⟨#[109]⟩] (by simp)
  obtain ⟨K2, h2⟩ := ev_meet ⟨#[97]⟩ ⟨#[99]⟩ ⟨#[98]⟩ ⟨#[]⟩
  obtain ⟨K3, h3⟩ := ev_parts [⟨⟨#[]⟩, ⟨#[109]⟩⟩, ⟨⟨#[109]⟩, ⟨#[]⟩⟩] (by simp)
  obtain ⟨K4, h4⟩ := ev_key ⟨#[97, 49]⟩
  obtain ⟨K5, h5⟩ := ev_key ⟨#[65]⟩
  rw [cut_m] at h1
  rw [meet_m] at h2
  rw [parts_m] at h3
  rw [key_a1] at h4
  rw [key_A] at h5
  refine ⟨max K1 (max K2 (max K3 (max K4 K5))), fun k hk => ?_⟩
  simp only [watershedlaw04_awake.f, span_All.f, Option.bind_some, h1 k (by omega), h2 k (by omega), h3 k (by omega), h4 k (by omega), h5 k (by omega)]
  simp [rd_T26, toList_eq]
end Go.Proofs.Ytbmnhpihlkljdaa.P04e
