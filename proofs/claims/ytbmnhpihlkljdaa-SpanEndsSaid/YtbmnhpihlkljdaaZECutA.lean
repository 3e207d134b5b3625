import Derived.Test.YtbmnhpihlkljdaaZEIter
import Derived.Test.YtbmnhpihlkljdaaZEWWords
import Derived.Test.YtbmnhpihlkljdaaZEWLast
import Derived.Test.YtbmnhpihlkljdaaZEWMore
namespace Go.Proofs.Ytbmnhpihlkljdaa
open Go.RowKit Go.Shelf Go.Sort Go.Proofs.YtbmnhpihlkljdaaW.PrintWords Go.Proofs.YtbmnhpihlkljdaaW.PrintLast Go.Proofs.YtbmnhpihlkljdaaW.PrintMore

/-- A text's bytes, and back. -/
def bs (b : ByteArray) : List UInt8 := b.data.toList
def sb (l : List UInt8) : ByteArray := ⟨l.toArray⟩
theorem encStr_bs (b : ByteArray) : encStr (bs b) = .string b := by cases b; simp [encStr, bs]
theorem encStr_sb (l : List UInt8) : encStr l = .string (sb l) := rfl
theorem bs_sb (l : List UInt8) : bs (sb l) = l := by simp [bs, sb]
theorem sb_bs (b : ByteArray) : sb (bs b) = b := by cases b; simp [bs, sb]

/-- slices.Compact(slices.Sorted(slices.Values(l))). -/
def sortedOf (l : List ByteArray) : List (List UInt8) := (l.map bs).mergeSort fun x y => decide (x ≤ y)
def cutTexts (l : List ByteArray) : List ByteArray := (Lib.compact (sortedOf l)).map sb

theorem texts_of {l : List ByteArray} {A : Option Addr} {c : Nat} {w : World} (h : Kd.C Kd.string w A l.length l) : Try.Texts w.heap.size w (.slice A l.length c) (l.map bs) := by
  rcases Nat.eq_zero_or_pos l.length with h0 | h0
  · left
    exact ⟨A, c, by rw [h0], by rw [List.eq_nil_of_length_eq_zero h0]; rfl⟩
  · right
    obtain ⟨ad, rfl, hc⟩ := h.2.2 h0
    have key : ∀ j, j < l.length → w.cell? (ad.add j) = some (encStr ((l.map bs)[j]?.getD [])) := by
      intro j hj
      obtain ⟨cs, hl, hk, hcell⟩ := hc j l[j] (List.getElem?_eq_getElem hj)
      have hk' : cs = [.string l[j]] := hk
      subst hk'
      have := hcell 0 _ rfl
      simp only [Kd.string, Kd.scalar, Nat.mul_one, Nat.add_zero] at this
      rw [this]
      simp [hj, encStr_bs]
    refine ⟨ad, c, by simp, ?_, fun j hj => key j (by simpa using hj)⟩
    have h1 := key 0 h0
    rw [← Try.add_block ad 0]
    rcases Nat.lt_or_ge (ad.add 0).block w.heap.size with hlt | hge
    · exact hlt
    · have : w.heap[(ad.add 0).block]? = none := Array.getElem?_eq_none hge
      simp [World.cell?, this] at h1

theorem encs_sb (xs : List (List UInt8)) : encs Value.string (xs.map sb) = xs.map encStr := by
  simp [encs, Function.comp_def, encStr_sb]
theorem R_of_texts {w : World} {base : Nat} {v : Value} {xs : List (List UInt8)} (h : w.ownsRow base 9 1 v xs.length (xs.map encStr)) : Kd.R Kd.string 9 w base (fun _ => True) v (xs.map sb) := by
  refine Kd.R_of_own ?_ (fun _ _ => trivial)
  rw [List.length_map, encs_sb]; exact h

/-- slices.Sorted, of what slices.Values has handed back. -/
theorem sorted_calls (l : List ByteArray) (A : Option Addr) (c b : Nat) (w : World) (hr : Kd.C Kd.string w A l.length l) (hlen : l.length < 1099511627776) (hb : w.heap[b]? = some (.cells #[.slice A l.length c] 24 (0, 0))) :
    Calls Try.prog 35 #[.func (.func 40) #[] #[.pointer (some ⟨b, 0, none⟩)]] w fun e w' => ∃ v, e = .returned v ∧ Kd.R Kd.string 9 w' w.heap.size (fun _ => True) v ((sortedOf l).map sb) ∧ Below w.heap.size w w' := by
  refine (Try.sorted b _ (l.map bs) (by simp [maxLen]; omega) (by simp; omega) w (Array.getElem?_eq_some_iff.1 hb).1 ((blk_cell hb 0).trans rfl) (texts_of hr)).mono ?_
  rintro e w' ⟨v, rfl, ho, _, hbl⟩
  refine ⟨v, rfl, R_of_texts ?_, hbl⟩
  simpa [sortedOf] using ho

theorem sortedOf_length (l : List ByteArray) : (sortedOf l).length = l.length := by simp [sortedOf]

theorem compact_le (zs : List (List UInt8)) : (Lib.compact zs).length ≤ zs.length := by
  have := List.length_filter_le (Lib.keeps zs.toArray) (List.range zs.length)
  simpa [Lib.compact, Lib.compactUpTo] using this

/-- slices.Compact, of what slices.Sorted has handed back. -/
theorem compact_calls (l : List ByteArray) (base : Nat) (A : Option Addr) (n c : Nat) (w : World) (hR : Kd.R Kd.string 9 w base (fun _ => True) (.slice A n c) ((sortedOf l).map sb)) :
    Calls Try.prog 34 #[.slice A n c] w fun e w' => ∃ v, e = .returned v ∧ Kd.R Kd.string 9 w' base (fun _ => True) v (cutTexts l) ∧ w.grownBy w' (Value.slice A n c).ownBlock := by
  have ho : w.ownsRow base 9 1 (.slice A n c) (sortedOf l).length ((sortedOf l).map encStr) := by
    have := Kd.own_of_R hR
    rw [List.length_map, encs_sb] at this
    exact this
  rcases ho.2 with ⟨hv, h0⟩ | ⟨g, cap, cur, hv, hbase, hg, h1, h2, h3, h4⟩
  · cases hv
    refine (Try.slices_Compact_string_empty none 0 w).mono ?_
    rintro e w' ⟨rfl, rfl⟩
    have hn : sortedOf l = [] := List.eq_nil_of_length_eq_zero h0
    refine ⟨_, rfl, ?_, ⟨rfl, rfl, rfl, Nat.le_refl _, fun _ _ _ => rfl⟩⟩
    have : cutTexts l = [] := by simp [cutTexts, hn, Lib.compact, Lib.compactUpTo]
    rw [this]; exact Kd.R_nil _ _ _ _ _
  · cases hv
    have hH : Holds encStr w g 0 (sortedOf l).toArray := holds_of_block hg (by simpa using h4)
    refine (Try.slices_Compact_string g 0 c (sortedOf l) w hH (by simp [maxLen] at h2; omega) h1).mono ?_
    rintro e w' ⟨rfl, q, rfl⟩
    have hle := compact_le (sortedOf l)
    obtain ⟨ts, hts⟩ : ∃ ts, ts = Lib.compact (sortedOf l) ++ List.replicate ((sortedOf l).length - (Lib.compact (sortedOf l)).length) [] := ⟨_, rfl⟩
    have htl : ts.length = (sortedOf l).length := by rw [hts, List.length_append, List.length_replicate]; omega
    have hh := heap_sorted (os := #[]) (n := q) ts.toArray hg
    have hgr := grownBy_sorted (w := w) (g := g) (n := q) (os := #[]) ts.toArray
    have htk := take_putCells cur ts (by omega)
    rw [← hts]
    rw [grow_empty] at hh hgr
    refine ⟨_, rfl, ?_, by simpa [Value.ownBlock] using hgr⟩
    refine R_of_texts ⟨by simp, .inr ⟨g, c, _, rfl, hbase, hh, by omega, h2, by simp [putCells]; omega, ?_⟩⟩
    have e1 : (Lib.compact (sortedOf l)).length * 1 ≤ ts.length := by omega
    have := congrArg (List.take ((Lib.compact (sortedOf l)).length * 1)) htk
    rw [List.take_take, Nat.min_eq_left e1] at this
    rw [this, hts, List.map_append, Nat.mul_one, List.take_append_of_le_length (by simp)]
    rw [List.take_of_length_le (by simp)]

/-- What Cut goes over: the texts, sorted, each once. -/
def cutF (l : List ByteArray) : Option (List ByteArray) := if l.length < 1099511627776 then some (cutTexts l) else none
theorem cutF_eq {l t : List ByteArray} (h : cutF l = some t) : t = cutTexts l ∧ l.length < 1099511627776 := by
  unfold cutF at h
  split at h
  · exact ⟨(Option.some.inj h).symm, by assumption⟩
  · cases h

theorem own_cutK {w : World} {base : Nat} {v : Value} {xs : List ByteArray} (h : Kd.R Kd.string 9 w base (fun _ => True) v xs) (k : Nat) (hk : v.ownBlock = some k) : base ≤ k := own_base (Kd.own_of_R h) k hk
theorem own_cutT {w : World} {base : Nat} {v : Value} {xs : List ByteArray} (h : Kd.R Kd.string 9 w base (fun _ => True) v xs) {g t : Nat} {cells : Array Value} (hb : w.heap[g]? = some (.cells cells t (0, 0))) (ht : 9 ≠ t) (k : Nat) (hk : v.ownBlock = some k) : g ≠ k := by
  rintro rfl
  obtain ⟨c, hc⟩ := own_typed (Kd.own_of_R h) g hk
  rw [hc] at hb
  injection hb with hb
  injection hb with _ hb
  exact ht hb
theorem blk_grownK {w w' : World} {g : Nat} {o : Obj} {row : Option Nat} (h : w.heap[g]? = some o) (hg : w.grownBy w' row) (hne : ∀ k, row = some k → g ≠ k) : w'.heap[g]? = some o :=
  (hg.block g (Array.getElem?_eq_some_iff.1 h).1 (fun e => hne g e.symm rfl)).trans h
theorem below_grownK {w0 w w' : World} {row : Option Nat} (h : Below w0.heap.size w0 w) (hg : w.grownBy w' row) (hr : ∀ k, row = some k → w0.heap.size ≤ k) : Below w0.heap.size w0 w' :=
  h.grown hg h.size (fun k e => hr k e)

#print axioms compact_calls
end Go.Proofs.Ytbmnhpihlkljdaa
