/- Texts of this session, made one by a program of this session (mergemods.py). -/
import Derived.Test.YtaeamdhkdiblmaaProg
import Derived.Test.YtaeamdhkdiblmaaZDAWMore
import Derived.Lib.SliceRun
import Derived.LaidEqlPtr
import Derived.Shelf.Abstract
import Derived.Test.YtaeamdhkdiblmaaZDAWTab
import Derived.Laws.Cover3
import Derived.Maps.Own
import Derived.Maps.OwnSet
set_option linter.unusedSimpArgs false
set_option linter.unusedVariables false
namespace Go.Proofs.Ytaeamdhkdiblmaa.Dk
open Go.RowKit Go.Proofs.YtaeamdhkdiblmaaW.PrintWords Go.Proofs.YtaeamdhkdiblmaaW.PrintLast Go.Proofs.YtaeamdhkdiblmaaW.PrintMore
set_option maxHeartbeats 2000000
set_option maxRecDepth 100000
/-! A queue's pieces: (the file's block, so many bytes) -/
abbrev ptr (b : Nat) : Value := .pointer (some ⟨b, 0, none⟩)
def PK : Kd (Nat × Int) := Kd.pair (Kd.scalar ptr (fun _ => rfl)) (Kd.int .i64)
theorem add0 (g o j : Nat) : (⟨g, o, none⟩ : Addr).add j = ⟨g, o + j, none⟩ := by unfold Addr.add; split <;> simp_all
theorem spot_none {w : World} {ad : Addr} {v : Value} (h : w.cell? ad = some v) : ad = ⟨ad.block, ad.off, none⟩ := by
  obtain ⟨g, o, sp⟩ := ad
  cases sp with
  | none => rfl
  | some x =>
    exfalso
    unfold World.cell? at h
    split at h <;> simp_all
theorem piece_at {w : World} {A : Option Addr} {n : Nat} {l : List (Nat × Int)} (h : PK.C w A n l) (j : Nat) (hj : j < n) :
    ∃ (b : Nat) (m : Int) (g o : Nat), l[j]? = some (b, m) ∧ A = some ⟨g, o, none⟩ ∧ w.cell? ⟨g, o + j * 2, none⟩ = some (ptr b) ∧ w.cell? ⟨g, o + j * 2 + 1, none⟩ = some (.int .i64 m) := by
  obtain ⟨hl, _, hc⟩ := h
  obtain ⟨ad, e, hc⟩ := hc (by omega)
  have hj' : j < l.length := by omega
  obtain ⟨c, hs, ⟨c0, c1, rfl, h0, h1⟩, hcell⟩ := hc j _ (List.getElem?_eq_getElem hj')
  obtain rfl : c0 = [ptr l[j].1] := h0
  obtain rfl : c1 = [.int .i64 l[j].2] := h1
  have k0 := hcell 0 _ rfl
  have k1 := hcell 1 _ rfl
  obtain ⟨c', hs', ⟨c0', c1', rfl, h0', h1'⟩, hcell'⟩ := hc 0 _ (List.getElem?_eq_getElem (by omega))
  obtain ⟨v0, hv0⟩ : ∃ v, (c0' ++ c1')[0]? = some v := by
    have e0 : c0' = _ := h0'
    rw [e0]
    exact ⟨_, rfl⟩
  have hs := spot_none (ad := ad) (hcell' 0 _ hv0)
  obtain ⟨g, o, sp⟩ := ad
  simp only [Addr.mk.injEq, true_and] at hs
  subst hs
  rw [add0] at k0 k1
  exact ⟨l[j].1, l[j].2, g, o, List.getElem?_eq_getElem hj', e, k0, k1⟩
def sumP (l : List (Nat × Int)) : Int := (l.map (·.2)).sum
theorem sumP_take (l : List (Nat × Int)) (j : Nat) (b : Nat) (m : Int) (h : l[j]? = some (b, m)) : sumP (l.take (j + 1)) = sumP (l.take j) + m := by
  unfold sumP
  rw [List.take_add_one, h]
  simp
theorem sumP_nonneg (l : List (Nat × Int)) (hp : ∀ x ∈ l, 0 ≤ x.2) : 0 ≤ sumP l := by
  unfold sumP
  induction l with
  | nil => simp
  | cons x xs ih =>
    have h1 := hp x (by simp)
    have h2 := ih (fun y hy => hp y (by simp [hy]))
    simp only [List.map_cons, List.sum_cons]
    omega
theorem sumP_split (l : List (Nat × Int)) (j : Nat) : sumP l = sumP (l.take j) + sumP (l.drop j) := by
  have h : (l.take j ++ l.drop j).map (·.2) = (l.take j).map (·.2) ++ (l.drop j).map (·.2) := List.map_append
  rw [List.take_append_drop] at h
  unfold sumP
  rw [h, List.sum_append]
theorem sumP_le (l : List (Nat × Int)) (hp : ∀ x ∈ l, 0 ≤ x.2) (j : Nat) : 0 ≤ sumP (l.take j) ∧ sumP (l.take j) ≤ sumP l := by
  have h1 := sumP_nonneg (l.take j) (fun x hx => hp x (List.mem_of_mem_take hx))
  have h2 := sumP_nonneg (l.drop j) (fun x hx => hp x (List.mem_of_mem_drop hx))
  have := sumP_split l j
  omega
/-- queue.waits. -/
theorem waits (p : Nat) (A : Option Addr) (c : Nat) (l : List (Nat × Int)) (w : World) (hc : w.cell? ⟨p, 0, none⟩ = some (.slice A l.length c)) (h : PK.C w A l.length l) (hp : ∀ x ∈ l, 0 ≤ x.2) (hs : sumP l ≤ 9223372036854775807) :
    Calls Try.prog 42 #[.pointer (some ⟨p, 0, none⟩)] w fun e w' => e = .returned (.int .i64 (sumP l)) ∧ Below w.heap.size w w' := by
  have hlen : l.length ≤ 9223372036854775807 := h.2.1
  have hu62 := Try.underlying62
  have hu80 := Try.underlying80
  have HR := Aside0.mk h
  have HP := Aside0.mk hp
  clear h hp
  go_enter Try.func42, Try.ntmps42
  go_wp2
  go_loopw [3, 11] (fun v3 v11 w' => ∃ j : Nat, v11 = .int .i64 j ∧ j ≤ l.length ∧ v3 = .int .i64 (sumP (l.take j)) ∧ Aside0 (Below w.heap.size w w')) (fun _ v11 _ => l.length - (intOf v11).toNat)
  case atStart => exact ⟨0, rfl, by omega, rfl, ⟨Below.refl _ _⟩⟩
  case round =>
    obtain ⟨j, rfl, hj, rfl, HB⟩ := hrel
    by_cases hlt : j < l.length
    · obtain ⟨b, m, g, o, hx, rfl, h0, h1⟩ := piece_at (Kd.C_below HR.out HB.out) j hlt
      have ht := sumP_take l j b m hx
      have hle := sumP_le l HP.out (j + 1)
      have hle0 := sumP_le l HP.out j
      obtain ⟨S, hS⟩ : ∃ S, S = sumP (l.take j) := ⟨_, rfl⟩
      rw [← hS] at ht hle0 ⊢
      rw [ht] at hle
      have HT := Aside0.mk ht
      clear ht hx hS
      go_wp2
      go_roundw
      case rel => exact ⟨j + 1, by go_num, by omega, by (rw [HT.out] <;> go_num), ⟨below_alloc HB.out _⟩⟩
      case measure => first | (simp [intOf]; done) | (simp [intOf]; omega)
    · obtain rfl : j = l.length := by omega
      rw [List.take_length]
      go_wp2
      go_ret
      exact ⟨rfl, HB.out⟩
end Go.Proofs.Ytaeamdhkdiblmaa.Dk
set_option linter.unusedSimpArgs false
set_option linter.unusedVariables false
namespace Go.Proofs.Ytaeamdhkdiblmaa.Dk
open Go.RowKit Go.Proofs.YtaeamdhkdiblmaaW.PrintWords Go.Proofs.YtaeamdhkdiblmaaW.PrintLast Go.Proofs.YtaeamdhkdiblmaaW.PrintMore
set_option maxHeartbeats 2000000
set_option maxRecDepth 100000
/-- A predicate of pieces, in whatever later world. -/
def Pred (w : World) (l : List (Nat × Int)) (fn : FuncId) (caps : Array Value) (pr : Nat × Int → Bool) : Prop :=
  ∀ W, Below w.heap.size w W → ∀ b m, (b, m) ∈ l → Calls Try.prog fn (#[.agg #[ptr b, .int .i64 m]] ++ caps) W fun e W' => e = .returned (.bool (pr (b, m))) ∧ Below W.heap.size W W'
def Enters (fn : FuncId) : Prop := ∀ args w, (callFunc fn args).run Try.prog w = .ok (.enter fn args) w
theorem below_tr {w W V : World} (h : Below w.heap.size w W) (k : Below W.heap.size W V) : Below w.heap.size w V := h.trans (k.mono h.size)
theorem findIdx_none {l : List (Nat × Int)} {pr : Nat × Int → Bool} (h : ∀ i, i < l.length → ∀ x, l[i]? = some x → pr x = false) : l.findIdx? pr = none := by
  rw [List.findIdx?_eq_none_iff]
  intro x hx
  obtain ⟨i, hi, e⟩ := List.getElem_of_mem hx
  exact h i hi x (by rw [List.getElem?_eq_getElem hi, e])
theorem findIdx_some {l : List (Nat × Int)} {pr : Nat × Int → Bool} {j : Nat} {x : Nat × Int} (h : ∀ i, i < j → ∀ x, l[i]? = some x → pr x = false) (hx : l[j]? = some x) (hp : pr x = true) : l.findIdx? pr = some j := by
  rw [List.findIdx?_eq_some_iff_getElem]
  obtain ⟨hj, e⟩ := List.getElem?_eq_some_iff.1 hx
  refine ⟨hj, by rw [e]; exact hp, fun i hi => ?_⟩
  rw [h i hi _ (List.getElem?_eq_getElem (by omega))]
  exact Bool.false_ne_true
/-- What slices.IndexFunc answers. -/
def firstP (l : List (Nat × Int)) (pr : Nat × Int → Bool) : Int := match l.findIdx? pr with | some i => (i : Int) | none => -1
theorem indexFunc (fn : FuncId) (eg : Enters fn) (caps : Array Value) (pr : Nat × Int → Bool) (A : Option Addr) (c : Nat) (l : List (Nat × Int)) (w : World) (h : PK.C w A l.length l) (hpr : Pred w l fn caps pr) :
    Calls Try.prog 78 #[.slice A l.length c, .func (.func fn) #[] caps] w fun e w' => e = .returned (.int .i64 (firstP l pr)) ∧ Below w.heap.size w w' := by
  have hlen : l.length ≤ 9223372036854775807 := h.2.1
  have hu62 := Try.underlying62
  have hu80 := Try.underlying80
  have HR := Aside0.mk h
  have HP := Aside0.mk hpr
  clear h hpr
  go_enter Try.func78, Try.ntmps78
  go_wp2
  go_loopw [5, 8] (fun v5 v8 w' => ∃ j : Nat, v8 = .int .i64 j ∧ j ≤ l.length ∧ (∀ i, i < j → ∀ x, l[i]? = some x → pr x = false) ∧ Aside0 (Below w.heap.size w w')) (fun _ v8 _ => l.length - (intOf v8).toNat)
  case atStart => exact ⟨0, rfl, by omega, by intro i hi; omega, ⟨Below.refl _ _⟩⟩
  case round =>
    obtain ⟨j, rfl, hj, hno, HB⟩ := hrel
    by_cases hlt : j < l.length
    · obtain ⟨b, m, g, o, hx, rfl, h0, h1⟩ := piece_at (Kd.C_below HR.out HB.out) j hlt
      have HX := Aside0.mk hx
      have HN := Aside0.mk hno
      clear hx hno
      go_wp2
      rw [eg, Oper.upon_enter]
      refine (HP.out wr HB.out b m (List.mem_of_getElem? HX.out)).mono ?_
      rintro e w1 ⟨rfl, hb⟩
      have HB1 := Aside0.mk (below_tr HB.out hb)
      clear hb
      have HQ : Aside0 (∃ q, q = pr (b, m)) := ⟨⟨_, rfl⟩⟩
      cases hp : pr (b, m)
      · go_wp2
        go_roundw
        case rel =>
          refine ⟨j + 1, by go_num, by omega, fun i hi x hxi => ?_, HB1⟩
          rcases Nat.lt_or_ge i j with h | h
          · exact HN.out i h x hxi
          · obtain rfl : i = j := by omega
            rw [HX.out] at hxi
            cases hxi
            exact hp
        case measure => first | (simp [intOf]; done) | (simp [intOf]; omega)
      · have hf := findIdx_some HN.out HX.out hp
        go_wp2
        go_ret
        exact ⟨by unfold firstP; rw [hf]; rfl, HB1.out⟩
    · obtain rfl : j = l.length := by omega
      have hf := findIdx_none hno
      clear hno
      go_wp2
      all_goals (go_ret; exact ⟨by unfold firstP; rw [hf]; rfl, HB.out⟩)
end Go.Proofs.Ytaeamdhkdiblmaa.Dk
set_option linter.unusedSimpArgs false
set_option linter.unusedVariables false
namespace Go.Proofs.Ytaeamdhkdiblmaa.Dk
open Go.RowKit Go.Proofs.YtaeamdhkdiblmaaW.PrintWords Go.Proofs.YtaeamdhkdiblmaaW.PrintLast Go.Proofs.YtaeamdhkdiblmaaW.PrintMore
set_option maxHeartbeats 2000000
set_option maxRecDepth 100000
/-! What a call may have written: F, and what it made. -/
structure Ch (F : Nat → Prop) (w w' : World) : Prop where
  os : w'.os = w.os
  tape : w'.tape = w.tape
  output : w'.output = w.output
  size : w.heap.size ≤ w'.heap.size
  block : ∀ k, k < w.heap.size → ¬ F k → w'.heap[k]? = w.heap[k]?
theorem Ch.refl (F : Nat → Prop) (w : World) : Ch F w w := ⟨rfl, rfl, rfl, Nat.le_refl _, fun _ _ _ => rfl⟩
theorem Ch.of {F : Nat → Prop} {w w' : World} (h : Below w.heap.size w w') : Ch F w w' := ⟨h.os, h.tape, h.output, h.size, fun k hk _ => h.block k hk⟩
theorem Ch.mono {F F' : Nat → Prop} {w w' : World} (h : Ch F w w') (hF : ∀ k, F k → F' k) : Ch F' w w' := ⟨h.os, h.tape, h.output, h.size, fun k hk hn => h.block k hk (fun hf => hn (hF k hf))⟩
theorem Ch.trans {F F' : Nat → Prop} {a b c : World} (h : Ch F a b) (k : Ch F' b c) (hF : ∀ k, F' k → F k ∨ a.heap.size ≤ k) : Ch F a c :=
  ⟨k.os.trans h.os, k.tape.trans h.tape, k.output.trans h.output, Nat.le_trans h.size k.size, fun i hi hn => (k.block i (Nat.lt_of_lt_of_le hi h.size) (fun hf => (hF i hf).elim hn (fun h => by omega))).trans (h.block i hi hn)⟩
theorem Ch.below {F : Nat → Prop} {w w' : World} {B : Nat} (h : Ch F w w') (hF : ∀ k, F k → B ≤ k) (hB : B ≤ w.heap.size) : Below B w w' :=
  ⟨h.os, h.tape, h.output, h.size, fun k hk => h.block k (by omega) (fun hf => by have := hF k hf; omega)⟩
theorem Ch.set {F : Nat → Prop} (w : World) (g i : Nat) (v : Value) (hg : F g) : Ch F w (w.setCell ⟨g, i, none⟩ v) :=
  ⟨rfl, rfl, rfl, by simp [World.setCell], fun k _ hn => Below.heap_setCell w _ v k (fun e => hn (by rw [e]; exact hg))⟩
theorem Ch.sets {F : Nat → Prop} (w : World) (g o : Nat) (vs : List Value) (hg : F g) : Ch F w (w.setCells g o vs) := by
  obtain ⟨h1, h2, h3, h4⟩ := setCells_same g vs o w
  exact ⟨h1, h2, h3, by omega, fun k _ hn => setCells_far vs o k (fun e => hn (by rw [e]; exact hg))⟩
theorem Ch.alloc {F : Nat → Prop} {w w' : World} (h : Ch F w w') (o : Obj) : Ch F w (w'.alloc o) := h.trans (Ch.of (F := fun _ => False) (below_alloc (Below.refl _ _) o)) (fun _ hk => hk.elim)
theorem Ch.step {F : Nat → Prop} {w w' w'' : World} (h : Ch F w w') (hb : Below w'.heap.size w' w'') : Ch F w w'' := h.trans (Ch.of (F := fun _ => False) hb) (fun _ hk => hk.elim)
theorem Ch.drew {F : Nat → Prop} {w w' : World} (h : Ch F w w') : Ch F w w'.drew := h.step (below_drew1 (Below.refl _ _))
/-! A row of pieces in a block that is known whole -/
def PRow (W : World) (g cap : Nat) (l : List (Nat × Int)) : Prop :=
  ∃ cur : Array Value, W.heap[g]? = some (.cells cur 80 (0, 0)) ∧ cur.size = cap * 2 ∧ l.length ≤ cap ∧ ∀ j b m, l[j]? = some (b, m) → cur[j * 2]? = some (ptr b) ∧ cur[j * 2 + 1]? = some (.int .i64 m)
theorem PRow.lt {W : World} {g cap : Nat} {l : List (Nat × Int)} (h : PRow W g cap l) : g < W.heap.size := by
  obtain ⟨cur, hg, _⟩ := h
  exact blk_lt hg
theorem PRow.same {W W' : World} {g cap : Nat} {l : List (Nat × Int)} (h : PRow W g cap l) (hs : W'.heap[g]? = W.heap[g]?) : PRow W' g cap l := by
  obtain ⟨cur, hg, r⟩ := h
  exact ⟨cur, hs.trans hg, r⟩
theorem PRow.below {W W' : World} {g cap : Nat} {l : List (Nat × Int)} (h : PRow W g cap l) (hb : Below W.heap.size W W') : PRow W' g cap l := h.same (hb.block g h.lt)
theorem PRow.cell {W : World} {g cap : Nat} {l : List (Nat × Int)} (h : PRow W g cap l) {j b : Nat} {m : Int} (hj : l[j]? = some (b, m)) :
    W.cell? ⟨g, j * 2, none⟩ = some (ptr b) ∧ W.cell? ⟨g, j * 2 + 1, none⟩ = some (.int .i64 m) := by
  obtain ⟨cur, hg, _, _, hc⟩ := h
  obtain ⟨h0, h1⟩ := hc j b m hj
  unfold World.cell?
  rw [hg]
  exact ⟨by simpa using h0, by simpa using h1⟩
theorem PRow.frozen {W : World} {g cap : Nat} {l : List (Nat × Int)} (h : PRow W g cap l) (i : Nat) : W.frozen? ⟨g, i, none⟩ = false := by
  obtain ⟨cur, hg, _⟩ := h
  exact blk_frozen hg i
theorem PRow.C {W : World} {g cap : Nat} {l : List (Nat × Int)} (h : PRow W g cap l) (hl : l.length ≤ 9223372036854775807) : PK.C W (some ⟨g, 0, none⟩) l.length l := by
  refine ⟨rfl, hl, fun _ => ⟨_, rfl, fun j p hj => ?_⟩⟩
  obtain ⟨b, m⟩ := p
  obtain ⟨h0, h1⟩ := h.cell hj
  refine ⟨[ptr b] ++ [.int .i64 m], rfl, ⟨[ptr b], [.int .i64 m], rfl, rfl, rfl⟩, fun i u hu => ?_⟩
  rw [add0]
  match i, hu with
  | 0, hu => cases hu; simpa [PK, Kd.pair, Kd.scalar, Kd.int] using h0
  | 1, hu => cases hu; simpa [PK, Kd.pair, Kd.scalar, Kd.int] using h1
theorem PRow.take {W : World} {g cap : Nat} {l : List (Nat × Int)} (h : PRow W g cap l) (n : Nat) : PRow W g cap (l.take n) := by
  obtain ⟨cur, hg, hs, hl, hc⟩ := h
  refine ⟨cur, hg, hs, by rw [List.length_take]; omega, fun j b m hj => hc j b m ?_⟩
  rw [List.getElem?_take] at hj
  split at hj
  · exact hj
  · cases hj
theorem PRow.put {W : World} {g cap : Nat} {l : List (Nat × Int)} (h : PRow W g cap l) (i b : Nat) (m : Int) (hi : i < l.length) :
    PRow ((W.setCell ⟨g, i * 2, none⟩ (ptr b)).setCell ⟨g, i * 2 + 1, none⟩ (.int .i64 m)) g cap (l.set i (b, m)) := by
  obtain ⟨cur, hg, hs, hl, hc⟩ := h
  refine ⟨_, blk_set (blk_set hg (i * 2) (ptr b)) (i * 2 + 1) (.int .i64 m), by simp [hs], by simpa using hl, fun j b' m' hj => ?_⟩
  simp only [Array.getElem?_setIfInBounds, Array.size_setIfInBounds]
  by_cases e : i = j
  · subst e
    rw [List.getElem?_set_self hi] at hj
    cases hj
    rw [if_neg (by omega), if_pos rfl, if_pos (by omega), if_pos rfl, if_pos (by omega)]
    exact ⟨rfl, rfl⟩
  · rw [List.getElem?_set_ne e] at hj
    obtain ⟨h0, h1⟩ := hc j b' m' hj
    rw [if_neg (by omega), if_neg (by omega), if_neg (by omega), if_neg (by omega)]
    exact ⟨h0, h1⟩
/-- What lies behind the first i is written over. -/
theorem PRow.over {W : World} {g cap : Nat} {l : List (Nat × Int)} (h : PRow W g cap l) (i : Nat) (vs : List Value) (hv : i * 2 + vs.length ≤ cap * 2) : PRow (W.setCells g (i * 2) vs) g cap (l.take i) := by
  obtain ⟨cur, hg, hs, hl, hc⟩ := h
  obtain ⟨cur', hg', hs', ht⟩ := setCells_row vs (i * 2) W cur hg (by omega)
  have hk : ∀ k, k < i * 2 → cur'[k]? = cur[k]? := fun k hk => by
    have e1 : cur'[k]? = cur'.toList[k]? := by simp
    have e2 : cur[k]? = cur.toList[k]? := by simp
    rw [e1, e2, ht, List.append_assoc, List.getElem?_append_left (by simp; omega), List.getElem?_take]
    rw [if_pos hk]
  refine ⟨cur', hg', by omega, by rw [List.length_take]; omega, fun j b m hj => ?_⟩
  rw [List.getElem?_take] at hj
  split at hj
  · rename_i hji
    rw [hk _ (by omega), hk _ (by omega)]
    exact hc j b m hj
  · cases hj
theorem run_clear {P : Program} (w : World) (t e ty : TypeId) (z : Value) (ht : P.underlying t = some (.slice e)) (hv : ∀ w, (zeroValue e).run P w = .ok z w) (h1 : ∀ v ∈ z.cells.toList, v.oneCell' = true) (h0 : 0 < z.cells.size) (b o n c : Nat) (hn : 0 < n)
    (hc : ∀ j, j < n * z.cells.size → (w.cell? ⟨b, o + j, none⟩).isSome = true) (hf : ∀ j, j < n * z.cells.size → w.frozen? ⟨b, o + j, none⟩ = false) :
    (Builtin.clear_ #[t] ty #[.slice (some ⟨b, o, none⟩) n c]).run P w = .ok (.tuple #[]) (w.setCells b o (Builtin.zeroCells z.cells n).toList) := by
  have hst := run_storeCells_cells (P := P) b o (Builtin.zeroCells z.cells n).toList 0 w (by simpa [Builtin.zeroCells] using hc) (by simpa [Builtin.zeroCells] using hf) (by
    intro v hv'
    simp only [Builtin.zeroCells, Array.toList_map, List.mem_map, Array.toList_range, List.mem_range] at hv'
    obtain ⟨i, hi, rfl⟩ := hv'
    rw [getElem!_pos z.cells (i % z.cells.size) (Nat.mod_lt _ h0)]
    exact h1 _ (by simp))
  simp only [Nat.add_zero] at hst
  obtain ⟨m, rfl⟩ : ∃ m, n = m + 1 := ⟨n - 1, by omega⟩
  simp [Builtin.clear_, run_underlying ht, hv, hst]
end Go.Proofs.Ytaeamdhkdiblmaa.Dk
set_option linter.unusedSimpArgs false
set_option linter.unusedVariables false
namespace Go.Proofs.Ytaeamdhkdiblmaa.Dk
open Go.RowKit Go.Proofs.YtaeamdhkdiblmaaW.PrintWords Go.Proofs.YtaeamdhkdiblmaaW.PrintLast Go.Proofs.YtaeamdhkdiblmaaW.PrintMore
set_option maxHeartbeats 4000000
set_option maxRecDepth 100000
/-- A predicate of pieces, in whatever world that differs from w in block g and what is new. -/
def PredX (w : World) (g : Nat) (l : List (Nat × Int)) (fn : FuncId) (caps : Array Value) (pr : Nat × Int → Bool) : Prop :=
  ∀ W, Ch (· = g) w W → ∀ b m, (b, m) ∈ l → Calls Try.prog fn (#[.agg #[ptr b, .int .i64 m]] ++ caps) W fun e W' => e = .returned (.bool (pr (b, m))) ∧ Below W.heap.size W W'
theorem PredX.pred {w : World} {g : Nat} {l : List (Nat × Int)} {fn : FuncId} {caps : Array Value} {pr : Nat × Int → Bool} (h : PredX w g l fn caps pr) : Pred w l fn caps pr := fun W hb => h W (Ch.of hb)
def keepP (pr : Nat × Int → Bool) (l : List (Nat × Int)) : List (Nat × Int) := l.filter fun x => !pr x
theorem set_take {xs l : List (Nat × Int)} {pr : Nat × Int → Bool} {i j b : Nat} {m : Int} (hij : i < j) (hj : j < l.length) (hl : xs.length = l.length) (ht : xs.take i = keepP pr (l.take j)) (hd : xs.drop j = l.drop j) (hx : l[j]? = some (b, m)) (hp : pr (b, m) = false) :
    (xs.set i (b, m)).take (i + 1) = keepP pr (l.take (j + 1)) ∧ (xs.set i (b, m)).drop (j + 1) = l.drop (j + 1) := by
  constructor
  · rw [List.take_succ_eq_append_getElem (by simp; omega), List.take_set_of_le (Nat.le_refl _), ht, List.getElem_set_self]
    unfold keepP
    rw [List.take_add_one, hx]
    simp [hp]
  · rw [List.drop_set_of_lt (by omega)]
    have h1 : xs.drop (j + 1) = (xs.drop j).drop 1 := by rw [List.drop_drop]
    have h2 : l.drop (j + 1) = (l.drop j).drop 1 := by rw [List.drop_drop]
    rw [h1, h2, hd]
theorem skip_take {xs l : List (Nat × Int)} {pr : Nat × Int → Bool} {i j b : Nat} {m : Int} (hj : j < l.length) (ht : xs.take i = keepP pr (l.take j)) (hd : xs.drop j = l.drop j) (hx : l[j]? = some (b, m)) (hp : pr (b, m) = true) :
    xs.take i = keepP pr (l.take (j + 1)) ∧ xs.drop (j + 1) = l.drop (j + 1) := by
  constructor
  · rw [ht]
    unfold keepP
    rw [List.take_add_one, hx]
    simp [hp]
  · have h1 : xs.drop (j + 1) = (xs.drop j).drop 1 := by rw [List.drop_drop]
    have h2 : l.drop (j + 1) = (l.drop j).drop 1 := by rw [List.drop_drop]
    rw [h1, h2, hd]
theorem at_drop {xs l : List (Nat × Int)} {j : Nat} (hd : xs.drop j = l.drop j) : xs[j]? = l[j]? := by
  have h1 : xs[j]? = (xs.drop j)[0]? := by simp
  have h2 : l[j]? = (l.drop j)[0]? := by simp
  rw [h1, h2, hd]
theorem zero80 : ∀ w : World, (zeroValue 80).run Try.prog w = .ok (.agg #[.pointer none, .int .i64 0]) w := Try.zeroValue80
theorem clear80 (w : World) (ty : TypeId) (g o n c : Nat) (cap : Nat) (l : List (Nat × Int)) (h : PRow w g cap l) (hn : 0 < n) (hl : o + n * 2 ≤ cap * 2) :
    (Builtin.clear_ #[60] ty #[.slice (some ⟨g, o, none⟩) n c]).run Try.prog w = .ok (.tuple #[]) (w.setCells g o (Builtin.zeroCells #[.pointer none, .int .i64 0] n).toList) := by
  obtain ⟨cur, hg, hs, _⟩ := h
  refine run_clear w 60 80 ty (.agg #[.pointer none, .int .i64 0]) Try.underlying60 zero80 (by simp [Value.cells, Value.oneCell']) (by simp [Value.cells]) g o n c hn (fun j hj => ?_) (fun j _ => blk_frozen hg _)
  have hj' : j < n * 2 := by simpa [Value.cells] using hj
  unfold World.cell?
  rw [hg]
  simp
  omega
theorem zeros_len (n : Nat) : (Builtin.zeroCells #[Value.pointer none, .int .i64 0] n).toList.length = n * 2 := by simp [Builtin.zeroCells]
theorem keep_all {xs l : List (Nat × Int)} {pr : Nat × Int → Bool} {i : Nat} (h : xs.take i = keepP pr (l.take l.length)) (hi : i ≤ xs.length) : i = (keepP pr l).length ∧ xs.take i = keepP pr l := by
  rw [List.take_length] at h
  have := congrArg List.length h
  rw [List.length_take] at this
  exact ⟨by omega, h⟩
theorem deleteFunc (fn : FuncId) (eg : Enters fn) (caps : Array Value) (pr : Nat × Int → Bool) (g cap : Nat) (l : List (Nat × Int)) (w : World) (h : PRow w g cap l) (hcap : cap ≤ 9223372036854775807) (hpr : PredX w g l fn caps pr) :
    Calls Try.prog 65 #[.slice (some ⟨g, 0, none⟩) l.length cap, .func (.func fn) #[] caps] w fun e w' => e = .returned (.slice (some ⟨g, 0, none⟩) (keepP pr l).length cap) ∧ PRow w' g cap (keepP pr l) ∧ Ch (· = g) w w' := by
  have hu60 := Try.underlying60
  have hu80 := Try.underlying80
  have hl : l.length ≤ cap := by obtain ⟨cur, _, _, h, _⟩ := h; exact h
  have HR := Aside0.mk h
  have HP := Aside0.mk hpr
  clear h hpr
  rcases hfi : l.findIdx? pr with _ | i0
  · have hf : firstP l pr = -1 := by unfold firstP; rw [hfi]
    have hk : keepP pr l = l := by
      rw [List.findIdx?_eq_none_iff] at hfi
      unfold keepP
      rw [List.filter_eq_self]
      intro x hx
      rw [hfi x hx]
      rfl
    have HK := Aside0.mk hk
    clear hk hfi
    go_enter Try.func65, Try.ntmps65
    go_wp2_with (go_at_call 78; (with_reducible refine (indexFunc fn eg caps pr _ cap l w (HR.out.C (by omega)) HP.out.pred).mono ?_); rintro e w1 ⟨rfl, hb⟩; rw [hf]; have HB := Aside0.mk hb; clear hb)
    go_ret
    exact ⟨by rw [HK.out]; rfl, by rw [HK.out]; exact HR.out.below HB.out, Ch.of HB.out⟩
  · have hf : firstP l pr = (i0 : Int) := by unfold firstP; rw [hfi]
    rw [List.findIdx?_eq_some_iff_getElem] at hfi
    obtain ⟨hi0, hp0, hno⟩ := hfi
    have hst : l.take i0 = keepP pr (l.take i0) := by
      unfold keepP
      symm
      rw [List.filter_eq_self]
      intro x hx
      obtain ⟨k, hk, e⟩ := List.getElem_of_mem hx
      rw [List.length_take] at hk
      have := hno k (by omega)
      rw [List.getElem_take] at e
      rw [e] at this
      simpa using this
    obtain ⟨ht1, hd1⟩ := skip_take (b := l[i0].1) (m := l[i0].2) hi0 hst rfl (List.getElem?_eq_getElem hi0) hp0
    have HT := Aside0.mk ht1
    have HD := Aside0.mk hd1
    clear ht1 hd1 hst hno hp0
    go_enter Try.func65, Try.ntmps65
    go_wp2_with (go_at_call 78; (with_reducible refine (indexFunc fn eg caps pr _ cap l w (HR.out.C (by omega)) HP.out.pred).mono ?_); rintro e w1 ⟨rfl, hb⟩; rw [hf]; have HB := Aside0.mk hb; clear hb)
    have hz : ((i0 : Int) == -1) = false := by first | (simp; done) | (simp; omega)
    rw [hz]
    go_loopw [5, 6, 7] (fun v5 v6 v7 w' => ∃ (i j : Nat) (xs : List (Nat × Int)), v5 = .int .i64 i ∧ v6 = .int .i64 j ∧ i < j ∧ j ≤ l.length ∧ xs.length = l.length ∧ Aside0 (xs.take i = keepP pr (l.take j)) ∧ Aside0 (xs.drop j = l.drop j) ∧ Aside0 (PRow w' g cap xs) ∧ Aside0 (Ch (· = g) w w')) (fun _ v6 _ _ => l.length - (intOf v6).toNat)
    case atStart => exact ⟨i0, i0 + 1, l, rfl, rfl, by omega, by omega, rfl, HT, ⟨rfl⟩, ⟨HR.out.below HB.out⟩, ⟨Ch.of HB.out⟩⟩
    case round =>
      obtain ⟨i, j, xs, rfl, rfl, hij, hj, hxl, HT1, HD1, HX, HC⟩ := hrel
      clear HB HT HD HR
      by_cases hlt : j < l.length
      · have hxj : xs[j]? = some (l[j]'hlt) := by rw [at_drop HD1.out, List.getElem?_eq_getElem hlt]
        obtain ⟨b, m, hbm⟩ : ∃ b m, l[j] = (b, m) := ⟨_, _, rfl⟩
        rw [hbm] at hxj
        have hlj : l[j]? = some (b, m) := by rw [List.getElem?_eq_getElem hlt, hbm]
        obtain ⟨h0, h1⟩ := HX.out.cell hxj
        have HL := Aside0.mk hlj
        clear hxj hlj hbm
        go_wp2
        rw [eg, Oper.upon_enter]
        refine (HP.out _ (HC.out.alloc _) b m (List.mem_of_getElem? HL.out)).mono ?_
        rintro e w2 ⟨rfl, hb⟩
        have HK := Aside0.mk (blk_below (blk_new wr (.cells #[ptr b, .int .i64 m] 80)) hb)
        have HC2 := Aside0.mk ((HC.out.alloc (.cells #[ptr b, .int .i64 m] 80)).step hb)
        have HX2 := Aside0.mk ((HX.out.below (below_alloc (Below.refl _ _) (.cells #[ptr b, .int .i64 m] 80))).below hb)
        have k0 : w2.cell? ⟨wr.heap.size, 0, none⟩ = some (ptr b) := (blk_cell HK.out 0).trans rfl
        have k1 : w2.cell? ⟨wr.heap.size, 1, none⟩ = some (.int .i64 m) := (blk_cell HK.out 1).trans rfl
        clear hb HC HX h0 h1
        have hfz := HX2.out.frozen
        have hil : i < xs.length := by omega
        obtain ⟨b', m', hxi⟩ : ∃ b' m', xs[i]? = some (b', m') := ⟨xs[i].1, xs[i].2, List.getElem?_eq_getElem hil⟩
        obtain ⟨g0, g1⟩ := HX2.out.cell hxi
        clear hxi
        cases hp : pr (b, m)
        · go_wp2
          go_roundw
          case rel => exact ⟨i + 1, j + 1, xs.set i (b, m), by go_num, by go_num, by omega, by omega, by simp; omega, ⟨(set_take hij hlt hxl HT1.out HD1.out HL.out hp).1⟩, ⟨(set_take hij hlt hxl HT1.out HD1.out HL.out hp).2⟩, ⟨HX2.out.put i b m hil⟩, ⟨(HC2.out.trans (Ch.set (F := (· = g)) _ g (i * 2) _ rfl) (fun k hk => .inl hk)).trans (Ch.set (F := (· = g)) _ g (i * 2 + 1) _ rfl) (fun k hk => .inl hk)⟩⟩
          case measure => first | (simp [intOf]; done) | (simp [intOf]; omega)
        · go_wp2
          go_roundw
          case rel => exact ⟨i, j + 1, xs, rfl, by go_num, by omega, by omega, hxl, ⟨(skip_take hlt HT1.out HD1.out HL.out hp).1⟩, ⟨(skip_take hlt HT1.out HD1.out HL.out hp).2⟩, HX2, HC2⟩
          case measure => first | (simp [intOf]; done) | (simp [intOf]; omega)
      · obtain rfl : j = l.length := by omega
        have hcl := fun ty => clear80 wr ty g (i * 2) (l.length - i) (cap - i) cap xs HX.out (by omega) (by omega)
        have HK := Aside0.mk (keep_all HT1.out (by omega))
        have HO := Aside0.mk (HX.out.over i (Builtin.zeroCells #[.pointer none, .int .i64 0] (l.length - i)).toList (by rw [zeros_len]; omega))
        have HS := Aside0.mk (HC.out.trans (Ch.sets (F := (· = g)) wr g (i * 2) (Builtin.zeroCells #[.pointer none, .int .i64 0] (l.length - i)).toList rfl) (fun k hk => .inl hk))
        clear HX HC
        go_wp2
        go_ret
        exact ⟨by rw [← HK.out.1]; rfl, by rw [← HK.out.2]; exact HO.out, HS.out⟩
/-! The closures -/
theorem enters66 : Enters 66 := fun args w => (Go.Proofs.enters_of Try.func66 (by kernel_rfl) rfl) args w
theorem enters67 : Enters 67 := fun args w => (Go.Proofs.enters_of Try.func67 (by kernel_rfl) rfl) args w
theorem eq_ptr {w : World} (b f : Nat) {cb cf : Array Value} {tb tf : TypeId} (hb : w.heap[b]? = some (.cells cb tb (0, 0))) (hf : w.heap[f]? = some (.cells cf tf (0, 0))) :
    (binOp .eql 76 (ptr b) (ptr f)).run Try.prog w = .ok (.bool (b == f)) w := by
  obtain ⟨j, hj, hs⟩ : ∃ j, Try.prog.info? 78 = some j ∧ j.size = 1 := by
    obtain ⟨j, hj, hs⟩ := Option.map_eq_some_iff.1 (show (Try.prog.info? 78).map (·.size) = some 1 by kernel_rfl)
    exact ⟨j, hj, hs⟩
  by_cases e : b = f
  · subst e
    rw [run_eql_ptr_same w _ Try.underlying76 hj, beq_self_eq_true]
  · rw [run_eql_ptr_other w Try.underlying76 hj (by omega) (fun h => e (congrArg Addr.block h)) hb hf]
    have : (b == f) = false := by simpa using e
    rw [this]
theorem f66 (b : Nat) (m : Int) (B f : Nat) (W : World) (hc : W.cell? ⟨B, 0, none⟩ = some (ptr f)) {cb cf : Array Value} {tb tf : TypeId} (hb : W.heap[b]? = some (.cells cb tb (0, 0))) (hf : W.heap[f]? = some (.cells cf tf (0, 0))) :
    Calls Try.prog 66 #[.agg #[ptr b, .int .i64 m], .pointer (some ⟨B, 0, none⟩)] W fun e W' => e = .returned (.bool (b == f)) ∧ Below W.heap.size W W' := by
  have hu80 := Try.underlying80
  have hc2 : (W.alloc (.cells #[ptr b, .int .i64 m] 80)).cell? ⟨B, 0, none⟩ = some (ptr f) := Lib.cell?_alloc_some _ hc
  have he := eq_ptr (w := W.alloc (.cells #[ptr b, .int .i64 m] 80)) b f (blk_alloc hb _) (blk_alloc hf _)
  go_enter Try.func66, Try.ntmps66
  go_wp2
  go_ret
  exact ⟨rfl, below_alloc (Below.refl _ _) _⟩
theorem f67 (b : Nat) (m : Int) (W : World) :
    Calls Try.prog 67 #[.agg #[ptr b, .int .i64 m]] W fun e W' => e = .returned (.bool (m == 0)) ∧ Below W.heap.size W W' := by
  have hu80 := Try.underlying80
  go_enter Try.func67, Try.ntmps67
  go_wp2
  go_ret
  exact ⟨rfl, below_alloc (Below.refl _ _) _⟩
end Go.Proofs.Ytaeamdhkdiblmaa.Dk
set_option linter.unusedSimpArgs false
set_option linter.unusedVariables false
namespace Go.Proofs.Ytaeamdhkdiblmaa.Dk
open Go.RowKit Go.Proofs.YtaeamdhkdiblmaaW.PrintWords Go.Proofs.YtaeamdhkdiblmaaW.PrintLast Go.Proofs.YtaeamdhkdiblmaaW.PrintMore
set_option maxHeartbeats 4000000
set_option maxRecDepth 100000
/-- The pieces of a queue: the slice v. -/
def Pcs (W : World) (F : Nat → Prop) (v : Value) (l : List (Nat × Int)) : Prop :=
  (v = .slice none 0 0 ∧ l = []) ∨ ∃ g cap, v = .slice (some ⟨g, 0, none⟩) l.length cap ∧ cap ≤ 9223372036854775807 ∧ F g ∧ PRow W g cap l
/-- A disk's own block. -/
abbrev Head (W : World) (p : Nat) (v mv : Value) (sz : Int) : Prop := W.heap[p]? = some (.cells #[v, mv, .int .i64 sz] 65 (0, 0))
/-- A file's block. -/
abbrev IsFile (W : World) (b : Nat) : Prop := ∃ u, W.heap[b]? = some (.cells #[u] 78 (0, 0))
theorem IsFile.same {W W' : World} {b : Nat} (h : IsFile W b) (hs : W'.heap[b]? = W.heap[b]?) : IsFile W' b := by
  obtain ⟨u, h⟩ := h
  exact ⟨u, hs.trans h⟩
theorem IsFile.lt {W : World} {b : Nat} (h : IsFile W b) : b < W.heap.size := by
  obtain ⟨u, h⟩ := h
  exact blk_lt h
theorem PRow.ne {W : World} {g cap b t : Nat} {l : List (Nat × Int)} {cs : Array Value} (h : PRow W g cap l) (hb : W.heap[b]? = some (.cells cs t (0, 0))) (ht : t ≠ 80) : b ≠ g := by
  intro e
  subst e
  obtain ⟨cur, hg, _⟩ := h
  rw [hg] at hb
  simp only [Option.some.injEq, Obj.cells.injEq] at hb
  exact ht hb.2.1.symm
theorem Pcs.below {W W' : World} {F : Nat → Prop} {v : Value} {l : List (Nat × Int)} (h : Pcs W F v l) (hb : Below W.heap.size W W') : Pcs W' F v l := by
  rcases h with h | ⟨g, cap, e, hc, hF, h⟩
  · exact .inl h
  · exact .inr ⟨g, cap, e, hc, hF, h.below hb⟩
/-- The block p, of another type, turned. -/
theorem Pcs.same {W W' : World} {F : Nat → Prop} {v : Value} {l : List (Nat × Int)} {p t : Nat} {cs : Array Value} (h : Pcs W F v l) (hs : ∀ k, k ≠ p → W'.heap[k]? = W.heap[k]?) (hp : W.heap[p]? = some (.cells cs t (0, 0))) (ht : t ≠ 80 := by decide) : Pcs W' F v l := by
  rcases h with h | ⟨g, cap, e, hc, hF, h⟩
  · exact .inl h
  · exact .inr ⟨g, cap, e, hc, hF, h.same (hs g (Ne.symm (h.ne hp ht)))⟩
theorem Pcs.form {W : World} {F : Nat → Prop} {v : Value} {l : List (Nat × Int)} (h : Pcs W F v l) : ∃ A c, v = .slice A l.length c ∧ l.length ≤ 9223372036854775807 ∧ PK.C W A l.length l := by
  rcases h with ⟨rfl, rfl⟩ | ⟨g, cap, rfl, hc, _, h⟩
  · exact ⟨none, 0, rfl, by simp, ⟨rfl, by simp, fun h => absurd h (by simp)⟩⟩
  · have hl : l.length ≤ cap := by obtain ⟨cur, _, _, h, _⟩ := h; exact h
    exact ⟨_, cap, rfl, by omega, h.C (by omega)⟩
theorem deleteFunc_nil (fn : FuncId) (eg : Enters fn) (caps : Array Value) (pr : Nat × Int → Bool) (w : World) :
    Calls Try.prog 65 #[.slice none 0 0, .func (.func fn) #[] caps] w fun e w' => e = .returned (.slice none 0 0) ∧ Below w.heap.size w w' := by
  have hu60 := Try.underlying60
  have hu80 := Try.underlying80
  have hcon := indexFunc fn eg caps pr none 0 [] w ⟨rfl, by simp, fun h => absurd h (by simp)⟩ (fun _ _ _ _ h => absurd h (by simp))
  rw [show firstP [] pr = -1 from rfl, List.length_nil] at hcon
  go_enter Try.func65, Try.ntmps65
  go_wp2_with (go_at_call 78; (with_reducible refine hcon.mono ?_); rintro e w1 ⟨rfl, hb⟩; have HB := Aside0.mk hb; clear hb)
  go_ret
  exact ⟨rfl, HB.out⟩
/-- slices.DeleteFunc of a queue's pieces. -/
theorem deleteP (fn : FuncId) (eg : Enters fn) (caps : Array Value) (pr : Nat × Int → Bool) (F : Nat → Prop) (v : Value) (l : List (Nat × Int)) (w : World) (h : Pcs w F v l) (hpr : ∀ g cap, PRow w g cap l → PredX w g l fn caps pr) :
    Calls Try.prog 65 #[v, .func (.func fn) #[] caps] w fun e w' => ∃ v' G, e = .returned v' ∧ (∀ k, G k → F k ∧ ∃ cap, PRow w k cap l) ∧ Pcs w' F v' (keepP pr l) ∧ Ch G w w' := by
  rcases h with ⟨rfl, rfl⟩ | ⟨g, cap, rfl, hc, hF, h⟩
  · refine (deleteFunc_nil fn eg caps pr w).mono ?_
    rintro e w' ⟨rfl, hb⟩
    exact ⟨_, fun _ => False, rfl, fun _ hk => hk.elim, .inl ⟨rfl, rfl⟩, Ch.of hb⟩
  · refine (deleteFunc fn eg caps pr g cap l w h hc (hpr g cap h)).mono ?_
    rintro e w' ⟨rfl, hr, hch⟩
    exact ⟨_, fun k => k = g, rfl, fun k hk => by (subst hk; exact ⟨hF, cap, h⟩), .inr ⟨g, cap, rfl, hc, hF, hr⟩, hch⟩
/-- A block of pieces. -/
def T80 (w : World) (k : Nat) : Prop := ∃ cur, w.heap[k]? = some (.cells cur 80 (0, 0))
theorem PRow.t80 {w : World} {g cap : Nat} {l : List (Nat × Int)} (h : PRow w g cap l) : T80 w g := by
  obtain ⟨cur, hg, _⟩ := h
  exact ⟨cur, hg⟩
theorem T80.old {w : World} {k t : Nat} {cs : Array Value} (h : T80 (w.alloc (.cells cs t)) k) (ht : t ≠ 80) : T80 w k := by
  obtain ⟨cur, hk⟩ := h
  have hlt := blk_lt hk
  rw [World.size_alloc] at hlt
  by_cases e : k = w.heap.size
  · subst e
    rw [blk_new w (.cells cs t)] at hk
    simp only [Option.some.injEq, Obj.cells.injEq] at hk
    exact absurd hk.2.1 ht
  · exact ⟨cur, ((Below.heap_alloc w _ k (by omega)).symm).trans hk⟩
theorem drop (F : Nat → Prop) (p f : Nat) (v mv : Value) (sz : Int) (l : List (Nat × Int)) (w : World) (hh : Head w p v mv sz) (hp : F p) (hl : Pcs w F v l) (hex : ∀ x ∈ l, IsFile w x.1) (hf : IsFile w f) :
    Calls Try.prog 40 #[.pointer (some ⟨p, 0, none⟩), ptr f] w fun e w' => e = .returned (.tuple #[]) ∧ ∃ v', Head w' p v' mv sz ∧ Pcs w' F v' (keepP (fun x => x.1 == f) l) ∧ Ch (fun k => F k ∧ (k = p ∨ T80 w k)) w w' := by
  have hu62 := Try.underlying62
  have hb1 : Below w.heap.size w (w.alloc (.cells #[ptr f] 76)) := below_alloc (Below.refl _ _) _
  have hh1 := blk_below hh hb1
  have hB := blk_new w (.cells #[ptr f] 76)
  obtain ⟨w1, hw1⟩ : ∃ w1, w1 = w.alloc (.cells #[ptr f] 76) := ⟨_, rfl⟩
  rw [← hw1] at hb1 hh1 hB
  have hpcs := hl.below hb1
  have hcon := deleteP 66 enters66 #[.pointer (some ⟨w.heap.size, 0, none⟩)] (fun x => x.1 == f) F v l w1 hpcs (fun g cap hr W hW b m hbm => by
    have e1 : ∀ {k}, IsFile w k → IsFile W k := fun {k} hk => by
      obtain ⟨u, hu⟩ := hk
      have hu1 := blk_below hu hb1
      exact ⟨u, (hW.block k (blk_lt hu1) (hr.ne hu1 (by decide))).trans hu1⟩
    obtain ⟨u, hu⟩ := e1 (hex _ hbm)
    obtain ⟨u', hu'⟩ := e1 hf
    have hc : W.cell? ⟨w.heap.size, 0, none⟩ = some (ptr f) := by
      have := (hW.block _ (blk_lt hB) (hr.ne hB (by decide))).trans hB
      exact (blk_cell this 0).trans rfl
    exact f66 b m w.heap.size f W hc hu hu')
  have HC := Aside0.mk hcon
  have HH := Aside0.mk hh1
  have c0 : w1.cell? ⟨p, 0, none⟩ = some v := (blk_cell hh1 0).trans rfl
  have HB := Aside0.mk hb1
  clear hcon hh hh1 hb1 hB hpcs hl hex hf
  subst hw1
  go_enter Try.func40, Try.ntmps40
  go_wp2_with (go_at_call 65; (with_reducible refine HC.out.mono ?_); rintro e w2 ⟨v', Gs, rfl, hG, hp2, hch⟩; have hh2 := (hch.block p (blk_lt HH.out) (fun hg => by (obtain ⟨_, cap, hr⟩ := hG p hg; exact hr.ne HH.out (by decide) rfl))).trans HH.out; have HH2 := Aside0.mk hh2; have HP2 := Aside0.mk hp2; have HF := Aside0.mk (hch.mono (F' := fun k => F k ∧ (k = p ∨ T80 w k)) (fun k hk => ⟨(hG k hk).1, .inr (by (obtain ⟨_, cap, hr⟩ := hG k hk; exact hr.t80.old (by decide)))⟩)); have hfz := blk_frozen hh2; have c2 : w2.cell? ⟨p, 0, none⟩ = some v := (blk_cell hh2 0).trans rfl; obtain ⟨A2, k2, rfl, hle2, _⟩ := hp2.form; clear hG hp2 hch hh2)
  refine bodyPost_end (results_none rfl _ _ _) rfl ?_
  exact ⟨rfl, _, blk_put HH2.out 0 _ rfl, HP2.out.same (fun k => (Below.heap_setCell _ _ _ _ ·)) HH2.out, (((Ch.of HB.out).trans HF.out (fun k hk => .inl hk)).trans (Ch.set (F := fun k => F k ∧ (k = p ∨ T80 w k)) _ p 0 _ ⟨hp, .inl rfl⟩) (fun k hk => .inl hk))⟩
end Go.Proofs.Ytaeamdhkdiblmaa.Dk
set_option linter.unusedSimpArgs false
set_option linter.unusedVariables false
namespace Go.Proofs.Ytaeamdhkdiblmaa.Dk
open Go.RowKit Go.Proofs.YtaeamdhkdiblmaaW.PrintWords Go.Proofs.YtaeamdhkdiblmaaW.PrintLast Go.Proofs.YtaeamdhkdiblmaaW.PrintMore
set_option maxHeartbeats 4000000
set_option maxRecDepth 100000
abbrev bbk (n m : Nat) : Array Bool := ((List.range n).map fun i => m.testBit i).toArray
def q43.T0 : Bool × List (List Nat × List Nat) := (true, [([], []), ([], []), ([1], [1]), ([2], [2]), ([3], [3]), ([], []), ([5], [5]), ([6], [6]), ([7], [7]), ([8], [8]), ([], []), ([9, 10], [9, 10]), ([4, 11], [4, 11]), ([0, 0, 1, 2, 3, 4, 5, 6, 7, 8, 9, 10, 11, 12], [0]), ([13, 0, 1, 2, 3, 4, 5, 6, 7, 8, 9, 10, 11, 12], [13]), ([14, 12, 0, 1, 2, 3, 4, 5, 6, 7, 8, 9, 10, 11, 12], [12, 14])])
def q43.B0 : List Nat := [0, 0, 2, 6, 14, 0, 32, 96, 224, 480, 0, 2016, 4094, 8191, 16383, 32767]
theorem q43.tab0 : rtab .any (opsOf Try.f43 0) = q43.T0 := by kernel_rfl
theorem q43.bits0 : waitsOk q43.T0.2 q43.B0 = true := by kernel_rfl
theorem PRow.put1 {W : World} {g cap : Nat} {l : List (Nat × Int)} (h : PRow W g cap l) (i b : Nat) (m m' : Int) (hi : l[i]? = some (b, m)) :
    PRow (W.setCell ⟨g, i * 2 + 1, none⟩ (.int .i64 m')) g cap (l.set i (b, m')) := by
  obtain ⟨cur, hg, hs, hl, hc⟩ := h
  have hil : i < l.length := (List.getElem?_eq_some_iff.1 hi).1
  refine ⟨_, blk_set hg (i * 2 + 1) (.int .i64 m'), by simp [hs], by simpa using hl, fun j b' m2 hj => ?_⟩
  simp only [Array.getElem?_setIfInBounds]
  by_cases e : i = j
  · subst e
    rw [List.getElem?_set_self hil] at hj
    cases hj
    rw [if_neg (by omega), if_pos rfl, if_pos (by omega)]
    exact ⟨(hc i b m hi).1, rfl⟩
  · rw [List.getElem?_set_ne e] at hj
    obtain ⟨h0, h1⟩ := hc j b' m2 hj
    rw [if_neg (by omega), if_neg (by omega)]
    exact ⟨h0, h1⟩
/-- From the last piece on: n bytes of file f are gone. -/
def cutRev (f : Nat) : Int → List (Nat × Int) → List (Nat × Int)
  | _, [] => []
  | n, (b, m) :: r => if 0 < n ∧ b = f then (b, m - mn n m) :: cutRev f (n - mn n m) r else (b, m) :: cutRev f n r
theorem cutRev_zero (f : Nat) (n : Int) (hn : n ≤ 0) : ∀ r, cutRev f n r = r
  | [] => rfl
  | (b, m) :: r => by
    unfold cutRev
    rw [if_neg (by omega), cutRev_zero f n hn r]
def shortP (f : Nat) (many : Int) (l : List (Nat × Int)) : List (Nat × Int) := keepP (fun x => x.2 == 0) (cutRev f many l.reverse).reverse
theorem pred67 (w : World) (g : Nat) (l : List (Nat × Int)) : PredX w g l 67 #[] (fun x => x.2 == 0) := fun W _ b m _ => by
  simpa using f67 b m W
theorem shorten_row (p f g cap : Nat) (mv : Value) (sz : Int) (A : Option Addr) (n c : Nat) (many : Nat) (l : List (Nat × Int)) (w : World) (hh : Head w p (.slice (some ⟨g, 0, none⟩) l.length cap) mv sz) (hl : PRow w g cap l) (hcap : cap ≤ 9223372036854775807) (hex : ∀ x ∈ l, IsFile w x.1) (hpos : ∀ x ∈ l, 0 ≤ x.2 ∧ x.2 ≤ 140737488355328) (hf : w.heap[f]? = some (.cells #[.slice A n c] 78 (0, 0))) (hnc : n ≤ c) (hcm : c ≤ 9223372036854775807) (hm : many ≤ n) :
    Calls Try.prog 43 #[.pointer (some ⟨p, 0, none⟩), ptr f, .int .i64 many] w fun e w' => e = .returned (.tuple #[]) ∧ ∃ n', Head w' p (.slice (some ⟨g, 0, none⟩) n' cap) mv sz ∧ PRow w' g cap (shortP f many l) ∧ n' = (shortP f many l).length ∧ w'.heap[f]? = some (.cells #[.slice A (n - many) c] 78 (0, 0)) ∧ Ch (fun k => k = p ∨ k = f ∨ k = g) w w' := by
  have hu62 := Try.underlying62
  have hu78 := Try.underlying78
  have hu80 := Try.underlying80
  have hll : l.length ≤ cap := by obtain ⟨cur, _, _, h, _⟩ := hl; exact h
  have c1 : w.cell? ⟨f, 0, none⟩ = some (.slice A n c) := (blk_cell hf 0).trans rfl
  have fz := blk_frozen hf
  obtain ⟨k, hk⟩ : ∃ k, k = n - many := ⟨_, rfl⟩
  have hw : wrap64 ((n : Int) - (many : Int)) = (k : Int) := by unfold wrap64; omega
  have hk0 : (0 : Int) ≤ (k : Int) := by omega
  have hkn : k ≤ c := by omega
  have HKm := Aside0.mk hk
  have HMn := Aside0.mk hm
  clear hk hm
  go_enter Try.func43, Try.ntmps43
  go_wp2
  refine start_ (n:=16) (S:=fun w' => w'.cell? ⟨f, 0, none⟩ = some (.slice A n c)) (ds:=[15]) (bbk 16 0) (by kernel_rfl) rfl rfl c1 (fun hHeld => ?_); refine with_tabW q43.tab0 q43.bits0 (fun HT_ HW_ => ?_)
  refine pure_ (i:=0) (N:=some 8) (v:=?_) (a' := ?_) (bbk 16 1) rfl rfl (any_of HT_.out (by kernel_rfl)) (fun _ _ _ h => h) (Or.inl ⟨by rfl, ?_⟩) ?_ ?_
  rotate_left
  · (intro w'; go_simp; with_reducible rfl)
  rotate_left
  · (simp only [Act.put, List.setIfInBounds_toArray, List.set_cons_zero, List.set_cons_succ, i64_w, i32_w]; rfl)
  refine pure_ (i:=1) (N:=some 9) (v:=?_) (a' := ?_) (bbk 16 3) rfl rfl (any_of HT_.out (by kernel_rfl)) (fun _ _ _ h => h) (Or.inl ⟨by rfl, ?_⟩) ?_ ?_
  rotate_left
  · (intro w'; go_simp; with_reducible rfl)
  rotate_left
  · (simp only [Act.put, List.setIfInBounds_toArray, List.set_cons_zero, List.set_cons_succ, i64_w, i32_w]; rfl)
  refine pure_ (i:=2) (N:=some 10) (v:=?_) (a' := ?_) (bbk 16 7) rfl rfl (any_of HT_.out (by kernel_rfl)) (fun _ _ _ h => h) (Or.inl ⟨by rfl, ?_⟩) ?_ ?_
  rotate_left
  · (intro w'; go_simp; with_reducible rfl)
  rotate_left
  · (simp only [Act.put, List.setIfInBounds_toArray, List.set_cons_zero, List.set_cons_succ, i64_w, i32_w]; rfl)
  refine pure_ (i:=3) (N:=some 11) (v:=?_) (a' := ?_) (bbk 16 15) rfl rfl (any_of HT_.out (by kernel_rfl)) (fun _ _ _ h => h) (Or.inl ⟨by rfl, ?_⟩) ?_ ?_
  rotate_left
  · (intro w'; go_simp; with_reducible rfl)
  rotate_left
  · (simp only [Act.put, List.setIfInBounds_toArray, List.set_cons_zero, List.set_cons_succ, i64_w, i32_w]; rfl)
  refine take_ (i:=4) (N:=some 12) (v:=?_) (a' := ?_) (bbk 16 31) rfl rfl (take_ofW HT_.out HW_.out (by kernel_rfl)) (fun _ _ _ h => h) (Or.inl ⟨by rfl, ?_⟩) hHeld ?_ ?_
  rotate_left
  · (rintro w' e0; go_simp; with_reducible rfl)
  rotate_left
  · (simp only [Act.put, List.setIfInBounds_toArray, List.set_cons_zero, List.set_cons_succ, i64_w, i32_w]; rfl)
  refine pure_ (i:=5) (N:=some 13) (v:=?_) (a' := ?_) (bbk 16 63) rfl rfl (any_of HT_.out (by kernel_rfl)) (fun _ _ _ h => h) (Or.inl ⟨by rfl, ?_⟩) ?_ ?_
  rotate_left
  · (intro w'; go_simp; with_reducible rfl)
  rotate_left
  · (simp only [Act.put, List.setIfInBounds_toArray, List.set_cons_zero, List.set_cons_succ, i64_w, i32_w]; rfl)
  refine pure_ (i:=6) (N:=some 14) (v:=?_) (a' := ?_) (bbk 16 127) rfl rfl (any_of HT_.out (by kernel_rfl)) (fun _ _ _ h => h) (Or.inl ⟨by rfl, ?_⟩) ?_ ?_
  rotate_left
  · (intro w'; go_simp; with_reducible rfl)
  rotate_left
  · (simp only [Act.put, List.setIfInBounds_toArray, List.set_cons_zero, List.set_cons_succ, i64_w, i32_w]; rfl)
  refine pure_ (i:=7) (N:=some 15) (v:=?_) (a' := ?_) (bbk 16 255) rfl rfl (any_of HT_.out (by kernel_rfl)) (fun _ _ _ h => h) (Or.inl ⟨by rfl, ?_⟩) ?_ ?_
  rotate_left
  · (intro w'; go_simp; with_reducible rfl)
  rotate_left
  · (simp only [Act.put, List.setIfInBounds_toArray, List.set_cons_zero, List.set_cons_succ, i64_w, i32_w]; rfl)
  refine take_ (i:=8) (N:=some 16) (v:=?_) (a' := ?_) (bbk 16 511) rfl rfl (take_ofW HT_.out HW_.out (by kernel_rfl)) (fun _ _ _ h => h) (Or.inl ⟨by rfl, ?_⟩) hHeld ?_ ?_
  rotate_left
  · (rintro w' e0; go_simp; with_reducible rfl)
  rotate_left
  · (simp only [Act.put, List.setIfInBounds_toArray, List.set_cons_zero, List.set_cons_succ, i64_w, i32_w]; rfl)
  refine pure_ (i:=9) (N:=some 17) (v:=?_) (a' := ?_) (bbk 16 1023) rfl rfl (any_of HT_.out (by kernel_rfl)) (fun _ _ _ h => h) (Or.inl ⟨by rfl, ?_⟩) ?_ ?_
  rotate_left
  · (intro w'; go_simp; with_reducible rfl)
  rotate_left
  · (simp only [Act.put, List.setIfInBounds_toArray, List.set_cons_zero, List.set_cons_succ, i64_w, i32_w]; rfl)
  refine pure_ (i:=10) (N:=some 18) (v:=?_) (a' := ?_) (bbk 16 2047) rfl rfl (any_of HT_.out (by kernel_rfl)) (fun _ _ _ h => h) (Or.inl ⟨by rfl, ?_⟩) ?_ ?_
  rotate_left
  · (intro w'; go_simp; with_reducible rfl)
  rotate_left
  · (simp only [Act.put, List.setIfInBounds_toArray, List.set_cons_zero, List.set_cons_succ, i64_w, i32_w]; rfl)
  refine pure_ (i:=11) (N:=some 19) (v:=?_) (a' := ?_) (bbk 16 4095) rfl rfl (any_of HT_.out (by kernel_rfl)) (fun _ _ _ h => h) (Or.inl ⟨by rfl, ?_⟩) ?_ ?_
  rotate_left
  · (intro w'; go_simp; with_reducible rfl)
  rotate_left
  · (simp only [Act.put, List.setIfInBounds_toArray, List.set_cons_zero, List.set_cons_succ, i64_w, i32_w, hw]; rfl)
  refine pure_ (i:=12) (N:=some 20) (v:=?_) (a' := ?_) (bbk 16 8191) rfl rfl (any_of HT_.out (by kernel_rfl)) (fun _ _ _ h => h) (Or.inl ⟨by rfl, ?_⟩) ?_ ?_
  rotate_left
  · (intro w'; go_simp; first | (with_reducible rfl) | (rw [if_pos hkn]))
  rotate_left
  · (simp only [Act.put, List.setIfInBounds_toArray, List.set_cons_zero, List.set_cons_succ, i64_w, i32_w]; rfl)
  refine pure_ (i:=13) (N:=some 21) (v:=?_) (a' := ?_) (bbk 16 16383) rfl rfl (any_of HT_.out (by kernel_rfl)) (fun _ _ _ h => h) (Or.inl ⟨by rfl, ?_⟩) ?_ ?_
  rotate_left
  · (intro w'; go_simp; with_reducible rfl)
  rotate_left
  · (simp only [Act.put, List.setIfInBounds_toArray, List.set_cons_zero, List.set_cons_succ, i64_w, i32_w]; rfl)
  refine pure_ (i:=14) (N:=some 22) (v:=?_) (a' := ?_) (bbk 16 32767) rfl rfl (any_of HT_.out (by kernel_rfl)) (fun _ _ _ h => h) (Or.inl ⟨by rfl, ?_⟩) ?_ ?_
  rotate_left
  · (intro w'; go_simp; with_reducible rfl)
  rotate_left
  · (simp only [Act.put, List.setIfInBounds_toArray, List.set_cons_zero, List.set_cons_succ, i64_w, i32_w]; rfl)
  refine last_ (i:=15) (N:=none) (bbk 16 65535) rfl rfl (one_of HT_.out (by kernel_rfl)) (by decide) (fun K hK => ?_)
  refine skip_ (w1:=?_) (by rfl) rfl ?_ ?_
  rotate_left
  · (go_simp; rfl)
  refine hK.out _ _ ?_
  clear hK K
  refine done_ (done_of HT_.out (by kernel_rfl)) ?_
  obtain ⟨w1, hw1⟩ : ∃ w1, w1 = (w.setCell ⟨f, 0, none⟩ (.slice A k c)).drew := ⟨_, rfl⟩
  have hpf : p ≠ f := fun e => by
    rw [e] at hh
    have h3 := hh.symm.trans hf
    simp at h3
  have hgf : f ≠ g := hl.ne hf (by decide)
  have hgp : p ≠ g := hl.ne hh (by decide)
  have hs1 : ∀ k, k ≠ f → w1.heap[k]? = w.heap[k]? := fun k hk => by rw [hw1]; exact Below.heap_setCell w ⟨f, 0, none⟩ _ k hk
  have HH1 : Aside0 (Head w1 p (.slice (some ⟨g, 0, none⟩) l.length cap) mv sz) := ⟨(hs1 p hpf).trans hh⟩
  have HF1 : Aside0 (w1.heap[f]? = some (.cells #[.slice A k c] 78 (0, 0))) := ⟨by rw [hw1]; exact blk_put hf 0 _ rfl⟩
  have HR1 : Aside0 (PRow w1 g cap l) := ⟨hl.same (hs1 g (Ne.symm hgf))⟩
  have HE1 : Aside0 (∀ x ∈ l, IsFile w1 x.1) := ⟨fun x hx => by
    by_cases e : x.1 = f
    · rw [e]; exact ⟨_, HF1.out⟩
    · exact (hex x hx).same (hs1 _ e)⟩
  have HC1 : Aside0 (Ch (fun k => k = p ∨ k = f ∨ k = g) w w1) := ⟨by rw [hw1]; exact (Ch.set (F := fun k => k = p ∨ k = f ∨ k = g) w f 0 _ (.inr (.inl rfl))).drew⟩
  rw [← hw1]
  have HNE := Aside0.mk (And.intro hpf (And.intro hgf hgp))
  have HPO := Aside0.mk hpos
  clear hw1 hs1 hh hl hex hf fz c1 hHeld HT_ HW_ hpf hgf hgp hpos
  have c1 : w1.cell? ⟨p, 0, none⟩ = some (.slice (some ⟨g, 0, none⟩) l.length cap) := (blk_cell HH1.out 0).trans rfl
  go_wp2
  go_loopw [2, 6, 7] (fun v2 v6 v7 w' => ∃ (j m : Nat) (xs : List (Nat × Int)), v2 = .int .i64 m ∧ v6 = .int .i64 ((j : Int) - 1) ∧ j ≤ l.length ∧ xs.length = l.length ∧ m ≤ many ∧ Aside0 (xs.take j = l.take j) ∧ Aside0 (cutRev f many l.reverse = (xs.drop j).reverse ++ cutRev f m ((l.take j).reverse)) ∧ Aside0 (PRow w' g cap xs) ∧ Aside0 ((∀ k, k ≠ g → w'.heap[k]? = w1.heap[k]?) ∧ Ch (fun k => k = g) w1 w')) (fun _ v6 _ _ => (intOf v6 + 1).toNat)
  case atStart => exact ⟨l.length, many, l, rfl, rfl, Nat.le_refl _, rfl, Nat.le_refl _, ⟨rfl⟩, ⟨by simp⟩, HR1, ⟨fun _ _ => rfl, Ch.refl _ _⟩⟩
  case round =>
    obtain ⟨j, m, xs, rfl, rfl, hj, hxl, hmm, HT, HQ, HX, HW⟩ := hrel
    have c2 : wr.cell? ⟨p, 0, none⟩ = some (.slice (some ⟨g, 0, none⟩) l.length cap) := (blk_cell ((HW.out.1 p HNE.out.2.2).trans HH1.out) 0).trans rfl
    by_cases hc : 0 < j ∧ 0 < m
    · obtain ⟨hc1, hc2⟩ := hc
      obtain ⟨i, rfl⟩ : ∃ i, j = i + 1 := ⟨j - 1, by omega⟩
      have e1 : (((i + 1 : Nat) : Int) - 1) = (i : Int) := by omega
      rw [e1]
      have hxi : xs[i]? = l[i]? := by
        have h1 : xs[i]? = (xs.take (i + 1))[i]? := by rw [List.getElem?_take]; simp
        have h2 : l[i]? = (l.take (i + 1))[i]? := by rw [List.getElem?_take]; simp
        rw [h1, h2, HT.out]
      obtain ⟨b, m1, hbm⟩ : ∃ b m1, l[i]? = some (b, m1) := ⟨l[i].1, l[i].2, List.getElem?_eq_getElem (by omega)⟩
      rw [hbm] at hxi
      have hmem : (b, m1) ∈ l := List.mem_of_getElem? hbm
      obtain ⟨hm0, hm1⟩ := HPO.out _ hmem
      obtain ⟨u, hu⟩ := HE1.out _ hmem
      have hbg : b ≠ g := HR1.out.ne hu (by decide)
      have heq := eq_ptr (w := wr) b f ((HW.out.1 b hbg).trans hu) ((HW.out.1 f HNE.out.2.1).trans HF1.out)
      obtain ⟨h0, h1⟩ := HX.out.cell hxi
      have hfz := HX.out.frozen
      have HXI := Aside0.mk hxi
      have HBM := Aside0.mk hbm
      clear hxi hbm hmem hu hbg
      by_cases hbf : b = f
      · subst hbf
        rw [beq_self_eq_true] at heq
        obtain ⟨q, hq⟩ : ∃ q, q = mn (m : Int) m1 := ⟨_, rfl⟩
        have hqe : (if m1 < (m : Int) then m1 else (m : Int)) = q := by rw [hq]; rfl
        have hq3 : 0 ≤ q ∧ q ≤ m ∧ q ≤ m1 := by rw [← hqe]; split <;> omega
        have HQ3 := Aside0.mk hq3
        have HQE := Aside0.mk hqe
        have HQQ := Aside0.mk hq
        clear hq hqe hq3
        go_wp2
        go_roundw
        case rel =>
          rw [HQE.out]
          obtain ⟨q0, q1, q2⟩ := HQ3.out
          have hil : i < xs.length := by omega
          refine ⟨i, ((m : Int) - q).toNat, xs.set i (b, m1 - q), ?_, rfl, by omega, by simpa using hxl, by omega, ⟨?_⟩, ⟨?_⟩, ⟨HX.out.put1 i b m1 (m1 - q) HXI.out⟩, ⟨fun k hk => (Below.heap_setCell _ _ _ k hk).trans (HW.out.1 k hk), HW.out.2.trans (Ch.set (F := fun k => k = g) _ g _ _ rfl) (fun k hk => .inl hk)⟩⟩
          · have := HMn.out
            congr 1; unfold wrap64; omega
          · rw [List.take_set_of_le (Nat.le_refl _)]
            have h1 : xs.take i = (xs.take (i + 1)).take i := by rw [List.take_take, Nat.min_eq_left (by omega)]
            have h2 : l.take i = (l.take (i + 1)).take i := by rw [List.take_take, Nat.min_eq_left (by omega)]
            rw [h1, h2, HT.out]
          · rw [HQ.out, List.take_add_one, HBM.out]
            have hd : (xs.set i (b, m1 - q)).drop i = (b, m1 - q) :: xs.drop (i + 1) := by
              rw [List.drop_eq_getElem_cons (by simpa using hil), List.getElem_set_self, List.drop_set_of_lt (by omega)]
            have hmq : (((m : Int) - q).toNat : Int) = (m : Int) - mn (m : Int) m1 := by rw [← HQQ.out]; omega
            rw [hd, hmq]
            simp only [Option.toList_some, List.reverse_append, List.reverse_cons, List.reverse_nil, List.nil_append, List.singleton_append, cutRev]
            rw [if_pos ⟨by omega, trivial⟩, ← HQQ.out]
            simp
        case measure => first | (simp [intOf]; done) | (simp [intOf]; omega)
      · have hbe : (b == f) = false := beq_false_of_ne hbf
        rw [hbe] at heq
        go_wp2
        go_roundw
        case rel =>
          refine ⟨i, m, xs, rfl, rfl, by omega, hxl, hmm, ⟨?_⟩, ⟨?_⟩, HX, HW⟩
          · have h1 : xs.take i = (xs.take (i + 1)).take i := by rw [List.take_take, Nat.min_eq_left (by omega)]
            have h2 : l.take i = (l.take (i + 1)).take i := by rw [List.take_take, Nat.min_eq_left (by omega)]
            rw [h1, h2, HT.out]
          · rw [HQ.out, List.take_add_one, HBM.out]
            have hd : xs.drop i = (b, m1) :: xs.drop (i + 1) := by
              have h := List.drop_eq_getElem_cons (l := xs) (i := i) (by omega)
              rw [h]
              congr 1
              have := HXI.out
              rw [List.getElem?_eq_getElem (by omega)] at this
              exact Option.some.inj this
            rw [hd]
            simp only [Option.toList_some, List.reverse_append, List.reverse_cons, List.reverse_nil, List.nil_append, List.singleton_append, cutRev]
            rw [if_neg (by rintro ⟨_, h⟩; exact hbf h)]
            simp
        case measure => first | (simp [intOf]; done) | (simp [intOf]; omega)
    · have hfin : shortP f many l = keepP (fun x => x.2 == 0) xs := by
        unfold shortP
        congr 1
        rw [HQ.out]
        rcases Nat.eq_zero_or_pos j with h | h
        · subst h; simp [cutRev]
        · obtain rfl : m = 0 := by omega
          rw [cutRev_zero f _ (by simp), ← HT.out, ← List.reverse_append, List.take_append_drop, List.reverse_reverse]
      have hcon := deleteFunc 67 enters67 #[] (fun x => x.2 == 0) g cap xs wr HX.out hcap (pred67 wr g xs)
      rw [hxl] at hcon
      have HFN := Aside0.mk hfin
      have HD := Aside0.mk hcon
      clear hfin hcon
      have hjm : j = 0 ∨ (0 < j ∧ m = 0) := by omega
      rcases hjm with rfl | ⟨hj0, rfl⟩
      all_goals
        go_wp2_with (go_at_call 65; (with_reducible refine HD.out.mono ?_); rintro e w2 ⟨rfl, hr2, hch2⟩; have hh2 := (hch2.block p (blk_lt ((HW.out.1 p HNE.out.2.2).trans HH1.out)) HNE.out.2.2).trans ((HW.out.1 p HNE.out.2.2).trans HH1.out); have HH2 := Aside0.mk hh2; have HR2 := Aside0.mk hr2; have HC2 := Aside0.mk hch2; have hfz2 := blk_frozen hh2; have c3 := (blk_cell hh2 0); clear hh2 hr2 hch2)
        refine bodyPost_end (results_none rfl _ _ _) rfl ?_
        rw [HFN.out, ← HKm.out]
        have hfw := (HW.out.1 f HNE.out.2.1).trans HF1.out
        refine ⟨rfl, _, blk_put HH2.out 0 _ rfl, HR2.out.same (Below.heap_setCell _ _ _ g (Ne.symm HNE.out.2.2)), rfl, ?_, ?_⟩
        · exact (Below.heap_setCell _ _ _ f (Ne.symm HNE.out.1)).trans ((HC2.out.block f (blk_lt hfw) HNE.out.2.1).trans hfw)
        · exact ((HC1.out.trans HW.out.2 (fun k hk => .inl (.inr (.inr hk)))).trans HC2.out (fun k hk => .inl (.inr (.inr hk)))).trans (Ch.set (F := fun k => k = p ∨ k = f ∨ k = g) _ p 0 _ (.inl rfl)) (fun k hk => .inl hk)
end Go.Proofs.Ytaeamdhkdiblmaa.Dk
set_option linter.unusedSimpArgs false
set_option linter.unusedVariables false
namespace Go.Proofs.Ytaeamdhkdiblmaa.Dk
open Go.RowKit Go.Proofs.YtaeamdhkdiblmaaW.PrintWords Go.Proofs.YtaeamdhkdiblmaaW.PrintLast Go.Proofs.YtaeamdhkdiblmaaW.PrintMore
set_option maxHeartbeats 4000000
set_option maxRecDepth 100000
theorem shorten_nil (p f : Nat) (mv : Value) (sz : Int) (A : Option Addr) (n c : Nat) (many : Nat) (w : World) (hh : Head w p (.slice none 0 0) mv sz) (hf : w.heap[f]? = some (.cells #[.slice A n c] 78 (0, 0))) (hnc : n ≤ c) (hcm : c ≤ 9223372036854775807) (hm : many ≤ n) :
    Calls Try.prog 43 #[.pointer (some ⟨p, 0, none⟩), ptr f, .int .i64 many] w fun e w' => e = .returned (.tuple #[]) ∧ Head w' p (.slice none 0 0) mv sz ∧ w'.heap[f]? = some (.cells #[.slice A (n - many) c] 78 (0, 0)) ∧ Ch (fun k => k = p ∨ k = f) w w' := by
  have hu62 := Try.underlying62
  have hu78 := Try.underlying78
  have hu80 := Try.underlying80
  have c1 : w.cell? ⟨f, 0, none⟩ = some (.slice A n c) := (blk_cell hf 0).trans rfl
  have fz := blk_frozen hf
  obtain ⟨k, hk⟩ : ∃ k, k = n - many := ⟨_, rfl⟩
  have hw : wrap64 ((n : Int) - (many : Int)) = (k : Int) := by unfold wrap64; omega
  have hk0 : (0 : Int) ≤ (k : Int) := by omega
  have hkn : k ≤ c := by omega
  have HKm := Aside0.mk hk
  have HMn := Aside0.mk hm
  clear hk hm
  go_enter Try.func43, Try.ntmps43
  go_wp2
  refine start_ (n:=16) (S:=fun w' => w'.cell? ⟨f, 0, none⟩ = some (.slice A n c)) (ds:=[15]) (bbk 16 0) (by kernel_rfl) rfl rfl c1 (fun hHeld => ?_); refine with_tabW q43.tab0 q43.bits0 (fun HT_ HW_ => ?_)
  refine pure_ (i:=0) (N:=some 8) (v:=?_) (a' := ?_) (bbk 16 1) rfl rfl (any_of HT_.out (by kernel_rfl)) (fun _ _ _ h => h) (Or.inl ⟨by rfl, ?_⟩) ?_ ?_
  rotate_left
  · (intro w'; go_simp; with_reducible rfl)
  rotate_left
  · (simp only [Act.put, List.setIfInBounds_toArray, List.set_cons_zero, List.set_cons_succ, i64_w, i32_w]; rfl)
  refine pure_ (i:=1) (N:=some 9) (v:=?_) (a' := ?_) (bbk 16 3) rfl rfl (any_of HT_.out (by kernel_rfl)) (fun _ _ _ h => h) (Or.inl ⟨by rfl, ?_⟩) ?_ ?_
  rotate_left
  · (intro w'; go_simp; with_reducible rfl)
  rotate_left
  · (simp only [Act.put, List.setIfInBounds_toArray, List.set_cons_zero, List.set_cons_succ, i64_w, i32_w]; rfl)
  refine pure_ (i:=2) (N:=some 10) (v:=?_) (a' := ?_) (bbk 16 7) rfl rfl (any_of HT_.out (by kernel_rfl)) (fun _ _ _ h => h) (Or.inl ⟨by rfl, ?_⟩) ?_ ?_
  rotate_left
  · (intro w'; go_simp; with_reducible rfl)
  rotate_left
  · (simp only [Act.put, List.setIfInBounds_toArray, List.set_cons_zero, List.set_cons_succ, i64_w, i32_w]; rfl)
  refine pure_ (i:=3) (N:=some 11) (v:=?_) (a' := ?_) (bbk 16 15) rfl rfl (any_of HT_.out (by kernel_rfl)) (fun _ _ _ h => h) (Or.inl ⟨by rfl, ?_⟩) ?_ ?_
  rotate_left
  · (intro w'; go_simp; with_reducible rfl)
  rotate_left
  · (simp only [Act.put, List.setIfInBounds_toArray, List.set_cons_zero, List.set_cons_succ, i64_w, i32_w]; rfl)
  refine take_ (i:=4) (N:=some 12) (v:=?_) (a' := ?_) (bbk 16 31) rfl rfl (take_ofW HT_.out HW_.out (by kernel_rfl)) (fun _ _ _ h => h) (Or.inl ⟨by rfl, ?_⟩) hHeld ?_ ?_
  rotate_left
  · (rintro w' e0; go_simp; with_reducible rfl)
  rotate_left
  · (simp only [Act.put, List.setIfInBounds_toArray, List.set_cons_zero, List.set_cons_succ, i64_w, i32_w]; rfl)
  refine pure_ (i:=5) (N:=some 13) (v:=?_) (a' := ?_) (bbk 16 63) rfl rfl (any_of HT_.out (by kernel_rfl)) (fun _ _ _ h => h) (Or.inl ⟨by rfl, ?_⟩) ?_ ?_
  rotate_left
  · (intro w'; go_simp; with_reducible rfl)
  rotate_left
  · (simp only [Act.put, List.setIfInBounds_toArray, List.set_cons_zero, List.set_cons_succ, i64_w, i32_w]; rfl)
  refine pure_ (i:=6) (N:=some 14) (v:=?_) (a' := ?_) (bbk 16 127) rfl rfl (any_of HT_.out (by kernel_rfl)) (fun _ _ _ h => h) (Or.inl ⟨by rfl, ?_⟩) ?_ ?_
  rotate_left
  · (intro w'; go_simp; with_reducible rfl)
  rotate_left
  · (simp only [Act.put, List.setIfInBounds_toArray, List.set_cons_zero, List.set_cons_succ, i64_w, i32_w]; rfl)
  refine pure_ (i:=7) (N:=some 15) (v:=?_) (a' := ?_) (bbk 16 255) rfl rfl (any_of HT_.out (by kernel_rfl)) (fun _ _ _ h => h) (Or.inl ⟨by rfl, ?_⟩) ?_ ?_
  rotate_left
  · (intro w'; go_simp; with_reducible rfl)
  rotate_left
  · (simp only [Act.put, List.setIfInBounds_toArray, List.set_cons_zero, List.set_cons_succ, i64_w, i32_w]; rfl)
  refine take_ (i:=8) (N:=some 16) (v:=?_) (a' := ?_) (bbk 16 511) rfl rfl (take_ofW HT_.out HW_.out (by kernel_rfl)) (fun _ _ _ h => h) (Or.inl ⟨by rfl, ?_⟩) hHeld ?_ ?_
  rotate_left
  · (rintro w' e0; go_simp; with_reducible rfl)
  rotate_left
  · (simp only [Act.put, List.setIfInBounds_toArray, List.set_cons_zero, List.set_cons_succ, i64_w, i32_w]; rfl)
  refine pure_ (i:=9) (N:=some 17) (v:=?_) (a' := ?_) (bbk 16 1023) rfl rfl (any_of HT_.out (by kernel_rfl)) (fun _ _ _ h => h) (Or.inl ⟨by rfl, ?_⟩) ?_ ?_
  rotate_left
  · (intro w'; go_simp; with_reducible rfl)
  rotate_left
  · (simp only [Act.put, List.setIfInBounds_toArray, List.set_cons_zero, List.set_cons_succ, i64_w, i32_w]; rfl)
  refine pure_ (i:=10) (N:=some 18) (v:=?_) (a' := ?_) (bbk 16 2047) rfl rfl (any_of HT_.out (by kernel_rfl)) (fun _ _ _ h => h) (Or.inl ⟨by rfl, ?_⟩) ?_ ?_
  rotate_left
  · (intro w'; go_simp; with_reducible rfl)
  rotate_left
  · (simp only [Act.put, List.setIfInBounds_toArray, List.set_cons_zero, List.set_cons_succ, i64_w, i32_w]; rfl)
  refine pure_ (i:=11) (N:=some 19) (v:=?_) (a' := ?_) (bbk 16 4095) rfl rfl (any_of HT_.out (by kernel_rfl)) (fun _ _ _ h => h) (Or.inl ⟨by rfl, ?_⟩) ?_ ?_
  rotate_left
  · (intro w'; go_simp; with_reducible rfl)
  rotate_left
  · (simp only [Act.put, List.setIfInBounds_toArray, List.set_cons_zero, List.set_cons_succ, i64_w, i32_w, hw]; rfl)
  refine pure_ (i:=12) (N:=some 20) (v:=?_) (a' := ?_) (bbk 16 8191) rfl rfl (any_of HT_.out (by kernel_rfl)) (fun _ _ _ h => h) (Or.inl ⟨by rfl, ?_⟩) ?_ ?_
  rotate_left
  · (intro w'; go_simp; first | (with_reducible rfl) | (rw [if_pos hkn]))
  rotate_left
  · (simp only [Act.put, List.setIfInBounds_toArray, List.set_cons_zero, List.set_cons_succ, i64_w, i32_w]; rfl)
  refine pure_ (i:=13) (N:=some 21) (v:=?_) (a' := ?_) (bbk 16 16383) rfl rfl (any_of HT_.out (by kernel_rfl)) (fun _ _ _ h => h) (Or.inl ⟨by rfl, ?_⟩) ?_ ?_
  rotate_left
  · (intro w'; go_simp; with_reducible rfl)
  rotate_left
  · (simp only [Act.put, List.setIfInBounds_toArray, List.set_cons_zero, List.set_cons_succ, i64_w, i32_w]; rfl)
  refine pure_ (i:=14) (N:=some 22) (v:=?_) (a' := ?_) (bbk 16 32767) rfl rfl (any_of HT_.out (by kernel_rfl)) (fun _ _ _ h => h) (Or.inl ⟨by rfl, ?_⟩) ?_ ?_
  rotate_left
  · (intro w'; go_simp; with_reducible rfl)
  rotate_left
  · (simp only [Act.put, List.setIfInBounds_toArray, List.set_cons_zero, List.set_cons_succ, i64_w, i32_w]; rfl)
  refine last_ (i:=15) (N:=none) (bbk 16 65535) rfl rfl (one_of HT_.out (by kernel_rfl)) (by decide) (fun K hK => ?_)
  refine skip_ (w1:=?_) (by rfl) rfl ?_ ?_
  rotate_left
  · (go_simp; rfl)
  refine hK.out _ _ ?_
  clear hK K
  refine done_ (done_of HT_.out (by kernel_rfl)) ?_
  obtain ⟨w1, hw1⟩ : ∃ w1, w1 = (w.setCell ⟨f, 0, none⟩ (.slice A k c)).drew := ⟨_, rfl⟩
  have hpf : p ≠ f := fun e => by
    rw [e] at hh
    have h3 := hh.symm.trans hf
    simp at h3
  have hs1 : ∀ k, k ≠ f → w1.heap[k]? = w.heap[k]? := fun k hk => by rw [hw1]; exact Below.heap_setCell w ⟨f, 0, none⟩ _ k hk
  have HH1 : Aside0 (Head w1 p (.slice none 0 0) mv sz) := ⟨(hs1 p hpf).trans hh⟩
  have HF1 : Aside0 (w1.heap[f]? = some (.cells #[.slice A k c] 78 (0, 0))) := ⟨by rw [hw1]; exact blk_put hf 0 _ rfl⟩
  have HC1 : Aside0 (Ch (fun k => k = p ∨ k = f) w w1) := ⟨by rw [hw1]; exact (Ch.set (F := fun k => k = p ∨ k = f) w f 0 _ (.inr rfl)).drew⟩
  rw [← hw1]
  have HPF := Aside0.mk hpf
  clear hw1 hs1 hh hf fz c1 hHeld HT_ HW_ hpf
  have c1 : w1.cell? ⟨p, 0, none⟩ = some (.slice none 0 0) := (blk_cell HH1.out 0).trans rfl
  have HD := Aside0.mk (deleteFunc_nil 67 enters67 #[] (fun x => x.2 == 0) w1)
  go_wp2
  go_loopw [2, 6, 7] (fun v2 v6 v7 w' => v6 = .int .i64 (-1) ∧ v2 = .int .i64 many ∧ w' = w1) (fun _ _ _ _ => 0)
  case atStart => exact ⟨by simp, rfl, rfl⟩
  case round =>
    obtain ⟨rfl, rfl, rfl⟩ := hrel
    go_wp2_with (go_at_call 65; (with_reducible refine HD.out.mono ?_); rintro e w2 ⟨rfl, hb⟩; have hh2 := blk_below HH1.out hb; have HH2 := Aside0.mk hh2; have HB2 := Aside0.mk hb; have hfz2 := blk_frozen hh2; have c3 := (blk_cell hh2 0); clear hh2 hb)
    refine bodyPost_end (results_none rfl _ _ _) rfl ?_
    rw [← HKm.out]
    refine ⟨rfl, blk_put HH2.out 0 _ rfl, ?_, ?_⟩
    · exact (Below.heap_setCell _ _ _ f (Ne.symm HPF.out)).trans (blk_below HF1.out HB2.out)
    · exact (HC1.out.step HB2.out).trans (Ch.set (F := fun k => k = p ∨ k = f) _ p 0 _ (.inl rfl)) (fun k hk => .inl hk)
end Go.Proofs.Ytaeamdhkdiblmaa.Dk
set_option linter.unusedSimpArgs false
set_option linter.unusedVariables false
namespace Go.Proofs.Ytaeamdhkdiblmaa.Dk
open Go.RowKit Go.Proofs.YtaeamdhkdiblmaaW.PrintWords Go.Proofs.YtaeamdhkdiblmaaW.PrintLast Go.Proofs.YtaeamdhkdiblmaaW.PrintMore
set_option maxHeartbeats 4000000
set_option maxRecDepth 100000
theorem known (p m : Nat) (v : Value) (sz : Int) (w : World) (hh : Head w p v (.map (some m)) sz) : Calls Try.prog 34 #[ptr p] w fun e w' => e = .returned (.bool true) ∧ Below w.heap.size w w' := by
  have hu65 := Try.underlying65
  have hu63 := Try.underlying63
  have c1 : w.cell? ⟨p, 1, none⟩ = some (.map (some m)) := (blk_cell hh 1).trans rfl
  have HB := Aside0.mk (Below.refl w.heap.size w)
  have hne := run_neq_map_nil (P := Try.prog) w 63 9 76 (some m) Try.underlying63
  clear hh
  go_enter Try.func34, Try.ntmps34
  go_wp2
  go_ret
  exact ⟨by simp, HB.out⟩
theorem waitsQ (p : Nat) (v mv : Value) (sz : Int) (F : Nat → Prop) (l : List (Nat × Int)) (w : World) (hh : Head w p v mv sz) (hl : Pcs w F v l) (hp : ∀ x ∈ l, 0 ≤ x.2) (hs : sumP l ≤ 9223372036854775807) :
    Calls Try.prog 42 #[.pointer (some ⟨p, 0, none⟩)] w fun e w' => e = .returned (.int .i64 (sumP l)) ∧ Below w.heap.size w w' := by
  obtain ⟨A, c, rfl, _, hC⟩ := hl.form
  exact waits p A c l w ((blk_cell hh 0).trans rfl) hC hp hs
/-- Disk.Waits. -/
theorem waitsD (p m : Nat) (v : Value) (sz : Int) (F : Nat → Prop) (l : List (Nat × Int)) (w : World) (hh : Head w p v (.map (some m)) sz) (hl : Pcs w F v l) (hp : ∀ x ∈ l, 0 ≤ x.2) (hs : sumP l ≤ 9223372036854775807) :
    Calls Try.prog 14 #[ptr p] w fun e w' => e = .returned (.int .i64 (sumP l)) ∧ Below w.heap.size w w' := by
  have hu65 := Try.underlying65
  have HH := Aside0.mk hh
  have HL := Aside0.mk hl
  have HP := Aside0.mk hp
  clear hh hl hp
  go_enter Try.func14, Try.ntmps14
  go_wp2_with (first
    | (go_at_call 34; (with_reducible refine (known p m v sz w HH.out).mono ?_); rintro e w1 ⟨rfl, hb⟩; have HB := Aside0.mk hb; clear hb)
    | (go_at_call 42; (with_reducible refine (waitsQ p v (.map (some m)) sz F l w1 (blk_below HH.out HB.out) (HL.out.below HB.out) HP.out hs).mono ?_); rintro e w2 ⟨rfl, hb⟩; have HB2 := Aside0.mk (below_tr HB.out hb); clear hb))
  go_ret
  exact ⟨rfl, HB2.out⟩
end Go.Proofs.Ytaeamdhkdiblmaa.Dk
set_option linter.unusedSimpArgs false
set_option linter.unusedVariables false
namespace Go.Proofs.Ytaeamdhkdiblmaa.Dk
open Go.RowKit Go.Proofs.YtaeamdhkdiblmaaW.PrintWords Go.Proofs.YtaeamdhkdiblmaaW.PrintLast Go.Proofs.YtaeamdhkdiblmaaW.PrintMore
set_option maxHeartbeats 4000000
set_option maxRecDepth 100000
/-- How an element of the map of files reads: by its block. -/
def ptrElem : Value → Option (DataW Unit × List MemPlace)
  | .pointer (some a) => if a = ⟨a.block, 0, none⟩ then some (.lit (.int .i64 a.block), []) else none
  | .pointer none => some (.lit (.bool false), [])
  | _ => none
theorem ptrElem_ptr (b : Nat) : ptrElem (ptr b) = some (.lit (.int .i64 b), []) := by simp [ptrElem]
theorem ptrElem_nil : ptrElem (.pointer none) = some (.lit (.bool false), []) := rfl
theorem ptrElem_inv {v : Value} {z : DataW Unit × List MemPlace} (h : ptrElem v = some z) : (v = .pointer none ∧ z = (.lit (.bool false), [])) ∨ ∃ b, v = ptr b ∧ z = (.lit (.int .i64 b), []) := by
  unfold ptrElem at h
  split at h
  · rename_i a
    split at h
    · rename_i e
      cases h
      exact .inr ⟨a.block, by rw [e], rfl⟩
    · cases h
  · cases h; exact .inl ⟨rfl, rfl⟩
  · cases h
/-- The map of files, by names and blocks, in the names' order. -/
def datF (fs : List (List UInt8 × Nat)) : DataW Unit := .map (fs.map fun x => (.string x.1, .lit (.int .i64 x.2)))
def Files (W : World) (m n : Nat) (fs : List (List UInt8 × Nat)) : Prop := W.ownsMap Try.prog 9 ptrElem m n (datF fs)
/-- disk.New. -/
theorem new (n : Int) (w : World) : Calls Try.prog 9 #[.int .i64 n] w fun e w' => e = .returned (ptr (w.heap.size + 1)) ∧ Head w' (w.heap.size + 1) (.slice none 0 0) (.map (some w.heap.size)) n ∧ Files w' w.heap.size 0 [] ∧ Below w.heap.size w w' := by
  have hu65 := Try.underlying65
  have hu63 := Try.underlying63
  have hm : (w.alloc (.map #[] 0)).ownsMap Try.prog 9 ptrElem w.heap.size 0 (.map []) := World.ownsMap_made w Try.prog 9 ptrElem
  have hB := blk_new (w.alloc (.map #[] 0)) (.cells #[.slice none 0 0, .map (some w.heap.size), .int .i64 n] 65)
  rw [World.size_alloc] at hB
  have HF := Aside0.mk (hm.alloc (.cells #[.slice none 0 0, .map (some w.heap.size), .int .i64 n] 65))
  have HH := Aside0.mk hB
  have hmk : (Instr.makeMap 63 none).run Try.prog w = .ok (.map (some w.heap.size)) (w.alloc (.map #[] 0)) := rfl
  clear hm hB
  go_enter Try.func9, Try.ntmps9
  go_wp2
  go_ret
  exact ⟨rfl, HH.out, HF.out, below_alloc (below_alloc (Below.refl _ _) _) _⟩
end Go.Proofs.Ytaeamdhkdiblmaa.Dk
set_option linter.unusedSimpArgs false
set_option linter.unusedVariables false
namespace Go.Proofs.Ytaeamdhkdiblmaa.Dk
open Go.RowKit Go.Proofs.YtaeamdhkdiblmaaW.PrintWords Go.Proofs.YtaeamdhkdiblmaaW.PrintLast Go.Proofs.YtaeamdhkdiblmaaW.PrintMore
theorem keyed9 : Maps.Keyed Try.prog 9 := Maps.string_keyed Try.underlying9
def findF (fs : List (List UInt8 × Nat)) (x : List UInt8) : Option Nat := (fs.find? fun e => decide (e.1 = x)).map (·.2)
def valF : Option Nat → Value
  | some b => ptr b
  | none => .pointer none
theorem lookup {W : World} {m n : Nat} {fs : List (List UInt8 × Nat)} (h : Files W m n fs) (x : ByteArray) (hx : keyOf Try.prog 9 (.string x) = some (.string x.data.toList)) :
    (Instr.lookup 63 (.map (some m)) (.string x) false).run Try.prog W = .ok (valF (findF fs x.data.toList)) W := by
  obtain ⟨v, ps, hrun, hv⟩ := World.ownsMap.lookup h keyed9 Try.underlying63 (Try.zeroValue76 W) ptrElem_nil hx
  have hat : (datF fs).atKey (.string x.data.toList) (.lit (.bool false)) = match findF fs x.data.toList with | some b => .lit (.int .i64 b) | none => .lit (.bool false) := by
    unfold DataW.atKey datF findF
    simp only
    rw [List.find?_map]
    have hp : ((fun p : Lit × DataW Unit => p.1.sameKey (.string x.data.toList)) ∘ fun e : List UInt8 × Nat => ((.string e.1 : Lit), (.lit (.int .i64 e.2) : DataW Unit))) = fun e => decide (e.1 = x.data.toList) := by
      funext e
      simp only [Function.comp, Lit.sameKey]
      exact Bool.beq_eq_decide_eq _ _
    rw [hp]
    cases fs.find? fun e => decide (e.1 = x.data.toList) <;> rfl
  rw [hrun]
  rw [hat] at hv
  have hvv : v = valF (findF fs x.data.toList) := by
    clear hrun
    cases hf : findF fs x.data.toList with
    | none =>
      rw [hf] at hv
      rcases ptrElem_inv hv with ⟨rfl, _⟩ | ⟨b, _, e⟩
      · rfl
      · simp at e
    | some b' =>
      rw [hf] at hv
      rcases ptrElem_inv hv with ⟨_, e⟩ | ⟨b, rfl, e⟩
      · simp at e
      · simp at e
        have : b' = b := by omega
        rw [this]
        rfl
  rw [hvv]
end Go.Proofs.Ytaeamdhkdiblmaa.Dk
