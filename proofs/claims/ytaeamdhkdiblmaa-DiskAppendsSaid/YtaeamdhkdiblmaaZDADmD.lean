/- Texts of this session, made one by a program of this session (mergemods.py). -/
import Derived.Test.YtaeamdhkdiblmaaZDADmC
import Derived.Test.YtaeamdhkdiblmaaZDAP07x2
import Derived.Lib.MinMax
set_option linter.unusedSimpArgs false
set_option linter.unusedVariables false
namespace Go.Proofs.Ytaeamdhkdiblmaa.Dk
open Go.RowKit Go.Proofs.YtaeamdhkdiblmaaW.PrintWords Go.Proofs.YtaeamdhkdiblmaaW.PrintLast Go.Proofs.YtaeamdhkdiblmaaW.PrintMore
open Go.Proofs.Ytaeamdhkdiblmaa.P07 (watershedkit_SameBytes.f watershedkit_SameBytes.l0 watershedkit_SameBytes.calls)
set_option maxHeartbeats 4000000
set_option maxRecDepth 100000
theorem w64 {i : Int} (h0 : -9223372036854775808 ≤ i) (h : i ≤ 9223372036854775807) : wrap64 i = i := by unfold wrap64; omega
theorem rd_mid (pre : List Int) (x : Int) (suf : List Int) : rd (pre ++ x :: suf) (pre.length : Int) = x := by
  unfold rd
  simp [List.getD_eq_getElem?_getD]
theorem len_mid {α : Type} (pre : List α) (x : α) (suf : List α) : ((pre ++ x :: suf).length : Int) = pre.length + 1 + suf.length := by simp; omega
theorem eq_snoc {α : Type} [DecidableEq α] (x y : α) (xs ys : List α) : decide (x :: xs = y :: ys) = (decide (x = y) && decide (xs = ys)) := by simp
theorem ev_same_l (suf : List Int) : ∀ (pre pre' suf' : List Int), (pre ++ suf).length ≤ 9223372036854775806 → pre.length = pre'.length → suf.length = suf'.length →
    Ev (fun k => watershedkit_SameBytes.l0 k (pre ++ suf) (pre' ++ suf') (pre.length : Int)) (decide (suf = suf')) := by
  induction suf with
  | nil =>
    intro pre pre' suf' hl he hs
    have : suf' = [] := List.eq_nil_of_length_eq_zero (by simpa using hs.symm)
    subst this
    refine Ev.step (f := fun _ => some true) (fun k => ?_) (Ev.now _)
    simp only [watershedkit_SameBytes.l0, List.append_nil]
    rw [if_neg (by omega)]
  | cons x xs ih =>
    intro pre pre' suf' hl he hs
    cases suf' with
    | nil => simp at hs
    | cons y ys =>
      have hlen := len_mid pre x xs
      have hlen' := len_mid pre' y ys
      have hs' : xs.length = ys.length := by simpa using hs
      have hb : ((pre ++ x :: xs).length : Int) ≤ 9223372036854775806 := by omega
      refine Ev.step (f := fun k => if x = y then watershedkit_SameBytes.l0 k (pre ++ x :: xs) (pre' ++ y :: ys) ((pre ++ [x]).length : Int) else some false) (fun k => ?_) ?_
      · simp only [watershedkit_SameBytes.l0]
        have hw : wrap64 ((pre.length : Int) + 1) = ((pre ++ [x]).length : Int) := by rw [w64 (by omega) (by omega)]; simp
        rw [if_pos (by omega), if_pos (by omega), if_pos (by omega), rd_mid, he, rd_mid, ← he, hw]
      · rw [eq_snoc]
        by_cases c : x = y
        · simp only [if_pos c]
          have h := ih (pre ++ [x]) (pre' ++ [y]) ys (by simpa using hl) (by simp [he]) hs'
          simpa [c] using h
        · simp only [if_neg c]
          simpa [c] using Ev.now false
theorem ev_same (a b : List Int) (ha : a.length ≤ 9223372036854775806) : Ev (fun k => watershedkit_SameBytes.f k a b) (decide (a = b)) := by
  unfold watershedkit_SameBytes.f
  by_cases c : a.length = b.length
  · have h := ev_same_l a [] [] b (by simpa using ha) rfl c
    simp only [if_pos (show (a.length : Int) = (b.length : Int) by omega)]
    simpa using h
  · simp only [if_neg (show ¬ (a.length : Int) = (b.length : Int) by omega)]
    have : a ≠ b := fun e => c (by rw [e])
    simpa [this] using Ev.now false
/-- SameBytes. -/
theorem sameBytes (A0 : Option Addr) (c0 : Nat) (xs : List Int) (A1 : Option Addr) (c1 : Nat) (ys : List Int) (w : World) (h0 : BK.C w A0 xs.length xs) (hc0 : xs.length ≤ c0) (h1 : BK.C w A1 ys.length ys) (hc1 : ys.length ≤ c1) (hl : xs.length ≤ room) :
    Calls Try.prog 13 #[.slice A0 xs.length c0, .slice A1 ys.length c1] w fun e w' => e = .returned (.bool (decide (xs = ys))) ∧ Below w.heap.size w w' := by
  obtain ⟨k, hk⟩ := (ev_same xs ys (by simp only [room] at hl; omega)).rounds
  refine (watershedkit_SameBytes.calls k A0 c0 xs A1 c1 ys _ w h0 hc0 h1 hc1 hk).mono ?_
  rintro e w' ⟨rfl, hd⟩
  exact ⟨rfl, hd.below⟩
/-- begins. -/
theorem begins (A0 : Option Addr) (c0 : Nat) (xs : List Int) (A1 : Option Addr) (c1 : Nat) (ys : List Int) (w : World) (h0 : BK.C w A0 xs.length xs) (hc0 : xs.length ≤ c0) (h1 : BK.C w A1 ys.length ys) (hc1 : ys.length ≤ c1) (hl : xs.length ≤ room) :
    Calls Try.prog 16 #[.slice A0 xs.length c0, .slice A1 ys.length c1] w fun e w' => e = .returned (.bool (decide (xs.length ≤ ys.length) && decide (xs = ys.take xs.length))) ∧ Below w.heap.size w w' := by
  have hlx : xs.length ≤ 9223372036854775807 := h0.2.1
  have hly : ys.length ≤ 9223372036854775807 := h1.2.1
  have HX := Aside0.mk h0
  have HY := Aside0.mk h1
  have HC := Aside0.mk (And.intro hc0 hc1)
  clear h0 h1
  by_cases hle : xs.length ≤ ys.length
  · have hd : decide ((xs.length : Int) ≤ (ys.length : Int)) = true := decide_eq_true (by omega)
    have hd2 : decide (xs.length ≤ ys.length) = true := decide_eq_true hle
    obtain ⟨i0, hi, hzz⟩ := Option.map_eq_some_iff.1 infoG
    simp only [Prod.mk.injEq] at hzz
    obtain ⟨hcut, hA, hcc⟩ := print_take_of (P := Try.prog) (Value.int .u8) (0 : Int) 32 5 .i64 Try.underlying32 hi hzz.2.1 A1 c1 ys (xs.length : Int) (by omega) (by omega) hc1
    have HT := Aside0.mk (Kd.C_of_reads (h1 := fun _ => rfl) (hA w (Kd.reads_of_C HY.out)))
    rw [Int.toNat_natCast] at hcut hcc HT
    have htl : (ys.take xs.length).length = xs.length := by rw [List.length_take]; omega
    have HS := Aside0.mk (sameBytes A0 c0 xs A1 c1 (ys.take xs.length) w HX.out hc0 HT.out hcc hl)
    rw [htl] at hcut HS
    have HTL := Aside0.mk htl
    clear hA hzz hi hcc htl
    go_enter Try.func16, Try.ntmps16
    go_wp2_with (go_at_call 13; (with_reducible refine HS.out.mono ?_); rintro e w1 ⟨rfl, hb⟩; have HB := Aside0.mk hb; clear hb)
    go_ret
    exact ⟨by simp [hle], HB.out⟩
  · go_enter Try.func16, Try.ntmps16
    go_wp2
    go_ret
    exact ⟨by simp [hle], Below.refl _ _⟩
end Go.Proofs.Ytaeamdhkdiblmaa.Dk
set_option linter.unusedSimpArgs false
set_option linter.unusedVariables false
namespace Go.Proofs.Ytaeamdhkdiblmaa.Dk
open Go.RowKit Go.Proofs.YtaeamdhkdiblmaaW.PrintWords Go.Proofs.YtaeamdhkdiblmaaW.PrintLast Go.Proofs.YtaeamdhkdiblmaaW.PrintMore
open Go.Proofs.Ytaeamdhkdiblmaa.P07 (S28 k28 rd_T28 rd_L1 z28 watershedlaw07_light.f watershedlaw07_light.l0 watershedlaw07_light.l1 watershedlaw07_light.l2 watershedlaw07_light.j1 watershedlaw07_light.j3 watershedlaw07_light.calls)
set_option maxHeartbeats 4000000
set_option maxRecDepth 100000
/-! light: what it tells of deeds -/
def sumL (l : List (List Int)) : Nat := (l.map List.length).sum
def sumS (l : List ByteArray) : Nat := (l.map ByteArray.size).sum
def wd (x : S28) : Nat := x.f1.size + x.f2.length + x.f4.length + sumL x.f4 + sumS x.f2
def wl (l : List S28) : Nat := (l.map wd).sum
structure Small (x : S28) : Prop where
  a : x.f1.size ≤ 281474976710656
  b : x.f2.length ≤ 281474976710656
  c : x.f4.length ≤ 281474976710656
  d : ∀ y ∈ x.f4, y.length ≤ 281474976710656
  e : ∀ y ∈ x.f2, y.size ≤ 281474976710656
theorem rd28_mid (pre : List S28) (x : S28) (suf : List S28) : rd_T28 (pre ++ x :: suf) (pre.length : Int) = x := by
  unfold rd_T28
  simp [List.getD_eq_getElem?_getD]
theorem rdL1_mid (pre : List (List Int)) (x : List Int) (suf : List (List Int)) : rd_L1 (pre ++ x :: suf) (pre.length : Int) = x := by
  unfold rd_L1
  simp [List.getD_eq_getElem?_getD]
theorem rdOf_mid (pre : List ByteArray) (x : ByteArray) (suf : List ByteArray) : rdOf ByteArray.empty (pre ++ x :: suf) (pre.length : Int) = x := by
  unfold rdOf
  simp [List.getD_eq_getElem?_getD]
theorem snoc_len {α : Type} (pre : List α) (x : α) : ((pre ++ [x]).length : Int) = pre.length + 1 := by simp
theorem light_l2 (xs : List S28) (x : S28) (i : Int) (hi : 0 ≤ i) (hil : i < (xs.length : Int)) (hx : rd_T28 xs i = x) (hs : Small x) (hlen : (xs.length : Int) ≤ 300) (R : Int)
    (hnext : ∀ v : Int, 0 ≤ v → v ≤ 1152921504606846976 → ∃ r, Ev (fun k => watershedlaw07_light.l0 k xs v (i + 1)) r ∧ (r = true → v + R ≤ 20000)) (hR : 0 ≤ R) :
    ∀ (suf pre : List ByteArray), x.f2 = pre ++ suf → ∀ v : Int, 0 ≤ v → v ≤ 576460752303423488 → ∃ r, Ev (fun k => watershedlaw07_light.l2 k xs v i (pre.length : Int)) r ∧ (r = true → v + sumS suf + R ≤ 20000) := by
  have hw : wrap64 (i + 1) = i + 1 := w64 (by omega) (by omega)
  intro suf
  induction suf with
  | nil =>
    intro pre hp v h0 h1
    obtain ⟨r, hr, hr2⟩ := hnext v h0 (by omega)
    refine ⟨r, Ev.step (f := fun k => watershedlaw07_light.l0 k xs v (i + 1)) (fun k => ?_) hr, fun e => by have := hr2 e; simp [sumS]; omega⟩
    simp only [watershedlaw07_light.l2]
    rw [if_pos hi, if_pos hil, hx, hp, if_neg (by simp), hw]
  | cons y ys ih =>
    intro pre hp v h0 h1
    have hy : y.size ≤ 281474976710656 := hs.e y (by rw [hp]; simp)
    have hlb := hs.b
    have hlm := len_mid pre y ys
    rw [hp] at hlb
    by_cases hv : v ≤ 20000
    · obtain ⟨r, hr, hr2⟩ := ih (pre ++ [y]) (by simp [hp]) (v + y.size) (by omega) (by omega)
      refine ⟨r, Ev.step (f := fun k => watershedlaw07_light.l2 k xs (v + y.size) i ((pre ++ [y]).length : Int)) (fun k => ?_) hr, fun e => ?_⟩
      · simp only [watershedlaw07_light.l2]
        rw [if_pos hi, if_pos hil, hx, hp, if_pos (by omega), if_pos hv, if_pos (by omega), rdOf_mid, w64 (by omega) (by omega), w64 (by omega) (by omega), snoc_len]
      · have := hr2 e
        simp only [sumS, List.map_cons, List.sum_cons] at this ⊢
        omega
    · obtain ⟨r, hr, hr2⟩ := hnext v h0 (by omega)
      refine ⟨r, Ev.step (f := fun k => watershedlaw07_light.l0 k xs v (i + 1)) (fun k => ?_) hr, fun e => by have := hr2 e; omega⟩
      simp only [watershedlaw07_light.l2]
      rw [if_pos hi, if_pos hil, hx, hp, if_pos (by omega), if_neg hv, hw]
theorem light_l1 (xs : List S28) (x : S28) (i : Int) (hi : 0 ≤ i) (hil : i < (xs.length : Int)) (hx : rd_T28 xs i = x) (hs : Small x) (hlen : (xs.length : Int) ≤ 300) (R : Int)
    (hnext : ∀ v : Int, 0 ≤ v → v ≤ 1152921504606846976 → ∃ r, Ev (fun k => watershedlaw07_light.l0 k xs v (i + 1)) r ∧ (r = true → v + R ≤ 20000)) (hR : 0 ≤ R) :
    ∀ (suf pre : List (List Int)), x.f4 = pre ++ suf → ∀ v : Int, 0 ≤ v → v ≤ 288230376151711744 → ∃ r, Ev (fun k => watershedlaw07_light.l1 k xs v i (pre.length : Int)) r ∧ (r = true → v + sumL suf + sumS x.f2 + R ≤ 20000) := by
  intro suf
  induction suf with
  | nil =>
    intro pre hp v h0 h1
    obtain ⟨r, hr, hr2⟩ := light_l2 xs x i hi hil hx hs hlen R hnext hR x.f2 [] rfl v h0 (by omega)
    refine ⟨r, Ev.step (f := fun k => watershedlaw07_light.j3 k xs v i) (fun k => ?_) (Ev.step (f := fun k => watershedlaw07_light.l2 k xs v i 0) (fun k => by simp only [watershedlaw07_light.j3]) hr), fun e => by have := hr2 e; simp [sumL]; omega⟩
    simp only [watershedlaw07_light.l1]
    rw [if_pos hi, if_pos hil, hx, hp, if_neg (by simp)]
  | cons y ys ih =>
    intro pre hp v h0 h1
    have hy : y.length ≤ 281474976710656 := hs.d y (by rw [hp]; simp)
    have hlb := hs.c
    have hlm := len_mid pre y ys
    rw [hp] at hlb
    by_cases hv : v ≤ 20000
    · obtain ⟨r, hr, hr2⟩ := ih (pre ++ [y]) (by simp [hp]) (v + y.length) (by omega) (by omega)
      refine ⟨r, Ev.step (f := fun k => watershedlaw07_light.l1 k xs (v + y.length) i ((pre ++ [y]).length : Int)) (fun k => ?_) hr, fun e => ?_⟩
      · simp only [watershedlaw07_light.l1]
        rw [if_pos hi, if_pos hil, hx, hp, if_pos (by omega), if_pos hv, if_pos (by omega), rdL1_mid, w64 (by omega) (by omega), w64 (by omega) (by omega), snoc_len]
      · have := hr2 e
        simp only [sumL, List.map_cons, List.sum_cons] at this ⊢
        omega
    · obtain ⟨r, hr, hr2⟩ := light_l2 xs x i hi hil hx hs hlen R hnext hR x.f2 [] rfl v h0 (by omega)
      refine ⟨r, Ev.step (f := fun k => watershedlaw07_light.j3 k xs v i) (fun k => ?_) (Ev.step (f := fun k => watershedlaw07_light.l2 k xs v i 0) (fun k => by simp only [watershedlaw07_light.j3]) hr), fun e => by have := hr2 e; omega⟩
      simp only [watershedlaw07_light.l1]
      rw [if_pos hi, if_pos hil, hx, hp, if_pos (by omega), if_neg hv]
theorem light_l0 : ∀ (suf pre : List S28), (∀ x ∈ suf, Small x) → ((pre ++ suf).length : Int) ≤ 300 → ∀ v : Int, 0 ≤ v → v ≤ 1152921504606846976 → ∃ r, Ev (fun k => watershedlaw07_light.l0 k (pre ++ suf) v (pre.length : Int)) r ∧ (r = true → v + wl suf ≤ 20000) := by
  intro suf
  induction suf with
  | nil =>
    intro pre _ hl v h0 h1
    refine ⟨decide (v ≤ 20000), Ev.step (f := fun k => watershedlaw07_light.j1 k (pre ++ []) v (pre.length : Int) false) (fun k => ?_) (Ev.step (f := fun _ => some (decide (v ≤ 20000))) (fun k => ?_) (Ev.now _)), fun e => by simp [wl]; simpa using e⟩
    · simp only [watershedlaw07_light.l0]
      rw [if_neg (by simp)]
    · simp only [watershedlaw07_light.j1]
      rw [if_neg (by simp)]
  | cons x xs ih =>
    intro pre hs hl v h0 h1
    have hsx := hs x (by simp)
    have hlm := len_mid pre x xs
    have hrd := rd28_mid pre x xs
    by_cases hv : v ≤ 20000
    · have hnext : ∀ v : Int, 0 ≤ v → v ≤ 1152921504606846976 → ∃ r, Ev (fun k => watershedlaw07_light.l0 k (pre ++ x :: xs) v ((pre.length : Int) + 1)) r ∧ (r = true → v + (wl xs : Int) ≤ 20000) := by
        intro v h0 h1
        obtain ⟨r, hr, hr2⟩ := ih (pre ++ [x]) (fun y hy => hs y (by simp [hy])) (by simpa using hl) v h0 h1
        rw [snoc_len] at hr
        exact ⟨r, by simpa using hr, hr2⟩
      have ha := hsx.a
      have hb := hsx.b
      have hc := hsx.c
      obtain ⟨r, hr, hr2⟩ := light_l1 (pre ++ x :: xs) x (pre.length : Int) (by omega) (by omega) hrd hsx hl (wl xs : Int) hnext (by omega) x.f4 [] rfl (v + x.f1.size + x.f2.length + x.f4.length) (by omega) (by omega)
      refine ⟨r, Ev.step (f := fun k => watershedlaw07_light.j1 k (pre ++ x :: xs) v (pre.length : Int) (decide (v ≤ 20000))) (fun k => ?_) (Ev.step (f := fun k => watershedlaw07_light.l1 k (pre ++ x :: xs) (v + x.f1.size + x.f2.length + x.f4.length) (pre.length : Int) 0) (fun k => ?_) hr), fun e => ?_⟩
      · simp only [watershedlaw07_light.l0]
        rw [if_pos (by omega)]
      · simp only [watershedlaw07_light.j1]
        rw [if_pos (decide_eq_true hv), if_pos (by omega), if_pos (by omega), hrd, w64 (i := v + (x.f1.size : Int)) (by omega) (by omega), w64 (i := v + (x.f1.size : Int) + (x.f2.length : Int)) (by omega) (by omega), w64 (i := v + (x.f1.size : Int) + (x.f2.length : Int) + (x.f4.length : Int)) (by omega) (by omega)]
      · have := hr2 e
        simp only [wl, List.map_cons, List.sum_cons, wd] at this ⊢
        omega
    · refine ⟨false, Ev.step (f := fun k => watershedlaw07_light.j1 k (pre ++ x :: xs) v (pre.length : Int) (decide (v ≤ 20000))) (fun k => ?_) (Ev.step (f := fun _ => some (decide (v ≤ 20000))) (fun k => ?_) (by rw [decide_eq_false hv]; exact Ev.now _)), fun e => by cases e⟩
      · simp only [watershedlaw07_light.l0]
        rw [if_pos (by omega)]
      · simp only [watershedlaw07_light.j1]
        rw [if_neg (by simpa using hv)]
theorem light_f (l : List S28) (hs : ∀ x ∈ l, Small x) : ∃ r, Ev (fun k => watershedlaw07_light.f k l) r ∧ (r = true → l.length ≤ 300 ∧ wl l ≤ 20000) := by
  unfold watershedlaw07_light.f
  by_cases h : (l.length : Int) > 300
  · exact ⟨false, by simp only [if_pos h]; exact Ev.now _, fun e => by cases e⟩
  · obtain ⟨r, hr, hr2⟩ := light_l0 l [] hs (by simpa using h) 0 (by omega) (by omega)
    exact ⟨r, by simp only [if_neg h]; exact hr, fun e => ⟨by omega, by have := hr2 e; omega⟩⟩
/-- light. -/
theorem light (A : Option Addr) (c : Nat) (l : List S28) (w : World) (h : Kd.C k28 w A l.length l) (hc : l.length ≤ c) (hs : ∀ x ∈ l, Small x) :
    ∃ r : Bool, (r = true → l.length ≤ 300 ∧ wl l ≤ 20000) ∧ Calls Try.prog 8 #[.slice A l.length c] w fun e w' => e = .returned (.bool r) ∧ Below w.heap.size w w' := by
  obtain ⟨r, hr, hr2⟩ := light_f l hs
  obtain ⟨k, hk⟩ := hr.rounds
  refine ⟨r, hr2, (watershedlaw07_light.calls k A c l r w h hc hk).mono ?_⟩
  rintro e w' ⟨rfl, hd⟩
  exact ⟨rfl, hd.below⟩
end Go.Proofs.Ytaeamdhkdiblmaa.Dk
set_option linter.unusedSimpArgs false
set_option linter.unusedVariables false
namespace Go.Proofs.Ytaeamdhkdiblmaa.Dk
open Go.RowKit Go.Proofs.YtaeamdhkdiblmaaW.PrintWords Go.Proofs.YtaeamdhkdiblmaaW.PrintLast Go.Proofs.YtaeamdhkdiblmaaW.PrintMore
set_option maxHeartbeats 8000000
set_option maxRecDepth 100000
def DS.empty (n : Int) : DS := ⟨[], fun _ => [], [], n⟩
/-- disk.New. -/
theorem newD (n : Int) (w : World) : Calls Try.prog 9 #[.int .i64 n] w fun e w' => e = .returned (ptr (w.heap.size + 1)) ∧ IsDisk w' (fun k => k = w.heap.size ∨ k = w.heap.size + 1) (w.heap.size + 1) (DS.empty n) ∧ Below w.heap.size w w' := by
  refine (new n w).mono ?_
  rintro e w' ⟨rfl, hh, hf, hb⟩
  have hl := blk_lt hh
  refine ⟨rfl, ⟨⟨List.nodup_nil, fun x hx => absurd hx (by simp [DS.empty]), fun x hx => absurd hx (by simp [DS.empty]), fun f hf => absurd hf (by simp [DS.ids, DS.empty]), by simp [DS.total, DS.ids, DS.empty, lenSum, room]⟩, fun k hk => by omega, .inr rfl, ⟨_, _, hh, hf, .inl rfl, .inl ⟨rfl, rfl⟩⟩, fun f hf => absurd hf (by simp [DS.ids, DS.empty]), fun f hf => absurd hf (by simp [DS.ids, DS.empty])⟩, hb⟩
/-- Rows that were built. -/
theorem bytesC {W : World} {g t : Nat} {cs : Array Value} {xs : List Int} (h : W.heap[g]? = some (.cells cs t (0, 0))) (hc : ∀ (j : Nat) (x : Int), xs[j]? = some x → cs[j]? = some (Value.int .u8 x)) (hl : xs.length ≤ 9223372036854775807) : BK.C W (some ⟨g, 0, none⟩) xs.length xs := by
  refine ⟨rfl, hl, fun _ => ⟨_, rfl, fun j x hj => ⟨[.int .u8 x], rfl, rfl, fun i u hu => ?_⟩⟩⟩
  cases i with
  | zero =>
    cases hu
    rw [add0]
    refine (blk_cell h _).trans ?_
    have := hc j x hj
    simpa [BK, Kd.int, Kd.scalar] using this
  | succ i => simp at hu
theorem rowsC {W : World} {g t : Nat} {cs : Array Value} {ls : List (List Int)} (h : W.heap[g]? = some (.cells cs t (0, 0))) (hc : ∀ (j : Nat) (xs : List Int), ls[j]? = some xs → ∃ A c, cs[j]? = some (Value.slice A xs.length c) ∧ xs.length ≤ c ∧ BK.C W A xs.length xs) (hl : ls.length ≤ 9223372036854775807) : RowsK.C W (some ⟨g, 0, none⟩) ls.length ls := by
  refine ⟨rfl, hl, fun _ => ⟨_, rfl, fun j xs hj => ?_⟩⟩
  obtain ⟨A, c, h1, h2, h3⟩ := hc j xs hj
  refine ⟨[.slice A xs.length c], rfl, ⟨A, c, rfl, h2, h3⟩, fun i u hu => ?_⟩
  cases i with
  | zero =>
    cases hu
    rw [add0]
    refine (blk_cell h _).trans ?_
    simpa [RowsK, Kd.slice] using h1
  | succ i => simp at hu
theorem oneRow {W : World} {g t c : Nat} {A : Option Addr} {xs : List Int} (h : W.heap[g]? = some (.cells #[.slice A xs.length c] t (0, 0))) (hc : xs.length ≤ c) (hx : BK.C W A xs.length xs) : RowsK.C W (some ⟨g, 0, none⟩) 1 [xs] :=
  rowsC (ls := [xs]) h (fun j ys hj => by
    cases j with
    | zero => cases hj; exact ⟨A, c, rfl, hc, hx⟩
    | succ j => simp at hj) (by simp)
theorem strC_move {w W : World} {A : Option Addr} {n : Nat} {l : List ByteArray} (h : Kd.string.C w A n l) (hs : ∀ ad, A = some ad → W.heap[ad.block]? = w.heap[ad.block]?) : Kd.string.C W A n l := by
  obtain ⟨h1, h2, h3⟩ := h
  refine ⟨h1, h2, fun hn => ?_⟩
  obtain ⟨ad, e, hc⟩ := h3 hn
  refine ⟨ad, e, fun j x hj => ?_⟩
  obtain ⟨cs, hl, hk, hcell⟩ := hc j x hj
  refine ⟨cs, hl, hk, fun i u hu => ?_⟩
  have hb : ∀ (a : Addr) (m : Nat), (a.add m).block = a.block := fun a m => by unfold Addr.add; split <;> rfl
  rw [World.cell?_of_block (w := w) (by rw [hb]; exact hs ad e)]
  exact hcell i u hu
theorem oneStr {W : World} {g t : Nat} {x : ByteArray} (h : W.heap[g]? = some (.cells #[.string x] t (0, 0))) : Kd.string.C W (some ⟨g, 0, none⟩) 1 [x] := by
  refine ⟨rfl, by simp, fun _ => ⟨_, rfl, fun j y hj => ⟨[.string y], rfl, rfl, fun i u hu => ?_⟩⟩⟩
  cases j with
  | zero =>
    cases hj
    cases i with
    | zero =>
      cases hu
      rw [add0]
      exact (blk_cell h _).trans rfl
    | succ i => simp at hu
  | succ j => simp at hj
/-- A disk that the law itself has made, since w0. -/
def Own (w0 W : World) (p : Nat) (d : DS) : Prop := (∃ F, IsDisk W F p d ∧ ∀ k, F k → w0.heap.size ≤ k) ∧ Below w0.heap.size w0 W
theorem Own.below {w0 W W' : World} {p : Nat} {d : DS} (h : Own w0 W p d) (hb : Below W.heap.size W W') : Own w0 W' p d := by
  obtain ⟨⟨F, hd, hF⟩, h0⟩ := h
  exact ⟨⟨F, hd.below hb, hF⟩, below_tr h0 hb⟩
theorem Own.base {w0 W : World} {p : Nat} {d : DS} (h : Own w0 W p d) : Below w0.heap.size w0 W := h.2
theorem Own.ch {w0 W W' : World} {F : Nat → Prop} (h0 : Below w0.heap.size w0 W) (hF : ∀ k, F k → w0.heap.size ≤ k) (hc : Ch F W W') : Below w0.heap.size w0 W' :=
  ((Ch.of (F := F) h0).trans hc (fun k hk => .inl hk)).below hF (Nat.le_refl _)
theorem newO (n : Int) (w0 W : World) (h0 : Below w0.heap.size w0 W) : Calls Try.prog 9 #[.int .i64 n] W fun e w' => ∃ p, e = .returned (ptr p) ∧ Own w0 w' p (DS.empty n) := by
  refine (newD n W).mono ?_
  rintro e w' ⟨rfl, hd, hb⟩
  exact ⟨_, rfl, ⟨_, hd, fun k hk => by have := h0.size; omega⟩, below_tr h0 hb⟩
theorem Own.ok {w0 W : World} {p : Nat} {d : DS} (h : Own w0 W p d) : d.Ok := by
  obtain ⟨⟨F, hd, hF⟩, h0⟩ := h
  exact hd.ok
theorem appendO {w0 W : World} {p : Nat} {d : DS} (h : Own w0 W p d) (x : ByteArray) (hx : x.size ≤ 9223372036854775807) (A0 : Option Addr) (c0 : Nat) (ls : List (List Int)) (hsz : d.size ≤ 9223372036854775807)
    (hls : RowsK.C W A0 ls.length ls) (hroom : d.total + ls.flatten.length + d.files.length + 1 ≤ room) :
    Calls Try.prog 10 #[ptr p, .string x, .slice A0 ls.length c0] W fun e w' =>
      (e = .returned (.int .i64 2) ∧ rightN x.data.toList = false ∧ Own w0 w' p d) ∨
       (e = .returned (.int .i64 8) ∧ rightN x.data.toList = true ∧ d.fits ls.flatten.length = false ∧ Own w0 w' p d) ∨
       (e = .returned (.int .i64 0) ∧ rightN x.data.toList = true ∧ d.fits ls.flatten.length = true ∧ ∃ f, (findF d.files x.data.toList = some f ∨ (findF d.files x.data.toList = none ∧ f ∉ d.ids)) ∧ Own w0 w' p ((d.put x.data.toList f).more f ls.flatten)) := by
  obtain ⟨⟨F, hd, hF⟩, h0⟩ := h
  refine (append F p d x hx A0 c0 ls W hd hsz hls hroom).mono ?_
  rintro e w' ⟨hc, h⟩
  have hb := Own.ch h0 hF hc
  have hG : ∀ k, Grown F W w' k → w0.heap.size ≤ k := fun k hk => hk.elim (hF k) (fun e => by have := h0.size; omega)
  rcases h with ⟨rfl, h1, h2⟩ | ⟨rfl, h1, h2, h3⟩ | ⟨rfl, h1, h2, f, h3, h4⟩
  · exact .inl ⟨rfl, h1, ⟨_, h2, hG⟩, hb⟩
  · exact .inr (.inl ⟨rfl, h1, h2, ⟨_, h3, hG⟩, hb⟩)
  · refine .inr (.inr ⟨rfl, h1, h2, f, ?_, ⟨_, h4, hG⟩, hb⟩)
    rcases h3 with h3 | ⟨h3, h5⟩
    · exact .inl h3
    · exact .inr ⟨h3, fun hi => by have := hd.low _ (hd.file _ hi).1; omega⟩
theorem readO {w0 W : World} {p : Nat} {d : DS} (h : Own w0 W p d) (x : ByteArray) (hx : x.size ≤ 9223372036854775807) :
    Calls Try.prog 12 #[ptr p, .string x] W fun e w' => Below W.heap.size W w' ∧ Own w0 w' p d ∧ match findF d.files x.data.toList with
      | none => e = .returned (.tuple #[.slice none 0 0, .bool false])
      | some f => ∃ v, e = .returned (.tuple #[v, .bool true]) ∧ BK.R 5 w' W.heap.size (fun _ => True) v (d.bytes f) := by
  obtain ⟨⟨F, hd, hF⟩, h0⟩ := h
  refine (read F p d x hx W hd).mono ?_
  rintro e w' ⟨hb, h⟩
  exact ⟨hb, ⟨⟨F, hd.below hb, hF⟩, below_tr h0 hb⟩, h⟩
theorem waitsO {w0 W : World} {p : Nat} {d : DS} (h : Own w0 W p d) :
    Calls Try.prog 14 #[ptr p] W fun e w' => e = .returned (.int .i64 (sumP d.pieces)) ∧ Below W.heap.size W w' ∧ Own w0 w' p d := by
  have h' := h
  obtain ⟨⟨F, hd, hF⟩, h0⟩ := h
  obtain ⟨v, m, hh, _, _, hp⟩ := hd.core
  have h1 := hd.ok.sum
  have h2 := hd.ok.few
  simp only [room] at h2
  refine (waitsD p m v d.size F d.pieces W hh hp (fun x hx => Int.le_of_lt (hd.ok.pos x hx)) (by omega)).mono ?_
  rintro e w' ⟨rfl, hb⟩
  exact ⟨rfl, hb, h'.below hb⟩
theorem crashO {w0 W : World} {p : Nat} {d : DS} (h : Own w0 W p d) (keep : Int) (hk : keep ≤ 9223372036854775807) :
    Calls Try.prog 15 #[ptr p, .int .i64 keep] W fun e w' => e = .returned (.tuple #[]) ∧ Own w0 w' p (d.crash keep) := by
  obtain ⟨⟨F, hd, hF⟩, h0⟩ := h
  refine (crash F p d keep hk W hd).mono ?_
  rintro e w' ⟨rfl, hd2, hc⟩
  exact ⟨rfl, ⟨F, hd2, hF⟩, Own.ch h0 hF hc⟩
/-- Sync of names that came in, or were built just now (since W1). -/
theorem syncO {w0 W1 W : World} {p : Nat} {d : DS} (h : Own w0 W1 p d) (hb : Below W1.heap.size W1 W) (A : Option Addr) (c : Nat) (names : List ByteArray) (hsz : ∀ x ∈ names, x.size ≤ 9223372036854775807)
    (hN : Kd.string.C W A names.length names) (hA : ∀ ad, A = some ad → ad.block < W.heap.size ∧ (ad.block < w0.heap.size ∨ W1.heap.size ≤ ad.block)) :
    Calls Try.prog 11 #[ptr p, .slice A names.length c] W fun e w' => e = .returned (.int .i64 (syncF names d).1) ∧ Own w0 w' p (syncF names d).2 := by
  obtain ⟨⟨F, hd, hF⟩, h0⟩ := h
  refine (sync F p d A c names hsz W (hd.below hb) hN (fun W' hc => strC_move hN (fun ad e => hc.block _ (hA ad e).1 (fun hk => ?_)))).mono ?_
  · have h1 := hF _ hk
    have h2 := hd.low _ hk
    rcases (hA ad e).2 with h3 | h3 <;> omega
  · rintro e w' ⟨rfl, hd2, hc⟩
    exact ⟨rfl, ⟨F, hd2, hF⟩, Own.ch (below_tr h0 hb) hF hc⟩
end Go.Proofs.Ytaeamdhkdiblmaa.Dk
set_option linter.unusedSimpArgs false
set_option linter.unusedVariables false
namespace Go.Proofs.Ytaeamdhkdiblmaa.Dk
open Go.RowKit Go.Proofs.YtaeamdhkdiblmaaW.PrintWords Go.Proofs.YtaeamdhkdiblmaaW.PrintLast Go.Proofs.YtaeamdhkdiblmaaW.PrintMore
set_option maxHeartbeats 8000000
set_option maxRecDepth 100000
/-! awake -/
theorem lit1 (W : World) (a : Int) : RowsK.C ((W.alloc (.cells #[.int .u8 a] 5)).alloc (.cells #[.slice (some ⟨W.heap.size, 0, none⟩) 1 1] 32)) (some ⟨W.heap.size + 1, 0, none⟩) 1 [[a]] := by
  have h1 := blk_alloc (blk_new W (.cells #[.int .u8 a] 5)) (.cells #[.slice (some ⟨W.heap.size, 0, none⟩) 1 1] 32)
  have h2 := blk_new (W.alloc (.cells #[.int .u8 a] 5)) (.cells #[.slice (some ⟨W.heap.size, 0, none⟩) 1 1] 32)
  rw [World.size_alloc] at h2
  exact oneRow (xs := [a]) h2 (Nat.le_refl _) (bytesC (xs := [a]) h1 (fun j x hj => by
    cases j with
    | zero => cases hj; rfl
    | succ j => simp at hj) (by simp))
theorem lit2 (W : World) (a b : Int) : RowsK.C (((W.alloc (.cells #[.int .u8 a] 5)).alloc (.cells #[.int .u8 b] 5)).alloc (.cells #[.slice (some ⟨W.heap.size, 0, none⟩) 1 1, .slice (some ⟨W.heap.size + 1, 0, none⟩) 1 1] 32)) (some ⟨W.heap.size + 1 + 1, 0, none⟩) 2 [[a], [b]] := by
  have h1 := blk_alloc (blk_alloc (blk_new W (.cells #[.int .u8 a] 5)) (.cells #[.int .u8 b] 5)) (.cells #[.slice (some ⟨W.heap.size, 0, none⟩) 1 1, .slice (some ⟨W.heap.size + 1, 0, none⟩) 1 1] 32)
  have h2 := blk_alloc (blk_new (W.alloc (.cells #[.int .u8 a] 5)) (.cells #[.int .u8 b] 5)) (.cells #[.slice (some ⟨W.heap.size, 0, none⟩) 1 1, .slice (some ⟨W.heap.size + 1, 0, none⟩) 1 1] 32)
  have h3 := blk_new ((W.alloc (.cells #[.int .u8 a] 5)).alloc (.cells #[.int .u8 b] 5)) (.cells #[.slice (some ⟨W.heap.size, 0, none⟩) 1 1, .slice (some ⟨W.heap.size + 1, 0, none⟩) 1 1] 32)
  rw [World.size_alloc] at h2
  rw [World.size_alloc, World.size_alloc] at h3
  have e : ∀ (z : Int) (j : Nat) (x : Int), [z][j]? = some x → (#[Value.int .u8 z])[j]? = some (Value.int .u8 x) := fun z j x hj => by
    cases j with
    | zero => cases hj; rfl
    | succ j => simp at hj
  refine rowsC (ls := [[a], [b]]) h3 (fun j xs hj => ?_) (by simp)
  match j, hj with
  | 0, hj => cases hj; exact ⟨_, _, rfl, Nat.le_refl _, bytesC (xs := [a]) h1 (e a) (by simp)⟩
  | 1, hj => cases hj; exact ⟨_, _, rfl, Nat.le_refl _, bytesC (xs := [b]) h2 (e b) (by simp)⟩
  | j + 2, hj => simp at hj
theorem below2 (W : World) (o o' : Obj) : Below W.heap.size W ((W.alloc o).alloc o') := below_alloc (below_alloc (Below.refl _ _) _) _
theorem below3 (W : World) (o o' o'' : Obj) : Below W.heap.size W (((W.alloc o).alloc o').alloc o'') := below_alloc (below2 W o o') _
def dA (f1 : Nat) : DS := ((DS.empty 4).put [97] f1).more f1 [1, 2]
def dB (f1 f2 : Nat) : DS := ((dA f1).put [98] f2).more f2 [3]
def dC (f1 f2 : Nat) : DS := ((dB f1 f2).put [97] f1).more f1 [4]
theorem dA_eq (f1 : Nat) : (dA f1).files = [([97], f1)] ∧ (dA f1).pieces = [(f1, 2)] ∧ (dA f1).size = 4 ∧ (dA f1).bytes f1 = [1, 2] := by
  refine ⟨rfl, rfl, rfl, ?_⟩
  simp [dA, DS.put, DS.empty, findF, DS.more, DS.add, upd]
theorem dB_eq (f1 f2 : Nat) (h : f2 ≠ f1) : (dB f1 f2).files = [([97], f1), ([98], f2)] ∧ (dB f1 f2).pieces = [(f1, 2), (f2, 1)] ∧ (dB f1 f2).size = 4 ∧ (dB f1 f2).bytes f1 = [1, 2] ∧ (dB f1 f2).bytes f2 = [3] := by
  obtain ⟨h1, h2, h3, h4⟩ := dA_eq f1
  have hf : findF (dA f1).files [98] = none := by rw [h1]; rfl
  unfold dB DS.put
  rw [hf]
  refine ⟨?_, ?_, h3, ?_, ?_⟩
  · show insF ([98], f2) (dA f1).files = _
    rw [h1]; rfl
  · show (dA f1).pieces ++ [(f2, _)] = _
    rw [h2]; rfl
  · simp [DS.more, DS.add, upd, Ne.symm h, h4]
  · simp [DS.more, DS.add, upd]
theorem dC_eq (f1 f2 : Nat) (h : f2 ≠ f1) : (dC f1 f2).files = [([97], f1), ([98], f2)] ∧ (dC f1 f2).pieces = [(f1, 2), (f2, 1), (f1, 1)] ∧ (dC f1 f2).size = 4 ∧ (dC f1 f2).bytes f1 = [1, 2, 4] ∧ (dC f1 f2).bytes f2 = [3] := by
  obtain ⟨h1, h2, h3, h4, h5⟩ := dB_eq f1 f2 h
  have hf : findF (dB f1 f2).files [97] = some f1 := by rw [h1]; rfl
  unfold dC DS.put
  rw [hf]
  refine ⟨h1, ?_, h3, ?_, ?_⟩
  · show (dB f1 f2).pieces ++ [(f1, _)] = _
    rw [h2]; rfl
  · simp [DS.more, upd, h4]
  · simp [DS.more, upd, h, h5]
theorem dD_eq (f1 f2 : Nat) (h : f2 ≠ f1) : ((dC f1 f2).crash 2).files = [([97], f1), ([98], f2)] ∧ ((dC f1 f2).crash 2).pieces = [] ∧ ((dC f1 f2).crash 2).bytes f1 = [1, 2] ∧ ((dC f1 f2).crash 2).bytes f2 = [] := by
  obtain ⟨h1, h2, h3, h4, h5⟩ := dC_eq f1 f2 h
  have e1 : shortP f1 1 [(f1, 2), (f2, 1), (f1, 1)] = [(f1, 2), (f2, 1)] := by simp [shortP, cutRev, keepP, mn_eq, cutRev_zero, h]
  have e2 : (dC f1 f2).crash 2 = { ((dC f1 f2).short f1 1).short f2 1 with pieces := [] } := by
    unfold DS.crash
    have hs : sumP (dC f1 f2).pieces - max 2 0 = 2 := by rw [h2]; rfl
    rw [hs]
    have hl : (dC f1 f2).pieces.getLast? = some (f1, 1) := by rw [h2]; rfl
    have hl2 : ((dC f1 f2).short f1 1).pieces.getLast? = some (f2, 1) := by
      show (shortP f1 1 (dC f1 f2).pieces).getLast? = _
      rw [h2, e1]; rfl
    show { crashL 2 2 (dC f1 f2) with pieces := [] } = _
    have hm1 : mn 2 1 = 1 := rfl
    have hm2 : mn (2 - 1) 1 = 1 := rfl
    have c1 : crashL 2 2 (dC f1 f2) = crashL 1 (2 - 1) ((dC f1 f2).short f1 1) := by
      rw [crashL, if_pos (by decide), hl]
      rfl
    have c2 : crashL 1 (2 - 1) ((dC f1 f2).short f1 1) = ((dC f1 f2).short f1 1).short f2 1 := by
      rw [crashL, if_pos (by decide), hl2]
      rfl
    rw [c1, c2]
  rw [e2]
  refine ⟨h1, rfl, ?_, ?_⟩
  · simp [DS.short, upd, h, Ne.symm h, h4]
  · simp [DS.short, upd, h, Ne.symm h, h5]
theorem totA (f1 : Nat) : (dA f1).total = 2 ∧ (dA f1).files.length = 1 := by
  obtain ⟨h1, h2, h3, h4⟩ := dA_eq f1
  exact ⟨by unfold DS.total lenSum DS.ids; rw [h1]; simp [h4], by rw [h1]; rfl⟩
theorem totB (f1 f2 : Nat) (h : f2 ≠ f1) : (dB f1 f2).total = 3 ∧ (dB f1 f2).files.length = 2 := by
  obtain ⟨h1, h2, h3, h4, h5⟩ := dB_eq f1 f2 h
  exact ⟨by unfold DS.total lenSum DS.ids; rw [h1]; simp [h4, h5], by rw [h1]; rfl⟩
theorem totC (f1 f2 : Nat) (h : f2 ≠ f1) : (dC f1 f2).total = 4 ∧ (dC f1 f2).files.length = 2 := by
  obtain ⟨h1, h2, h3, h4, h5⟩ := dC_eq f1 f2 h
  exact ⟨by unfold DS.total lenSum DS.ids; rw [h1]; simp [h4, h5], by rw [h1]; rfl⟩
theorem awA {w0 W : World} {p : Nat} (h : Own w0 W p (DS.empty 4)) : Calls Try.prog 10 #[ptr p, .string ⟨#[97]⟩, .slice (some ⟨W.heap.size + 1 + 1, 0, none⟩) 2 2] (((W.alloc (.cells #[.int .u8 1] 5)).alloc (.cells #[.int .u8 2] 5)).alloc (.cells #[.slice (some ⟨W.heap.size, 0, none⟩) 1 1, .slice (some ⟨W.heap.size + 1, 0, none⟩) 1 1] 32)) fun e w' => e = .returned (.int .i64 0) ∧ ∃ f1, Own w0 w' p (dA f1) := by
  refine (appendO (h.below (below3 W _ _ _)) ⟨#[97]⟩ (by decide) _ 2 [[1], [2]] (by simp [DS.empty]) (lit2 W 1 2) (by decide)).mono ?_
  rintro e w' (⟨_, h1, _⟩ | ⟨_, _, h1, _⟩ | ⟨rfl, _, _, f, _, h2⟩)
  · exact absurd h1 (by decide)
  · exact absurd h1 (by decide)
  · exact ⟨rfl, f, h2⟩
theorem awB {w0 W : World} {p f1 : Nat} (h : Own w0 W p (dA f1)) : Calls Try.prog 10 #[ptr p, .string ⟨#[98]⟩, .slice (some ⟨W.heap.size + 1, 0, none⟩) 1 1] ((W.alloc (.cells #[.int .u8 3] 5)).alloc (.cells #[.slice (some ⟨W.heap.size, 0, none⟩) 1 1] 32)) fun e w' => e = .returned (.int .i64 0) ∧ ∃ f2, f2 ≠ f1 ∧ Own w0 w' p (dB f1 f2) := by
  obtain ⟨h1, h2, h3, h4⟩ := dA_eq f1
  obtain ⟨t1, t2⟩ := totA f1
  refine (appendO (h.below (below2 W _ _)) ⟨#[98]⟩ (by decide) _ 1 [[3]] (by rw [h3]; decide) (lit1 W 3) (by rw [t1, t2]; decide)).mono ?_
  rintro e w' (⟨_, g1, _⟩ | ⟨_, _, g1, _⟩ | ⟨rfl, _, _, f, g1, g2⟩)
  · exact absurd g1 (by decide)
  · unfold DS.fits at g1; rw [h3, t1] at g1; exact absurd g1 (by decide)
  · rw [h1] at g1
    rcases g1 with g1 | ⟨_, g1⟩
    · exact absurd g1 (by simp [findF])
    · exact ⟨rfl, f, by simpa [DS.ids, h1] using g1, g2⟩
theorem awC {w0 W : World} {p f1 f2 : Nat} (hne : f2 ≠ f1) (h : Own w0 W p (dB f1 f2)) : Calls Try.prog 10 #[ptr p, .string ⟨#[97]⟩, .slice (some ⟨W.heap.size + 1, 0, none⟩) 1 1] ((W.alloc (.cells #[.int .u8 4] 5)).alloc (.cells #[.slice (some ⟨W.heap.size, 0, none⟩) 1 1] 32)) fun e w' => e = .returned (.int .i64 0) ∧ Own w0 w' p (dC f1 f2) := by
  obtain ⟨h1, h2, h3, h4⟩ := dB_eq f1 f2 hne
  obtain ⟨t1, t2⟩ := totB f1 f2 hne
  refine (appendO (h.below (below2 W _ _)) ⟨#[97]⟩ (by decide) _ 1 [[4]] (by rw [h3]; decide) (lit1 W 4) (by rw [t1, t2]; decide)).mono ?_
  rintro e w' (⟨_, g1, _⟩ | ⟨_, _, g1, _⟩ | ⟨rfl, _, _, f, g1, g2⟩)
  · exact absurd g1 (by decide)
  · unfold DS.fits at g1; rw [h3, t1] at g1; exact absurd g1 (by decide)
  · rw [h1] at g1
    have hf : findF [([97], f1), ([98], f2)] [97] = some f1 := rfl
    rcases g1 with g1 | ⟨g1, _⟩
    · rw [hf] at g1
      cases g1
      exact ⟨rfl, g2⟩
    · rw [hf] at g1; cases g1
theorem awD {w0 W : World} {p f1 f2 : Nat} (hne : f2 ≠ f1) (h : Own w0 W p (dC f1 f2)) : Calls Try.prog 10 #[ptr p, .string ⟨#[99]⟩, .slice (some ⟨W.heap.size + 1, 0, none⟩) 1 1] ((W.alloc (.cells #[.int .u8 5] 5)).alloc (.cells #[.slice (some ⟨W.heap.size, 0, none⟩) 1 1] 32)) fun e w' => e = .returned (.int .i64 8) ∧ Own w0 w' p (dC f1 f2) := by
  obtain ⟨h1, h2, h3, h4⟩ := dC_eq f1 f2 hne
  obtain ⟨t1, t2⟩ := totC f1 f2 hne
  refine (appendO (h.below (below2 W _ _)) ⟨#[99]⟩ (by decide) _ 1 [[5]] (by rw [h3]; decide) (lit1 W 5) (by rw [t1, t2]; decide)).mono ?_
  rintro e w' (⟨_, g1, _⟩ | ⟨rfl, _, g1, g2⟩ | ⟨_, _, g1, _⟩)
  · exact absurd g1 (by decide)
  · exact ⟨rfl, g2⟩
  · unfold DS.fits at g1; rw [h3, t1] at g1; exact absurd g1 (by decide)
theorem awRa {w0 W : World} {p f1 f2 : Nat} (hne : f2 ≠ f1) (h : Own w0 W p ((dC f1 f2).crash 2)) : Calls Try.prog 12 #[ptr p, .string ⟨#[97]⟩] W fun e w' => ∃ A c, e = .returned (.tuple #[.slice A 2 c, .bool true]) ∧ 2 ≤ c ∧ BK.C w' A 2 [1, 2] ∧ Own w0 w' p ((dC f1 f2).crash 2) := by
  obtain ⟨h1, h2, h3, h4⟩ := dD_eq f1 f2 hne
  refine (readO h ⟨#[97]⟩ (by decide)).mono ?_
  rintro e w' ⟨hb, ho, h⟩
  rw [h1] at h
  have hf : findF [([97], f1), ([98], f2)] [97] = some f1 := rfl
  simp only [hf] at h
  obtain ⟨v, rfl, hR⟩ := h
  rw [h3] at hR
  obtain ⟨A, c, rfl, hc, hC⟩ := Kd.R_reads hR
  exact ⟨A, c, rfl, hc, hC, ho⟩
theorem awRb {w0 W : World} {p f1 f2 : Nat} (hne : f2 ≠ f1) (h : Own w0 W p ((dC f1 f2).crash 2)) : Calls Try.prog 12 #[ptr p, .string ⟨#[98]⟩] W fun e w' => ∃ A c, e = .returned (.tuple #[.slice A 0 c, .bool true]) ∧ Below W.heap.size W w' ∧ Own w0 w' p ((dC f1 f2).crash 2) := by
  obtain ⟨h1, h2, h3, h4⟩ := dD_eq f1 f2 hne
  refine (readO h ⟨#[98]⟩ (by decide)).mono ?_
  rintro e w' ⟨hb, ho, h⟩
  rw [h1] at h
  have hf : findF [([97], f1), ([98], f2)] [98] = some f2 := rfl
  simp only [hf] at h
  obtain ⟨v, rfl, hR⟩ := h
  rw [h4] at hR
  obtain ⟨A, c, rfl, hc, hC⟩ := Kd.R_reads hR
  exact ⟨A, c, rfl, hb, ho⟩
theorem awW {w0 W : World} {p f1 f2 : Nat} (hne : f2 ≠ f1) (h : Own w0 W p ((dC f1 f2).crash 2)) : Calls Try.prog 14 #[ptr p] W fun e w' => e = .returned (.int .i64 0) ∧ Below w0.heap.size w0 w' := by
  obtain ⟨h1, h2, h3, h4⟩ := dD_eq f1 f2 hne
  refine (waitsO h).mono ?_
  rintro e w' ⟨rfl, hb, ho⟩
  rw [h2]
  exact ⟨rfl, ho.base⟩
theorem awS {W : World} {A : Option Addr} {c : Nat} (hc : 2 ≤ c) (h : BK.C W A 2 [1, 2]) : Calls Try.prog 13 #[.slice A 2 c, .slice (some ⟨W.heap.size, 0, none⟩) 2 2] (W.alloc (.cells #[.int .u8 1, .int .u8 2] 5)) fun e w' => e = .returned (.bool true) ∧ Below (W.alloc (.cells #[.int .u8 1, .int .u8 2] 5)).heap.size (W.alloc (.cells #[.int .u8 1, .int .u8 2] 5)) w' := by
  have h1 := blk_new W (.cells #[.int .u8 1, .int .u8 2] 5)
  refine (sameBytes A c [1, 2] _ 2 [1, 2] _ (Kd.C_below h (below_alloc (Below.refl _ _) _)) hc (bytesC (xs := [1, 2]) h1 (fun j x hj => ?_) (by simp)) (Nat.le_refl _) (by decide)).mono ?_
  · match j, hj with
    | 0, hj => cases hj; rfl
    | 1, hj => cases hj; rfl
    | j + 2, hj => simp at hj
  · rintro e w' ⟨rfl, hb⟩
    exact ⟨rfl, hb⟩
theorem awake (w : World) : Calls Try.prog 7 #[] w fun e w' => e = .returned (.bool true) ∧ Below w.heap.size w w' := by
  go_enter Try.func7, Try.ntmps7
  go_wp2_with (first
    | (go_at_call 9; (with_reducible refine (newO 4 w w (Below.refl _ _)).mono ?_); rintro e w1 ⟨p, rfl, hd⟩; have HD := Aside0.mk hd; clear hd)
    | (go_at_call 10; (with_reducible refine (awA HD.out).mono ?_); rintro e w2 ⟨rfl, f1, hd⟩; have HD2 := Aside0.mk hd; clear hd)
    | (go_at_call 10; (with_reducible refine (awB HD2.out).mono ?_); rintro e w3 ⟨rfl, f2, hne, hd⟩; have HNE := Aside0.mk hne; have HD3 := Aside0.mk hd; clear hd hne)
    | (go_at_call 10; (with_reducible refine (awC HNE.out HD3.out).mono ?_); rintro e w4 ⟨rfl, hd⟩; have HD4 := Aside0.mk hd; clear hd)
    | (go_at_call 10; (with_reducible refine (awD HNE.out HD4.out).mono ?_); rintro e w5 ⟨rfl, hd⟩; have HD5 := Aside0.mk hd; clear hd)
    | (go_at_call 15; (with_reducible refine (crashO HD5.out 2 (by decide)).mono ?_); rintro e w6 ⟨rfl, hd⟩; have HD6 := Aside0.mk hd; clear hd)
    | (go_at_call 12; (with_reducible refine (awRa HNE.out HD6.out).mono ?_); rintro e w7 ⟨Aa, ca, rfl, hca, hC, hd⟩; have HCA := Aside0.mk hca; have HC7 := Aside0.mk hC; have HD7 := Aside0.mk hd; clear hd hC hca)
    | (go_at_call 12; (with_reducible refine (awRb HNE.out HD7.out).mono ?_); rintro e w8 ⟨Ab, cb, rfl, hb, hd⟩; have HC8 := Aside0.mk (Kd.C_below HC7.out hb); have HD8 := Aside0.mk hd; clear hd hb)
    | (go_at_call 13; (with_reducible refine (awS HCA.out HC8.out).mono ?_); rintro e w9 ⟨rfl, hb⟩; have HD9 := Aside0.mk ((HD8.out.below (below_alloc (Below.refl _ _) _)).below hb); clear hb)
    | (go_at_call 14; (with_reducible refine (awW HNE.out HD9.out).mono ?_); rintro e w10 ⟨rfl, hb⟩; have HB := Aside0.mk hb; clear hb))
  go_ret
  exact ⟨rfl, HB.out⟩
end Go.Proofs.Ytaeamdhkdiblmaa.Dk
set_option linter.unusedSimpArgs false
set_option linter.unusedVariables false
namespace Go.Proofs.Ytaeamdhkdiblmaa.Dk
open Go.RowKit Go.Proofs.YtaeamdhkdiblmaaW.PrintWords Go.Proofs.YtaeamdhkdiblmaaW.PrintLast Go.Proofs.YtaeamdhkdiblmaaW.PrintMore
/-! What a crash takes from each file -/
/-- Of the pieces from the last one on, L bytes are lost: so many of file f. -/
def lostR : Int → List (Nat × Int) → Nat → Int
  | _, [], _ => 0
  | L, (b, m) :: r, f => if 0 < L then (if b = f then mn L m else 0) + lostR (L - mn L m) r f else 0
theorem lostR_none {L : Int} (h : L ≤ 0) (r : List (Nat × Int)) (f : Nat) : lostR L r f = 0 := by
  cases r with
  | nil => rfl
  | cons x r => obtain ⟨b, m⟩ := x; rw [lostR, if_neg (by omega)]
theorem lostR_bounds (f : Nat) : ∀ (r : List (Nat × Int)) (L : Int), (∀ x ∈ r, 0 < x.2) → 0 ≤ lostR L r f ∧ lostR L r f ≤ sumOf f r
  | [], L, _ => by
    have : sumOf f [] = 0 := rfl
    rw [lostR, this]; omega
  | (b, m) :: r, L, hp => by
    have hm : 0 < m := hp (b, m) List.mem_cons_self
    obtain ⟨h1, h2⟩ := lostR_bounds f r (L - mn L m) (fun x hx => hp x (List.mem_cons_of_mem _ hx))
    rw [lostR, sumOf_cons]
    have h3 : mn L m ≤ m := by rw [mn_eq]; split <;> omega
    have h4 : 0 < L → 0 < mn L m := fun h => by rw [mn_eq]; split <;> omega
    have h5 : 0 ≤ sumOf f r := sumP_nonneg _ (fun y hy => Int.le_of_lt (hp y (List.mem_cons_of_mem _ (List.mem_filter.1 hy).1)))
    by_cases hL : 0 < L
    · have := h4 hL
      rw [if_pos hL]
      by_cases e : b = f
      · rw [if_pos e, if_pos e]; omega
      · rw [if_neg e, if_neg e]; omega
    · rw [if_neg hL]
      by_cases e : b = f
      · rw [if_pos e]; omega
      · rw [if_neg e]; omega
theorem lostR_all {ids : List Nat} (hn : ids.Nodup) : ∀ (r : List (Nat × Int)) (L : Int), (∀ x ∈ r, 0 < x.2) → (∀ x ∈ r, x.1 ∈ ids) → 0 ≤ L → L ≤ sumP r → (ids.map (lostR L r)).sum = L
  | [], L, _, _, h0, h1 => by
    have h2 : sumP [] = 0 := rfl
    have h3 : (ids.map (lostR L [])) = ids.map fun _ => (0 : Int) := List.map_congr_left (fun _ _ => rfl)
    rw [h3]
    have h4 : ∀ l : List Nat, (l.map fun _ => (0 : Int)).sum = 0 := fun l => by induction l with
      | nil => rfl
      | cons a r ih => simpa using ih
    rw [h4]; omega
  | (b, m) :: r, L, hp, hi, h0, h1 => by
    have hm : 0 < m := hp (b, m) List.mem_cons_self
    have hr := fun x hx => hp x (List.mem_cons_of_mem (b, m) hx)
    have hs : sumP ((b, m) :: r) = m + sumP r := by simp [sumP]
    have hs0 := sumP_nonneg r (fun x hx => Int.le_of_lt (hr x hx))
    by_cases hL : 0 < L
    · have e1 : ids.map (lostR L ((b, m) :: r)) = ids.map fun g => (if b = g then mn L m else 0) + lostR (L - mn L m) r g := List.map_congr_left (fun g _ => by rw [lostR, if_pos hL])
      have h5 : L - mn L m ≤ sumP r ∧ 0 ≤ L - mn L m := by rw [mn_eq]; split <;> omega
      rw [e1, sum_pick hn (hi _ List.mem_cons_self), lostR_all hn r (L - mn L m) hr (fun x hx => hi x (List.mem_cons_of_mem _ hx)) h5.2 h5.1]
      omega
    · have h6 : L = 0 := by omega
      subst h6
      have e1 : ids.map (lostR 0 ((b, m) :: r)) = ids.map (lostR 0 []) := List.map_congr_left (fun g _ => by rw [lostR_none (Int.le_refl _), lostR_none (Int.le_refl _)])
      rw [e1]
      exact lostR_all hn [] 0 (fun x hx => absurd hx (by simp)) (fun x hx => absurd hx (by simp)) (Int.le_refl _) (Int.le_refl _)
theorem lostR_mono (f : Nat) : ∀ (r : List (Nat × Int)) (L L' : Int), (∀ x ∈ r, 0 < x.2) → L ≤ L' → lostR L r f ≤ lostR L' r f
  | [], L, L', _, _ => Int.le_refl _
  | (b, m) :: r, L, L', hp, h => by
    have hm : 0 < m := hp (b, m) List.mem_cons_self
    have hr := fun x hx => hp x (List.mem_cons_of_mem (b, m) hx)
    by_cases hL : 0 < L
    · have h3 : mn L m ≤ mn L' m := by rw [mn_eq, mn_eq]; split <;> split <;> omega
      have h4 : L - mn L m ≤ L' - mn L' m := by rw [mn_eq, mn_eq]; split <;> split <;> omega
      have := lostR_mono f r _ _ hr h4
      have hL' : 0 < L' := by omega
      have e1 : lostR L ((b, m) :: r) f = (if b = f then mn L m else 0) + lostR (L - mn L m) r f := by rw [lostR, if_pos hL]
      have e2 : lostR L' ((b, m) :: r) f = (if b = f then mn L' m else 0) + lostR (L' - mn L' m) r f := by rw [lostR, if_pos hL']
      rw [e1, e2]
      by_cases e : b = f
      · rw [if_pos e, if_pos e]; omega
      · rw [if_neg e, if_neg e]; omega
    · rw [lostR_none (by omega)]
      exact (lostR_bounds f ((b, m) :: r) L' hp).1
theorem cutRev_head {b : Nat} {m : Int} {q : Nat} (r : List (Nat × Int)) (hq : 0 < q) (hqm : (q : Int) ≤ m) : cutRev b q ((b, m) :: r) = (b, m - q) :: r := by
  have hm : mn (q : Int) m = q := by rw [mn_eq]; split <;> omega
  rw [cutRev, if_pos ⟨by omega, rfl⟩, hm, cutRev_zero b _ (by omega)]
theorem keep_pos {l : List (Nat × Int)} (h : ∀ x ∈ l, 0 < x.2) : keepP (fun x => x.2 == 0) l = l := by
  unfold keepP
  rw [List.filter_eq_self]
  intro x hx
  have := h x hx
  have hne : (x.2 == 0) = false := beq_false_of_ne (by omega)
  simp only [hne]; rfl
theorem shortP_last {b : Nat} {m : Int} {q : Nat} (l : List (Nat × Int)) (hp : ∀ x ∈ l, 0 < x.2) (hq : 0 < q) (hqm : (q : Int) ≤ m) : shortP b q (l ++ [(b, m)]) = l ++ (if (q : Int) = m then [] else [(b, m - q)]) := by
  unfold shortP
  rw [List.reverse_append, List.reverse_singleton, List.singleton_append, cutRev_head l.reverse hq hqm, List.reverse_cons, List.reverse_reverse]
  have hk := keep_pos hp
  unfold keepP at hk ⊢
  rw [List.filter_append, hk]
  congr 1
  by_cases e : (q : Int) = m
  · rw [if_pos e, List.filter_cons_of_neg (by simp; omega)]; rfl
  · have hne : (m - (q : Int) == 0) = false := beq_false_of_ne (by omega)
    rw [if_neg e, List.filter_cons_of_pos (by simp [hne])]; rfl
theorem crashL_gen : ∀ (k : Nat) (L : Int) (t : DS), t.Ok → L ≤ k → L ≤ sumP t.pieces →
    (crashL k L t).files = t.files ∧ (crashL k L t).size = t.size ∧ (crashL k L t).Ok ∧ ∀ f, (crashL k L t).bytes f = (t.bytes f).take ((t.bytes f).length - (lostR L t.pieces.reverse f).toNat)
  | 0, L, t, h, hk, hs => ⟨rfl, rfl, h, fun f => by rw [lostR_none (by omega)]; simp [crashL]⟩
  | k + 1, L, t, h, hk, hs => by
    by_cases hL : 0 < L
    · obtain ⟨j, b, m, hj, hx, ⟨hbid, hlast, hms, hmb⟩, hmpos, _⟩ := last_facts h hL hs
      obtain ⟨l, hl⟩ : ∃ l, t.pieces = l ++ [(b, m)] := by
        have := List.getLast?_eq_some_iff.1 hlast
        obtain ⟨l, hl⟩ := this
        exact ⟨l, hl⟩
      obtain ⟨q, hq⟩ : ∃ q, q = (mn L m).toNat := ⟨_, rfl⟩
      have hqm : mn L m = (q : Int) := by rw [hq, mn_eq]; split <;> omega
      have hq3 : 0 < q ∧ (q : Int) ≤ m ∧ (q : Int) ≤ L ∧ ((q : Int) = m ∨ (q : Int) = L) := by
        have h1 : (q : Int) = if m < L then m else L := by rw [← hqm, mn_eq]
        split at h1 <;> omega
      obtain ⟨hq0, hqm2, hqL, hqe⟩ := hq3
      rw [← hq] at hmb
      have hrec : crashL (k + 1) L t = crashL k (L - q) (t.short b q) := by
        rw [crashL, if_pos hL, hlast]
        simp only [hqm, Int.toNat_natCast]
      have hss := short_sum h hbid hlast hqm2
      have hlp : ∀ x ∈ l, 0 < x.2 := fun x hx => h.pos x (by rw [hl]; simp [hx])
      have hps : (t.short b q).pieces = l ++ (if (q : Int) = m then [] else [(b, m - q)]) := by
        show shortP b q t.pieces = _
        rw [hl, shortP_last l hlp hq0 hqm2]
      obtain ⟨h1, h1b, h1c, h2⟩ := crashL_gen k (L - q) (t.short b q) (DS.short_ok h b q hmb) (by omega) (by rw [hss]; omega)
      rw [hrec]
      refine ⟨h1, h1b, h1c, fun f => ?_⟩
      rw [h2 f]
      have hlr : lostR (L - q) (t.short b q).pieces.reverse f = lostR (L - q) l.reverse f := by
        rw [hps]
        by_cases e : (q : Int) = m
        · rw [if_pos e, List.append_nil]
        · have : L - (q : Int) ≤ 0 := by omega
          rw [lostR_none this, lostR_none this]
      have hlt : lostR L t.pieces.reverse f = (if b = f then (q : Int) else 0) + lostR (L - q) l.reverse f := by
        rw [hl, List.reverse_append, List.reverse_singleton, List.singleton_append, lostR, if_pos hL, hqm]
      have hnn := (lostR_bounds f l.reverse (L - q) (fun x hx => hlp x (List.mem_reverse.1 hx))).1
      rw [hlr, hlt]
      show List.take ((upd t.bytes b ((t.bytes b).take ((t.bytes b).length - q)) f).length - _) (upd t.bytes b ((t.bytes b).take ((t.bytes b).length - q)) f) = _
      by_cases e : b = f
      · subst e
        rw [upd_self, if_pos rfl, List.take_take, List.length_take]
        congr 1
        omega
      · rw [upd_ne (Ne.symm e), if_neg e]
        congr 2
        omega
    · have : crashL (k + 1) L t = t := by rw [crashL, if_neg hL]
      rw [this]
      exact ⟨rfl, rfl, h, fun f => by rw [lostR_none (by omega)]; simp⟩
/-- A crash, told plainly. -/
theorem crash_eq {t : DS} (h : t.Ok) (keep : Int) : (t.crash keep).files = t.files ∧ (t.crash keep).size = t.size ∧ (t.crash keep).Ok ∧ (t.crash keep).pieces = [] ∧ ∀ f, (t.crash keep).bytes f = (t.bytes f).take ((t.bytes f).length - (lostR (sumP t.pieces - max keep 0) t.pieces.reverse f).toNat) := by
  obtain ⟨h1, h1b, h1c, h2⟩ := crashL_gen (sumP t.pieces - max keep 0).toNat (sumP t.pieces - max keep 0) t h (by omega) (by omega)
  exact ⟨h1, h1b, DS.clear_ok h1c, rfl, h2⟩
end Go.Proofs.Ytaeamdhkdiblmaa.Dk
set_option linter.unusedSimpArgs false
set_option linter.unusedVariables false
namespace Go.Proofs.Ytaeamdhkdiblmaa.Dk
open Go.RowKit Go.Proofs.YtaeamdhkdiblmaaW.PrintWords Go.Proofs.YtaeamdhkdiblmaaW.PrintLast Go.Proofs.YtaeamdhkdiblmaaW.PrintMore
open Go.Proofs.Ytaeamdhkdiblmaa.P07 (S28 k28 k28_mk)
set_option maxHeartbeats 8000000
set_option maxRecDepth 100000
/-! A disk and a row of bytes beside it, both made since w0 -/
def Own2 (w0 W : World) (p : Nat) (d : DS) (v : Value) (xs : List Int) : Prop := (∃ F, IsDisk W F p d ∧ (∀ k, F k → w0.heap.size ≤ k) ∧ BK.R 5 W w0.heap.size (fun k => ¬ F k) v xs) ∧ Below w0.heap.size w0 W
theorem Own2.own {w0 W : World} {p : Nat} {d : DS} {v : Value} {xs : List Int} (h : Own2 w0 W p d v xs) : Own w0 W p d := by
  obtain ⟨⟨F, hd, hF, _⟩, h0⟩ := h
  exact ⟨⟨F, hd, hF⟩, h0⟩
theorem Own.two {w0 W : World} {p : Nat} {d : DS} (h : Own w0 W p d) : Own2 w0 W p d (.slice none 0 0) [] := by
  obtain ⟨⟨F, hd, hF⟩, h0⟩ := h
  exact ⟨⟨F, hd, hF, Kd.R_nil _ _ _ _ _⟩, h0⟩
theorem Own2.below {w0 W W' : World} {p : Nat} {d : DS} {v : Value} {xs : List Int} (h : Own2 w0 W p d v xs) (hb : Below W.heap.size W W') : Own2 w0 W' p d v xs := by
  obtain ⟨⟨F, hd, hF, hR⟩, h0⟩ := h
  exact ⟨⟨F, hd.below hb, hF, Kd.R_below hR hb⟩, below_tr h0 hb⟩
theorem R_off {w W : World} {F : Nat → Prop} {base : Nat} {v : Value} {xs : List Int} (h : BK.R 5 w base (fun k => ¬ F k) v xs) (hc : Ch F w W) : BK.R 5 W base (fun k => ¬ Grown F w W k) v xs := by
  have hR := Kd.R_bound (BK_own h)
  refine Kd.R_mono (Kd.R_step hR (fun k hk hlt => hc.block k hlt hk.1.2)) (fun k hk hG => ?_)
  rcases hG with hG | hG
  · exact hk.1.2 hG
  · have := hk.2.2.1; omega
theorem append2 {w0 W : World} {p : Nat} {d : DS} {v : Value} {xs : List Int} (h : Own2 w0 W p d v xs) (x : ByteArray) (hx : x.size ≤ 9223372036854775807) (A0 : Option Addr) (c0 : Nat) (ls : List (List Int)) (hsz : d.size = 0)
    (hls : RowsK.C W A0 ls.length ls) (hroom : d.total + ls.flatten.length + d.files.length + 1 ≤ room) (hr : rightN x.data.toList = true) :
    Calls Try.prog 10 #[ptr p, .string x, .slice A0 ls.length c0] W fun e w' => e = .returned (.int .i64 0) ∧ ∃ f, (findF d.files x.data.toList = some f ∨ (findF d.files x.data.toList = none ∧ f ∉ d.ids)) ∧ Own2 w0 w' p ((d.put x.data.toList f).more f ls.flatten) v xs := by
  obtain ⟨⟨F, hd, hF, hR⟩, h0⟩ := h
  refine (append F p d x hx A0 c0 ls W hd (by omega) hls hroom).mono ?_
  rintro e w' ⟨hc, h⟩
  have hb := Own.ch h0 hF hc
  have hG : ∀ k, Grown F W w' k → w0.heap.size ≤ k := fun k hk => hk.elim (hF k) (fun e => by have := h0.size; omega)
  have hfit : d.fits ls.flatten.length = true := by unfold DS.fits; rw [hsz]; rfl
  rcases h with ⟨rfl, h1, h2⟩ | ⟨rfl, h1, h2, h3⟩ | ⟨rfl, h1, h2, f, h3, h4⟩
  · rw [hr] at h1; cases h1
  · rw [hfit] at h2; cases h2
  · refine ⟨rfl, f, ?_, ⟨_, h4, hG, R_off hR hc⟩, hb⟩
    rcases h3 with h3 | ⟨h3, h5⟩
    · exact .inl h3
    · exact .inr ⟨h3, fun hi => by have := hd.low _ (hd.file _ hi).1; omega⟩
theorem sync2 {w0 W1 W : World} {p : Nat} {d : DS} {v : Value} {xs : List Int} (h : Own2 w0 W1 p d v xs) (hb : Below W1.heap.size W1 W) (A : Option Addr) (c : Nat) (names : List ByteArray) (hsz : ∀ x ∈ names, x.size ≤ 9223372036854775807)
    (hN : Kd.string.C W A names.length names) (hA : ∀ ad, A = some ad → ad.block < W.heap.size ∧ (ad.block < w0.heap.size ∨ W1.heap.size ≤ ad.block)) :
    Calls Try.prog 11 #[ptr p, .slice A names.length c] W fun e w' => e = .returned (.int .i64 (syncF names d).1) ∧ Own2 w0 w' p (syncF names d).2 v xs := by
  obtain ⟨⟨F, hd, hF, hR⟩, h0⟩ := h
  refine (sync F p d A c names hsz W (hd.below hb) hN (fun W' hc => strC_move hN (fun ad e => hc.block _ (hA ad e).1 (fun hk => ?_)))).mono ?_
  · have h1 := hF _ hk
    have h2 := hd.low _ hk
    rcases (hA ad e).2 with h3 | h3 <;> omega
  · rintro e w' ⟨rfl, hd2, hc⟩
    refine ⟨rfl, ⟨F, hd2, hF, Kd.R_mono (R_off (Kd.R_below hR hb) hc) (fun k hk hF => hk (.inl hF))⟩, Own.ch (below_tr h0 hb) hF hc⟩
theorem crash2 {w0 W : World} {p : Nat} {d : DS} {v : Value} {xs : List Int} (h : Own2 w0 W p d v xs) (keep : Int) (hk : keep ≤ 9223372036854775807) :
    Calls Try.prog 15 #[ptr p, .int .i64 keep] W fun e w' => e = .returned (.tuple #[]) ∧ Own2 w0 w' p (d.crash keep) v xs := by
  obtain ⟨⟨F, hd, hF, hR⟩, h0⟩ := h
  refine (crash F p d keep hk W hd).mono ?_
  rintro e w' ⟨rfl, hd2, hc⟩
  exact ⟨rfl, ⟨F, hd2, hF, Kd.R_mono (R_off hR hc) (fun k hk hF => hk (.inl hF))⟩, Own.ch h0 hF hc⟩
/-- The row grows. -/
theorem Own2.grow {w0 W W1 : World} {p : Nat} {d : DS} {v v1 : Value} {xs ys : List Int} {F : Nat → Prop} (hd : IsDisk W F p d) (hF : ∀ k, F k → w0.heap.size ≤ k) (h0 : Below w0.heap.size w0 W1) (hR : BK.R 5 W w0.heap.size (fun k => ¬ F k) v xs)
    (hR1 : BK.R 5 W1 w0.heap.size (fun k => ¬ F k) v1 ys) (hg : W.grownBy W1 v.ownBlock) : Own2 w0 W1 p d v1 ys :=
  ⟨⟨F, hd.move (fun k hk => hg.block k (hd.low k hk) (fun e => hR.1 k e.symm hk)) hg.size, hF, hR1⟩, h0⟩
/-! The invariant -/
def nm : List UInt8 := [102]
structure J (d : DS) (i : Nat) (all : List Int) (safe : Nat) : Prop where
  sz : d.size = 0
  st : (i = 0 ∧ d.files = [] ∧ all = []) ∨ (0 < i ∧ ∃ b, d.files = [(nm, b)] ∧ d.bytes b = all)
  waits : sumP d.pieces = (all.length : Int) - safe
  le : safe ≤ all.length
theorem J.new : J (DS.empty 0) 0 [] 0 := ⟨rfl, .inl ⟨rfl, rfl, rfl⟩, rfl, Nat.le_refl _⟩
theorem J.total {d : DS} {i safe : Nat} {all : List Int} (h : J d i all safe) : d.total = all.length ∧ d.files.length ≤ 1 := by
  rcases h.st with ⟨_, h1, h2⟩ | ⟨_, b, h1, h2⟩
  · unfold DS.total DS.ids lenSum; rw [h1, h2]; simp
  · unfold DS.total DS.ids lenSum; rw [h1]; simp [h2]
theorem more_sum (d : DS) (f : Nat) (bs : List Int) : sumP (d.more f bs).pieces = sumP d.pieces + bs.length := by
  show sumP (if bs = [] then d.pieces else d.pieces ++ [(f, (bs.length : Int))]) = _
  by_cases h : bs = []
  · rw [if_pos h, h]; simp
  · rw [if_neg h, sumP_app]; simp [sumP]
theorem J.append {d : DS} {i safe f : Nat} {all : List Int} (h : J d i all safe) (hf : findF d.files nm = some f ∨ (findF d.files nm = none ∧ f ∉ d.ids)) (x : List Int) : J ((d.put nm f).more f x) (i + 1) (all ++ x) safe := by
  have hp : (d.put nm f).pieces = d.pieces ∧ (d.put nm f).size = d.size := by unfold DS.put; cases findF d.files nm <;> exact ⟨rfl, rfl⟩
  refine ⟨hp.2.trans h.sz, .inr ⟨Nat.succ_pos _, f, ?_⟩, ?_, ?_⟩
  · rcases h.st with ⟨_, h1, h2⟩ | ⟨_, b, h1, h2⟩
    · have hn : findF d.files nm = none := by rw [h1]; rfl
      unfold DS.put
      rw [hn]
      refine ⟨?_, ?_⟩
      · show insF (nm, f) d.files = _
        rw [h1]; rfl
      · show upd (upd d.bytes f []) f (upd d.bytes f [] f ++ x) f = _
        rw [upd_self, upd_self, h2]
    · have hn : findF d.files nm = some b := by rw [h1]; simp [findF]
      have hb : f = b := by
        rcases hf with h3 | ⟨h3, _⟩
        · rw [hn] at h3; exact (Option.some.inj h3).symm
        · rw [hn] at h3; cases h3
      subst hb
      unfold DS.put
      rw [hn]
      exact ⟨h1, by show upd d.bytes f (d.bytes f ++ x) f = _; rw [upd_self, h2]⟩
  · rw [more_sum, hp.1, h.waits, List.length_append]; omega
  · have := h.le; rw [List.length_append]; omega
theorem J.sync {d : DS} {i safe : Nat} {all : List Int} (h : J d i all safe) (hi : 0 < i) (hd : d.Ok) : ∃ b, syncF [⟨#[102]⟩] d = (0, d.drop b) ∧ J (d.drop b) i all all.length := by
  rcases h.st with ⟨h0, _⟩ | ⟨_, b, h1, h2⟩
  · omega
  have hn : findF d.files nm = some b := by rw [h1]; simp [findF]
  refine ⟨b, ?_, h.sz, .inr ⟨hi, b, h1, h2⟩, ?_, Nat.le_refl _⟩
  · unfold syncF eachF
    have : findF (id d).files (⟨#[102]⟩ : ByteArray).data.toList = some b := hn
    rw [this]
    rfl
  · have he : (d.drop b).pieces = [] := by
      show keepP _ d.pieces = []
      unfold keepP
      rw [List.filter_eq_nil_iff]
      intro x hx
      have := hd.old x hx
      unfold DS.ids at this
      rw [h1] at this
      have hb : x.1 = b := by simpa using this
      simp [hb]
    rw [he]
    show (0 : Int) = _
    omega
end Go.Proofs.Ytaeamdhkdiblmaa.Dk
set_option linter.unusedSimpArgs false
set_option linter.unusedVariables false
namespace Go.Proofs.Ytaeamdhkdiblmaa.Dk
open Go.RowKit Go.Proofs.YtaeamdhkdiblmaaW.PrintWords Go.Proofs.YtaeamdhkdiblmaaW.PrintLast Go.Proofs.YtaeamdhkdiblmaaW.PrintMore
open Go.Proofs.Ytaeamdhkdiblmaa.P07 (S28 k28 k28_mk)
set_option maxHeartbeats 8000000
set_option maxRecDepth 100000
/-- What the one file has. -/
def Has (d : DS) (all : List Int) (is : Bool) : Prop := (is = false ∧ d.files = [] ∧ all = []) ∨ (is = true ∧ ∃ b, d.files = [(nm, b)] ∧ d.bytes b = all)
theorem J.has {d : DS} {i safe : Nat} {all : List Int} (h : J d i all safe) : Has d all (decide (0 < i)) := by
  rcases h.st with ⟨rfl, h1, h2⟩ | ⟨h0, h1⟩
  · exact .inl ⟨rfl, h1, h2⟩
  · exact .inr ⟨decide_eq_true h0, h1⟩
theorem J.crash {d : DS} {i safe : Nat} {all : List Int} (h : J d i all safe) (hd : d.Ok) (keep : Int) : Has (d.crash keep) (all.take (all.length - (sumP d.pieces - max keep 0).toNat)) (decide (0 < i)) := by
  obtain ⟨h1, h2, h3, h4, h5⟩ := crash_eq hd keep
  rcases h.st with ⟨rfl, g1, g2⟩ | ⟨h0, b, g1, g2⟩
  · exact .inl ⟨rfl, h1.trans g1, by rw [g2]; simp⟩
  · refine .inr ⟨decide_eq_true h0, b, h1.trans g1, ?_⟩
    rw [h5, g2]
    congr 2
    have hids : d.ids = [b] := by unfold DS.ids; rw [g1]; rfl
    by_cases hL : 0 ≤ sumP d.pieces - max keep 0
    · have hs : sumP d.pieces.reverse = sumP d.pieces := by unfold sumP; rw [List.map_reverse, List.sum_reverse]
      have := lostR_all (ids := [b]) (by simp) d.pieces.reverse (sumP d.pieces - max keep 0) (fun x hx => hd.pos x (List.mem_reverse.1 hx)) (fun x hx => by have := hd.old x (List.mem_reverse.1 hx); rw [hids] at this; exact this) hL (by rw [hs]; omega)
      have e : lostR (sumP d.pieces - max keep 0) d.pieces.reverse b = sumP d.pieces - max keep 0 := by simpa using this
      rw [e]
    · rw [lostR_none (by omega)]; omega
theorem readH {w0 W : World} {p : Nat} {d : DS} {v : Value} {xs : List Int} (h : Own2 w0 W p d v xs) {all : List Int} {is : Bool} (hh : Has d all is) :
    Calls Try.prog 12 #[ptr p, .string ⟨#[102]⟩] W fun e w' => ∃ A c, e = .returned (.tuple #[.slice A all.length c, .bool is]) ∧ all.length ≤ c ∧ BK.C w' A all.length all ∧ Below W.heap.size W w' := by
  refine (readO h.own ⟨#[102]⟩ (by decide)).mono ?_
  rintro e w' ⟨hb, _, hm⟩
  rcases hh with ⟨rfl, h1, rfl⟩ | ⟨rfl, b, h1, rfl⟩
  · rw [h1] at hm
    exact ⟨none, 0, hm, Nat.le_refl _, ⟨rfl, by simp, fun h => absurd h (by simp)⟩, hb⟩
  · have hf : findF d.files (⟨#[102]⟩ : ByteArray).data.toList = some b := by rw [h1]; rfl
    rw [hf] at hm
    obtain ⟨v, rfl, hR⟩ := hm
    obtain ⟨A, c, rfl, hc, hC⟩ := Kd.R_reads hR
    exact ⟨A, c, rfl, hc, hC, hb⟩
theorem deed1 {W : World} {A : Option Addr} {c : Nat} {ls : List (List Int)} (hls : RowsK.C W A ls.length ls) (hc : ls.length ≤ c) {g t : Nat} (h : W.heap[g]? = some (.cells #[.int .i64 0, .string ⟨#[]⟩, .slice none 0 0, .int .i64 0, .slice A ls.length c] t (0, 0))) :
    Kd.C k28 W (some ⟨g, 0, none⟩) 1 [⟨0, ⟨#[]⟩, [], 0, ls⟩] := by
  refine ⟨rfl, by simp, fun _ => ⟨_, rfl, fun j x hj => ?_⟩⟩
  cases j with
  | zero =>
    cases hj
    refine ⟨_, rfl, k28_mk W ⟨0, ⟨#[]⟩, [], 0, ls⟩ (A2 := none) (c2 := 0) (Nat.le_refl _) ⟨rfl, by simp, fun h => absurd h (by simp)⟩ (A4 := A) (c4 := c) hc hls, fun i u hu => ?_⟩
    rw [add0]
    refine (blk_cell h _).trans ?_
    match i, hu with
    | 0, hu => cases hu; rfl
    | 1, hu => cases hu; rfl
    | 2, hu => cases hu; rfl
    | 3, hu => cases hu; rfl
    | 4, hu => cases hu; rfl
    | i + 5, hu => simp at hu
  | succ j => simp at hj
theorem bool_at {w : World} {A : Option Addr} {n : Nat} {l : List Bool} (h : Kd.bool.C w A n l) (j : Nat) (hj : j < n) :
    ∃ (x : Bool) (ad : Addr), l[j]? = some x ∧ A = some ad ∧ w.cell? (ad.add j) = some (.bool x) := by
  obtain ⟨hl, _, hc⟩ := h
  obtain ⟨ad, e, hc⟩ := hc (by omega)
  have hj' : j < l.length := by omega
  obtain ⟨c, hs, hk, hcell⟩ := hc j _ (List.getElem?_eq_getElem hj')
  obtain rfl : c = [.bool l[j]] := hk
  have := hcell 0 _ rfl
  exact ⟨l[j], ad, List.getElem?_eq_getElem hj', e, by simpa [Kd.bool, Kd.scalar] using this⟩
theorem sumL_flat (ls : List (List Int)) : sumL ls = ls.flatten.length := by unfold sumL; rw [List.length_flatten]
theorem append2x {w0 W : World} {p : Nat} {d : DS} {v : Value} {xs x all : List Int} {B : Option Addr} {c i safe : Nat} (h : Own2 w0 W p d v xs) (hx : BK.C W B x.length x) (hle : x.length ≤ c) (hj : J d i all safe) (hr : all.length + x.length ≤ 20000) :
    Calls Try.prog 10 #[ptr p, .string ⟨#[102]⟩, .slice (some ⟨W.heap.size, 0, none⟩) 1 1] (W.alloc (.cells #[.slice B x.length c] 32)) fun e w' => e = .returned (.int .i64 0) ∧ ∃ d', J d' (i + 1) (all ++ x) safe ∧ Own2 w0 w' p d' v xs := by
  have htt := hj.total
  have hb := below_alloc (Below.refl W.heap.size W) (.cells #[.slice B x.length c] 32)
  refine (append2 (h.below hb) ⟨#[102]⟩ (by decide) _ 1 [x] hj.sz (oneRow (blk_new W _) hle (Kd.C_below hx hb)) (by simp only [room, List.flatten_cons, List.flatten_nil, List.append_nil]; omega) (by decide)).mono ?_
  rintro e w' ⟨rfl, f, hf, ho⟩
  rw [show [x].flatten = x by simp] at ho
  exact ⟨rfl, _, hj.append hf x, ho⟩
theorem sync2x {w0 W : World} {p : Nat} {d : DS} {v : Value} {xs all : List Int} {i safe : Nat} (h : Own2 w0 W p d v xs) (hj : J d i all safe) (hi : 0 < i) :
    Calls Try.prog 11 #[ptr p, .slice (some ⟨W.heap.size, 0, none⟩) 1 1] (W.alloc (.cells #[.string ⟨#[102]⟩] 9)) fun e w' => e = .returned (.int .i64 0) ∧ ∃ d', J d' i all all.length ∧ Own2 w0 w' p d' v xs := by
  obtain ⟨b, he, hj'⟩ := hj.sync hi h.own.ok
  have hb := below_alloc (Below.refl W.heap.size W) (.cells #[.string ⟨#[102]⟩] 9)
  refine (sync2 h hb _ 1 [⟨#[102]⟩] (fun x hx => by rw [List.mem_singleton.1 hx]; decide) (oneStr (blk_new W _)) (fun ad e => ?_)).mono ?_
  · cases e
    rw [World.size_alloc]
    exact ⟨Nat.lt_succ_self _, .inr (Nat.le_refl _)⟩
  · rintro e w' ⟨rfl, ho⟩
    rw [he] at ho ⊢
    exact ⟨rfl, _, hj', ho⟩
theorem crash2x {w0 W : World} {p : Nat} {d : DS} {v : Value} {xs all : List Int} {i safe : Nat} (h : Own2 w0 W p d v xs) (hj : J d i all safe) (keep : Int) (hk : keep ≤ 9223372036854775807) :
    Calls Try.prog 15 #[ptr p, .int .i64 keep] W fun e w' => e = .returned (.tuple #[]) ∧ ∃ d', Has d' (all.take (all.length - ((all.length : Int) - safe - max keep 0).toNat)) (decide (0 < i)) ∧ Own2 w0 w' p d' v xs := by
  have hc := hj.crash h.own.ok keep
  rw [hj.waits] at hc
  refine (crash2 h keep hk).mono ?_
  rintro e w' ⟨rfl, ho⟩
  exact ⟨rfl, _, hc, ho⟩
theorem Own2.reads {w0 W : World} {p n c : Nat} {d : DS} {A : Option Addr} {xs : List Int} (h : Own2 w0 W p d (.slice A n c) xs) : xs.length ≤ c ∧ BK.C W A xs.length xs := by
  obtain ⟨⟨F, _, _, hR⟩, _⟩ := h
  obtain ⟨h1, h2, h3⟩ := Kd.R_reads' hR
  exact ⟨by omega, h3⟩
theorem cs_len {all cs : List Int} {safe : Nat} {keep : Int} (h : cs = all.take (all.length - ((all.length : Int) - safe - max keep 0).toNat)) (hs : safe ≤ all.length) : (cs.length : Int) = safe + min (max keep 0) ((all.length : Int) - safe) := by
  rw [h, List.length_take]; omega
theorem cs_begins {all cs : List Int} {n : Nat} (h : cs = all.take n) : (decide (cs.length ≤ all.length) && decide (cs = all.take cs.length)) = true := by
  rw [h, List.length_take]
  have h1 : min n all.length ≤ all.length := Nat.min_le_right _ _
  have h2 : all.take n = all.take (min n all.length) := by
    rcases Nat.le_total n all.length with h | h
    · rw [Nat.min_eq_left h]
    · rw [Nat.min_eq_right h, List.take_of_length_le h, List.take_length]
  rw [decide_eq_true h1, decide_eq_true h2]; rfl
theorem light_small {ls : List (List Int)} (h : ls.length ≤ 281474976710656 ∧ ∀ x ∈ ls, x.length ≤ 281474976710656) : ∀ x ∈ [(⟨0, ⟨#[]⟩, [], 0, ls⟩ : S28)], Small x := fun x hx => by
  rw [List.mem_singleton.1 hx]
  exact ⟨Nat.zero_le _, Nat.zero_le _, h.1, h.2, fun y hy => absurd hy (by simp)⟩
theorem light_r {ls : List (List Int)} {r : Bool} (h : r = true → [(⟨0, ⟨#[]⟩, [], 0, ls⟩ : S28)].length ≤ 300 ∧ wl [(⟨0, ⟨#[]⟩, [], 0, ls⟩ : S28)] ≤ 20000) : r = true → ls.flatten.length ≤ 20000 := fun e => by
  have := (h e).2
  simp only [wl, List.map_cons, List.map_nil, List.sum_cons, List.sum_nil, wd, sumL_flat] at this
  omega
theorem appends (A0 : Option Addr) (c0 : Nat) (ls : List (List Int)) (A1 : Option Addr) (c1 : Nat) (sy : List Bool) (keep : Int) (w : World) (hls : RowsK.C w A0 ls.length ls) (hc0 : ls.length ≤ c0) (hsy : Kd.bool.C w A1 sy.length sy) (hkp : keep ≤ 9223372036854775807)
    (hsm : ls.length ≤ 281474976710656 ∧ ∀ x ∈ ls, x.length ≤ 281474976710656) :
    Calls Try.prog 3 #[.slice A0 ls.length c0, .slice A1 sy.length c1, .int .i64 keep] w fun e w' => e = .returned (.bool true) ∧ Below w.heap.size w w' := by
  have hu28 := Try.underlying28
  have hl0 : ls.length ≤ 9223372036854775807 := hls.2.1
  have hl1 : sy.length ≤ 9223372036854775807 := hsy.2.1
  have HLS := Aside0.mk hls
  have HSY := Aside0.mk hsy
  have HSM := Aside0.mk hsm
  clear hls hsy hsm
  go_enter Try.func3, Try.ntmps3
  go_wp2_with (first
    | (go_at_call 7; (with_reducible refine (awake w).mono ?_); rintro e w1 ⟨rfl, hb⟩; have HB := Aside0.mk hb; clear hb)
    | (go_at_call 8; obtain ⟨r, hr, hcall⟩ := light (some ⟨w1.heap.size, 0, none⟩) 1 [⟨0, ⟨#[]⟩, [], 0, ls⟩] _ (deed1 (Kd.C_below HLS.out (below_alloc HB.out _)) hc0 (blk_new w1 _)) (Nat.le_refl _) (light_small HSM.out); refine hcall.mono ?_; rintro e w2 ⟨rfl, hb⟩; have HR := Aside0.mk (light_r hr); have HB2 := Aside0.mk (below_tr (below_alloc HB.out _) hb); clear hb hr hcall)
    | (go_at_call 9; (with_reducible refine (newO 0 w w2 HB2.out).mono ?_); rintro e w3 ⟨p, rfl, hd⟩; have HD := Aside0.mk hd.two; clear hd))
  rotate_left 1
  · have hr1 : r = true := by assumption
    have hr2 : (ls.length : Int) ≤ 300 := by assumption
    rw [show decide (300 < (ls.length : Int)) = false from decide_eq_false (by omega)]
    have htot := HR.out hr1
    have hlen : ls.length ≤ 300 := by omega
    clear HR HSM HB
    go_loopw [8, 9, 10] (fun v8 v9 v10 w' => ∃ (i safe : Nat) (d : DS) (A8 : Option Addr) (n8 c8 : Nat), v8 = .slice A8 n8 c8 ∧ v10 = .int .i64 i ∧ i ≤ ls.length ∧ v9 = .int .i64 safe ∧ Aside0 (J d i (ls.take i).flatten safe) ∧ Aside0 (Own2 w w' p d (.slice A8 n8 c8) (ls.take i).flatten)) (fun _ _ v10 _ => ls.length - (intOf v10).toNat)
    case atStart => exact ⟨0, 0, DS.empty 0, none, 0, 0, rfl, rfl, by omega, rfl, ⟨J.new⟩, HD⟩
    case round =>
      obtain ⟨i, safe, d, A8, n8, c8, rfl, rfl, hi, rfl, HJ, HO⟩ := hrel
      clear HD HB2
      obtain ⟨all, hall⟩ : ∃ all, all = (ls.take i).flatten := ⟨_, rfl⟩
      rw [← hall] at HJ HO
      have hal : all.length ≤ 20000 := by rw [hall]; exact Nat.le_trans (flat_le ls i) htot
      obtain ⟨hn8, hnc8⟩ : n8 = all.length ∧ n8 ≤ c8 := by
        obtain ⟨⟨F, _, _, hR⟩, _⟩ := HO.out
        obtain ⟨h1, h2, _⟩ := Kd.R_reads' hR
        exact ⟨h1, h2⟩
      subst hn8
      have HAL := Aside0.mk hall
      clear hall
      by_cases hlt : i < ls.length
      · obtain ⟨x, B, c, ad, hx, rfl, hcell0, hle, hrx⟩ := row_at HLS.out i hlt
        have hadb : (ad.add i).block < w.heap.size := World.block_lt_of_cell? w _ hcell0
        have hcell := (Below.cell HO.out.2 (p := ad.add i) hadb).trans hcell0
        have HXC0 := Aside0.mk hrx
        replace hrx := Kd.C_below hrx HO.out.2
        have hfl := take_succ_flat ls i x hx
        have hxl : all.length + x.length ≤ 20000 := by
          have := flat_le ls (i + 1)
          rw [hfl, List.length_append, ← HAL.out] at this
          omega
        have HFL := Aside0.mk (show (ls.take (i + 1)).flatten = all ++ x by rw [hfl, HAL.out])
        have HXC := Aside0.mk hrx
        have HX := Aside0.mk (And.intro hle hx)
        have htt := HJ.out.total
        have hjsz := HJ.out.sz
        clear hx hrx hfl hle
        by_cases hs : i < sy.length
        · obtain ⟨sb, ad1, hsb, rfl, hcb⟩ := bool_at HSY.out i hs
          have hcsy : ∀ W, Below w.heap.size w W → W.cell? (ad1.add i) = some (.bool sb) := fun W hW => (Below.cell hW (p := ad1.add i) (World.block_lt_of_cell? w _ hcb)).trans hcb
          clear hcb hsb
          go_wp2_with (first
            | (go_at_call 10; (with_reducible refine (append2x HO.out HXC.out HX.out.1 HJ.out hxl).mono ?_); rintro e w4 ⟨rfl, d4, hj4, ho4⟩; have HO4 := Aside0.mk ho4; have HJ4 := Aside0.mk hj4; have hcell4 := (Below.cell ho4.2 (p := ad.add i) hadb).trans hcell0; clear hj4 ho4)
            | (at_builtin; obtain ⟨⟨F4, hd4, hF4, hR4⟩, h04⟩ := HO4.out; refine Kd.R_append_rows BK (w0 := w) (Rr := fun x cs => BK.K w4 x cs) w.heap.size rfl (.tmp 43) (.tmp 47) 32 5 (.int .u8 0) 1 rfl Try.underlying32 infoG rfl (by decide) (by omega) _ all x B x.length c (fun k => ¬ F4 k) (fun _ => False) rfl rfl hR4 (Kd.C_below HXC0.out h04) (fun _ _ h => h) (fun _ h => h.elim) (fun k hk hF' => absurd (hd4.low k hF') (by omega)) h04 (below_size h04) (by omega) ?_; intro v7 w7 ho7 hb7 hg7 _; have HO7 := Aside0.mk (Own2.grow hd4 hF4 hb7 hR4 ho7 hg7); obtain ⟨A7, c7, e7⟩ := Kd.R_slice ho7; generalize hn7 : (all ++ x).length = n7 at e7; subst e7; have hcs7 := hcsy w7 hb7; clear ho7 hg7 hd4 hF4 hR4 hcell4)
            | (go_at_call 11; (with_reducible refine (sync2x HO7.out HJ4.out (Nat.succ_pos _)).mono ?_); rintro e w9 ⟨rfl, d9, hj9, ho9⟩; rw [hn7] at hj9; have HO9 := Aside0.mk ho9; have HJ9 := Aside0.mk hj9; clear hj9 ho9))
          all_goals
            go_roundw
            case rel => first
              | exact ⟨i + 1, n7, d9, A7, n7, c7, rfl, by go_num, by omega, rfl, ⟨by rw [HFL.out]; exact HJ9.out⟩, ⟨by rw [HFL.out]; exact HO9.out⟩⟩
              | exact ⟨i + 1, safe, d4, A7, n7, c7, rfl, by go_num, by omega, rfl, ⟨by rw [HFL.out]; exact HJ4.out⟩, ⟨by rw [HFL.out]; exact HO7.out⟩⟩
            case measure => first | (simp [intOf]; done) | (simp [intOf]; omega)
        · have hcsy : ∀ W, Below w.heap.size w W → True := fun _ _ => trivial
          go_wp2_with (first
            | (go_at_call 10; (with_reducible refine (append2x HO.out HXC.out HX.out.1 HJ.out hxl).mono ?_); rintro e w4 ⟨rfl, d4, hj4, ho4⟩; have HO4 := Aside0.mk ho4; have HJ4 := Aside0.mk hj4; have hcell4 := (Below.cell ho4.2 (p := ad.add i) hadb).trans hcell0; clear hj4 ho4)
            | (at_builtin; obtain ⟨⟨F4, hd4, hF4, hR4⟩, h04⟩ := HO4.out; refine Kd.R_append_rows BK (w0 := w) (Rr := fun x cs => BK.K w4 x cs) w.heap.size rfl (.tmp 43) (.tmp 47) 32 5 (.int .u8 0) 1 rfl Try.underlying32 infoG rfl (by decide) (by omega) _ all x B x.length c (fun k => ¬ F4 k) (fun _ => False) rfl rfl hR4 (Kd.C_below HXC0.out h04) (fun _ _ h => h) (fun _ h => h.elim) (fun k hk hF' => absurd (hd4.low k hF') (by omega)) h04 (below_size h04) (by omega) ?_; intro v7 w7 ho7 hb7 hg7 _; have HO7 := Aside0.mk (Own2.grow hd4 hF4 hb7 hR4 ho7 hg7); obtain ⟨A7, c7, e7⟩ := Kd.R_slice ho7; generalize hn7 : (all ++ x).length = n7 at e7; subst e7; have hcs7 := hcsy w7 hb7; clear ho7 hg7 hd4 hF4 hR4 hcell4)
            | (go_at_call 11; (with_reducible refine (sync2x HO7.out HJ4.out (Nat.succ_pos _)).mono ?_); rintro e w9 ⟨rfl, d9, hj9, ho9⟩; rw [hn7] at hj9; have HO9 := Aside0.mk ho9; have HJ9 := Aside0.mk hj9; clear hj9 ho9))
          all_goals
            go_roundw
            case rel => first
              | exact ⟨i + 1, n7, d9, A7, n7, c7, rfl, by go_num, by omega, rfl, ⟨by rw [HFL.out]; exact HJ9.out⟩, ⟨by rw [HFL.out]; exact HO9.out⟩⟩
              | exact ⟨i + 1, safe, d4, A7, n7, c7, rfl, by go_num, by omega, rfl, ⟨by rw [HFL.out]; exact HJ4.out⟩, ⟨by rw [HFL.out]; exact HO7.out⟩⟩
            case measure => first | (simp [intOf]; done) | (simp [intOf]; omega)
      · obtain rfl : i = ls.length := by omega
        rw [List.take_length] at HAL
        have hjw := HJ.out.waits
        have hjl := HJ.out.le
        have hdec : decide (0 < ls.length) = decide (0 < (ls.length : Int)) := by simp
        have hh1 := HJ.out.has
        rw [hdec] at hh1
        have HH1 := Aside0.mk hh1
        have hsum : sumP d.pieces = (all.length : Int) - safe := hjw
        obtain ⟨kp, hkp2⟩ : ∃ kp, kp = max keep 0 := ⟨_, rfl⟩
        obtain ⟨kk, hkk⟩ : ∃ kk, kk = min kp ((all.length : Int) - safe) := ⟨_, rfl⟩
        have hmax : ∀ (ts : Array TypeId) (t : TypeId) (W : World), (Builtin.max_ ts t #[.int .i64 keep, .int .i64 0]).run Try.prog W = .ok (.int .i64 kp) W := fun ts t W => by rw [run_max_int2, hkp2]; congr 2; omega
        have hmin : ∀ (ts : Array TypeId) (t : TypeId) (W : World), (Builtin.min_ ts t #[.int .i64 kp, .int .i64 ((all.length : Int) - safe)]).run Try.prog W = .ok (.int .i64 kk) W := fun ts t W => by rw [run_min_int2, hkk]; congr 2; omega
        have hkk0 : 0 ≤ kk ∧ kk ≤ (all.length : Int) - safe := by omega
        have HKK := Aside0.mk (And.intro hkp2 hkk)
        clear hh1 hdec hi hjw hkp2 hkk
        go_wp2_with (first
          | (go_at_call 12; (with_reducible refine (readH HO.out HH1.out).mono ?_); rintro e w4 ⟨Ab, cb, rfl, hcb, hC, hb⟩; have HB4 := Aside0.mk hb; have HO4 := Aside0.mk (HO.out.below hb); have HC4 := Aside0.mk (And.intro hcb hC); clear hb hC hcb)
          | (go_at_call 13; obtain ⟨c8le, hC8⟩ := HO4.out.reads; (with_reducible refine (sameBytes Ab cb all A8 c8 all w4 HC4.out.2 HC4.out.1 hC8 c8le (by simp only [room]; omega)).mono ?_); rintro e w5 ⟨rfl, hb⟩; rw [decide_eq_true (rfl : all = all)]; have HO5 := Aside0.mk (HO4.out.below hb); clear hb hC8 c8le)
          | (go_at_call 14; (with_reducible refine (waitsO HO5.out.own).mono ?_); rintro e w6 ⟨rfl, hb, _⟩; rw [hsum]; have HO6 := Aside0.mk (HO5.out.below hb); clear hb)
          | (go_at_call 15; (with_reducible refine (crash2x HO6.out HJ.out keep hkp).mono ?_); rintro e w7 ⟨rfl, d7, hh7, ho7⟩; obtain ⟨cs, hcs⟩ : ∃ cs, cs = all.take (all.length - ((all.length : Int) - safe - max keep 0).toNat) := ⟨_, rfl⟩; rw [← hcs] at hh7; have HCS := Aside0.mk hcs; have hcl := cs_len hcs hjl; rw [← HKK.out.1, ← HKK.out.2] at hcl; have HO7 := Aside0.mk ho7; have HH7 := Aside0.mk hh7; clear hh7 ho7 hcs)
          | (go_at_call 12; (with_reducible refine (readH HO7.out HH7.out).mono ?_); rintro e w8 ⟨Ac, cc, rfl, hcc, hC, hb⟩; have HO8 := Aside0.mk (HO7.out.below hb); have HC8 := Aside0.mk (And.intro hcc hC); clear hb hC hcc)
          | (go_at_call 16; obtain ⟨c8le, hC8⟩ := HO8.out.reads; (with_reducible refine (begins Ac cc cs A8 c8 all w8 HC8.out.2 HC8.out.1 hC8 c8le (by simp only [room]; omega)).mono ?_); rintro e w9 ⟨rfl, hb⟩; rw [cs_begins HCS.out]; have HO9 := Aside0.mk (HO8.out.below hb); clear hb hC8 c8le))
        go_ret
        exact ⟨by first | rfl | (simp; omega), HO9.out.2⟩
  · go_ret
    exact ⟨rfl, HB2.out⟩
  · go_ret
    exact ⟨rfl, HB2.out⟩
end Go.Proofs.Ytaeamdhkdiblmaa.Dk
