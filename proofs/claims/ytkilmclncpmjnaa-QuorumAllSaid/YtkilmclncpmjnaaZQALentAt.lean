import Derived.Test.YtkilmclncpmjnaaZQAPureAt

import Derived.WalkSpells
namespace Go.Proofs.Ytkilmclncpmjnaa.P06t
open Go.RowKit Go.Proofs.YtkilmclncpmjnaaW.PrintWords Go.Proofs.YtkilmclncpmjnaaW.PrintLast Go.Proofs.YtkilmclncpmjnaaW.PrintMore
theorem run_make_rowN {P : Program} (t e : TypeId) (i : TypeInfo) (z : Value) (ht : P.underlying t = some (.slice e)) (hi : P.info? e = some i) (hz : i.zero = some z)
    (kl kc : IntKind) (n c : Nat) (hnc : n ≤ c) (hbytes : i.bytes * c ≤ 281474976710656) (h63 : c ≤ 9223372036854775807) (w : World) :
    (Instr.makeSlice t (.int kl (n : Int)) (.int kc (c : Int))).run P w = .ok (.slice (some ⟨w.heap.size, 0, none⟩) n c) (w.alloc (.cells (madeCells z.cells (c * i.size)) e)) := by
  have hb : (i.bytes : Int) * (c : Int) ≤ 281474976710656 := by
    have h : ((i.bytes * c : Nat) : Int) ≤ 281474976710656 := by omega
    rwa [Int.natCast_mul] at h
  have hr := run_make (P := P) w t e i z ht hi hz kl kc n c (by omega) (by omega) hb (by omega)
  simp only [Int.toNat_natCast] at hr
  exact hr
/-! ### What is lent, kept, written over -/
def marks (b : Int) (n : Nat) : List Int := (List.range n).map fun i : Nat => b + (i : Int)
theorem marks_succ (b : Int) (n : Nat) : marks b (n + 1) = marks b n ++ [b + n] := by simp [marks, List.range_succ]
theorem marks_len (b : Int) (n : Nat) : (marks b n).length = n := by simp [marks]
theorem mark_1 (i : Int) (h0 : 0 ≤ i) (hi : i ≤ 2000) : watershedkit_mark.f 1 i = some (8000024 + i) := by
  unfold watershedkit_mark.f
  rw [w64 (i := (1 : Int) + 7) (by omega) (by omega), w64 (i := 1000003 * ((1 : Int) + 7)) (by omega) (by omega), w64 (by omega) (by omega)]
  congr 1
theorem mark_2 (i : Int) (h0 : 0 ≤ i) (hi : i ≤ 2000) : watershedkit_mark.f 2 i = some (9000027 + i) := by
  unfold watershedkit_mark.f
  rw [w64 (i := (2 : Int) + 7) (by omega) (by omega), w64 (i := 1000003 * ((2 : Int) + 7)) (by omega) (by omega), w64 (by omega) (by omega)]
  congr 1
theorem run_append_of_nil {P : Program} (w : World) (base : Nat) (t ty e : TypeId) (i : TypeInfo) (size : Nat) (ht : P.underlying t = some (.slice e)) (hi : P.info? e = some i)
    (v : Value) (n : Nat) (xs : List Value) (hown : w.ownsRow base e size v n xs) (c : Nat) : (Builtin.append_ #[t, t] ty #[v, .slice none 0 c]).run P w = .ok v w := by
  rcases hown.2 with ⟨rfl, rfl⟩ | ⟨g, cap, cur, rfl, _, _, hnc, _⟩
  · simp [Builtin.append_, run_underlying ht, sizeOf, typeInfo, hi, Builtin.lenOf, Builtin.firstCells]
  · simp [Builtin.append_, run_underlying ht, sizeOf, typeInfo, hi, Builtin.lenOf, Builtin.firstCells, hnc, storeCells]
/-- append within the capacity, whatever the source's address. -/
theorem append_fits {P : Program} (w : World) {ops : Array Oper} {rest : List Oper} {o : Oper} {a : Act} {Q : Exit → Act → World → Prop}
    (hg : o.guard = none) (s x : Operand) (t : TypeId) (hop : o.op = Op.call { callee := Callee.builtin Builtin.append, args := #[s, x], argTypes := #[t, t] })
    (base : Nat) (e : TypeId) (z : Value) (bytes : Nat) (h1 : P.underlying t = some (.slice e)) (hinfo : (P.info? e).map (fun i => (i.zero, i.size, i.bytes)) = some (some z, 1, bytes))
    (g k cap : Nat) (xs : List Value) (hs : a.eval s = .slice (some ⟨g, 0, none⟩) k cap) (hown : w.ownsRow base e 1 (.slice (some ⟨g, 0, none⟩) k cap) k xs) (ao : Option Addr) (m c : Nat) (news : List Value) (hx : a.eval x = .slice ao m c) (hn : news.length = m)
    (hnone : ao = none → m = 0) (hc : ∀ ad, ao = some ad → ∀ j u, news[j]? = some u → w.cell? (ad.add j) = some u) (h1c : ∀ u ∈ news, u.oneCell' = true) (b1 : k + m ≤ cap)
    (hK : ∀ w', w'.ownsRow base e 1 (.slice (some ⟨g, 0, none⟩) (k + m) cap) (k + m) (xs ++ news) → w.grownBy w' (some g) → wpList P ops Q rest (a.put o.dst (.slice (some ⟨g, 0, none⟩) (k + m) cap)) w') :
    wpList P ops Q (o :: rest) a w := by
  obtain ⟨i, hi, hzz⟩ := Option.map_eq_some_iff.1 hinfo
  simp only [Prod.mk.injEq] at hzz
  obtain ⟨_, hz1, _⟩ := hzz
  cases ao with
  | some ad => exact wpList_append_fits w hg s x t hop base e i 1 h1 hi hz1 g k cap xs hs hown ad m c news hx (by omega) (hc ad rfl) h1c b1 hK
  | none =>
    have hm := hnone rfl
    subst hm
    have hnews : news = [] := List.eq_nil_of_length_eq_zero (by simpa using hn)
    subst hnews
    refine wpList_plain hg fun K hK' => ?_
    have hrun := run_append_of_nil (P := P) w base t o.type e i 1 h1 hi _ k xs hown c
    unfold Oper.wp execOp
    simp only [hop, resolve, invoke, builtin, Sem.run_bind, Sem.run_pure, Result.andThen_ok, List.map_toArray, List.map_cons, List.map_nil, hs, hx, hrun]
    exact hK' _ _ (hK w (by simpa using hown) (World.grownBy.refl w _))
theorem c_none {w : World} {A : Option Addr} {n : Nat} {l : List Int} (h : Kd.C (Kd.int .i64) w A n l) (hA : A = none) : n = 0 := by
  rcases Nat.eq_zero_or_pos n with h0 | h0
  · exact h0
  · obtain ⟨ad, e, _⟩ := h.2.2 h0
    rw [hA] at e
    cases e
theorem c_cell {w : World} {ad : Addr} {n : Nat} {l : List Int} (h : Kd.C (Kd.int .i64) w (some ad) n l) (j : Nat) (u : Value) (hj : (nums .i64 l)[j]? = some u) : w.cell? (ad.add j) = some u := by
  simp only [nums, List.getElem?_map, Option.map_eq_some_iff] at hj
  obtain ⟨x, hx, rfl⟩ := hj
  have hjl := (List.getElem?_eq_some_iff.1 hx).1
  obtain ⟨ad', e, hc⟩ := h.2.2 (by have := h.1; omega)
  obtain rfl : ad = ad' := by injection e
  obtain ⟨c, hs, hr, hcell⟩ := hc j x hx
  have hr' : c = [.int .i64 x] := hr
  subst hr'
  have := hcell 0 _ rfl
  simpa [Kd.int, Kd.scalar] using this
theorem one_cell (W : World) (x : Int) : ∀ ad, some (⟨W.heap.size, 0, none⟩ : Addr) = some ad → ∀ (j : Nat) (u : Value), ([Value.int .i64 x] : List Value)[j]? = some u → (W.alloc (.cells #[.int .i64 x] 3)).cell? (ad.add j) = some u := by
  intro ad hA j u hj
  cases hA
  cases j with
  | zero =>
    simp only [List.getElem?_cons_zero, Option.some.injEq] at hj
    subst hj
    exact (blk_cell (heap_alloc_new W (.cells #[.int .i64 x] 3)) 0).trans rfl
  | succ j => simp at hj
theorem below_grown {w W W1 : World} {g : Nat} (h : Below w.heap.size w W) (hg : W.grownBy W1 (some g)) (hle : w.heap.size ≤ g) : Below w.heap.size w W1 := h.grown hg h.size (fun k e => by cases e; exact hle)
set_option maxHeartbeats 2000000 in
set_option maxRecDepth 100000 in
theorem lent_ints (A : Option Addr) (c : Nat) (l : List Int) (w : World) (hr : Kd.C (Kd.int .i64) w A l.length l) (hl : l.length ≤ 1000) :
    Calls Try.prog 19 #[.slice A l.length c] w fun e w' => ∃ g, e = .returned (.slice (some ⟨g, 0, none⟩) l.length (l.length + 12)) ∧ w'.heap[g]? = some (.cells (nums .i64 (l ++ marks 8000024 12)).toArray 3 (0, 0)) ∧ w.heap.size ≤ g ∧ Below w.heap.size w w' := by
  have HR := Aside0.mk hr
  clear hr
  obtain ⟨i0, hi, hzz⟩ := Option.map_eq_some_iff.1 info3
  simp only [Prod.mk.injEq] at hzz
  obtain ⟨hz0, hz1, hz2⟩ := hzz
  have hmk : ∀ W : World, (Instr.makeSlice 22 (.int .i64 0) (.int .i64 ((l.length : Int) + 12))).run Try.prog W = .ok (.slice (some ⟨W.heap.size, 0, none⟩) 0 (l.length + 12)) (W.alloc (.cells (madeCells (Value.int .i64 0).cells ((l.length + 12) * 1)) 3)) := fun W => by
    have h := run_make_rowN (P := Try.prog) 22 3 i0 (.int .i64 0) Try.underlying22 hi hz0 .i64 .i64 0 (l.length + 12) (by omega) (by rw [hz2]; omega) (by omega) W
    rw [hz1] at h
    simpa using h
  go_enter Try.func19, Try.ntmps19
  go_wp2_with (first
    | ((with_reducible refine gate_builtin (b := .append) (xs := #[.tmp 9, .tmp 10]) rfl ?_); at_builtin
       refine append_fits _ rfl (.tmp 9) (.tmp 10) 22 rfl w.heap.size 3 (.int .i64 0) 8 Try.underlying22 info3 w.heap.size 0 (l.length + 12) [] rfl ?o1 A l.length c (nums .i64 l) rfl (by simp [nums]) (c_none HR.out) ?c1 (fun u hu => by simp only [nums, List.mem_map] at hu; obtain ⟨x, _, rfl⟩ := hu; rfl) (by omega) ?_
       (case o1 => exact ⟨rfl, .inr ⟨_, _, _, rfl, Nat.le_refl _, heap_alloc_new w _, by omega, by simp [maxLen]; omega, by simp [size_madeCells], by simp⟩⟩)
       (case c1 => intro ad hA; subst hA; exact c_cell (Kd.C_alloc HR.out _))
       intro w1 ho hg
       have HO := Aside0.mk ho
       have HB := Aside0.mk (below_grown (below_alloc (Below.refl _ _) _) hg (Nat.le_refl _))
       clear ho hg))
  go_loopw [3, 4] (fun v3 v4 w' => ∃ i : Nat, i ≤ 12 ∧ v4 = .int .i64 i ∧ v3 = .slice (some ⟨w.heap.size, 0, none⟩) (l.length + i) (l.length + 12) ∧ Aside0 (w'.ownsRow w.heap.size 3 1 (.slice (some ⟨w.heap.size, 0, none⟩) (l.length + i) (l.length + 12)) (l.length + i) (nums .i64 (l ++ marks 8000024 i))) ∧ Aside0 (Below w.heap.size w w')) (fun _ v4 _ => 12 - (intOf v4).toNat)
  case atStart => exact ⟨0, by omega, rfl, by simp, ⟨by have := HO.out; simpa [marks] using this⟩, HB⟩
  case round =>
    obtain ⟨i, hi12, rfl, rfl, HO, HB⟩ := hrel
    by_cases hlt : i < 12
    · have hmark := mark_1 i (by omega) (by omega)
      go_wp2_with (first
        | (go_at_call 42; refine (watershedkit_mark.calls 1 i _ _ hmark).mono ?_; rintro e w' ⟨rfl, ⟨nd, rfl⟩⟩)
        | ((with_reducible refine gate_builtin (b := .append) (xs := #[.tmp 16, .tmp 19]) rfl ?_); at_builtin
           refine append_fits _ rfl (.tmp 16) (.tmp 19) 22 rfl w.heap.size 3 (.int .i64 0) 8 Try.underlying22 info3 w.heap.size (l.length + i) (l.length + 12) (nums .i64 (l ++ marks 8000024 i)) rfl ?o1 (some ⟨wr.heap.size, 0, none⟩) 1 1 [.int .i64 (8000024 + i)] rfl rfl (by simp) ?c1 (by simp [Value.oneCell']) (by omega) ?_
           (case o1 => exact own_alloc (pw_own_drewN HO.out _) _)
           (case c1 => exact one_cell _ _)
           intro w1 ho hg
           have HO1 := Aside0.mk ho
           have HB1 := Aside0.mk (below_grown (below_alloc (pw_below_drewN HB.out _) _) hg (Nat.le_refl _))
           clear ho hg))
      go_roundw
      case rel => exact ⟨i + 1, by omega, by go_num, by simp; omega, ⟨by have := HO1.out; simpa [marks_succ, nums, Nat.add_assoc] using this⟩, HB1⟩
      case measure => simp [intOf]; omega
    · obtain rfl : i = 12 := by omega
      go_wp2
      go_ret
      refine ⟨_, rfl, ?_, Nat.le_refl _, HB.out⟩
      obtain ⟨hlen, h2⟩ := HO.out
      rcases h2 with ⟨h3, _⟩ | ⟨g, cap, cur, h3, _, h4, h5, _, h6, h7⟩
      · cases h3
      · injection h3 with h31 h32 h33
        injection h31 with h31
        injection h31 with h31
        subst h31 h33
        rw [h4]
        congr 2
        have h8 : cur.toList.take ((l.length + 12) * 1) = cur.toList := List.take_of_length_le (by simp; omega)
        rw [h8] at h7
        rw [← h7]
theorem kept_cell {w : World} {g : Nat} {l : List Int} {m : List Int} (h : w.heap[g]? = some (.cells (nums .i64 (l ++ m)).toArray 3 (0, 0))) (i : Nat) (hi : i < l.length + m.length) : w.cell? ⟨g, i, none⟩ = some (.int .i64 (rd (l ++ m) i)) := by
  rw [blk_cell h i]
  simp only [nums, List.getElem?_toArray, List.getElem?_map]
  have hl : i < (l ++ m).length := by simp; omega
  rw [List.getElem?_eq_getElem hl]
  simp [rd, List.getD_eq_getElem?_getD, List.getElem?_eq_getElem hl]
theorem rd_left (l m : List Int) (i : Nat) (h : i < l.length) : rd (l ++ m) i = rd l i := by
  simp [rd, List.getD_eq_getElem?_getD, List.getElem?_append_left h]
theorem rd_right (l : List Int) (b : Int) (n i : Nat) (h : l.length ≤ i) (h2 : i < l.length + n) : rd (l ++ marks b n) i = b + ((i : Int) - l.length) := by
  simp only [rd, List.getD_eq_getElem?_getD, Int.toNat_natCast]
  rw [List.getElem?_append_right h]
  have : i - l.length < n := by omega
  simp [marks, this]
  omega
theorem drawn_more {w w' : World} (h : Drawn0 w w') (n : Nat) : Drawn0 w (w'.drewN n) := by
  obtain ⟨m, rfl⟩ := h
  exact ⟨m + n, World.drewN_drewN _ _ _⟩
set_option maxHeartbeats 4000000 in
set_option maxRecDepth 100000 in
theorem kept_ints (g : Nat) (A : Option Addr) (c : Nat) (l : List Int) (w : World) (hg : w.heap[g]? = some (.cells (nums .i64 (l ++ marks 8000024 12)).toArray 3 (0, 0))) (hr : Kd.C (Kd.int .i64) w A l.length l) (hl : l.length ≤ 1000) :
    Calls Try.prog 31 #[.slice (some ⟨g, 0, none⟩) l.length (l.length + 12), .slice A l.length c] w fun e w' => e = .returned (.bool true) ∧ Drawn0 w w' := by
  have HR := Aside0.mk hr
  have HG := Aside0.mk hg
  clear hr hg
  go_enter Try.func31, Try.ntmps31
  go_wp2
  go_loopw [6] (fun v6 w' => ∃ i : Nat, i ≤ l.length + 12 ∧ v6 = .int .i64 i ∧ Drawn0 w w') (fun v6 _ => l.length + 12 - (intOf v6).toNat)
  case atStart => exact ⟨0, by omega, rfl, Drawn0.refl _⟩
  case round =>
    obtain ⟨i, hi, rfl, HD⟩ := hrel
    have HC : ∀ a, wr.cell? a = w.cell? a := by obtain ⟨m, rfl⟩ := HD; exact fun _ => rfl
    by_cases h1 : i < l.length
    · have hc1 := kept_cell HG.out i (by rw [marks_len]; omega)
      rw [rd_left _ _ _ h1, ← HC] at hc1
      obtain ⟨ad, e, hc2⟩ := Kd.at_int HR.out i (by omega) (by omega)
      subst e
      have h1' : decide ((i : Int) < (l.length : Int)) = true := decide_eq_true (by omega)
      have h2' : decide ((i : Int) < (l.length : Int) + 12) = true := decide_eq_true (by omega)
      have h3' : decide ((l.length : Int) ≤ (i : Int)) = false := decide_eq_false (by omega)
      rw [Int.toNat_natCast, ← HC] at hc2
      clear HC
      have n1 : decide (i < l.length) = true := decide_eq_true h1
      have n3 : decide (l.length ≤ i) = false := decide_eq_false (by omega)
      have b1 : (0 : Int) ≤ (i : Int) := by omega
      have b2 : (i : Int) < (l.length : Int) := by omega
      have b3 : (i : Int) < (l.length : Int) + 12 := by omega
      go_wp2
      go_quiet (fail)
      go_wp2
      go_roundw
      case rel => exact ⟨i + 1, by omega, by go_num, by first | exact HD | exact drawn_more HD _⟩
      case measure => simp [intOf]; omega
    · by_cases h2 : i < l.length + 12
      · have hc1 := kept_cell HG.out i (by rw [marks_len]; omega)
        rw [rd_right _ _ _ _ (by omega) h2, ← HC] at hc1
        clear HC
        have hmark := mark_1 ((i : Int) - l.length) (by omega) (by omega)
        have h1' : decide ((i : Int) < (l.length : Int)) = false := decide_eq_false (by omega)
        have h2' : decide ((i : Int) < (l.length : Int) + 12) = true := decide_eq_true (by omega)
        have h3' : decide ((l.length : Int) ≤ (i : Int)) = true := decide_eq_true (by omega)
        have HM := Aside0.mk hmark
        clear hmark
        have n1 : decide (i < l.length) = false := decide_eq_false h1
        have n3 : decide (l.length ≤ i) = true := decide_eq_true (by omega)
        have b1 : (0 : Int) ≤ (i : Int) := by omega
        have b2 : (l.length : Int) ≤ (i : Int) := by omega
        have b3 : (i : Int) < (l.length : Int) + 12 := by omega
        go_wp2
        go_quiet ((go_at_call 42; exact Calls.quiet_of ((watershedkit_mark.calls 1 ((i : Int) - l.length) _ _ HM.out).mono fun e w' ⟨he, hd⟩ => ⟨he, hd.out⟩)))
        go_wp2
        go_roundw
        case rel => exact ⟨i + 1, by omega, by go_num, by first | exact HD | exact drawn_more HD _⟩
        case measure => simp [intOf]; omega
      · obtain rfl : i = l.length + 12 := by omega
        go_wp2
        go_ret
        exact ⟨rfl, by first | exact HD | exact drawn_more HD _⟩
end Go.Proofs.Ytkilmclncpmjnaa.P06t
