-- Written by gprint.py, a program of this session, over the kit's print; the functions of my own contracts are marked GIVEN
import Derived.Test.YtbmnhpihlkljdaaZEP04ex0
import Derived.Test.YtbmnhpihlkljdaaZEP04ex1
import Derived.Test.YtbmnhpihlkljdaaZEP04ex6
namespace Go.Proofs.Ytbmnhpihlkljdaa.P04e
open Go.RowKit Go.Proofs.YtbmnhpihlkljdaaW.PrintWords Go.Proofs.YtbmnhpihlkljdaaW.PrintLast Go.Proofs.YtbmnhpihlkljdaaW.PrintMore
attribute [local go_sem] max2_str max2_int min2_int max_two min_two max_three min_three max_four min_four   -- for this text's walks alone
set_option linter.unusedVariables false
set_option linter.unusedSimpArgs false

attribute [local go_sem high] eqA26
/-! ### watershedkit_LentTexts: function 22 -/
-- GIVEN
def watershedkit_LentTexts.f (l0 : List ByteArray) : Option (List ByteArray) := some l0
theorem run_make_rowN {P : Program} (t e : TypeId) (i : TypeInfo) (z : Value) (ht : P.underlying t = some (.slice e)) (hi : P.info? e = some i) (hz : i.zero = some z)
    (kl kc : IntKind) (n c : Nat) (hnc : n ≤ c) (hbytes : i.bytes * c ≤ 281474976710656) (h63 : c ≤ 9223372036854775807) (w : World) :
    (Instr.makeSlice t (.int kl (n : Int)) (.int kc (c : Int))).run P w = .ok (.slice (some ⟨w.heap.size, 0, none⟩) n c) (w.alloc (.cells (madeCells z.cells (c * i.size)) e)) := by
  have hb : (i.bytes : Int) * (c : Int) ≤ 281474976710656 := by
    have h : ((i.bytes * c : Nat) : Int) ≤ 281474976710656 := by omega
    rwa [Int.natCast_mul] at h
  have hr := run_make (P := P) w t e i z ht hi hz kl kc n c (by omega) (by omega) hb (by omega)
  simp only [Int.toNat_natCast] at hr
  exact hr
/-! ### What is lent: texts -/
def mtxt (i : Int) : ByteArray := strOfNums (([35, (1 : Int) % 256, ((1 : Int) / 256) % 256, ((1 : Int) / 65536) % 256, 47, (i) % 256, (i / 256) % 256, (i / 65536) % 256] : List Int))
theorem mtxt_eq (i : Int) : watershedkit_markText.f 1 i = some (mtxt i) := rfl
def marksT (n : Nat) : List ByteArray := (List.range n).map fun i : Nat => mtxt (i : Int)
theorem marksT_succ (n : Nat) : marksT (n + 1) = marksT n ++ [mtxt (n : Int)] := by simp [marksT, List.range_succ]
theorem marksT_len (n : Nat) : (marksT n).length = n := by simp [marksT]
theorem run_append_of_nil {P : Program} (w : World) (base : Nat) (t ty e : TypeId) (i : TypeInfo) (size : Nat) (ht : P.underlying t = some (.slice e)) (hi : P.info? e = some i)
    (v : Value) (n : Nat) (xs : List Value) (hown : w.ownsRow base e size v n xs) (c : Nat) : (Builtin.append_ #[t, t] ty #[v, .slice none 0 c]).run P w = .ok v w := by
  rcases hown.2 with ⟨rfl, rfl⟩ | ⟨g, cap, cur, rfl, _, _, hnc, _⟩
  · simp [Builtin.append_, run_underlying ht, sizeOf, typeInfo, hi, Builtin.lenOf, Builtin.firstCells]
  · simp [Builtin.append_, run_underlying ht, sizeOf, typeInfo, hi, Builtin.lenOf, Builtin.firstCells, hnc, storeCells]
/-- append within the capacity, whatever the source's address. -/
theorem append_fits {P : Program} (w : World) {ops : Array Oper} {rest : List Oper} {o : Oper} {a : Act} {Q : Exit → Act → World → Prop}
    (hg : o.guard = none) (s x : Operand) (t : TypeId) (hop : o.op = Op.call { callee := Callee.builtin Builtin.append, args := #[s, x], argTypes := #[t, t] })
    (base : Nat) (e : TypeId) (z : Value) (bytes : Nat) (h1 : P.underlying t = some (.slice e)) (hinfo : (P.info? e).map (fun i => (i.zero, i.size, i.bytes)) = some (some z, 1, bytes))
    (g k cap : Nat) (xs : List Value) (hs : a.eval s = .slice (some ⟨g, 0, none⟩) k cap) (hown : w.ownsRow base e 1 (.slice (some ⟨g, 0, none⟩) k cap) k xs) (ao : Option Addr) (m c : Nat) (news : List Value) (hx : a.eval x = .slice ao m c) (hn : news.length = m)
    (hnone : ao = none → m = 0) (hc : ∀ ad, ao = some ad → ∀ j u, news[j]? = some u → w.cell? (ad.add j) = some u) (h1c : ∀ u ∈ news, u.oneCell' = true) (b1 : k + m ≤ cap)
    (hK : ∀ w', w'.ownsRow base e 1 (.slice (some ⟨g, 0, none⟩) (k + m) cap) (k + m) (xs ++ news) → w.grownBy w' (some g) → wpList P ops Q rest (a.put o.dst (.slice (some ⟨g, 0, none⟩) (k + m) cap)) w') :
    wpList P ops Q (o :: rest) a w := by
  obtain ⟨i, hi, hzz⟩ := Option.map_eq_some_iff.1 hinfo
  simp only [Prod.mk.injEq] at hzz
  obtain ⟨_, hz1, _⟩ := hzz
  cases ao with
  | some ad => exact wpList_append_fits w hg s x t hop base e i 1 h1 hi hz1 g k cap xs hs hown ad m c news hx (by omega) (hc ad rfl) h1c b1 hK
  | none =>
    have hm := hnone rfl
    subst hm
    have hnews : news = [] := List.eq_nil_of_length_eq_zero (by simpa using hn)
    subst hnews
    refine wpList_plain hg fun K hK' => ?_
    have hrun := run_append_of_nil (P := P) w base t o.type e i 1 h1 hi _ k xs hown c
    unfold Oper.wp execOp
    simp only [hop, resolve, invoke, builtin, Sem.run_bind, Sem.run_pure, Result.andThen_ok, List.map_toArray, List.map_cons, List.map_nil, hs, hx, hrun]
    exact hK' _ _ (hK w (by simpa using hown) (World.grownBy.refl w _))
theorem c_none {w : World} {A : Option Addr} {n : Nat} {l : List ByteArray} (h : Kd.C Kd.string w A n l) (hA : A = none) : n = 0 := by
  rcases Nat.eq_zero_or_pos n with h0 | h0
  · exact h0
  · obtain ⟨ad, e, _⟩ := h.2.2 h0
    rw [hA] at e
    cases e
theorem c_cell {w : World} {ad : Addr} {n : Nat} {l : List ByteArray} (h : Kd.C Kd.string w (some ad) n l) (j : Nat) (u : Value) (hj : (pw_strs l)[j]? = some u) : w.cell? (ad.add j) = some u := by
  simp only [pw_strs, List.getElem?_map, Option.map_eq_some_iff] at hj
  obtain ⟨x, hx, rfl⟩ := hj
  have hjl := (List.getElem?_eq_some_iff.1 hx).1
  obtain ⟨ad', e, hc⟩ := h.2.2 (by have := h.1; omega)
  obtain rfl : ad = ad' := by injection e
  obtain ⟨c, hs, hr, hcell⟩ := hc j x hx
  have hr' : c = [.string x] := hr
  subst hr'
  have := hcell 0 _ rfl
  simpa [Kd.string, Kd.scalar] using this
theorem one_cell (W : World) (x : ByteArray) : ∀ ad, some (⟨W.heap.size, 0, none⟩ : Addr) = some ad → ∀ (j : Nat) (u : Value), ([Value.string x] : List Value)[j]? = some u → (W.alloc (.cells #[.string x] 9)).cell? (ad.add j) = some u := by
  intro ad hA j u hj
  cases hA
  cases j with
  | zero =>
    simp only [List.getElem?_cons_zero, Option.some.injEq] at hj
    subst hj
    exact (blk_cell (heap_alloc_new W (.cells #[.string x] 9)) 0).trans rfl
  | succ j => simp at hj
theorem below_grown {w W W1 : World} {g : Nat} (h : Below w.heap.size w W) (hg : W.grownBy W1 (some g)) (hle : w.heap.size ≤ g) : Below w.heap.size w W1 := h.grown hg h.size (fun k e => by cases e; exact hle)
theorem infoT9 : (Try.prog.info? 9).map (fun i => (i.zero, i.size, i.bytes)) = some (some (.string ⟨#[]⟩), 1, 16) := by kernel_rfl
/-- What is lent is read as what it was lent for. -/
theorem c_blkT {W : World} {g : Nat} (l : List ByteArray) (h : W.heap[g]? = some (.cells (pw_strs l).toArray 9 (0, 0))) (hm : l.length ≤ 9223372036854775807) : Kd.C Kd.string W (some ⟨g, 0, none⟩) l.length l := by
  refine ⟨rfl, by omega, fun _ => ⟨_, rfl, fun j p hj => ⟨[.string p], rfl, rfl, fun i u hu => ?_⟩⟩⟩
  cases i with
  | zero =>
    have hu' : u = .string p := by simpa using hu.symm
    subst hu'
    have h2 := blk_cell h j
    simp only [Kd.string, Kd.scalar, Nat.mul_one, Nat.add_zero]
    have h3 : (⟨g, 0, none⟩ : Addr).add j = ⟨g, j, none⟩ := by unfold Addr.add; split <;> simp_all
    rw [h3, h2]
    simp only [pw_strs, List.getElem?_toArray, List.getElem?_map]
    rw [hj]
    rfl
  | succ i => simp at hu
theorem c_preT {W : World} {A : Option Addr} (l m : List ByteArray) (h : Kd.C Kd.string W A (l ++ m).length (l ++ m)) : Kd.C Kd.string W A l.length l := by
  obtain ⟨_, h2, h3⟩ := h
  refine ⟨rfl, by simp at h2; omega, fun hp => ?_⟩
  obtain ⟨ad, e, hc⟩ := h3 (by simp; omega)
  exact ⟨ad, e, fun j p hj => hc j p (by rw [List.getElem?_append_left (List.getElem?_eq_some_iff.1 hj).1]; exact hj)⟩
set_option maxHeartbeats 2000000 in
set_option maxRecDepth 100000 in
theorem lent_texts (A : Option Addr) (c : Nat) (l : List ByteArray) (w : World) (hr : Kd.C Kd.string w A l.length l) (hl : l.length ≤ 8796093022204) :
    Calls Try.prog 22 #[.slice A l.length c] w fun e w' => ∃ g, e = .returned (.slice (some ⟨g, 0, none⟩) l.length (l.length + 12)) ∧ Kd.C Kd.string w' (some ⟨g, 0, none⟩) (l ++ marksT 12).length (l ++ marksT 12) ∧ Below w.heap.size w w' := by
  have HR := Aside0.mk hr
  clear hr
  obtain ⟨i0, hi, hzz⟩ := Option.map_eq_some_iff.1 infoT9
  simp only [Prod.mk.injEq] at hzz
  obtain ⟨hz0, hz1, hz2⟩ := hzz
  have hmk : ∀ W : World, (Instr.makeSlice 24 (.int .i64 0) (.int .i64 ((l.length : Int) + 12))).run Try.prog W = .ok (.slice (some ⟨W.heap.size, 0, none⟩) 0 (l.length + 12)) (W.alloc (.cells (madeCells (Value.string ⟨#[]⟩).cells ((l.length + 12) * 1)) 9)) := fun W => by
    have h := run_make_rowN (P := Try.prog) 24 9 i0 (.string ⟨#[]⟩) Try.underlying24 hi hz0 .i64 .i64 0 (l.length + 12) (by omega) (by rw [hz2]; omega) (by omega) W
    rw [hz1] at h
    simpa using h
  go_enter Try.func22, Try.ntmps22
  go_wp2_with (first
    | ((with_reducible refine gate_builtin (b := .append) (xs := #[.tmp 9, .tmp 10]) rfl ?_); at_builtin
       refine append_fits _ rfl (.tmp 9) (.tmp 10) 24 rfl w.heap.size 9 (.string ⟨#[]⟩) 16 Try.underlying24 infoT9 w.heap.size 0 (l.length + 12) [] rfl ?o1 A l.length c (pw_strs l) rfl (by simp [pw_strs]) (c_none HR.out) ?c1 (fun u hu => by simp only [pw_strs, List.mem_map] at hu; obtain ⟨x, _, rfl⟩ := hu; rfl) (by omega) ?_
       (case o1 => exact ⟨rfl, .inr ⟨_, _, _, rfl, Nat.le_refl _, heap_alloc_new w _, by omega, by simp [maxLen]; omega, by simp [size_madeCells], by simp⟩⟩)
       (case c1 => intro ad hA; subst hA; exact c_cell (Kd.C_alloc HR.out _))
       intro w1 ho hg
       have HO := Aside0.mk ho
       have HB := Aside0.mk (below_grown (below_alloc (Below.refl _ _) _) hg (Nat.le_refl _))
       clear ho hg))
  go_loopw [3, 4] (fun v3 v4 w' => ∃ i : Nat, i ≤ 12 ∧ v4 = .int .i64 i ∧ v3 = .slice (some ⟨w.heap.size, 0, none⟩) (l.length + i) (l.length + 12) ∧ Aside0 (w'.ownsRow w.heap.size 9 1 (.slice (some ⟨w.heap.size, 0, none⟩) (l.length + i) (l.length + 12)) (l.length + i) (pw_strs (l ++ marksT i))) ∧ Aside0 (Below w.heap.size w w')) (fun _ v4 _ => 12 - (intOf v4).toNat)
  case atStart => exact ⟨0, by omega, rfl, by simp, ⟨by have := HO.out; simpa [marksT] using this⟩, HB⟩
  case round =>
    obtain ⟨i, hi12, rfl, rfl, HO, HB⟩ := hrel
    by_cases hlt : i < 12
    · go_wp2_with (first
        | (go_at_call 33; refine (watershedkit_markText.calls 1 i (mtxt i) _ (mtxt_eq i)).mono ?_; rintro e wm ⟨rfl, hb⟩; have HO0 := Aside0.mk (pw_own_below HO.out hb); have HB0 := Aside0.mk (below_step HB.out hb); clear hb)
        | ((with_reducible refine gate_builtin (b := .append) (xs := #[.tmp 16, .tmp 19]) rfl ?_); at_builtin
           refine append_fits _ rfl (.tmp 16) (.tmp 19) 24 rfl w.heap.size 9 (.string ⟨#[]⟩) 16 Try.underlying24 infoT9 w.heap.size (l.length + i) (l.length + 12) (pw_strs (l ++ marksT i)) rfl ?o1 (some ⟨wm.heap.size, 0, none⟩) 1 1 [.string (mtxt i)] rfl rfl (by simp) ?c1 (by simp [Value.oneCell']) (by omega) ?_
           (case o1 => exact own_alloc HO0.out _)
           (case c1 => exact one_cell _ _)
           intro w1 ho hg
           have HO1 := Aside0.mk ho
           have HB1 := Aside0.mk (below_grown (below_alloc HB0.out _) hg (Nat.le_refl _))
           clear ho hg))
      go_roundw
      case rel => exact ⟨i + 1, by omega, by go_num, by simp; omega, ⟨by have := HO1.out; simpa [marksT_succ, pw_strs, Nat.add_assoc] using this⟩, HB1⟩
      case measure => simp [intOf]; omega
    · obtain rfl : i = 12 := by omega
      go_wp2
      go_ret
      refine ⟨_, rfl, ?_, HB.out⟩
      obtain ⟨hlen, h2⟩ := HO.out
      rcases h2 with ⟨h3, _⟩ | ⟨g, cap, cur, h3, _, h4, h5, _, h6, h7⟩
      · cases h3
      · injection h3 with h31 h32 h33
        injection h31 with h31
        injection h31 with h31
        subst h31 h33
        refine c_blkT _ ?_ (by rw [List.length_append, marksT_len]; omega)
        rw [h4]
        congr 2
        have h8 : cur.toList.take ((l.length + 12) * 1) = cur.toList := List.take_of_length_le (by simp; omega)
        rw [h8] at h7
        rw [← h7]

theorem Am23 : type_of% @Aside0.mk := @Aside0.mk
/-! ### watershedlaw04_same: function 23 -/
def watershedlaw04_same.l0 : Nat → List (S26) → List (S26) → Int → Option (Bool)
 | 0, _, _, _ => none
 | k + 1, x0, x1, x5 => if x5 < (x0.length : Int) then (if 0 ≤ x5 then (if x5 < (x1.length : Int) then (if (!((((rd_T26 x0 x5).f0).toList) == (((rd_T26 x1 x5).f0).toList)) || (!((((rd_T26 x0 x5).f1).toList) == (((rd_T26 x1 x5).f1).toList)))) = true then (some false) else (watershedlaw04_same.l0 k x0 x1 (wrap64 (x5 + 1)))) else (none)) else (none)) else (some true)
def watershedlaw04_same.f (k : Nat) (l0 : List (S26)) (l1 : List (S26)) : Option (Bool) := if (l0.length : Int) = (l1.length : Int) then (watershedlaw04_same.l0 k l0 l1 0) else (some false)
theorem watershedlaw04_same.mono_l : ∀ k, (∀ y0 y1 y2, LeO (watershedlaw04_same.l0 k y0 y1 y2) (watershedlaw04_same.l0 (k + 1) y0 y1 y2))
 | 0 => fun _ _ _ r h => by simp [watershedlaw04_same.l0] at h
 | k + 1 => by
  have ih0 := watershedlaw04_same.mono_l k
  ·intro y0 y1 y2
   unfold watershedlaw04_same.l0
   repeat' first
   | (with_reducible exact ih0 _ _ _)
   | (with_reducible exact LeO.refl _)
   | (with_reducible exact LeO.none _)
   | (with_reducible refine LeO.ite ?_ ?_)
   | (with_reducible refine LeO.bind ?_ (fun _ => ?_))
   | exact ih0 _ _ _
   | exact LeO.none _
   | refine LeO.ite ?_ ?_
   | refine LeO.bind ?_ (fun _ => ?_)
theorem watershedlaw04_same.mono : ∀ a0 a1 k, LeO (watershedlaw04_same.f k a0 a1) (watershedlaw04_same.f (k + 1) a0 a1) := by
 intro a0 a1 k
 have ih0 := watershedlaw04_same.mono_l k
 unfold watershedlaw04_same.f
 repeat' first
   | (with_reducible exact ih0 _ _ _)
   | (with_reducible exact LeO.refl _)
   | (with_reducible exact LeO.none _)
   | (with_reducible refine LeO.ite ?_ ?_)
   | (with_reducible refine LeO.bind ?_ (fun _ => ?_))
   | exact ih0 _ _ _
   | exact LeO.none _
   | refine LeO.ite ?_ ?_
   | refine LeO.bind ?_ (fun _ => ?_)
set_option maxHeartbeats 8000000 in
set_option maxRecDepth 100000 in
theorem watershedlaw04_same.calls (k : Nat) (A0 : Option Addr) (c0 : Nat) (l0 : List (S26)) (A1 : Option Addr) (c1 : Nat) (l1 : List (S26)) (r : Bool) (w : World) (hr0 : Kd.C k26 w A0 l0.length l0) (hc0 : l0.length ≤ c0) (hr1 : Kd.C k26 w A1 l1.length l1) (hc1 : l1.length ≤ c1) (h : watershedlaw04_same.f k l0 l1 = some r) :
  Calls Try.prog 23 #[.slice A0 l0.length c0, .slice A1 l1.length c1] w fun e w' => e = .returned (.bool r) ∧ Drawn0 w w' := by
 have hu26 := Try.underlying26
 have HR0 := Am23 hr0
 have HC0 := Am23 hc0
 clear hr0 hc0
 have HR1 := Am23 hr1
 have HC1 := Am23 hc1
 clear hr1 hc1
 have H : (if (l0.length : Int) = (l1.length : Int) then (watershedlaw04_same.l0 k l0 l1 0) else (some false)) = some r := h
 clear h
 by_cases c3 : (l0.length : Int) = (l1.length : Int)
 ·rw [if_pos c3] at H
  have c3b0 : ((l0.length : Int) == (l1.length : Int)) = true := beq_iff_eq.mpr c3
  have c3b1 : ((l0.length : Int) != (l1.length : Int)) = false := bne_eq_false_iff_eq.mpr c3
  have c3b2 : (l0.length == l1.length) = true := by first | simpa using c3 | (simp at c3 ⊢; omega)
  clear c3
  have H' := Am23 H
  clear H
  go_enter Try.func23, Try.ntmps23
  go_wp2
  repeat (go_quiet (fail); try go_wp2)
  go_loopg [5] k (fun kq v5 w' => ∃ (x5_1 : Int), v5 = .int .i64 x5_1 ∧ Aside0 (watershedlaw04_same.l0 kq l0 l1 x5_1 = some r) ∧ Aside0 (kq ≤ k) ∧ Drawn0 w w')
  case atStart => exact ⟨(0), (by first | rfl | (simp; done) | (simp [*]; done)), H', ⟨Nat.le_refl _⟩, by repeat (first | exact Drawn0.refl _ | apply Drawn0.step)⟩
  case round =>
   clear H'
   try clear c1
   try clear c2
   try clear p2
   try clear c3
   try clear c3b0
   try clear c3b1
   try clear c3b2
   obtain ⟨x5_1, rfl, HA, HK1, ⟨m1, rfl⟩⟩ := hrel
   cases gk with
   | zero => exact absurd HA.out (by simp [watershedlaw04_same.l0])
   | succ k1 =>
    have H := HA.out
    clear HA
    simp only [watershedlaw04_same.l0] at H
    by_cases c4 : x5_1 < (l0.length : Int)
    ·rw [if_pos c4] at H
     have c4b0 : decide (x5_1 < (l0.length : Int)) = true := decide_eq_true c4
     clear c4
     by_cases c5 : 0 ≤ x5_1
     ·rw [if_pos c5] at H
      have c5b0 : decide (0 ≤ x5_1) = true := decide_eq_true c5
      clear c5
      by_cases c6 : x5_1 < (l1.length : Int)
      ·rw [if_pos c6] at H
       have c6b0 : decide (x5_1 < (l1.length : Int)) = true := decide_eq_true c6
       clear c6
       by_cases c7 : (!((((rd_T26 l0 x5_1).f0).toList) == (((rd_T26 l1 x5_1).f0).toList)) || (!((((rd_T26 l0 x5_1).f1).toList) == (((rd_T26 l1 x5_1).f1).toList)))) = true
       ·rw [if_pos c7] at H
        have c7b0 : (!((((rd_T26 l0 x5_1).f0).toList) == (((rd_T26 l1 x5_1).f0).toList)) || (!((((rd_T26 l0 x5_1).f1).toList) == (((rd_T26 l1 x5_1).f1).toList)))) = true := c7
        clear c7
        obtain rfl := Option.some.inj H
        have p198 : 0 ≤ (x5_1 : Int) := of_decide_eq_true (by first | (with_reducible assumption) | assumption)
        have q198 : x5_1 < (l0.length : Int) := of_decide_eq_true (by first | (with_reducible assumption) | assumption)
        obtain ⟨ad198, e198, hx198_0, hx198_1⟩ := at_T26 HR0.out x5_1 p198 q198
        cases e198
        replace p198 := eq_true p198
        replace q198 := eq_true q198
        have p199 : 0 ≤ (x5_1 : Int) := of_decide_eq_true (by first | (with_reducible assumption) | assumption)
        have q199 : x5_1 < (l1.length : Int) := of_decide_eq_true (by first | (with_reducible assumption) | assumption)
        obtain ⟨ad199, e199, hx199_0, hx199_1⟩ := at_T26 HR1.out x5_1 p199 q199
        cases e199
        replace p199 := eq_true p199
        replace q199 := eq_true q199
        go_wp2
        repeat (go_quiet (fail); try go_wp2)
        go_ret
        exact ⟨by first | rfl | (simp; done) | (simp [*]; done), by repeat (first | exact Drawn0.refl _ | apply Drawn0.step)⟩
       ·rw [if_neg c7] at H
        have c7b0 : (!((((rd_T26 l0 x5_1).f0).toList) == (((rd_T26 l1 x5_1).f0).toList)) || (!((((rd_T26 l0 x5_1).f1).toList) == (((rd_T26 l1 x5_1).f1).toList)))) = false := by simpa using c7
        clear c7
        have H' := Am23 H
        clear H
        have p198 : 0 ≤ (x5_1 : Int) := of_decide_eq_true (by first | (with_reducible assumption) | assumption)
        have q198 : x5_1 < (l0.length : Int) := of_decide_eq_true (by first | (with_reducible assumption) | assumption)
        obtain ⟨ad198, e198, hx198_0, hx198_1⟩ := at_T26 HR0.out x5_1 p198 q198
        cases e198
        replace p198 := eq_true p198
        replace q198 := eq_true q198
        have p199 : 0 ≤ (x5_1 : Int) := of_decide_eq_true (by first | (with_reducible assumption) | assumption)
        have q199 : x5_1 < (l1.length : Int) := of_decide_eq_true (by first | (with_reducible assumption) | assumption)
        obtain ⟨ad199, e199, hx199_0, hx199_1⟩ := at_T26 HR1.out x5_1 p199 q199
        cases e199
        replace p199 := eq_true p199
        replace q199 := eq_true q199
        go_wp2
        repeat (go_quiet (fail); try go_wp2)
        go_roundg k1
        case measure => have := HK1.out; omega
        case rel => exact ⟨(wrap64 (x5_1 + 1)), (by first | rfl | (simp; done) | (simp [*]; done)), H', ⟨by have := HK1.out; omega⟩, by repeat (first | exact Drawn0.refl _ | apply Drawn0.step)⟩
      ·rw [if_neg c6] at H
       exact absurd H (by simp)
     ·rw [if_neg c5] at H
      exact absurd H (by simp)
    ·rw [if_neg c4] at H
     have c4b0 : decide (x5_1 < (l0.length : Int)) = false := decide_eq_false c4
     clear c4
     obtain rfl := Option.some.inj H
     go_wp2
     repeat (go_quiet (fail); try go_wp2)
     go_ret
     exact ⟨by first | rfl | (simp; done) | (simp [*]; done), by repeat (first | exact Drawn0.refl _ | apply Drawn0.step)⟩
 ·rw [if_neg c3] at H
  have c3b0 : ((l0.length : Int) == (l1.length : Int)) = false := beq_eq_false_iff_ne.mpr c3
  have c3b1 : ((l0.length : Int) != (l1.length : Int)) = true := bne_iff_ne.mpr c3
  have c3b2 : (l0.length == l1.length) = false := by first | simpa using c3 | (simp at c3 ⊢; omega)
  obtain rfl := Option.some.inj H
  go_enter Try.func23, Try.ntmps23
  go_wp2
  repeat (go_quiet (fail); try go_wp2)
  go_ret
  exact ⟨by first | rfl | (simp; done) | (simp [*]; done), by repeat (first | exact Drawn0.refl _ | apply Drawn0.step)⟩

end Go.Proofs.Ytbmnhpihlkljdaa.P04e
