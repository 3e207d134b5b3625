import Derived.Test.YtkilmclncpmjnaaZQAPureZ
namespace Go.Proofs.Ytkilmclncpmjnaa.P06t
open Go.RowKit Go.Proofs.YtkilmclncpmjnaaW.PrintWords Go.Proofs.YtkilmclncpmjnaaW.PrintLast Go.Proofs.YtkilmclncpmjnaaW.PrintMore
attribute [local go_sem] max2_int min2_int max_two min_two max_three min_three max_four min_four   -- for this text's walks alone
set_option linter.unusedVariables false
set_option linter.unusedSimpArgs false
theorem Am32 : type_of% @Aside0.mk := @Aside0.mk
theorem Ra32 : type_of% @Kd.R_alloc := @Kd.R_alloc
theorem Rn32 : type_of% @Kd.R_drewN := @Kd.R_drewN
theorem Rd32 : type_of% @Kd.R_drew := @Kd.R_drew
theorem ba32 : type_of% @below_alloc := @below_alloc
theorem bn32 : type_of% @pw_below_drewN := @pw_below_drewN
theorem bd32 : type_of% @below_drew1 := @below_drew1
theorem bz32 : type_of% @below_size := @below_size
/-! ### watershedlaw06_row: function 32 -/
def watershedlaw06_row.l0 : Nat → Int → List Int → Int → Option (List Int)
 | 0, _, _, _ => none
 | k + 1, x0, x3, x4 => if x4 < 4 then (if 0 ≤ (IntKind.u64.wrap (x4)) then (if (Go.bits .and .i64 (shr .i64 x0 (IntKind.u64.wrap (x4))) 1) = 1 then (if x3.length < 17592186044416 then (watershedlaw06_row.l0 k x0 (x3 ++ [wrap64 (x4 + 1)]) (wrap64 (x4 + 1))) else (none)) else (watershedlaw06_row.l0 k x0 x3 (wrap64 (x4 + 1)))) else (none)) else (some x3)
def watershedlaw06_row.f (k : Nat) (a0 : Int) : Option (List Int) := watershedlaw06_row.l0 k a0 ([] : List Int) 0
theorem watershedlaw06_row.mono_l : ∀ k, (∀ y0 y1 y2, LeO (watershedlaw06_row.l0 k y0 y1 y2) (watershedlaw06_row.l0 (k + 1) y0 y1 y2))
 | 0 => fun _ _ _ r h => by simp [watershedlaw06_row.l0] at h
 | k + 1 => by
  have ih0 := watershedlaw06_row.mono_l k
  ·intro y0 y1 y2
   unfold watershedlaw06_row.l0
   repeat' first
   | (with_reducible exact ih0 _ _ _)
   | (with_reducible exact LeO.refl _)
   | (with_reducible exact LeO.none _)
   | (with_reducible refine LeO.ite ?_ ?_)
   | (with_reducible refine LeO.bind ?_ (fun _ => ?_))
   | exact ih0 _ _ _
   | exact LeO.none _
   | refine LeO.ite ?_ ?_
   | refine LeO.bind ?_ (fun _ => ?_)
theorem watershedlaw06_row.mono : ∀ a0 k, LeO (watershedlaw06_row.f k a0) (watershedlaw06_row.f (k + 1) a0) := by
 intro a0 k
 have ih0 := watershedlaw06_row.mono_l k
 unfold watershedlaw06_row.f
 repeat' first
   | (with_reducible exact ih0 _ _ _)
   | (with_reducible exact LeO.refl _)
   | (with_reducible exact LeO.none _)
   | (with_reducible refine LeO.ite ?_ ?_)
   | (with_reducible refine LeO.bind ?_ (fun _ => ?_))
   | exact ih0 _ _ _
   | exact LeO.none _
   | refine LeO.ite ?_ ?_
   | refine LeO.bind ?_ (fun _ => ?_)
set_option maxHeartbeats 8000000 in
set_option maxRecDepth 100000 in
theorem watershedlaw06_row.calls (k : Nat) (a0 : Int) (r : List Int) (w : World) (h : watershedlaw06_row.f k a0 = some r) :
  Calls Try.prog 32 #[.int .i64 a0] w fun e w' => ∃ v0_ : Value, e = .returned (v0_) ∧ Kd.R (Kd.int .i64) 3 w' w.heap.size (fun _ => True) v0_ r ∧ Below w.heap.size w w' := by
 have HB := Am32 (Below.refl w.heap.size w)
 have H : (watershedlaw06_row.l0 k a0 ([] : List Int) 0) = some r := h
 clear h
 have H' := Am32 H
 clear H
 go_enter Try.func32, Try.ntmps32
 go_wp2
 go_loopg [3, 4] k (fun kq v3 v4 w' => ∃ (x3_1 : List Int) (x4_1 : Int), v4 = .int .i64 x4_1 ∧ Aside0 (watershedlaw06_row.l0 kq a0 x3_1 x4_1 = some r) ∧ Aside0 (kq ≤ k) ∧ Aside0 (Kd.R (Kd.int .i64) 3 w' w.heap.size (fun _ => True) v3 x3_1) ∧ Aside0 (Below w.heap.size w w'))
 case atStart => exact ⟨(([] : List Int)), (0), (by first | rfl | (simp; done) | (simp [*]; done)), H', ⟨Nat.le_refl _⟩, ⟨by first | exact Kd.R_nil _ _ _ _ _ | exact Kd.N_nil _ _ _ _ _ | exact Kd.V_nil _ _ _ _ _ | exact Kd.Q_nil _ _ _ _ _ | exact Kd.S_nil _ _ _ _ _⟩, ⟨by repeat (first | (with_reducible first | exact HB.out | apply ba32 | apply bn32 | apply bd32) | exact HB.out)⟩⟩
 case round =>
  clear H'
  obtain ⟨x3_1, x4_1, rfl, HA, HK1, HO_3, HB⟩ := hrel
  cases gk with
  | zero => exact absurd HA.out (by simp [watershedlaw06_row.l0])
  | succ k1 =>
   have H := HA.out
   clear HA
   simp only [watershedlaw06_row.l0] at H
   by_cases c2 : x4_1 < 4
   ·rw [if_pos c2] at H
    have c2b0 : decide (x4_1 < 4) = true := decide_eq_true c2
    clear c2
    obtain ⟨ji3, hji3⟩ : ∃ j_ : Int, (IntKind.u64.wrap (x4_1)) = j_ := ⟨_, rfl⟩
    replace H : (if 0 ≤ (ji3) then (if (Go.bits .and .i64 (shr .i64 a0 (ji3)) 1) = 1 then (if x3_1.length < 17592186044416 then (watershedlaw06_row.l0 k1 a0 (x3_1 ++ [wrap64 (x4_1 + 1)]) (wrap64 (x4_1 + 1))) else (none)) else (watershedlaw06_row.l0 k1 a0 x3_1 (wrap64 (x4_1 + 1)))) else (none)) = some r := by first | (rw [hji3] at H; exact H) | (simp only [hji3] at H ⊢; exact H)
    by_cases c4 : 0 ≤ (ji3)
    ·rw [if_pos c4] at H
     have c4b0 := eq_true c4
     have c4b1 : decide (0 ≤ (ji3)) = true := decide_eq_true c4
     clear c4
     obtain ⟨ji5, hji5⟩ : ∃ j_ : Int, (shr .i64 a0 (ji3)) = j_ := ⟨_, rfl⟩
     replace H : (if (Go.bits .and .i64 (ji5) 1) = 1 then (if x3_1.length < 17592186044416 then (watershedlaw06_row.l0 k1 a0 (x3_1 ++ [wrap64 (x4_1 + 1)]) (wrap64 (x4_1 + 1))) else (none)) else (watershedlaw06_row.l0 k1 a0 x3_1 (wrap64 (x4_1 + 1)))) = some r := by first | (rw [hji5] at H; exact H) | (simp only [hji5] at H ⊢; exact H)
     have hji5_ : (a0 / 2 ^ min (ji3).toNat 64) = ji5 := hji5
     have hji5z : (ji3) ≤ 64 → (a0 / 2 ^ (ji3).toNat) = ji5 := shr_small hji5
     by_cases c6 : (Go.bits .and .i64 (ji5) 1) = 1
     ·rw [if_pos c6] at H
      have c6b0 : ((Go.bits .and .i64 (ji5) 1) == 1) = true := beq_iff_eq.mpr c6
      have c6b1 : ((Go.bits .and .i64 (ji5) 1) != 1) = false := bne_eq_false_iff_eq.mpr c6
      clear c6
      by_cases c7 : x3_1.length < 17592186044416
      ·rw [if_pos c7] at H
       have LMc7 := Am32 c7
       clear c7
       obtain ⟨y179, hy179⟩ : ∃ y_ : List Int, y_ = (x3_1 ++ [wrap64 (x4_1 + 1)]) := ⟨_, rfl⟩
       replace H : (watershedlaw06_row.l0 k1 a0 y179 (wrap64 (x4_1 + 1))) = some r := by first | (rw [hy179]; with_reducible exact H) | (have H2_ := (Option.bind_some _ _).symm.trans H; rw [hy179]; with_reducible exact H2_) | (have H2_ := (Option.bind_some _ _).symm.trans H; with_reducible exact H2_) | with_reducible exact H | (rw [hy179]; exact H) | exact H
       have Ny179 := Am32 hy179
       clear hy179
       have H' := Am32 H
       clear H
       go_wp2_with (first | ((with_reducible refine gate_builtin (b:=.append) (xs:=#[.tmp 15, .tmp 18]) rfl ?_); at_builtin; refine Kd.R_append (Kd.int .i64) (w0:=w) w.heap.size rfl (.tmp 15) (.tmp 18) 22 3 (.int .i64 0) 8 rfl Try.underlying22 info3 rfl (by decide) (by omega) u3 x3_1 (wrap64 (x4_1 + 1)) [.int .i64 (wrap64 (x4_1 + 1))] (fun _ => True) (fun _ => False) rfl rfl ?aP (fun _ hk => hk.elim) ?aF ?aO ?aB ?aS ?aL ?_; (case aP => exact rfl); (case aB => exact (by repeat (first | (with_reducible first | exact HB.out | apply ba32 | apply bn32 | apply bd32) | exact HB.out))); (case aF => exact (fun _ _ => trivial)); (case aO => exact (by (with_reducible repeat first | apply Ra32 | apply Rn32 | apply Rd32); exact HO_3.out)); (case aS => exact (bz32 (by repeat (first | (with_reducible first | exact HB.out | apply ba32 | apply bn32 | apply bd32) | exact HB.out)))); (case aL => have := LMc7.out; omega); intro v180 w8 ho hb hg hat; rw [← Ny179.out] at ho; have n0_ := Am32 (hb); have n1_ := Am32 (ho); clear HB; clear HO_3; have HB := n0_; have HO181 := n1_; clear n0_ n1_; clear ho hb hg hat))
       go_roundg k1
       case measure => have := HK1.out; omega
       case rel => exact ⟨(y179), (wrap64 (x4_1 + 1)), (by first | rfl | (simp; done) | (simp [*]; done)), H', ⟨by have := HK1.out; omega⟩, ⟨by (with_reducible repeat first | apply Ra32 | apply Rn32 | apply Rd32); exact HO181.out⟩, ⟨by repeat (first | (with_reducible first | exact HB.out | apply ba32 | apply bn32 | apply bd32) | exact HB.out)⟩⟩
      ·rw [if_neg c7] at H
       exact absurd H (by simp)
     ·rw [if_neg c6] at H
      have c6b0 : ((Go.bits .and .i64 (ji5) 1) == 1) = false := beq_eq_false_iff_ne.mpr c6
      have c6b1 : ((Go.bits .and .i64 (ji5) 1) != 1) = true := bne_iff_ne.mpr c6
      have H' := Am32 H
      clear H
      go_wp2
      go_roundg k1
      case measure => have := HK1.out; omega
      case rel => exact ⟨(x3_1), (wrap64 (x4_1 + 1)), (by first | rfl | (simp; done) | (simp [*]; done)), H', ⟨by have := HK1.out; omega⟩, ⟨by (with_reducible repeat first | apply Ra32 | apply Rn32 | apply Rd32); exact HO_3.out⟩, ⟨by repeat (first | (with_reducible first | exact HB.out | apply ba32 | apply bn32 | apply bd32) | exact HB.out)⟩⟩
    ·rw [if_neg c4] at H
     exact absurd H (by simp)
   ·rw [if_neg c2] at H
    have c2b0 : decide (x4_1 < 4) = false := decide_eq_false c2
    clear c2
    obtain rfl := Option.some.inj H
    go_wp2
    go_ret
    exact ⟨_, by first | rfl | (simp [errW_none, errW_some] <;> rfl) | (simp [*, errW_none, errW_some] <;> rfl), by (with_reducible repeat first | apply Ra32 | apply Rn32 | apply Rd32); exact HO_3.out, by repeat (first | (with_reducible first | exact HB.out | apply ba32 | apply bn32 | apply bd32) | exact HB.out)⟩
def G (V : World) (s : Value) : Prop := ∃ l, Row V s l ∧ l.length ≤ 40
theorem G.below {V V' : World} {s : Value} (h : G V s) (hb : Below V.heap.size V V') : G V' s := by
  obtain ⟨l, h, hl⟩ := h
  exact ⟨l, h.below hb, hl⟩
theorem G.one {V : World} {s : Value} (h : G V s) : s.oneCell' = true := by
  obtain ⟨l, h, _⟩ := h
  exact h.one
theorem G.nil (V : World) : G V (.slice none 0 0) := ⟨[], ⟨none, 0, rfl, Nat.le_refl _, ⟨rfl, by simp, fun h => absurd h (by simp)⟩⟩, by simp⟩
theorem ev_row_n (n : Int) : ∀ (m : Nat) (x3 : List Int) (x4 : Int), 0 ≤ x4 → x4 + m = 4 → x3.length + m ≤ 4 → ∃ r : List Int, Ev (fun k => watershedlaw06_row.l0 k n x3 x4) r ∧ r.length ≤ 4 := by
  intro m
  induction m with
  | zero =>
    intro x3 x4 h0 h4 hl
    refine ⟨x3, Ev.step (f := fun _ => some x3) (fun k => ?_) (Ev.now _), by omega⟩
    simp only [watershedlaw06_row.l0]
    rw [if_neg (by omega)]
  | succ m ih =>
    intro x3 x4 h0 h4 hl
    have hw : wrap64 (x4 + 1) = x4 + 1 := w64 (by omega) (by omega)
    have hu : 0 ≤ IntKind.u64.wrap x4 := by
      have h2 : (2 : Int) ^ IntKind.u64.bits = 18446744073709551616 := by decide
      unfold IntKind.wrap
      simp only [IntKind.signed]
      rw [h2]
      simp
      omega
    by_cases c : (Go.bits .and .i64 (shr .i64 n (IntKind.u64.wrap (x4))) 1) = 1
    · obtain ⟨r, hr, hr4⟩ := ih (x3 ++ [x4 + 1]) (x4 + 1) (by omega) (by omega) (by simp; omega)
      refine ⟨r, Ev.step (f := fun k => watershedlaw06_row.l0 k n (x3 ++ [x4 + 1]) (x4 + 1)) (fun k => ?_) hr, hr4⟩
      simp only [watershedlaw06_row.l0]
      rw [if_pos (by omega), if_pos hu, if_pos c, if_pos (by omega), hw]
    · obtain ⟨r, hr, hr4⟩ := ih x3 (x4 + 1) (by omega) (by omega) (by omega)
      refine ⟨r, Ev.step (f := fun k => watershedlaw06_row.l0 k n x3 (x4 + 1)) (fun k => ?_) hr, hr4⟩
      simp only [watershedlaw06_row.l0]
      rw [if_pos (by omega), if_pos hu, if_neg c, hw]
theorem c32 (n : Int) (w : World) : Calls Try.prog 32 #[.int .i64 n] w fun e w' => ∃ s, e = .returned s ∧ G w' s ∧ Below w.heap.size w w' := by
  obtain ⟨r, h, hl⟩ := ev_row_n n 4 [] 0 (by omega) (by omega) (by simp)
  obtain ⟨k, hk⟩ := h.rounds
  refine (watershedlaw06_row.calls k n r w hk).mono ?_
  rintro e w' ⟨v, rfl, hr, hb⟩
  exact ⟨v, rfl, ⟨r, Row.of_R hr, by omega⟩, hb⟩
structure G4 (V : World) (s0 s1 s2 s3 : Value) : Prop where
  g0 : G V s0
  g1 : G V s1
  g2 : G V s2
  g3 : G V s3
theorem G4.below {V V' : World} {s0 s1 s2 s3 : Value} (h : G4 V s0 s1 s2 s3) (hb : Below V.heap.size V V') : G4 V' s0 s1 s2 s3 := ⟨h.g0.below hb, h.g1.below hb, h.g2.below hb, h.g3.below hb⟩
theorem c5 {w : World} {s0 s1 s2 s3 ss : Value} (node : Int) (h : G4 w s0 s1 s2 s3) (hs : G w ss) : Calls Try.prog 5 #[.agg #[s0, s1, s2, s3], ss, .int .i64 node] w fun e w' => e = .returned (.bool true) ∧ Below w.heap.size w w' := by
  obtain ⟨⟨l0, r0, _⟩, ⟨l1, r1, _⟩, ⟨l2, r2, _⟩, ⟨l3, r3, _⟩⟩ := h
  obtain ⟨ls, rs, _⟩ := hs
  exact tells_true s0 s1 s2 s3 ss l0 l1 l2 l3 ls node w ⟨r0, r1, r2, r3⟩ rs
theorem c12 {w : World} {s0 s1 s2 s3 ss : Value} (h : G4 w s0 s1 s2 s3) (hs : G w ss) : Calls Try.prog 12 #[.agg #[s0, s1, s2, s3], ss] w fun e w' => ∃ a0 a1 a2 a3 x, e = .returned (.tuple #[.agg #[a0, a1, a2, a3], .int .i64 x]) ∧ G4 w' a0 a1 a2 a3 ∧ Below w.heap.size w w' := by
  obtain ⟨⟨l0, r0, m0⟩, ⟨l1, r1, m1⟩, ⟨l2, r2, m2⟩, ⟨l3, r3, m3⟩⟩ := h
  obtain ⟨ls, rs, ms⟩ := hs
  obtain ⟨b0, b1, b2, b3, e5, hb, n00, n01, n02, n03⟩ := begin_len l0 l1 l2 l3 ls m0 ms
  obtain ⟨k, hk⟩ := (ev_begin l0 l1 l2 l3 ls m0 m1 m2 m3 ms).rounds
  refine (q12 ⟨r0, r1, r2, r3⟩ rs (hk.trans (by rw [hb]))).mono ?_
  rintro e we ⟨a0, a1, a2, a3, rfl, r, o, hb⟩
  exact ⟨a0, a1, a2, a3, _, rfl, ⟨⟨_, r.r0, n00⟩, ⟨_, r.r1, n01⟩, ⟨_, r.r2, n02⟩, ⟨_, r.r3, n03⟩⟩, hb⟩
theorem c11 {w : World} {s0 s1 s2 s3 : Value} (h : G4 w s0 s1 s2 s3) : Calls Try.prog 11 #[.agg #[s0, s1, s2, s3]] w fun e w' => ∃ a0 a1 a2 a3 x, e = .returned (.tuple #[.agg #[a0, a1, a2, a3], .bool x]) ∧ G4 w' a0 a1 a2 a3 ∧ Below w.heap.size w w' := by
  obtain ⟨⟨l0, r0, m0⟩, ⟨l1, r1, m1⟩, ⟨l2, r2, m2⟩, ⟨l3, r3, m3⟩⟩ := h
  obtain ⟨b0, b1, b2, b3, e5, hb, n00, n01, n02, n03⟩ := next_len l0 l1 l2 l3 m0 m3
  obtain ⟨k, hk⟩ := (ev_next l0 l1 l2 l3 m0 m1 m2 m3).rounds
  refine (q11 ⟨r0, r1, r2, r3⟩ (hk.trans (by rw [hb]))).mono ?_
  rintro e we ⟨a0, a1, a2, a3, rfl, r, o, hb⟩
  exact ⟨a0, a1, a2, a3, _, rfl, ⟨⟨_, r.r0, n00⟩, ⟨_, r.r1, n01⟩, ⟨_, r.r2, n02⟩, ⟨_, r.r3, n03⟩⟩, hb⟩
theorem G.form {V : World} {s : Value} (h : G V s) : ∃ A n c, s = .slice A n c := by
  obtain ⟨l, ⟨A, c, e, _⟩, _⟩ := h
  exact ⟨A, _, c, e⟩
end Go.Proofs.Ytkilmclncpmjnaa.P06t
