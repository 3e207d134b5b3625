-- Written by gprint.py, a program of this session, over the kit's print; the functions of my own contracts are marked GIVEN
import Derived.Test.YtkilmclncpmjnaaZQAP06tx0
import Derived.Test.YtkilmclncpmjnaaZQAP06tx4
import Derived.Test.YtkilmclncpmjnaaZQAP06tx6
import Derived.Test.YtkilmclncpmjnaaZQAP06tx7
namespace Go.Proofs.Ytkilmclncpmjnaa.P06t
open Go.RowKit Go.Proofs.YtkilmclncpmjnaaW.PrintWords Go.Proofs.YtkilmclncpmjnaaW.PrintLast Go.Proofs.YtkilmclncpmjnaaW.PrintMore
attribute [local go_sem] max2_int min2_int max_two min_two max_three min_three max_four min_four   -- for this text's walks alone
set_option linter.unusedVariables false
set_option linter.unusedSimpArgs false

theorem Am44 : type_of% @Aside0.mk := @Aside0.mk
theorem Ra44 : type_of% @Kd.R_alloc := @Kd.R_alloc
theorem Rn44 : type_of% @Kd.R_drewN := @Kd.R_drewN
theorem Rd44 : type_of% @Kd.R_drew := @Kd.R_drew
theorem ba44 : type_of% @below_alloc := @below_alloc
theorem bn44 : type_of% @pw_below_drewN := @pw_below_drewN
theorem bd44 : type_of% @below_drew1 := @below_drew1
theorem bz44 : type_of% @below_size := @below_size
/-! ### watershedkit_CopyInts: function 44 -/
def watershedkit_CopyInts.f (l0 : List Int) : Option (List Int) := if ([] : List Int).length + l0.length < 17592186044416 then (some (([] : List Int) ++ l0)) else (none)
set_option maxHeartbeats 8000000 in
set_option maxRecDepth 100000 in
theorem watershedkit_CopyInts.calls (A0 : Option Addr) (c0 : Nat) (l0 : List Int) (r : List Int) (w : World) (hr0 : Kd.C (Kd.int .i64) w A0 l0.length l0) (hc0 : l0.length ≤ c0) (h : watershedkit_CopyInts.f l0 = some r) :
  Calls Try.prog 44 #[.slice A0 l0.length c0] w fun e w' => ∃ v0_ : Value, e = .returned (v0_) ∧ Kd.R (Kd.int .i64) 3 w' w.heap.size (fun _ => True) v0_ r ∧ Below w.heap.size w w' := by
 have HR0 := Am44 hr0
 have HC0 := Am44 hc0
 clear hr0 hc0
 have HB := Am44 (Below.refl w.heap.size w)
 have H : (if ([] : List Int).length + l0.length < 17592186044416 then (some (([] : List Int) ++ l0)) else (none)) = some r := h
 clear h
 by_cases c2 : ([] : List Int).length + l0.length < 17592186044416
 ·rw [if_pos c2] at H
  have LMc2 := Am44 c2
  clear c2
  obtain ⟨y217, hy217⟩ : ∃ y_ : List Int, y_ = (([] : List Int) ++ l0) := ⟨_, rfl⟩
  replace H : (some y217) = some r := by first | (rw [hy217]; with_reducible exact H) | (have H2_ := (Option.bind_some _ _).symm.trans H; rw [hy217]; with_reducible exact H2_) | (have H2_ := (Option.bind_some _ _).symm.trans H; with_reducible exact H2_) | with_reducible exact H | (rw [hy217]; exact H) | exact H
  have Ny217 := Am44 hy217
  clear hy217
  obtain rfl := Option.some.inj H
  go_enter Try.func44, Try.ntmps44
  go_wp2_with (first | ((with_reducible refine gate_builtin (b:=.append) (xs:=#[.tmp 4, .tmp 5]) rfl ?_); at_builtin; refine Kd.R_append_rows (Kd.int .i64) (w0:=w) w.heap.size rfl (.tmp 4) (.tmp 5) 22 3 (.int .i64 0) 8 rfl Try.underlying22 info3 rfl (by decide) (by omega) (.slice none 0 0) ([] : List Int) l0 _ _ _ (fun _ => True) (fun _ => False) rfl rfl ?aO ?aR (fun _ _ h => h) (fun _ h => h.elim) ?aF ?aB ?aS ?aL ?_; (case aR => repeat (first | exact HR0.out | (with_reducible refine Kd.C_alloc ?_ _) | (with_reducible refine Kd.C_drewN ?_ _) | (with_reducible refine Kd.C_drew ?_))); (case aB => exact (by repeat (first | (with_reducible first | exact HB.out | apply ba44 | apply bn44 | apply bd44) | exact HB.out))); (case aF => exact (fun _ _ => trivial)); (case aO => exact ((Kd.R_nil _ _ _ _ (fun _ => True)))); (case aS => exact (bz44 (by repeat (first | (with_reducible first | exact HB.out | apply ba44 | apply bn44 | apply bd44) | exact HB.out)))); (case aL => have := LMc2.out; omega); intro v218 w3 ho hb hg hat; rw [← Ny217.out] at ho; replace HB := Am44 (hb); have HO219 := Am44 (ho); clear ho hb hg hat))
  go_ret
  exact ⟨_, by first | rfl | (simp [errW_none, errW_some] <;> rfl) | (simp [*, errW_none, errW_some] <;> rfl), by (with_reducible repeat first | apply Ra44 | apply Rn44 | apply Rd44); exact HO219.out, by repeat (first | (with_reducible first | exact HB.out | apply ba44 | apply bn44 | apply bd44) | exact HB.out)⟩
 ·rw [if_neg c2] at H
  exact absurd H (by simp)

abbrev bb20 (n m : Nat) : Array Bool := ((List.range n).map fun i => m.testBit i).toArray
theorem Am20 : type_of% @Aside0.mk := @Aside0.mk
theorem Ra20 : type_of% @Kd.R_alloc := @Kd.R_alloc
theorem Rn20 : type_of% @Kd.R_drewN := @Kd.R_drewN
theorem Rd20 : type_of% @Kd.R_drew := @Kd.R_drew
theorem Rf20 : type_of% @Kd.R_far := @Kd.R_far
theorem Ro20 : type_of% @Kd.R_mono := @Kd.R_mono
theorem Ry20 : type_of% @Kd.R_types := @Kd.R_types
theorem ba20 : type_of% @below_alloc := @below_alloc
theorem bn20 : type_of% @pw_below_drewN := @pw_below_drewN
theorem bd20 : type_of% @below_drew1 := @below_drew1
theorem bs20 : type_of% @below_set := @below_set
theorem kn20 : type_of% @blk_drewN := @blk_drewN
theorem kd20 : type_of% @blk_drew := @blk_drew
theorem ka20 : type_of% @blk_alloc := @blk_alloc
theorem kb20 : type_of% @blk_below := @blk_below
theorem Re20 : type_of% @Kd.R_elder' := @Kd.R_elder'
theorem Rw20 : type_of% @Kd.R_new' := @Kd.R_new'
theorem Rl20 : type_of% @Kd.R_lower := @Kd.R_lower
theorem Ra_20 : type_of% @Kd.R_base := @Kd.R_base
theorem Rt20 : type_of% @Kd.R_lt := @Kd.R_lt
theorem bz20 : type_of% @below_size := @below_size
theorem bp20 : type_of% @below_step := @below_step
theorem kc20 : type_of% @blk_cell := @blk_cell
theorem kz20 : type_of% @blk_frozen := @blk_frozen
theorem sa20 : type_of% @List.setIfInBounds_toArray := @List.setIfInBounds_toArray
theorem sz20 : type_of% @List.set_cons_zero := @List.set_cons_zero
theorem ss20 : type_of% @List.set_cons_succ := @List.set_cons_succ
theorem ma20 : type_of% @List.map_toArray := @List.map_toArray
theorem mc20 : type_of% @List.map_cons := @List.map_cons
theorem mn20 : type_of% @List.map_nil := @List.map_nil
theorem ld20 : type_of% @List.length_drop := @List.length_drop
theorem lt_20 : type_of% @List.length_take := @List.length_take
/-! ### watershedref06_Begin: function 20 -/
def watershedref06_Begin.j0 : Nat → List Int → Bool → List Int → List Int → List Int → List Int → Option (List Int × List Int × List Int × List Int × Int)
 | 0, _, _, _, _, _, _ => none
 | k + 1, x1, x24, x221000, x221001, x221002, x221003 => if x24 = true then (some (([] : List Int), ([] : List Int), ([] : List Int), ([] : List Int), 2)) else (if (x221003.length : Int) > 0 then (some (([] : List Int), ([] : List Int), ([] : List Int), ([] : List Int), 25)) else ((watershedkit_SameInts.f k x1 x221000).bind fun t224 => (if t224 = true then (some (([] : List Int), ([] : List Int), ([] : List Int), ([] : List Int), 7)) else ((watershedkit_CopyInts.f x221000).bind fun t225 => ((watershedref06_less.f k x1 x221000).bind fun t228 => ((watershedkit_CopyInts.f x1).bind fun t231 => (some (t225, ([] : List Int), t228, t231, 0))))))))
def watershedref06_Begin.f (k : Nat) (l0_0 : List Int) (l0_1 : List Int) (l0_2 : List Int) (l0_3 : List Int) (l1 : List Int) : Option (List Int × List Int × List Int × List Int × Int) := (watershedref06_Right.f k l0_0 l0_1 l0_2 l0_3).bind fun t222 => (if t222 = true then (if (l0_0.length : Int) = 0 then (watershedref06_Begin.j0 k l1 true l0_0 l0_1 l0_2 l0_3) else ((watershedref06_row.f k l1).bind fun t223 => (if t223 = true then (watershedref06_Begin.j0 k l1 ((l1.length : Int) == 0) l0_0 l0_1 l0_2 l0_3) else (watershedref06_Begin.j0 k l1 true l0_0 l0_1 l0_2 l0_3)))) else (watershedref06_Begin.j0 k l1 true l0_0 l0_1 l0_2 l0_3))
theorem watershedref06_Begin.mono_l : ∀ k, (∀ y0 y1 y2 y3 y4 y5, LeO (watershedref06_Begin.j0 k y0 y1 y2 y3 y4 y5) (watershedref06_Begin.j0 (k + 1) y0 y1 y2 y3 y4 y5))
 | 0 => fun _ _ _ _ _ _ r h => by simp [watershedref06_Begin.j0] at h
 | k + 1 => by
  have ih0 := watershedref06_Begin.mono_l k
  ·intro y0 y1 y2 y3 y4 y5
   unfold watershedref06_Begin.j0
   repeat' first
   | (with_reducible exact ih0 _ _ _ _ _ _)
   | (with_reducible exact watershedkit_SameInts.mono _ _ _)
   | (with_reducible exact watershedref06_Right.mono _ _ _ _ _)
   | (with_reducible exact watershedref06_less.mono _ _ _)
   | (with_reducible exact watershedref06_row.mono _ _)
   | (with_reducible exact LeO.refl _)
   | (with_reducible exact LeO.none _)
   | (with_reducible refine LeO.ite ?_ ?_)
   | (with_reducible refine LeO.bind ?_ (fun _ => ?_))
   | exact ih0 _ _ _ _ _ _
   | exact watershedkit_SameInts.mono _ _ _
   | exact watershedref06_Right.mono _ _ _ _ _
   | exact watershedref06_less.mono _ _ _
   | exact watershedref06_row.mono _ _
   | exact LeO.none _
   | refine LeO.ite ?_ ?_
   | refine LeO.bind ?_ (fun _ => ?_)
theorem watershedref06_Begin.mono : ∀ a0 a1 a2 a3 a4 k, LeO (watershedref06_Begin.f k a0 a1 a2 a3 a4) (watershedref06_Begin.f (k + 1) a0 a1 a2 a3 a4) := by
 intro a0 a1 a2 a3 a4 k
 have ih0 := watershedref06_Begin.mono_l k
 unfold watershedref06_Begin.f
 repeat' first
   | (with_reducible exact ih0 _ _ _ _ _ _)
   | (with_reducible exact watershedkit_SameInts.mono _ _ _)
   | (with_reducible exact watershedref06_Right.mono _ _ _ _ _)
   | (with_reducible exact watershedref06_less.mono _ _ _)
   | (with_reducible exact watershedref06_row.mono _ _)
   | (with_reducible exact LeO.refl _)
   | (with_reducible exact LeO.none _)
   | (with_reducible refine LeO.ite ?_ ?_)
   | (with_reducible refine LeO.bind ?_ (fun _ => ?_))
   | exact ih0 _ _ _ _ _ _
   | exact watershedkit_SameInts.mono _ _ _
   | exact watershedref06_Right.mono _ _ _ _ _
   | exact watershedref06_less.mono _ _ _
   | exact watershedref06_row.mono _ _
   | exact LeO.none _
   | refine LeO.ite ?_ ?_
   | refine LeO.bind ?_ (fun _ => ?_)
def watershedref06_Begin.T7 : Bool × List (List Nat × List Nat) := (true, [([], []), ([0], [0]), ([1], [1]), ([], []), ([], []), ([4], [4]), ([3, 5, 2], [3, 5]), ([], []), ([7, 6], [7]), ([2, 6, 8], [2, 6, 8]), ([9, 8, 0, 1, 2, 3, 4, 5, 6, 7, 8, 9], [9]), ([10, 0, 1, 2, 3, 4, 5, 6, 7, 8, 9, 10], [])])
def watershedref06_Begin.B7 : List Nat := [0, 1, 3, 0, 0, 16, 63, 0, 255, 511, 1023, 2047]
theorem watershedref06_Begin.tab7 : rtab .any (opsOf Try.f20 7) = watershedref06_Begin.T7 := by kernel_rfl
theorem watershedref06_Begin.bits7 : waitsOk watershedref06_Begin.T7.2 watershedref06_Begin.B7 = true := by kernel_rfl
set_option maxHeartbeats 8000000 in
set_option maxRecDepth 100000 in
theorem watershedref06_Begin.calls (k : Nat) (A0_0 : Option Addr) (c0_0 : Nat) (l0_0 : List Int) (A0_1 : Option Addr) (c0_1 : Nat) (l0_1 : List Int) (A0_2 : Option Addr) (c0_2 : Nat) (l0_2 : List Int) (A0_3 : Option Addr) (c0_3 : Nat) (l0_3 : List Int) (A1 : Option Addr) (c1 : Nat) (l1 : List Int) (r1 : List Int) (r2 : List Int) (r3 : List Int) (r4 : List Int) (r5 : Int) (w : World) (hr0_0 : Kd.C (Kd.int .i64) w A0_0 l0_0.length l0_0) (hc0_0 : l0_0.length ≤ c0_0) (hr0_1 : Kd.C (Kd.int .i64) w A0_1 l0_1.length l0_1) (hc0_1 : l0_1.length ≤ c0_1) (hr0_2 : Kd.C (Kd.int .i64) w A0_2 l0_2.length l0_2) (hc0_2 : l0_2.length ≤ c0_2) (hr0_3 : Kd.C (Kd.int .i64) w A0_3 l0_3.length l0_3) (hc0_3 : l0_3.length ≤ c0_3) (hr1 : Kd.C (Kd.int .i64) w A1 l1.length l1) (hc1 : l1.length ≤ c1) (h : watershedref06_Begin.f k l0_0 l0_1 l0_2 l0_3 l1 = some (r1, r2, r3, r4, r5)) :
  Calls Try.prog 20 #[.agg #[.slice A0_0 l0_0.length c0_0, .slice A0_1 l0_1.length c0_1, .slice A0_2 l0_2.length c0_2, .slice A0_3 l0_3.length c0_3], .slice A1 l1.length c1] w fun e w' => ∃ v0_ v1_ v2_ v3_ : Value, e = .returned (.tuple #[.agg #[v0_, v1_, v2_, v3_], .int .i64 r5]) ∧ Kd.R (Kd.int .i64) 3 w' w.heap.size (fun k_ => some k_ ≠ (v1_ : Value).ownBlock ∧ some k_ ≠ (v2_ : Value).ownBlock ∧ some k_ ≠ (v3_ : Value).ownBlock) v0_ r1 ∧ Kd.R (Kd.int .i64) 3 w' w.heap.size (fun k_ => some k_ ≠ (v0_ : Value).ownBlock ∧ some k_ ≠ (v2_ : Value).ownBlock ∧ some k_ ≠ (v3_ : Value).ownBlock) v1_ r2 ∧ Kd.R (Kd.int .i64) 3 w' w.heap.size (fun k_ => some k_ ≠ (v0_ : Value).ownBlock ∧ some k_ ≠ (v1_ : Value).ownBlock ∧ some k_ ≠ (v3_ : Value).ownBlock) v2_ r3 ∧ Kd.R (Kd.int .i64) 3 w' w.heap.size (fun k_ => some k_ ≠ (v0_ : Value).ownBlock ∧ some k_ ≠ (v1_ : Value).ownBlock ∧ some k_ ≠ (v2_ : Value).ownBlock) v3_ r4 ∧ Below w.heap.size w w' := by
 have hu24 := Try.underlying24
 have HR0_0 := Am20 hr0_0
 have HC0_0 := Am20 hc0_0
 clear hr0_0 hc0_0
 have HR0_1 := Am20 hr0_1
 have HC0_1 := Am20 hc0_1
 clear hr0_1 hc0_1
 have HR0_2 := Am20 hr0_2
 have HC0_2 := Am20 hc0_2
 clear hr0_2 hc0_2
 have HR0_3 := Am20 hr0_3
 have HC0_3 := Am20 hc0_3
 clear hr0_3 hc0_3
 have HR1 := Am20 hr1
 have HC1 := Am20 hc1
 clear hr1 hc1
 have HB := Am20 (Below.refl w.heap.size w)
 have H : ((watershedref06_Right.f k l0_0 l0_1 l0_2 l0_3).bind fun t222 => (if t222 = true then (if (l0_0.length : Int) = 0 then (watershedref06_Begin.j0 k l1 true l0_0 l0_1 l0_2 l0_3) else ((watershedref06_row.f k l1).bind fun t223 => (if t223 = true then (watershedref06_Begin.j0 k l1 ((l1.length : Int) == 0) l0_0 l0_1 l0_2 l0_3) else (watershedref06_Begin.j0 k l1 true l0_0 l0_1 l0_2 l0_3)))) else (watershedref06_Begin.j0 k l1 true l0_0 l0_1 l0_2 l0_3))) = some (r1, r2, r3, r4, r5) := h
 clear h
 have HC3 := Am20 H
 clear H
 go_enter Try.func20, Try.ntmps20
 go_upto_region 1 with (first | ((with_reducible refine gate_dst (N:=2) rfl ?_); (try (refine gate_guard (by rfl) ?_; dsimp only)); refine box_event ?hg (N:=2) ?hd (cs:=#[.slice A0_0 l0_0.length c0_0, .slice A0_1 l0_1.length c0_1, .slice A0_2 l0_2.length c0_2, .slice A0_3 l0_3.length c0_3]) (t:=24) ?hr ?_; (case hd => rfl); (case hg => rfl); (case hr => first | (go_simp; done) | (go_simp; rfl)); intro gb220 hg w4 hbox hb; have BK220 := Am20 (hbox); have GW220 := Am20 ((by rw [hg]; exact (bz20 (by repeat (first | (with_reducible first | exact HB.out | apply ba20 | apply bn20 | apply bd20) | exact HB.out))) : w.heap.size ≤ gb220)); have GE220 := Am20 ((by rw [hg]; exact (bz20 (by repeat (first | (with_reducible first | exact HB.out | apply ba20 | apply bn20 | apply bd20) | exact HB.out))) : w.heap.size ≤ gb220)); replace HB := Am20 (bp20 (by repeat (first | (with_reducible first | exact HB.out | apply ba20 | apply bn20 | apply bd20) | exact HB.out)) hb); clear hb hbox hg) | ((with_reducible refine gate_dst (N:=4) rfl ?_); (try (refine gate_guard (by rfl) ?_; dsimp only)); refine box_event ?hg (N:=4) ?hd (cs:=#[.slice none 0 0, .slice none 0 0, .slice none 0 0, .slice none 0 0]) (t:=24) ?hr ?_; (case hd => rfl); (case hg => rfl); (case hr => first | (go_simp; done) | (go_simp; rfl)); intro gb221 hg w5 hbox hb; have BK221 := Am20 (hbox); have GW221 := Am20 ((by rw [hg]; exact (bz20 (by repeat (first | (with_reducible first | exact HB.out | apply ba20 | apply bn20 | apply bd20 | refine bs20 ?_ GE220.out) | exact HB.out))) : w.heap.size ≤ gb221)); have GE221 := Am20 ((by rw [hg]; exact (bz20 (by repeat (first | (with_reducible first | exact HB.out | apply ba20 | apply bn20 | apply bd20 | refine bs20 ?_ GE220.out) | exact HB.out))) : w.heap.size ≤ gb221)); replace HB := Am20 (bp20 (by repeat (first | (with_reducible first | exact HB.out | apply ba20 | apply bn20 | apply bd20 | refine bs20 ?_ GE220.out) | exact HB.out)) hb); have NB220_221 := Am20 ((by rw [hg]; exact Nat.ne_of_lt (blk_lt (g:=gb220) (o:=.cells #[.slice A0_0 l0_0.length c0_0, .slice A0_1 l0_1.length c0_1, .slice A0_2 l0_2.length c0_2, .slice A0_3 l0_3.length c0_3] 24 (0, 0)) (by (with_reducible repeat first | apply kn20 | apply kd20 | apply ka20); exact BK220.out)) : gb220 ≠ gb221)); have NB221_220 := Am20 ((by rw [hg]; exact Nat.ne_of_gt (blk_lt (g:=gb220) (o:=.cells #[.slice A0_0 l0_0.length c0_0, .slice A0_1 l0_1.length c0_1, .slice A0_2 l0_2.length c0_2, .slice A0_3 l0_3.length c0_3] 24 (0, 0)) (by (with_reducible repeat first | apply kn20 | apply kd20 | apply ka20); exact BK220.out)) : gb221 ≠ gb220)); replace BK220 := Am20 (kb20 (g:=gb220) (o:=.cells #[.slice A0_0 l0_0.length c0_0, .slice A0_1 l0_1.length c0_1, .slice A0_2 l0_2.length c0_2, .slice A0_3 l0_3.length c0_3] 24 (0, 0)) (by (with_reducible repeat first | apply kn20 | apply kd20 | apply ka20); exact BK220.out) hb); clear hb hbox hg))
 (try simp only [Act.put, sa20, sz20, ss20])
 go_cut [24] (fun v24 wc => ∃ (kq : Nat) (x24_2 : Bool), v24 = .bool x24_2 ∧ Aside0 (watershedref06_Begin.j0 kq l1 x24_2 l0_0 l0_1 l0_2 l0_3 = some (r1, r2, r3, r4, r5)) ∧ Aside0 (kq ≤ k) ∧ Aside0 (wc.heap[gb220]? = some (.cells #[(.slice A0_0 l0_0.length c0_0), (.slice A0_1 l0_1.length c0_1), (.slice A0_2 l0_2.length c0_2), (.slice A0_3 l0_3.length c0_3)] 24 (0, 0))) ∧ Aside0 (wc.heap[gb221]? = some (.cells #[(.slice none 0 0), (.slice none 0 0), (.slice none 0 0), (.slice none 0 0)] 24 (0, 0))) ∧ Aside0 (Below w.heap.size w wc))
 case first =>
  have H := HC3.out
  clear HC3
  replace H := Option.bind_eq_some_iff.mp H
  obtain ⟨t222, A60, H⟩ := H
  try dsimp only at H
  have A6 := Am20 A60
  clear A60
  by_cases c7 : t222 = true
  ·subst c7
   rw [if_pos rfl] at H
   by_cases c8 : (l0_0.length : Int) = 0
   ·rw [if_pos c8] at H
    have c8b0 : ((l0_0.length : Int) == 0) = true := beq_iff_eq.mpr c8
    have c8b1 : ((l0_0.length : Int) != 0) = false := bne_eq_false_iff_eq.mpr c8
    clear c8
    (first | rw [c8b0] | (simp only [i64_w, i32_w]; rw [c8b0]) | skip)
    have H' := Am20 H
    clear H
    have hnb9 := NB220_221.out
    have hnc9 := NB221_220.out
    have hcz10_0 : w5.cell? ⟨gb220, 0, none⟩ = some (.slice A0_0 l0_0.length c0_0) := (kc20 BK220.out 0).trans rfl
    have hcz10_1 : w5.cell? ⟨gb220, 1, none⟩ = some (.slice A0_1 l0_1.length c0_1) := (kc20 BK220.out 1).trans rfl
    have hcz10_2 : w5.cell? ⟨gb220, 2, none⟩ = some (.slice A0_2 l0_2.length c0_2) := (kc20 BK220.out 2).trans rfl
    have hcz10_3 : w5.cell? ⟨gb220, 3, none⟩ = some (.slice A0_3 l0_3.length c0_3) := (kc20 BK220.out 3).trans rfl
    have hfz10_0 := kz20 BK220.out 0
    have hfz10_1 := kz20 BK220.out 1
    have hfz10_2 := kz20 BK220.out 2
    have hfz10_3 := kz20 BK220.out 3
    go_wp2_with (first | ((with_reducible refine gate_callee (f:=23) rfl ?_); refine goesL_ (some 7) rfl rfl Try.func23 (by kernel_rfl) rfl #[.agg #[.slice A0_0 l0_0.length c0_0, .slice A0_1 l0_1.length c0_1, .slice A0_2 l0_2.length c0_2, .slice A0_3 l0_3.length c0_3]] rfl (by (try simp only [ma20, mc20, mn20]); first | done | rfl | (simp only [ld20, lt_20]; rfl)) ?_; (with_reducible refine (watershedref06_Right.calls k _ _ l0_0 _ _ l0_1 _ _ l0_2 _ _ l0_3 true _ ?side1 ?side2 ?side3 ?side4 ?side5 ?side6 ?side7 ?side8 A6.out).mono ?_); (case side1 => repeat (first | exact (Kd.C_below HR0_0.out HB.out) | (with_reducible refine Kd.C_alloc ?_ _) | (with_reducible refine Kd.C_drewN ?_ _) | (with_reducible refine Kd.C_drew ?_))); (case side2 => exact HC0_0.out); (case side3 => repeat (first | exact (Kd.C_below HR0_1.out HB.out) | (with_reducible refine Kd.C_alloc ?_ _) | (with_reducible refine Kd.C_drewN ?_ _) | (with_reducible refine Kd.C_drew ?_))); (case side4 => exact HC0_1.out); (case side5 => repeat (first | exact (Kd.C_below HR0_2.out HB.out) | (with_reducible refine Kd.C_alloc ?_ _) | (with_reducible refine Kd.C_drewN ?_ _) | (with_reducible refine Kd.C_drew ?_))); (case side6 => exact HC0_2.out); (case side7 => repeat (first | exact (Kd.C_below HR0_3.out HB.out) | (with_reducible refine Kd.C_alloc ?_ _) | (with_reducible refine Kd.C_drewN ?_ _) | (with_reducible refine Kd.C_drew ?_))); (case side8 => exact HC0_3.out); rintro e w11 ⟨rfl, hb⟩; refine ⟨_, rfl, ?_⟩; replace BK220 := Am20 (kb20 (g:=gb220) (o:=.cells #[.slice A0_0 l0_0.length c0_0, .slice A0_1 l0_1.length c0_1, .slice A0_2 l0_2.length c0_2, .slice A0_3 l0_3.length c0_3] 24 (0, 0)) (by (with_reducible repeat first | apply kn20 | apply kd20 | apply ka20); exact BK220.out) hb); replace BK221 := Am20 (kb20 (g:=gb221) (o:=.cells #[.slice none 0 0, .slice none 0 0, .slice none 0 0, .slice none 0 0] 24 (0, 0)) (by (with_reducible repeat first | apply kn20 | apply kd20 | apply ka20); exact BK221.out) hb); replace HB := Am20 (bp20 (by repeat (first | (with_reducible first | exact HB.out | apply ba20 | apply bn20 | apply bd20 | refine bs20 ?_ GE220.out | refine bs20 ?_ GE221.out) | exact HB.out)) hb); (try clear hb); (try clear hb2); (try clear hk); (try clear hi); have hcz12_0 : w11.cell? ⟨gb220, 0, none⟩ = some (.slice A0_0 l0_0.length c0_0) := (kc20 BK220.out 0).trans rfl; have hcz12_1 : w11.cell? ⟨gb220, 1, none⟩ = some (.slice A0_1 l0_1.length c0_1) := (kc20 BK220.out 1).trans rfl; have hcz12_2 : w11.cell? ⟨gb220, 2, none⟩ = some (.slice A0_2 l0_2.length c0_2) := (kc20 BK220.out 2).trans rfl; have hcz12_3 : w11.cell? ⟨gb220, 3, none⟩ = some (.slice A0_3 l0_3.length c0_3) := (kc20 BK220.out 3).trans rfl; have hfz12_0 := kz20 BK220.out 0; have hfz12_1 := kz20 BK220.out 1; have hfz12_2 := kz20 BK220.out 2; have hfz12_3 := kz20 BK220.out 3))
    go_meet
    case rel => exact ⟨_, (true), (by first | rfl | (simp; done) | (simp [*]; done)), H', ⟨by first | omega | exact Nat.le_refl _⟩, ⟨by (with_reducible repeat first | apply kn20 | apply kd20 | apply ka20); exact BK220.out⟩, ⟨by (with_reducible repeat first | apply kn20 | apply kd20 | apply ka20); exact BK221.out⟩, ⟨by repeat (first | (with_reducible first | exact HB.out | apply ba20 | apply bn20 | apply bd20 | refine bs20 ?_ GE220.out | refine bs20 ?_ GE221.out) | exact HB.out)⟩⟩
   ·rw [if_neg c8] at H
    have c8b0 : ((l0_0.length : Int) == 0) = false := beq_eq_false_iff_ne.mpr c8
    have c8b1 : ((l0_0.length : Int) != 0) = true := bne_iff_ne.mpr c8
    have c8b2 : ¬ (l0_0 = []) := fun h_ => c8 (by rw [h_]; rfl)
    (first | rw [c8b0] | (simp only [i64_w, i32_w]; rw [c8b0]) | skip)
    replace H := Option.bind_eq_some_iff.mp H
    obtain ⟨t223, A130, H⟩ := H
    try dsimp only at H
    have A13 := Am20 A130
    clear A130
    by_cases c14 : t223 = true
    ·subst c14
     rw [if_pos rfl] at H
     have H' := Am20 H
     clear H
     have hnb15 := NB220_221.out
     have hnc15 := NB221_220.out
     have hcz16_0 : w5.cell? ⟨gb220, 0, none⟩ = some (.slice A0_0 l0_0.length c0_0) := (kc20 BK220.out 0).trans rfl
     have hcz16_1 : w5.cell? ⟨gb220, 1, none⟩ = some (.slice A0_1 l0_1.length c0_1) := (kc20 BK220.out 1).trans rfl
     have hcz16_2 : w5.cell? ⟨gb220, 2, none⟩ = some (.slice A0_2 l0_2.length c0_2) := (kc20 BK220.out 2).trans rfl
     have hcz16_3 : w5.cell? ⟨gb220, 3, none⟩ = some (.slice A0_3 l0_3.length c0_3) := (kc20 BK220.out 3).trans rfl
     have hfz16_0 := kz20 BK220.out 0
     have hfz16_1 := kz20 BK220.out 1
     have hfz16_2 := kz20 BK220.out 2
     have hfz16_3 := kz20 BK220.out 3
     go_wp2_with (first | ((with_reducible refine gate_callee (f:=23) rfl ?_); refine goesL_ (some 7) rfl rfl Try.func23 (by kernel_rfl) rfl #[.agg #[.slice A0_0 l0_0.length c0_0, .slice A0_1 l0_1.length c0_1, .slice A0_2 l0_2.length c0_2, .slice A0_3 l0_3.length c0_3]] rfl (by (try simp only [ma20, mc20, mn20]); first | done | rfl | (simp only [ld20, lt_20]; rfl)) ?_; (with_reducible refine (watershedref06_Right.calls k _ _ l0_0 _ _ l0_1 _ _ l0_2 _ _ l0_3 true _ ?side1 ?side2 ?side3 ?side4 ?side5 ?side6 ?side7 ?side8 A6.out).mono ?_); (case side1 => repeat (first | exact (Kd.C_below HR0_0.out HB.out) | (with_reducible refine Kd.C_alloc ?_ _) | (with_reducible refine Kd.C_drewN ?_ _) | (with_reducible refine Kd.C_drew ?_))); (case side2 => exact HC0_0.out); (case side3 => repeat (first | exact (Kd.C_below HR0_1.out HB.out) | (with_reducible refine Kd.C_alloc ?_ _) | (with_reducible refine Kd.C_drewN ?_ _) | (with_reducible refine Kd.C_drew ?_))); (case side4 => exact HC0_1.out); (case side5 => repeat (first | exact (Kd.C_below HR0_2.out HB.out) | (with_reducible refine Kd.C_alloc ?_ _) | (with_reducible refine Kd.C_drewN ?_ _) | (with_reducible refine Kd.C_drew ?_))); (case side6 => exact HC0_2.out); (case side7 => repeat (first | exact (Kd.C_below HR0_3.out HB.out) | (with_reducible refine Kd.C_alloc ?_ _) | (with_reducible refine Kd.C_drewN ?_ _) | (with_reducible refine Kd.C_drew ?_))); (case side8 => exact HC0_3.out); rintro e w17 ⟨rfl, hb⟩; refine ⟨_, rfl, ?_⟩; replace BK220 := Am20 (kb20 (g:=gb220) (o:=.cells #[.slice A0_0 l0_0.length c0_0, .slice A0_1 l0_1.length c0_1, .slice A0_2 l0_2.length c0_2, .slice A0_3 l0_3.length c0_3] 24 (0, 0)) (by (with_reducible repeat first | apply kn20 | apply kd20 | apply ka20); exact BK220.out) hb); replace BK221 := Am20 (kb20 (g:=gb221) (o:=.cells #[.slice none 0 0, .slice none 0 0, .slice none 0 0, .slice none 0 0] 24 (0, 0)) (by (with_reducible repeat first | apply kn20 | apply kd20 | apply ka20); exact BK221.out) hb); replace HB := Am20 (bp20 (by repeat (first | (with_reducible first | exact HB.out | apply ba20 | apply bn20 | apply bd20 | refine bs20 ?_ GE220.out | refine bs20 ?_ GE221.out) | exact HB.out)) hb); (try clear hb); (try clear hb2); (try clear hk); (try clear hi); have hcz18_0 : w17.cell? ⟨gb220, 0, none⟩ = some (.slice A0_0 l0_0.length c0_0) := (kc20 BK220.out 0).trans rfl; have hcz18_1 : w17.cell? ⟨gb220, 1, none⟩ = some (.slice A0_1 l0_1.length c0_1) := (kc20 BK220.out 1).trans rfl; have hcz18_2 : w17.cell? ⟨gb220, 2, none⟩ = some (.slice A0_2 l0_2.length c0_2) := (kc20 BK220.out 2).trans rfl; have hcz18_3 : w17.cell? ⟨gb220, 3, none⟩ = some (.slice A0_3 l0_3.length c0_3) := (kc20 BK220.out 3).trans rfl; have hfz18_0 := kz20 BK220.out 0; have hfz18_1 := kz20 BK220.out 1; have hfz18_2 := kz20 BK220.out 2; have hfz18_3 := kz20 BK220.out 3) | (go_at_call 43; (with_reducible refine (watershedref06_row.calls k _ _ l1 true _ ?side1 ?side2 A13.out).mono ?_); (case side1 => repeat (first | exact (Kd.C_below HR1.out HB.out) | (with_reducible refine Kd.C_alloc ?_ _) | (with_reducible refine Kd.C_drewN ?_ _) | (with_reducible refine Kd.C_drew ?_))); (case side2 => exact HC1.out); rintro e w' ⟨rfl, ⟨nd, rfl⟩⟩))
     go_meet
     case rel => exact ⟨_, (((l1.length : Int) == 0)), (by first | rfl | (simp; done) | (simp [*]; done)), H', ⟨by first | omega | exact Nat.le_refl _⟩, ⟨by (with_reducible repeat first | apply kn20 | apply kd20 | apply ka20); exact BK220.out⟩, ⟨by (with_reducible repeat first | apply kn20 | apply kd20 | apply ka20); exact BK221.out⟩, ⟨by repeat (first | (with_reducible first | exact HB.out | apply ba20 | apply bn20 | apply bd20 | refine bs20 ?_ GE220.out | refine bs20 ?_ GE221.out) | exact HB.out)⟩⟩
    ·replace c14 := Bool.eq_false_iff.mpr c14
     subst c14
     rw [if_neg (show ¬ (false = true) by decide)] at H
     have H' := Am20 H
     clear H
     have hnb19 := NB220_221.out
     have hnc19 := NB221_220.out
     have hcz20_0 : w5.cell? ⟨gb220, 0, none⟩ = some (.slice A0_0 l0_0.length c0_0) := (kc20 BK220.out 0).trans rfl
     have hcz20_1 : w5.cell? ⟨gb220, 1, none⟩ = some (.slice A0_1 l0_1.length c0_1) := (kc20 BK220.out 1).trans rfl
     have hcz20_2 : w5.cell? ⟨gb220, 2, none⟩ = some (.slice A0_2 l0_2.length c0_2) := (kc20 BK220.out 2).trans rfl
     have hcz20_3 : w5.cell? ⟨gb220, 3, none⟩ = some (.slice A0_3 l0_3.length c0_3) := (kc20 BK220.out 3).trans rfl
     have hfz20_0 := kz20 BK220.out 0
     have hfz20_1 := kz20 BK220.out 1
     have hfz20_2 := kz20 BK220.out 2
     have hfz20_3 := kz20 BK220.out 3
     go_wp2_with (first | ((with_reducible refine gate_callee (f:=23) rfl ?_); refine goesL_ (some 7) rfl rfl Try.func23 (by kernel_rfl) rfl #[.agg #[.slice A0_0 l0_0.length c0_0, .slice A0_1 l0_1.length c0_1, .slice A0_2 l0_2.length c0_2, .slice A0_3 l0_3.length c0_3]] rfl (by (try simp only [ma20, mc20, mn20]); first | done | rfl | (simp only [ld20, lt_20]; rfl)) ?_; (with_reducible refine (watershedref06_Right.calls k _ _ l0_0 _ _ l0_1 _ _ l0_2 _ _ l0_3 true _ ?side1 ?side2 ?side3 ?side4 ?side5 ?side6 ?side7 ?side8 A6.out).mono ?_); (case side1 => repeat (first | exact (Kd.C_below HR0_0.out HB.out) | (with_reducible refine Kd.C_alloc ?_ _) | (with_reducible refine Kd.C_drewN ?_ _) | (with_reducible refine Kd.C_drew ?_))); (case side2 => exact HC0_0.out); (case side3 => repeat (first | exact (Kd.C_below HR0_1.out HB.out) | (with_reducible refine Kd.C_alloc ?_ _) | (with_reducible refine Kd.C_drewN ?_ _) | (with_reducible refine Kd.C_drew ?_))); (case side4 => exact HC0_1.out); (case side5 => repeat (first | exact (Kd.C_below HR0_2.out HB.out) | (with_reducible refine Kd.C_alloc ?_ _) | (with_reducible refine Kd.C_drewN ?_ _) | (with_reducible refine Kd.C_drew ?_))); (case side6 => exact HC0_2.out); (case side7 => repeat (first | exact (Kd.C_below HR0_3.out HB.out) | (with_reducible refine Kd.C_alloc ?_ _) | (with_reducible refine Kd.C_drewN ?_ _) | (with_reducible refine Kd.C_drew ?_))); (case side8 => exact HC0_3.out); rintro e w21 ⟨rfl, hb⟩; refine ⟨_, rfl, ?_⟩; replace BK220 := Am20 (kb20 (g:=gb220) (o:=.cells #[.slice A0_0 l0_0.length c0_0, .slice A0_1 l0_1.length c0_1, .slice A0_2 l0_2.length c0_2, .slice A0_3 l0_3.length c0_3] 24 (0, 0)) (by (with_reducible repeat first | apply kn20 | apply kd20 | apply ka20); exact BK220.out) hb); replace BK221 := Am20 (kb20 (g:=gb221) (o:=.cells #[.slice none 0 0, .slice none 0 0, .slice none 0 0, .slice none 0 0] 24 (0, 0)) (by (with_reducible repeat first | apply kn20 | apply kd20 | apply ka20); exact BK221.out) hb); replace HB := Am20 (bp20 (by repeat (first | (with_reducible first | exact HB.out | apply ba20 | apply bn20 | apply bd20 | refine bs20 ?_ GE220.out | refine bs20 ?_ GE221.out) | exact HB.out)) hb); (try clear hb); (try clear hb2); (try clear hk); (try clear hi); have hcz22_0 : w21.cell? ⟨gb220, 0, none⟩ = some (.slice A0_0 l0_0.length c0_0) := (kc20 BK220.out 0).trans rfl; have hcz22_1 : w21.cell? ⟨gb220, 1, none⟩ = some (.slice A0_1 l0_1.length c0_1) := (kc20 BK220.out 1).trans rfl; have hcz22_2 : w21.cell? ⟨gb220, 2, none⟩ = some (.slice A0_2 l0_2.length c0_2) := (kc20 BK220.out 2).trans rfl; have hcz22_3 : w21.cell? ⟨gb220, 3, none⟩ = some (.slice A0_3 l0_3.length c0_3) := (kc20 BK220.out 3).trans rfl; have hfz22_0 := kz20 BK220.out 0; have hfz22_1 := kz20 BK220.out 1; have hfz22_2 := kz20 BK220.out 2; have hfz22_3 := kz20 BK220.out 3) | (go_at_call 43; (with_reducible refine (watershedref06_row.calls k _ _ l1 false _ ?side1 ?side2 A13.out).mono ?_); (case side1 => repeat (first | exact (Kd.C_below HR1.out HB.out) | (with_reducible refine Kd.C_alloc ?_ _) | (with_reducible refine Kd.C_drewN ?_ _) | (with_reducible refine Kd.C_drew ?_))); (case side2 => exact HC1.out); rintro e w' ⟨rfl, ⟨nd, rfl⟩⟩))
     go_meet
     case rel => exact ⟨_, (true), (by first | rfl | (simp; done) | (simp [*]; done)), H', ⟨by first | omega | exact Nat.le_refl _⟩, ⟨by (with_reducible repeat first | apply kn20 | apply kd20 | apply ka20); exact BK220.out⟩, ⟨by (with_reducible repeat first | apply kn20 | apply kd20 | apply ka20); exact BK221.out⟩, ⟨by repeat (first | (with_reducible first | exact HB.out | apply ba20 | apply bn20 | apply bd20 | refine bs20 ?_ GE220.out | refine bs20 ?_ GE221.out) | exact HB.out)⟩⟩
  ·replace c7 := Bool.eq_false_iff.mpr c7
   subst c7
   rw [if_neg (show ¬ (false = true) by decide)] at H
   have H' := Am20 H
   clear H
   have hnb23 := NB220_221.out
   have hnc23 := NB221_220.out
   have hcz24_0 : w5.cell? ⟨gb220, 0, none⟩ = some (.slice A0_0 l0_0.length c0_0) := (kc20 BK220.out 0).trans rfl
   have hcz24_1 : w5.cell? ⟨gb220, 1, none⟩ = some (.slice A0_1 l0_1.length c0_1) := (kc20 BK220.out 1).trans rfl
   have hcz24_2 : w5.cell? ⟨gb220, 2, none⟩ = some (.slice A0_2 l0_2.length c0_2) := (kc20 BK220.out 2).trans rfl
   have hcz24_3 : w5.cell? ⟨gb220, 3, none⟩ = some (.slice A0_3 l0_3.length c0_3) := (kc20 BK220.out 3).trans rfl
   have hfz24_0 := kz20 BK220.out 0
   have hfz24_1 := kz20 BK220.out 1
   have hfz24_2 := kz20 BK220.out 2
   have hfz24_3 := kz20 BK220.out 3
   go_wp2_with (first | ((with_reducible refine gate_callee (f:=23) rfl ?_); refine goesL_ (some 7) rfl rfl Try.func23 (by kernel_rfl) rfl #[.agg #[.slice A0_0 l0_0.length c0_0, .slice A0_1 l0_1.length c0_1, .slice A0_2 l0_2.length c0_2, .slice A0_3 l0_3.length c0_3]] rfl (by (try simp only [ma20, mc20, mn20]); first | done | rfl | (simp only [ld20, lt_20]; rfl)) ?_; (with_reducible refine (watershedref06_Right.calls k _ _ l0_0 _ _ l0_1 _ _ l0_2 _ _ l0_3 false _ ?side1 ?side2 ?side3 ?side4 ?side5 ?side6 ?side7 ?side8 A6.out).mono ?_); (case side1 => repeat (first | exact (Kd.C_below HR0_0.out HB.out) | (with_reducible refine Kd.C_alloc ?_ _) | (with_reducible refine Kd.C_drewN ?_ _) | (with_reducible refine Kd.C_drew ?_))); (case side2 => exact HC0_0.out); (case side3 => repeat (first | exact (Kd.C_below HR0_1.out HB.out) | (with_reducible refine Kd.C_alloc ?_ _) | (with_reducible refine Kd.C_drewN ?_ _) | (with_reducible refine Kd.C_drew ?_))); (case side4 => exact HC0_1.out); (case side5 => repeat (first | exact (Kd.C_below HR0_2.out HB.out) | (with_reducible refine Kd.C_alloc ?_ _) | (with_reducible refine Kd.C_drewN ?_ _) | (with_reducible refine Kd.C_drew ?_))); (case side6 => exact HC0_2.out); (case side7 => repeat (first | exact (Kd.C_below HR0_3.out HB.out) | (with_reducible refine Kd.C_alloc ?_ _) | (with_reducible refine Kd.C_drewN ?_ _) | (with_reducible refine Kd.C_drew ?_))); (case side8 => exact HC0_3.out); rintro e w25 ⟨rfl, hb⟩; refine ⟨_, rfl, ?_⟩; replace BK220 := Am20 (kb20 (g:=gb220) (o:=.cells #[.slice A0_0 l0_0.length c0_0, .slice A0_1 l0_1.length c0_1, .slice A0_2 l0_2.length c0_2, .slice A0_3 l0_3.length c0_3] 24 (0, 0)) (by (with_reducible repeat first | apply kn20 | apply kd20 | apply ka20); exact BK220.out) hb); replace BK221 := Am20 (kb20 (g:=gb221) (o:=.cells #[.slice none 0 0, .slice none 0 0, .slice none 0 0, .slice none 0 0] 24 (0, 0)) (by (with_reducible repeat first | apply kn20 | apply kd20 | apply ka20); exact BK221.out) hb); replace HB := Am20 (bp20 (by repeat (first | (with_reducible first | exact HB.out | apply ba20 | apply bn20 | apply bd20 | refine bs20 ?_ GE220.out | refine bs20 ?_ GE221.out) | exact HB.out)) hb); (try clear hb); (try clear hb2); (try clear hk); (try clear hi)))
   go_meet
   case rel => exact ⟨_, (true), (by first | rfl | (simp; done) | (simp [*]; done)), H', ⟨by first | omega | exact Nat.le_refl _⟩, ⟨by (with_reducible repeat first | apply kn20 | apply kd20 | apply ka20); exact BK220.out⟩, ⟨by (with_reducible repeat first | apply kn20 | apply kd20 | apply ka20); exact BK221.out⟩, ⟨by repeat (first | (with_reducible first | exact HB.out | apply ba20 | apply bn20 | apply bd20 | refine bs20 ?_ GE220.out | refine bs20 ?_ GE221.out) | exact HB.out)⟩⟩
 case rest =>
  clear HC3
  try clear c1
  try clear c2
  try clear p2
  try clear c7
  try clear c8
  try clear c8b0
  try clear c8b1
  try clear c8b2
  try clear c9
  try clear c14
  try clear c15
  try clear c19
  try clear c20
  try clear c23
  try clear hcz10_0
  try clear hcz10_1
  try clear hcz10_2
  try clear hcz10_3
  try clear hcz12_0
  try clear hcz12_1
  try clear hcz12_2
  try clear hcz12_3
  try clear hcz16_0
  try clear hcz16_1
  try clear hcz16_2
  try clear hcz16_3
  try clear hcz18_0
  try clear hcz18_1
  try clear hcz18_2
  try clear hcz18_3
  try clear hcz20_0
  try clear hcz20_1
  try clear hcz20_2
  try clear hcz20_3
  try clear hcz22_0
  try clear hcz22_1
  try clear hcz22_2
  try clear hcz22_3
  try clear hcz24_0
  try clear hcz24_1
  try clear hcz24_2
  try clear hcz24_3
  try clear hfz10_0
  try clear hfz10_1
  try clear hfz10_2
  try clear hfz10_3
  try clear hfz12_0
  try clear hfz12_1
  try clear hfz12_2
  try clear hfz12_3
  try clear hfz16_0
  try clear hfz16_1
  try clear hfz16_2
  try clear hfz16_3
  try clear hfz18_0
  try clear hfz18_1
  try clear hfz18_2
  try clear hfz18_3
  try clear hfz20_0
  try clear hfz20_1
  try clear hfz20_2
  try clear hfz20_3
  try clear hfz22_0
  try clear hfz22_1
  try clear hfz22_2
  try clear hfz22_3
  try clear hfz24_0
  try clear hfz24_1
  try clear hfz24_2
  try clear hfz24_3
  obtain ⟨kq, x24_2, rfl, HA, HJ2, BK220, BK221, HB⟩ := hcut
  cases kq with
  | zero => exact absurd HA.out (by simp [watershedref06_Begin.j0])
  | succ kj2 =>
   have H := HA.out
   clear HA
   simp only [watershedref06_Begin.j0] at H
   by_cases c26 : x24_2 = true
   ·subst c26
    rw [if_pos rfl] at H
    simp only [Option.some.injEq, Prod.mk.injEq] at H
    obtain ⟨rfl, rfl, rfl, rfl, rfl⟩ := H
    have hnb27 := NB221_220.out
    have hnc27 := NB220_221.out
    have hcz28_0 : wc.cell? ⟨gb221, 0, none⟩ = some (.slice none 0 0) := (kc20 BK221.out 0).trans rfl
    have hcz28_1 : wc.cell? ⟨gb221, 1, none⟩ = some (.slice none 0 0) := (kc20 BK221.out 1).trans rfl
    have hcz28_2 : wc.cell? ⟨gb221, 2, none⟩ = some (.slice none 0 0) := (kc20 BK221.out 2).trans rfl
    have hcz28_3 : wc.cell? ⟨gb221, 3, none⟩ = some (.slice none 0 0) := (kc20 BK221.out 3).trans rfl
    have hfz28_0 := kz20 BK221.out 0
    have hfz28_1 := kz20 BK221.out 1
    have hfz28_2 := kz20 BK221.out 2
    have hfz28_3 := kz20 BK221.out 3
    go_wp2
    refine bodyPost_ret (results_ct rfl _ _ gb221 24 #[.slice none 0 0, .slice none 0 0, .slice none 0 0, .slice none 0 0] (0, 0) _ rfl (by (with_reducible repeat first | apply kn20 | apply kd20 | apply ka20); refine blk_put (cs:=#[.slice none 0 0, .slice none 0 0, .slice none 0 0, .slice none 0 0]) ?_ 3 _ rfl; (with_reducible repeat first | apply kn20 | apply kd20 | apply ka20); refine blk_put (cs:=#[.slice none 0 0, .slice none 0 0, .slice none 0 0, .slice none 0 0]) ?_ 2 _ rfl; (with_reducible repeat first | apply kn20 | apply kd20 | apply ka20); refine blk_put (cs:=#[.slice none 0 0, .slice none 0 0, .slice none 0 0, .slice none 0 0]) ?_ 1 _ rfl; (with_reducible repeat first | apply kn20 | apply kd20 | apply ka20); refine blk_put (cs:=#[.slice none 0 0, .slice none 0 0, .slice none 0 0, .slice none 0 0]) ?_ 0 _ rfl; (with_reducible repeat first | apply kn20 | apply kd20 | apply ka20); exact BK221.out) Try.underlying24 rfl (by kernel_rfl)) rfl ?_
    exact ⟨_, _, _, _, by first | rfl | (simp [errW_none, errW_some] <;> rfl) | (simp [*, errW_none, errW_some] <;> rfl), by first | exact Kd.R_nil _ _ _ _ _ | exact Kd.N_nil _ _ _ _ _ | exact Kd.V_nil _ _ _ _ _ | exact Kd.Q_nil _ _ _ _ _ | exact Kd.S_nil _ _ _ _ _, by first | exact Kd.R_nil _ _ _ _ _ | exact Kd.N_nil _ _ _ _ _ | exact Kd.V_nil _ _ _ _ _ | exact Kd.Q_nil _ _ _ _ _ | exact Kd.S_nil _ _ _ _ _, by first | exact Kd.R_nil _ _ _ _ _ | exact Kd.N_nil _ _ _ _ _ | exact Kd.V_nil _ _ _ _ _ | exact Kd.Q_nil _ _ _ _ _ | exact Kd.S_nil _ _ _ _ _, by first | exact Kd.R_nil _ _ _ _ _ | exact Kd.N_nil _ _ _ _ _ | exact Kd.V_nil _ _ _ _ _ | exact Kd.Q_nil _ _ _ _ _ | exact Kd.S_nil _ _ _ _ _, by repeat (first | (with_reducible first | exact HB.out | apply ba20 | apply bn20 | apply bd20 | refine bs20 ?_ GE220.out | refine bs20 ?_ GE221.out) | exact HB.out)⟩
   ·replace c26 := Bool.eq_false_iff.mpr c26
    subst c26
    rw [if_neg (show ¬ (false = true) by decide)] at H
    by_cases c29 : (l0_3.length : Int) > 0
    ·rw [if_pos c29] at H
     have c29b0 : decide (0 < (l0_3.length : Int)) = true := decide_eq_true c29
     have c29b1 : decide (0 < l0_3.length) = true := decide_eq_true (by omega)
     clear c29
     simp only [Option.some.injEq, Prod.mk.injEq] at H
     obtain ⟨rfl, rfl, rfl, rfl, rfl⟩ := H
     have hnb30 := NB220_221.out
     have hnc30 := NB221_220.out
     have hcz31_0 : wc.cell? ⟨gb220, 0, none⟩ = some (.slice A0_0 l0_0.length c0_0) := (kc20 BK220.out 0).trans rfl
     have hcz31_1 : wc.cell? ⟨gb220, 1, none⟩ = some (.slice A0_1 l0_1.length c0_1) := (kc20 BK220.out 1).trans rfl
     have hcz31_2 : wc.cell? ⟨gb220, 2, none⟩ = some (.slice A0_2 l0_2.length c0_2) := (kc20 BK220.out 2).trans rfl
     have hcz31_3 : wc.cell? ⟨gb220, 3, none⟩ = some (.slice A0_3 l0_3.length c0_3) := (kc20 BK220.out 3).trans rfl
     have hfz31_0 := kz20 BK220.out 0
     have hfz31_1 := kz20 BK220.out 1
     have hfz31_2 := kz20 BK220.out 2
     have hfz31_3 := kz20 BK220.out 3
     have hcz32_0 : wc.cell? ⟨gb221, 0, none⟩ = some (.slice none 0 0) := (kc20 BK221.out 0).trans rfl
     have hcz32_1 : wc.cell? ⟨gb221, 1, none⟩ = some (.slice none 0 0) := (kc20 BK221.out 1).trans rfl
     have hcz32_2 : wc.cell? ⟨gb221, 2, none⟩ = some (.slice none 0 0) := (kc20 BK221.out 2).trans rfl
     have hcz32_3 : wc.cell? ⟨gb221, 3, none⟩ = some (.slice none 0 0) := (kc20 BK221.out 3).trans rfl
     have hfz32_0 := kz20 BK221.out 0
     have hfz32_1 := kz20 BK221.out 1
     have hfz32_2 := kz20 BK221.out 2
     have hfz32_3 := kz20 BK221.out 3
     go_wp2
     refine bodyPost_ret (results_ct rfl _ _ gb221 24 #[.slice none 0 0, .slice none 0 0, .slice none 0 0, .slice none 0 0] (0, 0) _ rfl (by (with_reducible repeat first | apply kn20 | apply kd20 | apply ka20); refine blk_put (cs:=#[.slice none 0 0, .slice none 0 0, .slice none 0 0, .slice none 0 0]) ?_ 3 _ rfl; (with_reducible repeat first | apply kn20 | apply kd20 | apply ka20); refine blk_put (cs:=#[.slice none 0 0, .slice none 0 0, .slice none 0 0, .slice none 0 0]) ?_ 2 _ rfl; (with_reducible repeat first | apply kn20 | apply kd20 | apply ka20); refine blk_put (cs:=#[.slice none 0 0, .slice none 0 0, .slice none 0 0, .slice none 0 0]) ?_ 1 _ rfl; (with_reducible repeat first | apply kn20 | apply kd20 | apply ka20); refine blk_put (cs:=#[.slice none 0 0, .slice none 0 0, .slice none 0 0, .slice none 0 0]) ?_ 0 _ rfl; (with_reducible repeat first | apply kn20 | apply kd20 | apply ka20); exact BK221.out) Try.underlying24 rfl (by kernel_rfl)) rfl ?_
     exact ⟨_, _, _, _, by first | rfl | (simp [errW_none, errW_some] <;> rfl) | (simp [*, errW_none, errW_some] <;> rfl), by first | exact Kd.R_nil _ _ _ _ _ | exact Kd.N_nil _ _ _ _ _ | exact Kd.V_nil _ _ _ _ _ | exact Kd.Q_nil _ _ _ _ _ | exact Kd.S_nil _ _ _ _ _, by first | exact Kd.R_nil _ _ _ _ _ | exact Kd.N_nil _ _ _ _ _ | exact Kd.V_nil _ _ _ _ _ | exact Kd.Q_nil _ _ _ _ _ | exact Kd.S_nil _ _ _ _ _, by first | exact Kd.R_nil _ _ _ _ _ | exact Kd.N_nil _ _ _ _ _ | exact Kd.V_nil _ _ _ _ _ | exact Kd.Q_nil _ _ _ _ _ | exact Kd.S_nil _ _ _ _ _, by first | exact Kd.R_nil _ _ _ _ _ | exact Kd.N_nil _ _ _ _ _ | exact Kd.V_nil _ _ _ _ _ | exact Kd.Q_nil _ _ _ _ _ | exact Kd.S_nil _ _ _ _ _, by repeat (first | (with_reducible first | exact HB.out | apply ba20 | apply bn20 | apply bd20 | refine bs20 ?_ GE220.out | refine bs20 ?_ GE221.out) | exact HB.out)⟩
    ·rw [if_neg c29] at H
     have c29b0 : decide (0 < (l0_3.length : Int)) = false := decide_eq_false c29
     have c29b1 : decide (0 < l0_3.length) = false := decide_eq_false (by omega)
     clear c29
     replace H := Option.bind_eq_some_iff.mp H
     obtain ⟨t224, A330, H⟩ := H
     try dsimp only at H
     have A33 := Am20 A330
     clear A330
     by_cases c34 : t224 = true
     ·subst c34
      rw [if_pos rfl] at H
      simp only [Option.some.injEq, Prod.mk.injEq] at H
      obtain ⟨rfl, rfl, rfl, rfl, rfl⟩ := H
      have hnb35 := NB220_221.out
      have hnc35 := NB221_220.out
      have hcz36_0 : wc.cell? ⟨gb220, 0, none⟩ = some (.slice A0_0 l0_0.length c0_0) := (kc20 BK220.out 0).trans rfl
      have hcz36_1 : wc.cell? ⟨gb220, 1, none⟩ = some (.slice A0_1 l0_1.length c0_1) := (kc20 BK220.out 1).trans rfl
      have hcz36_2 : wc.cell? ⟨gb220, 2, none⟩ = some (.slice A0_2 l0_2.length c0_2) := (kc20 BK220.out 2).trans rfl
      have hcz36_3 : wc.cell? ⟨gb220, 3, none⟩ = some (.slice A0_3 l0_3.length c0_3) := (kc20 BK220.out 3).trans rfl
      have hfz36_0 := kz20 BK220.out 0
      have hfz36_1 := kz20 BK220.out 1
      have hfz36_2 := kz20 BK220.out 2
      have hfz36_3 := kz20 BK220.out 3
      go_wp2_with (first | ((with_reducible refine gate_callee (f:=15) rfl ?_); refine goesL_ (some 34) rfl rfl Try.func15 (by kernel_rfl) rfl #[.slice A1 l1.length c1, .slice A0_0 l0_0.length c0_0] rfl (by (try simp only [ma20, mc20, mn20]); first | done | rfl | (simp only [ld20, lt_20]; rfl)) ?_; (with_reducible refine (watershedkit_SameInts.calls kj2 _ _ l1 _ _ l0_0 true _ ?side1 ?side2 ?side3 ?side4 A33.out).mono ?_); (case side1 => repeat (first | exact (Kd.C_below HR1.out HB.out) | (with_reducible refine Kd.C_alloc ?_ _) | (with_reducible refine Kd.C_drewN ?_ _) | (with_reducible refine Kd.C_drew ?_))); (case side2 => exact HC1.out); (case side3 => repeat (first | exact (Kd.C_below HR0_0.out HB.out) | (with_reducible refine Kd.C_alloc ?_ _) | (with_reducible refine Kd.C_drewN ?_ _) | (with_reducible refine Kd.C_drew ?_))); (case side4 => exact HC0_0.out); rintro e w' ⟨rfl, ⟨nd, rfl⟩⟩; refine ⟨_, rfl, ?_⟩; (try (rw [drewN_self wc]; generalize hq_ : World.drewN wc _ = wc; have n0_ : Aside0 (wc.heap[gb220]? = some (.cells #[.slice A0_0 l0_0.length c0_0, .slice A0_1 l0_1.length c0_1, .slice A0_2 l0_2.length c0_2, .slice A0_3 l0_3.length c0_3] 24 (0, 0))) := ⟨by rw [← hq_]; exact (by (with_reducible repeat first | apply kn20 | apply kd20 | apply ka20); exact BK220.out)⟩; have n1_ : Aside0 (wc.heap[gb221]? = some (.cells #[.slice none 0 0, .slice none 0 0, .slice none 0 0, .slice none 0 0] 24 (0, 0))) := ⟨by rw [← hq_]; exact (by (with_reducible repeat first | apply kn20 | apply kd20 | apply ka20); exact BK221.out)⟩; have n2_ : Aside0 (Below w.heap.size w wc) := ⟨by rw [← hq_]; exact (by repeat (first | (with_reducible first | exact HB.out | apply ba20 | apply bn20 | apply bd20 | refine bs20 ?_ GE220.out | refine bs20 ?_ GE221.out) | exact HB.out))⟩; clear BK220 BK221 HB hq_; have BK220 := n0_; have BK221 := n1_; have HB := n2_; clear n0_ n1_ n2_)); have hcz37_0 : wc.cell? ⟨gb221, 0, none⟩ = some (.slice none 0 0) := (kc20 BK221.out 0).trans rfl; have hcz37_1 : wc.cell? ⟨gb221, 1, none⟩ = some (.slice none 0 0) := (kc20 BK221.out 1).trans rfl; have hcz37_2 : wc.cell? ⟨gb221, 2, none⟩ = some (.slice none 0 0) := (kc20 BK221.out 2).trans rfl; have hcz37_3 : wc.cell? ⟨gb221, 3, none⟩ = some (.slice none 0 0) := (kc20 BK221.out 3).trans rfl; have hfz37_0 := kz20 BK221.out 0; have hfz37_1 := kz20 BK221.out 1; have hfz37_2 := kz20 BK221.out 2; have hfz37_3 := kz20 BK221.out 3))
      refine bodyPost_ret (results_ct rfl _ _ gb221 24 #[.slice none 0 0, .slice none 0 0, .slice none 0 0, .slice none 0 0] (0, 0) _ rfl (by (with_reducible repeat first | apply kn20 | apply kd20 | apply ka20); refine blk_put (cs:=#[.slice none 0 0, .slice none 0 0, .slice none 0 0, .slice none 0 0]) ?_ 3 _ rfl; (with_reducible repeat first | apply kn20 | apply kd20 | apply ka20); refine blk_put (cs:=#[.slice none 0 0, .slice none 0 0, .slice none 0 0, .slice none 0 0]) ?_ 2 _ rfl; (with_reducible repeat first | apply kn20 | apply kd20 | apply ka20); refine blk_put (cs:=#[.slice none 0 0, .slice none 0 0, .slice none 0 0, .slice none 0 0]) ?_ 1 _ rfl; (with_reducible repeat first | apply kn20 | apply kd20 | apply ka20); refine blk_put (cs:=#[.slice none 0 0, .slice none 0 0, .slice none 0 0, .slice none 0 0]) ?_ 0 _ rfl; (with_reducible repeat first | apply kn20 | apply kd20 | apply ka20); exact BK221.out) Try.underlying24 rfl (by kernel_rfl)) rfl ?_
      exact ⟨_, _, _, _, by first | rfl | (simp [errW_none, errW_some] <;> rfl) | (simp [*, errW_none, errW_some] <;> rfl), by first | exact Kd.R_nil _ _ _ _ _ | exact Kd.N_nil _ _ _ _ _ | exact Kd.V_nil _ _ _ _ _ | exact Kd.Q_nil _ _ _ _ _ | exact Kd.S_nil _ _ _ _ _, by first | exact Kd.R_nil _ _ _ _ _ | exact Kd.N_nil _ _ _ _ _ | exact Kd.V_nil _ _ _ _ _ | exact Kd.Q_nil _ _ _ _ _ | exact Kd.S_nil _ _ _ _ _, by first | exact Kd.R_nil _ _ _ _ _ | exact Kd.N_nil _ _ _ _ _ | exact Kd.V_nil _ _ _ _ _ | exact Kd.Q_nil _ _ _ _ _ | exact Kd.S_nil _ _ _ _ _, by first | exact Kd.R_nil _ _ _ _ _ | exact Kd.N_nil _ _ _ _ _ | exact Kd.V_nil _ _ _ _ _ | exact Kd.Q_nil _ _ _ _ _ | exact Kd.S_nil _ _ _ _ _, by repeat (first | (with_reducible first | exact HB.out | apply ba20 | apply bn20 | apply bd20 | refine bs20 ?_ GE220.out | refine bs20 ?_ GE221.out) | exact HB.out)⟩
     ·replace c34 := Bool.eq_false_iff.mpr c34
      subst c34
      rw [if_neg (show ¬ (false = true) by decide)] at H
      replace H := Option.bind_eq_some_iff.mp H
      obtain ⟨t225, A380, H⟩ := H
      try dsimp only at H
      have A38 := Am20 A380
      clear A380
      replace H := Option.bind_eq_some_iff.mp H
      obtain ⟨t228, A390, H⟩ := H
      try dsimp only at H
      have A39 := Am20 A390
      clear A390
      replace H := Option.bind_eq_some_iff.mp H
      obtain ⟨t231, A400, H⟩ := H
      try dsimp only at H
      have A40 := Am20 A400
      clear A400
      simp only [Option.some.injEq, Prod.mk.injEq] at H
      obtain ⟨rfl, rfl, rfl, rfl, rfl⟩ := H
      have hnb41 := NB220_221.out
      have hnc41 := NB221_220.out
      have hcz42_0 : wc.cell? ⟨gb220, 0, none⟩ = some (.slice A0_0 l0_0.length c0_0) := (kc20 BK220.out 0).trans rfl
      have hcz42_1 : wc.cell? ⟨gb220, 1, none⟩ = some (.slice A0_1 l0_1.length c0_1) := (kc20 BK220.out 1).trans rfl
      have hcz42_2 : wc.cell? ⟨gb220, 2, none⟩ = some (.slice A0_2 l0_2.length c0_2) := (kc20 BK220.out 2).trans rfl
      have hcz42_3 : wc.cell? ⟨gb220, 3, none⟩ = some (.slice A0_3 l0_3.length c0_3) := (kc20 BK220.out 3).trans rfl
      have hfz42_0 := kz20 BK220.out 0
      have hfz42_1 := kz20 BK220.out 1
      have hfz42_2 := kz20 BK220.out 2
      have hfz42_3 := kz20 BK220.out 3
      try go_wp2_with (first | ((with_reducible refine gate_callee (f:=15) rfl ?_); refine goesL_ (some 34) rfl rfl Try.func15 (by kernel_rfl) rfl #[.slice A1 l1.length c1, .slice A0_0 l0_0.length c0_0] rfl (by (try simp only [ma20, mc20, mn20]); first | done | rfl | (simp only [ld20, lt_20]; rfl)) ?_; (with_reducible refine (watershedkit_SameInts.calls kj2 _ _ l1 _ _ l0_0 false _ ?side1 ?side2 ?side3 ?side4 A33.out).mono ?_); (case side1 => repeat (first | exact (Kd.C_below HR1.out HB.out) | (with_reducible refine Kd.C_alloc ?_ _) | (with_reducible refine Kd.C_drewN ?_ _) | (with_reducible refine Kd.C_drew ?_))); (case side2 => exact HC1.out); (case side3 => repeat (first | exact (Kd.C_below HR0_0.out HB.out) | (with_reducible refine Kd.C_alloc ?_ _) | (with_reducible refine Kd.C_drewN ?_ _) | (with_reducible refine Kd.C_drew ?_))); (case side4 => exact HC0_0.out); rintro e w' ⟨rfl, ⟨nd, rfl⟩⟩; refine ⟨_, rfl, ?_⟩; (try (rw [drewN_self wc]; generalize hq_ : World.drewN wc _ = wc; have n0_ : Aside0 (wc.heap[gb220]? = some (.cells #[.slice A0_0 l0_0.length c0_0, .slice A0_1 l0_1.length c0_1, .slice A0_2 l0_2.length c0_2, .slice A0_3 l0_3.length c0_3] 24 (0, 0))) := ⟨by rw [← hq_]; exact (by (with_reducible repeat first | apply kn20 | apply kd20 | apply ka20); exact BK220.out)⟩; have n1_ : Aside0 (wc.heap[gb221]? = some (.cells #[.slice none 0 0, .slice none 0 0, .slice none 0 0, .slice none 0 0] 24 (0, 0))) := ⟨by rw [← hq_]; exact (by (with_reducible repeat first | apply kn20 | apply kd20 | apply ka20); exact BK221.out)⟩; have n2_ : Aside0 (Below w.heap.size w wc) := ⟨by rw [← hq_]; exact (by repeat (first | (with_reducible first | exact HB.out | apply ba20 | apply bn20 | apply bd20 | refine bs20 ?_ GE220.out | refine bs20 ?_ GE221.out) | exact HB.out))⟩; clear BK220 BK221 HB hq_; have BK220 := n0_; have BK221 := n1_; have HB := n2_; clear n0_ n1_ n2_))))
      replace BK220 := Am20 (kd20 BK220.out)
      replace BK221 := Am20 (kd20 BK221.out)
      replace HB := Am20 (bd20 HB.out)
      refine start_ (n:=12) (S:=fun w' => w'.cell? ⟨gb220, 0, none⟩ = some (.slice A0_0 l0_0.length c0_0) ∧ w'.cell? ⟨gb220, 1, none⟩ = some (.slice A0_1 l0_1.length c0_1) ∧ w'.cell? ⟨gb220, 2, none⟩ = some (.slice A0_2 l0_2.length c0_2) ∧ w'.cell? ⟨gb220, 3, none⟩ = some (.slice A0_3 l0_3.length c0_3)) (ds:=[]) (bb20 12 0) (by kernel_rfl) rfl rfl ⟨(kc20 BK220.out 0).trans rfl, (kc20 BK220.out 1).trans rfl, (kc20 BK220.out 2).trans rfl, (kc20 BK220.out 3).trans rfl⟩ (fun hHeld => ?_); refine with_tabW watershedref06_Begin.tab7 watershedref06_Begin.bits7 (fun HT_ HW_ => ?_)
      generalize wc.drew = w43 at BK220 BK221 HB hHeld ⊢
      refine pure_ (i:=0) (N:=some 36) (v:=?_) (a' := ?_) (bb20 12 1) rfl rfl (any_of HT_.out (by kernel_rfl)) (fun _ _ _ h => h) (Or.inl ⟨by rfl, ?_⟩) ?_ ?_
      rotate_left
      ·intro w'
       go_simp
       with_reducible rfl
      rotate_left
      ·simp only [Act.put, sa20, sz20, ss20, i64_w, i32_w]
       rfl
      refine pure_ (i:=3) (N:=some 39) (v:=?_) (a' := ?_) (bb20 12 9) rfl rfl (any_of HT_.out (by kernel_rfl)) (fun _ _ _ h => h) (Or.inl ⟨by rfl, ?_⟩) ?_ ?_
      rotate_left
      ·intro w'
       go_simp
       with_reducible rfl
      rotate_left
      ·simp only [Act.put, sa20, sz20, ss20, i64_w, i32_w]
       rfl
      refine pure_ (i:=4) (N:=some 40) (v:=?_) (a' := ?_) (bb20 12 25) rfl rfl (any_of HT_.out (by kernel_rfl)) (fun _ _ _ h => h) (Or.inl ⟨by rfl, ?_⟩) ?_ ?_
      rotate_left
      ·intro w'
       go_simp
       with_reducible rfl
      rotate_left
      ·simp only [Act.put, sa20, sz20, ss20, i64_w, i32_w]
       rfl
      refine pure_ (i:=7) (N:=some 43) (v:=?_) (a' := ?_) (bb20 12 153) rfl rfl (any_of HT_.out (by kernel_rfl)) (fun _ _ _ h => h) (Or.inl ⟨by rfl, ?_⟩) ?_ ?_
      rotate_left
      ·intro w'
       go_simp
       with_reducible rfl
      rotate_left
      ·simp only [Act.put, sa20, sz20, ss20, i64_w, i32_w]
       rfl
      refine take_ (i:=1) (N:=some 37) (v:=?_) (a' := ?_) (bb20 12 155) rfl rfl (take_ofW HT_.out HW_.out (by kernel_rfl)) (fun _ _ _ h => h) (Or.inl ⟨by rfl, ?_⟩) hHeld ?_ ?_
      rotate_left
      ·rintro w' ⟨s0, s1, s2, s3⟩
       go_simp
       with_reducible rfl
      rotate_left
      ·simp only [Act.put, sa20, sz20, ss20, i64_w, i32_w]
       rfl
      refine take_ (i:=5) (N:=some 41) (v:=?_) (a' := ?_) (bb20 12 187) rfl rfl (take_ofW HT_.out HW_.out (by kernel_rfl)) (fun _ _ _ h => h) (Or.inl ⟨by rfl, ?_⟩) hHeld ?_ ?_
      rotate_left
      ·rintro w' ⟨s0, s1, s2, s3⟩
       go_simp
       with_reducible rfl
      rotate_left
      ·simp only [Act.put, sa20, sz20, ss20, i64_w, i32_w]
       rfl
      refine one_ (i:=2) (N:=some 38) (bb20 12 191) rfl rfl (one_of HT_.out (by kernel_rfl)) (by decide) (fun K hK => ?_)
      refine goes_ Try.func44 (by kernel_rfl) rfl #[.slice A0_0 l0_0.length c0_0] (by rfl) rfl rfl (by (try simp only [ma20, mc20, mn20]); first | done | rfl | (simp only [ld20, lt_20]; rfl)) ?_
      with_reducible refine (watershedkit_CopyInts.calls _ _ l0_0 t225 _ ?side1 ?side2 A38.out).mono ?_
      (case side1 => repeat (first | exact (Kd.C_below HR0_0.out HB.out) | (with_reducible refine Kd.C_alloc ?_ _) | (with_reducible refine Kd.C_drewN ?_ _) | (with_reducible refine Kd.C_drew ?_)))
      (case side2 => exact HC0_0.out)
      rintro e w44 ⟨v226, rfl, ho0, hb⟩
      refine ⟨_, rfl, ?_⟩
      have n0_ := Am20 (Rl20 ho0 (bz20 (by repeat (first | (with_reducible first | exact HB.out | apply ba20 | apply bn20 | apply bd20 | refine bs20 ?_ GE220.out | refine bs20 ?_ GE221.out) | exact HB.out))))
      have n1_ := Am20 (kb20 (g:=gb220) (o:=.cells #[.slice A0_0 l0_0.length c0_0, .slice A0_1 l0_1.length c0_1, .slice A0_2 l0_2.length c0_2, .slice A0_3 l0_3.length c0_3] 24 (0, 0)) (by (with_reducible repeat first | apply kn20 | apply kd20 | apply ka20); exact BK220.out) hb)
      have n2_ := Am20 (kb20 (g:=gb221) (o:=.cells #[.slice none 0 0, .slice none 0 0, .slice none 0 0, .slice none 0 0] 24 (0, 0)) (by (with_reducible repeat first | apply kn20 | apply kd20 | apply ka20); exact BK221.out) hb)
      have n3_ := Am20 (bp20 (by repeat (first | (with_reducible first | exact HB.out | apply ba20 | apply bn20 | apply bd20 | refine bs20 ?_ GE220.out | refine bs20 ?_ GE221.out) | exact HB.out)) hb)
      clear BK220
      clear BK221
      clear HB
      have HO227 := n0_
      have BK220 := n1_
      have BK221 := n2_
      have HB := n3_
      clear n0_ n1_ n2_ n3_
      (try clear hb)
      (try clear hb2)
      (try clear hk)
      (try clear hi)
      (try clear ho0)
      refine hK.out _ _ ⟨(kc20 BK220.out 0).trans rfl, (kc20 BK220.out 1).trans rfl, (kc20 BK220.out 2).trans rfl, (kc20 BK220.out 3).trans rfl⟩ (fun hHeld => ?_)
      clear hK K
      refine norm_ (a' := ?_) ?_ ?_
      rotate_left
      ·show Act.put _ (some 38) _ = _
       simp only [Act.put, sa20, sz20, ss20, i64_w, i32_w]
       rfl
      refine one_ (i:=6) (N:=some 42) (bb20 12 255) rfl rfl (one_of HT_.out (by kernel_rfl)) (by decide) (fun K hK => ?_)
      refine goes_ Try.func45 (by kernel_rfl) rfl #[.slice A1 l1.length c1, .slice A0_0 l0_0.length c0_0] (by rfl) rfl rfl (by (try simp only [ma20, mc20, mn20]); first | done | rfl | (simp only [ld20, lt_20]; rfl)) ?_
      with_reducible refine (watershedref06_less.calls kj2 _ _ l1 _ _ l0_0 t228 _ ?side1 ?side2 ?side3 ?side4 A39.out).mono ?_
      (case side1 => repeat (first | exact (Kd.C_below HR1.out HB.out) | (with_reducible refine Kd.C_alloc ?_ _) | (with_reducible refine Kd.C_drewN ?_ _) | (with_reducible refine Kd.C_drew ?_)))
      (case side2 => exact HC1.out)
      (case side3 => repeat (first | exact (Kd.C_below HR0_0.out HB.out) | (with_reducible refine Kd.C_alloc ?_ _) | (with_reducible refine Kd.C_drewN ?_ _) | (with_reducible refine Kd.C_drew ?_)))
      (case side4 => exact HC0_0.out)
      rintro e w45 ⟨v229, rfl, ho0, hb⟩
      refine ⟨_, rfl, ?_⟩
      have HO230 := Am20 (Rl20 (Rw20 ho0 (Rt20 (by (with_reducible repeat first | apply Ra20 | apply Rn20 | apply Rd20); exact HO227.out))) (bz20 (by repeat (first | (with_reducible first | exact HB.out | apply ba20 | apply bn20 | apply bd20 | refine bs20 ?_ GE220.out | refine bs20 ?_ GE221.out) | exact HB.out))))
      replace HO227 := Am20 (Re20 (by (with_reducible repeat first | apply Ra20 | apply Rn20 | apply Rd20); exact HO227.out) (Ra_20 ho0) hb)
      replace BK220 := Am20 (kb20 (g:=gb220) (o:=.cells #[.slice A0_0 l0_0.length c0_0, .slice A0_1 l0_1.length c0_1, .slice A0_2 l0_2.length c0_2, .slice A0_3 l0_3.length c0_3] 24 (0, 0)) (by (with_reducible repeat first | apply kn20 | apply kd20 | apply ka20); exact BK220.out) hb)
      replace BK221 := Am20 (kb20 (g:=gb221) (o:=.cells #[.slice none 0 0, .slice none 0 0, .slice none 0 0, .slice none 0 0] 24 (0, 0)) (by (with_reducible repeat first | apply kn20 | apply kd20 | apply ka20); exact BK221.out) hb)
      replace HB := Am20 (bp20 (by repeat (first | (with_reducible first | exact HB.out | apply ba20 | apply bn20 | apply bd20 | refine bs20 ?_ GE220.out | refine bs20 ?_ GE221.out) | exact HB.out)) hb)
      (try clear hb)
      (try clear hb2)
      (try clear hk)
      (try clear hi)
      (try clear ho0)
      refine hK.out _ _ ⟨(kc20 BK220.out 0).trans rfl, (kc20 BK220.out 1).trans rfl, (kc20 BK220.out 2).trans rfl, (kc20 BK220.out 3).trans rfl⟩ (fun hHeld => ?_)
      clear hK K
      refine norm_ (a' := ?_) ?_ ?_
      rotate_left
      ·show Act.put _ (some 42) _ = _
       simp only [Act.put, sa20, sz20, ss20, i64_w, i32_w]
       rfl
      refine one_ (i:=8) (N:=some 44) (bb20 12 511) rfl rfl (one_of HT_.out (by kernel_rfl)) (by decide) (fun K hK => ?_)
      refine goes_ Try.func44 (by kernel_rfl) rfl #[.slice A1 l1.length c1] (by rfl) rfl rfl (by (try simp only [ma20, mc20, mn20]); first | done | rfl | (simp only [ld20, lt_20]; rfl)) ?_
      with_reducible refine (watershedkit_CopyInts.calls _ _ l1 t231 _ ?side1 ?side2 A40.out).mono ?_
      (case side1 => repeat (first | exact (Kd.C_below HR1.out HB.out) | (with_reducible refine Kd.C_alloc ?_ _) | (with_reducible refine Kd.C_drewN ?_ _) | (with_reducible refine Kd.C_drew ?_)))
      (case side2 => exact HC1.out)
      rintro e w46 ⟨v232, rfl, ho0, hb⟩
      refine ⟨_, rfl, ?_⟩
      have HO233 := Am20 (Rl20 (Rw20 (Rw20 ho0 (Rt20 (by (with_reducible repeat first | apply Ra20 | apply Rn20 | apply Rd20); exact HO227.out))) (Rt20 (by (with_reducible repeat first | apply Ra20 | apply Rn20 | apply Rd20); exact HO230.out))) (bz20 (by repeat (first | (with_reducible first | exact HB.out | apply ba20 | apply bn20 | apply bd20 | refine bs20 ?_ GE220.out | refine bs20 ?_ GE221.out) | exact HB.out))))
      replace HO227 := Am20 (Re20 (by (with_reducible repeat first | apply Ra20 | apply Rn20 | apply Rd20); exact HO227.out) (Ra_20 ho0) hb)
      replace HO230 := Am20 (Re20 (by (with_reducible repeat first | apply Ra20 | apply Rn20 | apply Rd20); exact HO230.out) (Ra_20 ho0) hb)
      replace BK220 := Am20 (kb20 (g:=gb220) (o:=.cells #[.slice A0_0 l0_0.length c0_0, .slice A0_1 l0_1.length c0_1, .slice A0_2 l0_2.length c0_2, .slice A0_3 l0_3.length c0_3] 24 (0, 0)) (by (with_reducible repeat first | apply kn20 | apply kd20 | apply ka20); exact BK220.out) hb)
      replace BK221 := Am20 (kb20 (g:=gb221) (o:=.cells #[.slice none 0 0, .slice none 0 0, .slice none 0 0, .slice none 0 0] 24 (0, 0)) (by (with_reducible repeat first | apply kn20 | apply kd20 | apply ka20); exact BK221.out) hb)
      replace HB := Am20 (bp20 (by repeat (first | (with_reducible first | exact HB.out | apply ba20 | apply bn20 | apply bd20 | refine bs20 ?_ GE220.out | refine bs20 ?_ GE221.out) | exact HB.out)) hb)
      (try clear hb)
      (try clear hb2)
      (try clear hk)
      (try clear hi)
      (try clear ho0)
      obtain ⟨Ao47, co47, eo47⟩ := Kd.R_slice HO233.out
      (first | subst eo47 | (injection eo47 with f1_ f2_ f3_; have f4_ := f1_.symm; have f5_ := f3_.symm; clear f1_ f2_ f3_; subst f4_; subst f5_))
      obtain ⟨Ao48, co48, eo48⟩ := Kd.R_slice HO230.out
      (first | subst eo48 | (injection eo48 with f1_ f2_ f3_; have f4_ := f1_.symm; have f5_ := f3_.symm; clear f1_ f2_ f3_; subst f4_; subst f5_))
      obtain ⟨Ao49, co49, eo49⟩ := Kd.R_slice HO227.out
      (first | subst eo49 | (injection eo49 with f1_ f2_ f3_; have f4_ := f1_.symm; have f5_ := f3_.symm; clear f1_ f2_ f3_; subst f4_; subst f5_))
      refine hK.out _ _ ⟨(kc20 BK220.out 0).trans rfl, (kc20 BK220.out 1).trans rfl, (kc20 BK220.out 2).trans rfl, (kc20 BK220.out 3).trans rfl⟩ (fun hHeld => ?_)
      clear hK K
      refine norm_ (a' := ?_) ?_ ?_
      rotate_left
      ·show Act.put _ (some 44) _ = _
       simp only [Act.put, sa20, sz20, ss20, i64_w, i32_w]
       rfl
      refine pure_ (i:=9) (N:=some 45) (v:=?_) (a' := ?_) (bb20 12 1023) rfl rfl (any_of HT_.out (by kernel_rfl)) (fun _ _ _ h => h) (Or.inl ⟨by rfl, ?_⟩) ?_ ?_
      rotate_left
      ·intro w'
       go_simp
       with_reducible rfl
      rotate_left
      ·simp only [Act.put, sa20, sz20, ss20, i64_w, i32_w]
       rfl
      refine one_ (i:=10) (N:=none) (bb20 12 2047) rfl rfl (one_of HT_.out (by kernel_rfl)) (by decide) (fun K hK => ?_)
      have hs50 : w46.cell? ⟨gb221, 0, none⟩ = some (.slice none 0 0) := (kc20 BK221.out 0).trans rfl
      have hfs50 := kz20 BK221.out 0
      have hns50_0 := NB220_221.out
      have hms50_0 := NB221_220.out
      have hs51 : w46.cell? ⟨gb221, 1, none⟩ = some (.slice none 0 0) := (kc20 BK221.out 1).trans rfl
      have hfs51 := kz20 BK221.out 1
      have hns51_0 := NB220_221.out
      have hms51_0 := NB221_220.out
      have hs52 : w46.cell? ⟨gb221, 2, none⟩ = some (.slice none 0 0) := (kc20 BK221.out 2).trans rfl
      have hfs52 := kz20 BK221.out 2
      have hns52_0 := NB220_221.out
      have hms52_0 := NB221_220.out
      have hs53 : w46.cell? ⟨gb221, 3, none⟩ = some (.slice none 0 0) := (kc20 BK221.out 3).trans rfl
      have hfs53 := kz20 BK221.out 3
      have hns53_0 := NB220_221.out
      have hms53_0 := NB221_220.out
      refine skip_ (w1:=?_) (by rfl) rfl ?_ ?_
      rotate_left
      ·go_simp
       rfl
      refine hK.out _ _ ⟨((cell_far (p:=⟨gb221, _, none⟩) NB220_221.out _).trans (((cell_far (p:=⟨gb221, _, none⟩) NB220_221.out _).trans (((cell_far (p:=⟨gb221, _, none⟩) NB220_221.out _).trans (((cell_far (p:=⟨gb221, _, none⟩) NB220_221.out _).trans (hHeld.1)))))))), ((cell_far (p:=⟨gb221, _, none⟩) NB220_221.out _).trans (((cell_far (p:=⟨gb221, _, none⟩) NB220_221.out _).trans (((cell_far (p:=⟨gb221, _, none⟩) NB220_221.out _).trans (((cell_far (p:=⟨gb221, _, none⟩) NB220_221.out _).trans (hHeld.2.1)))))))), ((cell_far (p:=⟨gb221, _, none⟩) NB220_221.out _).trans (((cell_far (p:=⟨gb221, _, none⟩) NB220_221.out _).trans (((cell_far (p:=⟨gb221, _, none⟩) NB220_221.out _).trans (((cell_far (p:=⟨gb221, _, none⟩) NB220_221.out _).trans (hHeld.2.2.1)))))))), ((cell_far (p:=⟨gb221, _, none⟩) NB220_221.out _).trans (((cell_far (p:=⟨gb221, _, none⟩) NB220_221.out _).trans (((cell_far (p:=⟨gb221, _, none⟩) NB220_221.out _).trans (((cell_far (p:=⟨gb221, _, none⟩) NB220_221.out _).trans (hHeld.2.2.2))))))))⟩ (fun hHeld => ?_)
      clear hK K
      refine pure_ (i:=11) (N:=some 5) (v:=?_) (a' := ?_) (bb20 12 4095) rfl rfl (any_of HT_.out (by kernel_rfl)) (fun _ _ _ h => h) (Or.inl ⟨by rfl, ?_⟩) ?_ ?_
      rotate_left
      ·intro w'
       go_simp
       with_reducible rfl
      rotate_left
      ·simp only [Act.put, sa20, sz20, ss20, i64_w, i32_w]
       rfl
      refine done_ (done_of HT_.out (by kernel_rfl)) ?_
      try go_wp2
      refine bodyPost_ret (results_ct rfl _ _ gb221 24 #[.slice Ao49 t225.length co49, .slice none 0 0, .slice Ao48 t228.length co48, .slice Ao47 t231.length co47] (0, 0) _ rfl (by (with_reducible repeat first | apply kn20 | apply kd20 | apply ka20); refine blk_put (cs:=#[.slice Ao49 t225.length co49, .slice none 0 0, .slice Ao48 t228.length co48, .slice none 0 0]) ?_ 3 _ rfl; (with_reducible repeat first | apply kn20 | apply kd20 | apply ka20); refine blk_put (cs:=#[.slice Ao49 t225.length co49, .slice none 0 0, .slice none 0 0, .slice none 0 0]) ?_ 2 _ rfl; (with_reducible repeat first | apply kn20 | apply kd20 | apply ka20); refine blk_put (cs:=#[.slice Ao49 t225.length co49, .slice none 0 0, .slice none 0 0, .slice none 0 0]) ?_ 1 _ rfl; (with_reducible repeat first | apply kn20 | apply kd20 | apply ka20); refine blk_put (cs:=#[.slice none 0 0, .slice none 0 0, .slice none 0 0, .slice none 0 0]) ?_ 0 _ rfl; (with_reducible repeat first | apply kn20 | apply kd20 | apply ka20); exact BK221.out) Try.underlying24 rfl (by kernel_rfl)) rfl ?_
      exact ⟨_, _, _, _, by first | rfl | (simp [errW_none, errW_some] <;> rfl) | (simp [*, errW_none, errW_some] <;> rfl), by (with_reducible repeat first | apply Ra20 | apply Rn20 | apply Rd20); exact Ro20 (Rf20 (p:=⟨gb221, 3, none⟩) (Rf20 (p:=⟨gb221, 2, none⟩) (Rf20 (p:=⟨gb221, 1, none⟩) (Rf20 (p:=⟨gb221, 0, none⟩) (Ry20 HO227.out BK221.out (by decide)) (fun _ h=>h.2) (.slice Ao49 t225.length co49)) (fun _ h=>h.2) (.slice none 0 0)) (fun _ h=>h.2) (.slice Ao48 t228.length co48)) (fun _ h=>h.2) (.slice Ao47 t231.length co47)) (fun _ hk => ⟨(by simp [Value.ownBlock]), ⟨hk.1.1.2, hk.1.2⟩⟩), by first | exact Kd.R_nil _ _ _ _ _ | exact Kd.N_nil _ _ _ _ _ | exact Kd.V_nil _ _ _ _ _ | exact Kd.Q_nil _ _ _ _ _ | exact Kd.S_nil _ _ _ _ _, by (with_reducible repeat first | apply Ra20 | apply Rn20 | apply Rd20); exact Ro20 (Rf20 (p:=⟨gb221, 3, none⟩) (Rf20 (p:=⟨gb221, 2, none⟩) (Rf20 (p:=⟨gb221, 1, none⟩) (Rf20 (p:=⟨gb221, 0, none⟩) (Ry20 HO230.out BK221.out (by decide)) (fun _ h=>h.2) (.slice Ao49 t225.length co49)) (fun _ h=>h.2) (.slice none 0 0)) (fun _ h=>h.2) (.slice Ao48 t228.length co48)) (fun _ h=>h.2) (.slice Ao47 t231.length co47)) (fun _ hk => ⟨hk.1.1.2, ⟨(by simp [Value.ownBlock]), hk.1.2⟩⟩), by (with_reducible repeat first | apply Ra20 | apply Rn20 | apply Rd20); exact Ro20 (Rf20 (p:=⟨gb221, 3, none⟩) (Rf20 (p:=⟨gb221, 2, none⟩) (Rf20 (p:=⟨gb221, 1, none⟩) (Rf20 (p:=⟨gb221, 0, none⟩) (Ry20 HO233.out BK221.out (by decide)) (fun _ h=>h.2) (.slice Ao49 t225.length co49)) (fun _ h=>h.2) (.slice none 0 0)) (fun _ h=>h.2) (.slice Ao48 t228.length co48)) (fun _ h=>h.2) (.slice Ao47 t231.length co47)) (fun _ hk => ⟨hk.1.1.2, ⟨(by simp [Value.ownBlock]), hk.1.2⟩⟩), by repeat (first | (with_reducible first | exact HB.out | apply ba20 | apply bn20 | apply bd20 | refine bs20 ?_ GE220.out | refine bs20 ?_ GE221.out) | exact HB.out)⟩

end Go.Proofs.Ytkilmclncpmjnaa.P06t
