-- Written by gprint.py, a program of this session, over the kit's print; the functions of my own contracts are marked GIVEN
import Derived.Test.YtkilmclncpmjnaaZQAP06tx0
import Derived.Test.YtkilmclncpmjnaaZQAP06tx6
import Derived.Test.YtkilmclncpmjnaaZQAP06tx7
import Derived.Test.YtkilmclncpmjnaaZQAP06tx8
namespace Go.Proofs.Ytkilmclncpmjnaa.P06t
open Go.RowKit Go.Proofs.YtkilmclncpmjnaaW.PrintWords Go.Proofs.YtkilmclncpmjnaaW.PrintLast Go.Proofs.YtkilmclncpmjnaaW.PrintMore
attribute [local go_sem] max2_int min2_int max_two min_two max_three min_three max_four min_four   -- for this text's walks alone
set_option linter.unusedVariables false
set_option linter.unusedSimpArgs false

abbrev bb21 (n m : Nat) : Array Bool := ((List.range n).map fun i => m.testBit i).toArray
theorem Am21 : type_of% @Aside0.mk := @Aside0.mk
theorem Ra21 : type_of% @Kd.R_alloc := @Kd.R_alloc
theorem Rn21 : type_of% @Kd.R_drewN := @Kd.R_drewN
theorem Rd21 : type_of% @Kd.R_drew := @Kd.R_drew
theorem Rf21 : type_of% @Kd.R_far := @Kd.R_far
theorem Ro21 : type_of% @Kd.R_mono := @Kd.R_mono
theorem Ry21 : type_of% @Kd.R_types := @Kd.R_types
theorem ba21 : type_of% @below_alloc := @below_alloc
theorem bn21 : type_of% @pw_below_drewN := @pw_below_drewN
theorem bd21 : type_of% @below_drew1 := @below_drew1
theorem bs21 : type_of% @below_set := @below_set
theorem kn21 : type_of% @blk_drewN := @blk_drewN
theorem kd21 : type_of% @blk_drew := @blk_drew
theorem ka21 : type_of% @blk_alloc := @blk_alloc
theorem kb21 : type_of% @blk_below := @blk_below
theorem Re21 : type_of% @Kd.R_elder' := @Kd.R_elder'
theorem Rw21 : type_of% @Kd.R_new' := @Kd.R_new'
theorem Rl21 : type_of% @Kd.R_lower := @Kd.R_lower
theorem Ra_21 : type_of% @Kd.R_base := @Kd.R_base
theorem Rt21 : type_of% @Kd.R_lt := @Kd.R_lt
theorem bz21 : type_of% @below_size := @below_size
theorem bp21 : type_of% @below_step := @below_step
theorem kc21 : type_of% @blk_cell := @blk_cell
theorem kz21 : type_of% @blk_frozen := @blk_frozen
theorem sa21 : type_of% @List.setIfInBounds_toArray := @List.setIfInBounds_toArray
theorem sz21 : type_of% @List.set_cons_zero := @List.set_cons_zero
theorem ss21 : type_of% @List.set_cons_succ := @List.set_cons_succ
theorem ma21 : type_of% @List.map_toArray := @List.map_toArray
theorem mc21 : type_of% @List.map_cons := @List.map_cons
theorem mn21 : type_of% @List.map_nil := @List.map_nil
theorem ld21 : type_of% @List.length_drop := @List.length_drop
theorem lt_21 : type_of% @List.length_take := @List.length_take
/-! ### watershedref06_Next: function 21 -/
def watershedref06_Next.j0 : Nat → Bool → List Int → List Int → List Int → List Int → Option (List Int × List Int × List Int × List Int × Bool)
 | 0, _, _, _, _, _ => none
 | k + 1, x12, x235000, x235001, x235002, x235003 => if x12 = true then (some (([] : List Int), ([] : List Int), ([] : List Int), ([] : List Int), false)) else (if (x235001.length : Int) > 0 then ((watershedkit_CopyInts.f x235000).bind fun t237 => (some (t237, ([] : List Int), ([] : List Int), ([] : List Int), true))) else ((watershedkit_CopyInts.f x235003).bind fun t240 => ((watershedkit_CopyInts.f x235000).bind fun t243 => ((watershedkit_CopyInts.f x235003).bind fun t246 => (some (t240, t243, ([] : List Int), t246, true))))))
def watershedref06_Next.f (k : Nat) (l0_0 : List Int) (l0_1 : List Int) (l0_2 : List Int) (l0_3 : List Int) : Option (List Int × List Int × List Int × List Int × Bool) := (watershedref06_Right.f k l0_0 l0_1 l0_2 l0_3).bind fun t236 => (if t236 = true then (watershedref06_Next.j0 k ((l0_3.length : Int) == 0) l0_0 l0_1 l0_2 l0_3) else (watershedref06_Next.j0 k true l0_0 l0_1 l0_2 l0_3))
theorem watershedref06_Next.mono_l : ∀ k, (∀ y0 y1 y2 y3 y4, LeO (watershedref06_Next.j0 k y0 y1 y2 y3 y4) (watershedref06_Next.j0 (k + 1) y0 y1 y2 y3 y4))
 | 0 => fun _ _ _ _ _ r h => by simp [watershedref06_Next.j0] at h
 | k + 1 => by
  have ih0 := watershedref06_Next.mono_l k
  ·intro y0 y1 y2 y3 y4
   unfold watershedref06_Next.j0
   repeat' first
   | (with_reducible exact ih0 _ _ _ _ _)
   | (with_reducible exact watershedref06_Right.mono _ _ _ _ _)
   | (with_reducible exact LeO.refl _)
   | (with_reducible exact LeO.none _)
   | (with_reducible refine LeO.ite ?_ ?_)
   | (with_reducible refine LeO.bind ?_ (fun _ => ?_))
   | exact ih0 _ _ _ _ _
   | exact watershedref06_Right.mono _ _ _ _ _
   | exact LeO.none _
   | refine LeO.ite ?_ ?_
   | refine LeO.bind ?_ (fun _ => ?_)
theorem watershedref06_Next.mono : ∀ a0 a1 a2 a3 k, LeO (watershedref06_Next.f k a0 a1 a2 a3) (watershedref06_Next.f (k + 1) a0 a1 a2 a3) := by
 intro a0 a1 a2 a3 k
 have ih0 := watershedref06_Next.mono_l k
 unfold watershedref06_Next.f
 repeat' first
   | (with_reducible exact ih0 _ _ _ _ _)
   | (with_reducible exact watershedref06_Right.mono _ _ _ _ _)
   | (with_reducible exact LeO.refl _)
   | (with_reducible exact LeO.none _)
   | (with_reducible refine LeO.ite ?_ ?_)
   | (with_reducible refine LeO.bind ?_ (fun _ => ?_))
   | exact ih0 _ _ _ _ _
   | exact watershedref06_Right.mono _ _ _ _ _
   | exact LeO.none _
   | refine LeO.ite ?_ ?_
   | refine LeO.bind ?_ (fun _ => ?_)
def watershedref06_Next.T5 : Bool × List (List Nat × List Nat) := (true, [([], []), ([0], [0]), ([1], [1]), ([], []), ([3], [3]), ([4, 2], [4]), ([], []), ([6], [6]), ([7, 5], [7]), ([2, 5, 8], [2, 5, 8]), ([9, 8, 0, 1, 2, 3, 4, 5, 6, 7, 8, 9], [9]), ([10, 0, 1, 2, 3, 4, 5, 6, 7, 8, 9, 10], [])])
def watershedref06_Next.B5 : List Nat := [0, 1, 3, 0, 8, 31, 0, 64, 255, 511, 1023, 2047]
theorem watershedref06_Next.tab5 : rtab .any (opsOf Try.f21 5) = watershedref06_Next.T5 := by kernel_rfl
theorem watershedref06_Next.bits5 : waitsOk watershedref06_Next.T5.2 watershedref06_Next.B5 = true := by kernel_rfl
set_option maxHeartbeats 8000000 in
set_option maxRecDepth 100000 in
theorem watershedref06_Next.calls (k : Nat) (A0_0 : Option Addr) (c0_0 : Nat) (l0_0 : List Int) (A0_1 : Option Addr) (c0_1 : Nat) (l0_1 : List Int) (A0_2 : Option Addr) (c0_2 : Nat) (l0_2 : List Int) (A0_3 : Option Addr) (c0_3 : Nat) (l0_3 : List Int) (r1 : List Int) (r2 : List Int) (r3 : List Int) (r4 : List Int) (r5 : Bool) (w : World) (hr0_0 : Kd.C (Kd.int .i64) w A0_0 l0_0.length l0_0) (hc0_0 : l0_0.length ≤ c0_0) (hr0_1 : Kd.C (Kd.int .i64) w A0_1 l0_1.length l0_1) (hc0_1 : l0_1.length ≤ c0_1) (hr0_2 : Kd.C (Kd.int .i64) w A0_2 l0_2.length l0_2) (hc0_2 : l0_2.length ≤ c0_2) (hr0_3 : Kd.C (Kd.int .i64) w A0_3 l0_3.length l0_3) (hc0_3 : l0_3.length ≤ c0_3) (h : watershedref06_Next.f k l0_0 l0_1 l0_2 l0_3 = some (r1, r2, r3, r4, r5)) :
  Calls Try.prog 21 #[.agg #[.slice A0_0 l0_0.length c0_0, .slice A0_1 l0_1.length c0_1, .slice A0_2 l0_2.length c0_2, .slice A0_3 l0_3.length c0_3]] w fun e w' => ∃ v0_ v1_ v2_ v3_ : Value, e = .returned (.tuple #[.agg #[v0_, v1_, v2_, v3_], .bool r5]) ∧ Kd.R (Kd.int .i64) 3 w' w.heap.size (fun k_ => some k_ ≠ (v1_ : Value).ownBlock ∧ some k_ ≠ (v2_ : Value).ownBlock ∧ some k_ ≠ (v3_ : Value).ownBlock) v0_ r1 ∧ Kd.R (Kd.int .i64) 3 w' w.heap.size (fun k_ => some k_ ≠ (v0_ : Value).ownBlock ∧ some k_ ≠ (v2_ : Value).ownBlock ∧ some k_ ≠ (v3_ : Value).ownBlock) v1_ r2 ∧ Kd.R (Kd.int .i64) 3 w' w.heap.size (fun k_ => some k_ ≠ (v0_ : Value).ownBlock ∧ some k_ ≠ (v1_ : Value).ownBlock ∧ some k_ ≠ (v3_ : Value).ownBlock) v2_ r3 ∧ Kd.R (Kd.int .i64) 3 w' w.heap.size (fun k_ => some k_ ≠ (v0_ : Value).ownBlock ∧ some k_ ≠ (v1_ : Value).ownBlock ∧ some k_ ≠ (v2_ : Value).ownBlock) v3_ r4 ∧ Below w.heap.size w w' := by
 have hu24 := Try.underlying24
 have HR0_0 := Am21 hr0_0
 have HC0_0 := Am21 hc0_0
 clear hr0_0 hc0_0
 have HR0_1 := Am21 hr0_1
 have HC0_1 := Am21 hc0_1
 clear hr0_1 hc0_1
 have HR0_2 := Am21 hr0_2
 have HC0_2 := Am21 hc0_2
 clear hr0_2 hc0_2
 have HR0_3 := Am21 hr0_3
 have HC0_3 := Am21 hc0_3
 clear hr0_3 hc0_3
 have HB := Am21 (Below.refl w.heap.size w)
 have H : ((watershedref06_Right.f k l0_0 l0_1 l0_2 l0_3).bind fun t236 => (if t236 = true then (watershedref06_Next.j0 k ((l0_3.length : Int) == 0) l0_0 l0_1 l0_2 l0_3) else (watershedref06_Next.j0 k true l0_0 l0_1 l0_2 l0_3))) = some (r1, r2, r3, r4, r5) := h
 clear h
 have HC2 := Am21 H
 clear H
 go_enter Try.func21, Try.ntmps21
 go_upto_region 1 with (first | ((with_reducible refine gate_dst (N:=1) rfl ?_); (try (refine gate_guard (by rfl) ?_; dsimp only)); refine box_event ?hg (N:=1) ?hd (cs:=#[.slice A0_0 l0_0.length c0_0, .slice A0_1 l0_1.length c0_1, .slice A0_2 l0_2.length c0_2, .slice A0_3 l0_3.length c0_3]) (t:=24) ?hr ?_; (case hd => rfl); (case hg => rfl); (case hr => first | (go_simp; done) | (go_simp; rfl)); intro gb234 hg w3 hbox hb; have BK234 := Am21 (hbox); have GW234 := Am21 ((by rw [hg]; exact (bz21 (by repeat (first | (with_reducible first | exact HB.out | apply ba21 | apply bn21 | apply bd21) | exact HB.out))) : w.heap.size ≤ gb234)); have GE234 := Am21 ((by rw [hg]; exact (bz21 (by repeat (first | (with_reducible first | exact HB.out | apply ba21 | apply bn21 | apply bd21) | exact HB.out))) : w.heap.size ≤ gb234)); replace HB := Am21 (bp21 (by repeat (first | (with_reducible first | exact HB.out | apply ba21 | apply bn21 | apply bd21) | exact HB.out)) hb); clear hb hbox hg) | ((with_reducible refine gate_dst (N:=2) rfl ?_); (try (refine gate_guard (by rfl) ?_; dsimp only)); refine box_event ?hg (N:=2) ?hd (cs:=#[.slice none 0 0, .slice none 0 0, .slice none 0 0, .slice none 0 0]) (t:=24) ?hr ?_; (case hd => rfl); (case hg => rfl); (case hr => first | (go_simp; done) | (go_simp; rfl)); intro gb235 hg w4 hbox hb; have BK235 := Am21 (hbox); have GW235 := Am21 ((by rw [hg]; exact (bz21 (by repeat (first | (with_reducible first | exact HB.out | apply ba21 | apply bn21 | apply bd21 | refine bs21 ?_ GE234.out) | exact HB.out))) : w.heap.size ≤ gb235)); have GE235 := Am21 ((by rw [hg]; exact (bz21 (by repeat (first | (with_reducible first | exact HB.out | apply ba21 | apply bn21 | apply bd21 | refine bs21 ?_ GE234.out) | exact HB.out))) : w.heap.size ≤ gb235)); replace HB := Am21 (bp21 (by repeat (first | (with_reducible first | exact HB.out | apply ba21 | apply bn21 | apply bd21 | refine bs21 ?_ GE234.out) | exact HB.out)) hb); have NB234_235 := Am21 ((by rw [hg]; exact Nat.ne_of_lt (blk_lt (g:=gb234) (o:=.cells #[.slice A0_0 l0_0.length c0_0, .slice A0_1 l0_1.length c0_1, .slice A0_2 l0_2.length c0_2, .slice A0_3 l0_3.length c0_3] 24 (0, 0)) (by (with_reducible repeat first | apply kn21 | apply kd21 | apply ka21); exact BK234.out)) : gb234 ≠ gb235)); have NB235_234 := Am21 ((by rw [hg]; exact Nat.ne_of_gt (blk_lt (g:=gb234) (o:=.cells #[.slice A0_0 l0_0.length c0_0, .slice A0_1 l0_1.length c0_1, .slice A0_2 l0_2.length c0_2, .slice A0_3 l0_3.length c0_3] 24 (0, 0)) (by (with_reducible repeat first | apply kn21 | apply kd21 | apply ka21); exact BK234.out)) : gb235 ≠ gb234)); replace BK234 := Am21 (kb21 (g:=gb234) (o:=.cells #[.slice A0_0 l0_0.length c0_0, .slice A0_1 l0_1.length c0_1, .slice A0_2 l0_2.length c0_2, .slice A0_3 l0_3.length c0_3] 24 (0, 0)) (by (with_reducible repeat first | apply kn21 | apply kd21 | apply ka21); exact BK234.out) hb); clear hb hbox hg))
 (try simp only [Act.put, sa21, sz21, ss21])
 go_cut [12] (fun v12 wc => ∃ (kq : Nat) (x12_1 : Bool), v12 = .bool x12_1 ∧ Aside0 (watershedref06_Next.j0 kq x12_1 l0_0 l0_1 l0_2 l0_3 = some (r1, r2, r3, r4, r5)) ∧ Aside0 (kq ≤ k) ∧ Aside0 (wc.heap[gb234]? = some (.cells #[(.slice A0_0 l0_0.length c0_0), (.slice A0_1 l0_1.length c0_1), (.slice A0_2 l0_2.length c0_2), (.slice A0_3 l0_3.length c0_3)] 24 (0, 0))) ∧ Aside0 (wc.heap[gb235]? = some (.cells #[(.slice none 0 0), (.slice none 0 0), (.slice none 0 0), (.slice none 0 0)] 24 (0, 0))) ∧ Aside0 (Below w.heap.size w wc))
 case first =>
  have H := HC2.out
  clear HC2
  replace H := Option.bind_eq_some_iff.mp H
  obtain ⟨t236, A50, H⟩ := H
  try dsimp only at H
  have A5 := Am21 A50
  clear A50
  by_cases c6 : t236 = true
  ·subst c6
   rw [if_pos rfl] at H
   have H' := Am21 H
   clear H
   have hnb7 := NB234_235.out
   have hnc7 := NB235_234.out
   have hcz8_0 : w4.cell? ⟨gb234, 0, none⟩ = some (.slice A0_0 l0_0.length c0_0) := (kc21 BK234.out 0).trans rfl
   have hcz8_1 : w4.cell? ⟨gb234, 1, none⟩ = some (.slice A0_1 l0_1.length c0_1) := (kc21 BK234.out 1).trans rfl
   have hcz8_2 : w4.cell? ⟨gb234, 2, none⟩ = some (.slice A0_2 l0_2.length c0_2) := (kc21 BK234.out 2).trans rfl
   have hcz8_3 : w4.cell? ⟨gb234, 3, none⟩ = some (.slice A0_3 l0_3.length c0_3) := (kc21 BK234.out 3).trans rfl
   have hfz8_0 := kz21 BK234.out 0
   have hfz8_1 := kz21 BK234.out 1
   have hfz8_2 := kz21 BK234.out 2
   have hfz8_3 := kz21 BK234.out 3
   go_wp2_with (first | ((with_reducible refine gate_callee (f:=23) rfl ?_); refine goesL_ (some 5) rfl rfl Try.func23 (by kernel_rfl) rfl #[.agg #[.slice A0_0 l0_0.length c0_0, .slice A0_1 l0_1.length c0_1, .slice A0_2 l0_2.length c0_2, .slice A0_3 l0_3.length c0_3]] rfl (by (try simp only [ma21, mc21, mn21]); first | done | rfl | (simp only [ld21, lt_21]; rfl)) ?_; (with_reducible refine (watershedref06_Right.calls k _ _ l0_0 _ _ l0_1 _ _ l0_2 _ _ l0_3 true _ ?side1 ?side2 ?side3 ?side4 ?side5 ?side6 ?side7 ?side8 A5.out).mono ?_); (case side1 => repeat (first | exact (Kd.C_below HR0_0.out HB.out) | (with_reducible refine Kd.C_alloc ?_ _) | (with_reducible refine Kd.C_drewN ?_ _) | (with_reducible refine Kd.C_drew ?_))); (case side2 => exact HC0_0.out); (case side3 => repeat (first | exact (Kd.C_below HR0_1.out HB.out) | (with_reducible refine Kd.C_alloc ?_ _) | (with_reducible refine Kd.C_drewN ?_ _) | (with_reducible refine Kd.C_drew ?_))); (case side4 => exact HC0_1.out); (case side5 => repeat (first | exact (Kd.C_below HR0_2.out HB.out) | (with_reducible refine Kd.C_alloc ?_ _) | (with_reducible refine Kd.C_drewN ?_ _) | (with_reducible refine Kd.C_drew ?_))); (case side6 => exact HC0_2.out); (case side7 => repeat (first | exact (Kd.C_below HR0_3.out HB.out) | (with_reducible refine Kd.C_alloc ?_ _) | (with_reducible refine Kd.C_drewN ?_ _) | (with_reducible refine Kd.C_drew ?_))); (case side8 => exact HC0_3.out); rintro e w9 ⟨rfl, hb⟩; refine ⟨_, rfl, ?_⟩; replace BK234 := Am21 (kb21 (g:=gb234) (o:=.cells #[.slice A0_0 l0_0.length c0_0, .slice A0_1 l0_1.length c0_1, .slice A0_2 l0_2.length c0_2, .slice A0_3 l0_3.length c0_3] 24 (0, 0)) (by (with_reducible repeat first | apply kn21 | apply kd21 | apply ka21); exact BK234.out) hb); replace BK235 := Am21 (kb21 (g:=gb235) (o:=.cells #[.slice none 0 0, .slice none 0 0, .slice none 0 0, .slice none 0 0] 24 (0, 0)) (by (with_reducible repeat first | apply kn21 | apply kd21 | apply ka21); exact BK235.out) hb); replace HB := Am21 (bp21 (by repeat (first | (with_reducible first | exact HB.out | apply ba21 | apply bn21 | apply bd21 | refine bs21 ?_ GE234.out | refine bs21 ?_ GE235.out) | exact HB.out)) hb); (try clear hb); (try clear hb2); (try clear hk); (try clear hi); have hcz10_0 : w9.cell? ⟨gb234, 0, none⟩ = some (.slice A0_0 l0_0.length c0_0) := (kc21 BK234.out 0).trans rfl; have hcz10_1 : w9.cell? ⟨gb234, 1, none⟩ = some (.slice A0_1 l0_1.length c0_1) := (kc21 BK234.out 1).trans rfl; have hcz10_2 : w9.cell? ⟨gb234, 2, none⟩ = some (.slice A0_2 l0_2.length c0_2) := (kc21 BK234.out 2).trans rfl; have hcz10_3 : w9.cell? ⟨gb234, 3, none⟩ = some (.slice A0_3 l0_3.length c0_3) := (kc21 BK234.out 3).trans rfl; have hfz10_0 := kz21 BK234.out 0; have hfz10_1 := kz21 BK234.out 1; have hfz10_2 := kz21 BK234.out 2; have hfz10_3 := kz21 BK234.out 3))
   go_meet
   case rel => exact ⟨_, (((l0_3.length : Int) == 0)), (by first | rfl | (simp; done) | (simp [*]; done)), H', ⟨by first | omega | exact Nat.le_refl _⟩, ⟨by (with_reducible repeat first | apply kn21 | apply kd21 | apply ka21); exact BK234.out⟩, ⟨by (with_reducible repeat first | apply kn21 | apply kd21 | apply ka21); exact BK235.out⟩, ⟨by repeat (first | (with_reducible first | exact HB.out | apply ba21 | apply bn21 | apply bd21 | refine bs21 ?_ GE234.out | refine bs21 ?_ GE235.out) | exact HB.out)⟩⟩
  ·replace c6 := Bool.eq_false_iff.mpr c6
   subst c6
   rw [if_neg (show ¬ (false = true) by decide)] at H
   have H' := Am21 H
   clear H
   have hnb11 := NB234_235.out
   have hnc11 := NB235_234.out
   have hcz12_0 : w4.cell? ⟨gb234, 0, none⟩ = some (.slice A0_0 l0_0.length c0_0) := (kc21 BK234.out 0).trans rfl
   have hcz12_1 : w4.cell? ⟨gb234, 1, none⟩ = some (.slice A0_1 l0_1.length c0_1) := (kc21 BK234.out 1).trans rfl
   have hcz12_2 : w4.cell? ⟨gb234, 2, none⟩ = some (.slice A0_2 l0_2.length c0_2) := (kc21 BK234.out 2).trans rfl
   have hcz12_3 : w4.cell? ⟨gb234, 3, none⟩ = some (.slice A0_3 l0_3.length c0_3) := (kc21 BK234.out 3).trans rfl
   have hfz12_0 := kz21 BK234.out 0
   have hfz12_1 := kz21 BK234.out 1
   have hfz12_2 := kz21 BK234.out 2
   have hfz12_3 := kz21 BK234.out 3
   go_wp2_with (first | ((with_reducible refine gate_callee (f:=23) rfl ?_); refine goesL_ (some 5) rfl rfl Try.func23 (by kernel_rfl) rfl #[.agg #[.slice A0_0 l0_0.length c0_0, .slice A0_1 l0_1.length c0_1, .slice A0_2 l0_2.length c0_2, .slice A0_3 l0_3.length c0_3]] rfl (by (try simp only [ma21, mc21, mn21]); first | done | rfl | (simp only [ld21, lt_21]; rfl)) ?_; (with_reducible refine (watershedref06_Right.calls k _ _ l0_0 _ _ l0_1 _ _ l0_2 _ _ l0_3 false _ ?side1 ?side2 ?side3 ?side4 ?side5 ?side6 ?side7 ?side8 A5.out).mono ?_); (case side1 => repeat (first | exact (Kd.C_below HR0_0.out HB.out) | (with_reducible refine Kd.C_alloc ?_ _) | (with_reducible refine Kd.C_drewN ?_ _) | (with_reducible refine Kd.C_drew ?_))); (case side2 => exact HC0_0.out); (case side3 => repeat (first | exact (Kd.C_below HR0_1.out HB.out) | (with_reducible refine Kd.C_alloc ?_ _) | (with_reducible refine Kd.C_drewN ?_ _) | (with_reducible refine Kd.C_drew ?_))); (case side4 => exact HC0_1.out); (case side5 => repeat (first | exact (Kd.C_below HR0_2.out HB.out) | (with_reducible refine Kd.C_alloc ?_ _) | (with_reducible refine Kd.C_drewN ?_ _) | (with_reducible refine Kd.C_drew ?_))); (case side6 => exact HC0_2.out); (case side7 => repeat (first | exact (Kd.C_below HR0_3.out HB.out) | (with_reducible refine Kd.C_alloc ?_ _) | (with_reducible refine Kd.C_drewN ?_ _) | (with_reducible refine Kd.C_drew ?_))); (case side8 => exact HC0_3.out); rintro e w13 ⟨rfl, hb⟩; refine ⟨_, rfl, ?_⟩; replace BK234 := Am21 (kb21 (g:=gb234) (o:=.cells #[.slice A0_0 l0_0.length c0_0, .slice A0_1 l0_1.length c0_1, .slice A0_2 l0_2.length c0_2, .slice A0_3 l0_3.length c0_3] 24 (0, 0)) (by (with_reducible repeat first | apply kn21 | apply kd21 | apply ka21); exact BK234.out) hb); replace BK235 := Am21 (kb21 (g:=gb235) (o:=.cells #[.slice none 0 0, .slice none 0 0, .slice none 0 0, .slice none 0 0] 24 (0, 0)) (by (with_reducible repeat first | apply kn21 | apply kd21 | apply ka21); exact BK235.out) hb); replace HB := Am21 (bp21 (by repeat (first | (with_reducible first | exact HB.out | apply ba21 | apply bn21 | apply bd21 | refine bs21 ?_ GE234.out | refine bs21 ?_ GE235.out) | exact HB.out)) hb); (try clear hb); (try clear hb2); (try clear hk); (try clear hi)))
   go_meet
   case rel => exact ⟨_, (true), (by first | rfl | (simp; done) | (simp [*]; done)), H', ⟨by first | omega | exact Nat.le_refl _⟩, ⟨by (with_reducible repeat first | apply kn21 | apply kd21 | apply ka21); exact BK234.out⟩, ⟨by (with_reducible repeat first | apply kn21 | apply kd21 | apply ka21); exact BK235.out⟩, ⟨by repeat (first | (with_reducible first | exact HB.out | apply ba21 | apply bn21 | apply bd21 | refine bs21 ?_ GE234.out | refine bs21 ?_ GE235.out) | exact HB.out)⟩⟩
 case rest =>
  clear HC2
  try clear c1
  try clear c2
  try clear p2
  try clear c6
  try clear c7
  try clear c11
  try clear hcz10_0
  try clear hcz10_1
  try clear hcz10_2
  try clear hcz10_3
  try clear hcz12_0
  try clear hcz12_1
  try clear hcz12_2
  try clear hcz12_3
  try clear hcz8_0
  try clear hcz8_1
  try clear hcz8_2
  try clear hcz8_3
  try clear hfz10_0
  try clear hfz10_1
  try clear hfz10_2
  try clear hfz10_3
  try clear hfz12_0
  try clear hfz12_1
  try clear hfz12_2
  try clear hfz12_3
  try clear hfz8_0
  try clear hfz8_1
  try clear hfz8_2
  try clear hfz8_3
  obtain ⟨kq, x12_1, rfl, HA, HJ1, BK234, BK235, HB⟩ := hcut
  cases kq with
  | zero => exact absurd HA.out (by simp [watershedref06_Next.j0])
  | succ kj1 =>
   have H := HA.out
   clear HA
   simp only [watershedref06_Next.j0] at H
   by_cases c14 : x12_1 = true
   ·subst c14
    rw [if_pos rfl] at H
    simp only [Option.some.injEq, Prod.mk.injEq] at H
    obtain ⟨rfl, rfl, rfl, rfl, rfl⟩ := H
    have hnb15 := NB235_234.out
    have hnc15 := NB234_235.out
    have hcz16_0 : wc.cell? ⟨gb235, 0, none⟩ = some (.slice none 0 0) := (kc21 BK235.out 0).trans rfl
    have hcz16_1 : wc.cell? ⟨gb235, 1, none⟩ = some (.slice none 0 0) := (kc21 BK235.out 1).trans rfl
    have hcz16_2 : wc.cell? ⟨gb235, 2, none⟩ = some (.slice none 0 0) := (kc21 BK235.out 2).trans rfl
    have hcz16_3 : wc.cell? ⟨gb235, 3, none⟩ = some (.slice none 0 0) := (kc21 BK235.out 3).trans rfl
    have hfz16_0 := kz21 BK235.out 0
    have hfz16_1 := kz21 BK235.out 1
    have hfz16_2 := kz21 BK235.out 2
    have hfz16_3 := kz21 BK235.out 3
    go_wp2
    refine bodyPost_ret (results_ct rfl _ _ gb235 24 #[.slice none 0 0, .slice none 0 0, .slice none 0 0, .slice none 0 0] (0, 0) _ rfl (by (with_reducible repeat first | apply kn21 | apply kd21 | apply ka21); refine blk_put (cs:=#[.slice none 0 0, .slice none 0 0, .slice none 0 0, .slice none 0 0]) ?_ 3 _ rfl; (with_reducible repeat first | apply kn21 | apply kd21 | apply ka21); refine blk_put (cs:=#[.slice none 0 0, .slice none 0 0, .slice none 0 0, .slice none 0 0]) ?_ 2 _ rfl; (with_reducible repeat first | apply kn21 | apply kd21 | apply ka21); refine blk_put (cs:=#[.slice none 0 0, .slice none 0 0, .slice none 0 0, .slice none 0 0]) ?_ 1 _ rfl; (with_reducible repeat first | apply kn21 | apply kd21 | apply ka21); refine blk_put (cs:=#[.slice none 0 0, .slice none 0 0, .slice none 0 0, .slice none 0 0]) ?_ 0 _ rfl; (with_reducible repeat first | apply kn21 | apply kd21 | apply ka21); exact BK235.out) Try.underlying24 rfl (by kernel_rfl)) rfl ?_
    exact ⟨_, _, _, _, by first | rfl | (simp [errW_none, errW_some] <;> rfl) | (simp [*, errW_none, errW_some] <;> rfl), by first | exact Kd.R_nil _ _ _ _ _ | exact Kd.N_nil _ _ _ _ _ | exact Kd.V_nil _ _ _ _ _ | exact Kd.Q_nil _ _ _ _ _ | exact Kd.S_nil _ _ _ _ _, by first | exact Kd.R_nil _ _ _ _ _ | exact Kd.N_nil _ _ _ _ _ | exact Kd.V_nil _ _ _ _ _ | exact Kd.Q_nil _ _ _ _ _ | exact Kd.S_nil _ _ _ _ _, by first | exact Kd.R_nil _ _ _ _ _ | exact Kd.N_nil _ _ _ _ _ | exact Kd.V_nil _ _ _ _ _ | exact Kd.Q_nil _ _ _ _ _ | exact Kd.S_nil _ _ _ _ _, by first | exact Kd.R_nil _ _ _ _ _ | exact Kd.N_nil _ _ _ _ _ | exact Kd.V_nil _ _ _ _ _ | exact Kd.Q_nil _ _ _ _ _ | exact Kd.S_nil _ _ _ _ _, by repeat (first | (with_reducible first | exact HB.out | apply ba21 | apply bn21 | apply bd21 | refine bs21 ?_ GE234.out | refine bs21 ?_ GE235.out) | exact HB.out)⟩
   ·replace c14 := Bool.eq_false_iff.mpr c14
    subst c14
    rw [if_neg (show ¬ (false = true) by decide)] at H
    by_cases c17 : (l0_1.length : Int) > 0
    ·rw [if_pos c17] at H
     have c17b0 : decide (0 < (l0_1.length : Int)) = true := decide_eq_true c17
     have c17b1 : decide (0 < l0_1.length) = true := decide_eq_true (by omega)
     clear c17
     replace H := Option.bind_eq_some_iff.mp H
     obtain ⟨t237, A180, H⟩ := H
     try dsimp only at H
     have A18 := Am21 A180
     clear A180
     simp only [Option.some.injEq, Prod.mk.injEq] at H
     obtain ⟨rfl, rfl, rfl, rfl, rfl⟩ := H
     have hnb19 := NB234_235.out
     have hnc19 := NB235_234.out
     have hcz20_0 : wc.cell? ⟨gb234, 0, none⟩ = some (.slice A0_0 l0_0.length c0_0) := (kc21 BK234.out 0).trans rfl
     have hcz20_1 : wc.cell? ⟨gb234, 1, none⟩ = some (.slice A0_1 l0_1.length c0_1) := (kc21 BK234.out 1).trans rfl
     have hcz20_2 : wc.cell? ⟨gb234, 2, none⟩ = some (.slice A0_2 l0_2.length c0_2) := (kc21 BK234.out 2).trans rfl
     have hcz20_3 : wc.cell? ⟨gb234, 3, none⟩ = some (.slice A0_3 l0_3.length c0_3) := (kc21 BK234.out 3).trans rfl
     have hfz20_0 := kz21 BK234.out 0
     have hfz20_1 := kz21 BK234.out 1
     have hfz20_2 := kz21 BK234.out 2
     have hfz20_3 := kz21 BK234.out 3
     go_wp2_with (first | ((with_reducible refine gate_callee (f:=44) rfl ?_); refine goesL_ (some 20) rfl rfl Try.func44 (by kernel_rfl) rfl #[.slice A0_0 l0_0.length c0_0] rfl (by (try simp only [ma21, mc21, mn21]); first | done | rfl | (simp only [ld21, lt_21]; rfl)) ?_; (with_reducible refine (watershedkit_CopyInts.calls _ _ l0_0 t237 _ ?side1 ?side2 A18.out).mono ?_); (case side1 => repeat (first | exact (Kd.C_below HR0_0.out HB.out) | (with_reducible refine Kd.C_alloc ?_ _) | (with_reducible refine Kd.C_drewN ?_ _) | (with_reducible refine Kd.C_drew ?_))); (case side2 => exact HC0_0.out); rintro e w21 ⟨v238, rfl, ho0, hb⟩; refine ⟨_, rfl, ?_⟩; have HO239 := Am21 (Rl21 ho0 (bz21 (by repeat (first | (with_reducible first | exact HB.out | apply ba21 | apply bn21 | apply bd21 | refine bs21 ?_ GE234.out | refine bs21 ?_ GE235.out) | exact HB.out)))); replace BK234 := Am21 (kb21 (g:=gb234) (o:=.cells #[.slice A0_0 l0_0.length c0_0, .slice A0_1 l0_1.length c0_1, .slice A0_2 l0_2.length c0_2, .slice A0_3 l0_3.length c0_3] 24 (0, 0)) (by (with_reducible repeat first | apply kn21 | apply kd21 | apply ka21); exact BK234.out) hb); replace BK235 := Am21 (kb21 (g:=gb235) (o:=.cells #[.slice none 0 0, .slice none 0 0, .slice none 0 0, .slice none 0 0] 24 (0, 0)) (by (with_reducible repeat first | apply kn21 | apply kd21 | apply ka21); exact BK235.out) hb); replace HB := Am21 (bp21 (by repeat (first | (with_reducible first | exact HB.out | apply ba21 | apply bn21 | apply bd21 | refine bs21 ?_ GE234.out | refine bs21 ?_ GE235.out) | exact HB.out)) hb); (try clear hb); (try clear hb2); (try clear hk); (try clear hi); (try clear ho0); obtain ⟨Ao22, co22, eo22⟩ := Kd.R_slice HO239.out; subst eo22; have hcz23_0 : w21.cell? ⟨gb235, 0, none⟩ = some (.slice none 0 0) := (kc21 BK235.out 0).trans rfl; have hcz23_1 : w21.cell? ⟨gb235, 1, none⟩ = some (.slice none 0 0) := (kc21 BK235.out 1).trans rfl; have hcz23_2 : w21.cell? ⟨gb235, 2, none⟩ = some (.slice none 0 0) := (kc21 BK235.out 2).trans rfl; have hcz23_3 : w21.cell? ⟨gb235, 3, none⟩ = some (.slice none 0 0) := (kc21 BK235.out 3).trans rfl; have hfz23_0 := kz21 BK235.out 0; have hfz23_1 := kz21 BK235.out 1; have hfz23_2 := kz21 BK235.out 2; have hfz23_3 := kz21 BK235.out 3))
     refine bodyPost_ret (results_ct rfl _ _ gb235 24 #[.slice Ao22 t237.length co22, .slice none 0 0, .slice none 0 0, .slice none 0 0] (0, 0) _ rfl (by (with_reducible repeat first | apply kn21 | apply kd21 | apply ka21); refine blk_put (cs:=#[.slice Ao22 t237.length co22, .slice none 0 0, .slice none 0 0, .slice none 0 0]) ?_ 3 _ rfl; (with_reducible repeat first | apply kn21 | apply kd21 | apply ka21); refine blk_put (cs:=#[.slice Ao22 t237.length co22, .slice none 0 0, .slice none 0 0, .slice none 0 0]) ?_ 2 _ rfl; (with_reducible repeat first | apply kn21 | apply kd21 | apply ka21); refine blk_put (cs:=#[.slice Ao22 t237.length co22, .slice none 0 0, .slice none 0 0, .slice none 0 0]) ?_ 1 _ rfl; (with_reducible repeat first | apply kn21 | apply kd21 | apply ka21); refine blk_put (cs:=#[.slice none 0 0, .slice none 0 0, .slice none 0 0, .slice none 0 0]) ?_ 0 _ rfl; (with_reducible repeat first | apply kn21 | apply kd21 | apply ka21); exact BK235.out) Try.underlying24 rfl (by kernel_rfl)) rfl ?_
     exact ⟨_, _, _, _, by first | rfl | (simp [errW_none, errW_some] <;> rfl) | (simp [*, errW_none, errW_some] <;> rfl), by (with_reducible repeat first | apply Ra21 | apply Rn21 | apply Rd21); exact Ro21 (Rf21 (p:=⟨gb235, 3, none⟩) (Rf21 (p:=⟨gb235, 2, none⟩) (Rf21 (p:=⟨gb235, 1, none⟩) (Rf21 (p:=⟨gb235, 0, none⟩) (Ry21 HO239.out BK235.out (by decide)) (fun _ h=>h.2) (.slice Ao22 t237.length co22)) (fun _ h=>h.2) (.slice none 0 0)) (fun _ h=>h.2) (.slice none 0 0)) (fun _ h=>h.2) (.slice none 0 0)) (fun _ hk => ⟨(by simp [Value.ownBlock]), ⟨(by simp [Value.ownBlock]), (by simp [Value.ownBlock])⟩⟩), by first | exact Kd.R_nil _ _ _ _ _ | exact Kd.N_nil _ _ _ _ _ | exact Kd.V_nil _ _ _ _ _ | exact Kd.Q_nil _ _ _ _ _ | exact Kd.S_nil _ _ _ _ _, by first | exact Kd.R_nil _ _ _ _ _ | exact Kd.N_nil _ _ _ _ _ | exact Kd.V_nil _ _ _ _ _ | exact Kd.Q_nil _ _ _ _ _ | exact Kd.S_nil _ _ _ _ _, by first | exact Kd.R_nil _ _ _ _ _ | exact Kd.N_nil _ _ _ _ _ | exact Kd.V_nil _ _ _ _ _ | exact Kd.Q_nil _ _ _ _ _ | exact Kd.S_nil _ _ _ _ _, by repeat (first | (with_reducible first | exact HB.out | apply ba21 | apply bn21 | apply bd21 | refine bs21 ?_ GE234.out | refine bs21 ?_ GE235.out) | exact HB.out)⟩
    ·rw [if_neg c17] at H
     have c17b0 : decide (0 < (l0_1.length : Int)) = false := decide_eq_false c17
     have c17b1 : decide (0 < l0_1.length) = false := decide_eq_false (by omega)
     clear c17
     replace H := Option.bind_eq_some_iff.mp H
     obtain ⟨t240, A240, H⟩ := H
     try dsimp only at H
     have A24 := Am21 A240
     clear A240
     replace H := Option.bind_eq_some_iff.mp H
     obtain ⟨t243, A250, H⟩ := H
     try dsimp only at H
     have A25 := Am21 A250
     clear A250
     replace H := Option.bind_eq_some_iff.mp H
     obtain ⟨t246, A260, H⟩ := H
     try dsimp only at H
     have A26 := Am21 A260
     clear A260
     simp only [Option.some.injEq, Prod.mk.injEq] at H
     obtain ⟨rfl, rfl, rfl, rfl, rfl⟩ := H
     have hnb27 := NB234_235.out
     have hnc27 := NB235_234.out
     have hcz28_0 : wc.cell? ⟨gb234, 0, none⟩ = some (.slice A0_0 l0_0.length c0_0) := (kc21 BK234.out 0).trans rfl
     have hcz28_1 : wc.cell? ⟨gb234, 1, none⟩ = some (.slice A0_1 l0_1.length c0_1) := (kc21 BK234.out 1).trans rfl
     have hcz28_2 : wc.cell? ⟨gb234, 2, none⟩ = some (.slice A0_2 l0_2.length c0_2) := (kc21 BK234.out 2).trans rfl
     have hcz28_3 : wc.cell? ⟨gb234, 3, none⟩ = some (.slice A0_3 l0_3.length c0_3) := (kc21 BK234.out 3).trans rfl
     have hfz28_0 := kz21 BK234.out 0
     have hfz28_1 := kz21 BK234.out 1
     have hfz28_2 := kz21 BK234.out 2
     have hfz28_3 := kz21 BK234.out 3
     try go_wp2
     replace BK234 := Am21 (kd21 BK234.out)
     replace BK235 := Am21 (kd21 BK235.out)
     replace HB := Am21 (bd21 HB.out)
     refine start_ (n:=12) (S:=fun w' => w'.cell? ⟨gb234, 0, none⟩ = some (.slice A0_0 l0_0.length c0_0) ∧ w'.cell? ⟨gb234, 1, none⟩ = some (.slice A0_1 l0_1.length c0_1) ∧ w'.cell? ⟨gb234, 2, none⟩ = some (.slice A0_2 l0_2.length c0_2) ∧ w'.cell? ⟨gb234, 3, none⟩ = some (.slice A0_3 l0_3.length c0_3)) (ds:=[]) (bb21 12 0) (by kernel_rfl) rfl rfl ⟨(kc21 BK234.out 0).trans rfl, (kc21 BK234.out 1).trans rfl, (kc21 BK234.out 2).trans rfl, (kc21 BK234.out 3).trans rfl⟩ (fun hHeld => ?_); refine with_tabW watershedref06_Next.tab5 watershedref06_Next.bits5 (fun HT_ HW_ => ?_)
     generalize wc.drew = w29 at BK234 BK235 HB hHeld ⊢
     refine pure_ (i:=0) (N:=some 22) (v:=?_) (a' := ?_) (bb21 12 1) rfl rfl (any_of HT_.out (by kernel_rfl)) (fun _ _ _ h => h) (Or.inl ⟨by rfl, ?_⟩) ?_ ?_
     rotate_left
     ·intro w'
      go_simp
      with_reducible rfl
     rotate_left
     ·simp only [Act.put, sa21, sz21, ss21, i64_w, i32_w]
      rfl
     refine pure_ (i:=3) (N:=some 25) (v:=?_) (a' := ?_) (bb21 12 9) rfl rfl (any_of HT_.out (by kernel_rfl)) (fun _ _ _ h => h) (Or.inl ⟨by rfl, ?_⟩) ?_ ?_
     rotate_left
     ·intro w'
      go_simp
      with_reducible rfl
     rotate_left
     ·simp only [Act.put, sa21, sz21, ss21, i64_w, i32_w]
      rfl
     refine pure_ (i:=6) (N:=some 28) (v:=?_) (a' := ?_) (bb21 12 73) rfl rfl (any_of HT_.out (by kernel_rfl)) (fun _ _ _ h => h) (Or.inl ⟨by rfl, ?_⟩) ?_ ?_
     rotate_left
     ·intro w'
      go_simp
      with_reducible rfl
     rotate_left
     ·simp only [Act.put, sa21, sz21, ss21, i64_w, i32_w]
      rfl
     refine take_ (i:=1) (N:=some 23) (v:=?_) (a' := ?_) (bb21 12 75) rfl rfl (take_ofW HT_.out HW_.out (by kernel_rfl)) (fun _ _ _ h => h) (Or.inl ⟨by rfl, ?_⟩) hHeld ?_ ?_
     rotate_left
     ·rintro w' ⟨s0, s1, s2, s3⟩
      go_simp
      with_reducible rfl
     rotate_left
     ·simp only [Act.put, sa21, sz21, ss21, i64_w, i32_w]
      rfl
     refine take_ (i:=4) (N:=some 26) (v:=?_) (a' := ?_) (bb21 12 91) rfl rfl (take_ofW HT_.out HW_.out (by kernel_rfl)) (fun _ _ _ h => h) (Or.inl ⟨by rfl, ?_⟩) hHeld ?_ ?_
     rotate_left
     ·rintro w' ⟨s0, s1, s2, s3⟩
      go_simp
      with_reducible rfl
     rotate_left
     ·simp only [Act.put, sa21, sz21, ss21, i64_w, i32_w]
      rfl
     refine take_ (i:=7) (N:=some 29) (v:=?_) (a' := ?_) (bb21 12 219) rfl rfl (take_ofW HT_.out HW_.out (by kernel_rfl)) (fun _ _ _ h => h) (Or.inl ⟨by rfl, ?_⟩) hHeld ?_ ?_
     rotate_left
     ·rintro w' ⟨s0, s1, s2, s3⟩
      go_simp
      with_reducible rfl
     rotate_left
     ·simp only [Act.put, sa21, sz21, ss21, i64_w, i32_w]
      rfl
     refine one_ (i:=2) (N:=some 24) (bb21 12 223) rfl rfl (one_of HT_.out (by kernel_rfl)) (by decide) (fun K hK => ?_)
     refine goes_ Try.func44 (by kernel_rfl) rfl #[.slice A0_3 l0_3.length c0_3] (by rfl) rfl rfl (by (try simp only [ma21, mc21, mn21]); first | done | rfl | (simp only [ld21, lt_21]; rfl)) ?_
     with_reducible refine (watershedkit_CopyInts.calls _ _ l0_3 t240 _ ?side1 ?side2 A24.out).mono ?_
     (case side1 => repeat (first | exact (Kd.C_below HR0_3.out HB.out) | (with_reducible refine Kd.C_alloc ?_ _) | (with_reducible refine Kd.C_drewN ?_ _) | (with_reducible refine Kd.C_drew ?_)))
     (case side2 => exact HC0_3.out)
     rintro e w30 ⟨v241, rfl, ho0, hb⟩
     refine ⟨_, rfl, ?_⟩
     have n0_ := Am21 (Rl21 ho0 (bz21 (by repeat (first | (with_reducible first | exact HB.out | apply ba21 | apply bn21 | apply bd21 | refine bs21 ?_ GE234.out | refine bs21 ?_ GE235.out) | exact HB.out))))
     have n1_ := Am21 (kb21 (g:=gb234) (o:=.cells #[.slice A0_0 l0_0.length c0_0, .slice A0_1 l0_1.length c0_1, .slice A0_2 l0_2.length c0_2, .slice A0_3 l0_3.length c0_3] 24 (0, 0)) (by (with_reducible repeat first | apply kn21 | apply kd21 | apply ka21); exact BK234.out) hb)
     have n2_ := Am21 (kb21 (g:=gb235) (o:=.cells #[.slice none 0 0, .slice none 0 0, .slice none 0 0, .slice none 0 0] 24 (0, 0)) (by (with_reducible repeat first | apply kn21 | apply kd21 | apply ka21); exact BK235.out) hb)
     have n3_ := Am21 (bp21 (by repeat (first | (with_reducible first | exact HB.out | apply ba21 | apply bn21 | apply bd21 | refine bs21 ?_ GE234.out | refine bs21 ?_ GE235.out) | exact HB.out)) hb)
     clear BK234
     clear BK235
     clear HB
     have HO242 := n0_
     have BK234 := n1_
     have BK235 := n2_
     have HB := n3_
     clear n0_ n1_ n2_ n3_
     (try clear hb)
     (try clear hb2)
     (try clear hk)
     (try clear hi)
     (try clear ho0)
     refine hK.out _ _ ⟨(kc21 BK234.out 0).trans rfl, (kc21 BK234.out 1).trans rfl, (kc21 BK234.out 2).trans rfl, (kc21 BK234.out 3).trans rfl⟩ (fun hHeld => ?_)
     clear hK K
     refine norm_ (a' := ?_) ?_ ?_
     rotate_left
     ·show Act.put _ (some 24) _ = _
      simp only [Act.put, sa21, sz21, ss21, i64_w, i32_w]
      rfl
     refine one_ (i:=5) (N:=some 27) (bb21 12 255) rfl rfl (one_of HT_.out (by kernel_rfl)) (by decide) (fun K hK => ?_)
     refine goes_ Try.func44 (by kernel_rfl) rfl #[.slice A0_0 l0_0.length c0_0] (by rfl) rfl rfl (by (try simp only [ma21, mc21, mn21]); first | done | rfl | (simp only [ld21, lt_21]; rfl)) ?_
     with_reducible refine (watershedkit_CopyInts.calls _ _ l0_0 t243 _ ?side1 ?side2 A25.out).mono ?_
     (case side1 => repeat (first | exact (Kd.C_below HR0_0.out HB.out) | (with_reducible refine Kd.C_alloc ?_ _) | (with_reducible refine Kd.C_drewN ?_ _) | (with_reducible refine Kd.C_drew ?_)))
     (case side2 => exact HC0_0.out)
     rintro e w31 ⟨v244, rfl, ho0, hb⟩
     refine ⟨_, rfl, ?_⟩
     have HO245 := Am21 (Rl21 (Rw21 ho0 (Rt21 (by (with_reducible repeat first | apply Ra21 | apply Rn21 | apply Rd21); exact HO242.out))) (bz21 (by repeat (first | (with_reducible first | exact HB.out | apply ba21 | apply bn21 | apply bd21 | refine bs21 ?_ GE234.out | refine bs21 ?_ GE235.out) | exact HB.out))))
     replace HO242 := Am21 (Re21 (by (with_reducible repeat first | apply Ra21 | apply Rn21 | apply Rd21); exact HO242.out) (Ra_21 ho0) hb)
     replace BK234 := Am21 (kb21 (g:=gb234) (o:=.cells #[.slice A0_0 l0_0.length c0_0, .slice A0_1 l0_1.length c0_1, .slice A0_2 l0_2.length c0_2, .slice A0_3 l0_3.length c0_3] 24 (0, 0)) (by (with_reducible repeat first | apply kn21 | apply kd21 | apply ka21); exact BK234.out) hb)
     replace BK235 := Am21 (kb21 (g:=gb235) (o:=.cells #[.slice none 0 0, .slice none 0 0, .slice none 0 0, .slice none 0 0] 24 (0, 0)) (by (with_reducible repeat first | apply kn21 | apply kd21 | apply ka21); exact BK235.out) hb)
     replace HB := Am21 (bp21 (by repeat (first | (with_reducible first | exact HB.out | apply ba21 | apply bn21 | apply bd21 | refine bs21 ?_ GE234.out | refine bs21 ?_ GE235.out) | exact HB.out)) hb)
     (try clear hb)
     (try clear hb2)
     (try clear hk)
     (try clear hi)
     (try clear ho0)
     refine hK.out _ _ ⟨(kc21 BK234.out 0).trans rfl, (kc21 BK234.out 1).trans rfl, (kc21 BK234.out 2).trans rfl, (kc21 BK234.out 3).trans rfl⟩ (fun hHeld => ?_)
     clear hK K
     refine norm_ (a' := ?_) ?_ ?_
     rotate_left
     ·show Act.put _ (some 27) _ = _
      simp only [Act.put, sa21, sz21, ss21, i64_w, i32_w]
      rfl
     refine one_ (i:=8) (N:=some 30) (bb21 12 511) rfl rfl (one_of HT_.out (by kernel_rfl)) (by decide) (fun K hK => ?_)
     refine goes_ Try.func44 (by kernel_rfl) rfl #[.slice A0_3 l0_3.length c0_3] (by rfl) rfl rfl (by (try simp only [ma21, mc21, mn21]); first | done | rfl | (simp only [ld21, lt_21]; rfl)) ?_
     with_reducible refine (watershedkit_CopyInts.calls _ _ l0_3 t246 _ ?side1 ?side2 A26.out).mono ?_
     (case side1 => repeat (first | exact (Kd.C_below HR0_3.out HB.out) | (with_reducible refine Kd.C_alloc ?_ _) | (with_reducible refine Kd.C_drewN ?_ _) | (with_reducible refine Kd.C_drew ?_)))
     (case side2 => exact HC0_3.out)
     rintro e w32 ⟨v247, rfl, ho0, hb⟩
     refine ⟨_, rfl, ?_⟩
     have HO248 := Am21 (Rl21 (Rw21 (Rw21 ho0 (Rt21 (by (with_reducible repeat first | apply Ra21 | apply Rn21 | apply Rd21); exact HO242.out))) (Rt21 (by (with_reducible repeat first | apply Ra21 | apply Rn21 | apply Rd21); exact HO245.out))) (bz21 (by repeat (first | (with_reducible first | exact HB.out | apply ba21 | apply bn21 | apply bd21 | refine bs21 ?_ GE234.out | refine bs21 ?_ GE235.out) | exact HB.out))))
     replace HO242 := Am21 (Re21 (by (with_reducible repeat first | apply Ra21 | apply Rn21 | apply Rd21); exact HO242.out) (Ra_21 ho0) hb)
     replace HO245 := Am21 (Re21 (by (with_reducible repeat first | apply Ra21 | apply Rn21 | apply Rd21); exact HO245.out) (Ra_21 ho0) hb)
     replace BK234 := Am21 (kb21 (g:=gb234) (o:=.cells #[.slice A0_0 l0_0.length c0_0, .slice A0_1 l0_1.length c0_1, .slice A0_2 l0_2.length c0_2, .slice A0_3 l0_3.length c0_3] 24 (0, 0)) (by (with_reducible repeat first | apply kn21 | apply kd21 | apply ka21); exact BK234.out) hb)
     replace BK235 := Am21 (kb21 (g:=gb235) (o:=.cells #[.slice none 0 0, .slice none 0 0, .slice none 0 0, .slice none 0 0] 24 (0, 0)) (by (with_reducible repeat first | apply kn21 | apply kd21 | apply ka21); exact BK235.out) hb)
     replace HB := Am21 (bp21 (by repeat (first | (with_reducible first | exact HB.out | apply ba21 | apply bn21 | apply bd21 | refine bs21 ?_ GE234.out | refine bs21 ?_ GE235.out) | exact HB.out)) hb)
     (try clear hb)
     (try clear hb2)
     (try clear hk)
     (try clear hi)
     (try clear ho0)
     obtain ⟨Ao33, co33, eo33⟩ := Kd.R_slice HO248.out
     (first | subst eo33 | (injection eo33 with f1_ f2_ f3_; have f4_ := f1_.symm; have f5_ := f3_.symm; clear f1_ f2_ f3_; subst f4_; subst f5_))
     obtain ⟨Ao34, co34, eo34⟩ := Kd.R_slice HO245.out
     (first | subst eo34 | (injection eo34 with f1_ f2_ f3_; have f4_ := f1_.symm; have f5_ := f3_.symm; clear f1_ f2_ f3_; subst f4_; subst f5_))
     obtain ⟨Ao35, co35, eo35⟩ := Kd.R_slice HO242.out
     (first | subst eo35 | (injection eo35 with f1_ f2_ f3_; have f4_ := f1_.symm; have f5_ := f3_.symm; clear f1_ f2_ f3_; subst f4_; subst f5_))
     refine hK.out _ _ ⟨(kc21 BK234.out 0).trans rfl, (kc21 BK234.out 1).trans rfl, (kc21 BK234.out 2).trans rfl, (kc21 BK234.out 3).trans rfl⟩ (fun hHeld => ?_)
     clear hK K
     refine norm_ (a' := ?_) ?_ ?_
     rotate_left
     ·show Act.put _ (some 30) _ = _
      simp only [Act.put, sa21, sz21, ss21, i64_w, i32_w]
      rfl
     refine pure_ (i:=9) (N:=some 31) (v:=?_) (a' := ?_) (bb21 12 1023) rfl rfl (any_of HT_.out (by kernel_rfl)) (fun _ _ _ h => h) (Or.inl ⟨by rfl, ?_⟩) ?_ ?_
     rotate_left
     ·intro w'
      go_simp
      with_reducible rfl
     rotate_left
     ·simp only [Act.put, sa21, sz21, ss21, i64_w, i32_w]
      rfl
     refine one_ (i:=10) (N:=none) (bb21 12 2047) rfl rfl (one_of HT_.out (by kernel_rfl)) (by decide) (fun K hK => ?_)
     have hs36 : w32.cell? ⟨gb235, 0, none⟩ = some (.slice none 0 0) := (kc21 BK235.out 0).trans rfl
     have hfs36 := kz21 BK235.out 0
     have hns36_0 := NB234_235.out
     have hms36_0 := NB235_234.out
     have hs37 : w32.cell? ⟨gb235, 1, none⟩ = some (.slice none 0 0) := (kc21 BK235.out 1).trans rfl
     have hfs37 := kz21 BK235.out 1
     have hns37_0 := NB234_235.out
     have hms37_0 := NB235_234.out
     have hs38 : w32.cell? ⟨gb235, 2, none⟩ = some (.slice none 0 0) := (kc21 BK235.out 2).trans rfl
     have hfs38 := kz21 BK235.out 2
     have hns38_0 := NB234_235.out
     have hms38_0 := NB235_234.out
     have hs39 : w32.cell? ⟨gb235, 3, none⟩ = some (.slice none 0 0) := (kc21 BK235.out 3).trans rfl
     have hfs39 := kz21 BK235.out 3
     have hns39_0 := NB234_235.out
     have hms39_0 := NB235_234.out
     refine skip_ (w1:=?_) (by rfl) rfl ?_ ?_
     rotate_left
     ·go_simp
      rfl
     refine hK.out _ _ ⟨((cell_far (p:=⟨gb235, _, none⟩) NB234_235.out _).trans (((cell_far (p:=⟨gb235, _, none⟩) NB234_235.out _).trans (((cell_far (p:=⟨gb235, _, none⟩) NB234_235.out _).trans (((cell_far (p:=⟨gb235, _, none⟩) NB234_235.out _).trans (hHeld.1)))))))), ((cell_far (p:=⟨gb235, _, none⟩) NB234_235.out _).trans (((cell_far (p:=⟨gb235, _, none⟩) NB234_235.out _).trans (((cell_far (p:=⟨gb235, _, none⟩) NB234_235.out _).trans (((cell_far (p:=⟨gb235, _, none⟩) NB234_235.out _).trans (hHeld.2.1)))))))), ((cell_far (p:=⟨gb235, _, none⟩) NB234_235.out _).trans (((cell_far (p:=⟨gb235, _, none⟩) NB234_235.out _).trans (((cell_far (p:=⟨gb235, _, none⟩) NB234_235.out _).trans (((cell_far (p:=⟨gb235, _, none⟩) NB234_235.out _).trans (hHeld.2.2.1)))))))), ((cell_far (p:=⟨gb235, _, none⟩) NB234_235.out _).trans (((cell_far (p:=⟨gb235, _, none⟩) NB234_235.out _).trans (((cell_far (p:=⟨gb235, _, none⟩) NB234_235.out _).trans (((cell_far (p:=⟨gb235, _, none⟩) NB234_235.out _).trans (hHeld.2.2.2))))))))⟩ (fun hHeld => ?_)
     clear hK K
     refine pure_ (i:=11) (N:=some 3) (v:=?_) (a' := ?_) (bb21 12 4095) rfl rfl (any_of HT_.out (by kernel_rfl)) (fun _ _ _ h => h) (Or.inl ⟨by rfl, ?_⟩) ?_ ?_
     rotate_left
     ·intro w'
      go_simp
      with_reducible rfl
     rotate_left
     ·simp only [Act.put, sa21, sz21, ss21, i64_w, i32_w]
      rfl
     refine done_ (done_of HT_.out (by kernel_rfl)) ?_
     try go_wp2
     refine bodyPost_ret (results_ct rfl _ _ gb235 24 #[.slice Ao35 t240.length co35, .slice Ao34 t243.length co34, .slice none 0 0, .slice Ao33 t246.length co33] (0, 0) _ rfl (by (with_reducible repeat first | apply kn21 | apply kd21 | apply ka21); refine blk_put (cs:=#[.slice Ao35 t240.length co35, .slice Ao34 t243.length co34, .slice none 0 0, .slice none 0 0]) ?_ 3 _ rfl; (with_reducible repeat first | apply kn21 | apply kd21 | apply ka21); refine blk_put (cs:=#[.slice Ao35 t240.length co35, .slice Ao34 t243.length co34, .slice none 0 0, .slice none 0 0]) ?_ 2 _ rfl; (with_reducible repeat first | apply kn21 | apply kd21 | apply ka21); refine blk_put (cs:=#[.slice Ao35 t240.length co35, .slice none 0 0, .slice none 0 0, .slice none 0 0]) ?_ 1 _ rfl; (with_reducible repeat first | apply kn21 | apply kd21 | apply ka21); refine blk_put (cs:=#[.slice none 0 0, .slice none 0 0, .slice none 0 0, .slice none 0 0]) ?_ 0 _ rfl; (with_reducible repeat first | apply kn21 | apply kd21 | apply ka21); exact BK235.out) Try.underlying24 rfl (by kernel_rfl)) rfl ?_
     exact ⟨_, _, _, _, by first | rfl | (simp [errW_none, errW_some] <;> rfl) | (simp [*, errW_none, errW_some] <;> rfl), by (with_reducible repeat first | apply Ra21 | apply Rn21 | apply Rd21); exact Ro21 (Rf21 (p:=⟨gb235, 3, none⟩) (Rf21 (p:=⟨gb235, 2, none⟩) (Rf21 (p:=⟨gb235, 1, none⟩) (Rf21 (p:=⟨gb235, 0, none⟩) (Ry21 HO242.out BK235.out (by decide)) (fun _ h=>h.2) (.slice Ao35 t240.length co35)) (fun _ h=>h.2) (.slice Ao34 t243.length co34)) (fun _ h=>h.2) (.slice none 0 0)) (fun _ h=>h.2) (.slice Ao33 t246.length co33)) (fun _ hk => ⟨hk.1.1.2, ⟨(by simp [Value.ownBlock]), hk.1.2⟩⟩), by (with_reducible repeat first | apply Ra21 | apply Rn21 | apply Rd21); exact Ro21 (Rf21 (p:=⟨gb235, 3, none⟩) (Rf21 (p:=⟨gb235, 2, none⟩) (Rf21 (p:=⟨gb235, 1, none⟩) (Rf21 (p:=⟨gb235, 0, none⟩) (Ry21 HO245.out BK235.out (by decide)) (fun _ h=>h.2) (.slice Ao35 t240.length co35)) (fun _ h=>h.2) (.slice Ao34 t243.length co34)) (fun _ h=>h.2) (.slice none 0 0)) (fun _ h=>h.2) (.slice Ao33 t246.length co33)) (fun _ hk => ⟨hk.1.1.2, ⟨(by simp [Value.ownBlock]), hk.1.2⟩⟩), by first | exact Kd.R_nil _ _ _ _ _ | exact Kd.N_nil _ _ _ _ _ | exact Kd.V_nil _ _ _ _ _ | exact Kd.Q_nil _ _ _ _ _ | exact Kd.S_nil _ _ _ _ _, by (with_reducible repeat first | apply Ra21 | apply Rn21 | apply Rd21); exact Ro21 (Rf21 (p:=⟨gb235, 3, none⟩) (Rf21 (p:=⟨gb235, 2, none⟩) (Rf21 (p:=⟨gb235, 1, none⟩) (Rf21 (p:=⟨gb235, 0, none⟩) (Ry21 HO248.out BK235.out (by decide)) (fun _ h=>h.2) (.slice Ao35 t240.length co35)) (fun _ h=>h.2) (.slice Ao34 t243.length co34)) (fun _ h=>h.2) (.slice none 0 0)) (fun _ h=>h.2) (.slice Ao33 t246.length co33)) (fun _ hk => ⟨hk.1.1.2, ⟨hk.1.2, (by simp [Value.ownBlock])⟩⟩), by repeat (first | (with_reducible first | exact HB.out | apply ba21 | apply bn21 | apply bd21 | refine bs21 ?_ GE234.out | refine bs21 ?_ GE235.out) | exact HB.out)⟩

theorem Am47 : type_of% @Aside0.mk := @Aside0.mk
theorem ma47 : type_of% @List.map_toArray := @List.map_toArray
theorem mc47 : type_of% @List.map_cons := @List.map_cons
theorem mn47 : type_of% @List.map_nil := @List.map_nil
theorem ld47 : type_of% @List.length_drop := @List.length_drop
theorem lt_47 : type_of% @List.length_take := @List.length_take
/-! ### watershedref06_half: function 47 -/
def watershedref06_half.l0 : Nat → List Int → List Int → Int → Int → Option (Bool)
 | 0, _, _, _, _ => none
 | k + 1, x0, x1, x5, x6 => if x6 < (x0.length : Int) then (if 0 ≤ x6 then ((watershedref06_in.f k x1 (rd x0 x6)).bind fun t250 => (if t250 = true then (watershedref06_half.l0 k x0 x1 (wrap64 (x5 + 1)) (wrap64 (x6 + 1))) else (watershedref06_half.l0 k x0 x1 x5 (wrap64 (x6 + 1))))) else (none)) else (some (decide ((wrap64 (2 * x5)) > (x0.length : Int))))
def watershedref06_half.f (k : Nat) (l0 : List Int) (l1 : List Int) : Option (Bool) := watershedref06_half.l0 k l0 l1 0 0
theorem watershedref06_half.mono_l : ∀ k, (∀ y0 y1 y2 y3, LeO (watershedref06_half.l0 k y0 y1 y2 y3) (watershedref06_half.l0 (k + 1) y0 y1 y2 y3))
 | 0 => fun _ _ _ _ r h => by simp [watershedref06_half.l0] at h
 | k + 1 => by
  have ih0 := watershedref06_half.mono_l k
  ·intro y0 y1 y2 y3
   unfold watershedref06_half.l0
   repeat' first
   | (with_reducible exact ih0 _ _ _ _)
   | (with_reducible exact watershedref06_in.mono _ _ _)
   | (with_reducible exact LeO.refl _)
   | (with_reducible exact LeO.none _)
   | (with_reducible refine LeO.ite ?_ ?_)
   | (with_reducible refine LeO.bind ?_ (fun _ => ?_))
   | exact ih0 _ _ _ _
   | exact watershedref06_in.mono _ _ _
   | exact LeO.none _
   | refine LeO.ite ?_ ?_
   | refine LeO.bind ?_ (fun _ => ?_)
theorem watershedref06_half.mono : ∀ a0 a1 k, LeO (watershedref06_half.f k a0 a1) (watershedref06_half.f (k + 1) a0 a1) := by
 intro a0 a1 k
 have ih0 := watershedref06_half.mono_l k
 unfold watershedref06_half.f
 repeat' first
   | (with_reducible exact ih0 _ _ _ _)
   | (with_reducible exact watershedref06_in.mono _ _ _)
   | (with_reducible exact LeO.refl _)
   | (with_reducible exact LeO.none _)
   | (with_reducible refine LeO.ite ?_ ?_)
   | (with_reducible refine LeO.bind ?_ (fun _ => ?_))
   | exact ih0 _ _ _ _
   | exact watershedref06_in.mono _ _ _
   | exact LeO.none _
   | refine LeO.ite ?_ ?_
   | refine LeO.bind ?_ (fun _ => ?_)
set_option maxHeartbeats 8000000 in
set_option maxRecDepth 100000 in
theorem watershedref06_half.calls (k : Nat) (A0 : Option Addr) (c0 : Nat) (l0 : List Int) (A1 : Option Addr) (c1 : Nat) (l1 : List Int) (r : Bool) (w : World) (hr0 : Kd.C (Kd.int .i64) w A0 l0.length l0) (hc0 : l0.length ≤ c0) (hr1 : Kd.C (Kd.int .i64) w A1 l1.length l1) (hc1 : l1.length ≤ c1) (h : watershedref06_half.f k l0 l1 = some r) :
  Calls Try.prog 47 #[.slice A0 l0.length c0, .slice A1 l1.length c1] w fun e w' => e = .returned (.bool r) ∧ Drawn0 w w' := by
 have HR0 := Am47 hr0
 have HC0 := Am47 hc0
 clear hr0 hc0
 have HR1 := Am47 hr1
 have HC1 := Am47 hc1
 clear hr1 hc1
 have H : (watershedref06_half.l0 k l0 l1 0 0) = some r := h
 clear h
 have H' := Am47 H
 clear H
 go_enter Try.func47, Try.ntmps47
 go_wp2
 go_loopg [5, 6] k (fun kq v5 v6 w' => ∃ (x5_1 : Int) (x6_1 : Int), v5 = .int .i64 x5_1 ∧ v6 = .int .i64 x6_1 ∧ Aside0 (watershedref06_half.l0 kq l0 l1 x5_1 x6_1 = some r) ∧ Aside0 (kq ≤ k) ∧ Drawn0 w w')
 case atStart => exact ⟨(0), (0), (by first | rfl | (simp; done) | (simp [*]; done)), (by first | rfl | (simp; done) | (simp [*]; done)), H', ⟨Nat.le_refl _⟩, by repeat (first | exact Drawn0.refl _ | apply Drawn0.step)⟩
 case round =>
  clear H'
  try clear c1
  try clear p2
  obtain ⟨x5_1, x6_1, rfl, rfl, HA, HK1, ⟨m1, rfl⟩⟩ := hrel
  cases gk with
  | zero => exact absurd HA.out (by simp [watershedref06_half.l0])
  | succ k1 =>
   have H := HA.out
   clear HA
   simp only [watershedref06_half.l0] at H
   by_cases c3 : x6_1 < (l0.length : Int)
   ·rw [if_pos c3] at H
    have c3b0 : decide (x6_1 < (l0.length : Int)) = true := decide_eq_true c3
    clear c3
    by_cases c4 : 0 ≤ x6_1
    ·rw [if_pos c4] at H
     have c4b0 : decide (0 ≤ x6_1) = true := decide_eq_true c4
     clear c4
     replace H := Option.bind_eq_some_iff.mp H
     obtain ⟨t250, A50, H⟩ := H
     try dsimp only at H
     have A5 := Am47 A50
     clear A50
     by_cases c6 : t250 = true
     ·subst c6
      rw [if_pos rfl] at H
      have H' := Am47 H
      clear H
      have p249 : 0 ≤ (x6_1 : Int) := of_decide_eq_true (by first | (with_reducible assumption) | assumption)
      have q249 : x6_1 < (l0.length : Int) := of_decide_eq_true (by first | (with_reducible assumption) | assumption)
      obtain ⟨ad249, e249, hx249_0⟩ := Kd.at_int HR0.out x6_1 p249 q249
      cases e249
      replace p249 := eq_true p249
      replace q249 := eq_true q249
      go_wp2_with (first | ((with_reducible refine gate_callee (f:=46) rfl ?_); refine goesL_ (some 18) rfl rfl Try.func46 (by kernel_rfl) rfl #[.slice A1 l1.length c1, .int .i64 (rd l0 x6_1)] rfl (by (try simp only [ma47, mc47, mn47]); first | done | rfl | (simp only [ld47, lt_47]; rfl)) ?_; (with_reducible refine (watershedref06_in.calls k1 _ _ l1 (rd l0 x6_1) true _ ?side1 ?side2 A5.out).mono ?_); (case side1 => repeat (first | exact HR1.out | (with_reducible refine Kd.C_alloc ?_ _) | (with_reducible refine Kd.C_drewN ?_ _) | (with_reducible refine Kd.C_drew ?_))); (case side2 => exact HC1.out); rintro e w' ⟨rfl, ⟨nd, rfl⟩⟩; refine ⟨_, rfl, ?_⟩))
      go_roundg k1
      case measure => have := HK1.out; omega
      case rel => exact ⟨(wrap64 (x5_1 + 1)), (wrap64 (x6_1 + 1)), (by first | rfl | (simp; done) | (simp [*]; done)), (by first | rfl | (simp; done) | (simp [*]; done)), H', ⟨by have := HK1.out; omega⟩, by repeat (first | exact Drawn0.refl _ | apply Drawn0.step)⟩
     ·replace c6 := Bool.eq_false_iff.mpr c6
      subst c6
      rw [if_neg (show ¬ (false = true) by decide)] at H
      have H' := Am47 H
      clear H
      have p249 : 0 ≤ (x6_1 : Int) := of_decide_eq_true (by first | (with_reducible assumption) | assumption)
      have q249 : x6_1 < (l0.length : Int) := of_decide_eq_true (by first | (with_reducible assumption) | assumption)
      obtain ⟨ad249, e249, hx249_0⟩ := Kd.at_int HR0.out x6_1 p249 q249
      cases e249
      replace p249 := eq_true p249
      replace q249 := eq_true q249
      go_wp2_with (first | ((with_reducible refine gate_callee (f:=46) rfl ?_); refine goesL_ (some 18) rfl rfl Try.func46 (by kernel_rfl) rfl #[.slice A1 l1.length c1, .int .i64 (rd l0 x6_1)] rfl (by (try simp only [ma47, mc47, mn47]); first | done | rfl | (simp only [ld47, lt_47]; rfl)) ?_; (with_reducible refine (watershedref06_in.calls k1 _ _ l1 (rd l0 x6_1) false _ ?side1 ?side2 A5.out).mono ?_); (case side1 => repeat (first | exact HR1.out | (with_reducible refine Kd.C_alloc ?_ _) | (with_reducible refine Kd.C_drewN ?_ _) | (with_reducible refine Kd.C_drew ?_))); (case side2 => exact HC1.out); rintro e w' ⟨rfl, ⟨nd, rfl⟩⟩; refine ⟨_, rfl, ?_⟩))
      go_roundg k1
      case measure => have := HK1.out; omega
      case rel => exact ⟨(x5_1), (wrap64 (x6_1 + 1)), (by first | rfl | (simp; done) | (simp [*]; done)), (by first | rfl | (simp; done) | (simp [*]; done)), H', ⟨by have := HK1.out; omega⟩, by repeat (first | exact Drawn0.refl _ | apply Drawn0.step)⟩
    ·rw [if_neg c4] at H
     exact absurd H (by simp)
   ·rw [if_neg c3] at H
    have c3b0 : decide (x6_1 < (l0.length : Int)) = false := decide_eq_false c3
    clear c3
    obtain rfl := Option.some.inj H
    go_wp2
    go_ret
    exact ⟨by first | rfl | (simp; done) | (simp [*]; done), by repeat (first | exact Drawn0.refl _ | apply Drawn0.step)⟩

theorem Am24 : type_of% @Aside0.mk := @Aside0.mk
theorem ba24 : type_of% @below_alloc := @below_alloc
theorem bn24 : type_of% @pw_below_drewN := @pw_below_drewN
theorem bd24 : type_of% @below_drew1 := @below_drew1
theorem bs24 : type_of% @below_set := @below_set
theorem kn24 : type_of% @blk_drewN := @blk_drewN
theorem kd24 : type_of% @blk_drew := @blk_drew
theorem ka24 : type_of% @blk_alloc := @blk_alloc
theorem kb24 : type_of% @blk_below := @blk_below
theorem bz24 : type_of% @below_size := @below_size
theorem bp24 : type_of% @below_step := @below_step
theorem kc24 : type_of% @blk_cell := @blk_cell
theorem kz24 : type_of% @blk_frozen := @blk_frozen
theorem ma24 : type_of% @List.map_toArray := @List.map_toArray
theorem mc24 : type_of% @List.map_cons := @List.map_cons
theorem mn24 : type_of% @List.map_nil := @List.map_nil
theorem ld24 : type_of% @List.length_drop := @List.length_drop
theorem lt_24 : type_of% @List.length_take := @List.length_take
/-! ### watershedref06_Agrees: function 24 -/
def watershedref06_Agrees.f (k : Nat) (l0_0 : List Int) (l0_1 : List Int) (l0_2 : List Int) (l0_3 : List Int) (l1 : List Int) : Option (Bool) := (watershedref06_Right.f k l0_0 l0_1 l0_2 l0_3).bind fun t252 => (if t252 = true then (if (l0_0.length : Int) > 0 then ((watershedref06_half.f k l0_0 l1).bind fun t253 => (if t253 = true then (if (l0_1.length : Int) = 0 then (some true) else ((watershedref06_half.f k l0_1 l1).bind fun t254 => (some t254))) else (some false))) else (some false)) else (some false))
theorem watershedref06_Agrees.mono : ∀ a0 a1 a2 a3 a4 k, LeO (watershedref06_Agrees.f k a0 a1 a2 a3 a4) (watershedref06_Agrees.f (k + 1) a0 a1 a2 a3 a4) := by
 intro a0 a1 a2 a3 a4 k
 unfold watershedref06_Agrees.f
 repeat' first
   | (with_reducible exact watershedref06_Right.mono _ _ _ _ _)
   | (with_reducible exact watershedref06_half.mono _ _ _)
   | (with_reducible exact LeO.refl _)
   | (with_reducible exact LeO.none _)
   | (with_reducible refine LeO.ite ?_ ?_)
   | (with_reducible refine LeO.bind ?_ (fun _ => ?_))
   | exact watershedref06_Right.mono _ _ _ _ _
   | exact watershedref06_half.mono _ _ _
   | exact LeO.none _
   | refine LeO.ite ?_ ?_
   | refine LeO.bind ?_ (fun _ => ?_)
set_option maxHeartbeats 8000000 in
set_option maxRecDepth 100000 in
theorem watershedref06_Agrees.calls (k : Nat) (A0_0 : Option Addr) (c0_0 : Nat) (l0_0 : List Int) (A0_1 : Option Addr) (c0_1 : Nat) (l0_1 : List Int) (A0_2 : Option Addr) (c0_2 : Nat) (l0_2 : List Int) (A0_3 : Option Addr) (c0_3 : Nat) (l0_3 : List Int) (A1 : Option Addr) (c1 : Nat) (l1 : List Int) (r : Bool) (w : World) (hr0_0 : Kd.C (Kd.int .i64) w A0_0 l0_0.length l0_0) (hc0_0 : l0_0.length ≤ c0_0) (hr0_1 : Kd.C (Kd.int .i64) w A0_1 l0_1.length l0_1) (hc0_1 : l0_1.length ≤ c0_1) (hr0_2 : Kd.C (Kd.int .i64) w A0_2 l0_2.length l0_2) (hc0_2 : l0_2.length ≤ c0_2) (hr0_3 : Kd.C (Kd.int .i64) w A0_3 l0_3.length l0_3) (hc0_3 : l0_3.length ≤ c0_3) (hr1 : Kd.C (Kd.int .i64) w A1 l1.length l1) (hc1 : l1.length ≤ c1) (h : watershedref06_Agrees.f k l0_0 l0_1 l0_2 l0_3 l1 = some r) :
  Calls Try.prog 24 #[.agg #[.slice A0_0 l0_0.length c0_0, .slice A0_1 l0_1.length c0_1, .slice A0_2 l0_2.length c0_2, .slice A0_3 l0_3.length c0_3], .slice A1 l1.length c1] w fun e w' => e = .returned (.bool r) ∧ Below w.heap.size w w' := by
 have hu24 := Try.underlying24
 have HR0_0 := Am24 hr0_0
 have HC0_0 := Am24 hc0_0
 clear hr0_0 hc0_0
 have HR0_1 := Am24 hr0_1
 have HC0_1 := Am24 hc0_1
 clear hr0_1 hc0_1
 have HR0_2 := Am24 hr0_2
 have HC0_2 := Am24 hc0_2
 clear hr0_2 hc0_2
 have HR0_3 := Am24 hr0_3
 have HC0_3 := Am24 hc0_3
 clear hr0_3 hc0_3
 have HR1 := Am24 hr1
 have HC1 := Am24 hc1
 clear hr1 hc1
 have HB := Am24 (Below.refl w.heap.size w)
 have H : ((watershedref06_Right.f k l0_0 l0_1 l0_2 l0_3).bind fun t252 => (if t252 = true then (if (l0_0.length : Int) > 0 then ((watershedref06_half.f k l0_0 l1).bind fun t253 => (if t253 = true then (if (l0_1.length : Int) = 0 then (some true) else ((watershedref06_half.f k l0_1 l1).bind fun t254 => (some t254))) else (some false))) else (some false)) else (some false))) = some r := h
 clear h
 replace H := Option.bind_eq_some_iff.mp H
 obtain ⟨t252, A30, H⟩ := H
 try dsimp only at H
 have A3 := Am24 A30
 clear A30
 by_cases c4 : t252 = true
 ·subst c4
  rw [if_pos rfl] at H
  by_cases c5 : (l0_0.length : Int) > 0
  ·rw [if_pos c5] at H
   have c5b0 : decide (0 < (l0_0.length : Int)) = true := decide_eq_true c5
   have c5b1 : decide (0 < l0_0.length) = true := decide_eq_true (by omega)
   clear c5
   replace H := Option.bind_eq_some_iff.mp H
   obtain ⟨t253, A60, H⟩ := H
   try dsimp only at H
   have A6 := Am24 A60
   clear A60
   by_cases c7 : t253 = true
   ·subst c7
    rw [if_pos rfl] at H
    by_cases c8 : (l0_1.length : Int) = 0
    ·rw [if_pos c8] at H
     have c8b0 : ((l0_1.length : Int) == 0) = true := beq_iff_eq.mpr c8
     have c8b1 : ((l0_1.length : Int) != 0) = false := bne_eq_false_iff_eq.mpr c8
     clear c8
     obtain rfl := Option.some.inj H
     go_enter Try.func24, Try.ntmps24
     go_wp2_with (first | ((with_reducible refine gate_dst (N:=2) rfl ?_); (try (refine gate_guard (by rfl) ?_; dsimp only)); refine box_event ?hg (N:=2) ?hd (cs:=#[.slice A0_0 l0_0.length c0_0, .slice A0_1 l0_1.length c0_1, .slice A0_2 l0_2.length c0_2, .slice A0_3 l0_3.length c0_3]) (t:=24) ?hr ?_; (case hd => rfl); (case hg => rfl); (case hr => first | (go_simp; done) | (go_simp; rfl)); intro gb251 hg w9 hbox hb; have BK251 := Am24 (hbox); have GW251 := Am24 ((by rw [hg]; exact (bz24 (by repeat (first | (with_reducible first | exact HB.out | apply ba24 | apply bn24 | apply bd24) | exact HB.out))) : w.heap.size ≤ gb251)); have GE251 := Am24 ((by rw [hg]; exact (bz24 (by repeat (first | (with_reducible first | exact HB.out | apply ba24 | apply bn24 | apply bd24) | exact HB.out))) : w.heap.size ≤ gb251)); replace HB := Am24 (bp24 (by repeat (first | (with_reducible first | exact HB.out | apply ba24 | apply bn24 | apply bd24) | exact HB.out)) hb); clear hb hbox hg; have hcz10_0 : w9.cell? ⟨gb251, 0, none⟩ = some (.slice A0_0 l0_0.length c0_0) := (kc24 BK251.out 0).trans rfl; have hcz10_1 : w9.cell? ⟨gb251, 1, none⟩ = some (.slice A0_1 l0_1.length c0_1) := (kc24 BK251.out 1).trans rfl; have hcz10_2 : w9.cell? ⟨gb251, 2, none⟩ = some (.slice A0_2 l0_2.length c0_2) := (kc24 BK251.out 2).trans rfl; have hcz10_3 : w9.cell? ⟨gb251, 3, none⟩ = some (.slice A0_3 l0_3.length c0_3) := (kc24 BK251.out 3).trans rfl; have hfz10_0 := kz24 BK251.out 0; have hfz10_1 := kz24 BK251.out 1; have hfz10_2 := kz24 BK251.out 2; have hfz10_3 := kz24 BK251.out 3) | ((with_reducible refine gate_callee (f:=23) rfl ?_); refine goesL_ (some 6) rfl rfl Try.func23 (by kernel_rfl) rfl #[.agg #[.slice A0_0 l0_0.length c0_0, .slice A0_1 l0_1.length c0_1, .slice A0_2 l0_2.length c0_2, .slice A0_3 l0_3.length c0_3]] rfl (by (try simp only [ma24, mc24, mn24]); first | done | rfl | (simp only [ld24, lt_24]; rfl)) ?_; (with_reducible refine (watershedref06_Right.calls k _ _ l0_0 _ _ l0_1 _ _ l0_2 _ _ l0_3 true _ ?side1 ?side2 ?side3 ?side4 ?side5 ?side6 ?side7 ?side8 A3.out).mono ?_); (case side1 => repeat (first | exact (Kd.C_below HR0_0.out HB.out) | (with_reducible refine Kd.C_alloc ?_ _) | (with_reducible refine Kd.C_drewN ?_ _) | (with_reducible refine Kd.C_drew ?_))); (case side2 => exact HC0_0.out); (case side3 => repeat (first | exact (Kd.C_below HR0_1.out HB.out) | (with_reducible refine Kd.C_alloc ?_ _) | (with_reducible refine Kd.C_drewN ?_ _) | (with_reducible refine Kd.C_drew ?_))); (case side4 => exact HC0_1.out); (case side5 => repeat (first | exact (Kd.C_below HR0_2.out HB.out) | (with_reducible refine Kd.C_alloc ?_ _) | (with_reducible refine Kd.C_drewN ?_ _) | (with_reducible refine Kd.C_drew ?_))); (case side6 => exact HC0_2.out); (case side7 => repeat (first | exact (Kd.C_below HR0_3.out HB.out) | (with_reducible refine Kd.C_alloc ?_ _) | (with_reducible refine Kd.C_drewN ?_ _) | (with_reducible refine Kd.C_drew ?_))); (case side8 => exact HC0_3.out); rintro e w11 ⟨rfl, hb⟩; refine ⟨_, rfl, ?_⟩; replace BK251 := Am24 (kb24 (g:=gb251) (o:=.cells #[.slice A0_0 l0_0.length c0_0, .slice A0_1 l0_1.length c0_1, .slice A0_2 l0_2.length c0_2, .slice A0_3 l0_3.length c0_3] 24 (0, 0)) (by (with_reducible repeat first | apply kn24 | apply kd24 | apply ka24); exact BK251.out) hb); replace HB := Am24 (bp24 (by repeat (first | (with_reducible first | exact HB.out | apply ba24 | apply bn24 | apply bd24 | refine bs24 ?_ GE251.out) | exact HB.out)) hb); (try clear hb); (try clear hb2); (try clear hk); (try clear hi); have hcz12_0 : w11.cell? ⟨gb251, 0, none⟩ = some (.slice A0_0 l0_0.length c0_0) := (kc24 BK251.out 0).trans rfl; have hcz12_1 : w11.cell? ⟨gb251, 1, none⟩ = some (.slice A0_1 l0_1.length c0_1) := (kc24 BK251.out 1).trans rfl; have hcz12_2 : w11.cell? ⟨gb251, 2, none⟩ = some (.slice A0_2 l0_2.length c0_2) := (kc24 BK251.out 2).trans rfl; have hcz12_3 : w11.cell? ⟨gb251, 3, none⟩ = some (.slice A0_3 l0_3.length c0_3) := (kc24 BK251.out 3).trans rfl; have hfz12_0 := kz24 BK251.out 0; have hfz12_1 := kz24 BK251.out 1; have hfz12_2 := kz24 BK251.out 2; have hfz12_3 := kz24 BK251.out 3) | (go_at_call 47; (with_reducible refine (watershedref06_half.calls k _ _ l0_0 _ _ l1 true _ ?side1 ?side2 ?side3 ?side4 A6.out).mono ?_); (case side1 => repeat (first | exact (Kd.C_below HR0_0.out HB.out) | (with_reducible refine Kd.C_alloc ?_ _) | (with_reducible refine Kd.C_drewN ?_ _) | (with_reducible refine Kd.C_drew ?_))); (case side2 => exact HC0_0.out); (case side3 => repeat (first | exact (Kd.C_below HR1.out HB.out) | (with_reducible refine Kd.C_alloc ?_ _) | (with_reducible refine Kd.C_drewN ?_ _) | (with_reducible refine Kd.C_drew ?_))); (case side4 => exact HC1.out); rintro e w' ⟨rfl, ⟨nd, rfl⟩⟩))
     go_ret
     exact ⟨by first | rfl | (simp [errW_none, errW_some] <;> rfl) | (simp [*, errW_none, errW_some] <;> rfl), by repeat (first | (with_reducible first | exact HB.out | apply ba24 | apply bn24 | apply bd24 | refine bs24 ?_ GE251.out) | exact HB.out)⟩
    ·rw [if_neg c8] at H
     have c8b0 : ((l0_1.length : Int) == 0) = false := beq_eq_false_iff_ne.mpr c8
     have c8b1 : ((l0_1.length : Int) != 0) = true := bne_iff_ne.mpr c8
     have c8b2 : ¬ (l0_1 = []) := fun h_ => c8 (by rw [h_]; rfl)
     replace H := Option.bind_eq_some_iff.mp H
     obtain ⟨t254, A130, H⟩ := H
     try dsimp only at H
     have A13 := Am24 A130
     clear A130
     obtain rfl := Option.some.inj H
     go_enter Try.func24, Try.ntmps24
     go_wp2_with (first | ((with_reducible refine gate_dst (N:=2) rfl ?_); (try (refine gate_guard (by rfl) ?_; dsimp only)); refine box_event ?hg (N:=2) ?hd (cs:=#[.slice A0_0 l0_0.length c0_0, .slice A0_1 l0_1.length c0_1, .slice A0_2 l0_2.length c0_2, .slice A0_3 l0_3.length c0_3]) (t:=24) ?hr ?_; (case hd => rfl); (case hg => rfl); (case hr => first | (go_simp; done) | (go_simp; rfl)); intro gb251 hg w14 hbox hb; have BK251 := Am24 (hbox); have GW251 := Am24 ((by rw [hg]; exact (bz24 (by repeat (first | (with_reducible first | exact HB.out | apply ba24 | apply bn24 | apply bd24) | exact HB.out))) : w.heap.size ≤ gb251)); have GE251 := Am24 ((by rw [hg]; exact (bz24 (by repeat (first | (with_reducible first | exact HB.out | apply ba24 | apply bn24 | apply bd24) | exact HB.out))) : w.heap.size ≤ gb251)); replace HB := Am24 (bp24 (by repeat (first | (with_reducible first | exact HB.out | apply ba24 | apply bn24 | apply bd24) | exact HB.out)) hb); clear hb hbox hg; have hcz15_0 : w14.cell? ⟨gb251, 0, none⟩ = some (.slice A0_0 l0_0.length c0_0) := (kc24 BK251.out 0).trans rfl; have hcz15_1 : w14.cell? ⟨gb251, 1, none⟩ = some (.slice A0_1 l0_1.length c0_1) := (kc24 BK251.out 1).trans rfl; have hcz15_2 : w14.cell? ⟨gb251, 2, none⟩ = some (.slice A0_2 l0_2.length c0_2) := (kc24 BK251.out 2).trans rfl; have hcz15_3 : w14.cell? ⟨gb251, 3, none⟩ = some (.slice A0_3 l0_3.length c0_3) := (kc24 BK251.out 3).trans rfl; have hfz15_0 := kz24 BK251.out 0; have hfz15_1 := kz24 BK251.out 1; have hfz15_2 := kz24 BK251.out 2; have hfz15_3 := kz24 BK251.out 3) | ((with_reducible refine gate_callee (f:=23) rfl ?_); refine goesL_ (some 6) rfl rfl Try.func23 (by kernel_rfl) rfl #[.agg #[.slice A0_0 l0_0.length c0_0, .slice A0_1 l0_1.length c0_1, .slice A0_2 l0_2.length c0_2, .slice A0_3 l0_3.length c0_3]] rfl (by (try simp only [ma24, mc24, mn24]); first | done | rfl | (simp only [ld24, lt_24]; rfl)) ?_; (with_reducible refine (watershedref06_Right.calls k _ _ l0_0 _ _ l0_1 _ _ l0_2 _ _ l0_3 true _ ?side1 ?side2 ?side3 ?side4 ?side5 ?side6 ?side7 ?side8 A3.out).mono ?_); (case side1 => repeat (first | exact (Kd.C_below HR0_0.out HB.out) | (with_reducible refine Kd.C_alloc ?_ _) | (with_reducible refine Kd.C_drewN ?_ _) | (with_reducible refine Kd.C_drew ?_))); (case side2 => exact HC0_0.out); (case side3 => repeat (first | exact (Kd.C_below HR0_1.out HB.out) | (with_reducible refine Kd.C_alloc ?_ _) | (with_reducible refine Kd.C_drewN ?_ _) | (with_reducible refine Kd.C_drew ?_))); (case side4 => exact HC0_1.out); (case side5 => repeat (first | exact (Kd.C_below HR0_2.out HB.out) | (with_reducible refine Kd.C_alloc ?_ _) | (with_reducible refine Kd.C_drewN ?_ _) | (with_reducible refine Kd.C_drew ?_))); (case side6 => exact HC0_2.out); (case side7 => repeat (first | exact (Kd.C_below HR0_3.out HB.out) | (with_reducible refine Kd.C_alloc ?_ _) | (with_reducible refine Kd.C_drewN ?_ _) | (with_reducible refine Kd.C_drew ?_))); (case side8 => exact HC0_3.out); rintro e w16 ⟨rfl, hb⟩; refine ⟨_, rfl, ?_⟩; replace BK251 := Am24 (kb24 (g:=gb251) (o:=.cells #[.slice A0_0 l0_0.length c0_0, .slice A0_1 l0_1.length c0_1, .slice A0_2 l0_2.length c0_2, .slice A0_3 l0_3.length c0_3] 24 (0, 0)) (by (with_reducible repeat first | apply kn24 | apply kd24 | apply ka24); exact BK251.out) hb); replace HB := Am24 (bp24 (by repeat (first | (with_reducible first | exact HB.out | apply ba24 | apply bn24 | apply bd24 | refine bs24 ?_ GE251.out) | exact HB.out)) hb); (try clear hb); (try clear hb2); (try clear hk); (try clear hi); have hcz17_0 : w16.cell? ⟨gb251, 0, none⟩ = some (.slice A0_0 l0_0.length c0_0) := (kc24 BK251.out 0).trans rfl; have hcz17_1 : w16.cell? ⟨gb251, 1, none⟩ = some (.slice A0_1 l0_1.length c0_1) := (kc24 BK251.out 1).trans rfl; have hcz17_2 : w16.cell? ⟨gb251, 2, none⟩ = some (.slice A0_2 l0_2.length c0_2) := (kc24 BK251.out 2).trans rfl; have hcz17_3 : w16.cell? ⟨gb251, 3, none⟩ = some (.slice A0_3 l0_3.length c0_3) := (kc24 BK251.out 3).trans rfl; have hfz17_0 := kz24 BK251.out 0; have hfz17_1 := kz24 BK251.out 1; have hfz17_2 := kz24 BK251.out 2; have hfz17_3 := kz24 BK251.out 3) | (go_at_call 47; (with_reducible refine (watershedref06_half.calls k _ _ l0_0 _ _ l1 true _ ?side1 ?side2 ?side3 ?side4 A6.out).mono ?_); (case side1 => repeat (first | exact (Kd.C_below HR0_0.out HB.out) | (with_reducible refine Kd.C_alloc ?_ _) | (with_reducible refine Kd.C_drewN ?_ _) | (with_reducible refine Kd.C_drew ?_))); (case side2 => exact HC0_0.out); (case side3 => repeat (first | exact (Kd.C_below HR1.out HB.out) | (with_reducible refine Kd.C_alloc ?_ _) | (with_reducible refine Kd.C_drewN ?_ _) | (with_reducible refine Kd.C_drew ?_))); (case side4 => exact HC1.out); rintro e w' ⟨rfl, ⟨nd, rfl⟩⟩) | (go_at_call 47; (with_reducible refine (watershedref06_half.calls k _ _ l0_1 _ _ l1 t254 _ ?side1 ?side2 ?side3 ?side4 A13.out).mono ?_); (case side1 => repeat (first | exact (Kd.C_below HR0_1.out (by repeat (first | (with_reducible first | exact HB.out | apply ba24 | apply bn24 | apply bd24 | refine bs24 ?_ GE251.out) | exact HB.out))) | (with_reducible refine Kd.C_alloc ?_ _) | (with_reducible refine Kd.C_drewN ?_ _) | (with_reducible refine Kd.C_drew ?_))); (case side2 => exact HC0_1.out); (case side3 => repeat (first | exact (Kd.C_below HR1.out (by repeat (first | (with_reducible first | exact HB.out | apply ba24 | apply bn24 | apply bd24 | refine bs24 ?_ GE251.out) | exact HB.out))) | (with_reducible refine Kd.C_alloc ?_ _) | (with_reducible refine Kd.C_drewN ?_ _) | (with_reducible refine Kd.C_drew ?_))); (case side4 => exact HC1.out); rintro e w' ⟨rfl, ⟨nd, rfl⟩⟩))
     go_ret
     exact ⟨by first | rfl | (simp [errW_none, errW_some] <;> rfl) | (simp [*, errW_none, errW_some] <;> rfl), by repeat (first | (with_reducible first | exact HB.out | apply ba24 | apply bn24 | apply bd24 | refine bs24 ?_ GE251.out) | exact HB.out)⟩
   ·replace c7 := Bool.eq_false_iff.mpr c7
    subst c7
    rw [if_neg (show ¬ (false = true) by decide)] at H
    obtain rfl := Option.some.inj H
    go_enter Try.func24, Try.ntmps24
    go_wp2_with (first | ((with_reducible refine gate_dst (N:=2) rfl ?_); (try (refine gate_guard (by rfl) ?_; dsimp only)); refine box_event ?hg (N:=2) ?hd (cs:=#[.slice A0_0 l0_0.length c0_0, .slice A0_1 l0_1.length c0_1, .slice A0_2 l0_2.length c0_2, .slice A0_3 l0_3.length c0_3]) (t:=24) ?hr ?_; (case hd => rfl); (case hg => rfl); (case hr => first | (go_simp; done) | (go_simp; rfl)); intro gb251 hg w18 hbox hb; have BK251 := Am24 (hbox); have GW251 := Am24 ((by rw [hg]; exact (bz24 (by repeat (first | (with_reducible first | exact HB.out | apply ba24 | apply bn24 | apply bd24) | exact HB.out))) : w.heap.size ≤ gb251)); have GE251 := Am24 ((by rw [hg]; exact (bz24 (by repeat (first | (with_reducible first | exact HB.out | apply ba24 | apply bn24 | apply bd24) | exact HB.out))) : w.heap.size ≤ gb251)); replace HB := Am24 (bp24 (by repeat (first | (with_reducible first | exact HB.out | apply ba24 | apply bn24 | apply bd24) | exact HB.out)) hb); clear hb hbox hg; have hcz19_0 : w18.cell? ⟨gb251, 0, none⟩ = some (.slice A0_0 l0_0.length c0_0) := (kc24 BK251.out 0).trans rfl; have hcz19_1 : w18.cell? ⟨gb251, 1, none⟩ = some (.slice A0_1 l0_1.length c0_1) := (kc24 BK251.out 1).trans rfl; have hcz19_2 : w18.cell? ⟨gb251, 2, none⟩ = some (.slice A0_2 l0_2.length c0_2) := (kc24 BK251.out 2).trans rfl; have hcz19_3 : w18.cell? ⟨gb251, 3, none⟩ = some (.slice A0_3 l0_3.length c0_3) := (kc24 BK251.out 3).trans rfl; have hfz19_0 := kz24 BK251.out 0; have hfz19_1 := kz24 BK251.out 1; have hfz19_2 := kz24 BK251.out 2; have hfz19_3 := kz24 BK251.out 3) | ((with_reducible refine gate_callee (f:=23) rfl ?_); refine goesL_ (some 6) rfl rfl Try.func23 (by kernel_rfl) rfl #[.agg #[.slice A0_0 l0_0.length c0_0, .slice A0_1 l0_1.length c0_1, .slice A0_2 l0_2.length c0_2, .slice A0_3 l0_3.length c0_3]] rfl (by (try simp only [ma24, mc24, mn24]); first | done | rfl | (simp only [ld24, lt_24]; rfl)) ?_; (with_reducible refine (watershedref06_Right.calls k _ _ l0_0 _ _ l0_1 _ _ l0_2 _ _ l0_3 true _ ?side1 ?side2 ?side3 ?side4 ?side5 ?side6 ?side7 ?side8 A3.out).mono ?_); (case side1 => repeat (first | exact (Kd.C_below HR0_0.out HB.out) | (with_reducible refine Kd.C_alloc ?_ _) | (with_reducible refine Kd.C_drewN ?_ _) | (with_reducible refine Kd.C_drew ?_))); (case side2 => exact HC0_0.out); (case side3 => repeat (first | exact (Kd.C_below HR0_1.out HB.out) | (with_reducible refine Kd.C_alloc ?_ _) | (with_reducible refine Kd.C_drewN ?_ _) | (with_reducible refine Kd.C_drew ?_))); (case side4 => exact HC0_1.out); (case side5 => repeat (first | exact (Kd.C_below HR0_2.out HB.out) | (with_reducible refine Kd.C_alloc ?_ _) | (with_reducible refine Kd.C_drewN ?_ _) | (with_reducible refine Kd.C_drew ?_))); (case side6 => exact HC0_2.out); (case side7 => repeat (first | exact (Kd.C_below HR0_3.out HB.out) | (with_reducible refine Kd.C_alloc ?_ _) | (with_reducible refine Kd.C_drewN ?_ _) | (with_reducible refine Kd.C_drew ?_))); (case side8 => exact HC0_3.out); rintro e w20 ⟨rfl, hb⟩; refine ⟨_, rfl, ?_⟩; replace BK251 := Am24 (kb24 (g:=gb251) (o:=.cells #[.slice A0_0 l0_0.length c0_0, .slice A0_1 l0_1.length c0_1, .slice A0_2 l0_2.length c0_2, .slice A0_3 l0_3.length c0_3] 24 (0, 0)) (by (with_reducible repeat first | apply kn24 | apply kd24 | apply ka24); exact BK251.out) hb); replace HB := Am24 (bp24 (by repeat (first | (with_reducible first | exact HB.out | apply ba24 | apply bn24 | apply bd24 | refine bs24 ?_ GE251.out) | exact HB.out)) hb); (try clear hb); (try clear hb2); (try clear hk); (try clear hi); have hcz21_0 : w20.cell? ⟨gb251, 0, none⟩ = some (.slice A0_0 l0_0.length c0_0) := (kc24 BK251.out 0).trans rfl; have hcz21_1 : w20.cell? ⟨gb251, 1, none⟩ = some (.slice A0_1 l0_1.length c0_1) := (kc24 BK251.out 1).trans rfl; have hcz21_2 : w20.cell? ⟨gb251, 2, none⟩ = some (.slice A0_2 l0_2.length c0_2) := (kc24 BK251.out 2).trans rfl; have hcz21_3 : w20.cell? ⟨gb251, 3, none⟩ = some (.slice A0_3 l0_3.length c0_3) := (kc24 BK251.out 3).trans rfl; have hfz21_0 := kz24 BK251.out 0; have hfz21_1 := kz24 BK251.out 1; have hfz21_2 := kz24 BK251.out 2; have hfz21_3 := kz24 BK251.out 3) | (go_at_call 47; (with_reducible refine (watershedref06_half.calls k _ _ l0_0 _ _ l1 false _ ?side1 ?side2 ?side3 ?side4 A6.out).mono ?_); (case side1 => repeat (first | exact (Kd.C_below HR0_0.out HB.out) | (with_reducible refine Kd.C_alloc ?_ _) | (with_reducible refine Kd.C_drewN ?_ _) | (with_reducible refine Kd.C_drew ?_))); (case side2 => exact HC0_0.out); (case side3 => repeat (first | exact (Kd.C_below HR1.out HB.out) | (with_reducible refine Kd.C_alloc ?_ _) | (with_reducible refine Kd.C_drewN ?_ _) | (with_reducible refine Kd.C_drew ?_))); (case side4 => exact HC1.out); rintro e w' ⟨rfl, ⟨nd, rfl⟩⟩))
    go_ret
    exact ⟨by first | rfl | (simp [errW_none, errW_some] <;> rfl) | (simp [*, errW_none, errW_some] <;> rfl), by repeat (first | (with_reducible first | exact HB.out | apply ba24 | apply bn24 | apply bd24 | refine bs24 ?_ GE251.out) | exact HB.out)⟩
  ·rw [if_neg c5] at H
   have c5b0 : decide (0 < (l0_0.length : Int)) = false := decide_eq_false c5
   have c5b1 : decide (0 < l0_0.length) = false := decide_eq_false (by omega)
   clear c5
   obtain rfl := Option.some.inj H
   go_enter Try.func24, Try.ntmps24
   go_wp2_with (first | ((with_reducible refine gate_dst (N:=2) rfl ?_); (try (refine gate_guard (by rfl) ?_; dsimp only)); refine box_event ?hg (N:=2) ?hd (cs:=#[.slice A0_0 l0_0.length c0_0, .slice A0_1 l0_1.length c0_1, .slice A0_2 l0_2.length c0_2, .slice A0_3 l0_3.length c0_3]) (t:=24) ?hr ?_; (case hd => rfl); (case hg => rfl); (case hr => first | (go_simp; done) | (go_simp; rfl)); intro gb251 hg w22 hbox hb; have BK251 := Am24 (hbox); have GW251 := Am24 ((by rw [hg]; exact (bz24 (by repeat (first | (with_reducible first | exact HB.out | apply ba24 | apply bn24 | apply bd24) | exact HB.out))) : w.heap.size ≤ gb251)); have GE251 := Am24 ((by rw [hg]; exact (bz24 (by repeat (first | (with_reducible first | exact HB.out | apply ba24 | apply bn24 | apply bd24) | exact HB.out))) : w.heap.size ≤ gb251)); replace HB := Am24 (bp24 (by repeat (first | (with_reducible first | exact HB.out | apply ba24 | apply bn24 | apply bd24) | exact HB.out)) hb); clear hb hbox hg; have hcz23_0 : w22.cell? ⟨gb251, 0, none⟩ = some (.slice A0_0 l0_0.length c0_0) := (kc24 BK251.out 0).trans rfl; have hcz23_1 : w22.cell? ⟨gb251, 1, none⟩ = some (.slice A0_1 l0_1.length c0_1) := (kc24 BK251.out 1).trans rfl; have hcz23_2 : w22.cell? ⟨gb251, 2, none⟩ = some (.slice A0_2 l0_2.length c0_2) := (kc24 BK251.out 2).trans rfl; have hcz23_3 : w22.cell? ⟨gb251, 3, none⟩ = some (.slice A0_3 l0_3.length c0_3) := (kc24 BK251.out 3).trans rfl; have hfz23_0 := kz24 BK251.out 0; have hfz23_1 := kz24 BK251.out 1; have hfz23_2 := kz24 BK251.out 2; have hfz23_3 := kz24 BK251.out 3) | ((with_reducible refine gate_callee (f:=23) rfl ?_); refine goesL_ (some 6) rfl rfl Try.func23 (by kernel_rfl) rfl #[.agg #[.slice A0_0 l0_0.length c0_0, .slice A0_1 l0_1.length c0_1, .slice A0_2 l0_2.length c0_2, .slice A0_3 l0_3.length c0_3]] rfl (by (try simp only [ma24, mc24, mn24]); first | done | rfl | (simp only [ld24, lt_24]; rfl)) ?_; (with_reducible refine (watershedref06_Right.calls k _ _ l0_0 _ _ l0_1 _ _ l0_2 _ _ l0_3 true _ ?side1 ?side2 ?side3 ?side4 ?side5 ?side6 ?side7 ?side8 A3.out).mono ?_); (case side1 => repeat (first | exact (Kd.C_below HR0_0.out HB.out) | (with_reducible refine Kd.C_alloc ?_ _) | (with_reducible refine Kd.C_drewN ?_ _) | (with_reducible refine Kd.C_drew ?_))); (case side2 => exact HC0_0.out); (case side3 => repeat (first | exact (Kd.C_below HR0_1.out HB.out) | (with_reducible refine Kd.C_alloc ?_ _) | (with_reducible refine Kd.C_drewN ?_ _) | (with_reducible refine Kd.C_drew ?_))); (case side4 => exact HC0_1.out); (case side5 => repeat (first | exact (Kd.C_below HR0_2.out HB.out) | (with_reducible refine Kd.C_alloc ?_ _) | (with_reducible refine Kd.C_drewN ?_ _) | (with_reducible refine Kd.C_drew ?_))); (case side6 => exact HC0_2.out); (case side7 => repeat (first | exact (Kd.C_below HR0_3.out HB.out) | (with_reducible refine Kd.C_alloc ?_ _) | (with_reducible refine Kd.C_drewN ?_ _) | (with_reducible refine Kd.C_drew ?_))); (case side8 => exact HC0_3.out); rintro e w24 ⟨rfl, hb⟩; refine ⟨_, rfl, ?_⟩; replace BK251 := Am24 (kb24 (g:=gb251) (o:=.cells #[.slice A0_0 l0_0.length c0_0, .slice A0_1 l0_1.length c0_1, .slice A0_2 l0_2.length c0_2, .slice A0_3 l0_3.length c0_3] 24 (0, 0)) (by (with_reducible repeat first | apply kn24 | apply kd24 | apply ka24); exact BK251.out) hb); replace HB := Am24 (bp24 (by repeat (first | (with_reducible first | exact HB.out | apply ba24 | apply bn24 | apply bd24 | refine bs24 ?_ GE251.out) | exact HB.out)) hb); (try clear hb); (try clear hb2); (try clear hk); (try clear hi); have hcz25_0 : w24.cell? ⟨gb251, 0, none⟩ = some (.slice A0_0 l0_0.length c0_0) := (kc24 BK251.out 0).trans rfl; have hcz25_1 : w24.cell? ⟨gb251, 1, none⟩ = some (.slice A0_1 l0_1.length c0_1) := (kc24 BK251.out 1).trans rfl; have hcz25_2 : w24.cell? ⟨gb251, 2, none⟩ = some (.slice A0_2 l0_2.length c0_2) := (kc24 BK251.out 2).trans rfl; have hcz25_3 : w24.cell? ⟨gb251, 3, none⟩ = some (.slice A0_3 l0_3.length c0_3) := (kc24 BK251.out 3).trans rfl; have hfz25_0 := kz24 BK251.out 0; have hfz25_1 := kz24 BK251.out 1; have hfz25_2 := kz24 BK251.out 2; have hfz25_3 := kz24 BK251.out 3))
   go_ret
   exact ⟨by first | rfl | (simp [errW_none, errW_some] <;> rfl) | (simp [*, errW_none, errW_some] <;> rfl), by repeat (first | (with_reducible first | exact HB.out | apply ba24 | apply bn24 | apply bd24 | refine bs24 ?_ GE251.out) | exact HB.out)⟩
 ·replace c4 := Bool.eq_false_iff.mpr c4
  subst c4
  rw [if_neg (show ¬ (false = true) by decide)] at H
  obtain rfl := Option.some.inj H
  go_enter Try.func24, Try.ntmps24
  go_wp2_with (first | ((with_reducible refine gate_dst (N:=2) rfl ?_); (try (refine gate_guard (by rfl) ?_; dsimp only)); refine box_event ?hg (N:=2) ?hd (cs:=#[.slice A0_0 l0_0.length c0_0, .slice A0_1 l0_1.length c0_1, .slice A0_2 l0_2.length c0_2, .slice A0_3 l0_3.length c0_3]) (t:=24) ?hr ?_; (case hd => rfl); (case hg => rfl); (case hr => first | (go_simp; done) | (go_simp; rfl)); intro gb251 hg w26 hbox hb; have BK251 := Am24 (hbox); have GW251 := Am24 ((by rw [hg]; exact (bz24 (by repeat (first | (with_reducible first | exact HB.out | apply ba24 | apply bn24 | apply bd24) | exact HB.out))) : w.heap.size ≤ gb251)); have GE251 := Am24 ((by rw [hg]; exact (bz24 (by repeat (first | (with_reducible first | exact HB.out | apply ba24 | apply bn24 | apply bd24) | exact HB.out))) : w.heap.size ≤ gb251)); replace HB := Am24 (bp24 (by repeat (first | (with_reducible first | exact HB.out | apply ba24 | apply bn24 | apply bd24) | exact HB.out)) hb); clear hb hbox hg; have hcz27_0 : w26.cell? ⟨gb251, 0, none⟩ = some (.slice A0_0 l0_0.length c0_0) := (kc24 BK251.out 0).trans rfl; have hcz27_1 : w26.cell? ⟨gb251, 1, none⟩ = some (.slice A0_1 l0_1.length c0_1) := (kc24 BK251.out 1).trans rfl; have hcz27_2 : w26.cell? ⟨gb251, 2, none⟩ = some (.slice A0_2 l0_2.length c0_2) := (kc24 BK251.out 2).trans rfl; have hcz27_3 : w26.cell? ⟨gb251, 3, none⟩ = some (.slice A0_3 l0_3.length c0_3) := (kc24 BK251.out 3).trans rfl; have hfz27_0 := kz24 BK251.out 0; have hfz27_1 := kz24 BK251.out 1; have hfz27_2 := kz24 BK251.out 2; have hfz27_3 := kz24 BK251.out 3) | ((with_reducible refine gate_callee (f:=23) rfl ?_); refine goesL_ (some 6) rfl rfl Try.func23 (by kernel_rfl) rfl #[.agg #[.slice A0_0 l0_0.length c0_0, .slice A0_1 l0_1.length c0_1, .slice A0_2 l0_2.length c0_2, .slice A0_3 l0_3.length c0_3]] rfl (by (try simp only [ma24, mc24, mn24]); first | done | rfl | (simp only [ld24, lt_24]; rfl)) ?_; (with_reducible refine (watershedref06_Right.calls k _ _ l0_0 _ _ l0_1 _ _ l0_2 _ _ l0_3 false _ ?side1 ?side2 ?side3 ?side4 ?side5 ?side6 ?side7 ?side8 A3.out).mono ?_); (case side1 => repeat (first | exact (Kd.C_below HR0_0.out HB.out) | (with_reducible refine Kd.C_alloc ?_ _) | (with_reducible refine Kd.C_drewN ?_ _) | (with_reducible refine Kd.C_drew ?_))); (case side2 => exact HC0_0.out); (case side3 => repeat (first | exact (Kd.C_below HR0_1.out HB.out) | (with_reducible refine Kd.C_alloc ?_ _) | (with_reducible refine Kd.C_drewN ?_ _) | (with_reducible refine Kd.C_drew ?_))); (case side4 => exact HC0_1.out); (case side5 => repeat (first | exact (Kd.C_below HR0_2.out HB.out) | (with_reducible refine Kd.C_alloc ?_ _) | (with_reducible refine Kd.C_drewN ?_ _) | (with_reducible refine Kd.C_drew ?_))); (case side6 => exact HC0_2.out); (case side7 => repeat (first | exact (Kd.C_below HR0_3.out HB.out) | (with_reducible refine Kd.C_alloc ?_ _) | (with_reducible refine Kd.C_drewN ?_ _) | (with_reducible refine Kd.C_drew ?_))); (case side8 => exact HC0_3.out); rintro e w28 ⟨rfl, hb⟩; refine ⟨_, rfl, ?_⟩; replace BK251 := Am24 (kb24 (g:=gb251) (o:=.cells #[.slice A0_0 l0_0.length c0_0, .slice A0_1 l0_1.length c0_1, .slice A0_2 l0_2.length c0_2, .slice A0_3 l0_3.length c0_3] 24 (0, 0)) (by (with_reducible repeat first | apply kn24 | apply kd24 | apply ka24); exact BK251.out) hb); replace HB := Am24 (bp24 (by repeat (first | (with_reducible first | exact HB.out | apply ba24 | apply bn24 | apply bd24 | refine bs24 ?_ GE251.out) | exact HB.out)) hb); (try clear hb); (try clear hb2); (try clear hk); (try clear hi)))
  go_ret
  exact ⟨by first | rfl | (simp [errW_none, errW_some] <;> rfl) | (simp [*, errW_none, errW_some] <;> rfl), by repeat (first | (with_reducible first | exact HB.out | apply ba24 | apply bn24 | apply bd24 | refine bs24 ?_ GE251.out) | exact HB.out)⟩

theorem Am25 : type_of% @Aside0.mk := @Aside0.mk
theorem ba25 : type_of% @below_alloc := @below_alloc
theorem bn25 : type_of% @pw_below_drewN := @pw_below_drewN
theorem bd25 : type_of% @below_drew1 := @below_drew1
theorem bs25 : type_of% @below_set := @below_set
theorem bz25 : type_of% @below_size := @below_size
theorem bp25 : type_of% @below_step := @below_step
theorem kc25 : type_of% @blk_cell := @blk_cell
theorem kz25 : type_of% @blk_frozen := @blk_frozen
theorem ma25 : type_of% @List.map_toArray := @List.map_toArray
theorem mc25 : type_of% @List.map_cons := @List.map_cons
theorem mn25 : type_of% @List.map_nil := @List.map_nil
theorem ld25 : type_of% @List.length_drop := @List.length_drop
theorem lt_25 : type_of% @List.length_take := @List.length_take
/-! ### watershedref06_Votes: function 25 -/
def watershedref06_Votes.f (k : Nat) (l0_0 : List Int) (l0_1 : List Int) (l0_2 : List Int) (l0_3 : List Int) (a1 : Int) : Option (Bool) := (watershedref06_in.f k l0_0 a1).bind fun t256 => (if t256 = true then (some true) else ((watershedref06_in.f k l0_1 a1).bind fun t257 => (some t257)))
theorem watershedref06_Votes.mono : ∀ a0 a1 a2 a3 a4 k, LeO (watershedref06_Votes.f k a0 a1 a2 a3 a4) (watershedref06_Votes.f (k + 1) a0 a1 a2 a3 a4) := by
 intro a0 a1 a2 a3 a4 k
 unfold watershedref06_Votes.f
 repeat' first
   | (with_reducible exact watershedref06_in.mono _ _ _)
   | (with_reducible exact LeO.refl _)
   | (with_reducible exact LeO.none _)
   | (with_reducible refine LeO.ite ?_ ?_)
   | (with_reducible refine LeO.bind ?_ (fun _ => ?_))
   | exact watershedref06_in.mono _ _ _
   | exact LeO.none _
   | refine LeO.ite ?_ ?_
   | refine LeO.bind ?_ (fun _ => ?_)
set_option maxHeartbeats 8000000 in
set_option maxRecDepth 100000 in
theorem watershedref06_Votes.calls (k : Nat) (A0_0 : Option Addr) (c0_0 : Nat) (l0_0 : List Int) (A0_1 : Option Addr) (c0_1 : Nat) (l0_1 : List Int) (A0_2 : Option Addr) (c0_2 : Nat) (l0_2 : List Int) (A0_3 : Option Addr) (c0_3 : Nat) (l0_3 : List Int) (a1 : Int) (r : Bool) (w : World) (hr0_0 : Kd.C (Kd.int .i64) w A0_0 l0_0.length l0_0) (hc0_0 : l0_0.length ≤ c0_0) (hr0_1 : Kd.C (Kd.int .i64) w A0_1 l0_1.length l0_1) (hc0_1 : l0_1.length ≤ c0_1) (hr0_2 : Kd.C (Kd.int .i64) w A0_2 l0_2.length l0_2) (hc0_2 : l0_2.length ≤ c0_2) (hr0_3 : Kd.C (Kd.int .i64) w A0_3 l0_3.length l0_3) (hc0_3 : l0_3.length ≤ c0_3) (h : watershedref06_Votes.f k l0_0 l0_1 l0_2 l0_3 a1 = some r) :
  Calls Try.prog 25 #[.agg #[.slice A0_0 l0_0.length c0_0, .slice A0_1 l0_1.length c0_1, .slice A0_2 l0_2.length c0_2, .slice A0_3 l0_3.length c0_3], .int .i64 a1] w fun e w' => e = .returned (.bool r) ∧ Below w.heap.size w w' := by
 have hu24 := Try.underlying24
 have HR0_0 := Am25 hr0_0
 have HC0_0 := Am25 hc0_0
 clear hr0_0 hc0_0
 have HR0_1 := Am25 hr0_1
 have HC0_1 := Am25 hc0_1
 clear hr0_1 hc0_1
 have HR0_2 := Am25 hr0_2
 have HC0_2 := Am25 hc0_2
 clear hr0_2 hc0_2
 have HR0_3 := Am25 hr0_3
 have HC0_3 := Am25 hc0_3
 clear hr0_3 hc0_3
 have HB := Am25 (Below.refl w.heap.size w)
 have H : ((watershedref06_in.f k l0_0 a1).bind fun t256 => (if t256 = true then (some true) else ((watershedref06_in.f k l0_1 a1).bind fun t257 => (some t257)))) = some r := h
 clear h
 replace H := Option.bind_eq_some_iff.mp H
 obtain ⟨t256, A30, H⟩ := H
 try dsimp only at H
 have A3 := Am25 A30
 clear A30
 by_cases c4 : t256 = true
 ·subst c4
  rw [if_pos rfl] at H
  obtain rfl := Option.some.inj H
  go_enter Try.func25, Try.ntmps25
  go_wp2_with (first | ((with_reducible refine gate_dst (N:=2) rfl ?_); refine box_event ?hg (N:=2) ?hd (cs:=#[.slice A0_0 l0_0.length c0_0, .slice A0_1 l0_1.length c0_1, .slice A0_2 l0_2.length c0_2, .slice A0_3 l0_3.length c0_3]) (t:=24) ?hr ?_; (case hd => rfl); (case hg => rfl); (case hr => first | (go_simp; done) | (go_simp; rfl)); intro gb255 hg w5 hbox hb; have BK255 := Am25 (hbox); have GW255 := Am25 ((by rw [hg]; exact (bz25 (by repeat (first | (with_reducible first | exact HB.out | apply ba25 | apply bn25 | apply bd25) | exact HB.out))) : w.heap.size ≤ gb255)); have GE255 := Am25 ((by rw [hg]; exact (bz25 (by repeat (first | (with_reducible first | exact HB.out | apply ba25 | apply bn25 | apply bd25) | exact HB.out))) : w.heap.size ≤ gb255)); replace HB := Am25 (bp25 (by repeat (first | (with_reducible first | exact HB.out | apply ba25 | apply bn25 | apply bd25) | exact HB.out)) hb); clear hb hbox hg; have hcz6_0 : w5.cell? ⟨gb255, 0, none⟩ = some (.slice A0_0 l0_0.length c0_0) := (kc25 BK255.out 0).trans rfl; have hcz6_1 : w5.cell? ⟨gb255, 1, none⟩ = some (.slice A0_1 l0_1.length c0_1) := (kc25 BK255.out 1).trans rfl; have hcz6_2 : w5.cell? ⟨gb255, 2, none⟩ = some (.slice A0_2 l0_2.length c0_2) := (kc25 BK255.out 2).trans rfl; have hcz6_3 : w5.cell? ⟨gb255, 3, none⟩ = some (.slice A0_3 l0_3.length c0_3) := (kc25 BK255.out 3).trans rfl; have hfz6_0 := kz25 BK255.out 0; have hfz6_1 := kz25 BK255.out 1; have hfz6_2 := kz25 BK255.out 2; have hfz6_3 := kz25 BK255.out 3) | ((with_reducible refine gate_callee (f:=46) rfl ?_); refine goesL_ (some 8) rfl rfl Try.func46 (by kernel_rfl) rfl #[.slice A0_0 l0_0.length c0_0, .int .i64 a1] rfl (by (try simp only [ma25, mc25, mn25]); first | done | rfl | (simp only [ld25, lt_25]; rfl)) ?_; (with_reducible refine (watershedref06_in.calls k _ _ l0_0 a1 true _ ?side1 ?side2 A3.out).mono ?_); (case side1 => repeat (first | exact (Kd.C_below HR0_0.out HB.out) | (with_reducible refine Kd.C_alloc ?_ _) | (with_reducible refine Kd.C_drewN ?_ _) | (with_reducible refine Kd.C_drew ?_))); (case side2 => exact HC0_0.out); rintro e w' ⟨rfl, ⟨nd, rfl⟩⟩; refine ⟨_, rfl, ?_⟩))
  go_ret
  exact ⟨by first | rfl | (simp [errW_none, errW_some] <;> rfl) | (simp [*, errW_none, errW_some] <;> rfl), by repeat (first | (with_reducible first | exact HB.out | apply ba25 | apply bn25 | apply bd25 | refine bs25 ?_ GE255.out) | exact HB.out)⟩
 ·replace c4 := Bool.eq_false_iff.mpr c4
  subst c4
  rw [if_neg (show ¬ (false = true) by decide)] at H
  replace H := Option.bind_eq_some_iff.mp H
  obtain ⟨t257, A70, H⟩ := H
  try dsimp only at H
  have A7 := Am25 A70
  clear A70
  obtain rfl := Option.some.inj H
  go_enter Try.func25, Try.ntmps25
  go_wp2_with (first | ((with_reducible refine gate_dst (N:=2) rfl ?_); refine box_event ?hg (N:=2) ?hd (cs:=#[.slice A0_0 l0_0.length c0_0, .slice A0_1 l0_1.length c0_1, .slice A0_2 l0_2.length c0_2, .slice A0_3 l0_3.length c0_3]) (t:=24) ?hr ?_; (case hd => rfl); (case hg => rfl); (case hr => first | (go_simp; done) | (go_simp; rfl)); intro gb255 hg w8 hbox hb; have BK255 := Am25 (hbox); have GW255 := Am25 ((by rw [hg]; exact (bz25 (by repeat (first | (with_reducible first | exact HB.out | apply ba25 | apply bn25 | apply bd25) | exact HB.out))) : w.heap.size ≤ gb255)); have GE255 := Am25 ((by rw [hg]; exact (bz25 (by repeat (first | (with_reducible first | exact HB.out | apply ba25 | apply bn25 | apply bd25) | exact HB.out))) : w.heap.size ≤ gb255)); replace HB := Am25 (bp25 (by repeat (first | (with_reducible first | exact HB.out | apply ba25 | apply bn25 | apply bd25) | exact HB.out)) hb); clear hb hbox hg; have hcz9_0 : w8.cell? ⟨gb255, 0, none⟩ = some (.slice A0_0 l0_0.length c0_0) := (kc25 BK255.out 0).trans rfl; have hcz9_1 : w8.cell? ⟨gb255, 1, none⟩ = some (.slice A0_1 l0_1.length c0_1) := (kc25 BK255.out 1).trans rfl; have hcz9_2 : w8.cell? ⟨gb255, 2, none⟩ = some (.slice A0_2 l0_2.length c0_2) := (kc25 BK255.out 2).trans rfl; have hcz9_3 : w8.cell? ⟨gb255, 3, none⟩ = some (.slice A0_3 l0_3.length c0_3) := (kc25 BK255.out 3).trans rfl; have hfz9_0 := kz25 BK255.out 0; have hfz9_1 := kz25 BK255.out 1; have hfz9_2 := kz25 BK255.out 2; have hfz9_3 := kz25 BK255.out 3) | ((with_reducible refine gate_callee (f:=46) rfl ?_); refine goesL_ (some 8) rfl rfl Try.func46 (by kernel_rfl) rfl #[.slice A0_0 l0_0.length c0_0, .int .i64 a1] rfl (by (try simp only [ma25, mc25, mn25]); first | done | rfl | (simp only [ld25, lt_25]; rfl)) ?_; (with_reducible refine (watershedref06_in.calls k _ _ l0_0 a1 false _ ?side1 ?side2 A3.out).mono ?_); (case side1 => repeat (first | exact (Kd.C_below HR0_0.out HB.out) | (with_reducible refine Kd.C_alloc ?_ _) | (with_reducible refine Kd.C_drewN ?_ _) | (with_reducible refine Kd.C_drew ?_))); (case side2 => exact HC0_0.out); rintro e w' ⟨rfl, ⟨nd, rfl⟩⟩; refine ⟨_, rfl, ?_⟩) | (go_at_call 46; (with_reducible refine (watershedref06_in.calls k _ _ l0_1 a1 t257 _ ?side1 ?side2 A7.out).mono ?_); (case side1 => repeat (first | exact (Kd.C_below HR0_1.out (by repeat (first | (with_reducible first | exact HB.out | apply ba25 | apply bn25 | apply bd25 | refine bs25 ?_ GE255.out) | exact HB.out))) | (with_reducible refine Kd.C_alloc ?_ _) | (with_reducible refine Kd.C_drewN ?_ _) | (with_reducible refine Kd.C_drew ?_))); (case side2 => exact HC0_1.out); rintro e w' ⟨rfl, ⟨nd, rfl⟩⟩))
  go_ret
  exact ⟨by first | rfl | (simp [errW_none, errW_some] <;> rfl) | (simp [*, errW_none, errW_some] <;> rfl), by repeat (first | (with_reducible first | exact HB.out | apply ba25 | apply bn25 | apply bd25 | refine bs25 ?_ GE255.out) | exact HB.out)⟩

theorem Am26 : type_of% @Aside0.mk := @Aside0.mk
theorem ba26 : type_of% @below_alloc := @below_alloc
theorem bn26 : type_of% @pw_below_drewN := @pw_below_drewN
theorem bd26 : type_of% @below_drew1 := @below_drew1
theorem bs26 : type_of% @below_set := @below_set
theorem kn26 : type_of% @blk_drewN := @blk_drewN
theorem kd26 : type_of% @blk_drew := @blk_drew
theorem ka26 : type_of% @blk_alloc := @blk_alloc
theorem kb26 : type_of% @blk_below := @blk_below
theorem bz26 : type_of% @below_size := @below_size
theorem bp26 : type_of% @below_step := @below_step
theorem kc26 : type_of% @blk_cell := @blk_cell
theorem kz26 : type_of% @blk_frozen := @blk_frozen
theorem ma26 : type_of% @List.map_toArray := @List.map_toArray
theorem mc26 : type_of% @List.map_cons := @List.map_cons
theorem mn26 : type_of% @List.map_nil := @List.map_nil
theorem ld26 : type_of% @List.length_drop := @List.length_drop
theorem lt_26 : type_of% @List.length_take := @List.length_take
/-! ### watershedref06_Has: function 26 -/
def watershedref06_Has.f (k : Nat) (l0_0 : List Int) (l0_1 : List Int) (l0_2 : List Int) (l0_3 : List Int) (a1 : Int) : Option (Bool) := (watershedref06_Votes.f k l0_0 l0_1 l0_2 l0_3 a1).bind fun t259 => (if t259 = true then (some true) else ((watershedref06_in.f k l0_2 a1).bind fun t260 => (some t260)))
theorem watershedref06_Has.mono : ∀ a0 a1 a2 a3 a4 k, LeO (watershedref06_Has.f k a0 a1 a2 a3 a4) (watershedref06_Has.f (k + 1) a0 a1 a2 a3 a4) := by
 intro a0 a1 a2 a3 a4 k
 unfold watershedref06_Has.f
 repeat' first
   | (with_reducible exact watershedref06_Votes.mono _ _ _ _ _ _)
   | (with_reducible exact watershedref06_in.mono _ _ _)
   | (with_reducible exact LeO.refl _)
   | (with_reducible exact LeO.none _)
   | (with_reducible refine LeO.ite ?_ ?_)
   | (with_reducible refine LeO.bind ?_ (fun _ => ?_))
   | exact watershedref06_Votes.mono _ _ _ _ _ _
   | exact watershedref06_in.mono _ _ _
   | exact LeO.none _
   | refine LeO.ite ?_ ?_
   | refine LeO.bind ?_ (fun _ => ?_)
set_option maxHeartbeats 8000000 in
set_option maxRecDepth 100000 in
theorem watershedref06_Has.calls (k : Nat) (A0_0 : Option Addr) (c0_0 : Nat) (l0_0 : List Int) (A0_1 : Option Addr) (c0_1 : Nat) (l0_1 : List Int) (A0_2 : Option Addr) (c0_2 : Nat) (l0_2 : List Int) (A0_3 : Option Addr) (c0_3 : Nat) (l0_3 : List Int) (a1 : Int) (r : Bool) (w : World) (hr0_0 : Kd.C (Kd.int .i64) w A0_0 l0_0.length l0_0) (hc0_0 : l0_0.length ≤ c0_0) (hr0_1 : Kd.C (Kd.int .i64) w A0_1 l0_1.length l0_1) (hc0_1 : l0_1.length ≤ c0_1) (hr0_2 : Kd.C (Kd.int .i64) w A0_2 l0_2.length l0_2) (hc0_2 : l0_2.length ≤ c0_2) (hr0_3 : Kd.C (Kd.int .i64) w A0_3 l0_3.length l0_3) (hc0_3 : l0_3.length ≤ c0_3) (h : watershedref06_Has.f k l0_0 l0_1 l0_2 l0_3 a1 = some r) :
  Calls Try.prog 26 #[.agg #[.slice A0_0 l0_0.length c0_0, .slice A0_1 l0_1.length c0_1, .slice A0_2 l0_2.length c0_2, .slice A0_3 l0_3.length c0_3], .int .i64 a1] w fun e w' => e = .returned (.bool r) ∧ Below w.heap.size w w' := by
 have hu24 := Try.underlying24
 have HR0_0 := Am26 hr0_0
 have HC0_0 := Am26 hc0_0
 clear hr0_0 hc0_0
 have HR0_1 := Am26 hr0_1
 have HC0_1 := Am26 hc0_1
 clear hr0_1 hc0_1
 have HR0_2 := Am26 hr0_2
 have HC0_2 := Am26 hc0_2
 clear hr0_2 hc0_2
 have HR0_3 := Am26 hr0_3
 have HC0_3 := Am26 hc0_3
 clear hr0_3 hc0_3
 have HB := Am26 (Below.refl w.heap.size w)
 have H : ((watershedref06_Votes.f k l0_0 l0_1 l0_2 l0_3 a1).bind fun t259 => (if t259 = true then (some true) else ((watershedref06_in.f k l0_2 a1).bind fun t260 => (some t260)))) = some r := h
 clear h
 replace H := Option.bind_eq_some_iff.mp H
 obtain ⟨t259, A30, H⟩ := H
 try dsimp only at H
 have A3 := Am26 A30
 clear A30
 by_cases c4 : t259 = true
 ·subst c4
  rw [if_pos rfl] at H
  obtain rfl := Option.some.inj H
  go_enter Try.func26, Try.ntmps26
  go_wp2_with (first | ((with_reducible refine gate_dst (N:=2) rfl ?_); refine box_event ?hg (N:=2) ?hd (cs:=#[.slice A0_0 l0_0.length c0_0, .slice A0_1 l0_1.length c0_1, .slice A0_2 l0_2.length c0_2, .slice A0_3 l0_3.length c0_3]) (t:=24) ?hr ?_; (case hd => rfl); (case hg => rfl); (case hr => first | (go_simp; done) | (go_simp; rfl)); intro gb258 hg w5 hbox hb; have BK258 := Am26 (hbox); have GW258 := Am26 ((by rw [hg]; exact (bz26 (by repeat (first | (with_reducible first | exact HB.out | apply ba26 | apply bn26 | apply bd26) | exact HB.out))) : w.heap.size ≤ gb258)); have GE258 := Am26 ((by rw [hg]; exact (bz26 (by repeat (first | (with_reducible first | exact HB.out | apply ba26 | apply bn26 | apply bd26) | exact HB.out))) : w.heap.size ≤ gb258)); replace HB := Am26 (bp26 (by repeat (first | (with_reducible first | exact HB.out | apply ba26 | apply bn26 | apply bd26) | exact HB.out)) hb); clear hb hbox hg; have hcz6_0 : w5.cell? ⟨gb258, 0, none⟩ = some (.slice A0_0 l0_0.length c0_0) := (kc26 BK258.out 0).trans rfl; have hcz6_1 : w5.cell? ⟨gb258, 1, none⟩ = some (.slice A0_1 l0_1.length c0_1) := (kc26 BK258.out 1).trans rfl; have hcz6_2 : w5.cell? ⟨gb258, 2, none⟩ = some (.slice A0_2 l0_2.length c0_2) := (kc26 BK258.out 2).trans rfl; have hcz6_3 : w5.cell? ⟨gb258, 3, none⟩ = some (.slice A0_3 l0_3.length c0_3) := (kc26 BK258.out 3).trans rfl; have hfz6_0 := kz26 BK258.out 0; have hfz6_1 := kz26 BK258.out 1; have hfz6_2 := kz26 BK258.out 2; have hfz6_3 := kz26 BK258.out 3) | ((with_reducible refine gate_callee (f:=25) rfl ?_); refine goesL_ (some 7) rfl rfl Try.func25 (by kernel_rfl) rfl #[.agg #[.slice A0_0 l0_0.length c0_0, .slice A0_1 l0_1.length c0_1, .slice A0_2 l0_2.length c0_2, .slice A0_3 l0_3.length c0_3], .int .i64 a1] rfl (by (try simp only [ma26, mc26, mn26]); first | done | rfl | (simp only [ld26, lt_26]; rfl)) ?_; (with_reducible refine (watershedref06_Votes.calls k _ _ l0_0 _ _ l0_1 _ _ l0_2 _ _ l0_3 a1 true _ ?side1 ?side2 ?side3 ?side4 ?side5 ?side6 ?side7 ?side8 A3.out).mono ?_); (case side1 => repeat (first | exact (Kd.C_below HR0_0.out HB.out) | (with_reducible refine Kd.C_alloc ?_ _) | (with_reducible refine Kd.C_drewN ?_ _) | (with_reducible refine Kd.C_drew ?_))); (case side2 => exact HC0_0.out); (case side3 => repeat (first | exact (Kd.C_below HR0_1.out HB.out) | (with_reducible refine Kd.C_alloc ?_ _) | (with_reducible refine Kd.C_drewN ?_ _) | (with_reducible refine Kd.C_drew ?_))); (case side4 => exact HC0_1.out); (case side5 => repeat (first | exact (Kd.C_below HR0_2.out HB.out) | (with_reducible refine Kd.C_alloc ?_ _) | (with_reducible refine Kd.C_drewN ?_ _) | (with_reducible refine Kd.C_drew ?_))); (case side6 => exact HC0_2.out); (case side7 => repeat (first | exact (Kd.C_below HR0_3.out HB.out) | (with_reducible refine Kd.C_alloc ?_ _) | (with_reducible refine Kd.C_drewN ?_ _) | (with_reducible refine Kd.C_drew ?_))); (case side8 => exact HC0_3.out); rintro e w7 ⟨rfl, hb⟩; refine ⟨_, rfl, ?_⟩; replace BK258 := Am26 (kb26 (g:=gb258) (o:=.cells #[.slice A0_0 l0_0.length c0_0, .slice A0_1 l0_1.length c0_1, .slice A0_2 l0_2.length c0_2, .slice A0_3 l0_3.length c0_3] 24 (0, 0)) (by (with_reducible repeat first | apply kn26 | apply kd26 | apply ka26); exact BK258.out) hb); replace HB := Am26 (bp26 (by repeat (first | (with_reducible first | exact HB.out | apply ba26 | apply bn26 | apply bd26 | refine bs26 ?_ GE258.out) | exact HB.out)) hb); (try clear hb); (try clear hb2); (try clear hk); (try clear hi)))
  go_ret
  exact ⟨by first | rfl | (simp [errW_none, errW_some] <;> rfl) | (simp [*, errW_none, errW_some] <;> rfl), by repeat (first | (with_reducible first | exact HB.out | apply ba26 | apply bn26 | apply bd26 | refine bs26 ?_ GE258.out) | exact HB.out)⟩
 ·replace c4 := Bool.eq_false_iff.mpr c4
  subst c4
  rw [if_neg (show ¬ (false = true) by decide)] at H
  replace H := Option.bind_eq_some_iff.mp H
  obtain ⟨t260, A80, H⟩ := H
  try dsimp only at H
  have A8 := Am26 A80
  clear A80
  obtain rfl := Option.some.inj H
  go_enter Try.func26, Try.ntmps26
  go_wp2_with (first | ((with_reducible refine gate_dst (N:=2) rfl ?_); refine box_event ?hg (N:=2) ?hd (cs:=#[.slice A0_0 l0_0.length c0_0, .slice A0_1 l0_1.length c0_1, .slice A0_2 l0_2.length c0_2, .slice A0_3 l0_3.length c0_3]) (t:=24) ?hr ?_; (case hd => rfl); (case hg => rfl); (case hr => first | (go_simp; done) | (go_simp; rfl)); intro gb258 hg w9 hbox hb; have BK258 := Am26 (hbox); have GW258 := Am26 ((by rw [hg]; exact (bz26 (by repeat (first | (with_reducible first | exact HB.out | apply ba26 | apply bn26 | apply bd26) | exact HB.out))) : w.heap.size ≤ gb258)); have GE258 := Am26 ((by rw [hg]; exact (bz26 (by repeat (first | (with_reducible first | exact HB.out | apply ba26 | apply bn26 | apply bd26) | exact HB.out))) : w.heap.size ≤ gb258)); replace HB := Am26 (bp26 (by repeat (first | (with_reducible first | exact HB.out | apply ba26 | apply bn26 | apply bd26) | exact HB.out)) hb); clear hb hbox hg; have hcz10_0 : w9.cell? ⟨gb258, 0, none⟩ = some (.slice A0_0 l0_0.length c0_0) := (kc26 BK258.out 0).trans rfl; have hcz10_1 : w9.cell? ⟨gb258, 1, none⟩ = some (.slice A0_1 l0_1.length c0_1) := (kc26 BK258.out 1).trans rfl; have hcz10_2 : w9.cell? ⟨gb258, 2, none⟩ = some (.slice A0_2 l0_2.length c0_2) := (kc26 BK258.out 2).trans rfl; have hcz10_3 : w9.cell? ⟨gb258, 3, none⟩ = some (.slice A0_3 l0_3.length c0_3) := (kc26 BK258.out 3).trans rfl; have hfz10_0 := kz26 BK258.out 0; have hfz10_1 := kz26 BK258.out 1; have hfz10_2 := kz26 BK258.out 2; have hfz10_3 := kz26 BK258.out 3) | ((with_reducible refine gate_callee (f:=25) rfl ?_); refine goesL_ (some 7) rfl rfl Try.func25 (by kernel_rfl) rfl #[.agg #[.slice A0_0 l0_0.length c0_0, .slice A0_1 l0_1.length c0_1, .slice A0_2 l0_2.length c0_2, .slice A0_3 l0_3.length c0_3], .int .i64 a1] rfl (by (try simp only [ma26, mc26, mn26]); first | done | rfl | (simp only [ld26, lt_26]; rfl)) ?_; (with_reducible refine (watershedref06_Votes.calls k _ _ l0_0 _ _ l0_1 _ _ l0_2 _ _ l0_3 a1 false _ ?side1 ?side2 ?side3 ?side4 ?side5 ?side6 ?side7 ?side8 A3.out).mono ?_); (case side1 => repeat (first | exact (Kd.C_below HR0_0.out HB.out) | (with_reducible refine Kd.C_alloc ?_ _) | (with_reducible refine Kd.C_drewN ?_ _) | (with_reducible refine Kd.C_drew ?_))); (case side2 => exact HC0_0.out); (case side3 => repeat (first | exact (Kd.C_below HR0_1.out HB.out) | (with_reducible refine Kd.C_alloc ?_ _) | (with_reducible refine Kd.C_drewN ?_ _) | (with_reducible refine Kd.C_drew ?_))); (case side4 => exact HC0_1.out); (case side5 => repeat (first | exact (Kd.C_below HR0_2.out HB.out) | (with_reducible refine Kd.C_alloc ?_ _) | (with_reducible refine Kd.C_drewN ?_ _) | (with_reducible refine Kd.C_drew ?_))); (case side6 => exact HC0_2.out); (case side7 => repeat (first | exact (Kd.C_below HR0_3.out HB.out) | (with_reducible refine Kd.C_alloc ?_ _) | (with_reducible refine Kd.C_drewN ?_ _) | (with_reducible refine Kd.C_drew ?_))); (case side8 => exact HC0_3.out); rintro e w11 ⟨rfl, hb⟩; refine ⟨_, rfl, ?_⟩; replace BK258 := Am26 (kb26 (g:=gb258) (o:=.cells #[.slice A0_0 l0_0.length c0_0, .slice A0_1 l0_1.length c0_1, .slice A0_2 l0_2.length c0_2, .slice A0_3 l0_3.length c0_3] 24 (0, 0)) (by (with_reducible repeat first | apply kn26 | apply kd26 | apply ka26); exact BK258.out) hb); replace HB := Am26 (bp26 (by repeat (first | (with_reducible first | exact HB.out | apply ba26 | apply bn26 | apply bd26 | refine bs26 ?_ GE258.out) | exact HB.out)) hb); (try clear hb); (try clear hb2); (try clear hk); (try clear hi); have hcz12_0 : w11.cell? ⟨gb258, 0, none⟩ = some (.slice A0_0 l0_0.length c0_0) := (kc26 BK258.out 0).trans rfl; have hcz12_1 : w11.cell? ⟨gb258, 1, none⟩ = some (.slice A0_1 l0_1.length c0_1) := (kc26 BK258.out 1).trans rfl; have hcz12_2 : w11.cell? ⟨gb258, 2, none⟩ = some (.slice A0_2 l0_2.length c0_2) := (kc26 BK258.out 2).trans rfl; have hcz12_3 : w11.cell? ⟨gb258, 3, none⟩ = some (.slice A0_3 l0_3.length c0_3) := (kc26 BK258.out 3).trans rfl; have hfz12_0 := kz26 BK258.out 0; have hfz12_1 := kz26 BK258.out 1; have hfz12_2 := kz26 BK258.out 2; have hfz12_3 := kz26 BK258.out 3) | (go_at_call 46; (with_reducible refine (watershedref06_in.calls k _ _ l0_2 a1 t260 _ ?side1 ?side2 A8.out).mono ?_); (case side1 => repeat (first | exact (Kd.C_below HR0_2.out HB.out) | (with_reducible refine Kd.C_alloc ?_ _) | (with_reducible refine Kd.C_drewN ?_ _) | (with_reducible refine Kd.C_drew ?_))); (case side2 => exact HC0_2.out); rintro e w' ⟨rfl, ⟨nd, rfl⟩⟩))
  go_ret
  exact ⟨by first | rfl | (simp [errW_none, errW_some] <;> rfl) | (simp [*, errW_none, errW_some] <;> rfl), by repeat (first | (with_reducible first | exact HB.out | apply ba26 | apply bn26 | apply bd26 | refine bs26 ?_ GE258.out) | exact HB.out)⟩

/-! ### quorum_Nodes: function 27 -/
-- GIVEN
def quorum_Nodes.f (l0_0 l0_1 l0_2 l0_3 : List Int) : Option (List Int) := some l0_0

end Go.Proofs.Ytkilmclncpmjnaa.P06t
