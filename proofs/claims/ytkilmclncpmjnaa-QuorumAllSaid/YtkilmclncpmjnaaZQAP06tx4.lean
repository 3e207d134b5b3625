-- Written by gprint.py, a program of this session, over the kit's print; the functions of my own contracts are marked GIVEN
import Derived.Test.YtkilmclncpmjnaaZQAP06tx0
import Derived.Test.YtkilmclncpmjnaaZQAP06tx1
import Derived.Test.YtkilmclncpmjnaaZQAP06tx2
namespace Go.Proofs.Ytkilmclncpmjnaa.P06t
open Go.RowKit Go.Proofs.YtkilmclncpmjnaaW.PrintWords Go.Proofs.YtkilmclncpmjnaaW.PrintLast Go.Proofs.YtkilmclncpmjnaaW.PrintMore
attribute [local go_sem] max2_int min2_int max_two min_two max_three min_three max_four min_four   -- for this text's walks alone
set_option linter.unusedVariables false
set_option linter.unusedSimpArgs false

abbrev bb12 (n m : Nat) : Array Bool := ((List.range n).map fun i => m.testBit i).toArray
theorem Am12 : type_of% @Aside0.mk := @Aside0.mk
theorem Ra12 : type_of% @Kd.R_alloc := @Kd.R_alloc
theorem Rn12 : type_of% @Kd.R_drewN := @Kd.R_drewN
theorem Rd12 : type_of% @Kd.R_drew := @Kd.R_drew
theorem Rf12 : type_of% @Kd.R_far := @Kd.R_far
theorem Ro12 : type_of% @Kd.R_mono := @Kd.R_mono
theorem Ry12 : type_of% @Kd.R_types := @Kd.R_types
theorem ba12 : type_of% @below_alloc := @below_alloc
theorem bn12 : type_of% @pw_below_drewN := @pw_below_drewN
theorem bd12 : type_of% @below_drew1 := @below_drew1
theorem bs12 : type_of% @below_set := @below_set
theorem kn12 : type_of% @blk_drewN := @blk_drewN
theorem kd12 : type_of% @blk_drew := @blk_drew
theorem ka12 : type_of% @blk_alloc := @blk_alloc
theorem kf12 : type_of% @blk_far := @blk_far
theorem kb12 : type_of% @blk_below := @blk_below
theorem Re12 : type_of% @Kd.R_elder' := @Kd.R_elder'
theorem Rw12 : type_of% @Kd.R_new' := @Kd.R_new'
theorem Rl12 : type_of% @Kd.R_lower := @Kd.R_lower
theorem Ra_12 : type_of% @Kd.R_base := @Kd.R_base
theorem Rt12 : type_of% @Kd.R_lt := @Kd.R_lt
theorem bz12 : type_of% @below_size := @below_size
theorem bp12 : type_of% @below_step := @below_step
theorem kc12 : type_of% @blk_cell := @blk_cell
theorem kz12 : type_of% @blk_frozen := @blk_frozen
theorem sa12 : type_of% @List.setIfInBounds_toArray := @List.setIfInBounds_toArray
theorem sz12 : type_of% @List.set_cons_zero := @List.set_cons_zero
theorem ss12 : type_of% @List.set_cons_succ := @List.set_cons_succ
theorem ma12 : type_of% @List.map_toArray := @List.map_toArray
theorem mc12 : type_of% @List.map_cons := @List.map_cons
theorem mn12 : type_of% @List.map_nil := @List.map_nil
theorem ld12 : type_of% @List.length_drop := @List.length_drop
theorem lt_12 : type_of% @List.length_take := @List.length_take
/-! ### quorum_Begin: function 12 -/
def quorum_Begin.j0 : Nat → List Int → Bool → List Int → List Int → List Int → List Int → Option (List Int × List Int × List Int × List Int × Int)
 | 0, _, _, _, _, _, _ => none
 | k + 1, x1, x9, x148000, x148001, x148002, x148003 => if x9 = true then (some (([] : List Int), ([] : List Int), ([] : List Int), ([] : List Int), 2)) else ((quorum_group_changes.f x148000 x148001 x148002 x148003).bind fun t153 => (if t153 = true then (some (([] : List Int), ([] : List Int), ([] : List Int), ([] : List Int), 25)) else ((slices_Equal_int_int.f k x1 x148000).bind fun t154 => (if t154 = true then (some (([] : List Int), ([] : List Int), ([] : List Int), ([] : List Int), 7)) else ((slices_Clone_int_int.f x148000).bind fun t155 => ((quorum_without.f k x1 x148000).bind fun t158 => ((slices_Clone_int_int.f x1).bind fun t161 => (some (t155, ([] : List Int), t158, t161, 0)))))))))
def quorum_Begin.f (k : Nat) (l0_0 : List Int) (l0_1 : List Int) (l0_2 : List Int) (l0_3 : List Int) (l1 : List Int) : Option (List Int × List Int × List Int × List Int × Int) := (quorum_group_right.f k l0_0 l0_1 l0_2 l0_3).bind fun t148 => (if t148 = true then (if (l0_0.length : Int) = 0 then (quorum_Begin.j0 k l1 ((l0_0.length : Int) == 0) l0_0 l0_1 l0_2 l0_3) else ((quorum_rise.f k (([l1] : List (List Int)))).bind fun t152 => (if t152 = true then (quorum_Begin.j0 k l1 ((l1.length : Int) == 0) l0_0 l0_1 l0_2 l0_3) else (quorum_Begin.j0 k l1 (!t152) l0_0 l0_1 l0_2 l0_3)))) else (quorum_Begin.j0 k l1 (!t148) l0_0 l0_1 l0_2 l0_3))
theorem quorum_Begin.mono_l : ∀ k, (∀ y0 y1 y2 y3 y4 y5, LeO (quorum_Begin.j0 k y0 y1 y2 y3 y4 y5) (quorum_Begin.j0 (k + 1) y0 y1 y2 y3 y4 y5))
 | 0 => fun _ _ _ _ _ _ r h => by simp [quorum_Begin.j0] at h
 | k + 1 => by
  have ih0 := quorum_Begin.mono_l k
  ·intro y0 y1 y2 y3 y4 y5
   unfold quorum_Begin.j0
   repeat' first
   | (with_reducible exact ih0 _ _ _ _ _ _)
   | (with_reducible exact quorum_group_right.mono _ _ _ _ _)
   | (with_reducible exact quorum_rise.mono _ _)
   | (with_reducible exact quorum_without.mono _ _ _)
   | (with_reducible exact slices_Equal_int_int.mono _ _ _)
   | (with_reducible exact LeO.refl _)
   | (with_reducible exact LeO.none _)
   | (with_reducible refine LeO.ite ?_ ?_)
   | (with_reducible refine LeO.bind ?_ (fun _ => ?_))
   | exact ih0 _ _ _ _ _ _
   | exact quorum_group_right.mono _ _ _ _ _
   | exact quorum_rise.mono _ _
   | exact quorum_without.mono _ _ _
   | exact slices_Equal_int_int.mono _ _ _
   | exact LeO.none _
   | refine LeO.ite ?_ ?_
   | refine LeO.bind ?_ (fun _ => ?_)
theorem quorum_Begin.mono : ∀ a0 a1 a2 a3 a4 k, LeO (quorum_Begin.f k a0 a1 a2 a3 a4) (quorum_Begin.f (k + 1) a0 a1 a2 a3 a4) := by
 intro a0 a1 a2 a3 a4 k
 have ih0 := quorum_Begin.mono_l k
 unfold quorum_Begin.f
 repeat' first
   | (with_reducible exact ih0 _ _ _ _ _ _)
   | (with_reducible exact quorum_group_right.mono _ _ _ _ _)
   | (with_reducible exact quorum_rise.mono _ _)
   | (with_reducible exact quorum_without.mono _ _ _)
   | (with_reducible exact slices_Equal_int_int.mono _ _ _)
   | (with_reducible exact LeO.refl _)
   | (with_reducible exact LeO.none _)
   | (with_reducible refine LeO.ite ?_ ?_)
   | (with_reducible refine LeO.bind ?_ (fun _ => ?_))
   | exact ih0 _ _ _ _ _ _
   | exact quorum_group_right.mono _ _ _ _ _
   | exact quorum_rise.mono _ _
   | exact quorum_without.mono _ _ _
   | exact slices_Equal_int_int.mono _ _ _
   | exact LeO.none _
   | refine LeO.ite ?_ ?_
   | refine LeO.bind ?_ (fun _ => ?_)
def quorum_Begin.T11 : Bool × List (List Nat × List Nat) := (true, [([], []), ([0], [0]), ([1], [1]), ([2], [2]), ([], []), ([], []), ([5], [5]), ([6], [6]), ([4, 7, 3], [4, 7]), ([], []), ([9, 8], [9]), ([3, 8, 10], [3, 8, 10]), ([11, 10, 0, 1, 2, 3, 4, 5, 6, 7, 8, 9, 10, 11], [11]), ([12, 0, 1, 2, 3, 4, 5, 6, 7, 8, 9, 10, 11, 12], [])])
def quorum_Begin.B11 : List Nat := [0, 1, 3, 7, 0, 0, 32, 96, 255, 0, 1023, 2047, 4095, 8191]
theorem quorum_Begin.tab11 : rtab .any (opsOf Try.f12 11) = quorum_Begin.T11 := by kernel_rfl
theorem quorum_Begin.bits11 : waitsOk quorum_Begin.T11.2 quorum_Begin.B11 = true := by kernel_rfl
set_option maxHeartbeats 8000000 in
set_option maxRecDepth 100000 in
theorem quorum_Begin.calls (k : Nat) (A0_0 : Option Addr) (c0_0 : Nat) (l0_0 : List Int) (A0_1 : Option Addr) (c0_1 : Nat) (l0_1 : List Int) (A0_2 : Option Addr) (c0_2 : Nat) (l0_2 : List Int) (A0_3 : Option Addr) (c0_3 : Nat) (l0_3 : List Int) (P1_ : Nat → Prop) (A1 : Option Addr) (c1 : Nat) (l1 : List Int) (r1 : List Int) (r2 : List Int) (r3 : List Int) (r4 : List Int) (r5 : Int) (w : World) (hr0_0 : Kd.C (Kd.int .i64) w A0_0 l0_0.length l0_0) (hc0_0 : l0_0.length ≤ c0_0) (hr0_1 : Kd.C (Kd.int .i64) w A0_1 l0_1.length l0_1) (hc0_1 : l0_1.length ≤ c0_1) (hr0_2 : Kd.C (Kd.int .i64) w A0_2 l0_2.length l0_2) (hc0_2 : l0_2.length ≤ c0_2) (hr0_3 : Kd.C (Kd.int .i64) w A0_3 l0_3.length l0_3) (hc0_3 : l0_3.length ≤ c0_3) (hs1 : Kd.V (Kd.int .i64) 3 w w.heap.size (fun k_ => P1_ k_) (.slice A1 l1.length c1) l1) (h : quorum_Begin.f k l0_0 l0_1 l0_2 l0_3 l1 = some (r1, r2, r3, r4, r5)) :
  Calls Try.prog 12 #[.agg #[.slice A0_0 l0_0.length c0_0, .slice A0_1 l0_1.length c0_1, .slice A0_2 l0_2.length c0_2, .slice A0_3 l0_3.length c0_3], .slice A1 l1.length c1] w fun e w' => ∃ v0_ v1_ v2_ v3_ : Value, e = .returned (.tuple #[.agg #[v0_, v1_, v2_, v3_], .int .i64 r5]) ∧ Kd.R (Kd.int .i64) 3 w' w.heap.size (fun k_ => (w.heap.size ≤ k_) ∧ some k_ ≠ (v1_ : Value).ownBlock ∧ some k_ ≠ (v2_ : Value).ownBlock ∧ some k_ ≠ (v3_ : Value).ownBlock) v0_ r1 ∧ Kd.R (Kd.int .i64) 3 w' w.heap.size (fun k_ => (w.heap.size ≤ k_) ∧ some k_ ≠ (v0_ : Value).ownBlock ∧ some k_ ≠ (v2_ : Value).ownBlock ∧ some k_ ≠ (v3_ : Value).ownBlock) v1_ r2 ∧ Kd.R (Kd.int .i64) 3 w' w.heap.size (fun k_ => (w.heap.size ≤ k_) ∧ some k_ ≠ (v0_ : Value).ownBlock ∧ some k_ ≠ (v1_ : Value).ownBlock ∧ some k_ ≠ (v3_ : Value).ownBlock) v2_ r3 ∧ Kd.R (Kd.int .i64) 3 w' w.heap.size (fun k_ => (w.heap.size ≤ k_) ∧ some k_ ≠ (v0_ : Value).ownBlock ∧ some k_ ≠ (v1_ : Value).ownBlock ∧ some k_ ≠ (v2_ : Value).ownBlock) v3_ r4 ∧ Below w.heap.size w w' := by
 have hu24 := Try.underlying24
 have hu48 := Try.underlying48
 have HR0_0 := Am12 hr0_0
 have HC0_0 := Am12 hc0_0
 clear hr0_0 hc0_0
 have HR0_1 := Am12 hr0_1
 have HC0_1 := Am12 hc0_1
 clear hr0_1 hc0_1
 have HR0_2 := Am12 hr0_2
 have HC0_2 := Am12 hc0_2
 clear hr0_2 hc0_2
 have HR0_3 := Am12 hr0_3
 have HC0_3 := Am12 hc0_3
 clear hr0_3 hc0_3
 have HO1 := Am12 (show Kd.V (Kd.int .i64) 3 w w.heap.size (fun k_ => (P1_ k_ ∨ w.heap.size ≤ k_)) (.slice A1 l1.length c1) l1 from Kd.V_mono hs1 (fun k_ hk => .inl hk))
 have HB := Am12 (Below.refl w.heap.size w)
 have H : ((quorum_group_right.f k l0_0 l0_1 l0_2 l0_3).bind fun t148 => (if t148 = true then (if (l0_0.length : Int) = 0 then (quorum_Begin.j0 k l1 ((l0_0.length : Int) == 0) l0_0 l0_1 l0_2 l0_3) else ((quorum_rise.f k (([l1] : List (List Int)))).bind fun t152 => (if t152 = true then (quorum_Begin.j0 k l1 ((l1.length : Int) == 0) l0_0 l0_1 l0_2 l0_3) else (quorum_Begin.j0 k l1 (!t152) l0_0 l0_1 l0_2 l0_3)))) else (quorum_Begin.j0 k l1 (!t148) l0_0 l0_1 l0_2 l0_3))) = some (r1, r2, r3, r4, r5) := h
 clear h
 replace H := Option.bind_eq_some_iff.mp H
 obtain ⟨t148, A30, H⟩ := H
 try dsimp only at H
 have A3 := Am12 A30
 clear A30
 have HC4 := Am12 H
 clear H
 go_enter Try.func12, Try.ntmps12
 go_upto_if 9 with (first | ((with_reducible refine gate_dst (N:=2) rfl ?_); refine box_event ?hg (N:=2) ?hd (cs:=#[.slice A0_0 l0_0.length c0_0, .slice A0_1 l0_1.length c0_1, .slice A0_2 l0_2.length c0_2, .slice A0_3 l0_3.length c0_3]) (t:=24) ?hr ?_; (case hd => rfl); (case hg => rfl); (case hr => first | (go_simp; done) | (go_simp; rfl)); intro gb145 hg w5 hbox hb; replace HO1 := Am12 (Kd.V_below (Kd.V_elderB (by (with_reducible repeat (first | apply Kd.V_alloc | apply Kd.V_drewN | apply Kd.V_drew)); exact HO1.out) gb145 (Nat.le_of_eq hg.symm)) hb); have BK145 := Am12 (hbox); have GW145 := Am12 ((by rw [hg]; exact (bz12 (by repeat (first | (with_reducible first | exact HB.out | apply ba12 | apply bn12 | apply bd12) | exact HB.out))) : w.heap.size ≤ gb145)); have GE145 := Am12 ((by rw [hg]; exact (bz12 (by repeat (first | (with_reducible first | exact HB.out | apply ba12 | apply bn12 | apply bd12) | exact HB.out))) : w.heap.size ≤ gb145)); replace HB := Am12 (bp12 (by repeat (first | (with_reducible first | exact HB.out | apply ba12 | apply bn12 | apply bd12) | exact HB.out)) hb); clear hb hbox hg) | ((with_reducible refine gate_dst (N:=4) rfl ?_); refine box_event ?hg (N:=4) ?hd (cs:=#[.slice none 0 0, .slice none 0 0, .slice none 0 0, .slice none 0 0]) (t:=24) ?hr ?_; (case hd => rfl); (case hg => rfl); (case hr => first | (go_simp; done) | (go_simp; rfl)); intro gb146 hg w6 hbox hb; replace HO1 := Am12 (Kd.V_below (Kd.V_elderB (by (with_reducible repeat (first | apply Kd.V_alloc | apply Kd.V_drewN | apply Kd.V_drew)); exact HO1.out) gb146 (Nat.le_of_eq hg.symm)) hb); have BK146 := Am12 (hbox); have GW146 := Am12 ((by rw [hg]; exact (bz12 (by repeat (first | (with_reducible first | exact HB.out | apply ba12 | apply bn12 | apply bd12 | refine bs12 ?_ GE145.out) | exact HB.out))) : w.heap.size ≤ gb146)); have GE146 := Am12 ((by rw [hg]; exact (bz12 (by repeat (first | (with_reducible first | exact HB.out | apply ba12 | apply bn12 | apply bd12 | refine bs12 ?_ GE145.out) | exact HB.out))) : w.heap.size ≤ gb146)); replace HB := Am12 (bp12 (by repeat (first | (with_reducible first | exact HB.out | apply ba12 | apply bn12 | apply bd12 | refine bs12 ?_ GE145.out) | exact HB.out)) hb); have NB145_146 := Am12 ((by rw [hg]; exact Nat.ne_of_lt (blk_lt (g:=gb145) (o:=.cells #[.slice A0_0 l0_0.length c0_0, .slice A0_1 l0_1.length c0_1, .slice A0_2 l0_2.length c0_2, .slice A0_3 l0_3.length c0_3] 24 (0, 0)) (by (with_reducible repeat first | apply kn12 | apply kd12 | apply ka12); exact BK145.out)) : gb145 ≠ gb146)); have NB146_145 := Am12 ((by rw [hg]; exact Nat.ne_of_gt (blk_lt (g:=gb145) (o:=.cells #[.slice A0_0 l0_0.length c0_0, .slice A0_1 l0_1.length c0_1, .slice A0_2 l0_2.length c0_2, .slice A0_3 l0_3.length c0_3] 24 (0, 0)) (by (with_reducible repeat first | apply kn12 | apply kd12 | apply ka12); exact BK145.out)) : gb146 ≠ gb145)); replace BK145 := Am12 (kb12 (g:=gb145) (o:=.cells #[.slice A0_0 l0_0.length c0_0, .slice A0_1 l0_1.length c0_1, .slice A0_2 l0_2.length c0_2, .slice A0_3 l0_3.length c0_3] 24 (0, 0)) (by (with_reducible repeat first | apply kn12 | apply kd12 | apply ka12); exact BK145.out) hb); clear hb hbox hg; have hnb7 := NB145_146.out; have hnc7 := NB146_145.out; have hcz8_0 : w6.cell? ⟨gb145, 0, none⟩ = some (.slice A0_0 l0_0.length c0_0) := (kc12 BK145.out 0).trans rfl; have hcz8_1 : w6.cell? ⟨gb145, 1, none⟩ = some (.slice A0_1 l0_1.length c0_1) := (kc12 BK145.out 1).trans rfl; have hcz8_2 : w6.cell? ⟨gb145, 2, none⟩ = some (.slice A0_2 l0_2.length c0_2) := (kc12 BK145.out 2).trans rfl; have hcz8_3 : w6.cell? ⟨gb145, 3, none⟩ = some (.slice A0_3 l0_3.length c0_3) := (kc12 BK145.out 3).trans rfl; have hfz8_0 := kz12 BK145.out 0; have hfz8_1 := kz12 BK145.out 1; have hfz8_2 := kz12 BK145.out 2; have hfz8_3 := kz12 BK145.out 3) | ((with_reducible refine gate_dst (N:=6) rfl ?_); refine box_event ?hg (N:=6) ?hd (cs:=#[.slice none 0 0, .slice none 0 0, .slice none 0 0, .slice none 0 0]) (t:=48) ?hr ?_; (case hd => rfl); (case hg => rfl); (case hr => first | (go_simp; done) | (go_simp; rfl)); intro gb147 hg w9 hbox hb; replace HO1 := Am12 (Kd.V_below (Kd.V_elderB (by (with_reducible repeat (first | apply Kd.V_alloc | apply Kd.V_drewN | apply Kd.V_drew)); exact HO1.out) gb147 (Nat.le_of_eq hg.symm)) hb); have BK147 := Am12 (hbox); have GW147 := Am12 ((by rw [hg]; exact (bz12 (by repeat (first | (with_reducible first | exact HB.out | apply ba12 | apply bn12 | apply bd12 | refine bs12 ?_ GE145.out | refine bs12 ?_ GE146.out) | exact HB.out))) : w.heap.size ≤ gb147)); have GE147 := Am12 ((by rw [hg]; exact (bz12 (by repeat (first | (with_reducible first | exact HB.out | apply ba12 | apply bn12 | apply bd12 | refine bs12 ?_ GE145.out | refine bs12 ?_ GE146.out) | exact HB.out))) : w.heap.size ≤ gb147)); replace HB := Am12 (bp12 (by repeat (first | (with_reducible first | exact HB.out | apply ba12 | apply bn12 | apply bd12 | refine bs12 ?_ GE145.out | refine bs12 ?_ GE146.out) | exact HB.out)) hb); have NB145_147 := Am12 ((by rw [hg]; exact Nat.ne_of_lt (blk_lt (g:=gb145) (o:=.cells #[.slice A0_0 l0_0.length c0_0, .slice A0_1 l0_1.length c0_1, .slice A0_2 l0_2.length c0_2, .slice A0_3 l0_3.length c0_3] 24 (0, 0)) (by (with_reducible repeat first | apply kn12 | apply kd12 | apply ka12); exact BK145.out)) : gb145 ≠ gb147)); have NB147_145 := Am12 ((by rw [hg]; exact Nat.ne_of_gt (blk_lt (g:=gb145) (o:=.cells #[.slice A0_0 l0_0.length c0_0, .slice A0_1 l0_1.length c0_1, .slice A0_2 l0_2.length c0_2, .slice A0_3 l0_3.length c0_3] 24 (0, 0)) (by (with_reducible repeat first | apply kn12 | apply kd12 | apply ka12); exact BK145.out)) : gb147 ≠ gb145)); replace BK145 := Am12 (kb12 (g:=gb145) (o:=.cells #[.slice A0_0 l0_0.length c0_0, .slice A0_1 l0_1.length c0_1, .slice A0_2 l0_2.length c0_2, .slice A0_3 l0_3.length c0_3] 24 (0, 0)) (by (with_reducible repeat first | apply kn12 | apply kd12 | apply ka12); exact BK145.out) hb); have NB146_147 := Am12 ((by rw [hg]; exact Nat.ne_of_lt (blk_lt (g:=gb146) (o:=.cells #[.slice none 0 0, .slice none 0 0, .slice none 0 0, .slice none 0 0] 24 (0, 0)) (by (with_reducible repeat first | apply kn12 | apply kd12 | apply ka12); exact BK146.out)) : gb146 ≠ gb147)); have NB147_146 := Am12 ((by rw [hg]; exact Nat.ne_of_gt (blk_lt (g:=gb146) (o:=.cells #[.slice none 0 0, .slice none 0 0, .slice none 0 0, .slice none 0 0] 24 (0, 0)) (by (with_reducible repeat first | apply kn12 | apply kd12 | apply ka12); exact BK146.out)) : gb147 ≠ gb146)); replace BK146 := Am12 (kb12 (g:=gb146) (o:=.cells #[.slice none 0 0, .slice none 0 0, .slice none 0 0, .slice none 0 0] 24 (0, 0)) (by (with_reducible repeat first | apply kn12 | apply kd12 | apply ka12); exact BK146.out) hb); clear hb hbox hg; have hnb10 := NB147_145.out; have hnc10 := NB145_147.out; have hnb11 := NB147_146.out; have hnc11 := NB146_147.out; have hcz12_0 : w9.cell? ⟨gb147, 0, none⟩ = some (.slice none 0 0) := (kc12 BK147.out 0).trans rfl; have hcz12_1 : w9.cell? ⟨gb147, 1, none⟩ = some (.slice none 0 0) := (kc12 BK147.out 1).trans rfl; have hcz12_2 : w9.cell? ⟨gb147, 2, none⟩ = some (.slice none 0 0) := (kc12 BK147.out 2).trans rfl; have hcz12_3 : w9.cell? ⟨gb147, 3, none⟩ = some (.slice none 0 0) := (kc12 BK147.out 3).trans rfl; have hfz12_0 := kz12 BK147.out 0; have hfz12_1 := kz12 BK147.out 1; have hfz12_2 := kz12 BK147.out 2; have hfz12_3 := kz12 BK147.out 3) | ((with_reducible refine gate_store (t:=48) (p:=6) rfl ?_); refine store_event (t:=48) (p:=6) (v:=?vo_w13) (w1:=((((w9.setCell ⟨gb147, 0, none⟩ (.slice A0_0 l0_0.length c0_0)).setCell ⟨gb147, 1, none⟩ (.slice A0_1 l0_1.length c0_1)).setCell ⟨gb147, 2, none⟩ (.slice A0_2 l0_2.length c0_2)).setCell ⟨gb147, 3, none⟩ (.slice A0_3 l0_3.length c0_3))) ?hg ?ho ?hn ?hr ?_; (case ho => rfl); (case hg => rfl); (case hn => rfl); (case hr => first | (go_simp; done) | (go_simp; rfl)); intro w13 hw; have n0_ : Aside0 (Kd.V (Kd.int .i64) 3 w13 w.heap.size (fun k_ => (P1_ k_ ∨ w.heap.size ≤ k_) ∧ k_ ≠ gb145 ∧ k_ ≠ gb146 ∧ k_ ≠ gb147) (.slice A1 l1.length c1) l1) := ⟨(by rw [hw]; exact (by (with_reducible repeat (first | apply Kd.V_alloc | apply Kd.V_drewN | apply Kd.V_drew)); exact Kd.V_mono (Kd.V_far (p:=⟨gb147, 3, none⟩) (Kd.V_far (p:=⟨gb147, 2, none⟩) (Kd.V_far (p:=⟨gb147, 1, none⟩) (Kd.V_far (p:=⟨gb147, 0, none⟩) (Kd.V_mono HO1.out (fun k_ hk => (⟨hk, hk.2⟩ : _ ∧ k_ ≠ gb147))) (fun _ h=>h.2) (.slice A0_0 l0_0.length c0_0)) (fun _ h=>h.2) (.slice A0_1 l0_1.length c0_1)) (fun _ h=>h.2) (.slice A0_2 l0_2.length c0_2)) (fun _ h=>h.2) (.slice A0_3 l0_3.length c0_3)) (fun _ hk => ⟨hk.1.1.1.1, ⟨hk.1.1.1.2, ⟨hk.1.1.2, hk.1.2⟩⟩⟩)))⟩; have n1_ : Aside0 (w13.heap[gb145]? = some (.cells #[.slice A0_0 l0_0.length c0_0, .slice A0_1 l0_1.length c0_1, .slice A0_2 l0_2.length c0_2, .slice A0_3 l0_3.length c0_3] 24 (0, 0))) := ⟨(by rw [hw]; exact (by (with_reducible repeat first | apply kn12 | apply kd12 | apply ka12); refine kf12 ?_ NB145_147.out _; (with_reducible repeat first | apply kn12 | apply kd12 | apply ka12); refine kf12 ?_ NB145_147.out _; (with_reducible repeat first | apply kn12 | apply kd12 | apply ka12); refine kf12 ?_ NB145_147.out _; (with_reducible repeat first | apply kn12 | apply kd12 | apply ka12); refine kf12 ?_ NB145_147.out _; (with_reducible repeat first | apply kn12 | apply kd12 | apply ka12); exact BK145.out))⟩; have n2_ : Aside0 (w13.heap[gb146]? = some (.cells #[.slice none 0 0, .slice none 0 0, .slice none 0 0, .slice none 0 0] 24 (0, 0))) := ⟨(by rw [hw]; exact (by (with_reducible repeat first | apply kn12 | apply kd12 | apply ka12); refine kf12 ?_ NB146_147.out _; (with_reducible repeat first | apply kn12 | apply kd12 | apply ka12); refine kf12 ?_ NB146_147.out _; (with_reducible repeat first | apply kn12 | apply kd12 | apply ka12); refine kf12 ?_ NB146_147.out _; (with_reducible repeat first | apply kn12 | apply kd12 | apply ka12); refine kf12 ?_ NB146_147.out _; (with_reducible repeat first | apply kn12 | apply kd12 | apply ka12); exact BK146.out))⟩; have n3_ : Aside0 (w13.heap[gb147]? = some (.cells #[.slice A0_0 l0_0.length c0_0, .slice A0_1 l0_1.length c0_1, .slice A0_2 l0_2.length c0_2, .slice A0_3 l0_3.length c0_3] 48 (0, 0))) := ⟨(by rw [hw]; exact (by (with_reducible repeat first | apply kn12 | apply kd12 | apply ka12); refine blk_put (cs:=#[.slice A0_0 l0_0.length c0_0, .slice A0_1 l0_1.length c0_1, .slice A0_2 l0_2.length c0_2, .slice none 0 0]) ?_ 3 _ rfl; (with_reducible repeat first | apply kn12 | apply kd12 | apply ka12); refine blk_put (cs:=#[.slice A0_0 l0_0.length c0_0, .slice A0_1 l0_1.length c0_1, .slice none 0 0, .slice none 0 0]) ?_ 2 _ rfl; (with_reducible repeat first | apply kn12 | apply kd12 | apply ka12); refine blk_put (cs:=#[.slice A0_0 l0_0.length c0_0, .slice none 0 0, .slice none 0 0, .slice none 0 0]) ?_ 1 _ rfl; (with_reducible repeat first | apply kn12 | apply kd12 | apply ka12); refine blk_put (cs:=#[.slice none 0 0, .slice none 0 0, .slice none 0 0, .slice none 0 0]) ?_ 0 _ rfl; (with_reducible repeat first | apply kn12 | apply kd12 | apply ka12); exact BK147.out))⟩; have n4_ : Aside0 (Below w.heap.size w w13) := ⟨(by rw [hw]; exact (by repeat (first | (with_reducible first | exact HB.out | apply ba12 | apply bn12 | apply bd12 | refine bs12 ?_ GE145.out | refine bs12 ?_ GE146.out | refine bs12 ?_ GE147.out) | exact HB.out)))⟩; clear hw; clear HO1; clear BK145; clear BK146; clear BK147; clear HB; have HO1 := n0_; have BK145 := n1_; have BK146 := n2_; have BK147 := n3_; have HB := n4_; clear n0_ n1_ n2_ n3_ n4_; have hcz14_0 : w13.cell? ⟨gb147, 0, none⟩ = some (.slice A0_0 l0_0.length c0_0) := (kc12 BK147.out 0).trans rfl; have hcz14_1 : w13.cell? ⟨gb147, 1, none⟩ = some (.slice A0_1 l0_1.length c0_1) := (kc12 BK147.out 1).trans rfl; have hcz14_2 : w13.cell? ⟨gb147, 2, none⟩ = some (.slice A0_2 l0_2.length c0_2) := (kc12 BK147.out 2).trans rfl; have hcz14_3 : w13.cell? ⟨gb147, 3, none⟩ = some (.slice A0_3 l0_3.length c0_3) := (kc12 BK147.out 3).trans rfl; have hfz14_0 := kz12 BK147.out 0; have hfz14_1 := kz12 BK147.out 1; have hfz14_2 := kz12 BK147.out 2; have hfz14_3 := kz12 BK147.out 3) | ((with_reducible refine gate_callee (f:=33) rfl ?_); refine goesL_ (some 11) rfl rfl Try.func33 (by kernel_rfl) rfl #[.agg #[.slice A0_0 l0_0.length c0_0, .slice A0_1 l0_1.length c0_1, .slice A0_2 l0_2.length c0_2, .slice A0_3 l0_3.length c0_3]] rfl (by (try simp only [ma12, mc12, mn12]); first | done | rfl | (simp only [ld12, lt_12]; rfl)) ?_; (with_reducible refine (quorum_group_right.calls k (fun k_ => k_ < w.heap.size) _ _ l0_0 (fun k_ => k_ < w.heap.size) _ _ l0_1 (fun k_ => k_ < w.heap.size) _ _ l0_2 (fun k_ => k_ < w.heap.size) _ _ l0_3 t148 _ ?side1 ?side2 ?side3 ?side4 A3.out).mono ?_); (case side1 => exact Kd.V_mk HC0_0.out (Kd.F_below (Kd.C_F (Kd.heap_int .i64) HR0_0.out) (by repeat (first | (with_reducible first | exact HB.out | apply ba12 | apply bn12 | apply bd12 | refine bs12 ?_ GE145.out | refine bs12 ?_ GE146.out | refine bs12 ?_ GE147.out) | exact HB.out)))); (case side2 => exact Kd.V_mk HC0_1.out (Kd.F_below (Kd.C_F (Kd.heap_int .i64) HR0_1.out) (by repeat (first | (with_reducible first | exact HB.out | apply ba12 | apply bn12 | apply bd12 | refine bs12 ?_ GE145.out | refine bs12 ?_ GE146.out | refine bs12 ?_ GE147.out) | exact HB.out)))); (case side3 => exact Kd.V_mk HC0_2.out (Kd.F_below (Kd.C_F (Kd.heap_int .i64) HR0_2.out) (by repeat (first | (with_reducible first | exact HB.out | apply ba12 | apply bn12 | apply bd12 | refine bs12 ?_ GE145.out | refine bs12 ?_ GE146.out | refine bs12 ?_ GE147.out) | exact HB.out)))); (case side4 => exact Kd.V_mk HC0_3.out (Kd.F_below (Kd.C_F (Kd.heap_int .i64) HR0_3.out) (by repeat (first | (with_reducible first | exact HB.out | apply ba12 | apply bn12 | apply bd12 | refine bs12 ?_ GE145.out | refine bs12 ?_ GE146.out | refine bs12 ?_ GE147.out) | exact HB.out)))); rintro e w15 ⟨rfl, hb⟩; refine ⟨_, rfl, ?_⟩; replace HO1 := Am12 (Kd.V_below (by (with_reducible repeat (first | apply Kd.V_alloc | apply Kd.V_drewN | apply Kd.V_drew)); exact HO1.out) hb); replace BK145 := Am12 (kb12 (g:=gb145) (o:=.cells #[.slice A0_0 l0_0.length c0_0, .slice A0_1 l0_1.length c0_1, .slice A0_2 l0_2.length c0_2, .slice A0_3 l0_3.length c0_3] 24 (0, 0)) (by (with_reducible repeat first | apply kn12 | apply kd12 | apply ka12); exact BK145.out) hb); replace BK146 := Am12 (kb12 (g:=gb146) (o:=.cells #[.slice none 0 0, .slice none 0 0, .slice none 0 0, .slice none 0 0] 24 (0, 0)) (by (with_reducible repeat first | apply kn12 | apply kd12 | apply ka12); exact BK146.out) hb); replace BK147 := Am12 (kb12 (g:=gb147) (o:=.cells #[.slice A0_0 l0_0.length c0_0, .slice A0_1 l0_1.length c0_1, .slice A0_2 l0_2.length c0_2, .slice A0_3 l0_3.length c0_3] 48 (0, 0)) (by (with_reducible repeat first | apply kn12 | apply kd12 | apply ka12); exact BK147.out) hb); replace HB := Am12 (bp12 (by repeat (first | (with_reducible first | exact HB.out | apply ba12 | apply bn12 | apply bd12 | refine bs12 ?_ GE145.out | refine bs12 ?_ GE146.out | refine bs12 ?_ GE147.out) | exact HB.out)) hb); (try clear hb); (try clear hb2); (try clear hk); (try clear hi)))
 (try simp only [Act.put, sa12, sz12, ss12])
 go_cut [9] (fun v9 wc => ∃ (kq : Nat) (x9_3 : Bool), v9 = .bool x9_3 ∧ Aside0 (quorum_Begin.j0 kq l1 x9_3 l0_0 l0_1 l0_2 l0_3 = some (r1, r2, r3, r4, r5)) ∧ Aside0 (kq ≤ k) ∧ Aside0 (Kd.V (Kd.int .i64) 3 wc w.heap.size (fun k_ => (P1_ k_ ∨ w.heap.size ≤ k_) ∧ k_ ≠ gb145 ∧ k_ ≠ gb146 ∧ k_ ≠ gb147) (.slice A1 l1.length c1) l1) ∧ Aside0 (wc.heap[gb145]? = some (.cells #[(.slice A0_0 l0_0.length c0_0), (.slice A0_1 l0_1.length c0_1), (.slice A0_2 l0_2.length c0_2), (.slice A0_3 l0_3.length c0_3)] 24 (0, 0))) ∧ Aside0 (wc.heap[gb146]? = some (.cells #[(.slice none 0 0), (.slice none 0 0), (.slice none 0 0), (.slice none 0 0)] 24 (0, 0))) ∧ Aside0 (wc.heap[gb147]? = some (.cells #[(.slice A0_0 l0_0.length c0_0), (.slice A0_1 l0_1.length c0_1), (.slice A0_2 l0_2.length c0_2), (.slice A0_3 l0_3.length c0_3)] 48 (0, 0))) ∧ Aside0 (Below w.heap.size w wc))
 case first =>
  have H := HC4.out
  clear HC4
  by_cases c16 : t148 = true
  ·subst c16
   rw [if_pos rfl] at H
   by_cases c17 : (l0_0.length : Int) = 0
   ·rw [if_pos c17] at H
    have c17b0 : ((l0_0.length : Int) == 0) = true := beq_iff_eq.mpr c17
    have c17b1 : ((l0_0.length : Int) != 0) = false := bne_eq_false_iff_eq.mpr c17
    clear c17
    (first | rw [c17b0] | (simp only [i64_w, i32_w]; rw [c17b0]) | skip)
    have H' := Am12 H
    clear H
    have hnb18 := NB147_145.out
    have hnc18 := NB145_147.out
    have hnb19 := NB147_146.out
    have hnc19 := NB146_147.out
    have hcz20_0 : w15.cell? ⟨gb147, 0, none⟩ = some (.slice A0_0 l0_0.length c0_0) := (kc12 BK147.out 0).trans rfl
    have hcz20_1 : w15.cell? ⟨gb147, 1, none⟩ = some (.slice A0_1 l0_1.length c0_1) := (kc12 BK147.out 1).trans rfl
    have hcz20_2 : w15.cell? ⟨gb147, 2, none⟩ = some (.slice A0_2 l0_2.length c0_2) := (kc12 BK147.out 2).trans rfl
    have hcz20_3 : w15.cell? ⟨gb147, 3, none⟩ = some (.slice A0_3 l0_3.length c0_3) := (kc12 BK147.out 3).trans rfl
    have hfz20_0 := kz12 BK147.out 0
    have hfz20_1 := kz12 BK147.out 1
    have hfz20_2 := kz12 BK147.out 2
    have hfz20_3 := kz12 BK147.out 3
    go_wp2
    go_meet
    case rel => exact ⟨_, (((l0_0.length : Int) == 0)), (by first | rfl | (simp; done) | (simp [*]; done)), H', ⟨by first | omega | exact Nat.le_refl _⟩, ⟨by (with_reducible repeat (first | apply Kd.V_alloc | apply Kd.V_drewN | apply Kd.V_drew)); exact HO1.out⟩, ⟨by (with_reducible repeat first | apply kn12 | apply kd12 | apply ka12); exact BK145.out⟩, ⟨by (with_reducible repeat first | apply kn12 | apply kd12 | apply ka12); exact BK146.out⟩, ⟨by (with_reducible repeat first | apply kn12 | apply kd12 | apply ka12); exact BK147.out⟩, ⟨by repeat (first | (with_reducible first | exact HB.out | apply ba12 | apply bn12 | apply bd12 | refine bs12 ?_ GE145.out | refine bs12 ?_ GE146.out | refine bs12 ?_ GE147.out) | exact HB.out)⟩⟩
   ·rw [if_neg c17] at H
    have c17b0 : ((l0_0.length : Int) == 0) = false := beq_eq_false_iff_ne.mpr c17
    have c17b1 : ((l0_0.length : Int) != 0) = true := bne_iff_ne.mpr c17
    have c17b2 : ¬ (l0_0 = []) := fun h_ => c17 (by rw [h_]; rfl)
    (first | rw [c17b0] | (simp only [i64_w, i32_w]; rw [c17b0]) | skip)
    obtain ⟨y149, hy149⟩ : ∃ y_ : List (List Int), y_ = (([l1] : List (List Int))) := ⟨_, rfl⟩
    replace H : ((quorum_rise.f k y149).bind fun t152 => (if t152 = true then (quorum_Begin.j0 k l1 ((l1.length : Int) == 0) l0_0 l0_1 l0_2 l0_3) else (quorum_Begin.j0 k l1 (!t152) l0_0 l0_1 l0_2 l0_3))) = some (r1, r2, r3, r4, r5) := by first | (rw [hy149]; with_reducible exact H) | (have H2_ := (Option.bind_some _ _).symm.trans H; rw [hy149]; with_reducible exact H2_) | (have H2_ := (Option.bind_some _ _).symm.trans H; with_reducible exact H2_) | with_reducible exact H | (rw [hy149]; exact H) | exact H
    have Ny149 := Am12 hy149
    clear hy149
    replace H := Option.bind_eq_some_iff.mp H
    obtain ⟨t152, A210, H⟩ := H
    try dsimp only at H
    have A21 := Am12 A210
    clear A210
    by_cases c22 : t152 = true
    ·subst c22
     rw [if_pos rfl] at H
     have H' := Am12 H
     clear H
     have hnb23 := NB147_145.out
     have hnc23 := NB145_147.out
     have hnb24 := NB147_146.out
     have hnc24 := NB146_147.out
     have hcz25_0 : w15.cell? ⟨gb147, 0, none⟩ = some (.slice A0_0 l0_0.length c0_0) := (kc12 BK147.out 0).trans rfl
     have hcz25_1 : w15.cell? ⟨gb147, 1, none⟩ = some (.slice A0_1 l0_1.length c0_1) := (kc12 BK147.out 1).trans rfl
     have hcz25_2 : w15.cell? ⟨gb147, 2, none⟩ = some (.slice A0_2 l0_2.length c0_2) := (kc12 BK147.out 2).trans rfl
     have hcz25_3 : w15.cell? ⟨gb147, 3, none⟩ = some (.slice A0_3 l0_3.length c0_3) := (kc12 BK147.out 3).trans rfl
     have hfz25_0 := kz12 BK147.out 0
     have hfz25_1 := kz12 BK147.out 1
     have hfz25_2 := kz12 BK147.out 2
     have hfz25_3 := kz12 BK147.out 3
     go_wp2_with (first | ((with_reducible refine gate_dst (N:=19) rfl ?_); refine Kd.N_lit (Kd.slice 3 (Kd.int .i64)) _ 22 ?hg (N' := 19) ?hd (xs:=([l1] : List (List Int))) (inner:=[.slice A1 l1.length c1]) (ok:=(fun k_ => (P1_ k_ ∨ w.heap.size ≤ k_) ∧ k_ ≠ gb145 ∧ k_ ≠ gb146 ∧ k_ ≠ gb147)) (okp:=(fun k_ => (P1_ k_ ∨ w.heap.size ≤ k_) ∧ k_ ≠ gb145 ∧ k_ ≠ gb146 ∧ k_ ≠ gb147)) ?hr ?hp (fun _ hk => hk) ((show ∀ k_, w15.heap.size ≤ k_ → (fun k_ => (P1_ k_ ∨ w.heap.size ≤ k_) ∧ k_ ≠ gb145 ∧ k_ ≠ gb146 ∧ k_ ≠ gb147) k_ from fun k_ hk => ⟨(.inr (Nat.le_trans (bz12 (by repeat (first | (with_reducible first | exact HB.out | apply ba12 | apply bn12 | apply bd12 | refine bs12 ?_ GE145.out | refine bs12 ?_ GE146.out | refine bs12 ?_ GE147.out) | exact HB.out))) hk)), Kd.freshB (g:=gb145) (o:=.cells #[.slice A0_0 l0_0.length c0_0, .slice A0_1 l0_1.length c0_1, .slice A0_2 l0_2.length c0_2, .slice A0_3 l0_3.length c0_3] 24 (0, 0)) (by (with_reducible repeat first | apply kn12 | apply kd12 | apply ka12); exact BK145.out) k_ hk, Kd.freshB (g:=gb146) (o:=.cells #[.slice none 0 0, .slice none 0 0, .slice none 0 0, .slice none 0 0] 24 (0, 0)) (by (with_reducible repeat first | apply kn12 | apply kd12 | apply ka12); exact BK146.out) k_ hk, Kd.freshB (g:=gb147) (o:=.cells #[.slice A0_0 l0_0.length c0_0, .slice A0_1 l0_1.length c0_1, .slice A0_2 l0_2.length c0_2, .slice A0_3 l0_3.length c0_3] 48 (0, 0)) (by (with_reducible repeat first | apply kn12 | apply kd12 | apply ka12); exact BK147.out) k_ hk⟩) _ (Nat.le_refl _)) (Below.refl _ _) (Nat.le_refl _) (by simp) ?_; (case hd => rfl); (case hg => rfl); (case hr => first | (go_simp; done) | (go_simp; rfl)); (case hp => exact (Reps.one (show Kd.FK (Kd.slice 3 (Kd.int .i64)) _ _ l1 [.slice A1 l1.length c1] from (Kd.FK_slice_mk (Kd.V_reads' (Kd.V_mono (ok' := (fun k_ => (P1_ k_ ∨ w.heap.size ≤ k_) ∧ k_ ≠ gb145 ∧ k_ ≠ gb146 ∧ k_ ≠ gb147)) (HO1.out) (fun k_ hk => ⟨hk.1, ⟨hk.2.1, ⟨hk.2.2.1, hk.2.2.2⟩⟩⟩))).2.1 (Kd.V_F (Kd.V_mono (ok' := (fun k_ => (P1_ k_ ∨ w.heap.size ≤ k_) ∧ k_ ≠ gb145 ∧ k_ ≠ gb146 ∧ k_ ≠ gb147)) (HO1.out) (fun k_ hk => ⟨hk.1, ⟨hk.2.1, ⟨hk.2.2.1, hk.2.2.2⟩⟩⟩))))) (Reps.none _ _))); intro v150 w26 ho27 hb hg_ hnew_; clear hg_ hnew_; (first | rw [← Ny149.out] at ho27 | (simp only [Int.reduceToNat] at ho27; rw [← Ny149.out] at ho27)); replace HO1 := Am12 (Kd.V_elder' (by (with_reducible repeat (first | apply Kd.V_alloc | apply Kd.V_drewN | apply Kd.V_drew)); exact HO1.out) (Kd.N_base ho27) hb); have HO151 := Am12 (Kd.N_lower ho27 (bz12 (by repeat (first | (with_reducible first | exact HB.out | apply ba12 | apply bn12 | apply bd12 | refine bs12 ?_ GE145.out | refine bs12 ?_ GE146.out | refine bs12 ?_ GE147.out) | exact HB.out)))); replace BK145 := Am12 (kb12 (g:=gb145) (o:=.cells #[.slice A0_0 l0_0.length c0_0, .slice A0_1 l0_1.length c0_1, .slice A0_2 l0_2.length c0_2, .slice A0_3 l0_3.length c0_3] 24 (0, 0)) (by (with_reducible repeat first | apply kn12 | apply kd12 | apply ka12); exact BK145.out) hb); replace BK146 := Am12 (kb12 (g:=gb146) (o:=.cells #[.slice none 0 0, .slice none 0 0, .slice none 0 0, .slice none 0 0] 24 (0, 0)) (by (with_reducible repeat first | apply kn12 | apply kd12 | apply ka12); exact BK146.out) hb); replace BK147 := Am12 (kb12 (g:=gb147) (o:=.cells #[.slice A0_0 l0_0.length c0_0, .slice A0_1 l0_1.length c0_1, .slice A0_2 l0_2.length c0_2, .slice A0_3 l0_3.length c0_3] 48 (0, 0)) (by (with_reducible repeat first | apply kn12 | apply kd12 | apply ka12); exact BK147.out) hb); replace HB := Am12 (bp12 (by repeat (first | (with_reducible first | exact HB.out | apply ba12 | apply bn12 | apply bd12 | refine bs12 ?_ GE145.out | refine bs12 ?_ GE146.out | refine bs12 ?_ GE147.out) | exact HB.out)) hb); clear hb ho27; obtain ⟨Ao28, co28, eo28⟩ := Kd.N_slice HO151.out; subst eo28) | ((with_reducible refine gate_callee (f:=38) rfl ?_); refine goesL_ (some 20) rfl rfl Try.func38 (by kernel_rfl) rfl #[.slice Ao28 y149.length co28] rfl (by (try simp only [ma12, mc12, mn12]); first | done | rfl | (simp only [ld12, lt_12]; rfl)) ?_; (with_reducible refine (quorum_rise.calls k _ _ y149 true _ ?side1 ?side2 A21.out).mono ?_); (case side1 => repeat (first | exact (Kd.N_reads' HO151.out).2.2 | (with_reducible refine Kd.C_alloc ?_ _) | (with_reducible refine Kd.C_drewN ?_ _) | (with_reducible refine Kd.C_drew ?_))); (case side2 => exact (Kd.N_reads' HO151.out).2.1); rintro e w' ⟨rfl, ⟨nd, rfl⟩⟩; refine ⟨_, rfl, ?_⟩))
     go_meet
     case rel => exact ⟨_, (((l1.length : Int) == 0)), (by first | rfl | (simp; done) | (simp [*]; done)), H', ⟨by first | omega | exact Nat.le_refl _⟩, ⟨by (with_reducible repeat (first | apply Kd.V_alloc | apply Kd.V_drewN | apply Kd.V_drew)); exact Kd.V_mono HO1.out (fun _ hk => ⟨hk.1.1, ⟨hk.1.2.1, ⟨hk.1.2.2.1, hk.1.2.2.2⟩⟩⟩)⟩, ⟨by (with_reducible repeat first | apply kn12 | apply kd12 | apply ka12); exact BK145.out⟩, ⟨by (with_reducible repeat first | apply kn12 | apply kd12 | apply ka12); exact BK146.out⟩, ⟨by (with_reducible repeat first | apply kn12 | apply kd12 | apply ka12); exact BK147.out⟩, ⟨by repeat (first | (with_reducible first | exact HB.out | apply ba12 | apply bn12 | apply bd12 | refine bs12 ?_ GE145.out | refine bs12 ?_ GE146.out | refine bs12 ?_ GE147.out) | exact HB.out)⟩⟩
    ·replace c22 := Bool.eq_false_iff.mpr c22
     subst c22
     rw [if_neg (show ¬ (false = true) by decide)] at H
     have H' := Am12 H
     clear H
     have hnb29 := NB147_145.out
     have hnc29 := NB145_147.out
     have hnb30 := NB147_146.out
     have hnc30 := NB146_147.out
     have hcz31_0 : w15.cell? ⟨gb147, 0, none⟩ = some (.slice A0_0 l0_0.length c0_0) := (kc12 BK147.out 0).trans rfl
     have hcz31_1 : w15.cell? ⟨gb147, 1, none⟩ = some (.slice A0_1 l0_1.length c0_1) := (kc12 BK147.out 1).trans rfl
     have hcz31_2 : w15.cell? ⟨gb147, 2, none⟩ = some (.slice A0_2 l0_2.length c0_2) := (kc12 BK147.out 2).trans rfl
     have hcz31_3 : w15.cell? ⟨gb147, 3, none⟩ = some (.slice A0_3 l0_3.length c0_3) := (kc12 BK147.out 3).trans rfl
     have hfz31_0 := kz12 BK147.out 0
     have hfz31_1 := kz12 BK147.out 1
     have hfz31_2 := kz12 BK147.out 2
     have hfz31_3 := kz12 BK147.out 3
     go_wp2_with (first | ((with_reducible refine gate_dst (N:=19) rfl ?_); refine Kd.N_lit (Kd.slice 3 (Kd.int .i64)) _ 22 ?hg (N' := 19) ?hd (xs:=([l1] : List (List Int))) (inner:=[.slice A1 l1.length c1]) (ok:=(fun k_ => (P1_ k_ ∨ w.heap.size ≤ k_) ∧ k_ ≠ gb145 ∧ k_ ≠ gb146 ∧ k_ ≠ gb147)) (okp:=(fun k_ => (P1_ k_ ∨ w.heap.size ≤ k_) ∧ k_ ≠ gb145 ∧ k_ ≠ gb146 ∧ k_ ≠ gb147)) ?hr ?hp (fun _ hk => hk) ((show ∀ k_, w15.heap.size ≤ k_ → (fun k_ => (P1_ k_ ∨ w.heap.size ≤ k_) ∧ k_ ≠ gb145 ∧ k_ ≠ gb146 ∧ k_ ≠ gb147) k_ from fun k_ hk => ⟨(.inr (Nat.le_trans (bz12 (by repeat (first | (with_reducible first | exact HB.out | apply ba12 | apply bn12 | apply bd12 | refine bs12 ?_ GE145.out | refine bs12 ?_ GE146.out | refine bs12 ?_ GE147.out) | exact HB.out))) hk)), Kd.freshB (g:=gb145) (o:=.cells #[.slice A0_0 l0_0.length c0_0, .slice A0_1 l0_1.length c0_1, .slice A0_2 l0_2.length c0_2, .slice A0_3 l0_3.length c0_3] 24 (0, 0)) (by (with_reducible repeat first | apply kn12 | apply kd12 | apply ka12); exact BK145.out) k_ hk, Kd.freshB (g:=gb146) (o:=.cells #[.slice none 0 0, .slice none 0 0, .slice none 0 0, .slice none 0 0] 24 (0, 0)) (by (with_reducible repeat first | apply kn12 | apply kd12 | apply ka12); exact BK146.out) k_ hk, Kd.freshB (g:=gb147) (o:=.cells #[.slice A0_0 l0_0.length c0_0, .slice A0_1 l0_1.length c0_1, .slice A0_2 l0_2.length c0_2, .slice A0_3 l0_3.length c0_3] 48 (0, 0)) (by (with_reducible repeat first | apply kn12 | apply kd12 | apply ka12); exact BK147.out) k_ hk⟩) _ (Nat.le_refl _)) (Below.refl _ _) (Nat.le_refl _) (by simp) ?_; (case hd => rfl); (case hg => rfl); (case hr => first | (go_simp; done) | (go_simp; rfl)); (case hp => exact (Reps.one (show Kd.FK (Kd.slice 3 (Kd.int .i64)) _ _ l1 [.slice A1 l1.length c1] from (Kd.FK_slice_mk (Kd.V_reads' (Kd.V_mono (ok' := (fun k_ => (P1_ k_ ∨ w.heap.size ≤ k_) ∧ k_ ≠ gb145 ∧ k_ ≠ gb146 ∧ k_ ≠ gb147)) (HO1.out) (fun k_ hk => ⟨hk.1, ⟨hk.2.1, ⟨hk.2.2.1, hk.2.2.2⟩⟩⟩))).2.1 (Kd.V_F (Kd.V_mono (ok' := (fun k_ => (P1_ k_ ∨ w.heap.size ≤ k_) ∧ k_ ≠ gb145 ∧ k_ ≠ gb146 ∧ k_ ≠ gb147)) (HO1.out) (fun k_ hk => ⟨hk.1, ⟨hk.2.1, ⟨hk.2.2.1, hk.2.2.2⟩⟩⟩))))) (Reps.none _ _))); intro v150 w32 ho33 hb hg_ hnew_; clear hg_ hnew_; (first | rw [← Ny149.out] at ho33 | (simp only [Int.reduceToNat] at ho33; rw [← Ny149.out] at ho33)); replace HO1 := Am12 (Kd.V_elder' (by (with_reducible repeat (first | apply Kd.V_alloc | apply Kd.V_drewN | apply Kd.V_drew)); exact HO1.out) (Kd.N_base ho33) hb); have HO151 := Am12 (Kd.N_lower ho33 (bz12 (by repeat (first | (with_reducible first | exact HB.out | apply ba12 | apply bn12 | apply bd12 | refine bs12 ?_ GE145.out | refine bs12 ?_ GE146.out | refine bs12 ?_ GE147.out) | exact HB.out)))); replace BK145 := Am12 (kb12 (g:=gb145) (o:=.cells #[.slice A0_0 l0_0.length c0_0, .slice A0_1 l0_1.length c0_1, .slice A0_2 l0_2.length c0_2, .slice A0_3 l0_3.length c0_3] 24 (0, 0)) (by (with_reducible repeat first | apply kn12 | apply kd12 | apply ka12); exact BK145.out) hb); replace BK146 := Am12 (kb12 (g:=gb146) (o:=.cells #[.slice none 0 0, .slice none 0 0, .slice none 0 0, .slice none 0 0] 24 (0, 0)) (by (with_reducible repeat first | apply kn12 | apply kd12 | apply ka12); exact BK146.out) hb); replace BK147 := Am12 (kb12 (g:=gb147) (o:=.cells #[.slice A0_0 l0_0.length c0_0, .slice A0_1 l0_1.length c0_1, .slice A0_2 l0_2.length c0_2, .slice A0_3 l0_3.length c0_3] 48 (0, 0)) (by (with_reducible repeat first | apply kn12 | apply kd12 | apply ka12); exact BK147.out) hb); replace HB := Am12 (bp12 (by repeat (first | (with_reducible first | exact HB.out | apply ba12 | apply bn12 | apply bd12 | refine bs12 ?_ GE145.out | refine bs12 ?_ GE146.out | refine bs12 ?_ GE147.out) | exact HB.out)) hb); clear hb ho33; obtain ⟨Ao34, co34, eo34⟩ := Kd.N_slice HO151.out; subst eo34) | ((with_reducible refine gate_callee (f:=38) rfl ?_); refine goesL_ (some 20) rfl rfl Try.func38 (by kernel_rfl) rfl #[.slice Ao34 y149.length co34] rfl (by (try simp only [ma12, mc12, mn12]); first | done | rfl | (simp only [ld12, lt_12]; rfl)) ?_; (with_reducible refine (quorum_rise.calls k _ _ y149 false _ ?side1 ?side2 A21.out).mono ?_); (case side1 => repeat (first | exact (Kd.N_reads' HO151.out).2.2 | (with_reducible refine Kd.C_alloc ?_ _) | (with_reducible refine Kd.C_drewN ?_ _) | (with_reducible refine Kd.C_drew ?_))); (case side2 => exact (Kd.N_reads' HO151.out).2.1); rintro e w' ⟨rfl, ⟨nd, rfl⟩⟩; refine ⟨_, rfl, ?_⟩))
     go_meet
     case rel => exact ⟨_, (!false), (by first | rfl | (simp; done) | (simp [*]; done)), H', ⟨by first | omega | exact Nat.le_refl _⟩, ⟨by (with_reducible repeat (first | apply Kd.V_alloc | apply Kd.V_drewN | apply Kd.V_drew)); exact Kd.V_mono HO1.out (fun _ hk => ⟨hk.1.1, ⟨hk.1.2.1, ⟨hk.1.2.2.1, hk.1.2.2.2⟩⟩⟩)⟩, ⟨by (with_reducible repeat first | apply kn12 | apply kd12 | apply ka12); exact BK145.out⟩, ⟨by (with_reducible repeat first | apply kn12 | apply kd12 | apply ka12); exact BK146.out⟩, ⟨by (with_reducible repeat first | apply kn12 | apply kd12 | apply ka12); exact BK147.out⟩, ⟨by repeat (first | (with_reducible first | exact HB.out | apply ba12 | apply bn12 | apply bd12 | refine bs12 ?_ GE145.out | refine bs12 ?_ GE146.out | refine bs12 ?_ GE147.out) | exact HB.out)⟩⟩
  ·replace c16 := Bool.eq_false_iff.mpr c16
   subst c16
   rw [if_neg (show ¬ (false = true) by decide)] at H
   have H' := Am12 H
   clear H
   go_wp2
   go_meet
   case rel => exact ⟨_, (!false), (by first | rfl | (simp; done) | (simp [*]; done)), H', ⟨by first | omega | exact Nat.le_refl _⟩, ⟨by (with_reducible repeat (first | apply Kd.V_alloc | apply Kd.V_drewN | apply Kd.V_drew)); exact HO1.out⟩, ⟨by (with_reducible repeat first | apply kn12 | apply kd12 | apply ka12); exact BK145.out⟩, ⟨by (with_reducible repeat first | apply kn12 | apply kd12 | apply ka12); exact BK146.out⟩, ⟨by (with_reducible repeat first | apply kn12 | apply kd12 | apply ka12); exact BK147.out⟩, ⟨by repeat (first | (with_reducible first | exact HB.out | apply ba12 | apply bn12 | apply bd12 | refine bs12 ?_ GE145.out | refine bs12 ?_ GE146.out | refine bs12 ?_ GE147.out) | exact HB.out)⟩⟩
 case rest =>
  clear HC4
  try clear c1
  try clear c2
  try clear p2
  try clear c3
  try clear c7
  try clear c10
  try clear c11
  try clear c12
  try clear c16
  try clear c17
  try clear c17b0
  try clear c17b1
  try clear c17b2
  try clear c18
  try clear c19
  try clear c22
  try clear c23
  try clear c24
  try clear c29
  try clear c30
  try clear c33
  try clear hcz12_0
  try clear hcz12_1
  try clear hcz12_2
  try clear hcz12_3
  try clear hcz14_0
  try clear hcz14_1
  try clear hcz14_2
  try clear hcz14_3
  try clear hcz20_0
  try clear hcz20_1
  try clear hcz20_2
  try clear hcz20_3
  try clear hcz25_0
  try clear hcz25_1
  try clear hcz25_2
  try clear hcz25_3
  try clear hcz31_0
  try clear hcz31_1
  try clear hcz31_2
  try clear hcz31_3
  try clear hcz8_0
  try clear hcz8_1
  try clear hcz8_2
  try clear hcz8_3
  try clear hfz12_0
  try clear hfz12_1
  try clear hfz12_2
  try clear hfz12_3
  try clear hfz14_0
  try clear hfz14_1
  try clear hfz14_2
  try clear hfz14_3
  try clear hfz20_0
  try clear hfz20_1
  try clear hfz20_2
  try clear hfz20_3
  try clear hfz25_0
  try clear hfz25_1
  try clear hfz25_2
  try clear hfz25_3
  try clear hfz31_0
  try clear hfz31_1
  try clear hfz31_2
  try clear hfz31_3
  try clear hfz8_0
  try clear hfz8_1
  try clear hfz8_2
  try clear hfz8_3
  obtain ⟨kq, x9_3, rfl, HA, HJ3, HO_1, BK145, BK146, BK147, HB⟩ := hcut
  cases kq with
  | zero => exact absurd HA.out (by simp [quorum_Begin.j0])
  | succ kj3 =>
   have H := HA.out
   clear HA
   simp only [quorum_Begin.j0] at H
   by_cases c35 : x9_3 = true
   ·subst c35
    rw [if_pos rfl] at H
    simp only [Option.some.injEq, Prod.mk.injEq] at H
    obtain ⟨rfl, rfl, rfl, rfl, rfl⟩ := H
    have hnb36 := NB146_145.out
    have hnc36 := NB145_146.out
    have hnb37 := NB146_147.out
    have hnc37 := NB147_146.out
    have hcz38_0 : wc.cell? ⟨gb146, 0, none⟩ = some (.slice none 0 0) := (kc12 BK146.out 0).trans rfl
    have hcz38_1 : wc.cell? ⟨gb146, 1, none⟩ = some (.slice none 0 0) := (kc12 BK146.out 1).trans rfl
    have hcz38_2 : wc.cell? ⟨gb146, 2, none⟩ = some (.slice none 0 0) := (kc12 BK146.out 2).trans rfl
    have hcz38_3 : wc.cell? ⟨gb146, 3, none⟩ = some (.slice none 0 0) := (kc12 BK146.out 3).trans rfl
    have hfz38_0 := kz12 BK146.out 0
    have hfz38_1 := kz12 BK146.out 1
    have hfz38_2 := kz12 BK146.out 2
    have hfz38_3 := kz12 BK146.out 3
    go_wp2
    refine bodyPost_ret (results_ct rfl _ _ gb146 24 #[.slice none 0 0, .slice none 0 0, .slice none 0 0, .slice none 0 0] (0, 0) _ rfl (by (with_reducible repeat first | apply kn12 | apply kd12 | apply ka12); refine blk_put (cs:=#[.slice none 0 0, .slice none 0 0, .slice none 0 0, .slice none 0 0]) ?_ 3 _ rfl; (with_reducible repeat first | apply kn12 | apply kd12 | apply ka12); refine blk_put (cs:=#[.slice none 0 0, .slice none 0 0, .slice none 0 0, .slice none 0 0]) ?_ 2 _ rfl; (with_reducible repeat first | apply kn12 | apply kd12 | apply ka12); refine blk_put (cs:=#[.slice none 0 0, .slice none 0 0, .slice none 0 0, .slice none 0 0]) ?_ 1 _ rfl; (with_reducible repeat first | apply kn12 | apply kd12 | apply ka12); refine blk_put (cs:=#[.slice none 0 0, .slice none 0 0, .slice none 0 0, .slice none 0 0]) ?_ 0 _ rfl; (with_reducible repeat first | apply kn12 | apply kd12 | apply ka12); exact BK146.out) Try.underlying24 rfl (by kernel_rfl)) rfl ?_
    exact ⟨_, _, _, _, by first | rfl | (simp [errW_none, errW_some] <;> rfl) | (simp [*, errW_none, errW_some] <;> rfl), by first | exact Kd.R_nil _ _ _ _ _ | exact Kd.N_nil _ _ _ _ _ | exact Kd.V_nil _ _ _ _ _ | exact Kd.Q_nil _ _ _ _ _ | exact Kd.S_nil _ _ _ _ _, by first | exact Kd.R_nil _ _ _ _ _ | exact Kd.N_nil _ _ _ _ _ | exact Kd.V_nil _ _ _ _ _ | exact Kd.Q_nil _ _ _ _ _ | exact Kd.S_nil _ _ _ _ _, by first | exact Kd.R_nil _ _ _ _ _ | exact Kd.N_nil _ _ _ _ _ | exact Kd.V_nil _ _ _ _ _ | exact Kd.Q_nil _ _ _ _ _ | exact Kd.S_nil _ _ _ _ _, by first | exact Kd.R_nil _ _ _ _ _ | exact Kd.N_nil _ _ _ _ _ | exact Kd.V_nil _ _ _ _ _ | exact Kd.Q_nil _ _ _ _ _ | exact Kd.S_nil _ _ _ _ _, by repeat (first | (with_reducible first | exact HB.out | apply ba12 | apply bn12 | apply bd12 | refine bs12 ?_ GE145.out | refine bs12 ?_ GE146.out | refine bs12 ?_ GE147.out) | exact HB.out)⟩
   ·replace c35 := Bool.eq_false_iff.mpr c35
    subst c35
    rw [if_neg (show ¬ (false = true) by decide)] at H
    replace H := Option.bind_eq_some_iff.mp H
    obtain ⟨t153, A390, H⟩ := H
    try dsimp only at H
    have A39 := Am12 A390
    clear A390
    by_cases c40 : t153 = true
    ·subst c40
     rw [if_pos rfl] at H
     simp only [Option.some.injEq, Prod.mk.injEq] at H
     obtain ⟨rfl, rfl, rfl, rfl, rfl⟩ := H
     have hnb41 := NB147_145.out
     have hnc41 := NB145_147.out
     have hnb42 := NB147_146.out
     have hnc42 := NB146_147.out
     have hcz43_0 : wc.cell? ⟨gb147, 0, none⟩ = some (.slice A0_0 l0_0.length c0_0) := (kc12 BK147.out 0).trans rfl
     have hcz43_1 : wc.cell? ⟨gb147, 1, none⟩ = some (.slice A0_1 l0_1.length c0_1) := (kc12 BK147.out 1).trans rfl
     have hcz43_2 : wc.cell? ⟨gb147, 2, none⟩ = some (.slice A0_2 l0_2.length c0_2) := (kc12 BK147.out 2).trans rfl
     have hcz43_3 : wc.cell? ⟨gb147, 3, none⟩ = some (.slice A0_3 l0_3.length c0_3) := (kc12 BK147.out 3).trans rfl
     have hfz43_0 := kz12 BK147.out 0
     have hfz43_1 := kz12 BK147.out 1
     have hfz43_2 := kz12 BK147.out 2
     have hfz43_3 := kz12 BK147.out 3
     go_wp2_with (first | ((with_reducible refine gate_callee (f:=36) rfl ?_); refine goesL_ (some 28) rfl rfl Try.func36 (by kernel_rfl) rfl #[.agg #[.slice A0_0 l0_0.length c0_0, .slice A0_1 l0_1.length c0_1, .slice A0_2 l0_2.length c0_2, .slice A0_3 l0_3.length c0_3]] rfl (by (try simp only [ma12, mc12, mn12]); first | done | rfl | (simp only [ld12, lt_12]; rfl)) ?_; (with_reducible refine (quorum_group_changes.calls _ _ l0_0 _ _ l0_1 _ _ l0_2 _ _ l0_3 true _ ?side1 ?side2 ?side3 ?side4 ?side5 ?side6 ?side7 ?side8 A39.out).mono ?_); (case side1 => repeat (first | exact (Kd.C_below HR0_0.out HB.out) | (with_reducible refine Kd.C_alloc ?_ _) | (with_reducible refine Kd.C_drewN ?_ _) | (with_reducible refine Kd.C_drew ?_))); (case side2 => exact HC0_0.out); (case side3 => repeat (first | exact (Kd.C_below HR0_1.out HB.out) | (with_reducible refine Kd.C_alloc ?_ _) | (with_reducible refine Kd.C_drewN ?_ _) | (with_reducible refine Kd.C_drew ?_))); (case side4 => exact HC0_1.out); (case side5 => repeat (first | exact (Kd.C_below HR0_2.out HB.out) | (with_reducible refine Kd.C_alloc ?_ _) | (with_reducible refine Kd.C_drewN ?_ _) | (with_reducible refine Kd.C_drew ?_))); (case side6 => exact HC0_2.out); (case side7 => repeat (first | exact (Kd.C_below HR0_3.out HB.out) | (with_reducible refine Kd.C_alloc ?_ _) | (with_reducible refine Kd.C_drewN ?_ _) | (with_reducible refine Kd.C_drew ?_))); (case side8 => exact HC0_3.out); rintro e w44 ⟨rfl, hb⟩; refine ⟨_, rfl, ?_⟩; replace HO_1 := Am12 (Kd.V_below (by (with_reducible repeat (first | apply Kd.V_alloc | apply Kd.V_drewN | apply Kd.V_drew)); exact HO_1.out) hb); replace BK145 := Am12 (kb12 (g:=gb145) (o:=.cells #[.slice A0_0 l0_0.length c0_0, .slice A0_1 l0_1.length c0_1, .slice A0_2 l0_2.length c0_2, .slice A0_3 l0_3.length c0_3] 24 (0, 0)) (by (with_reducible repeat first | apply kn12 | apply kd12 | apply ka12); exact BK145.out) hb); replace BK146 := Am12 (kb12 (g:=gb146) (o:=.cells #[.slice none 0 0, .slice none 0 0, .slice none 0 0, .slice none 0 0] 24 (0, 0)) (by (with_reducible repeat first | apply kn12 | apply kd12 | apply ka12); exact BK146.out) hb); replace BK147 := Am12 (kb12 (g:=gb147) (o:=.cells #[.slice A0_0 l0_0.length c0_0, .slice A0_1 l0_1.length c0_1, .slice A0_2 l0_2.length c0_2, .slice A0_3 l0_3.length c0_3] 48 (0, 0)) (by (with_reducible repeat first | apply kn12 | apply kd12 | apply ka12); exact BK147.out) hb); replace HB := Am12 (bp12 (by repeat (first | (with_reducible first | exact HB.out | apply ba12 | apply bn12 | apply bd12 | refine bs12 ?_ GE145.out | refine bs12 ?_ GE146.out | refine bs12 ?_ GE147.out) | exact HB.out)) hb); (try clear hb); (try clear hb2); (try clear hk); (try clear hi); have hnb45 := NB146_145.out; have hnc45 := NB145_146.out; have hcz46_0 : w44.cell? ⟨gb146, 0, none⟩ = some (.slice none 0 0) := (kc12 BK146.out 0).trans rfl; have hcz46_1 : w44.cell? ⟨gb146, 1, none⟩ = some (.slice none 0 0) := (kc12 BK146.out 1).trans rfl; have hcz46_2 : w44.cell? ⟨gb146, 2, none⟩ = some (.slice none 0 0) := (kc12 BK146.out 2).trans rfl; have hcz46_3 : w44.cell? ⟨gb146, 3, none⟩ = some (.slice none 0 0) := (kc12 BK146.out 3).trans rfl; have hfz46_0 := kz12 BK146.out 0; have hfz46_1 := kz12 BK146.out 1; have hfz46_2 := kz12 BK146.out 2; have hfz46_3 := kz12 BK146.out 3))
     refine bodyPost_ret (results_ct rfl _ _ gb146 24 #[.slice none 0 0, .slice none 0 0, .slice none 0 0, .slice none 0 0] (0, 0) _ rfl (by (with_reducible repeat first | apply kn12 | apply kd12 | apply ka12); refine blk_put (cs:=#[.slice none 0 0, .slice none 0 0, .slice none 0 0, .slice none 0 0]) ?_ 3 _ rfl; (with_reducible repeat first | apply kn12 | apply kd12 | apply ka12); refine blk_put (cs:=#[.slice none 0 0, .slice none 0 0, .slice none 0 0, .slice none 0 0]) ?_ 2 _ rfl; (with_reducible repeat first | apply kn12 | apply kd12 | apply ka12); refine blk_put (cs:=#[.slice none 0 0, .slice none 0 0, .slice none 0 0, .slice none 0 0]) ?_ 1 _ rfl; (with_reducible repeat first | apply kn12 | apply kd12 | apply ka12); refine blk_put (cs:=#[.slice none 0 0, .slice none 0 0, .slice none 0 0, .slice none 0 0]) ?_ 0 _ rfl; (with_reducible repeat first | apply kn12 | apply kd12 | apply ka12); exact BK146.out) Try.underlying24 rfl (by kernel_rfl)) rfl ?_
     exact ⟨_, _, _, _, by first | rfl | (simp [errW_none, errW_some] <;> rfl) | (simp [*, errW_none, errW_some] <;> rfl), by first | exact Kd.R_nil _ _ _ _ _ | exact Kd.N_nil _ _ _ _ _ | exact Kd.V_nil _ _ _ _ _ | exact Kd.Q_nil _ _ _ _ _ | exact Kd.S_nil _ _ _ _ _, by first | exact Kd.R_nil _ _ _ _ _ | exact Kd.N_nil _ _ _ _ _ | exact Kd.V_nil _ _ _ _ _ | exact Kd.Q_nil _ _ _ _ _ | exact Kd.S_nil _ _ _ _ _, by first | exact Kd.R_nil _ _ _ _ _ | exact Kd.N_nil _ _ _ _ _ | exact Kd.V_nil _ _ _ _ _ | exact Kd.Q_nil _ _ _ _ _ | exact Kd.S_nil _ _ _ _ _, by first | exact Kd.R_nil _ _ _ _ _ | exact Kd.N_nil _ _ _ _ _ | exact Kd.V_nil _ _ _ _ _ | exact Kd.Q_nil _ _ _ _ _ | exact Kd.S_nil _ _ _ _ _, by repeat (first | (with_reducible first | exact HB.out | apply ba12 | apply bn12 | apply bd12 | refine bs12 ?_ GE145.out | refine bs12 ?_ GE146.out | refine bs12 ?_ GE147.out) | exact HB.out)⟩
    ·replace c40 := Bool.eq_false_iff.mpr c40
     subst c40
     rw [if_neg (show ¬ (false = true) by decide)] at H
     replace H := Option.bind_eq_some_iff.mp H
     obtain ⟨t154, A470, H⟩ := H
     try dsimp only at H
     have A47 := Am12 A470
     clear A470
     by_cases c48 : t154 = true
     ·subst c48
      rw [if_pos rfl] at H
      simp only [Option.some.injEq, Prod.mk.injEq] at H
      obtain ⟨rfl, rfl, rfl, rfl, rfl⟩ := H
      have hnb49 := NB147_145.out
      have hnc49 := NB145_147.out
      have hnb50 := NB147_146.out
      have hnc50 := NB146_147.out
      have hcz51_0 : wc.cell? ⟨gb147, 0, none⟩ = some (.slice A0_0 l0_0.length c0_0) := (kc12 BK147.out 0).trans rfl
      have hcz51_1 : wc.cell? ⟨gb147, 1, none⟩ = some (.slice A0_1 l0_1.length c0_1) := (kc12 BK147.out 1).trans rfl
      have hcz51_2 : wc.cell? ⟨gb147, 2, none⟩ = some (.slice A0_2 l0_2.length c0_2) := (kc12 BK147.out 2).trans rfl
      have hcz51_3 : wc.cell? ⟨gb147, 3, none⟩ = some (.slice A0_3 l0_3.length c0_3) := (kc12 BK147.out 3).trans rfl
      have hfz51_0 := kz12 BK147.out 0
      have hfz51_1 := kz12 BK147.out 1
      have hfz51_2 := kz12 BK147.out 2
      have hfz51_3 := kz12 BK147.out 3
      go_wp2_with (first | ((with_reducible refine gate_callee (f:=36) rfl ?_); refine goesL_ (some 28) rfl rfl Try.func36 (by kernel_rfl) rfl #[.agg #[.slice A0_0 l0_0.length c0_0, .slice A0_1 l0_1.length c0_1, .slice A0_2 l0_2.length c0_2, .slice A0_3 l0_3.length c0_3]] rfl (by (try simp only [ma12, mc12, mn12]); first | done | rfl | (simp only [ld12, lt_12]; rfl)) ?_; (with_reducible refine (quorum_group_changes.calls _ _ l0_0 _ _ l0_1 _ _ l0_2 _ _ l0_3 false _ ?side1 ?side2 ?side3 ?side4 ?side5 ?side6 ?side7 ?side8 A39.out).mono ?_); (case side1 => repeat (first | exact (Kd.C_below HR0_0.out HB.out) | (with_reducible refine Kd.C_alloc ?_ _) | (with_reducible refine Kd.C_drewN ?_ _) | (with_reducible refine Kd.C_drew ?_))); (case side2 => exact HC0_0.out); (case side3 => repeat (first | exact (Kd.C_below HR0_1.out HB.out) | (with_reducible refine Kd.C_alloc ?_ _) | (with_reducible refine Kd.C_drewN ?_ _) | (with_reducible refine Kd.C_drew ?_))); (case side4 => exact HC0_1.out); (case side5 => repeat (first | exact (Kd.C_below HR0_2.out HB.out) | (with_reducible refine Kd.C_alloc ?_ _) | (with_reducible refine Kd.C_drewN ?_ _) | (with_reducible refine Kd.C_drew ?_))); (case side6 => exact HC0_2.out); (case side7 => repeat (first | exact (Kd.C_below HR0_3.out HB.out) | (with_reducible refine Kd.C_alloc ?_ _) | (with_reducible refine Kd.C_drewN ?_ _) | (with_reducible refine Kd.C_drew ?_))); (case side8 => exact HC0_3.out); rintro e w52 ⟨rfl, hb⟩; refine ⟨_, rfl, ?_⟩; replace HO_1 := Am12 (Kd.V_below (by (with_reducible repeat (first | apply Kd.V_alloc | apply Kd.V_drewN | apply Kd.V_drew)); exact HO_1.out) hb); replace BK145 := Am12 (kb12 (g:=gb145) (o:=.cells #[.slice A0_0 l0_0.length c0_0, .slice A0_1 l0_1.length c0_1, .slice A0_2 l0_2.length c0_2, .slice A0_3 l0_3.length c0_3] 24 (0, 0)) (by (with_reducible repeat first | apply kn12 | apply kd12 | apply ka12); exact BK145.out) hb); replace BK146 := Am12 (kb12 (g:=gb146) (o:=.cells #[.slice none 0 0, .slice none 0 0, .slice none 0 0, .slice none 0 0] 24 (0, 0)) (by (with_reducible repeat first | apply kn12 | apply kd12 | apply ka12); exact BK146.out) hb); replace BK147 := Am12 (kb12 (g:=gb147) (o:=.cells #[.slice A0_0 l0_0.length c0_0, .slice A0_1 l0_1.length c0_1, .slice A0_2 l0_2.length c0_2, .slice A0_3 l0_3.length c0_3] 48 (0, 0)) (by (with_reducible repeat first | apply kn12 | apply kd12 | apply ka12); exact BK147.out) hb); replace HB := Am12 (bp12 (by repeat (first | (with_reducible first | exact HB.out | apply ba12 | apply bn12 | apply bd12 | refine bs12 ?_ GE145.out | refine bs12 ?_ GE146.out | refine bs12 ?_ GE147.out) | exact HB.out)) hb); (try clear hb); (try clear hb2); (try clear hk); (try clear hi); have hcz53_0 : w52.cell? ⟨gb147, 0, none⟩ = some (.slice A0_0 l0_0.length c0_0) := (kc12 BK147.out 0).trans rfl; have hcz53_1 : w52.cell? ⟨gb147, 1, none⟩ = some (.slice A0_1 l0_1.length c0_1) := (kc12 BK147.out 1).trans rfl; have hcz53_2 : w52.cell? ⟨gb147, 2, none⟩ = some (.slice A0_2 l0_2.length c0_2) := (kc12 BK147.out 2).trans rfl; have hcz53_3 : w52.cell? ⟨gb147, 3, none⟩ = some (.slice A0_3 l0_3.length c0_3) := (kc12 BK147.out 3).trans rfl; have hfz53_0 := kz12 BK147.out 0; have hfz53_1 := kz12 BK147.out 1; have hfz53_2 := kz12 BK147.out 2; have hfz53_3 := kz12 BK147.out 3) | ((with_reducible refine gate_callee (f:=39) rfl ?_); refine goesL_ (some 35) rfl rfl Try.func39 (by kernel_rfl) rfl #[.slice A1 l1.length c1, .slice A0_0 l0_0.length c0_0] rfl (by (try simp only [ma12, mc12, mn12]); first | done | rfl | (simp only [ld12, lt_12]; rfl)) ?_; (with_reducible refine (slices_Equal_int_int.calls kj3 _ _ l1 _ _ l0_0 true _ ?side1 ?side2 ?side3 ?side4 A47.out).mono ?_); (case side1 => repeat (first | exact (Kd.V_reads' HO_1.out).2.2 | (with_reducible refine Kd.C_alloc ?_ _) | (with_reducible refine Kd.C_drewN ?_ _) | (with_reducible refine Kd.C_drew ?_))); (case side2 => exact (Kd.V_reads' HO_1.out).2.1); (case side3 => repeat (first | exact (Kd.C_below HR0_0.out HB.out) | (with_reducible refine Kd.C_alloc ?_ _) | (with_reducible refine Kd.C_drewN ?_ _) | (with_reducible refine Kd.C_drew ?_))); (case side4 => exact HC0_0.out); rintro e w' ⟨rfl, ⟨nd, rfl⟩⟩; refine ⟨_, rfl, ?_⟩; (try (rw [drewN_self w52]; generalize hq_ : World.drewN w52 _ = w52; have n0_ : Aside0 (Kd.V (Kd.int .i64) 3 w52 w.heap.size (fun k_ => (P1_ k_ ∨ w.heap.size ≤ k_) ∧ k_ ≠ gb145 ∧ k_ ≠ gb146 ∧ k_ ≠ gb147) (.slice A1 l1.length c1) l1) := ⟨by rw [← hq_]; exact (by (with_reducible repeat (first | apply Kd.V_alloc | apply Kd.V_drewN | apply Kd.V_drew)); exact HO_1.out)⟩; have n1_ : Aside0 (w52.heap[gb145]? = some (.cells #[.slice A0_0 l0_0.length c0_0, .slice A0_1 l0_1.length c0_1, .slice A0_2 l0_2.length c0_2, .slice A0_3 l0_3.length c0_3] 24 (0, 0))) := ⟨by rw [← hq_]; exact (by (with_reducible repeat first | apply kn12 | apply kd12 | apply ka12); exact BK145.out)⟩; have n2_ : Aside0 (w52.heap[gb146]? = some (.cells #[.slice none 0 0, .slice none 0 0, .slice none 0 0, .slice none 0 0] 24 (0, 0))) := ⟨by rw [← hq_]; exact (by (with_reducible repeat first | apply kn12 | apply kd12 | apply ka12); exact BK146.out)⟩; have n3_ : Aside0 (w52.heap[gb147]? = some (.cells #[.slice A0_0 l0_0.length c0_0, .slice A0_1 l0_1.length c0_1, .slice A0_2 l0_2.length c0_2, .slice A0_3 l0_3.length c0_3] 48 (0, 0))) := ⟨by rw [← hq_]; exact (by (with_reducible repeat first | apply kn12 | apply kd12 | apply ka12); exact BK147.out)⟩; have n4_ : Aside0 (Below w.heap.size w w52) := ⟨by rw [← hq_]; exact (by repeat (first | (with_reducible first | exact HB.out | apply ba12 | apply bn12 | apply bd12 | refine bs12 ?_ GE145.out | refine bs12 ?_ GE146.out | refine bs12 ?_ GE147.out) | exact HB.out))⟩; clear HO_1 BK145 BK146 BK147 HB hq_; have HO_1 := n0_; have BK145 := n1_; have BK146 := n2_; have BK147 := n3_; have HB := n4_; clear n0_ n1_ n2_ n3_ n4_)); have hnb54 := NB146_145.out; have hnc54 := NB145_146.out; have hcz55_0 : w52.cell? ⟨gb146, 0, none⟩ = some (.slice none 0 0) := (kc12 BK146.out 0).trans rfl; have hcz55_1 : w52.cell? ⟨gb146, 1, none⟩ = some (.slice none 0 0) := (kc12 BK146.out 1).trans rfl; have hcz55_2 : w52.cell? ⟨gb146, 2, none⟩ = some (.slice none 0 0) := (kc12 BK146.out 2).trans rfl; have hcz55_3 : w52.cell? ⟨gb146, 3, none⟩ = some (.slice none 0 0) := (kc12 BK146.out 3).trans rfl; have hfz55_0 := kz12 BK146.out 0; have hfz55_1 := kz12 BK146.out 1; have hfz55_2 := kz12 BK146.out 2; have hfz55_3 := kz12 BK146.out 3))
      refine bodyPost_ret (results_ct rfl _ _ gb146 24 #[.slice none 0 0, .slice none 0 0, .slice none 0 0, .slice none 0 0] (0, 0) _ rfl (by (with_reducible repeat first | apply kn12 | apply kd12 | apply ka12); refine blk_put (cs:=#[.slice none 0 0, .slice none 0 0, .slice none 0 0, .slice none 0 0]) ?_ 3 _ rfl; (with_reducible repeat first | apply kn12 | apply kd12 | apply ka12); refine blk_put (cs:=#[.slice none 0 0, .slice none 0 0, .slice none 0 0, .slice none 0 0]) ?_ 2 _ rfl; (with_reducible repeat first | apply kn12 | apply kd12 | apply ka12); refine blk_put (cs:=#[.slice none 0 0, .slice none 0 0, .slice none 0 0, .slice none 0 0]) ?_ 1 _ rfl; (with_reducible repeat first | apply kn12 | apply kd12 | apply ka12); refine blk_put (cs:=#[.slice none 0 0, .slice none 0 0, .slice none 0 0, .slice none 0 0]) ?_ 0 _ rfl; (with_reducible repeat first | apply kn12 | apply kd12 | apply ka12); exact BK146.out) Try.underlying24 rfl (by kernel_rfl)) rfl ?_
      exact ⟨_, _, _, _, by first | rfl | (simp [errW_none, errW_some] <;> rfl) | (simp [*, errW_none, errW_some] <;> rfl), by first | exact Kd.R_nil _ _ _ _ _ | exact Kd.N_nil _ _ _ _ _ | exact Kd.V_nil _ _ _ _ _ | exact Kd.Q_nil _ _ _ _ _ | exact Kd.S_nil _ _ _ _ _, by first | exact Kd.R_nil _ _ _ _ _ | exact Kd.N_nil _ _ _ _ _ | exact Kd.V_nil _ _ _ _ _ | exact Kd.Q_nil _ _ _ _ _ | exact Kd.S_nil _ _ _ _ _, by first | exact Kd.R_nil _ _ _ _ _ | exact Kd.N_nil _ _ _ _ _ | exact Kd.V_nil _ _ _ _ _ | exact Kd.Q_nil _ _ _ _ _ | exact Kd.S_nil _ _ _ _ _, by first | exact Kd.R_nil _ _ _ _ _ | exact Kd.N_nil _ _ _ _ _ | exact Kd.V_nil _ _ _ _ _ | exact Kd.Q_nil _ _ _ _ _ | exact Kd.S_nil _ _ _ _ _, by repeat (first | (with_reducible first | exact HB.out | apply ba12 | apply bn12 | apply bd12 | refine bs12 ?_ GE145.out | refine bs12 ?_ GE146.out | refine bs12 ?_ GE147.out) | exact HB.out)⟩
     ·replace c48 := Bool.eq_false_iff.mpr c48
      subst c48
      rw [if_neg (show ¬ (false = true) by decide)] at H
      replace H := Option.bind_eq_some_iff.mp H
      obtain ⟨t155, A560, H⟩ := H
      try dsimp only at H
      have A56 := Am12 A560
      clear A560
      replace H := Option.bind_eq_some_iff.mp H
      obtain ⟨t158, A570, H⟩ := H
      try dsimp only at H
      have A57 := Am12 A570
      clear A570
      replace H := Option.bind_eq_some_iff.mp H
      obtain ⟨t161, A580, H⟩ := H
      try dsimp only at H
      have A58 := Am12 A580
      clear A580
      simp only [Option.some.injEq, Prod.mk.injEq] at H
      obtain ⟨rfl, rfl, rfl, rfl, rfl⟩ := H
      have hnb59 := NB147_145.out
      have hnc59 := NB145_147.out
      have hnb60 := NB147_146.out
      have hnc60 := NB146_147.out
      have hcz61_0 : wc.cell? ⟨gb147, 0, none⟩ = some (.slice A0_0 l0_0.length c0_0) := (kc12 BK147.out 0).trans rfl
      have hcz61_1 : wc.cell? ⟨gb147, 1, none⟩ = some (.slice A0_1 l0_1.length c0_1) := (kc12 BK147.out 1).trans rfl
      have hcz61_2 : wc.cell? ⟨gb147, 2, none⟩ = some (.slice A0_2 l0_2.length c0_2) := (kc12 BK147.out 2).trans rfl
      have hcz61_3 : wc.cell? ⟨gb147, 3, none⟩ = some (.slice A0_3 l0_3.length c0_3) := (kc12 BK147.out 3).trans rfl
      have hfz61_0 := kz12 BK147.out 0
      have hfz61_1 := kz12 BK147.out 1
      have hfz61_2 := kz12 BK147.out 2
      have hfz61_3 := kz12 BK147.out 3
      try go_wp2_with (first | ((with_reducible refine gate_callee (f:=36) rfl ?_); refine goesL_ (some 28) rfl rfl Try.func36 (by kernel_rfl) rfl #[.agg #[.slice A0_0 l0_0.length c0_0, .slice A0_1 l0_1.length c0_1, .slice A0_2 l0_2.length c0_2, .slice A0_3 l0_3.length c0_3]] rfl (by (try simp only [ma12, mc12, mn12]); first | done | rfl | (simp only [ld12, lt_12]; rfl)) ?_; (with_reducible refine (quorum_group_changes.calls _ _ l0_0 _ _ l0_1 _ _ l0_2 _ _ l0_3 false _ ?side1 ?side2 ?side3 ?side4 ?side5 ?side6 ?side7 ?side8 A39.out).mono ?_); (case side1 => repeat (first | exact (Kd.C_below HR0_0.out HB.out) | (with_reducible refine Kd.C_alloc ?_ _) | (with_reducible refine Kd.C_drewN ?_ _) | (with_reducible refine Kd.C_drew ?_))); (case side2 => exact HC0_0.out); (case side3 => repeat (first | exact (Kd.C_below HR0_1.out HB.out) | (with_reducible refine Kd.C_alloc ?_ _) | (with_reducible refine Kd.C_drewN ?_ _) | (with_reducible refine Kd.C_drew ?_))); (case side4 => exact HC0_1.out); (case side5 => repeat (first | exact (Kd.C_below HR0_2.out HB.out) | (with_reducible refine Kd.C_alloc ?_ _) | (with_reducible refine Kd.C_drewN ?_ _) | (with_reducible refine Kd.C_drew ?_))); (case side6 => exact HC0_2.out); (case side7 => repeat (first | exact (Kd.C_below HR0_3.out HB.out) | (with_reducible refine Kd.C_alloc ?_ _) | (with_reducible refine Kd.C_drewN ?_ _) | (with_reducible refine Kd.C_drew ?_))); (case side8 => exact HC0_3.out); rintro e w62 ⟨rfl, hb⟩; refine ⟨_, rfl, ?_⟩; replace HO_1 := Am12 (Kd.V_below (by (with_reducible repeat (first | apply Kd.V_alloc | apply Kd.V_drewN | apply Kd.V_drew)); exact HO_1.out) hb); replace BK145 := Am12 (kb12 (g:=gb145) (o:=.cells #[.slice A0_0 l0_0.length c0_0, .slice A0_1 l0_1.length c0_1, .slice A0_2 l0_2.length c0_2, .slice A0_3 l0_3.length c0_3] 24 (0, 0)) (by (with_reducible repeat first | apply kn12 | apply kd12 | apply ka12); exact BK145.out) hb); replace BK146 := Am12 (kb12 (g:=gb146) (o:=.cells #[.slice none 0 0, .slice none 0 0, .slice none 0 0, .slice none 0 0] 24 (0, 0)) (by (with_reducible repeat first | apply kn12 | apply kd12 | apply ka12); exact BK146.out) hb); replace BK147 := Am12 (kb12 (g:=gb147) (o:=.cells #[.slice A0_0 l0_0.length c0_0, .slice A0_1 l0_1.length c0_1, .slice A0_2 l0_2.length c0_2, .slice A0_3 l0_3.length c0_3] 48 (0, 0)) (by (with_reducible repeat first | apply kn12 | apply kd12 | apply ka12); exact BK147.out) hb); replace HB := Am12 (bp12 (by repeat (first | (with_reducible first | exact HB.out | apply ba12 | apply bn12 | apply bd12 | refine bs12 ?_ GE145.out | refine bs12 ?_ GE146.out | refine bs12 ?_ GE147.out) | exact HB.out)) hb); (try clear hb); (try clear hb2); (try clear hk); (try clear hi); have hcz63_0 : w62.cell? ⟨gb147, 0, none⟩ = some (.slice A0_0 l0_0.length c0_0) := (kc12 BK147.out 0).trans rfl; have hcz63_1 : w62.cell? ⟨gb147, 1, none⟩ = some (.slice A0_1 l0_1.length c0_1) := (kc12 BK147.out 1).trans rfl; have hcz63_2 : w62.cell? ⟨gb147, 2, none⟩ = some (.slice A0_2 l0_2.length c0_2) := (kc12 BK147.out 2).trans rfl; have hcz63_3 : w62.cell? ⟨gb147, 3, none⟩ = some (.slice A0_3 l0_3.length c0_3) := (kc12 BK147.out 3).trans rfl; have hfz63_0 := kz12 BK147.out 0; have hfz63_1 := kz12 BK147.out 1; have hfz63_2 := kz12 BK147.out 2; have hfz63_3 := kz12 BK147.out 3) | ((with_reducible refine gate_callee (f:=39) rfl ?_); refine goesL_ (some 35) rfl rfl Try.func39 (by kernel_rfl) rfl #[.slice A1 l1.length c1, .slice A0_0 l0_0.length c0_0] rfl (by (try simp only [ma12, mc12, mn12]); first | done | rfl | (simp only [ld12, lt_12]; rfl)) ?_; (with_reducible refine (slices_Equal_int_int.calls kj3 _ _ l1 _ _ l0_0 false _ ?side1 ?side2 ?side3 ?side4 A47.out).mono ?_); (case side1 => repeat (first | exact (Kd.V_reads' HO_1.out).2.2 | (with_reducible refine Kd.C_alloc ?_ _) | (with_reducible refine Kd.C_drewN ?_ _) | (with_reducible refine Kd.C_drew ?_))); (case side2 => exact (Kd.V_reads' HO_1.out).2.1); (case side3 => repeat (first | exact (Kd.C_below HR0_0.out HB.out) | (with_reducible refine Kd.C_alloc ?_ _) | (with_reducible refine Kd.C_drewN ?_ _) | (with_reducible refine Kd.C_drew ?_))); (case side4 => exact HC0_0.out); rintro e w' ⟨rfl, ⟨nd, rfl⟩⟩; refine ⟨_, rfl, ?_⟩; (try (rw [drewN_self w62]; generalize hq_ : World.drewN w62 _ = w62; have n0_ : Aside0 (Kd.V (Kd.int .i64) 3 w62 w.heap.size (fun k_ => (P1_ k_ ∨ w.heap.size ≤ k_) ∧ k_ ≠ gb145 ∧ k_ ≠ gb146 ∧ k_ ≠ gb147) (.slice A1 l1.length c1) l1) := ⟨by rw [← hq_]; exact (by (with_reducible repeat (first | apply Kd.V_alloc | apply Kd.V_drewN | apply Kd.V_drew)); exact HO_1.out)⟩; have n1_ : Aside0 (w62.heap[gb145]? = some (.cells #[.slice A0_0 l0_0.length c0_0, .slice A0_1 l0_1.length c0_1, .slice A0_2 l0_2.length c0_2, .slice A0_3 l0_3.length c0_3] 24 (0, 0))) := ⟨by rw [← hq_]; exact (by (with_reducible repeat first | apply kn12 | apply kd12 | apply ka12); exact BK145.out)⟩; have n2_ : Aside0 (w62.heap[gb146]? = some (.cells #[.slice none 0 0, .slice none 0 0, .slice none 0 0, .slice none 0 0] 24 (0, 0))) := ⟨by rw [← hq_]; exact (by (with_reducible repeat first | apply kn12 | apply kd12 | apply ka12); exact BK146.out)⟩; have n3_ : Aside0 (w62.heap[gb147]? = some (.cells #[.slice A0_0 l0_0.length c0_0, .slice A0_1 l0_1.length c0_1, .slice A0_2 l0_2.length c0_2, .slice A0_3 l0_3.length c0_3] 48 (0, 0))) := ⟨by rw [← hq_]; exact (by (with_reducible repeat first | apply kn12 | apply kd12 | apply ka12); exact BK147.out)⟩; have n4_ : Aside0 (Below w.heap.size w w62) := ⟨by rw [← hq_]; exact (by repeat (first | (with_reducible first | exact HB.out | apply ba12 | apply bn12 | apply bd12 | refine bs12 ?_ GE145.out | refine bs12 ?_ GE146.out | refine bs12 ?_ GE147.out) | exact HB.out))⟩; clear HO_1 BK145 BK146 BK147 HB hq_; have HO_1 := n0_; have BK145 := n1_; have BK146 := n2_; have BK147 := n3_; have HB := n4_; clear n0_ n1_ n2_ n3_ n4_))))
      replace HO_1 := Am12 (Kd.V_drew HO_1.out)
      replace BK145 := Am12 (kd12 BK145.out)
      replace BK146 := Am12 (kd12 BK146.out)
      replace BK147 := Am12 (kd12 BK147.out)
      replace HB := Am12 (bd12 HB.out)
      refine start_ (n:=14) (S:=fun w' => w'.cell? ⟨gb147, 0, none⟩ = some (.slice A0_0 l0_0.length c0_0) ∧ w'.cell? ⟨gb147, 1, none⟩ = some (.slice A0_1 l0_1.length c0_1) ∧ w'.cell? ⟨gb147, 2, none⟩ = some (.slice A0_2 l0_2.length c0_2) ∧ w'.cell? ⟨gb147, 3, none⟩ = some (.slice A0_3 l0_3.length c0_3)) (ds:=[]) (bb12 14 0) (by kernel_rfl) rfl rfl ⟨(kc12 BK147.out 0).trans rfl, (kc12 BK147.out 1).trans rfl, (kc12 BK147.out 2).trans rfl, (kc12 BK147.out 3).trans rfl⟩ (fun hHeld => ?_); refine with_tabW quorum_Begin.tab11 quorum_Begin.bits11 (fun HT_ HW_ => ?_)
      generalize w62.drew = w64 at HO_1 BK145 BK146 BK147 HB hHeld ⊢
      refine pure_ (i:=0) (N:=some 37) (v:=?_) (a' := ?_) (bb12 14 1) rfl rfl (any_of HT_.out (by kernel_rfl)) (fun _ _ _ h => h) (Or.inl ⟨by rfl, ?_⟩) ?_ ?_
      rotate_left
      ·intro w'
       go_simp
       with_reducible rfl
      rotate_left
      ·simp only [Act.put, sa12, sz12, ss12, i64_w, i32_w]
       rfl
      refine pure_ (i:=1) (N:=some 38) (v:=?_) (a' := ?_) (bb12 14 3) rfl rfl (any_of HT_.out (by kernel_rfl)) (fun _ _ _ h => h) (Or.inl ⟨by rfl, ?_⟩) ?_ ?_
      rotate_left
      ·intro w'
       go_simp
       with_reducible rfl
      rotate_left
      ·simp only [Act.put, sa12, sz12, ss12, i64_w, i32_w]
       rfl
      refine pure_ (i:=4) (N:=some 41) (v:=?_) (a' := ?_) (bb12 14 19) rfl rfl (any_of HT_.out (by kernel_rfl)) (fun _ _ _ h => h) (Or.inl ⟨by rfl, ?_⟩) ?_ ?_
      rotate_left
      ·intro w'
       go_simp
       with_reducible rfl
      rotate_left
      ·simp only [Act.put, sa12, sz12, ss12, i64_w, i32_w]
       rfl
      refine pure_ (i:=5) (N:=some 42) (v:=?_) (a' := ?_) (bb12 14 51) rfl rfl (any_of HT_.out (by kernel_rfl)) (fun _ _ _ h => h) (Or.inl ⟨by rfl, ?_⟩) ?_ ?_
      rotate_left
      ·intro w'
       go_simp
       with_reducible rfl
      rotate_left
      ·simp only [Act.put, sa12, sz12, ss12, i64_w, i32_w]
       rfl
      refine pure_ (i:=6) (N:=some 43) (v:=?_) (a' := ?_) (bb12 14 115) rfl rfl (any_of HT_.out (by kernel_rfl)) (fun _ _ _ h => h) (Or.inl ⟨by rfl, ?_⟩) ?_ ?_
      rotate_left
      ·intro w'
       go_simp
       with_reducible rfl
      rotate_left
      ·simp only [Act.put, sa12, sz12, ss12, i64_w, i32_w]
       rfl
      refine pure_ (i:=9) (N:=some 46) (v:=?_) (a' := ?_) (bb12 14 627) rfl rfl (any_of HT_.out (by kernel_rfl)) (fun _ _ _ h => h) (Or.inl ⟨by rfl, ?_⟩) ?_ ?_
      rotate_left
      ·intro w'
       go_simp
       with_reducible rfl
      rotate_left
      ·simp only [Act.put, sa12, sz12, ss12, i64_w, i32_w]
       rfl
      refine take_ (i:=2) (N:=some 39) (v:=?_) (a' := ?_) (bb12 14 631) rfl rfl (take_ofW HT_.out HW_.out (by kernel_rfl)) (fun _ _ _ h => h) (Or.inl ⟨by rfl, ?_⟩) hHeld ?_ ?_
      rotate_left
      ·rintro w' ⟨s0, s1, s2, s3⟩
       go_simp
       with_reducible rfl
      rotate_left
      ·simp only [Act.put, sa12, sz12, ss12, i64_w, i32_w]
       rfl
      refine take_ (i:=7) (N:=some 44) (v:=?_) (a' := ?_) (bb12 14 759) rfl rfl (take_ofW HT_.out HW_.out (by kernel_rfl)) (fun _ _ _ h => h) (Or.inl ⟨by rfl, ?_⟩) hHeld ?_ ?_
      rotate_left
      ·rintro w' ⟨s0, s1, s2, s3⟩
       go_simp
       with_reducible rfl
      rotate_left
      ·simp only [Act.put, sa12, sz12, ss12, i64_w, i32_w]
       rfl
      refine one_ (i:=3) (N:=some 40) (bb12 14 767) rfl rfl (one_of HT_.out (by kernel_rfl)) (by decide) (fun K hK => ?_)
      refine goes_ Try.func37 (by kernel_rfl) rfl #[.slice A0_0 l0_0.length c0_0] (by rfl) rfl rfl (by (try simp only [ma12, mc12, mn12]); first | done | rfl | (simp only [ld12, lt_12]; rfl)) ?_
      with_reducible refine (slices_Clone_int_int.calls _ _ l0_0 t155 _ ?side1 ?side2 A56.out).mono ?_
      (case side1 => repeat (first | exact (Kd.C_below HR0_0.out HB.out) | (with_reducible refine Kd.C_alloc ?_ _) | (with_reducible refine Kd.C_drewN ?_ _) | (with_reducible refine Kd.C_drew ?_)))
      (case side2 => exact HC0_0.out)
      rintro e w65 ⟨v156, rfl, ho0, hb⟩
      refine ⟨_, rfl, ?_⟩
      replace HO_1 := Am12 (Kd.V_elder' (by (with_reducible repeat (first | apply Kd.V_alloc | apply Kd.V_drewN | apply Kd.V_drew)); exact HO_1.out) (Ra_12 ho0) hb)
      have HO157 := Am12 (Rl12 (Kd.R_newM (M:=fun k_ => (w.heap.size ≤ k_)) ho0 (bz12 (by repeat (first | (with_reducible first | exact HB.out | apply ba12 | apply bn12 | apply bd12 | refine bs12 ?_ GE145.out | refine bs12 ?_ GE146.out | refine bs12 ?_ GE147.out) | exact HB.out))) (fun k_ h_ => h_)) (bz12 (by repeat (first | (with_reducible first | exact HB.out | apply ba12 | apply bn12 | apply bd12 | refine bs12 ?_ GE145.out | refine bs12 ?_ GE146.out | refine bs12 ?_ GE147.out) | exact HB.out))))
      replace BK145 := Am12 (kb12 (g:=gb145) (o:=.cells #[.slice A0_0 l0_0.length c0_0, .slice A0_1 l0_1.length c0_1, .slice A0_2 l0_2.length c0_2, .slice A0_3 l0_3.length c0_3] 24 (0, 0)) (by (with_reducible repeat first | apply kn12 | apply kd12 | apply ka12); exact BK145.out) hb)
      replace BK146 := Am12 (kb12 (g:=gb146) (o:=.cells #[.slice none 0 0, .slice none 0 0, .slice none 0 0, .slice none 0 0] 24 (0, 0)) (by (with_reducible repeat first | apply kn12 | apply kd12 | apply ka12); exact BK146.out) hb)
      replace BK147 := Am12 (kb12 (g:=gb147) (o:=.cells #[.slice A0_0 l0_0.length c0_0, .slice A0_1 l0_1.length c0_1, .slice A0_2 l0_2.length c0_2, .slice A0_3 l0_3.length c0_3] 48 (0, 0)) (by (with_reducible repeat first | apply kn12 | apply kd12 | apply ka12); exact BK147.out) hb)
      replace HB := Am12 (bp12 (by repeat (first | (with_reducible first | exact HB.out | apply ba12 | apply bn12 | apply bd12 | refine bs12 ?_ GE145.out | refine bs12 ?_ GE146.out | refine bs12 ?_ GE147.out) | exact HB.out)) hb)
      (try clear hb)
      (try clear hb2)
      (try clear hk)
      (try clear hi)
      (try clear ho0)
      refine hK.out _ _ ⟨(kc12 BK147.out 0).trans rfl, (kc12 BK147.out 1).trans rfl, (kc12 BK147.out 2).trans rfl, (kc12 BK147.out 3).trans rfl⟩ (fun hHeld => ?_)
      clear hK K
      refine norm_ (a' := ?_) ?_ ?_
      rotate_left
      ·show Act.put _ (some 40) _ = _
       simp only [Act.put, sa12, sz12, ss12, i64_w, i32_w]
       rfl
      refine one_ (i:=8) (N:=some 45) (bb12 14 1023) rfl rfl (one_of HT_.out (by kernel_rfl)) (by decide) (fun K hK => ?_)
      refine goes_ Try.func40 (by kernel_rfl) rfl #[.slice A1 l1.length c1, .slice A0_0 l0_0.length c0_0] (by rfl) rfl rfl (by (try simp only [ma12, mc12, mn12]); first | done | rfl | (simp only [ld12, lt_12]; rfl)) ?_
      with_reducible refine (quorum_without.calls kj3 _ _ l1 _ _ l0_0 t158 _ ?side1 ?side2 ?side3 ?side4 A57.out).mono ?_
      (case side1 => repeat (first | exact (Kd.V_reads' HO_1.out).2.2 | (with_reducible refine Kd.C_alloc ?_ _) | (with_reducible refine Kd.C_drewN ?_ _) | (with_reducible refine Kd.C_drew ?_)))
      (case side2 => exact (Kd.V_reads' HO_1.out).2.1)
      (case side3 => repeat (first | exact (Kd.C_below HR0_0.out HB.out) | (with_reducible refine Kd.C_alloc ?_ _) | (with_reducible refine Kd.C_drewN ?_ _) | (with_reducible refine Kd.C_drew ?_)))
      (case side4 => exact HC0_0.out)
      rintro e w66 ⟨v159, rfl, ho0, hb⟩
      refine ⟨_, rfl, ?_⟩
      replace HO_1 := Am12 (Kd.V_elder' (by (with_reducible repeat (first | apply Kd.V_alloc | apply Kd.V_drewN | apply Kd.V_drew)); exact HO_1.out) (Ra_12 ho0) hb)
      have HO160 := Am12 (Rl12 (Rw12 (Kd.R_newM (M:=fun k_ => (w.heap.size ≤ k_)) ho0 (bz12 (by repeat (first | (with_reducible first | exact HB.out | apply ba12 | apply bn12 | apply bd12 | refine bs12 ?_ GE145.out | refine bs12 ?_ GE146.out | refine bs12 ?_ GE147.out) | exact HB.out))) (fun k_ h_ => h_)) (Rt12 (by (with_reducible repeat first | apply Ra12 | apply Rn12 | apply Rd12); exact HO157.out))) (bz12 (by repeat (first | (with_reducible first | exact HB.out | apply ba12 | apply bn12 | apply bd12 | refine bs12 ?_ GE145.out | refine bs12 ?_ GE146.out | refine bs12 ?_ GE147.out) | exact HB.out))))
      replace HO157 := Am12 (Re12 (by (with_reducible repeat first | apply Ra12 | apply Rn12 | apply Rd12); exact HO157.out) (Ra_12 ho0) hb)
      replace BK145 := Am12 (kb12 (g:=gb145) (o:=.cells #[.slice A0_0 l0_0.length c0_0, .slice A0_1 l0_1.length c0_1, .slice A0_2 l0_2.length c0_2, .slice A0_3 l0_3.length c0_3] 24 (0, 0)) (by (with_reducible repeat first | apply kn12 | apply kd12 | apply ka12); exact BK145.out) hb)
      replace BK146 := Am12 (kb12 (g:=gb146) (o:=.cells #[.slice none 0 0, .slice none 0 0, .slice none 0 0, .slice none 0 0] 24 (0, 0)) (by (with_reducible repeat first | apply kn12 | apply kd12 | apply ka12); exact BK146.out) hb)
      replace BK147 := Am12 (kb12 (g:=gb147) (o:=.cells #[.slice A0_0 l0_0.length c0_0, .slice A0_1 l0_1.length c0_1, .slice A0_2 l0_2.length c0_2, .slice A0_3 l0_3.length c0_3] 48 (0, 0)) (by (with_reducible repeat first | apply kn12 | apply kd12 | apply ka12); exact BK147.out) hb)
      replace HB := Am12 (bp12 (by repeat (first | (with_reducible first | exact HB.out | apply ba12 | apply bn12 | apply bd12 | refine bs12 ?_ GE145.out | refine bs12 ?_ GE146.out | refine bs12 ?_ GE147.out) | exact HB.out)) hb)
      (try clear hb)
      (try clear hb2)
      (try clear hk)
      (try clear hi)
      (try clear ho0)
      refine hK.out _ _ ⟨(kc12 BK147.out 0).trans rfl, (kc12 BK147.out 1).trans rfl, (kc12 BK147.out 2).trans rfl, (kc12 BK147.out 3).trans rfl⟩ (fun hHeld => ?_)
      clear hK K
      refine norm_ (a' := ?_) ?_ ?_
      rotate_left
      ·show Act.put _ (some 45) _ = _
       simp only [Act.put, sa12, sz12, ss12, i64_w, i32_w]
       rfl
      refine one_ (i:=10) (N:=some 47) (bb12 14 2047) rfl rfl (one_of HT_.out (by kernel_rfl)) (by decide) (fun K hK => ?_)
      refine goes_ Try.func37 (by kernel_rfl) rfl #[.slice A1 l1.length c1] (by rfl) rfl rfl (by (try simp only [ma12, mc12, mn12]); first | done | rfl | (simp only [ld12, lt_12]; rfl)) ?_
      with_reducible refine (slices_Clone_int_int.calls _ _ l1 t161 _ ?side1 ?side2 A58.out).mono ?_
      (case side1 => repeat (first | exact (Kd.V_reads' HO_1.out).2.2 | (with_reducible refine Kd.C_alloc ?_ _) | (with_reducible refine Kd.C_drewN ?_ _) | (with_reducible refine Kd.C_drew ?_)))
      (case side2 => exact (Kd.V_reads' HO_1.out).2.1)
      rintro e w67 ⟨v162, rfl, ho0, hb⟩
      refine ⟨_, rfl, ?_⟩
      replace HO_1 := Am12 (Kd.V_elder' (by (with_reducible repeat (first | apply Kd.V_alloc | apply Kd.V_drewN | apply Kd.V_drew)); exact HO_1.out) (Ra_12 ho0) hb)
      have HO163 := Am12 (Rl12 (Rw12 (Rw12 (Kd.R_newM (M:=fun k_ => (w.heap.size ≤ k_)) ho0 (bz12 (by repeat (first | (with_reducible first | exact HB.out | apply ba12 | apply bn12 | apply bd12 | refine bs12 ?_ GE145.out | refine bs12 ?_ GE146.out | refine bs12 ?_ GE147.out) | exact HB.out))) (fun k_ h_ => h_)) (Rt12 (by (with_reducible repeat first | apply Ra12 | apply Rn12 | apply Rd12); exact HO157.out))) (Rt12 (by (with_reducible repeat first | apply Ra12 | apply Rn12 | apply Rd12); exact HO160.out))) (bz12 (by repeat (first | (with_reducible first | exact HB.out | apply ba12 | apply bn12 | apply bd12 | refine bs12 ?_ GE145.out | refine bs12 ?_ GE146.out | refine bs12 ?_ GE147.out) | exact HB.out))))
      replace HO157 := Am12 (Re12 (by (with_reducible repeat first | apply Ra12 | apply Rn12 | apply Rd12); exact HO157.out) (Ra_12 ho0) hb)
      replace HO160 := Am12 (Re12 (by (with_reducible repeat first | apply Ra12 | apply Rn12 | apply Rd12); exact HO160.out) (Ra_12 ho0) hb)
      replace BK145 := Am12 (kb12 (g:=gb145) (o:=.cells #[.slice A0_0 l0_0.length c0_0, .slice A0_1 l0_1.length c0_1, .slice A0_2 l0_2.length c0_2, .slice A0_3 l0_3.length c0_3] 24 (0, 0)) (by (with_reducible repeat first | apply kn12 | apply kd12 | apply ka12); exact BK145.out) hb)
      replace BK146 := Am12 (kb12 (g:=gb146) (o:=.cells #[.slice none 0 0, .slice none 0 0, .slice none 0 0, .slice none 0 0] 24 (0, 0)) (by (with_reducible repeat first | apply kn12 | apply kd12 | apply ka12); exact BK146.out) hb)
      replace BK147 := Am12 (kb12 (g:=gb147) (o:=.cells #[.slice A0_0 l0_0.length c0_0, .slice A0_1 l0_1.length c0_1, .slice A0_2 l0_2.length c0_2, .slice A0_3 l0_3.length c0_3] 48 (0, 0)) (by (with_reducible repeat first | apply kn12 | apply kd12 | apply ka12); exact BK147.out) hb)
      replace HB := Am12 (bp12 (by repeat (first | (with_reducible first | exact HB.out | apply ba12 | apply bn12 | apply bd12 | refine bs12 ?_ GE145.out | refine bs12 ?_ GE146.out | refine bs12 ?_ GE147.out) | exact HB.out)) hb)
      (try clear hb)
      (try clear hb2)
      (try clear hk)
      (try clear hi)
      (try clear ho0)
      obtain ⟨Ao68, co68, eo68⟩ := Kd.R_slice HO163.out
      (first | subst eo68 | (injection eo68 with f1_ f2_ f3_; have f4_ := f1_.symm; have f5_ := f3_.symm; clear f1_ f2_ f3_; subst f4_; subst f5_))
      obtain ⟨Ao69, co69, eo69⟩ := Kd.R_slice HO160.out
      (first | subst eo69 | (injection eo69 with f1_ f2_ f3_; have f4_ := f1_.symm; have f5_ := f3_.symm; clear f1_ f2_ f3_; subst f4_; subst f5_))
      obtain ⟨Ao70, co70, eo70⟩ := Kd.R_slice HO157.out
      (first | subst eo70 | (injection eo70 with f1_ f2_ f3_; have f4_ := f1_.symm; have f5_ := f3_.symm; clear f1_ f2_ f3_; subst f4_; subst f5_))
      refine hK.out _ _ ⟨(kc12 BK147.out 0).trans rfl, (kc12 BK147.out 1).trans rfl, (kc12 BK147.out 2).trans rfl, (kc12 BK147.out 3).trans rfl⟩ (fun hHeld => ?_)
      clear hK K
      refine norm_ (a' := ?_) ?_ ?_
      rotate_left
      ·show Act.put _ (some 47) _ = _
       simp only [Act.put, sa12, sz12, ss12, i64_w, i32_w]
       rfl
      refine pure_ (i:=11) (N:=some 48) (v:=?_) (a' := ?_) (bb12 14 4095) rfl rfl (any_of HT_.out (by kernel_rfl)) (fun _ _ _ h => h) (Or.inl ⟨by rfl, ?_⟩) ?_ ?_
      rotate_left
      ·intro w'
       go_simp
       with_reducible rfl
      rotate_left
      ·simp only [Act.put, sa12, sz12, ss12, i64_w, i32_w]
       rfl
      refine one_ (i:=12) (N:=none) (bb12 14 8191) rfl rfl (one_of HT_.out (by kernel_rfl)) (by decide) (fun K hK => ?_)
      have hs71 : w67.cell? ⟨gb146, 0, none⟩ = some (.slice none 0 0) := (kc12 BK146.out 0).trans rfl
      have hfs71 := kz12 BK146.out 0
      have hns71_0 := NB145_146.out
      have hns71_2 := NB147_146.out
      have hms71_0 := NB146_145.out
      have hms71_2 := NB146_147.out
      have hs72 : w67.cell? ⟨gb146, 1, none⟩ = some (.slice none 0 0) := (kc12 BK146.out 1).trans rfl
      have hfs72 := kz12 BK146.out 1
      have hns72_0 := NB145_146.out
      have hns72_2 := NB147_146.out
      have hms72_0 := NB146_145.out
      have hms72_2 := NB146_147.out
      have hs73 : w67.cell? ⟨gb146, 2, none⟩ = some (.slice none 0 0) := (kc12 BK146.out 2).trans rfl
      have hfs73 := kz12 BK146.out 2
      have hns73_0 := NB145_146.out
      have hns73_2 := NB147_146.out
      have hms73_0 := NB146_145.out
      have hms73_2 := NB146_147.out
      have hs74 : w67.cell? ⟨gb146, 3, none⟩ = some (.slice none 0 0) := (kc12 BK146.out 3).trans rfl
      have hfs74 := kz12 BK146.out 3
      have hns74_0 := NB145_146.out
      have hns74_2 := NB147_146.out
      have hms74_0 := NB146_145.out
      have hms74_2 := NB146_147.out
      refine skip_ (w1:=?_) (by rfl) rfl ?_ ?_
      rotate_left
      ·go_simp
       rfl
      refine hK.out _ _ ⟨((cell_far (p:=⟨gb146, _, none⟩) NB147_146.out _).trans (((cell_far (p:=⟨gb146, _, none⟩) NB147_146.out _).trans (((cell_far (p:=⟨gb146, _, none⟩) NB147_146.out _).trans (((cell_far (p:=⟨gb146, _, none⟩) NB147_146.out _).trans (hHeld.1)))))))), ((cell_far (p:=⟨gb146, _, none⟩) NB147_146.out _).trans (((cell_far (p:=⟨gb146, _, none⟩) NB147_146.out _).trans (((cell_far (p:=⟨gb146, _, none⟩) NB147_146.out _).trans (((cell_far (p:=⟨gb146, _, none⟩) NB147_146.out _).trans (hHeld.2.1)))))))), ((cell_far (p:=⟨gb146, _, none⟩) NB147_146.out _).trans (((cell_far (p:=⟨gb146, _, none⟩) NB147_146.out _).trans (((cell_far (p:=⟨gb146, _, none⟩) NB147_146.out _).trans (((cell_far (p:=⟨gb146, _, none⟩) NB147_146.out _).trans (hHeld.2.2.1)))))))), ((cell_far (p:=⟨gb146, _, none⟩) NB147_146.out _).trans (((cell_far (p:=⟨gb146, _, none⟩) NB147_146.out _).trans (((cell_far (p:=⟨gb146, _, none⟩) NB147_146.out _).trans (((cell_far (p:=⟨gb146, _, none⟩) NB147_146.out _).trans (hHeld.2.2.2))))))))⟩ (fun hHeld => ?_)
      clear hK K
      refine pure_ (i:=13) (N:=some 5) (v:=?_) (a' := ?_) (bb12 14 16383) rfl rfl (any_of HT_.out (by kernel_rfl)) (fun _ _ _ h => h) (Or.inl ⟨by rfl, ?_⟩) ?_ ?_
      rotate_left
      ·intro w'
       go_simp
       with_reducible rfl
      rotate_left
      ·simp only [Act.put, sa12, sz12, ss12, i64_w, i32_w]
       rfl
      refine done_ (done_of HT_.out (by kernel_rfl)) ?_
      try go_wp2
      refine bodyPost_ret (results_ct rfl _ _ gb146 24 #[.slice Ao70 t155.length co70, .slice none 0 0, .slice Ao69 t158.length co69, .slice Ao68 t161.length co68] (0, 0) _ rfl (by (with_reducible repeat first | apply kn12 | apply kd12 | apply ka12); refine blk_put (cs:=#[.slice Ao70 t155.length co70, .slice none 0 0, .slice Ao69 t158.length co69, .slice none 0 0]) ?_ 3 _ rfl; (with_reducible repeat first | apply kn12 | apply kd12 | apply ka12); refine blk_put (cs:=#[.slice Ao70 t155.length co70, .slice none 0 0, .slice none 0 0, .slice none 0 0]) ?_ 2 _ rfl; (with_reducible repeat first | apply kn12 | apply kd12 | apply ka12); refine blk_put (cs:=#[.slice Ao70 t155.length co70, .slice none 0 0, .slice none 0 0, .slice none 0 0]) ?_ 1 _ rfl; (with_reducible repeat first | apply kn12 | apply kd12 | apply ka12); refine blk_put (cs:=#[.slice none 0 0, .slice none 0 0, .slice none 0 0, .slice none 0 0]) ?_ 0 _ rfl; (with_reducible repeat first | apply kn12 | apply kd12 | apply ka12); exact BK146.out) Try.underlying24 rfl (by kernel_rfl)) rfl ?_
      exact ⟨_, _, _, _, by first | rfl | (simp [errW_none, errW_some] <;> rfl) | (simp [*, errW_none, errW_some] <;> rfl), by (with_reducible repeat first | apply Ra12 | apply Rn12 | apply Rd12); exact Ro12 (Rf12 (p:=⟨gb146, 3, none⟩) (Rf12 (p:=⟨gb146, 2, none⟩) (Rf12 (p:=⟨gb146, 1, none⟩) (Rf12 (p:=⟨gb146, 0, none⟩) (Ry12 HO157.out BK146.out (by decide)) (fun _ h=>h.2) (.slice Ao70 t155.length co70)) (fun _ h=>h.2) (.slice none 0 0)) (fun _ h=>h.2) (.slice Ao69 t158.length co69)) (fun _ h=>h.2) (.slice Ao68 t161.length co68)) (fun _ hk => ⟨hk.1.1.1.1, ⟨(by simp [Value.ownBlock]), ⟨hk.1.1.2, hk.1.2⟩⟩⟩), by first | exact Kd.R_nil _ _ _ _ _ | exact Kd.N_nil _ _ _ _ _ | exact Kd.V_nil _ _ _ _ _ | exact Kd.Q_nil _ _ _ _ _ | exact Kd.S_nil _ _ _ _ _, by (with_reducible repeat first | apply Ra12 | apply Rn12 | apply Rd12); exact Ro12 (Rf12 (p:=⟨gb146, 3, none⟩) (Rf12 (p:=⟨gb146, 2, none⟩) (Rf12 (p:=⟨gb146, 1, none⟩) (Rf12 (p:=⟨gb146, 0, none⟩) (Ry12 HO160.out BK146.out (by decide)) (fun _ h=>h.2) (.slice Ao70 t155.length co70)) (fun _ h=>h.2) (.slice none 0 0)) (fun _ h=>h.2) (.slice Ao69 t158.length co69)) (fun _ h=>h.2) (.slice Ao68 t161.length co68)) (fun _ hk => ⟨hk.1.1.1.1, ⟨hk.1.1.2, ⟨(by simp [Value.ownBlock]), hk.1.2⟩⟩⟩), by (with_reducible repeat first | apply Ra12 | apply Rn12 | apply Rd12); exact Ro12 (Rf12 (p:=⟨gb146, 3, none⟩) (Rf12 (p:=⟨gb146, 2, none⟩) (Rf12 (p:=⟨gb146, 1, none⟩) (Rf12 (p:=⟨gb146, 0, none⟩) (Ry12 HO163.out BK146.out (by decide)) (fun _ h=>h.2) (.slice Ao70 t155.length co70)) (fun _ h=>h.2) (.slice none 0 0)) (fun _ h=>h.2) (.slice Ao69 t158.length co69)) (fun _ h=>h.2) (.slice Ao68 t161.length co68)) (fun _ hk => ⟨hk.1.1.1.1, ⟨hk.1.1.2, ⟨(by simp [Value.ownBlock]), hk.1.2⟩⟩⟩), by repeat (first | (with_reducible first | exact HB.out | apply ba12 | apply bn12 | apply bd12 | refine bs12 ?_ GE145.out | refine bs12 ?_ GE146.out | refine bs12 ?_ GE147.out) | exact HB.out)⟩

theorem Am15 : type_of% @Aside0.mk := @Aside0.mk
/-! ### watershedkit_SameInts: function 15 -/
def watershedkit_SameInts.l0 : Nat → List Int → List Int → Int → Option (Bool)
 | 0, _, _, _ => none
 | k + 1, x0, x1, x5 => if x5 < (x0.length : Int) then (if 0 ≤ x5 then (if x5 < (x1.length : Int) then (if (rd x0 x5) = (rd x1 x5) then (watershedkit_SameInts.l0 k x0 x1 (wrap64 (x5 + 1))) else (some false)) else (none)) else (none)) else (some true)
def watershedkit_SameInts.f (k : Nat) (l0 : List Int) (l1 : List Int) : Option (Bool) := if (l0.length : Int) = (l1.length : Int) then (watershedkit_SameInts.l0 k l0 l1 0) else (some false)
theorem watershedkit_SameInts.mono_l : ∀ k, (∀ y0 y1 y2, LeO (watershedkit_SameInts.l0 k y0 y1 y2) (watershedkit_SameInts.l0 (k + 1) y0 y1 y2))
 | 0 => fun _ _ _ r h => by simp [watershedkit_SameInts.l0] at h
 | k + 1 => by
  have ih0 := watershedkit_SameInts.mono_l k
  ·intro y0 y1 y2
   unfold watershedkit_SameInts.l0
   repeat' first
   | (with_reducible exact ih0 _ _ _)
   | (with_reducible exact LeO.refl _)
   | (with_reducible exact LeO.none _)
   | (with_reducible refine LeO.ite ?_ ?_)
   | (with_reducible refine LeO.bind ?_ (fun _ => ?_))
   | exact ih0 _ _ _
   | exact LeO.none _
   | refine LeO.ite ?_ ?_
   | refine LeO.bind ?_ (fun _ => ?_)
theorem watershedkit_SameInts.mono : ∀ a0 a1 k, LeO (watershedkit_SameInts.f k a0 a1) (watershedkit_SameInts.f (k + 1) a0 a1) := by
 intro a0 a1 k
 have ih0 := watershedkit_SameInts.mono_l k
 unfold watershedkit_SameInts.f
 repeat' first
   | (with_reducible exact ih0 _ _ _)
   | (with_reducible exact LeO.refl _)
   | (with_reducible exact LeO.none _)
   | (with_reducible refine LeO.ite ?_ ?_)
   | (with_reducible refine LeO.bind ?_ (fun _ => ?_))
   | exact ih0 _ _ _
   | exact LeO.none _
   | refine LeO.ite ?_ ?_
   | refine LeO.bind ?_ (fun _ => ?_)
set_option maxHeartbeats 8000000 in
set_option maxRecDepth 100000 in
theorem watershedkit_SameInts.calls (k : Nat) (A0 : Option Addr) (c0 : Nat) (l0 : List Int) (A1 : Option Addr) (c1 : Nat) (l1 : List Int) (r : Bool) (w : World) (hr0 : Kd.C (Kd.int .i64) w A0 l0.length l0) (hc0 : l0.length ≤ c0) (hr1 : Kd.C (Kd.int .i64) w A1 l1.length l1) (hc1 : l1.length ≤ c1) (h : watershedkit_SameInts.f k l0 l1 = some r) :
  Calls Try.prog 15 #[.slice A0 l0.length c0, .slice A1 l1.length c1] w fun e w' => e = .returned (.bool r) ∧ Drawn0 w w' := by
 have HR0 := Am15 hr0
 have HC0 := Am15 hc0
 clear hr0 hc0
 have HR1 := Am15 hr1
 have HC1 := Am15 hc1
 clear hr1 hc1
 have H : (if (l0.length : Int) = (l1.length : Int) then (watershedkit_SameInts.l0 k l0 l1 0) else (some false)) = some r := h
 clear h
 by_cases c3 : (l0.length : Int) = (l1.length : Int)
 ·rw [if_pos c3] at H
  have c3b0 : ((l0.length : Int) == (l1.length : Int)) = true := beq_iff_eq.mpr c3
  have c3b1 : ((l0.length : Int) != (l1.length : Int)) = false := bne_eq_false_iff_eq.mpr c3
  have c3b2 : (l0.length == l1.length) = true := by first | simpa using c3 | (simp at c3 ⊢; omega)
  clear c3
  have H' := Am15 H
  clear H
  go_enter Try.func15, Try.ntmps15
  go_wp2
  repeat (go_quiet (fail); try go_wp2)
  go_loopg [5] k (fun kq v5 w' => ∃ (x5_1 : Int), v5 = .int .i64 x5_1 ∧ Aside0 (watershedkit_SameInts.l0 kq l0 l1 x5_1 = some r) ∧ Aside0 (kq ≤ k) ∧ Drawn0 w w')
  case atStart => exact ⟨(0), (by first | rfl | (simp; done) | (simp [*]; done)), H', ⟨Nat.le_refl _⟩, by repeat (first | exact Drawn0.refl _ | apply Drawn0.step)⟩
  case round =>
   clear H'
   try clear c1
   try clear p2
   try clear c3
   try clear c3b0
   try clear c3b1
   try clear c3b2
   obtain ⟨x5_1, rfl, HA, HK1, ⟨m1, rfl⟩⟩ := hrel
   cases gk with
   | zero => exact absurd HA.out (by simp [watershedkit_SameInts.l0])
   | succ k1 =>
    have H := HA.out
    clear HA
    simp only [watershedkit_SameInts.l0] at H
    by_cases c4 : x5_1 < (l0.length : Int)
    ·rw [if_pos c4] at H
     have c4b0 : decide (x5_1 < (l0.length : Int)) = true := decide_eq_true c4
     clear c4
     by_cases c5 : 0 ≤ x5_1
     ·rw [if_pos c5] at H
      have c5b0 : decide (0 ≤ x5_1) = true := decide_eq_true c5
      clear c5
      by_cases c6 : x5_1 < (l1.length : Int)
      ·rw [if_pos c6] at H
       have c6b0 : decide (x5_1 < (l1.length : Int)) = true := decide_eq_true c6
       clear c6
       by_cases c7 : (rd l0 x5_1) = (rd l1 x5_1)
       ·rw [if_pos c7] at H
        have c7b0 : ((rd l0 x5_1) == (rd l1 x5_1)) = true := beq_iff_eq.mpr c7
        have c7b1 : ((rd l0 x5_1) != (rd l1 x5_1)) = false := bne_eq_false_iff_eq.mpr c7
        clear c7
        have H' := Am15 H
        clear H
        have p164 : 0 ≤ (x5_1 : Int) := of_decide_eq_true (by first | (with_reducible assumption) | assumption)
        have q164 : x5_1 < (l0.length : Int) := of_decide_eq_true (by first | (with_reducible assumption) | assumption)
        obtain ⟨ad164, e164, hx164_0⟩ := Kd.at_int HR0.out x5_1 p164 q164
        cases e164
        replace p164 := eq_true p164
        replace q164 := eq_true q164
        have p165 : 0 ≤ (x5_1 : Int) := of_decide_eq_true (by first | (with_reducible assumption) | assumption)
        have q165 : x5_1 < (l1.length : Int) := of_decide_eq_true (by first | (with_reducible assumption) | assumption)
        obtain ⟨ad165, e165, hx165_0⟩ := Kd.at_int HR1.out x5_1 p165 q165
        cases e165
        replace p165 := eq_true p165
        replace q165 := eq_true q165
        go_wp2
        repeat (go_quiet (fail); try go_wp2)
        go_roundg k1
        case measure => have := HK1.out; omega
        case rel => exact ⟨(wrap64 (x5_1 + 1)), (by first | rfl | (simp; done) | (simp [*]; done)), H', ⟨by have := HK1.out; omega⟩, by repeat (first | exact Drawn0.refl _ | apply Drawn0.step)⟩
       ·rw [if_neg c7] at H
        have c7b0 : ((rd l0 x5_1) == (rd l1 x5_1)) = false := beq_eq_false_iff_ne.mpr c7
        have c7b1 : ((rd l0 x5_1) != (rd l1 x5_1)) = true := bne_iff_ne.mpr c7
        obtain rfl := Option.some.inj H
        have p164 : 0 ≤ (x5_1 : Int) := of_decide_eq_true (by first | (with_reducible assumption) | assumption)
        have q164 : x5_1 < (l0.length : Int) := of_decide_eq_true (by first | (with_reducible assumption) | assumption)
        obtain ⟨ad164, e164, hx164_0⟩ := Kd.at_int HR0.out x5_1 p164 q164
        cases e164
        replace p164 := eq_true p164
        replace q164 := eq_true q164
        have p165 : 0 ≤ (x5_1 : Int) := of_decide_eq_true (by first | (with_reducible assumption) | assumption)
        have q165 : x5_1 < (l1.length : Int) := of_decide_eq_true (by first | (with_reducible assumption) | assumption)
        obtain ⟨ad165, e165, hx165_0⟩ := Kd.at_int HR1.out x5_1 p165 q165
        cases e165
        replace p165 := eq_true p165
        replace q165 := eq_true q165
        go_wp2
        repeat (go_quiet (fail); try go_wp2)
        go_ret
        exact ⟨by first | rfl | (simp; done) | (simp [*]; done), by repeat (first | exact Drawn0.refl _ | apply Drawn0.step)⟩
      ·rw [if_neg c6] at H
       exact absurd H (by simp)
     ·rw [if_neg c5] at H
      exact absurd H (by simp)
    ·rw [if_neg c4] at H
     have c4b0 : decide (x5_1 < (l0.length : Int)) = false := decide_eq_false c4
     clear c4
     obtain rfl := Option.some.inj H
     go_wp2
     repeat (go_quiet (fail); try go_wp2)
     go_ret
     exact ⟨by first | rfl | (simp; done) | (simp [*]; done), by repeat (first | exact Drawn0.refl _ | apply Drawn0.step)⟩
 ·rw [if_neg c3] at H
  have c3b0 : ((l0.length : Int) == (l1.length : Int)) = false := beq_eq_false_iff_ne.mpr c3
  have c3b1 : ((l0.length : Int) != (l1.length : Int)) = true := bne_iff_ne.mpr c3
  have c3b2 : (l0.length == l1.length) = false := by first | simpa using c3 | (simp at c3 ⊢; omega)
  obtain rfl := Option.some.inj H
  go_enter Try.func15, Try.ntmps15
  go_wp2
  repeat (go_quiet (fail); try go_wp2)
  go_ret
  exact ⟨by first | rfl | (simp; done) | (simp [*]; done), by repeat (first | exact Drawn0.refl _ | apply Drawn0.step)⟩

theorem Am13 : type_of% @Aside0.mk := @Aside0.mk
theorem ba13 : type_of% @below_alloc := @below_alloc
theorem bn13 : type_of% @pw_below_drewN := @pw_below_drewN
theorem bd13 : type_of% @below_drew1 := @below_drew1
theorem bs13 : type_of% @below_set := @below_set
theorem kn13 : type_of% @blk_drewN := @blk_drewN
theorem kd13 : type_of% @blk_drew := @blk_drew
theorem ka13 : type_of% @blk_alloc := @blk_alloc
theorem kb13 : type_of% @blk_below := @blk_below
theorem bz13 : type_of% @below_size := @below_size
theorem bp13 : type_of% @below_step := @below_step
theorem kc13 : type_of% @blk_cell := @blk_cell
theorem kz13 : type_of% @blk_frozen := @blk_frozen
theorem ma13 : type_of% @List.map_toArray := @List.map_toArray
theorem mc13 : type_of% @List.map_cons := @List.map_cons
theorem mn13 : type_of% @List.map_nil := @List.map_nil
theorem ld13 : type_of% @List.length_drop := @List.length_drop
theorem lt_13 : type_of% @List.length_take := @List.length_take
/-! ### watershedkit_SameConfig: function 13 -/
def watershedkit_SameConfig.f (k : Nat) (l0_0 : List Int) (l0_1 : List Int) (l0_2 : List Int) (l0_3 : List Int) (l1_0 : List Int) (l1_1 : List Int) (l1_2 : List Int) (l1_3 : List Int) : Option (Bool) := (watershedkit_SameInts.f k l0_0 l1_0).bind fun t168 => (if t168 = true then ((watershedkit_SameInts.f k l0_1 l1_1).bind fun t169 => (if t169 = true then ((watershedkit_SameInts.f k l0_2 l1_2).bind fun t170 => (if t170 = true then ((watershedkit_SameInts.f k l0_3 l1_3).bind fun t171 => (some t171)) else (some false))) else (some false))) else (some false))
theorem watershedkit_SameConfig.mono : ∀ a0 a1 a2 a3 a4 a5 a6 a7 k, LeO (watershedkit_SameConfig.f k a0 a1 a2 a3 a4 a5 a6 a7) (watershedkit_SameConfig.f (k + 1) a0 a1 a2 a3 a4 a5 a6 a7) := by
 intro a0 a1 a2 a3 a4 a5 a6 a7 k
 unfold watershedkit_SameConfig.f
 repeat' first
   | (with_reducible exact watershedkit_SameInts.mono _ _ _)
   | (with_reducible exact LeO.refl _)
   | (with_reducible exact LeO.none _)
   | (with_reducible refine LeO.ite ?_ ?_)
   | (with_reducible refine LeO.bind ?_ (fun _ => ?_))
   | exact watershedkit_SameInts.mono _ _ _
   | exact LeO.none _
   | refine LeO.ite ?_ ?_
   | refine LeO.bind ?_ (fun _ => ?_)
set_option maxHeartbeats 8000000 in
set_option maxRecDepth 100000 in
theorem watershedkit_SameConfig.calls (k : Nat) (A0_0 : Option Addr) (c0_0 : Nat) (l0_0 : List Int) (A0_1 : Option Addr) (c0_1 : Nat) (l0_1 : List Int) (A0_2 : Option Addr) (c0_2 : Nat) (l0_2 : List Int) (A0_3 : Option Addr) (c0_3 : Nat) (l0_3 : List Int) (A1_0 : Option Addr) (c1_0 : Nat) (l1_0 : List Int) (A1_1 : Option Addr) (c1_1 : Nat) (l1_1 : List Int) (A1_2 : Option Addr) (c1_2 : Nat) (l1_2 : List Int) (A1_3 : Option Addr) (c1_3 : Nat) (l1_3 : List Int) (r : Bool) (w : World) (hr0_0 : Kd.C (Kd.int .i64) w A0_0 l0_0.length l0_0) (hc0_0 : l0_0.length ≤ c0_0) (hr0_1 : Kd.C (Kd.int .i64) w A0_1 l0_1.length l0_1) (hc0_1 : l0_1.length ≤ c0_1) (hr0_2 : Kd.C (Kd.int .i64) w A0_2 l0_2.length l0_2) (hc0_2 : l0_2.length ≤ c0_2) (hr0_3 : Kd.C (Kd.int .i64) w A0_3 l0_3.length l0_3) (hc0_3 : l0_3.length ≤ c0_3) (hr1_0 : Kd.C (Kd.int .i64) w A1_0 l1_0.length l1_0) (hc1_0 : l1_0.length ≤ c1_0) (hr1_1 : Kd.C (Kd.int .i64) w A1_1 l1_1.length l1_1) (hc1_1 : l1_1.length ≤ c1_1) (hr1_2 : Kd.C (Kd.int .i64) w A1_2 l1_2.length l1_2) (hc1_2 : l1_2.length ≤ c1_2) (hr1_3 : Kd.C (Kd.int .i64) w A1_3 l1_3.length l1_3) (hc1_3 : l1_3.length ≤ c1_3) (h : watershedkit_SameConfig.f k l0_0 l0_1 l0_2 l0_3 l1_0 l1_1 l1_2 l1_3 = some r) :
  Calls Try.prog 13 #[.agg #[.slice A0_0 l0_0.length c0_0, .slice A0_1 l0_1.length c0_1, .slice A0_2 l0_2.length c0_2, .slice A0_3 l0_3.length c0_3], .agg #[.slice A1_0 l1_0.length c1_0, .slice A1_1 l1_1.length c1_1, .slice A1_2 l1_2.length c1_2, .slice A1_3 l1_3.length c1_3]] w fun e w' => e = .returned (.bool r) ∧ Below w.heap.size w w' := by
 have hu24 := Try.underlying24
 have HR0_0 := Am13 hr0_0
 have HC0_0 := Am13 hc0_0
 clear hr0_0 hc0_0
 have HR0_1 := Am13 hr0_1
 have HC0_1 := Am13 hc0_1
 clear hr0_1 hc0_1
 have HR0_2 := Am13 hr0_2
 have HC0_2 := Am13 hc0_2
 clear hr0_2 hc0_2
 have HR0_3 := Am13 hr0_3
 have HC0_3 := Am13 hc0_3
 clear hr0_3 hc0_3
 have HR1_0 := Am13 hr1_0
 have HC1_0 := Am13 hc1_0
 clear hr1_0 hc1_0
 have HR1_1 := Am13 hr1_1
 have HC1_1 := Am13 hc1_1
 clear hr1_1 hc1_1
 have HR1_2 := Am13 hr1_2
 have HC1_2 := Am13 hc1_2
 clear hr1_2 hc1_2
 have HR1_3 := Am13 hr1_3
 have HC1_3 := Am13 hc1_3
 clear hr1_3 hc1_3
 have HB := Am13 (Below.refl w.heap.size w)
 have H : ((watershedkit_SameInts.f k l0_0 l1_0).bind fun t168 => (if t168 = true then ((watershedkit_SameInts.f k l0_1 l1_1).bind fun t169 => (if t169 = true then ((watershedkit_SameInts.f k l0_2 l1_2).bind fun t170 => (if t170 = true then ((watershedkit_SameInts.f k l0_3 l1_3).bind fun t171 => (some t171)) else (some false))) else (some false))) else (some false))) = some r := h
 clear h
 replace H := Option.bind_eq_some_iff.mp H
 obtain ⟨t168, A30, H⟩ := H
 try dsimp only at H
 have A3 := Am13 A30
 clear A30
 by_cases c4 : t168 = true
 ·subst c4
  rw [if_pos rfl] at H
  replace H := Option.bind_eq_some_iff.mp H
  obtain ⟨t169, A50, H⟩ := H
  try dsimp only at H
  have A5 := Am13 A50
  clear A50
  by_cases c6 : t169 = true
  ·subst c6
   rw [if_pos rfl] at H
   replace H := Option.bind_eq_some_iff.mp H
   obtain ⟨t170, A70, H⟩ := H
   try dsimp only at H
   have A7 := Am13 A70
   clear A70
   by_cases c8 : t170 = true
   ·subst c8
    rw [if_pos rfl] at H
    replace H := Option.bind_eq_some_iff.mp H
    obtain ⟨t171, A90, H⟩ := H
    try dsimp only at H
    have A9 := Am13 A90
    clear A90
    obtain rfl := Option.some.inj H
    go_enter Try.func13, Try.ntmps13
    go_wp2_with (first | ((with_reducible refine gate_dst (N:=2) rfl ?_); refine box_event ?hg (N:=2) ?hd (cs:=#[.slice A0_0 l0_0.length c0_0, .slice A0_1 l0_1.length c0_1, .slice A0_2 l0_2.length c0_2, .slice A0_3 l0_3.length c0_3]) (t:=24) ?hr ?_; (case hd => rfl); (case hg => rfl); (case hr => first | (go_simp; done) | (go_simp; rfl)); intro gb166 hg w10 hbox hb; have BK166 := Am13 (hbox); have GW166 := Am13 ((by rw [hg]; exact (bz13 (by repeat (first | (with_reducible first | exact HB.out | apply ba13 | apply bn13 | apply bd13) | exact HB.out))) : w.heap.size ≤ gb166)); have GE166 := Am13 ((by rw [hg]; exact (bz13 (by repeat (first | (with_reducible first | exact HB.out | apply ba13 | apply bn13 | apply bd13) | exact HB.out))) : w.heap.size ≤ gb166)); replace HB := Am13 (bp13 (by repeat (first | (with_reducible first | exact HB.out | apply ba13 | apply bn13 | apply bd13) | exact HB.out)) hb); clear hb hbox hg) | ((with_reducible refine gate_dst (N:=3) rfl ?_); refine box_event ?hg (N:=3) ?hd (cs:=#[.slice A1_0 l1_0.length c1_0, .slice A1_1 l1_1.length c1_1, .slice A1_2 l1_2.length c1_2, .slice A1_3 l1_3.length c1_3]) (t:=24) ?hr ?_; (case hd => rfl); (case hg => rfl); (case hr => first | (go_simp; done) | (go_simp; rfl)); intro gb167 hg w11 hbox hb; have BK167 := Am13 (hbox); have GW167 := Am13 ((by rw [hg]; exact (bz13 (by repeat (first | (with_reducible first | exact HB.out | apply ba13 | apply bn13 | apply bd13 | refine bs13 ?_ GE166.out) | exact HB.out))) : w.heap.size ≤ gb167)); have GE167 := Am13 ((by rw [hg]; exact (bz13 (by repeat (first | (with_reducible first | exact HB.out | apply ba13 | apply bn13 | apply bd13 | refine bs13 ?_ GE166.out) | exact HB.out))) : w.heap.size ≤ gb167)); replace HB := Am13 (bp13 (by repeat (first | (with_reducible first | exact HB.out | apply ba13 | apply bn13 | apply bd13 | refine bs13 ?_ GE166.out) | exact HB.out)) hb); have NB166_167 := Am13 ((by rw [hg]; exact Nat.ne_of_lt (blk_lt (g:=gb166) (o:=.cells #[.slice A0_0 l0_0.length c0_0, .slice A0_1 l0_1.length c0_1, .slice A0_2 l0_2.length c0_2, .slice A0_3 l0_3.length c0_3] 24 (0, 0)) (by (with_reducible repeat first | apply kn13 | apply kd13 | apply ka13); exact BK166.out)) : gb166 ≠ gb167)); have NB167_166 := Am13 ((by rw [hg]; exact Nat.ne_of_gt (blk_lt (g:=gb166) (o:=.cells #[.slice A0_0 l0_0.length c0_0, .slice A0_1 l0_1.length c0_1, .slice A0_2 l0_2.length c0_2, .slice A0_3 l0_3.length c0_3] 24 (0, 0)) (by (with_reducible repeat first | apply kn13 | apply kd13 | apply ka13); exact BK166.out)) : gb167 ≠ gb166)); replace BK166 := Am13 (kb13 (g:=gb166) (o:=.cells #[.slice A0_0 l0_0.length c0_0, .slice A0_1 l0_1.length c0_1, .slice A0_2 l0_2.length c0_2, .slice A0_3 l0_3.length c0_3] 24 (0, 0)) (by (with_reducible repeat first | apply kn13 | apply kd13 | apply ka13); exact BK166.out) hb); clear hb hbox hg; have hnb12 := NB166_167.out; have hnc12 := NB167_166.out; have hcz13_0 : w11.cell? ⟨gb166, 0, none⟩ = some (.slice A0_0 l0_0.length c0_0) := (kc13 BK166.out 0).trans rfl; have hcz13_1 : w11.cell? ⟨gb166, 1, none⟩ = some (.slice A0_1 l0_1.length c0_1) := (kc13 BK166.out 1).trans rfl; have hcz13_2 : w11.cell? ⟨gb166, 2, none⟩ = some (.slice A0_2 l0_2.length c0_2) := (kc13 BK166.out 2).trans rfl; have hcz13_3 : w11.cell? ⟨gb166, 3, none⟩ = some (.slice A0_3 l0_3.length c0_3) := (kc13 BK166.out 3).trans rfl; have hfz13_0 := kz13 BK166.out 0; have hfz13_1 := kz13 BK166.out 1; have hfz13_2 := kz13 BK166.out 2; have hfz13_3 := kz13 BK166.out 3; have hcz14_0 : w11.cell? ⟨gb167, 0, none⟩ = some (.slice A1_0 l1_0.length c1_0) := (kc13 BK167.out 0).trans rfl; have hcz14_1 : w11.cell? ⟨gb167, 1, none⟩ = some (.slice A1_1 l1_1.length c1_1) := (kc13 BK167.out 1).trans rfl; have hcz14_2 : w11.cell? ⟨gb167, 2, none⟩ = some (.slice A1_2 l1_2.length c1_2) := (kc13 BK167.out 2).trans rfl; have hcz14_3 : w11.cell? ⟨gb167, 3, none⟩ = some (.slice A1_3 l1_3.length c1_3) := (kc13 BK167.out 3).trans rfl; have hfz14_0 := kz13 BK167.out 0; have hfz14_1 := kz13 BK167.out 1; have hfz14_2 := kz13 BK167.out 2; have hfz14_3 := kz13 BK167.out 3) | ((with_reducible refine gate_callee (f:=15) rfl ?_); refine goesL_ (some 9) rfl rfl Try.func15 (by kernel_rfl) rfl #[.slice A0_0 l0_0.length c0_0, .slice A1_0 l1_0.length c1_0] rfl (by (try simp only [ma13, mc13, mn13]); first | done | rfl | (simp only [ld13, lt_13]; rfl)) ?_; (with_reducible refine (watershedkit_SameInts.calls k _ _ l0_0 _ _ l1_0 true _ ?side1 ?side2 ?side3 ?side4 A3.out).mono ?_); (case side1 => repeat (first | exact (Kd.C_below HR0_0.out HB.out) | (with_reducible refine Kd.C_alloc ?_ _) | (with_reducible refine Kd.C_drewN ?_ _) | (with_reducible refine Kd.C_drew ?_))); (case side2 => exact HC0_0.out); (case side3 => repeat (first | exact (Kd.C_below HR1_0.out HB.out) | (with_reducible refine Kd.C_alloc ?_ _) | (with_reducible refine Kd.C_drewN ?_ _) | (with_reducible refine Kd.C_drew ?_))); (case side4 => exact HC1_0.out); rintro e w' ⟨rfl, ⟨nd, rfl⟩⟩; refine ⟨_, rfl, ?_⟩) | (go_at_call 15; (with_reducible refine (watershedkit_SameInts.calls k _ _ l0_1 _ _ l1_1 true _ ?side1 ?side2 ?side3 ?side4 A5.out).mono ?_); (case side1 => repeat (first | exact (Kd.C_below HR0_1.out (by repeat (first | (with_reducible first | exact HB.out | apply ba13 | apply bn13 | apply bd13 | refine bs13 ?_ GE166.out | refine bs13 ?_ GE167.out) | exact HB.out))) | (with_reducible refine Kd.C_alloc ?_ _) | (with_reducible refine Kd.C_drewN ?_ _) | (with_reducible refine Kd.C_drew ?_))); (case side2 => exact HC0_1.out); (case side3 => repeat (first | exact (Kd.C_below HR1_1.out (by repeat (first | (with_reducible first | exact HB.out | apply ba13 | apply bn13 | apply bd13 | refine bs13 ?_ GE166.out | refine bs13 ?_ GE167.out) | exact HB.out))) | (with_reducible refine Kd.C_alloc ?_ _) | (with_reducible refine Kd.C_drewN ?_ _) | (with_reducible refine Kd.C_drew ?_))); (case side4 => exact HC1_1.out); rintro e w' ⟨rfl, ⟨nd, rfl⟩⟩) | (go_at_call 15; (with_reducible refine (watershedkit_SameInts.calls k _ _ l0_2 _ _ l1_2 true _ ?side1 ?side2 ?side3 ?side4 A7.out).mono ?_); (case side1 => repeat (first | exact (Kd.C_below HR0_2.out (by repeat (first | (with_reducible first | exact HB.out | apply ba13 | apply bn13 | apply bd13 | refine bs13 ?_ GE166.out | refine bs13 ?_ GE167.out) | exact HB.out))) | (with_reducible refine Kd.C_alloc ?_ _) | (with_reducible refine Kd.C_drewN ?_ _) | (with_reducible refine Kd.C_drew ?_))); (case side2 => exact HC0_2.out); (case side3 => repeat (first | exact (Kd.C_below HR1_2.out (by repeat (first | (with_reducible first | exact HB.out | apply ba13 | apply bn13 | apply bd13 | refine bs13 ?_ GE166.out | refine bs13 ?_ GE167.out) | exact HB.out))) | (with_reducible refine Kd.C_alloc ?_ _) | (with_reducible refine Kd.C_drewN ?_ _) | (with_reducible refine Kd.C_drew ?_))); (case side4 => exact HC1_2.out); rintro e w' ⟨rfl, ⟨nd, rfl⟩⟩) | (go_at_call 15; (with_reducible refine (watershedkit_SameInts.calls k _ _ l0_3 _ _ l1_3 t171 _ ?side1 ?side2 ?side3 ?side4 A9.out).mono ?_); (case side1 => repeat (first | exact (Kd.C_below HR0_3.out (by repeat (first | (with_reducible first | exact HB.out | apply ba13 | apply bn13 | apply bd13 | refine bs13 ?_ GE166.out | refine bs13 ?_ GE167.out) | exact HB.out))) | (with_reducible refine Kd.C_alloc ?_ _) | (with_reducible refine Kd.C_drewN ?_ _) | (with_reducible refine Kd.C_drew ?_))); (case side2 => exact HC0_3.out); (case side3 => repeat (first | exact (Kd.C_below HR1_3.out (by repeat (first | (with_reducible first | exact HB.out | apply ba13 | apply bn13 | apply bd13 | refine bs13 ?_ GE166.out | refine bs13 ?_ GE167.out) | exact HB.out))) | (with_reducible refine Kd.C_alloc ?_ _) | (with_reducible refine Kd.C_drewN ?_ _) | (with_reducible refine Kd.C_drew ?_))); (case side4 => exact HC1_3.out); rintro e w' ⟨rfl, ⟨nd, rfl⟩⟩))
    go_ret
    exact ⟨by first | rfl | (simp [errW_none, errW_some] <;> rfl) | (simp [*, errW_none, errW_some] <;> rfl), by repeat (first | (with_reducible first | exact HB.out | apply ba13 | apply bn13 | apply bd13 | refine bs13 ?_ GE166.out | refine bs13 ?_ GE167.out) | exact HB.out)⟩
   ·replace c8 := Bool.eq_false_iff.mpr c8
    subst c8
    rw [if_neg (show ¬ (false = true) by decide)] at H
    obtain rfl := Option.some.inj H
    go_enter Try.func13, Try.ntmps13
    go_wp2_with (first | ((with_reducible refine gate_dst (N:=2) rfl ?_); refine box_event ?hg (N:=2) ?hd (cs:=#[.slice A0_0 l0_0.length c0_0, .slice A0_1 l0_1.length c0_1, .slice A0_2 l0_2.length c0_2, .slice A0_3 l0_3.length c0_3]) (t:=24) ?hr ?_; (case hd => rfl); (case hg => rfl); (case hr => first | (go_simp; done) | (go_simp; rfl)); intro gb166 hg w15 hbox hb; have BK166 := Am13 (hbox); have GW166 := Am13 ((by rw [hg]; exact (bz13 (by repeat (first | (with_reducible first | exact HB.out | apply ba13 | apply bn13 | apply bd13) | exact HB.out))) : w.heap.size ≤ gb166)); have GE166 := Am13 ((by rw [hg]; exact (bz13 (by repeat (first | (with_reducible first | exact HB.out | apply ba13 | apply bn13 | apply bd13) | exact HB.out))) : w.heap.size ≤ gb166)); replace HB := Am13 (bp13 (by repeat (first | (with_reducible first | exact HB.out | apply ba13 | apply bn13 | apply bd13) | exact HB.out)) hb); clear hb hbox hg) | ((with_reducible refine gate_dst (N:=3) rfl ?_); refine box_event ?hg (N:=3) ?hd (cs:=#[.slice A1_0 l1_0.length c1_0, .slice A1_1 l1_1.length c1_1, .slice A1_2 l1_2.length c1_2, .slice A1_3 l1_3.length c1_3]) (t:=24) ?hr ?_; (case hd => rfl); (case hg => rfl); (case hr => first | (go_simp; done) | (go_simp; rfl)); intro gb167 hg w16 hbox hb; have BK167 := Am13 (hbox); have GW167 := Am13 ((by rw [hg]; exact (bz13 (by repeat (first | (with_reducible first | exact HB.out | apply ba13 | apply bn13 | apply bd13 | refine bs13 ?_ GE166.out) | exact HB.out))) : w.heap.size ≤ gb167)); have GE167 := Am13 ((by rw [hg]; exact (bz13 (by repeat (first | (with_reducible first | exact HB.out | apply ba13 | apply bn13 | apply bd13 | refine bs13 ?_ GE166.out) | exact HB.out))) : w.heap.size ≤ gb167)); replace HB := Am13 (bp13 (by repeat (first | (with_reducible first | exact HB.out | apply ba13 | apply bn13 | apply bd13 | refine bs13 ?_ GE166.out) | exact HB.out)) hb); have NB166_167 := Am13 ((by rw [hg]; exact Nat.ne_of_lt (blk_lt (g:=gb166) (o:=.cells #[.slice A0_0 l0_0.length c0_0, .slice A0_1 l0_1.length c0_1, .slice A0_2 l0_2.length c0_2, .slice A0_3 l0_3.length c0_3] 24 (0, 0)) (by (with_reducible repeat first | apply kn13 | apply kd13 | apply ka13); exact BK166.out)) : gb166 ≠ gb167)); have NB167_166 := Am13 ((by rw [hg]; exact Nat.ne_of_gt (blk_lt (g:=gb166) (o:=.cells #[.slice A0_0 l0_0.length c0_0, .slice A0_1 l0_1.length c0_1, .slice A0_2 l0_2.length c0_2, .slice A0_3 l0_3.length c0_3] 24 (0, 0)) (by (with_reducible repeat first | apply kn13 | apply kd13 | apply ka13); exact BK166.out)) : gb167 ≠ gb166)); replace BK166 := Am13 (kb13 (g:=gb166) (o:=.cells #[.slice A0_0 l0_0.length c0_0, .slice A0_1 l0_1.length c0_1, .slice A0_2 l0_2.length c0_2, .slice A0_3 l0_3.length c0_3] 24 (0, 0)) (by (with_reducible repeat first | apply kn13 | apply kd13 | apply ka13); exact BK166.out) hb); clear hb hbox hg; have hnb17 := NB166_167.out; have hnc17 := NB167_166.out; have hcz18_0 : w16.cell? ⟨gb166, 0, none⟩ = some (.slice A0_0 l0_0.length c0_0) := (kc13 BK166.out 0).trans rfl; have hcz18_1 : w16.cell? ⟨gb166, 1, none⟩ = some (.slice A0_1 l0_1.length c0_1) := (kc13 BK166.out 1).trans rfl; have hcz18_2 : w16.cell? ⟨gb166, 2, none⟩ = some (.slice A0_2 l0_2.length c0_2) := (kc13 BK166.out 2).trans rfl; have hcz18_3 : w16.cell? ⟨gb166, 3, none⟩ = some (.slice A0_3 l0_3.length c0_3) := (kc13 BK166.out 3).trans rfl; have hfz18_0 := kz13 BK166.out 0; have hfz18_1 := kz13 BK166.out 1; have hfz18_2 := kz13 BK166.out 2; have hfz18_3 := kz13 BK166.out 3; have hcz19_0 : w16.cell? ⟨gb167, 0, none⟩ = some (.slice A1_0 l1_0.length c1_0) := (kc13 BK167.out 0).trans rfl; have hcz19_1 : w16.cell? ⟨gb167, 1, none⟩ = some (.slice A1_1 l1_1.length c1_1) := (kc13 BK167.out 1).trans rfl; have hcz19_2 : w16.cell? ⟨gb167, 2, none⟩ = some (.slice A1_2 l1_2.length c1_2) := (kc13 BK167.out 2).trans rfl; have hcz19_3 : w16.cell? ⟨gb167, 3, none⟩ = some (.slice A1_3 l1_3.length c1_3) := (kc13 BK167.out 3).trans rfl; have hfz19_0 := kz13 BK167.out 0; have hfz19_1 := kz13 BK167.out 1; have hfz19_2 := kz13 BK167.out 2; have hfz19_3 := kz13 BK167.out 3) | ((with_reducible refine gate_callee (f:=15) rfl ?_); refine goesL_ (some 9) rfl rfl Try.func15 (by kernel_rfl) rfl #[.slice A0_0 l0_0.length c0_0, .slice A1_0 l1_0.length c1_0] rfl (by (try simp only [ma13, mc13, mn13]); first | done | rfl | (simp only [ld13, lt_13]; rfl)) ?_; (with_reducible refine (watershedkit_SameInts.calls k _ _ l0_0 _ _ l1_0 true _ ?side1 ?side2 ?side3 ?side4 A3.out).mono ?_); (case side1 => repeat (first | exact (Kd.C_below HR0_0.out HB.out) | (with_reducible refine Kd.C_alloc ?_ _) | (with_reducible refine Kd.C_drewN ?_ _) | (with_reducible refine Kd.C_drew ?_))); (case side2 => exact HC0_0.out); (case side3 => repeat (first | exact (Kd.C_below HR1_0.out HB.out) | (with_reducible refine Kd.C_alloc ?_ _) | (with_reducible refine Kd.C_drewN ?_ _) | (with_reducible refine Kd.C_drew ?_))); (case side4 => exact HC1_0.out); rintro e w' ⟨rfl, ⟨nd, rfl⟩⟩; refine ⟨_, rfl, ?_⟩) | (go_at_call 15; (with_reducible refine (watershedkit_SameInts.calls k _ _ l0_1 _ _ l1_1 true _ ?side1 ?side2 ?side3 ?side4 A5.out).mono ?_); (case side1 => repeat (first | exact (Kd.C_below HR0_1.out (by repeat (first | (with_reducible first | exact HB.out | apply ba13 | apply bn13 | apply bd13 | refine bs13 ?_ GE166.out | refine bs13 ?_ GE167.out) | exact HB.out))) | (with_reducible refine Kd.C_alloc ?_ _) | (with_reducible refine Kd.C_drewN ?_ _) | (with_reducible refine Kd.C_drew ?_))); (case side2 => exact HC0_1.out); (case side3 => repeat (first | exact (Kd.C_below HR1_1.out (by repeat (first | (with_reducible first | exact HB.out | apply ba13 | apply bn13 | apply bd13 | refine bs13 ?_ GE166.out | refine bs13 ?_ GE167.out) | exact HB.out))) | (with_reducible refine Kd.C_alloc ?_ _) | (with_reducible refine Kd.C_drewN ?_ _) | (with_reducible refine Kd.C_drew ?_))); (case side4 => exact HC1_1.out); rintro e w' ⟨rfl, ⟨nd, rfl⟩⟩) | (go_at_call 15; (with_reducible refine (watershedkit_SameInts.calls k _ _ l0_2 _ _ l1_2 false _ ?side1 ?side2 ?side3 ?side4 A7.out).mono ?_); (case side1 => repeat (first | exact (Kd.C_below HR0_2.out (by repeat (first | (with_reducible first | exact HB.out | apply ba13 | apply bn13 | apply bd13 | refine bs13 ?_ GE166.out | refine bs13 ?_ GE167.out) | exact HB.out))) | (with_reducible refine Kd.C_alloc ?_ _) | (with_reducible refine Kd.C_drewN ?_ _) | (with_reducible refine Kd.C_drew ?_))); (case side2 => exact HC0_2.out); (case side3 => repeat (first | exact (Kd.C_below HR1_2.out (by repeat (first | (with_reducible first | exact HB.out | apply ba13 | apply bn13 | apply bd13 | refine bs13 ?_ GE166.out | refine bs13 ?_ GE167.out) | exact HB.out))) | (with_reducible refine Kd.C_alloc ?_ _) | (with_reducible refine Kd.C_drewN ?_ _) | (with_reducible refine Kd.C_drew ?_))); (case side4 => exact HC1_2.out); rintro e w' ⟨rfl, ⟨nd, rfl⟩⟩))
    go_ret
    exact ⟨by first | rfl | (simp [errW_none, errW_some] <;> rfl) | (simp [*, errW_none, errW_some] <;> rfl), by repeat (first | (with_reducible first | exact HB.out | apply ba13 | apply bn13 | apply bd13 | refine bs13 ?_ GE166.out | refine bs13 ?_ GE167.out) | exact HB.out)⟩
  ·replace c6 := Bool.eq_false_iff.mpr c6
   subst c6
   rw [if_neg (show ¬ (false = true) by decide)] at H
   obtain rfl := Option.some.inj H
   go_enter Try.func13, Try.ntmps13
   go_wp2_with (first | ((with_reducible refine gate_dst (N:=2) rfl ?_); refine box_event ?hg (N:=2) ?hd (cs:=#[.slice A0_0 l0_0.length c0_0, .slice A0_1 l0_1.length c0_1, .slice A0_2 l0_2.length c0_2, .slice A0_3 l0_3.length c0_3]) (t:=24) ?hr ?_; (case hd => rfl); (case hg => rfl); (case hr => first | (go_simp; done) | (go_simp; rfl)); intro gb166 hg w20 hbox hb; have BK166 := Am13 (hbox); have GW166 := Am13 ((by rw [hg]; exact (bz13 (by repeat (first | (with_reducible first | exact HB.out | apply ba13 | apply bn13 | apply bd13) | exact HB.out))) : w.heap.size ≤ gb166)); have GE166 := Am13 ((by rw [hg]; exact (bz13 (by repeat (first | (with_reducible first | exact HB.out | apply ba13 | apply bn13 | apply bd13) | exact HB.out))) : w.heap.size ≤ gb166)); replace HB := Am13 (bp13 (by repeat (first | (with_reducible first | exact HB.out | apply ba13 | apply bn13 | apply bd13) | exact HB.out)) hb); clear hb hbox hg) | ((with_reducible refine gate_dst (N:=3) rfl ?_); refine box_event ?hg (N:=3) ?hd (cs:=#[.slice A1_0 l1_0.length c1_0, .slice A1_1 l1_1.length c1_1, .slice A1_2 l1_2.length c1_2, .slice A1_3 l1_3.length c1_3]) (t:=24) ?hr ?_; (case hd => rfl); (case hg => rfl); (case hr => first | (go_simp; done) | (go_simp; rfl)); intro gb167 hg w21 hbox hb; have BK167 := Am13 (hbox); have GW167 := Am13 ((by rw [hg]; exact (bz13 (by repeat (first | (with_reducible first | exact HB.out | apply ba13 | apply bn13 | apply bd13 | refine bs13 ?_ GE166.out) | exact HB.out))) : w.heap.size ≤ gb167)); have GE167 := Am13 ((by rw [hg]; exact (bz13 (by repeat (first | (with_reducible first | exact HB.out | apply ba13 | apply bn13 | apply bd13 | refine bs13 ?_ GE166.out) | exact HB.out))) : w.heap.size ≤ gb167)); replace HB := Am13 (bp13 (by repeat (first | (with_reducible first | exact HB.out | apply ba13 | apply bn13 | apply bd13 | refine bs13 ?_ GE166.out) | exact HB.out)) hb); have NB166_167 := Am13 ((by rw [hg]; exact Nat.ne_of_lt (blk_lt (g:=gb166) (o:=.cells #[.slice A0_0 l0_0.length c0_0, .slice A0_1 l0_1.length c0_1, .slice A0_2 l0_2.length c0_2, .slice A0_3 l0_3.length c0_3] 24 (0, 0)) (by (with_reducible repeat first | apply kn13 | apply kd13 | apply ka13); exact BK166.out)) : gb166 ≠ gb167)); have NB167_166 := Am13 ((by rw [hg]; exact Nat.ne_of_gt (blk_lt (g:=gb166) (o:=.cells #[.slice A0_0 l0_0.length c0_0, .slice A0_1 l0_1.length c0_1, .slice A0_2 l0_2.length c0_2, .slice A0_3 l0_3.length c0_3] 24 (0, 0)) (by (with_reducible repeat first | apply kn13 | apply kd13 | apply ka13); exact BK166.out)) : gb167 ≠ gb166)); replace BK166 := Am13 (kb13 (g:=gb166) (o:=.cells #[.slice A0_0 l0_0.length c0_0, .slice A0_1 l0_1.length c0_1, .slice A0_2 l0_2.length c0_2, .slice A0_3 l0_3.length c0_3] 24 (0, 0)) (by (with_reducible repeat first | apply kn13 | apply kd13 | apply ka13); exact BK166.out) hb); clear hb hbox hg; have hnb22 := NB166_167.out; have hnc22 := NB167_166.out; have hcz23_0 : w21.cell? ⟨gb166, 0, none⟩ = some (.slice A0_0 l0_0.length c0_0) := (kc13 BK166.out 0).trans rfl; have hcz23_1 : w21.cell? ⟨gb166, 1, none⟩ = some (.slice A0_1 l0_1.length c0_1) := (kc13 BK166.out 1).trans rfl; have hcz23_2 : w21.cell? ⟨gb166, 2, none⟩ = some (.slice A0_2 l0_2.length c0_2) := (kc13 BK166.out 2).trans rfl; have hcz23_3 : w21.cell? ⟨gb166, 3, none⟩ = some (.slice A0_3 l0_3.length c0_3) := (kc13 BK166.out 3).trans rfl; have hfz23_0 := kz13 BK166.out 0; have hfz23_1 := kz13 BK166.out 1; have hfz23_2 := kz13 BK166.out 2; have hfz23_3 := kz13 BK166.out 3; have hcz24_0 : w21.cell? ⟨gb167, 0, none⟩ = some (.slice A1_0 l1_0.length c1_0) := (kc13 BK167.out 0).trans rfl; have hcz24_1 : w21.cell? ⟨gb167, 1, none⟩ = some (.slice A1_1 l1_1.length c1_1) := (kc13 BK167.out 1).trans rfl; have hcz24_2 : w21.cell? ⟨gb167, 2, none⟩ = some (.slice A1_2 l1_2.length c1_2) := (kc13 BK167.out 2).trans rfl; have hcz24_3 : w21.cell? ⟨gb167, 3, none⟩ = some (.slice A1_3 l1_3.length c1_3) := (kc13 BK167.out 3).trans rfl; have hfz24_0 := kz13 BK167.out 0; have hfz24_1 := kz13 BK167.out 1; have hfz24_2 := kz13 BK167.out 2; have hfz24_3 := kz13 BK167.out 3) | ((with_reducible refine gate_callee (f:=15) rfl ?_); refine goesL_ (some 9) rfl rfl Try.func15 (by kernel_rfl) rfl #[.slice A0_0 l0_0.length c0_0, .slice A1_0 l1_0.length c1_0] rfl (by (try simp only [ma13, mc13, mn13]); first | done | rfl | (simp only [ld13, lt_13]; rfl)) ?_; (with_reducible refine (watershedkit_SameInts.calls k _ _ l0_0 _ _ l1_0 true _ ?side1 ?side2 ?side3 ?side4 A3.out).mono ?_); (case side1 => repeat (first | exact (Kd.C_below HR0_0.out HB.out) | (with_reducible refine Kd.C_alloc ?_ _) | (with_reducible refine Kd.C_drewN ?_ _) | (with_reducible refine Kd.C_drew ?_))); (case side2 => exact HC0_0.out); (case side3 => repeat (first | exact (Kd.C_below HR1_0.out HB.out) | (with_reducible refine Kd.C_alloc ?_ _) | (with_reducible refine Kd.C_drewN ?_ _) | (with_reducible refine Kd.C_drew ?_))); (case side4 => exact HC1_0.out); rintro e w' ⟨rfl, ⟨nd, rfl⟩⟩; refine ⟨_, rfl, ?_⟩) | (go_at_call 15; (with_reducible refine (watershedkit_SameInts.calls k _ _ l0_1 _ _ l1_1 false _ ?side1 ?side2 ?side3 ?side4 A5.out).mono ?_); (case side1 => repeat (first | exact (Kd.C_below HR0_1.out (by repeat (first | (with_reducible first | exact HB.out | apply ba13 | apply bn13 | apply bd13 | refine bs13 ?_ GE166.out | refine bs13 ?_ GE167.out) | exact HB.out))) | (with_reducible refine Kd.C_alloc ?_ _) | (with_reducible refine Kd.C_drewN ?_ _) | (with_reducible refine Kd.C_drew ?_))); (case side2 => exact HC0_1.out); (case side3 => repeat (first | exact (Kd.C_below HR1_1.out (by repeat (first | (with_reducible first | exact HB.out | apply ba13 | apply bn13 | apply bd13 | refine bs13 ?_ GE166.out | refine bs13 ?_ GE167.out) | exact HB.out))) | (with_reducible refine Kd.C_alloc ?_ _) | (with_reducible refine Kd.C_drewN ?_ _) | (with_reducible refine Kd.C_drew ?_))); (case side4 => exact HC1_1.out); rintro e w' ⟨rfl, ⟨nd, rfl⟩⟩))
   go_ret
   exact ⟨by first | rfl | (simp [errW_none, errW_some] <;> rfl) | (simp [*, errW_none, errW_some] <;> rfl), by repeat (first | (with_reducible first | exact HB.out | apply ba13 | apply bn13 | apply bd13 | refine bs13 ?_ GE166.out | refine bs13 ?_ GE167.out) | exact HB.out)⟩
 ·replace c4 := Bool.eq_false_iff.mpr c4
  subst c4
  rw [if_neg (show ¬ (false = true) by decide)] at H
  obtain rfl := Option.some.inj H
  go_enter Try.func13, Try.ntmps13
  go_wp2_with (first | ((with_reducible refine gate_dst (N:=2) rfl ?_); refine box_event ?hg (N:=2) ?hd (cs:=#[.slice A0_0 l0_0.length c0_0, .slice A0_1 l0_1.length c0_1, .slice A0_2 l0_2.length c0_2, .slice A0_3 l0_3.length c0_3]) (t:=24) ?hr ?_; (case hd => rfl); (case hg => rfl); (case hr => first | (go_simp; done) | (go_simp; rfl)); intro gb166 hg w25 hbox hb; have BK166 := Am13 (hbox); have GW166 := Am13 ((by rw [hg]; exact (bz13 (by repeat (first | (with_reducible first | exact HB.out | apply ba13 | apply bn13 | apply bd13) | exact HB.out))) : w.heap.size ≤ gb166)); have GE166 := Am13 ((by rw [hg]; exact (bz13 (by repeat (first | (with_reducible first | exact HB.out | apply ba13 | apply bn13 | apply bd13) | exact HB.out))) : w.heap.size ≤ gb166)); replace HB := Am13 (bp13 (by repeat (first | (with_reducible first | exact HB.out | apply ba13 | apply bn13 | apply bd13) | exact HB.out)) hb); clear hb hbox hg) | ((with_reducible refine gate_dst (N:=3) rfl ?_); refine box_event ?hg (N:=3) ?hd (cs:=#[.slice A1_0 l1_0.length c1_0, .slice A1_1 l1_1.length c1_1, .slice A1_2 l1_2.length c1_2, .slice A1_3 l1_3.length c1_3]) (t:=24) ?hr ?_; (case hd => rfl); (case hg => rfl); (case hr => first | (go_simp; done) | (go_simp; rfl)); intro gb167 hg w26 hbox hb; have BK167 := Am13 (hbox); have GW167 := Am13 ((by rw [hg]; exact (bz13 (by repeat (first | (with_reducible first | exact HB.out | apply ba13 | apply bn13 | apply bd13 | refine bs13 ?_ GE166.out) | exact HB.out))) : w.heap.size ≤ gb167)); have GE167 := Am13 ((by rw [hg]; exact (bz13 (by repeat (first | (with_reducible first | exact HB.out | apply ba13 | apply bn13 | apply bd13 | refine bs13 ?_ GE166.out) | exact HB.out))) : w.heap.size ≤ gb167)); replace HB := Am13 (bp13 (by repeat (first | (with_reducible first | exact HB.out | apply ba13 | apply bn13 | apply bd13 | refine bs13 ?_ GE166.out) | exact HB.out)) hb); have NB166_167 := Am13 ((by rw [hg]; exact Nat.ne_of_lt (blk_lt (g:=gb166) (o:=.cells #[.slice A0_0 l0_0.length c0_0, .slice A0_1 l0_1.length c0_1, .slice A0_2 l0_2.length c0_2, .slice A0_3 l0_3.length c0_3] 24 (0, 0)) (by (with_reducible repeat first | apply kn13 | apply kd13 | apply ka13); exact BK166.out)) : gb166 ≠ gb167)); have NB167_166 := Am13 ((by rw [hg]; exact Nat.ne_of_gt (blk_lt (g:=gb166) (o:=.cells #[.slice A0_0 l0_0.length c0_0, .slice A0_1 l0_1.length c0_1, .slice A0_2 l0_2.length c0_2, .slice A0_3 l0_3.length c0_3] 24 (0, 0)) (by (with_reducible repeat first | apply kn13 | apply kd13 | apply ka13); exact BK166.out)) : gb167 ≠ gb166)); replace BK166 := Am13 (kb13 (g:=gb166) (o:=.cells #[.slice A0_0 l0_0.length c0_0, .slice A0_1 l0_1.length c0_1, .slice A0_2 l0_2.length c0_2, .slice A0_3 l0_3.length c0_3] 24 (0, 0)) (by (with_reducible repeat first | apply kn13 | apply kd13 | apply ka13); exact BK166.out) hb); clear hb hbox hg; have hnb27 := NB166_167.out; have hnc27 := NB167_166.out; have hcz28_0 : w26.cell? ⟨gb166, 0, none⟩ = some (.slice A0_0 l0_0.length c0_0) := (kc13 BK166.out 0).trans rfl; have hcz28_1 : w26.cell? ⟨gb166, 1, none⟩ = some (.slice A0_1 l0_1.length c0_1) := (kc13 BK166.out 1).trans rfl; have hcz28_2 : w26.cell? ⟨gb166, 2, none⟩ = some (.slice A0_2 l0_2.length c0_2) := (kc13 BK166.out 2).trans rfl; have hcz28_3 : w26.cell? ⟨gb166, 3, none⟩ = some (.slice A0_3 l0_3.length c0_3) := (kc13 BK166.out 3).trans rfl; have hfz28_0 := kz13 BK166.out 0; have hfz28_1 := kz13 BK166.out 1; have hfz28_2 := kz13 BK166.out 2; have hfz28_3 := kz13 BK166.out 3; have hcz29_0 : w26.cell? ⟨gb167, 0, none⟩ = some (.slice A1_0 l1_0.length c1_0) := (kc13 BK167.out 0).trans rfl; have hcz29_1 : w26.cell? ⟨gb167, 1, none⟩ = some (.slice A1_1 l1_1.length c1_1) := (kc13 BK167.out 1).trans rfl; have hcz29_2 : w26.cell? ⟨gb167, 2, none⟩ = some (.slice A1_2 l1_2.length c1_2) := (kc13 BK167.out 2).trans rfl; have hcz29_3 : w26.cell? ⟨gb167, 3, none⟩ = some (.slice A1_3 l1_3.length c1_3) := (kc13 BK167.out 3).trans rfl; have hfz29_0 := kz13 BK167.out 0; have hfz29_1 := kz13 BK167.out 1; have hfz29_2 := kz13 BK167.out 2; have hfz29_3 := kz13 BK167.out 3) | ((with_reducible refine gate_callee (f:=15) rfl ?_); refine goesL_ (some 9) rfl rfl Try.func15 (by kernel_rfl) rfl #[.slice A0_0 l0_0.length c0_0, .slice A1_0 l1_0.length c1_0] rfl (by (try simp only [ma13, mc13, mn13]); first | done | rfl | (simp only [ld13, lt_13]; rfl)) ?_; (with_reducible refine (watershedkit_SameInts.calls k _ _ l0_0 _ _ l1_0 false _ ?side1 ?side2 ?side3 ?side4 A3.out).mono ?_); (case side1 => repeat (first | exact (Kd.C_below HR0_0.out HB.out) | (with_reducible refine Kd.C_alloc ?_ _) | (with_reducible refine Kd.C_drewN ?_ _) | (with_reducible refine Kd.C_drew ?_))); (case side2 => exact HC0_0.out); (case side3 => repeat (first | exact (Kd.C_below HR1_0.out HB.out) | (with_reducible refine Kd.C_alloc ?_ _) | (with_reducible refine Kd.C_drewN ?_ _) | (with_reducible refine Kd.C_drew ?_))); (case side4 => exact HC1_0.out); rintro e w' ⟨rfl, ⟨nd, rfl⟩⟩; refine ⟨_, rfl, ?_⟩))
  go_ret
  exact ⟨by first | rfl | (simp [errW_none, errW_some] <;> rfl) | (simp [*, errW_none, errW_some] <;> rfl), by repeat (first | (with_reducible first | exact HB.out | apply ba13 | apply bn13 | apply bd13 | refine bs13 ?_ GE166.out | refine bs13 ?_ GE167.out) | exact HB.out)⟩

end Go.Proofs.Ytkilmclncpmjnaa.P06t
