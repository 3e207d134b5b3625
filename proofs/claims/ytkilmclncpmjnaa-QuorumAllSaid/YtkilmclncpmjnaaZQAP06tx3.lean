-- Written by gprint.py, a program of this session, over the kit's print; the functions of my own contracts are marked GIVEN
import Derived.Test.YtkilmclncpmjnaaZQAP06tx0
import Derived.Test.YtkilmclncpmjnaaZQAP06tx1
import Derived.Test.YtkilmclncpmjnaaZQAP06tx2
namespace Go.Proofs.Ytkilmclncpmjnaa.P06t
open Go.RowKit Go.Proofs.YtkilmclncpmjnaaW.PrintWords Go.Proofs.YtkilmclncpmjnaaW.PrintLast Go.Proofs.YtkilmclncpmjnaaW.PrintMore
attribute [local go_sem] max2_int min2_int max_two min_two max_three min_three max_four min_four   -- for this text's walks alone
set_option linter.unusedVariables false
set_option linter.unusedSimpArgs false

abbrev bb11 (n m : Nat) : Array Bool := ((List.range n).map fun i => m.testBit i).toArray
theorem Am11 : type_of% @Aside0.mk := @Aside0.mk
theorem Ra11 : type_of% @Kd.R_alloc := @Kd.R_alloc
theorem Rn11 : type_of% @Kd.R_drewN := @Kd.R_drewN
theorem Rd11 : type_of% @Kd.R_drew := @Kd.R_drew
theorem Rf11 : type_of% @Kd.R_far := @Kd.R_far
theorem Ro11 : type_of% @Kd.R_mono := @Kd.R_mono
theorem Ry11 : type_of% @Kd.R_types := @Kd.R_types
theorem ba11 : type_of% @below_alloc := @below_alloc
theorem bn11 : type_of% @pw_below_drewN := @pw_below_drewN
theorem bd11 : type_of% @below_drew1 := @below_drew1
theorem bs11 : type_of% @below_set := @below_set
theorem kn11 : type_of% @blk_drewN := @blk_drewN
theorem kd11 : type_of% @blk_drew := @blk_drew
theorem ka11 : type_of% @blk_alloc := @blk_alloc
theorem kf11 : type_of% @blk_far := @blk_far
theorem kb11 : type_of% @blk_below := @blk_below
theorem Re11 : type_of% @Kd.R_elder' := @Kd.R_elder'
theorem Rw11 : type_of% @Kd.R_new' := @Kd.R_new'
theorem Rl11 : type_of% @Kd.R_lower := @Kd.R_lower
theorem Ra_11 : type_of% @Kd.R_base := @Kd.R_base
theorem Rt11 : type_of% @Kd.R_lt := @Kd.R_lt
theorem bz11 : type_of% @below_size := @below_size
theorem bp11 : type_of% @below_step := @below_step
theorem kc11 : type_of% @blk_cell := @blk_cell
theorem kz11 : type_of% @blk_frozen := @blk_frozen
theorem sa11 : type_of% @List.setIfInBounds_toArray := @List.setIfInBounds_toArray
theorem sz11 : type_of% @List.set_cons_zero := @List.set_cons_zero
theorem ss11 : type_of% @List.set_cons_succ := @List.set_cons_succ
theorem ma11 : type_of% @List.map_toArray := @List.map_toArray
theorem mc11 : type_of% @List.map_cons := @List.map_cons
theorem mn11 : type_of% @List.map_nil := @List.map_nil
theorem ld11 : type_of% @List.length_drop := @List.length_drop
theorem lt_11 : type_of% @List.length_take := @List.length_take
/-! ### quorum_Next: function 11 -/
def quorum_Next.j0 : Nat → Bool → List Int → List Int → List Int → List Int → Option (List Int × List Int × List Int × List Int × Bool)
 | 0, _, _, _, _, _ => none
 | k + 1, x7, x130000, x130001, x130002, x130003 => if x7 = true then (some (([] : List Int), ([] : List Int), ([] : List Int), ([] : List Int), false)) else ((quorum_group_joint.f x130000 x130001 x130002 x130003).bind fun t132 => (if t132 = true then ((slices_Clone_int_int.f x130000).bind fun t133 => (some (t133, ([] : List Int), ([] : List Int), ([] : List Int), true))) else ((slices_Clone_int_int.f x130003).bind fun t136 => ((slices_Clone_int_int.f x130000).bind fun t139 => ((slices_Clone_int_int.f x130003).bind fun t142 => (some (t136, t139, ([] : List Int), t142, true)))))))
def quorum_Next.f (k : Nat) (l0_0 : List Int) (l0_1 : List Int) (l0_2 : List Int) (l0_3 : List Int) : Option (List Int × List Int × List Int × List Int × Bool) := (quorum_group_right.f k l0_0 l0_1 l0_2 l0_3).bind fun t130 => (if t130 = true then ((quorum_group_changes.f l0_0 l0_1 l0_2 l0_3).bind fun t131 => (quorum_Next.j0 k (!t131) l0_0 l0_1 l0_2 l0_3)) else (quorum_Next.j0 k (!t130) l0_0 l0_1 l0_2 l0_3))
theorem quorum_Next.mono_l : ∀ k, (∀ y0 y1 y2 y3 y4, LeO (quorum_Next.j0 k y0 y1 y2 y3 y4) (quorum_Next.j0 (k + 1) y0 y1 y2 y3 y4))
 | 0 => fun _ _ _ _ _ r h => by simp [quorum_Next.j0] at h
 | k + 1 => by
  have ih0 := quorum_Next.mono_l k
  ·intro y0 y1 y2 y3 y4
   unfold quorum_Next.j0
   repeat' first
   | (with_reducible exact ih0 _ _ _ _ _)
   | (with_reducible exact quorum_group_right.mono _ _ _ _ _)
   | (with_reducible exact LeO.refl _)
   | (with_reducible exact LeO.none _)
   | (with_reducible refine LeO.ite ?_ ?_)
   | (with_reducible refine LeO.bind ?_ (fun _ => ?_))
   | exact ih0 _ _ _ _ _
   | exact quorum_group_right.mono _ _ _ _ _
   | exact LeO.none _
   | refine LeO.ite ?_ ?_
   | refine LeO.bind ?_ (fun _ => ?_)
theorem quorum_Next.mono : ∀ a0 a1 a2 a3 k, LeO (quorum_Next.f k a0 a1 a2 a3) (quorum_Next.f (k + 1) a0 a1 a2 a3) := by
 intro a0 a1 a2 a3 k
 have ih0 := quorum_Next.mono_l k
 unfold quorum_Next.f
 repeat' first
   | (with_reducible exact ih0 _ _ _ _ _)
   | (with_reducible exact quorum_group_right.mono _ _ _ _ _)
   | (with_reducible exact LeO.refl _)
   | (with_reducible exact LeO.none _)
   | (with_reducible refine LeO.ite ?_ ?_)
   | (with_reducible refine LeO.bind ?_ (fun _ => ?_))
   | exact ih0 _ _ _ _ _
   | exact quorum_group_right.mono _ _ _ _ _
   | exact LeO.none _
   | refine LeO.ite ?_ ?_
   | refine LeO.bind ?_ (fun _ => ?_)
def quorum_Next.T7 : Bool × List (List Nat × List Nat) := (true, [([], []), ([0], [0]), ([1], [1]), ([2], [2]), ([], []), ([4], [4]), ([5], [5]), ([6, 3], [6]), ([], []), ([8], [8]), ([9], [9]), ([10, 7], [10]), ([3, 7, 11], [3, 7, 11]), ([12, 11, 0, 1, 2, 3, 4, 5, 6, 7, 8, 9, 10, 11, 12], [12]), ([13, 0, 1, 2, 3, 4, 5, 6, 7, 8, 9, 10, 11, 12, 13], [])])
def quorum_Next.B7 : List Nat := [0, 1, 3, 7, 0, 16, 48, 127, 0, 256, 768, 2047, 4095, 8191, 16383]
theorem quorum_Next.tab7 : rtab .any (opsOf Try.f11 7) = quorum_Next.T7 := by kernel_rfl
theorem quorum_Next.bits7 : waitsOk quorum_Next.T7.2 quorum_Next.B7 = true := by kernel_rfl
set_option maxHeartbeats 8000000 in
set_option maxRecDepth 100000 in
theorem quorum_Next.calls (k : Nat) (A0_0 : Option Addr) (c0_0 : Nat) (l0_0 : List Int) (A0_1 : Option Addr) (c0_1 : Nat) (l0_1 : List Int) (A0_2 : Option Addr) (c0_2 : Nat) (l0_2 : List Int) (A0_3 : Option Addr) (c0_3 : Nat) (l0_3 : List Int) (r1 : List Int) (r2 : List Int) (r3 : List Int) (r4 : List Int) (r5 : Bool) (w : World) (hr0_0 : Kd.C (Kd.int .i64) w A0_0 l0_0.length l0_0) (hc0_0 : l0_0.length ≤ c0_0) (hr0_1 : Kd.C (Kd.int .i64) w A0_1 l0_1.length l0_1) (hc0_1 : l0_1.length ≤ c0_1) (hr0_2 : Kd.C (Kd.int .i64) w A0_2 l0_2.length l0_2) (hc0_2 : l0_2.length ≤ c0_2) (hr0_3 : Kd.C (Kd.int .i64) w A0_3 l0_3.length l0_3) (hc0_3 : l0_3.length ≤ c0_3) (h : quorum_Next.f k l0_0 l0_1 l0_2 l0_3 = some (r1, r2, r3, r4, r5)) :
  Calls Try.prog 11 #[.agg #[.slice A0_0 l0_0.length c0_0, .slice A0_1 l0_1.length c0_1, .slice A0_2 l0_2.length c0_2, .slice A0_3 l0_3.length c0_3]] w fun e w' => ∃ v0_ v1_ v2_ v3_ : Value, e = .returned (.tuple #[.agg #[v0_, v1_, v2_, v3_], .bool r5]) ∧ Kd.R (Kd.int .i64) 3 w' w.heap.size (fun k_ => some k_ ≠ (v1_ : Value).ownBlock ∧ some k_ ≠ (v2_ : Value).ownBlock ∧ some k_ ≠ (v3_ : Value).ownBlock) v0_ r1 ∧ Kd.R (Kd.int .i64) 3 w' w.heap.size (fun k_ => some k_ ≠ (v0_ : Value).ownBlock ∧ some k_ ≠ (v2_ : Value).ownBlock ∧ some k_ ≠ (v3_ : Value).ownBlock) v1_ r2 ∧ Kd.R (Kd.int .i64) 3 w' w.heap.size (fun k_ => some k_ ≠ (v0_ : Value).ownBlock ∧ some k_ ≠ (v1_ : Value).ownBlock ∧ some k_ ≠ (v3_ : Value).ownBlock) v2_ r3 ∧ Kd.R (Kd.int .i64) 3 w' w.heap.size (fun k_ => some k_ ≠ (v0_ : Value).ownBlock ∧ some k_ ≠ (v1_ : Value).ownBlock ∧ some k_ ≠ (v2_ : Value).ownBlock) v3_ r4 ∧ Below w.heap.size w w' := by
 have hu24 := Try.underlying24
 have hu48 := Try.underlying48
 have HR0_0 := Am11 hr0_0
 have HC0_0 := Am11 hc0_0
 clear hr0_0 hc0_0
 have HR0_1 := Am11 hr0_1
 have HC0_1 := Am11 hc0_1
 clear hr0_1 hc0_1
 have HR0_2 := Am11 hr0_2
 have HC0_2 := Am11 hc0_2
 clear hr0_2 hc0_2
 have HR0_3 := Am11 hr0_3
 have HC0_3 := Am11 hc0_3
 clear hr0_3 hc0_3
 have HB := Am11 (Below.refl w.heap.size w)
 have H : ((quorum_group_right.f k l0_0 l0_1 l0_2 l0_3).bind fun t130 => (if t130 = true then ((quorum_group_changes.f l0_0 l0_1 l0_2 l0_3).bind fun t131 => (quorum_Next.j0 k (!t131) l0_0 l0_1 l0_2 l0_3)) else (quorum_Next.j0 k (!t130) l0_0 l0_1 l0_2 l0_3))) = some (r1, r2, r3, r4, r5) := h
 clear h
 replace H := Option.bind_eq_some_iff.mp H
 obtain ⟨t130, A20, H⟩ := H
 try dsimp only at H
 have A2 := Am11 A20
 clear A20
 have HC3 := Am11 H
 clear H
 go_enter Try.func11, Try.ntmps11
 go_upto_if 7 with (first | ((with_reducible refine gate_dst (N:=1) rfl ?_); refine box_event ?hg (N:=1) ?hd (cs:=#[.slice A0_0 l0_0.length c0_0, .slice A0_1 l0_1.length c0_1, .slice A0_2 l0_2.length c0_2, .slice A0_3 l0_3.length c0_3]) (t:=24) ?hr ?_; (case hd => rfl); (case hg => rfl); (case hr => first | (go_simp; done) | (go_simp; rfl)); intro gb127 hg w4 hbox hb; have BK127 := Am11 (hbox); have GW127 := Am11 ((by rw [hg]; exact (bz11 (by repeat (first | (with_reducible first | exact HB.out | apply ba11 | apply bn11 | apply bd11) | exact HB.out))) : w.heap.size ≤ gb127)); have GE127 := Am11 ((by rw [hg]; exact (bz11 (by repeat (first | (with_reducible first | exact HB.out | apply ba11 | apply bn11 | apply bd11) | exact HB.out))) : w.heap.size ≤ gb127)); replace HB := Am11 (bp11 (by repeat (first | (with_reducible first | exact HB.out | apply ba11 | apply bn11 | apply bd11) | exact HB.out)) hb); clear hb hbox hg) | ((with_reducible refine gate_dst (N:=2) rfl ?_); refine box_event ?hg (N:=2) ?hd (cs:=#[.slice none 0 0, .slice none 0 0, .slice none 0 0, .slice none 0 0]) (t:=24) ?hr ?_; (case hd => rfl); (case hg => rfl); (case hr => first | (go_simp; done) | (go_simp; rfl)); intro gb128 hg w5 hbox hb; have BK128 := Am11 (hbox); have GW128 := Am11 ((by rw [hg]; exact (bz11 (by repeat (first | (with_reducible first | exact HB.out | apply ba11 | apply bn11 | apply bd11 | refine bs11 ?_ GE127.out) | exact HB.out))) : w.heap.size ≤ gb128)); have GE128 := Am11 ((by rw [hg]; exact (bz11 (by repeat (first | (with_reducible first | exact HB.out | apply ba11 | apply bn11 | apply bd11 | refine bs11 ?_ GE127.out) | exact HB.out))) : w.heap.size ≤ gb128)); replace HB := Am11 (bp11 (by repeat (first | (with_reducible first | exact HB.out | apply ba11 | apply bn11 | apply bd11 | refine bs11 ?_ GE127.out) | exact HB.out)) hb); have NB127_128 := Am11 ((by rw [hg]; exact Nat.ne_of_lt (blk_lt (g:=gb127) (o:=.cells #[.slice A0_0 l0_0.length c0_0, .slice A0_1 l0_1.length c0_1, .slice A0_2 l0_2.length c0_2, .slice A0_3 l0_3.length c0_3] 24 (0, 0)) (by (with_reducible repeat first | apply kn11 | apply kd11 | apply ka11); exact BK127.out)) : gb127 ≠ gb128)); have NB128_127 := Am11 ((by rw [hg]; exact Nat.ne_of_gt (blk_lt (g:=gb127) (o:=.cells #[.slice A0_0 l0_0.length c0_0, .slice A0_1 l0_1.length c0_1, .slice A0_2 l0_2.length c0_2, .slice A0_3 l0_3.length c0_3] 24 (0, 0)) (by (with_reducible repeat first | apply kn11 | apply kd11 | apply ka11); exact BK127.out)) : gb128 ≠ gb127)); replace BK127 := Am11 (kb11 (g:=gb127) (o:=.cells #[.slice A0_0 l0_0.length c0_0, .slice A0_1 l0_1.length c0_1, .slice A0_2 l0_2.length c0_2, .slice A0_3 l0_3.length c0_3] 24 (0, 0)) (by (with_reducible repeat first | apply kn11 | apply kd11 | apply ka11); exact BK127.out) hb); clear hb hbox hg; have hnb6 := NB127_128.out; have hnc6 := NB128_127.out; have hcz7_0 : w5.cell? ⟨gb127, 0, none⟩ = some (.slice A0_0 l0_0.length c0_0) := (kc11 BK127.out 0).trans rfl; have hcz7_1 : w5.cell? ⟨gb127, 1, none⟩ = some (.slice A0_1 l0_1.length c0_1) := (kc11 BK127.out 1).trans rfl; have hcz7_2 : w5.cell? ⟨gb127, 2, none⟩ = some (.slice A0_2 l0_2.length c0_2) := (kc11 BK127.out 2).trans rfl; have hcz7_3 : w5.cell? ⟨gb127, 3, none⟩ = some (.slice A0_3 l0_3.length c0_3) := (kc11 BK127.out 3).trans rfl; have hfz7_0 := kz11 BK127.out 0; have hfz7_1 := kz11 BK127.out 1; have hfz7_2 := kz11 BK127.out 2; have hfz7_3 := kz11 BK127.out 3) | ((with_reducible refine gate_dst (N:=4) rfl ?_); refine box_event ?hg (N:=4) ?hd (cs:=#[.slice none 0 0, .slice none 0 0, .slice none 0 0, .slice none 0 0]) (t:=48) ?hr ?_; (case hd => rfl); (case hg => rfl); (case hr => first | (go_simp; done) | (go_simp; rfl)); intro gb129 hg w8 hbox hb; have BK129 := Am11 (hbox); have GW129 := Am11 ((by rw [hg]; exact (bz11 (by repeat (first | (with_reducible first | exact HB.out | apply ba11 | apply bn11 | apply bd11 | refine bs11 ?_ GE127.out | refine bs11 ?_ GE128.out) | exact HB.out))) : w.heap.size ≤ gb129)); have GE129 := Am11 ((by rw [hg]; exact (bz11 (by repeat (first | (with_reducible first | exact HB.out | apply ba11 | apply bn11 | apply bd11 | refine bs11 ?_ GE127.out | refine bs11 ?_ GE128.out) | exact HB.out))) : w.heap.size ≤ gb129)); replace HB := Am11 (bp11 (by repeat (first | (with_reducible first | exact HB.out | apply ba11 | apply bn11 | apply bd11 | refine bs11 ?_ GE127.out | refine bs11 ?_ GE128.out) | exact HB.out)) hb); have NB127_129 := Am11 ((by rw [hg]; exact Nat.ne_of_lt (blk_lt (g:=gb127) (o:=.cells #[.slice A0_0 l0_0.length c0_0, .slice A0_1 l0_1.length c0_1, .slice A0_2 l0_2.length c0_2, .slice A0_3 l0_3.length c0_3] 24 (0, 0)) (by (with_reducible repeat first | apply kn11 | apply kd11 | apply ka11); exact BK127.out)) : gb127 ≠ gb129)); have NB129_127 := Am11 ((by rw [hg]; exact Nat.ne_of_gt (blk_lt (g:=gb127) (o:=.cells #[.slice A0_0 l0_0.length c0_0, .slice A0_1 l0_1.length c0_1, .slice A0_2 l0_2.length c0_2, .slice A0_3 l0_3.length c0_3] 24 (0, 0)) (by (with_reducible repeat first | apply kn11 | apply kd11 | apply ka11); exact BK127.out)) : gb129 ≠ gb127)); replace BK127 := Am11 (kb11 (g:=gb127) (o:=.cells #[.slice A0_0 l0_0.length c0_0, .slice A0_1 l0_1.length c0_1, .slice A0_2 l0_2.length c0_2, .slice A0_3 l0_3.length c0_3] 24 (0, 0)) (by (with_reducible repeat first | apply kn11 | apply kd11 | apply ka11); exact BK127.out) hb); have NB128_129 := Am11 ((by rw [hg]; exact Nat.ne_of_lt (blk_lt (g:=gb128) (o:=.cells #[.slice none 0 0, .slice none 0 0, .slice none 0 0, .slice none 0 0] 24 (0, 0)) (by (with_reducible repeat first | apply kn11 | apply kd11 | apply ka11); exact BK128.out)) : gb128 ≠ gb129)); have NB129_128 := Am11 ((by rw [hg]; exact Nat.ne_of_gt (blk_lt (g:=gb128) (o:=.cells #[.slice none 0 0, .slice none 0 0, .slice none 0 0, .slice none 0 0] 24 (0, 0)) (by (with_reducible repeat first | apply kn11 | apply kd11 | apply ka11); exact BK128.out)) : gb129 ≠ gb128)); replace BK128 := Am11 (kb11 (g:=gb128) (o:=.cells #[.slice none 0 0, .slice none 0 0, .slice none 0 0, .slice none 0 0] 24 (0, 0)) (by (with_reducible repeat first | apply kn11 | apply kd11 | apply ka11); exact BK128.out) hb); clear hb hbox hg; have hnb9 := NB129_127.out; have hnc9 := NB127_129.out; have hnb10 := NB129_128.out; have hnc10 := NB128_129.out; have hcz11_0 : w8.cell? ⟨gb129, 0, none⟩ = some (.slice none 0 0) := (kc11 BK129.out 0).trans rfl; have hcz11_1 : w8.cell? ⟨gb129, 1, none⟩ = some (.slice none 0 0) := (kc11 BK129.out 1).trans rfl; have hcz11_2 : w8.cell? ⟨gb129, 2, none⟩ = some (.slice none 0 0) := (kc11 BK129.out 2).trans rfl; have hcz11_3 : w8.cell? ⟨gb129, 3, none⟩ = some (.slice none 0 0) := (kc11 BK129.out 3).trans rfl; have hfz11_0 := kz11 BK129.out 0; have hfz11_1 := kz11 BK129.out 1; have hfz11_2 := kz11 BK129.out 2; have hfz11_3 := kz11 BK129.out 3) | ((with_reducible refine gate_store (t:=48) (p:=4) rfl ?_); refine store_event (t:=48) (p:=4) (v:=?vo_w12) (w1:=((((w8.setCell ⟨gb129, 0, none⟩ (.slice A0_0 l0_0.length c0_0)).setCell ⟨gb129, 1, none⟩ (.slice A0_1 l0_1.length c0_1)).setCell ⟨gb129, 2, none⟩ (.slice A0_2 l0_2.length c0_2)).setCell ⟨gb129, 3, none⟩ (.slice A0_3 l0_3.length c0_3))) ?hg ?ho ?hn ?hr ?_; (case ho => rfl); (case hg => rfl); (case hn => rfl); (case hr => first | (go_simp; done) | (go_simp; rfl)); intro w12 hw; have n0_ : Aside0 (w12.heap[gb127]? = some (.cells #[.slice A0_0 l0_0.length c0_0, .slice A0_1 l0_1.length c0_1, .slice A0_2 l0_2.length c0_2, .slice A0_3 l0_3.length c0_3] 24 (0, 0))) := ⟨(by rw [hw]; exact (by (with_reducible repeat first | apply kn11 | apply kd11 | apply ka11); refine kf11 ?_ NB127_129.out _; (with_reducible repeat first | apply kn11 | apply kd11 | apply ka11); refine kf11 ?_ NB127_129.out _; (with_reducible repeat first | apply kn11 | apply kd11 | apply ka11); refine kf11 ?_ NB127_129.out _; (with_reducible repeat first | apply kn11 | apply kd11 | apply ka11); refine kf11 ?_ NB127_129.out _; (with_reducible repeat first | apply kn11 | apply kd11 | apply ka11); exact BK127.out))⟩; have n1_ : Aside0 (w12.heap[gb128]? = some (.cells #[.slice none 0 0, .slice none 0 0, .slice none 0 0, .slice none 0 0] 24 (0, 0))) := ⟨(by rw [hw]; exact (by (with_reducible repeat first | apply kn11 | apply kd11 | apply ka11); refine kf11 ?_ NB128_129.out _; (with_reducible repeat first | apply kn11 | apply kd11 | apply ka11); refine kf11 ?_ NB128_129.out _; (with_reducible repeat first | apply kn11 | apply kd11 | apply ka11); refine kf11 ?_ NB128_129.out _; (with_reducible repeat first | apply kn11 | apply kd11 | apply ka11); refine kf11 ?_ NB128_129.out _; (with_reducible repeat first | apply kn11 | apply kd11 | apply ka11); exact BK128.out))⟩; have n2_ : Aside0 (w12.heap[gb129]? = some (.cells #[.slice A0_0 l0_0.length c0_0, .slice A0_1 l0_1.length c0_1, .slice A0_2 l0_2.length c0_2, .slice A0_3 l0_3.length c0_3] 48 (0, 0))) := ⟨(by rw [hw]; exact (by (with_reducible repeat first | apply kn11 | apply kd11 | apply ka11); refine blk_put (cs:=#[.slice A0_0 l0_0.length c0_0, .slice A0_1 l0_1.length c0_1, .slice A0_2 l0_2.length c0_2, .slice none 0 0]) ?_ 3 _ rfl; (with_reducible repeat first | apply kn11 | apply kd11 | apply ka11); refine blk_put (cs:=#[.slice A0_0 l0_0.length c0_0, .slice A0_1 l0_1.length c0_1, .slice none 0 0, .slice none 0 0]) ?_ 2 _ rfl; (with_reducible repeat first | apply kn11 | apply kd11 | apply ka11); refine blk_put (cs:=#[.slice A0_0 l0_0.length c0_0, .slice none 0 0, .slice none 0 0, .slice none 0 0]) ?_ 1 _ rfl; (with_reducible repeat first | apply kn11 | apply kd11 | apply ka11); refine blk_put (cs:=#[.slice none 0 0, .slice none 0 0, .slice none 0 0, .slice none 0 0]) ?_ 0 _ rfl; (with_reducible repeat first | apply kn11 | apply kd11 | apply ka11); exact BK129.out))⟩; have n3_ : Aside0 (Below w.heap.size w w12) := ⟨(by rw [hw]; exact (by repeat (first | (with_reducible first | exact HB.out | apply ba11 | apply bn11 | apply bd11 | refine bs11 ?_ GE127.out | refine bs11 ?_ GE128.out | refine bs11 ?_ GE129.out) | exact HB.out)))⟩; clear hw; clear BK127; clear BK128; clear BK129; clear HB; have BK127 := n0_; have BK128 := n1_; have BK129 := n2_; have HB := n3_; clear n0_ n1_ n2_ n3_; have hcz13_0 : w12.cell? ⟨gb129, 0, none⟩ = some (.slice A0_0 l0_0.length c0_0) := (kc11 BK129.out 0).trans rfl; have hcz13_1 : w12.cell? ⟨gb129, 1, none⟩ = some (.slice A0_1 l0_1.length c0_1) := (kc11 BK129.out 1).trans rfl; have hcz13_2 : w12.cell? ⟨gb129, 2, none⟩ = some (.slice A0_2 l0_2.length c0_2) := (kc11 BK129.out 2).trans rfl; have hcz13_3 : w12.cell? ⟨gb129, 3, none⟩ = some (.slice A0_3 l0_3.length c0_3) := (kc11 BK129.out 3).trans rfl; have hfz13_0 := kz11 BK129.out 0; have hfz13_1 := kz11 BK129.out 1; have hfz13_2 := kz11 BK129.out 2; have hfz13_3 := kz11 BK129.out 3) | ((with_reducible refine gate_callee (f:=33) rfl ?_); refine goesL_ (some 9) rfl rfl Try.func33 (by kernel_rfl) rfl #[.agg #[.slice A0_0 l0_0.length c0_0, .slice A0_1 l0_1.length c0_1, .slice A0_2 l0_2.length c0_2, .slice A0_3 l0_3.length c0_3]] rfl (by (try simp only [ma11, mc11, mn11]); first | done | rfl | (simp only [ld11, lt_11]; rfl)) ?_; (with_reducible refine (quorum_group_right.calls k (fun k_ => k_ < w.heap.size) _ _ l0_0 (fun k_ => k_ < w.heap.size) _ _ l0_1 (fun k_ => k_ < w.heap.size) _ _ l0_2 (fun k_ => k_ < w.heap.size) _ _ l0_3 t130 _ ?side1 ?side2 ?side3 ?side4 A2.out).mono ?_); (case side1 => exact Kd.V_mk HC0_0.out (Kd.F_below (Kd.C_F (Kd.heap_int .i64) HR0_0.out) (by repeat (first | (with_reducible first | exact HB.out | apply ba11 | apply bn11 | apply bd11 | refine bs11 ?_ GE127.out | refine bs11 ?_ GE128.out | refine bs11 ?_ GE129.out) | exact HB.out)))); (case side2 => exact Kd.V_mk HC0_1.out (Kd.F_below (Kd.C_F (Kd.heap_int .i64) HR0_1.out) (by repeat (first | (with_reducible first | exact HB.out | apply ba11 | apply bn11 | apply bd11 | refine bs11 ?_ GE127.out | refine bs11 ?_ GE128.out | refine bs11 ?_ GE129.out) | exact HB.out)))); (case side3 => exact Kd.V_mk HC0_2.out (Kd.F_below (Kd.C_F (Kd.heap_int .i64) HR0_2.out) (by repeat (first | (with_reducible first | exact HB.out | apply ba11 | apply bn11 | apply bd11 | refine bs11 ?_ GE127.out | refine bs11 ?_ GE128.out | refine bs11 ?_ GE129.out) | exact HB.out)))); (case side4 => exact Kd.V_mk HC0_3.out (Kd.F_below (Kd.C_F (Kd.heap_int .i64) HR0_3.out) (by repeat (first | (with_reducible first | exact HB.out | apply ba11 | apply bn11 | apply bd11 | refine bs11 ?_ GE127.out | refine bs11 ?_ GE128.out | refine bs11 ?_ GE129.out) | exact HB.out)))); rintro e w14 ⟨rfl, hb⟩; refine ⟨_, rfl, ?_⟩; replace BK127 := Am11 (kb11 (g:=gb127) (o:=.cells #[.slice A0_0 l0_0.length c0_0, .slice A0_1 l0_1.length c0_1, .slice A0_2 l0_2.length c0_2, .slice A0_3 l0_3.length c0_3] 24 (0, 0)) (by (with_reducible repeat first | apply kn11 | apply kd11 | apply ka11); exact BK127.out) hb); replace BK128 := Am11 (kb11 (g:=gb128) (o:=.cells #[.slice none 0 0, .slice none 0 0, .slice none 0 0, .slice none 0 0] 24 (0, 0)) (by (with_reducible repeat first | apply kn11 | apply kd11 | apply ka11); exact BK128.out) hb); replace BK129 := Am11 (kb11 (g:=gb129) (o:=.cells #[.slice A0_0 l0_0.length c0_0, .slice A0_1 l0_1.length c0_1, .slice A0_2 l0_2.length c0_2, .slice A0_3 l0_3.length c0_3] 48 (0, 0)) (by (with_reducible repeat first | apply kn11 | apply kd11 | apply ka11); exact BK129.out) hb); replace HB := Am11 (bp11 (by repeat (first | (with_reducible first | exact HB.out | apply ba11 | apply bn11 | apply bd11 | refine bs11 ?_ GE127.out | refine bs11 ?_ GE128.out | refine bs11 ?_ GE129.out) | exact HB.out)) hb); (try clear hb); (try clear hb2); (try clear hk); (try clear hi)))
 (try simp only [Act.put, sa11, sz11, ss11])
 go_cut [7] (fun v7 wc => ∃ (kq : Nat) (x7_2 : Bool), v7 = .bool x7_2 ∧ Aside0 (quorum_Next.j0 kq x7_2 l0_0 l0_1 l0_2 l0_3 = some (r1, r2, r3, r4, r5)) ∧ Aside0 (kq ≤ k) ∧ Aside0 (wc.heap[gb127]? = some (.cells #[(.slice A0_0 l0_0.length c0_0), (.slice A0_1 l0_1.length c0_1), (.slice A0_2 l0_2.length c0_2), (.slice A0_3 l0_3.length c0_3)] 24 (0, 0))) ∧ Aside0 (wc.heap[gb128]? = some (.cells #[(.slice none 0 0), (.slice none 0 0), (.slice none 0 0), (.slice none 0 0)] 24 (0, 0))) ∧ Aside0 (wc.heap[gb129]? = some (.cells #[(.slice A0_0 l0_0.length c0_0), (.slice A0_1 l0_1.length c0_1), (.slice A0_2 l0_2.length c0_2), (.slice A0_3 l0_3.length c0_3)] 48 (0, 0))) ∧ Aside0 (Below w.heap.size w wc))
 case first =>
  have H := HC3.out
  clear HC3
  by_cases c15 : t130 = true
  ·subst c15
   rw [if_pos rfl] at H
   replace H := Option.bind_eq_some_iff.mp H
   obtain ⟨t131, A160, H⟩ := H
   try dsimp only at H
   have A16 := Am11 A160
   clear A160
   have H' := Am11 H
   clear H
   have hnb17 := NB129_127.out
   have hnc17 := NB127_129.out
   have hnb18 := NB129_128.out
   have hnc18 := NB128_129.out
   have hcz19_0 : w14.cell? ⟨gb129, 0, none⟩ = some (.slice A0_0 l0_0.length c0_0) := (kc11 BK129.out 0).trans rfl
   have hcz19_1 : w14.cell? ⟨gb129, 1, none⟩ = some (.slice A0_1 l0_1.length c0_1) := (kc11 BK129.out 1).trans rfl
   have hcz19_2 : w14.cell? ⟨gb129, 2, none⟩ = some (.slice A0_2 l0_2.length c0_2) := (kc11 BK129.out 2).trans rfl
   have hcz19_3 : w14.cell? ⟨gb129, 3, none⟩ = some (.slice A0_3 l0_3.length c0_3) := (kc11 BK129.out 3).trans rfl
   have hfz19_0 := kz11 BK129.out 0
   have hfz19_1 := kz11 BK129.out 1
   have hfz19_2 := kz11 BK129.out 2
   have hfz19_3 := kz11 BK129.out 3
   go_wp2_with (first | ((with_reducible refine gate_callee (f:=36) rfl ?_); refine goesL_ (some 12) rfl rfl Try.func36 (by kernel_rfl) rfl #[.agg #[.slice A0_0 l0_0.length c0_0, .slice A0_1 l0_1.length c0_1, .slice A0_2 l0_2.length c0_2, .slice A0_3 l0_3.length c0_3]] rfl (by (try simp only [ma11, mc11, mn11]); first | done | rfl | (simp only [ld11, lt_11]; rfl)) ?_; (with_reducible refine (quorum_group_changes.calls _ _ l0_0 _ _ l0_1 _ _ l0_2 _ _ l0_3 t131 _ ?side1 ?side2 ?side3 ?side4 ?side5 ?side6 ?side7 ?side8 A16.out).mono ?_); (case side1 => repeat (first | exact (Kd.C_below HR0_0.out HB.out) | (with_reducible refine Kd.C_alloc ?_ _) | (with_reducible refine Kd.C_drewN ?_ _) | (with_reducible refine Kd.C_drew ?_))); (case side2 => exact HC0_0.out); (case side3 => repeat (first | exact (Kd.C_below HR0_1.out HB.out) | (with_reducible refine Kd.C_alloc ?_ _) | (with_reducible refine Kd.C_drewN ?_ _) | (with_reducible refine Kd.C_drew ?_))); (case side4 => exact HC0_1.out); (case side5 => repeat (first | exact (Kd.C_below HR0_2.out HB.out) | (with_reducible refine Kd.C_alloc ?_ _) | (with_reducible refine Kd.C_drewN ?_ _) | (with_reducible refine Kd.C_drew ?_))); (case side6 => exact HC0_2.out); (case side7 => repeat (first | exact (Kd.C_below HR0_3.out HB.out) | (with_reducible refine Kd.C_alloc ?_ _) | (with_reducible refine Kd.C_drewN ?_ _) | (with_reducible refine Kd.C_drew ?_))); (case side8 => exact HC0_3.out); rintro e w20 ⟨rfl, hb⟩; refine ⟨_, rfl, ?_⟩; replace BK127 := Am11 (kb11 (g:=gb127) (o:=.cells #[.slice A0_0 l0_0.length c0_0, .slice A0_1 l0_1.length c0_1, .slice A0_2 l0_2.length c0_2, .slice A0_3 l0_3.length c0_3] 24 (0, 0)) (by (with_reducible repeat first | apply kn11 | apply kd11 | apply ka11); exact BK127.out) hb); replace BK128 := Am11 (kb11 (g:=gb128) (o:=.cells #[.slice none 0 0, .slice none 0 0, .slice none 0 0, .slice none 0 0] 24 (0, 0)) (by (with_reducible repeat first | apply kn11 | apply kd11 | apply ka11); exact BK128.out) hb); replace BK129 := Am11 (kb11 (g:=gb129) (o:=.cells #[.slice A0_0 l0_0.length c0_0, .slice A0_1 l0_1.length c0_1, .slice A0_2 l0_2.length c0_2, .slice A0_3 l0_3.length c0_3] 48 (0, 0)) (by (with_reducible repeat first | apply kn11 | apply kd11 | apply ka11); exact BK129.out) hb); replace HB := Am11 (bp11 (by repeat (first | (with_reducible first | exact HB.out | apply ba11 | apply bn11 | apply bd11 | refine bs11 ?_ GE127.out | refine bs11 ?_ GE128.out | refine bs11 ?_ GE129.out) | exact HB.out)) hb); (try clear hb); (try clear hb2); (try clear hk); (try clear hi)))
   go_meet
   case rel => exact ⟨_, (!t131), (by first | rfl | (simp; done) | (simp [*]; done)), H', ⟨by first | omega | exact Nat.le_refl _⟩, ⟨by (with_reducible repeat first | apply kn11 | apply kd11 | apply ka11); exact BK127.out⟩, ⟨by (with_reducible repeat first | apply kn11 | apply kd11 | apply ka11); exact BK128.out⟩, ⟨by (with_reducible repeat first | apply kn11 | apply kd11 | apply ka11); exact BK129.out⟩, ⟨by repeat (first | (with_reducible first | exact HB.out | apply ba11 | apply bn11 | apply bd11 | refine bs11 ?_ GE127.out | refine bs11 ?_ GE128.out | refine bs11 ?_ GE129.out) | exact HB.out)⟩⟩
  ·replace c15 := Bool.eq_false_iff.mpr c15
   subst c15
   rw [if_neg (show ¬ (false = true) by decide)] at H
   have H' := Am11 H
   clear H
   go_wp2
   go_meet
   case rel => exact ⟨_, (!false), (by first | rfl | (simp; done) | (simp [*]; done)), H', ⟨by first | omega | exact Nat.le_refl _⟩, ⟨by (with_reducible repeat first | apply kn11 | apply kd11 | apply ka11); exact BK127.out⟩, ⟨by (with_reducible repeat first | apply kn11 | apply kd11 | apply ka11); exact BK128.out⟩, ⟨by (with_reducible repeat first | apply kn11 | apply kd11 | apply ka11); exact BK129.out⟩, ⟨by repeat (first | (with_reducible first | exact HB.out | apply ba11 | apply bn11 | apply bd11 | refine bs11 ?_ GE127.out | refine bs11 ?_ GE128.out | refine bs11 ?_ GE129.out) | exact HB.out)⟩⟩
 case rest =>
  clear HC3
  try clear c1
  try clear p2
  try clear c3
  try clear c6
  try clear c9
  try clear c10
  try clear c11
  try clear c15
  try clear c17
  try clear c18
  try clear hcz11_0
  try clear hcz11_1
  try clear hcz11_2
  try clear hcz11_3
  try clear hcz13_0
  try clear hcz13_1
  try clear hcz13_2
  try clear hcz13_3
  try clear hcz19_0
  try clear hcz19_1
  try clear hcz19_2
  try clear hcz19_3
  try clear hcz7_0
  try clear hcz7_1
  try clear hcz7_2
  try clear hcz7_3
  try clear hfz11_0
  try clear hfz11_1
  try clear hfz11_2
  try clear hfz11_3
  try clear hfz13_0
  try clear hfz13_1
  try clear hfz13_2
  try clear hfz13_3
  try clear hfz19_0
  try clear hfz19_1
  try clear hfz19_2
  try clear hfz19_3
  try clear hfz7_0
  try clear hfz7_1
  try clear hfz7_2
  try clear hfz7_3
  obtain ⟨kq, x7_2, rfl, HA, HJ2, BK127, BK128, BK129, HB⟩ := hcut
  cases kq with
  | zero => exact absurd HA.out (by simp [quorum_Next.j0])
  | succ kj2 =>
   have H := HA.out
   clear HA
   simp only [quorum_Next.j0] at H
   by_cases c21 : x7_2 = true
   ·subst c21
    rw [if_pos rfl] at H
    simp only [Option.some.injEq, Prod.mk.injEq] at H
    obtain ⟨rfl, rfl, rfl, rfl, rfl⟩ := H
    have hnb22 := NB128_127.out
    have hnc22 := NB127_128.out
    have hnb23 := NB128_129.out
    have hnc23 := NB129_128.out
    have hcz24_0 : wc.cell? ⟨gb128, 0, none⟩ = some (.slice none 0 0) := (kc11 BK128.out 0).trans rfl
    have hcz24_1 : wc.cell? ⟨gb128, 1, none⟩ = some (.slice none 0 0) := (kc11 BK128.out 1).trans rfl
    have hcz24_2 : wc.cell? ⟨gb128, 2, none⟩ = some (.slice none 0 0) := (kc11 BK128.out 2).trans rfl
    have hcz24_3 : wc.cell? ⟨gb128, 3, none⟩ = some (.slice none 0 0) := (kc11 BK128.out 3).trans rfl
    have hfz24_0 := kz11 BK128.out 0
    have hfz24_1 := kz11 BK128.out 1
    have hfz24_2 := kz11 BK128.out 2
    have hfz24_3 := kz11 BK128.out 3
    go_wp2
    refine bodyPost_ret (results_ct rfl _ _ gb128 24 #[.slice none 0 0, .slice none 0 0, .slice none 0 0, .slice none 0 0] (0, 0) _ rfl (by (with_reducible repeat first | apply kn11 | apply kd11 | apply ka11); refine blk_put (cs:=#[.slice none 0 0, .slice none 0 0, .slice none 0 0, .slice none 0 0]) ?_ 3 _ rfl; (with_reducible repeat first | apply kn11 | apply kd11 | apply ka11); refine blk_put (cs:=#[.slice none 0 0, .slice none 0 0, .slice none 0 0, .slice none 0 0]) ?_ 2 _ rfl; (with_reducible repeat first | apply kn11 | apply kd11 | apply ka11); refine blk_put (cs:=#[.slice none 0 0, .slice none 0 0, .slice none 0 0, .slice none 0 0]) ?_ 1 _ rfl; (with_reducible repeat first | apply kn11 | apply kd11 | apply ka11); refine blk_put (cs:=#[.slice none 0 0, .slice none 0 0, .slice none 0 0, .slice none 0 0]) ?_ 0 _ rfl; (with_reducible repeat first | apply kn11 | apply kd11 | apply ka11); exact BK128.out) Try.underlying24 rfl (by kernel_rfl)) rfl ?_
    exact ⟨_, _, _, _, by first | rfl | (simp [errW_none, errW_some] <;> rfl) | (simp [*, errW_none, errW_some] <;> rfl), by first | exact Kd.R_nil _ _ _ _ _ | exact Kd.N_nil _ _ _ _ _ | exact Kd.V_nil _ _ _ _ _ | exact Kd.Q_nil _ _ _ _ _ | exact Kd.S_nil _ _ _ _ _, by first | exact Kd.R_nil _ _ _ _ _ | exact Kd.N_nil _ _ _ _ _ | exact Kd.V_nil _ _ _ _ _ | exact Kd.Q_nil _ _ _ _ _ | exact Kd.S_nil _ _ _ _ _, by first | exact Kd.R_nil _ _ _ _ _ | exact Kd.N_nil _ _ _ _ _ | exact Kd.V_nil _ _ _ _ _ | exact Kd.Q_nil _ _ _ _ _ | exact Kd.S_nil _ _ _ _ _, by first | exact Kd.R_nil _ _ _ _ _ | exact Kd.N_nil _ _ _ _ _ | exact Kd.V_nil _ _ _ _ _ | exact Kd.Q_nil _ _ _ _ _ | exact Kd.S_nil _ _ _ _ _, by repeat (first | (with_reducible first | exact HB.out | apply ba11 | apply bn11 | apply bd11 | refine bs11 ?_ GE127.out | refine bs11 ?_ GE128.out | refine bs11 ?_ GE129.out) | exact HB.out)⟩
   ·replace c21 := Bool.eq_false_iff.mpr c21
    subst c21
    rw [if_neg (show ¬ (false = true) by decide)] at H
    replace H := Option.bind_eq_some_iff.mp H
    obtain ⟨t132, A250, H⟩ := H
    try dsimp only at H
    have A25 := Am11 A250
    clear A250
    by_cases c26 : t132 = true
    ·subst c26
     rw [if_pos rfl] at H
     replace H := Option.bind_eq_some_iff.mp H
     obtain ⟨t133, A270, H⟩ := H
     try dsimp only at H
     have A27 := Am11 A270
     clear A270
     simp only [Option.some.injEq, Prod.mk.injEq] at H
     obtain ⟨rfl, rfl, rfl, rfl, rfl⟩ := H
     have hnb28 := NB129_127.out
     have hnc28 := NB127_129.out
     have hnb29 := NB129_128.out
     have hnc29 := NB128_129.out
     have hcz30_0 : wc.cell? ⟨gb129, 0, none⟩ = some (.slice A0_0 l0_0.length c0_0) := (kc11 BK129.out 0).trans rfl
     have hcz30_1 : wc.cell? ⟨gb129, 1, none⟩ = some (.slice A0_1 l0_1.length c0_1) := (kc11 BK129.out 1).trans rfl
     have hcz30_2 : wc.cell? ⟨gb129, 2, none⟩ = some (.slice A0_2 l0_2.length c0_2) := (kc11 BK129.out 2).trans rfl
     have hcz30_3 : wc.cell? ⟨gb129, 3, none⟩ = some (.slice A0_3 l0_3.length c0_3) := (kc11 BK129.out 3).trans rfl
     have hfz30_0 := kz11 BK129.out 0
     have hfz30_1 := kz11 BK129.out 1
     have hfz30_2 := kz11 BK129.out 2
     have hfz30_3 := kz11 BK129.out 3
     go_wp2_with (first | ((with_reducible refine gate_callee (f:=35) rfl ?_); refine goesL_ (some 17) rfl rfl Try.func35 (by kernel_rfl) rfl #[.agg #[.slice A0_0 l0_0.length c0_0, .slice A0_1 l0_1.length c0_1, .slice A0_2 l0_2.length c0_2, .slice A0_3 l0_3.length c0_3]] rfl (by (try simp only [ma11, mc11, mn11]); first | done | rfl | (simp only [ld11, lt_11]; rfl)) ?_; (with_reducible refine (quorum_group_joint.calls _ _ l0_0 _ _ l0_1 _ _ l0_2 _ _ l0_3 true _ ?side1 ?side2 ?side3 ?side4 ?side5 ?side6 ?side7 ?side8 A25.out).mono ?_); (case side1 => repeat (first | exact (Kd.C_below HR0_0.out HB.out) | (with_reducible refine Kd.C_alloc ?_ _) | (with_reducible refine Kd.C_drewN ?_ _) | (with_reducible refine Kd.C_drew ?_))); (case side2 => exact HC0_0.out); (case side3 => repeat (first | exact (Kd.C_below HR0_1.out HB.out) | (with_reducible refine Kd.C_alloc ?_ _) | (with_reducible refine Kd.C_drewN ?_ _) | (with_reducible refine Kd.C_drew ?_))); (case side4 => exact HC0_1.out); (case side5 => repeat (first | exact (Kd.C_below HR0_2.out HB.out) | (with_reducible refine Kd.C_alloc ?_ _) | (with_reducible refine Kd.C_drewN ?_ _) | (with_reducible refine Kd.C_drew ?_))); (case side6 => exact HC0_2.out); (case side7 => repeat (first | exact (Kd.C_below HR0_3.out HB.out) | (with_reducible refine Kd.C_alloc ?_ _) | (with_reducible refine Kd.C_drewN ?_ _) | (with_reducible refine Kd.C_drew ?_))); (case side8 => exact HC0_3.out); rintro e w31 ⟨rfl, hb⟩; refine ⟨_, rfl, ?_⟩; replace BK127 := Am11 (kb11 (g:=gb127) (o:=.cells #[.slice A0_0 l0_0.length c0_0, .slice A0_1 l0_1.length c0_1, .slice A0_2 l0_2.length c0_2, .slice A0_3 l0_3.length c0_3] 24 (0, 0)) (by (with_reducible repeat first | apply kn11 | apply kd11 | apply ka11); exact BK127.out) hb); replace BK128 := Am11 (kb11 (g:=gb128) (o:=.cells #[.slice none 0 0, .slice none 0 0, .slice none 0 0, .slice none 0 0] 24 (0, 0)) (by (with_reducible repeat first | apply kn11 | apply kd11 | apply ka11); exact BK128.out) hb); replace BK129 := Am11 (kb11 (g:=gb129) (o:=.cells #[.slice A0_0 l0_0.length c0_0, .slice A0_1 l0_1.length c0_1, .slice A0_2 l0_2.length c0_2, .slice A0_3 l0_3.length c0_3] 48 (0, 0)) (by (with_reducible repeat first | apply kn11 | apply kd11 | apply ka11); exact BK129.out) hb); replace HB := Am11 (bp11 (by repeat (first | (with_reducible first | exact HB.out | apply ba11 | apply bn11 | apply bd11 | refine bs11 ?_ GE127.out | refine bs11 ?_ GE128.out | refine bs11 ?_ GE129.out) | exact HB.out)) hb); (try clear hb); (try clear hb2); (try clear hk); (try clear hi); have hcz32_0 : w31.cell? ⟨gb129, 0, none⟩ = some (.slice A0_0 l0_0.length c0_0) := (kc11 BK129.out 0).trans rfl; have hcz32_1 : w31.cell? ⟨gb129, 1, none⟩ = some (.slice A0_1 l0_1.length c0_1) := (kc11 BK129.out 1).trans rfl; have hcz32_2 : w31.cell? ⟨gb129, 2, none⟩ = some (.slice A0_2 l0_2.length c0_2) := (kc11 BK129.out 2).trans rfl; have hcz32_3 : w31.cell? ⟨gb129, 3, none⟩ = some (.slice A0_3 l0_3.length c0_3) := (kc11 BK129.out 3).trans rfl; have hfz32_0 := kz11 BK129.out 0; have hfz32_1 := kz11 BK129.out 1; have hfz32_2 := kz11 BK129.out 2; have hfz32_3 := kz11 BK129.out 3) | ((with_reducible refine gate_callee (f:=37) rfl ?_); refine goesL_ (some 21) rfl rfl Try.func37 (by kernel_rfl) rfl #[.slice A0_0 l0_0.length c0_0] rfl (by (try simp only [ma11, mc11, mn11]); first | done | rfl | (simp only [ld11, lt_11]; rfl)) ?_; (with_reducible refine (slices_Clone_int_int.calls _ _ l0_0 t133 _ ?side1 ?side2 A27.out).mono ?_); (case side1 => repeat (first | exact (Kd.C_below HR0_0.out HB.out) | (with_reducible refine Kd.C_alloc ?_ _) | (with_reducible refine Kd.C_drewN ?_ _) | (with_reducible refine Kd.C_drew ?_))); (case side2 => exact HC0_0.out); rintro e w33 ⟨v134, rfl, ho0, hb⟩; refine ⟨_, rfl, ?_⟩; have HO135 := Am11 (Rl11 ho0 (bz11 (by repeat (first | (with_reducible first | exact HB.out | apply ba11 | apply bn11 | apply bd11 | refine bs11 ?_ GE127.out | refine bs11 ?_ GE128.out | refine bs11 ?_ GE129.out) | exact HB.out)))); replace BK127 := Am11 (kb11 (g:=gb127) (o:=.cells #[.slice A0_0 l0_0.length c0_0, .slice A0_1 l0_1.length c0_1, .slice A0_2 l0_2.length c0_2, .slice A0_3 l0_3.length c0_3] 24 (0, 0)) (by (with_reducible repeat first | apply kn11 | apply kd11 | apply ka11); exact BK127.out) hb); replace BK128 := Am11 (kb11 (g:=gb128) (o:=.cells #[.slice none 0 0, .slice none 0 0, .slice none 0 0, .slice none 0 0] 24 (0, 0)) (by (with_reducible repeat first | apply kn11 | apply kd11 | apply ka11); exact BK128.out) hb); replace BK129 := Am11 (kb11 (g:=gb129) (o:=.cells #[.slice A0_0 l0_0.length c0_0, .slice A0_1 l0_1.length c0_1, .slice A0_2 l0_2.length c0_2, .slice A0_3 l0_3.length c0_3] 48 (0, 0)) (by (with_reducible repeat first | apply kn11 | apply kd11 | apply ka11); exact BK129.out) hb); replace HB := Am11 (bp11 (by repeat (first | (with_reducible first | exact HB.out | apply ba11 | apply bn11 | apply bd11 | refine bs11 ?_ GE127.out | refine bs11 ?_ GE128.out | refine bs11 ?_ GE129.out) | exact HB.out)) hb); (try clear hb); (try clear hb2); (try clear hk); (try clear hi); (try clear ho0); obtain ⟨Ao34, co34, eo34⟩ := Kd.R_slice HO135.out; subst eo34; have hnb35 := NB128_127.out; have hnc35 := NB127_128.out; have hcz36_0 : w33.cell? ⟨gb128, 0, none⟩ = some (.slice none 0 0) := (kc11 BK128.out 0).trans rfl; have hcz36_1 : w33.cell? ⟨gb128, 1, none⟩ = some (.slice none 0 0) := (kc11 BK128.out 1).trans rfl; have hcz36_2 : w33.cell? ⟨gb128, 2, none⟩ = some (.slice none 0 0) := (kc11 BK128.out 2).trans rfl; have hcz36_3 : w33.cell? ⟨gb128, 3, none⟩ = some (.slice none 0 0) := (kc11 BK128.out 3).trans rfl; have hfz36_0 := kz11 BK128.out 0; have hfz36_1 := kz11 BK128.out 1; have hfz36_2 := kz11 BK128.out 2; have hfz36_3 := kz11 BK128.out 3))
     refine bodyPost_ret (results_ct rfl _ _ gb128 24 #[.slice Ao34 t133.length co34, .slice none 0 0, .slice none 0 0, .slice none 0 0] (0, 0) _ rfl (by (with_reducible repeat first | apply kn11 | apply kd11 | apply ka11); refine blk_put (cs:=#[.slice Ao34 t133.length co34, .slice none 0 0, .slice none 0 0, .slice none 0 0]) ?_ 3 _ rfl; (with_reducible repeat first | apply kn11 | apply kd11 | apply ka11); refine blk_put (cs:=#[.slice Ao34 t133.length co34, .slice none 0 0, .slice none 0 0, .slice none 0 0]) ?_ 2 _ rfl; (with_reducible repeat first | apply kn11 | apply kd11 | apply ka11); refine blk_put (cs:=#[.slice Ao34 t133.length co34, .slice none 0 0, .slice none 0 0, .slice none 0 0]) ?_ 1 _ rfl; (with_reducible repeat first | apply kn11 | apply kd11 | apply ka11); refine blk_put (cs:=#[.slice none 0 0, .slice none 0 0, .slice none 0 0, .slice none 0 0]) ?_ 0 _ rfl; (with_reducible repeat first | apply kn11 | apply kd11 | apply ka11); exact BK128.out) Try.underlying24 rfl (by kernel_rfl)) rfl ?_
     exact ⟨_, _, _, _, by first | rfl | (simp [errW_none, errW_some] <;> rfl) | (simp [*, errW_none, errW_some] <;> rfl), by (with_reducible repeat first | apply Ra11 | apply Rn11 | apply Rd11); exact Ro11 (Rf11 (p:=⟨gb128, 3, none⟩) (Rf11 (p:=⟨gb128, 2, none⟩) (Rf11 (p:=⟨gb128, 1, none⟩) (Rf11 (p:=⟨gb128, 0, none⟩) (Ry11 HO135.out BK128.out (by decide)) (fun _ h=>h.2) (.slice Ao34 t133.length co34)) (fun _ h=>h.2) (.slice none 0 0)) (fun _ h=>h.2) (.slice none 0 0)) (fun _ h=>h.2) (.slice none 0 0)) (fun _ hk => ⟨(by simp [Value.ownBlock]), ⟨(by simp [Value.ownBlock]), (by simp [Value.ownBlock])⟩⟩), by first | exact Kd.R_nil _ _ _ _ _ | exact Kd.N_nil _ _ _ _ _ | exact Kd.V_nil _ _ _ _ _ | exact Kd.Q_nil _ _ _ _ _ | exact Kd.S_nil _ _ _ _ _, by first | exact Kd.R_nil _ _ _ _ _ | exact Kd.N_nil _ _ _ _ _ | exact Kd.V_nil _ _ _ _ _ | exact Kd.Q_nil _ _ _ _ _ | exact Kd.S_nil _ _ _ _ _, by first | exact Kd.R_nil _ _ _ _ _ | exact Kd.N_nil _ _ _ _ _ | exact Kd.V_nil _ _ _ _ _ | exact Kd.Q_nil _ _ _ _ _ | exact Kd.S_nil _ _ _ _ _, by repeat (first | (with_reducible first | exact HB.out | apply ba11 | apply bn11 | apply bd11 | refine bs11 ?_ GE127.out | refine bs11 ?_ GE128.out | refine bs11 ?_ GE129.out) | exact HB.out)⟩
    ·replace c26 := Bool.eq_false_iff.mpr c26
     subst c26
     rw [if_neg (show ¬ (false = true) by decide)] at H
     replace H := Option.bind_eq_some_iff.mp H
     obtain ⟨t136, A370, H⟩ := H
     try dsimp only at H
     have A37 := Am11 A370
     clear A370
     replace H := Option.bind_eq_some_iff.mp H
     obtain ⟨t139, A380, H⟩ := H
     try dsimp only at H
     have A38 := Am11 A380
     clear A380
     replace H := Option.bind_eq_some_iff.mp H
     obtain ⟨t142, A390, H⟩ := H
     try dsimp only at H
     have A39 := Am11 A390
     clear A390
     simp only [Option.some.injEq, Prod.mk.injEq] at H
     obtain ⟨rfl, rfl, rfl, rfl, rfl⟩ := H
     have hnb40 := NB129_127.out
     have hnc40 := NB127_129.out
     have hnb41 := NB129_128.out
     have hnc41 := NB128_129.out
     have hcz42_0 : wc.cell? ⟨gb129, 0, none⟩ = some (.slice A0_0 l0_0.length c0_0) := (kc11 BK129.out 0).trans rfl
     have hcz42_1 : wc.cell? ⟨gb129, 1, none⟩ = some (.slice A0_1 l0_1.length c0_1) := (kc11 BK129.out 1).trans rfl
     have hcz42_2 : wc.cell? ⟨gb129, 2, none⟩ = some (.slice A0_2 l0_2.length c0_2) := (kc11 BK129.out 2).trans rfl
     have hcz42_3 : wc.cell? ⟨gb129, 3, none⟩ = some (.slice A0_3 l0_3.length c0_3) := (kc11 BK129.out 3).trans rfl
     have hfz42_0 := kz11 BK129.out 0
     have hfz42_1 := kz11 BK129.out 1
     have hfz42_2 := kz11 BK129.out 2
     have hfz42_3 := kz11 BK129.out 3
     try go_wp2_with (first | ((with_reducible refine gate_callee (f:=35) rfl ?_); refine goesL_ (some 17) rfl rfl Try.func35 (by kernel_rfl) rfl #[.agg #[.slice A0_0 l0_0.length c0_0, .slice A0_1 l0_1.length c0_1, .slice A0_2 l0_2.length c0_2, .slice A0_3 l0_3.length c0_3]] rfl (by (try simp only [ma11, mc11, mn11]); first | done | rfl | (simp only [ld11, lt_11]; rfl)) ?_; (with_reducible refine (quorum_group_joint.calls _ _ l0_0 _ _ l0_1 _ _ l0_2 _ _ l0_3 false _ ?side1 ?side2 ?side3 ?side4 ?side5 ?side6 ?side7 ?side8 A25.out).mono ?_); (case side1 => repeat (first | exact (Kd.C_below HR0_0.out HB.out) | (with_reducible refine Kd.C_alloc ?_ _) | (with_reducible refine Kd.C_drewN ?_ _) | (with_reducible refine Kd.C_drew ?_))); (case side2 => exact HC0_0.out); (case side3 => repeat (first | exact (Kd.C_below HR0_1.out HB.out) | (with_reducible refine Kd.C_alloc ?_ _) | (with_reducible refine Kd.C_drewN ?_ _) | (with_reducible refine Kd.C_drew ?_))); (case side4 => exact HC0_1.out); (case side5 => repeat (first | exact (Kd.C_below HR0_2.out HB.out) | (with_reducible refine Kd.C_alloc ?_ _) | (with_reducible refine Kd.C_drewN ?_ _) | (with_reducible refine Kd.C_drew ?_))); (case side6 => exact HC0_2.out); (case side7 => repeat (first | exact (Kd.C_below HR0_3.out HB.out) | (with_reducible refine Kd.C_alloc ?_ _) | (with_reducible refine Kd.C_drewN ?_ _) | (with_reducible refine Kd.C_drew ?_))); (case side8 => exact HC0_3.out); rintro e w43 ⟨rfl, hb⟩; refine ⟨_, rfl, ?_⟩; replace BK127 := Am11 (kb11 (g:=gb127) (o:=.cells #[.slice A0_0 l0_0.length c0_0, .slice A0_1 l0_1.length c0_1, .slice A0_2 l0_2.length c0_2, .slice A0_3 l0_3.length c0_3] 24 (0, 0)) (by (with_reducible repeat first | apply kn11 | apply kd11 | apply ka11); exact BK127.out) hb); replace BK128 := Am11 (kb11 (g:=gb128) (o:=.cells #[.slice none 0 0, .slice none 0 0, .slice none 0 0, .slice none 0 0] 24 (0, 0)) (by (with_reducible repeat first | apply kn11 | apply kd11 | apply ka11); exact BK128.out) hb); replace BK129 := Am11 (kb11 (g:=gb129) (o:=.cells #[.slice A0_0 l0_0.length c0_0, .slice A0_1 l0_1.length c0_1, .slice A0_2 l0_2.length c0_2, .slice A0_3 l0_3.length c0_3] 48 (0, 0)) (by (with_reducible repeat first | apply kn11 | apply kd11 | apply ka11); exact BK129.out) hb); replace HB := Am11 (bp11 (by repeat (first | (with_reducible first | exact HB.out | apply ba11 | apply bn11 | apply bd11 | refine bs11 ?_ GE127.out | refine bs11 ?_ GE128.out | refine bs11 ?_ GE129.out) | exact HB.out)) hb); (try clear hb); (try clear hb2); (try clear hk); (try clear hi)))
     replace BK127 := Am11 (kd11 BK127.out)
     replace BK128 := Am11 (kd11 BK128.out)
     replace BK129 := Am11 (kd11 BK129.out)
     replace HB := Am11 (bd11 HB.out)
     refine start_ (n:=15) (S:=fun w' => w'.cell? ⟨gb129, 0, none⟩ = some (.slice A0_0 l0_0.length c0_0) ∧ w'.cell? ⟨gb129, 1, none⟩ = some (.slice A0_1 l0_1.length c0_1) ∧ w'.cell? ⟨gb129, 2, none⟩ = some (.slice A0_2 l0_2.length c0_2) ∧ w'.cell? ⟨gb129, 3, none⟩ = some (.slice A0_3 l0_3.length c0_3)) (ds:=[]) (bb11 15 0) (by kernel_rfl) rfl rfl ⟨(kc11 BK129.out 0).trans rfl, (kc11 BK129.out 1).trans rfl, (kc11 BK129.out 2).trans rfl, (kc11 BK129.out 3).trans rfl⟩ (fun hHeld => ?_); refine with_tabW quorum_Next.tab7 quorum_Next.bits7 (fun HT_ HW_ => ?_)
     generalize w43.drew = w44 at BK127 BK128 BK129 HB hHeld ⊢
     refine pure_ (i:=0) (N:=some 23) (v:=?_) (a' := ?_) (bb11 15 1) rfl rfl (any_of HT_.out (by kernel_rfl)) (fun _ _ _ h => h) (Or.inl ⟨by rfl, ?_⟩) ?_ ?_
     rotate_left
     ·intro w'
      go_simp
      with_reducible rfl
     rotate_left
     ·simp only [Act.put, sa11, sz11, ss11, i64_w, i32_w]
      rfl
     refine pure_ (i:=1) (N:=some 24) (v:=?_) (a' := ?_) (bb11 15 3) rfl rfl (any_of HT_.out (by kernel_rfl)) (fun _ _ _ h => h) (Or.inl ⟨by rfl, ?_⟩) ?_ ?_
     rotate_left
     ·intro w'
      go_simp
      with_reducible rfl
     rotate_left
     ·simp only [Act.put, sa11, sz11, ss11, i64_w, i32_w]
      rfl
     refine pure_ (i:=4) (N:=some 27) (v:=?_) (a' := ?_) (bb11 15 19) rfl rfl (any_of HT_.out (by kernel_rfl)) (fun _ _ _ h => h) (Or.inl ⟨by rfl, ?_⟩) ?_ ?_
     rotate_left
     ·intro w'
      go_simp
      with_reducible rfl
     rotate_left
     ·simp only [Act.put, sa11, sz11, ss11, i64_w, i32_w]
      rfl
     refine pure_ (i:=5) (N:=some 28) (v:=?_) (a' := ?_) (bb11 15 51) rfl rfl (any_of HT_.out (by kernel_rfl)) (fun _ _ _ h => h) (Or.inl ⟨by rfl, ?_⟩) ?_ ?_
     rotate_left
     ·intro w'
      go_simp
      with_reducible rfl
     rotate_left
     ·simp only [Act.put, sa11, sz11, ss11, i64_w, i32_w]
      rfl
     refine pure_ (i:=8) (N:=some 31) (v:=?_) (a' := ?_) (bb11 15 307) rfl rfl (any_of HT_.out (by kernel_rfl)) (fun _ _ _ h => h) (Or.inl ⟨by rfl, ?_⟩) ?_ ?_
     rotate_left
     ·intro w'
      go_simp
      with_reducible rfl
     rotate_left
     ·simp only [Act.put, sa11, sz11, ss11, i64_w, i32_w]
      rfl
     refine pure_ (i:=9) (N:=some 32) (v:=?_) (a' := ?_) (bb11 15 819) rfl rfl (any_of HT_.out (by kernel_rfl)) (fun _ _ _ h => h) (Or.inl ⟨by rfl, ?_⟩) ?_ ?_
     rotate_left
     ·intro w'
      go_simp
      with_reducible rfl
     rotate_left
     ·simp only [Act.put, sa11, sz11, ss11, i64_w, i32_w]
      rfl
     refine take_ (i:=2) (N:=some 25) (v:=?_) (a' := ?_) (bb11 15 823) rfl rfl (take_ofW HT_.out HW_.out (by kernel_rfl)) (fun _ _ _ h => h) (Or.inl ⟨by rfl, ?_⟩) hHeld ?_ ?_
     rotate_left
     ·rintro w' ⟨s0, s1, s2, s3⟩
      go_simp
      with_reducible rfl
     rotate_left
     ·simp only [Act.put, sa11, sz11, ss11, i64_w, i32_w]
      rfl
     refine take_ (i:=6) (N:=some 29) (v:=?_) (a' := ?_) (bb11 15 887) rfl rfl (take_ofW HT_.out HW_.out (by kernel_rfl)) (fun _ _ _ h => h) (Or.inl ⟨by rfl, ?_⟩) hHeld ?_ ?_
     rotate_left
     ·rintro w' ⟨s0, s1, s2, s3⟩
      go_simp
      with_reducible rfl
     rotate_left
     ·simp only [Act.put, sa11, sz11, ss11, i64_w, i32_w]
      rfl
     refine take_ (i:=10) (N:=some 33) (v:=?_) (a' := ?_) (bb11 15 1911) rfl rfl (take_ofW HT_.out HW_.out (by kernel_rfl)) (fun _ _ _ h => h) (Or.inl ⟨by rfl, ?_⟩) hHeld ?_ ?_
     rotate_left
     ·rintro w' ⟨s0, s1, s2, s3⟩
      go_simp
      with_reducible rfl
     rotate_left
     ·simp only [Act.put, sa11, sz11, ss11, i64_w, i32_w]
      rfl
     refine one_ (i:=3) (N:=some 26) (bb11 15 1919) rfl rfl (one_of HT_.out (by kernel_rfl)) (by decide) (fun K hK => ?_)
     refine goes_ Try.func37 (by kernel_rfl) rfl #[.slice A0_3 l0_3.length c0_3] (by rfl) rfl rfl (by (try simp only [ma11, mc11, mn11]); first | done | rfl | (simp only [ld11, lt_11]; rfl)) ?_
     with_reducible refine (slices_Clone_int_int.calls _ _ l0_3 t136 _ ?side1 ?side2 A37.out).mono ?_
     (case side1 => repeat (first | exact (Kd.C_below HR0_3.out HB.out) | (with_reducible refine Kd.C_alloc ?_ _) | (with_reducible refine Kd.C_drewN ?_ _) | (with_reducible refine Kd.C_drew ?_)))
     (case side2 => exact HC0_3.out)
     rintro e w45 ⟨v137, rfl, ho0, hb⟩
     refine ⟨_, rfl, ?_⟩
     have n0_ := Am11 (Rl11 ho0 (bz11 (by repeat (first | (with_reducible first | exact HB.out | apply ba11 | apply bn11 | apply bd11 | refine bs11 ?_ GE127.out | refine bs11 ?_ GE128.out | refine bs11 ?_ GE129.out) | exact HB.out))))
     have n1_ := Am11 (kb11 (g:=gb127) (o:=.cells #[.slice A0_0 l0_0.length c0_0, .slice A0_1 l0_1.length c0_1, .slice A0_2 l0_2.length c0_2, .slice A0_3 l0_3.length c0_3] 24 (0, 0)) (by (with_reducible repeat first | apply kn11 | apply kd11 | apply ka11); exact BK127.out) hb)
     have n2_ := Am11 (kb11 (g:=gb128) (o:=.cells #[.slice none 0 0, .slice none 0 0, .slice none 0 0, .slice none 0 0] 24 (0, 0)) (by (with_reducible repeat first | apply kn11 | apply kd11 | apply ka11); exact BK128.out) hb)
     have n3_ := Am11 (kb11 (g:=gb129) (o:=.cells #[.slice A0_0 l0_0.length c0_0, .slice A0_1 l0_1.length c0_1, .slice A0_2 l0_2.length c0_2, .slice A0_3 l0_3.length c0_3] 48 (0, 0)) (by (with_reducible repeat first | apply kn11 | apply kd11 | apply ka11); exact BK129.out) hb)
     have n4_ := Am11 (bp11 (by repeat (first | (with_reducible first | exact HB.out | apply ba11 | apply bn11 | apply bd11 | refine bs11 ?_ GE127.out | refine bs11 ?_ GE128.out | refine bs11 ?_ GE129.out) | exact HB.out)) hb)
     clear BK127
     clear BK128
     clear BK129
     clear HB
     have HO138 := n0_
     have BK127 := n1_
     have BK128 := n2_
     have BK129 := n3_
     have HB := n4_
     clear n0_ n1_ n2_ n3_ n4_
     (try clear hb)
     (try clear hb2)
     (try clear hk)
     (try clear hi)
     (try clear ho0)
     refine hK.out _ _ ⟨(kc11 BK129.out 0).trans rfl, (kc11 BK129.out 1).trans rfl, (kc11 BK129.out 2).trans rfl, (kc11 BK129.out 3).trans rfl⟩ (fun hHeld => ?_)
     clear hK K
     refine norm_ (a' := ?_) ?_ ?_
     rotate_left
     ·show Act.put _ (some 26) _ = _
      simp only [Act.put, sa11, sz11, ss11, i64_w, i32_w]
      rfl
     refine one_ (i:=7) (N:=some 30) (bb11 15 2047) rfl rfl (one_of HT_.out (by kernel_rfl)) (by decide) (fun K hK => ?_)
     refine goes_ Try.func37 (by kernel_rfl) rfl #[.slice A0_0 l0_0.length c0_0] (by rfl) rfl rfl (by (try simp only [ma11, mc11, mn11]); first | done | rfl | (simp only [ld11, lt_11]; rfl)) ?_
     with_reducible refine (slices_Clone_int_int.calls _ _ l0_0 t139 _ ?side1 ?side2 A38.out).mono ?_
     (case side1 => repeat (first | exact (Kd.C_below HR0_0.out HB.out) | (with_reducible refine Kd.C_alloc ?_ _) | (with_reducible refine Kd.C_drewN ?_ _) | (with_reducible refine Kd.C_drew ?_)))
     (case side2 => exact HC0_0.out)
     rintro e w46 ⟨v140, rfl, ho0, hb⟩
     refine ⟨_, rfl, ?_⟩
     have HO141 := Am11 (Rl11 (Rw11 ho0 (Rt11 (by (with_reducible repeat first | apply Ra11 | apply Rn11 | apply Rd11); exact HO138.out))) (bz11 (by repeat (first | (with_reducible first | exact HB.out | apply ba11 | apply bn11 | apply bd11 | refine bs11 ?_ GE127.out | refine bs11 ?_ GE128.out | refine bs11 ?_ GE129.out) | exact HB.out))))
     replace HO138 := Am11 (Re11 (by (with_reducible repeat first | apply Ra11 | apply Rn11 | apply Rd11); exact HO138.out) (Ra_11 ho0) hb)
     replace BK127 := Am11 (kb11 (g:=gb127) (o:=.cells #[.slice A0_0 l0_0.length c0_0, .slice A0_1 l0_1.length c0_1, .slice A0_2 l0_2.length c0_2, .slice A0_3 l0_3.length c0_3] 24 (0, 0)) (by (with_reducible repeat first | apply kn11 | apply kd11 | apply ka11); exact BK127.out) hb)
     replace BK128 := Am11 (kb11 (g:=gb128) (o:=.cells #[.slice none 0 0, .slice none 0 0, .slice none 0 0, .slice none 0 0] 24 (0, 0)) (by (with_reducible repeat first | apply kn11 | apply kd11 | apply ka11); exact BK128.out) hb)
     replace BK129 := Am11 (kb11 (g:=gb129) (o:=.cells #[.slice A0_0 l0_0.length c0_0, .slice A0_1 l0_1.length c0_1, .slice A0_2 l0_2.length c0_2, .slice A0_3 l0_3.length c0_3] 48 (0, 0)) (by (with_reducible repeat first | apply kn11 | apply kd11 | apply ka11); exact BK129.out) hb)
     replace HB := Am11 (bp11 (by repeat (first | (with_reducible first | exact HB.out | apply ba11 | apply bn11 | apply bd11 | refine bs11 ?_ GE127.out | refine bs11 ?_ GE128.out | refine bs11 ?_ GE129.out) | exact HB.out)) hb)
     (try clear hb)
     (try clear hb2)
     (try clear hk)
     (try clear hi)
     (try clear ho0)
     refine hK.out _ _ ⟨(kc11 BK129.out 0).trans rfl, (kc11 BK129.out 1).trans rfl, (kc11 BK129.out 2).trans rfl, (kc11 BK129.out 3).trans rfl⟩ (fun hHeld => ?_)
     clear hK K
     refine norm_ (a' := ?_) ?_ ?_
     rotate_left
     ·show Act.put _ (some 30) _ = _
      simp only [Act.put, sa11, sz11, ss11, i64_w, i32_w]
      rfl
     refine one_ (i:=11) (N:=some 34) (bb11 15 4095) rfl rfl (one_of HT_.out (by kernel_rfl)) (by decide) (fun K hK => ?_)
     refine goes_ Try.func37 (by kernel_rfl) rfl #[.slice A0_3 l0_3.length c0_3] (by rfl) rfl rfl (by (try simp only [ma11, mc11, mn11]); first | done | rfl | (simp only [ld11, lt_11]; rfl)) ?_
     with_reducible refine (slices_Clone_int_int.calls _ _ l0_3 t142 _ ?side1 ?side2 A39.out).mono ?_
     (case side1 => repeat (first | exact (Kd.C_below HR0_3.out HB.out) | (with_reducible refine Kd.C_alloc ?_ _) | (with_reducible refine Kd.C_drewN ?_ _) | (with_reducible refine Kd.C_drew ?_)))
     (case side2 => exact HC0_3.out)
     rintro e w47 ⟨v143, rfl, ho0, hb⟩
     refine ⟨_, rfl, ?_⟩
     have HO144 := Am11 (Rl11 (Rw11 (Rw11 ho0 (Rt11 (by (with_reducible repeat first | apply Ra11 | apply Rn11 | apply Rd11); exact HO138.out))) (Rt11 (by (with_reducible repeat first | apply Ra11 | apply Rn11 | apply Rd11); exact HO141.out))) (bz11 (by repeat (first | (with_reducible first | exact HB.out | apply ba11 | apply bn11 | apply bd11 | refine bs11 ?_ GE127.out | refine bs11 ?_ GE128.out | refine bs11 ?_ GE129.out) | exact HB.out))))
     replace HO138 := Am11 (Re11 (by (with_reducible repeat first | apply Ra11 | apply Rn11 | apply Rd11); exact HO138.out) (Ra_11 ho0) hb)
     replace HO141 := Am11 (Re11 (by (with_reducible repeat first | apply Ra11 | apply Rn11 | apply Rd11); exact HO141.out) (Ra_11 ho0) hb)
     replace BK127 := Am11 (kb11 (g:=gb127) (o:=.cells #[.slice A0_0 l0_0.length c0_0, .slice A0_1 l0_1.length c0_1, .slice A0_2 l0_2.length c0_2, .slice A0_3 l0_3.length c0_3] 24 (0, 0)) (by (with_reducible repeat first | apply kn11 | apply kd11 | apply ka11); exact BK127.out) hb)
     replace BK128 := Am11 (kb11 (g:=gb128) (o:=.cells #[.slice none 0 0, .slice none 0 0, .slice none 0 0, .slice none 0 0] 24 (0, 0)) (by (with_reducible repeat first | apply kn11 | apply kd11 | apply ka11); exact BK128.out) hb)
     replace BK129 := Am11 (kb11 (g:=gb129) (o:=.cells #[.slice A0_0 l0_0.length c0_0, .slice A0_1 l0_1.length c0_1, .slice A0_2 l0_2.length c0_2, .slice A0_3 l0_3.length c0_3] 48 (0, 0)) (by (with_reducible repeat first | apply kn11 | apply kd11 | apply ka11); exact BK129.out) hb)
     replace HB := Am11 (bp11 (by repeat (first | (with_reducible first | exact HB.out | apply ba11 | apply bn11 | apply bd11 | refine bs11 ?_ GE127.out | refine bs11 ?_ GE128.out | refine bs11 ?_ GE129.out) | exact HB.out)) hb)
     (try clear hb)
     (try clear hb2)
     (try clear hk)
     (try clear hi)
     (try clear ho0)
     obtain ⟨Ao48, co48, eo48⟩ := Kd.R_slice HO144.out
     (first | subst eo48 | (injection eo48 with f1_ f2_ f3_; have f4_ := f1_.symm; have f5_ := f3_.symm; clear f1_ f2_ f3_; subst f4_; subst f5_))
     obtain ⟨Ao49, co49, eo49⟩ := Kd.R_slice HO141.out
     (first | subst eo49 | (injection eo49 with f1_ f2_ f3_; have f4_ := f1_.symm; have f5_ := f3_.symm; clear f1_ f2_ f3_; subst f4_; subst f5_))
     obtain ⟨Ao50, co50, eo50⟩ := Kd.R_slice HO138.out
     (first | subst eo50 | (injection eo50 with f1_ f2_ f3_; have f4_ := f1_.symm; have f5_ := f3_.symm; clear f1_ f2_ f3_; subst f4_; subst f5_))
     refine hK.out _ _ ⟨(kc11 BK129.out 0).trans rfl, (kc11 BK129.out 1).trans rfl, (kc11 BK129.out 2).trans rfl, (kc11 BK129.out 3).trans rfl⟩ (fun hHeld => ?_)
     clear hK K
     refine norm_ (a' := ?_) ?_ ?_
     rotate_left
     ·show Act.put _ (some 34) _ = _
      simp only [Act.put, sa11, sz11, ss11, i64_w, i32_w]
      rfl
     refine pure_ (i:=12) (N:=some 35) (v:=?_) (a' := ?_) (bb11 15 8191) rfl rfl (any_of HT_.out (by kernel_rfl)) (fun _ _ _ h => h) (Or.inl ⟨by rfl, ?_⟩) ?_ ?_
     rotate_left
     ·intro w'
      go_simp
      with_reducible rfl
     rotate_left
     ·simp only [Act.put, sa11, sz11, ss11, i64_w, i32_w]
      rfl
     refine one_ (i:=13) (N:=none) (bb11 15 16383) rfl rfl (one_of HT_.out (by kernel_rfl)) (by decide) (fun K hK => ?_)
     have hs51 : w47.cell? ⟨gb128, 0, none⟩ = some (.slice none 0 0) := (kc11 BK128.out 0).trans rfl
     have hfs51 := kz11 BK128.out 0
     have hns51_0 := NB127_128.out
     have hns51_2 := NB129_128.out
     have hms51_0 := NB128_127.out
     have hms51_2 := NB128_129.out
     have hs52 : w47.cell? ⟨gb128, 1, none⟩ = some (.slice none 0 0) := (kc11 BK128.out 1).trans rfl
     have hfs52 := kz11 BK128.out 1
     have hns52_0 := NB127_128.out
     have hns52_2 := NB129_128.out
     have hms52_0 := NB128_127.out
     have hms52_2 := NB128_129.out
     have hs53 : w47.cell? ⟨gb128, 2, none⟩ = some (.slice none 0 0) := (kc11 BK128.out 2).trans rfl
     have hfs53 := kz11 BK128.out 2
     have hns53_0 := NB127_128.out
     have hns53_2 := NB129_128.out
     have hms53_0 := NB128_127.out
     have hms53_2 := NB128_129.out
     have hs54 : w47.cell? ⟨gb128, 3, none⟩ = some (.slice none 0 0) := (kc11 BK128.out 3).trans rfl
     have hfs54 := kz11 BK128.out 3
     have hns54_0 := NB127_128.out
     have hns54_2 := NB129_128.out
     have hms54_0 := NB128_127.out
     have hms54_2 := NB128_129.out
     refine skip_ (w1:=?_) (by rfl) rfl ?_ ?_
     rotate_left
     ·go_simp
      rfl
     refine hK.out _ _ ⟨((cell_far (p:=⟨gb128, _, none⟩) NB129_128.out _).trans (((cell_far (p:=⟨gb128, _, none⟩) NB129_128.out _).trans (((cell_far (p:=⟨gb128, _, none⟩) NB129_128.out _).trans (((cell_far (p:=⟨gb128, _, none⟩) NB129_128.out _).trans (hHeld.1)))))))), ((cell_far (p:=⟨gb128, _, none⟩) NB129_128.out _).trans (((cell_far (p:=⟨gb128, _, none⟩) NB129_128.out _).trans (((cell_far (p:=⟨gb128, _, none⟩) NB129_128.out _).trans (((cell_far (p:=⟨gb128, _, none⟩) NB129_128.out _).trans (hHeld.2.1)))))))), ((cell_far (p:=⟨gb128, _, none⟩) NB129_128.out _).trans (((cell_far (p:=⟨gb128, _, none⟩) NB129_128.out _).trans (((cell_far (p:=⟨gb128, _, none⟩) NB129_128.out _).trans (((cell_far (p:=⟨gb128, _, none⟩) NB129_128.out _).trans (hHeld.2.2.1)))))))), ((cell_far (p:=⟨gb128, _, none⟩) NB129_128.out _).trans (((cell_far (p:=⟨gb128, _, none⟩) NB129_128.out _).trans (((cell_far (p:=⟨gb128, _, none⟩) NB129_128.out _).trans (((cell_far (p:=⟨gb128, _, none⟩) NB129_128.out _).trans (hHeld.2.2.2))))))))⟩ (fun hHeld => ?_)
     clear hK K
     refine pure_ (i:=14) (N:=some 3) (v:=?_) (a' := ?_) (bb11 15 32767) rfl rfl (any_of HT_.out (by kernel_rfl)) (fun _ _ _ h => h) (Or.inl ⟨by rfl, ?_⟩) ?_ ?_
     rotate_left
     ·intro w'
      go_simp
      with_reducible rfl
     rotate_left
     ·simp only [Act.put, sa11, sz11, ss11, i64_w, i32_w]
      rfl
     refine done_ (done_of HT_.out (by kernel_rfl)) ?_
     try go_wp2
     refine bodyPost_ret (results_ct rfl _ _ gb128 24 #[.slice Ao50 t136.length co50, .slice Ao49 t139.length co49, .slice none 0 0, .slice Ao48 t142.length co48] (0, 0) _ rfl (by (with_reducible repeat first | apply kn11 | apply kd11 | apply ka11); refine blk_put (cs:=#[.slice Ao50 t136.length co50, .slice Ao49 t139.length co49, .slice none 0 0, .slice none 0 0]) ?_ 3 _ rfl; (with_reducible repeat first | apply kn11 | apply kd11 | apply ka11); refine blk_put (cs:=#[.slice Ao50 t136.length co50, .slice Ao49 t139.length co49, .slice none 0 0, .slice none 0 0]) ?_ 2 _ rfl; (with_reducible repeat first | apply kn11 | apply kd11 | apply ka11); refine blk_put (cs:=#[.slice Ao50 t136.length co50, .slice none 0 0, .slice none 0 0, .slice none 0 0]) ?_ 1 _ rfl; (with_reducible repeat first | apply kn11 | apply kd11 | apply ka11); refine blk_put (cs:=#[.slice none 0 0, .slice none 0 0, .slice none 0 0, .slice none 0 0]) ?_ 0 _ rfl; (with_reducible repeat first | apply kn11 | apply kd11 | apply ka11); exact BK128.out) Try.underlying24 rfl (by kernel_rfl)) rfl ?_
     exact ⟨_, _, _, _, by first | rfl | (simp [errW_none, errW_some] <;> rfl) | (simp [*, errW_none, errW_some] <;> rfl), by (with_reducible repeat first | apply Ra11 | apply Rn11 | apply Rd11); exact Ro11 (Rf11 (p:=⟨gb128, 3, none⟩) (Rf11 (p:=⟨gb128, 2, none⟩) (Rf11 (p:=⟨gb128, 1, none⟩) (Rf11 (p:=⟨gb128, 0, none⟩) (Ry11 HO138.out BK128.out (by decide)) (fun _ h=>h.2) (.slice Ao50 t136.length co50)) (fun _ h=>h.2) (.slice Ao49 t139.length co49)) (fun _ h=>h.2) (.slice none 0 0)) (fun _ h=>h.2) (.slice Ao48 t142.length co48)) (fun _ hk => ⟨hk.1.1.2, ⟨(by simp [Value.ownBlock]), hk.1.2⟩⟩), by (with_reducible repeat first | apply Ra11 | apply Rn11 | apply Rd11); exact Ro11 (Rf11 (p:=⟨gb128, 3, none⟩) (Rf11 (p:=⟨gb128, 2, none⟩) (Rf11 (p:=⟨gb128, 1, none⟩) (Rf11 (p:=⟨gb128, 0, none⟩) (Ry11 HO141.out BK128.out (by decide)) (fun _ h=>h.2) (.slice Ao50 t136.length co50)) (fun _ h=>h.2) (.slice Ao49 t139.length co49)) (fun _ h=>h.2) (.slice none 0 0)) (fun _ h=>h.2) (.slice Ao48 t142.length co48)) (fun _ hk => ⟨hk.1.1.2, ⟨(by simp [Value.ownBlock]), hk.1.2⟩⟩), by first | exact Kd.R_nil _ _ _ _ _ | exact Kd.N_nil _ _ _ _ _ | exact Kd.V_nil _ _ _ _ _ | exact Kd.Q_nil _ _ _ _ _ | exact Kd.S_nil _ _ _ _ _, by (with_reducible repeat first | apply Ra11 | apply Rn11 | apply Rd11); exact Ro11 (Rf11 (p:=⟨gb128, 3, none⟩) (Rf11 (p:=⟨gb128, 2, none⟩) (Rf11 (p:=⟨gb128, 1, none⟩) (Rf11 (p:=⟨gb128, 0, none⟩) (Ry11 HO144.out BK128.out (by decide)) (fun _ h=>h.2) (.slice Ao50 t136.length co50)) (fun _ h=>h.2) (.slice Ao49 t139.length co49)) (fun _ h=>h.2) (.slice none 0 0)) (fun _ h=>h.2) (.slice Ao48 t142.length co48)) (fun _ hk => ⟨hk.1.1.2, ⟨hk.1.2, (by simp [Value.ownBlock])⟩⟩), by repeat (first | (with_reducible first | exact HB.out | apply ba11 | apply bn11 | apply bd11 | refine bs11 ?_ GE127.out | refine bs11 ?_ GE128.out | refine bs11 ?_ GE129.out) | exact HB.out)⟩

end Go.Proofs.Ytkilmclncpmjnaa.P06t
