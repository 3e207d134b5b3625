-- Written by gprint.py, a program of this session, over the kit's print; the functions of my own contracts are marked GIVEN
import Derived.Test.YtbmnhpihlkljdaaP04wx0
import Derived.Test.YtbmnhpihlkljdaaP04wx1
import Derived.Test.YtbmnhpihlkljdaaP04wx2
import Derived.Test.YtbmnhpihlkljdaaP04wx3
import Derived.Test.YtbmnhpihlkljdaaP04wx4
namespace Go.Proofs.Ytbmnhpihlkljdaa.P04w
open Go.RowKit Go.Proofs.YtbmnhpihlkljdaaW.PrintWords Go.Proofs.YtbmnhpihlkljdaaW.PrintLast Go.Proofs.YtbmnhpihlkljdaaW.PrintMore
attribute [local go_sem] max2_str max2_int min2_int max_two min_two max_three min_three max_four min_four   -- for this text's walks alone
set_option linter.unusedVariables false
set_option linter.unusedSimpArgs false

attribute [local go_sem high] eqA26
theorem Am7 : type_of% @Aside0.mk := @Aside0.mk
theorem Ra7 : type_of% @Kd.R_alloc := @Kd.R_alloc
theorem Rn7 : type_of% @Kd.R_drewN := @Kd.R_drewN
theorem Rd7 : type_of% @Kd.R_drew := @Kd.R_drew
theorem Rb7 : type_of% @Kd.R_below := @Kd.R_below
theorem ba7 : type_of% @below_alloc := @below_alloc
theorem bn7 : type_of% @pw_below_drewN := @pw_below_drewN
theorem bd7 : type_of% @below_drew1 := @below_drew1
theorem bs7 : type_of% @below_set := @below_set
theorem kn7 : type_of% @blk_drewN := @blk_drewN
theorem kd7 : type_of% @blk_drew := @blk_drew
theorem ka7 : type_of% @blk_alloc := @blk_alloc
theorem kf7 : type_of% @blk_far := @blk_far
theorem kb7 : type_of% @blk_below := @blk_below
theorem Rl7 : type_of% @Kd.R_lower := @Kd.R_lower
theorem bz7 : type_of% @below_size := @below_size
theorem bp7 : type_of% @below_step := @below_step
theorem kc7 : type_of% @blk_cell := @blk_cell
theorem kz7 : type_of% @blk_frozen := @blk_frozen
theorem sa7 : type_of% @List.setIfInBounds_toArray := @List.setIfInBounds_toArray
theorem sz7 : type_of% @List.set_cons_zero := @List.set_cons_zero
theorem ss7 : type_of% @List.set_cons_succ := @List.set_cons_succ
theorem ma7 : type_of% @List.map_toArray := @List.map_toArray
theorem mc7 : type_of% @List.map_cons := @List.map_cons
theorem mn7 : type_of% @List.map_nil := @List.map_nil
theorem ld7 : type_of% @List.length_drop := @List.length_drop
theorem lt_7 : type_of% @List.length_take := @List.length_take
/-! ### watershedlaw04_SpanWithin: function 7 -/
def watershedlaw04_SpanWithin.j0 : Nat → Bool → ByteArray → ByteArray → ByteArray → ByteArray → Option (Bool)
 | 0, _, _, _, _, _ => none
 | k + 1, x63, x196000, x196001, x197000, x197001 => if x63 = true then (none) else ((span_Meet.f k x196000 x196001 x197000 x197001).bind fun bt214 => ((span_Within.f k x196000 x196001 x196000 x196001).bind fun t218 => ((span_Right.f k x196000 x196001).bind fun t219 => (if (t218 == t219) = true then (if bt214.2.2 = true then ((span_Within.f k bt214.1 bt214.2.1 x196000 x196001).bind fun t220 => (if t220 = true then ((span_Within.f k bt214.1 bt214.2.1 x197000 x197001).bind fun t221 => (if t221 = true then ((span_Right.f k x196000 x196001).bind fun t222 => (if t222 = true then ((span_All.f).bind fun bt223 => ((span_Within.f k x196000 x196001 bt223.1 bt223.2).bind fun t225 => (some t225))) else (some true))) else (none))) else (none))) else ((span_Right.f k x196000 x196001).bind fun t226 => (if t226 = true then ((span_All.f).bind fun bt227 => ((span_Within.f k x196000 x196001 bt227.1 bt227.2).bind fun t229 => (some t229))) else (some true)))) else (none)))))
def watershedlaw04_SpanWithin.f (k : Nat) (a0_0 : ByteArray) (a0_1 : ByteArray) (a1_0 : ByteArray) (a1_1 : ByteArray) (a2_0 : ByteArray) (a2_1 : ByteArray) (a3 : ByteArray) : Option (Bool) := (watershedlaw04_awake.f k).bind fun t198 => (if t198 = true then ((watershedlaw04_few.f k (([a0_0, a0_1, a1_0, a1_1, a2_0, a2_1, a3] : List ByteArray))).bind fun t202 => (if t202 = true then ((span_Within.f k a0_0 a0_1 a1_0 a1_1).bind fun t203 => (if t203 = true then ((span_Has.f k a0_0 a0_1 a3).bind fun t204 => (if t204 = true then ((span_Has.f k a1_0 a1_1 a3).bind fun t205 => (if t205 = true then ((span_Within.f k a1_0 a1_1 a2_0 a2_1).bind fun t206 => (if t206 = true then ((span_Within.f k a0_0 a0_1 a2_0 a2_1).bind fun t207 => (if t207 = true then ((span_Within.f k a1_0 a1_1 a0_0 a0_1).bind fun t208 => (if t208 = true then (watershedlaw04_SpanWithin.j0 k (!(a0_0.toList == a1_0.toList) || (!(a0_1.toList == a1_1.toList))) a0_0 a0_1 a1_0 a1_1) else (watershedlaw04_SpanWithin.j0 k false a0_0 a0_1 a1_0 a1_1))) else (watershedlaw04_SpanWithin.j0 k true a0_0 a0_1 a1_0 a1_1))) else ((span_Within.f k a1_0 a1_1 a0_0 a0_1).bind fun t209 => (if t209 = true then (watershedlaw04_SpanWithin.j0 k (!(a0_0.toList == a1_0.toList) || (!(a0_1.toList == a1_1.toList))) a0_0 a0_1 a1_0 a1_1) else (watershedlaw04_SpanWithin.j0 k false a0_0 a0_1 a1_0 a1_1))))) else (watershedlaw04_SpanWithin.j0 k true a0_0 a0_1 a1_0 a1_1))) else ((span_Within.f k a1_0 a1_1 a2_0 a2_1).bind fun t210 => (if t210 = true then ((span_Within.f k a0_0 a0_1 a2_0 a2_1).bind fun t211 => (if t211 = true then ((span_Within.f k a1_0 a1_1 a0_0 a0_1).bind fun t212 => (if t212 = true then (watershedlaw04_SpanWithin.j0 k (!(a0_0.toList == a1_0.toList) || (!(a0_1.toList == a1_1.toList))) a0_0 a0_1 a1_0 a1_1) else (watershedlaw04_SpanWithin.j0 k false a0_0 a0_1 a1_0 a1_1))) else (watershedlaw04_SpanWithin.j0 k true a0_0 a0_1 a1_0 a1_1))) else ((span_Within.f k a1_0 a1_1 a0_0 a0_1).bind fun t213 => (if t213 = true then (watershedlaw04_SpanWithin.j0 k (!(a0_0.toList == a1_0.toList) || (!(a0_1.toList == a1_1.toList))) a0_0 a0_1 a1_0 a1_1) else (watershedlaw04_SpanWithin.j0 k false a0_0 a0_1 a1_0 a1_1))))))) else (watershedlaw04_SpanWithin.j0 k false a0_0 a0_1 a1_0 a1_1))) else (some true))) else (none))
theorem watershedlaw04_SpanWithin.mono_l : ∀ k, (∀ y0 y1 y2 y3 y4, LeO (watershedlaw04_SpanWithin.j0 k y0 y1 y2 y3 y4) (watershedlaw04_SpanWithin.j0 (k + 1) y0 y1 y2 y3 y4))
 | 0 => fun _ _ _ _ _ r h => by simp [watershedlaw04_SpanWithin.j0] at h
 | k + 1 => by
  have ih0 := watershedlaw04_SpanWithin.mono_l k
  ·intro y0 y1 y2 y3 y4
   unfold watershedlaw04_SpanWithin.j0
   repeat' first
   | (with_reducible exact ih0 _ _ _ _ _)
   | (with_reducible exact span_Has.mono _ _ _ _)
   | (with_reducible exact span_Meet.mono _ _ _ _ _)
   | (with_reducible exact span_Right.mono _ _ _)
   | (with_reducible exact span_Within.mono _ _ _ _ _)
   | (with_reducible exact watershedlaw04_awake.mono _)
   | (with_reducible exact watershedlaw04_few.mono _ _)
   | (with_reducible exact LeO.refl _)
   | (with_reducible exact LeO.none _)
   | (with_reducible refine LeO.ite ?_ ?_)
   | (with_reducible refine LeO.bind ?_ (fun _ => ?_))
   | exact ih0 _ _ _ _ _
   | exact span_Has.mono _ _ _ _
   | exact span_Meet.mono _ _ _ _ _
   | exact span_Right.mono _ _ _
   | exact span_Within.mono _ _ _ _ _
   | exact watershedlaw04_awake.mono _
   | exact watershedlaw04_few.mono _ _
   | exact LeO.none _
   | refine LeO.ite ?_ ?_
   | refine LeO.bind ?_ (fun _ => ?_)
theorem watershedlaw04_SpanWithin.mono : ∀ a0 a1 a2 a3 a4 a5 a6 k, LeO (watershedlaw04_SpanWithin.f k a0 a1 a2 a3 a4 a5 a6) (watershedlaw04_SpanWithin.f (k + 1) a0 a1 a2 a3 a4 a5 a6) := by
 intro a0 a1 a2 a3 a4 a5 a6 k
 have ih0 := watershedlaw04_SpanWithin.mono_l k
 unfold watershedlaw04_SpanWithin.f
 repeat' first
   | (with_reducible exact ih0 _ _ _ _ _)
   | (with_reducible exact span_Has.mono _ _ _ _)
   | (with_reducible exact span_Meet.mono _ _ _ _ _)
   | (with_reducible exact span_Right.mono _ _ _)
   | (with_reducible exact span_Within.mono _ _ _ _ _)
   | (with_reducible exact watershedlaw04_awake.mono _)
   | (with_reducible exact watershedlaw04_few.mono _ _)
   | (with_reducible exact LeO.refl _)
   | (with_reducible exact LeO.none _)
   | (with_reducible refine LeO.ite ?_ ?_)
   | (with_reducible refine LeO.bind ?_ (fun _ => ?_))
   | exact ih0 _ _ _ _ _
   | exact span_Has.mono _ _ _ _
   | exact span_Meet.mono _ _ _ _ _
   | exact span_Right.mono _ _ _
   | exact span_Within.mono _ _ _ _ _
   | exact watershedlaw04_awake.mono _
   | exact watershedlaw04_few.mono _ _
   | exact LeO.none _
   | refine LeO.ite ?_ ?_
   | refine LeO.bind ?_ (fun _ => ?_)
def watershedlaw04_SpanWithin.T8 : Bool × List (List Nat × List Nat) := (true, [([], []), ([], []), ([0, 1], [0, 1]), ([], []), ([3, 2], [3]), ([2, 4], [2, 4]), ([5, 4], [5]), ([6], [6]), ([7, 6], [6, 7]), ([8, 6, 6], [6, 8]), ([9], [9]), ([9], [9]), ([10, 11, 9, 9], [9, 10, 11]), ([12, 12, 9], [9, 12]), ([13], [13]), ([13], [13]), ([14, 15, 13, 13], [13, 14, 15]), ([13, 16, 9], [9, 13, 16]), ([9, 17, 6], [6, 9, 17]), ([6, 18], [6, 18]), ([19, 16], [19]), ([20], [20]), ([21, 20, 20], [20, 21]), ([22, 20], [20, 22]), ([23, 22, 20], [20, 23]), ([24], [24]), ([24, 24], [24]), ([25, 26, 26, 24], [24, 25, 26]), ([24, 27, 20], [20, 24, 27]), ([20, 28], [20, 28]), ([29, 27, 0, 1, 2, 3, 4, 5, 6, 7, 8, 9, 10, 11, 12, 13, 14, 15, 16, 17, 18, 19, 20, 21, 22, 23, 24, 25, 26, 27, 28, 29], [29])])
def watershedlaw04_SpanWithin.B8 : List Nat := [0, 0, 3, 0, 15, 31, 63, 127, 255, 511, 1023, 1023, 4095, 8191, 16383, 16383, 65535, 131071, 262143, 524287, 1048575, 2097151, 4194303, 8388607, 16777215, 33554431, 33554431, 134217727, 268435455, 536870911, 1073741823]
theorem watershedlaw04_SpanWithin.tab8 : rtab .any (opsOf Try.f7 8) = watershedlaw04_SpanWithin.T8 := by kernel_rfl
theorem watershedlaw04_SpanWithin.bits8 : waitsOk watershedlaw04_SpanWithin.T8.2 watershedlaw04_SpanWithin.B8 = true := by kernel_rfl
set_option maxHeartbeats 8000000 in
set_option maxRecDepth 100000 in
theorem watershedlaw04_SpanWithin.calls (k : Nat) (a0_0 : ByteArray) (a0_1 : ByteArray) (a1_0 : ByteArray) (a1_1 : ByteArray) (a2_0 : ByteArray) (a2_1 : ByteArray) (a3 : ByteArray) (r : Bool) (w : World) (h : watershedlaw04_SpanWithin.f k a0_0 a0_1 a1_0 a1_1 a2_0 a2_1 a3 = some r) :
  Calls Try.prog 7 #[.agg #[.string a0_0, .string a0_1], .agg #[.string a1_0, .string a1_1], .agg #[.string a2_0, .string a2_1], .string a3] w fun e w' => e = .returned (.bool r) ∧ Below w.heap.size w w' := by
 have hu26 := Try.underlying26
 have HB := Am7 (Below.refl w.heap.size w)
 have H : ((watershedlaw04_awake.f k).bind fun t198 => (if t198 = true then ((watershedlaw04_few.f k (([a0_0, a0_1, a1_0, a1_1, a2_0, a2_1, a3] : List ByteArray))).bind fun t202 => (if t202 = true then ((span_Within.f k a0_0 a0_1 a1_0 a1_1).bind fun t203 => (if t203 = true then ((span_Has.f k a0_0 a0_1 a3).bind fun t204 => (if t204 = true then ((span_Has.f k a1_0 a1_1 a3).bind fun t205 => (if t205 = true then ((span_Within.f k a1_0 a1_1 a2_0 a2_1).bind fun t206 => (if t206 = true then ((span_Within.f k a0_0 a0_1 a2_0 a2_1).bind fun t207 => (if t207 = true then ((span_Within.f k a1_0 a1_1 a0_0 a0_1).bind fun t208 => (if t208 = true then (watershedlaw04_SpanWithin.j0 k (!(a0_0.toList == a1_0.toList) || (!(a0_1.toList == a1_1.toList))) a0_0 a0_1 a1_0 a1_1) else (watershedlaw04_SpanWithin.j0 k false a0_0 a0_1 a1_0 a1_1))) else (watershedlaw04_SpanWithin.j0 k true a0_0 a0_1 a1_0 a1_1))) else ((span_Within.f k a1_0 a1_1 a0_0 a0_1).bind fun t209 => (if t209 = true then (watershedlaw04_SpanWithin.j0 k (!(a0_0.toList == a1_0.toList) || (!(a0_1.toList == a1_1.toList))) a0_0 a0_1 a1_0 a1_1) else (watershedlaw04_SpanWithin.j0 k false a0_0 a0_1 a1_0 a1_1))))) else (watershedlaw04_SpanWithin.j0 k true a0_0 a0_1 a1_0 a1_1))) else ((span_Within.f k a1_0 a1_1 a2_0 a2_1).bind fun t210 => (if t210 = true then ((span_Within.f k a0_0 a0_1 a2_0 a2_1).bind fun t211 => (if t211 = true then ((span_Within.f k a1_0 a1_1 a0_0 a0_1).bind fun t212 => (if t212 = true then (watershedlaw04_SpanWithin.j0 k (!(a0_0.toList == a1_0.toList) || (!(a0_1.toList == a1_1.toList))) a0_0 a0_1 a1_0 a1_1) else (watershedlaw04_SpanWithin.j0 k false a0_0 a0_1 a1_0 a1_1))) else (watershedlaw04_SpanWithin.j0 k true a0_0 a0_1 a1_0 a1_1))) else ((span_Within.f k a1_0 a1_1 a0_0 a0_1).bind fun t213 => (if t213 = true then (watershedlaw04_SpanWithin.j0 k (!(a0_0.toList == a1_0.toList) || (!(a0_1.toList == a1_1.toList))) a0_0 a0_1 a1_0 a1_1) else (watershedlaw04_SpanWithin.j0 k false a0_0 a0_1 a1_0 a1_1))))))) else (watershedlaw04_SpanWithin.j0 k false a0_0 a0_1 a1_0 a1_1))) else (some true))) else (none))) = some r := h
 clear h
 replace H := Option.bind_eq_some_iff.mp H
 obtain ⟨t198, A50, H⟩ := H
 try dsimp only at H
 have A5 := Am7 A50
 clear A50
 by_cases c6 : t198 = true
 ·subst c6
  rw [if_pos rfl] at H
  obtain ⟨y199, hy199⟩ : ∃ y_ : List ByteArray, y_ = (([a0_0, a0_1, a1_0, a1_1, a2_0, a2_1, a3] : List ByteArray)) := ⟨_, rfl⟩
  replace H : ((watershedlaw04_few.f k y199).bind fun t202 => (if t202 = true then ((span_Within.f k a0_0 a0_1 a1_0 a1_1).bind fun t203 => (if t203 = true then ((span_Has.f k a0_0 a0_1 a3).bind fun t204 => (if t204 = true then ((span_Has.f k a1_0 a1_1 a3).bind fun t205 => (if t205 = true then ((span_Within.f k a1_0 a1_1 a2_0 a2_1).bind fun t206 => (if t206 = true then ((span_Within.f k a0_0 a0_1 a2_0 a2_1).bind fun t207 => (if t207 = true then ((span_Within.f k a1_0 a1_1 a0_0 a0_1).bind fun t208 => (if t208 = true then (watershedlaw04_SpanWithin.j0 k (!(a0_0.toList == a1_0.toList) || (!(a0_1.toList == a1_1.toList))) a0_0 a0_1 a1_0 a1_1) else (watershedlaw04_SpanWithin.j0 k false a0_0 a0_1 a1_0 a1_1))) else (watershedlaw04_SpanWithin.j0 k true a0_0 a0_1 a1_0 a1_1))) else ((span_Within.f k a1_0 a1_1 a0_0 a0_1).bind fun t209 => (if t209 = true then (watershedlaw04_SpanWithin.j0 k (!(a0_0.toList == a1_0.toList) || (!(a0_1.toList == a1_1.toList))) a0_0 a0_1 a1_0 a1_1) else (watershedlaw04_SpanWithin.j0 k false a0_0 a0_1 a1_0 a1_1))))) else (watershedlaw04_SpanWithin.j0 k true a0_0 a0_1 a1_0 a1_1))) else ((span_Within.f k a1_0 a1_1 a2_0 a2_1).bind fun t210 => (if t210 = true then ((span_Within.f k a0_0 a0_1 a2_0 a2_1).bind fun t211 => (if t211 = true then ((span_Within.f k a1_0 a1_1 a0_0 a0_1).bind fun t212 => (if t212 = true then (watershedlaw04_SpanWithin.j0 k (!(a0_0.toList == a1_0.toList) || (!(a0_1.toList == a1_1.toList))) a0_0 a0_1 a1_0 a1_1) else (watershedlaw04_SpanWithin.j0 k false a0_0 a0_1 a1_0 a1_1))) else (watershedlaw04_SpanWithin.j0 k true a0_0 a0_1 a1_0 a1_1))) else ((span_Within.f k a1_0 a1_1 a0_0 a0_1).bind fun t213 => (if t213 = true then (watershedlaw04_SpanWithin.j0 k (!(a0_0.toList == a1_0.toList) || (!(a0_1.toList == a1_1.toList))) a0_0 a0_1 a1_0 a1_1) else (watershedlaw04_SpanWithin.j0 k false a0_0 a0_1 a1_0 a1_1))))))) else (watershedlaw04_SpanWithin.j0 k false a0_0 a0_1 a1_0 a1_1))) else (some true))) = some r := by first | (rw [hy199]; with_reducible exact H) | (have H2_ := (Option.bind_some _ _).symm.trans H; rw [hy199]; with_reducible exact H2_) | (have H2_ := (Option.bind_some _ _).symm.trans H; with_reducible exact H2_) | with_reducible exact H | (rw [hy199]; exact H) | exact H
  have Ny199 := Am7 hy199
  clear hy199
  replace H := Option.bind_eq_some_iff.mp H
  obtain ⟨t202, A70, H⟩ := H
  try dsimp only at H
  have A7 := Am7 A70
  clear A70
  by_cases c8 : t202 = true
  ·subst c8
   rw [if_pos rfl] at H
   have HC9 := Am7 H
   clear H
   go_enter Try.func7, Try.ntmps7
   go_upto_region 5 with (first | ((with_reducible refine gate_dst (N:=4) rfl ?_); refine box_event ?hg (N:=4) ?hd (cs:=#[.string a0_0, .string a0_1]) (t:=26) ?hr ?_; (case hd => rfl); (case hg => rfl); (case hr => first | (go_simp; done) | (go_simp; rfl)); intro gb195 hg w10 hbox hb; have n0_ := Am7 (bp7 (by repeat (first | (with_reducible first | exact HB.out | apply ba7 | apply bn7 | apply bd7) | exact HB.out)) hb); have n1_ := Am7 (hbox); have n2_ := Am7 ((by rw [hg]; exact (bz7 (by repeat (first | (with_reducible first | exact HB.out | apply ba7 | apply bn7 | apply bd7) | exact HB.out))) : w.heap.size ≤ gb195)); have n3_ := Am7 ((by rw [hg]; exact (bz7 (by repeat (first | (with_reducible first | exact HB.out | apply ba7 | apply bn7 | apply bd7) | exact HB.out))) : w.heap.size ≤ gb195)); clear HB; have HB := n0_; have BK195 := n1_; have GW195 := n2_; have GE195 := n3_; clear n0_ n1_ n2_ n3_; clear hb hbox hg) | ((with_reducible refine gate_dst (N:=5) rfl ?_); refine box_event ?hg (N:=5) ?hd (cs:=#[.string a1_0, .string a1_1]) (t:=26) ?hr ?_; (case hd => rfl); (case hg => rfl); (case hr => first | (go_simp; done) | (go_simp; rfl)); intro gb196 hg w11 hbox hb; have n0_ := Am7 (kb7 (g:=gb195) (by (with_reducible repeat first | apply kn7 | apply kd7 | apply ka7); exact BK195.out) hb); have n1_ := Am7 (bp7 (by repeat (first | (with_reducible first | exact HB.out | apply ba7 | apply bn7 | apply bd7 | refine bs7 ?_ GE195.out) | exact HB.out)) hb); have n2_ := Am7 (hbox); have n3_ := Am7 ((by rw [hg]; exact (bz7 (by repeat (first | (with_reducible first | exact HB.out | apply ba7 | apply bn7 | apply bd7 | refine bs7 ?_ GE195.out) | exact HB.out))) : w.heap.size ≤ gb196)); have n4_ := Am7 ((by rw [hg]; exact (bz7 (by repeat (first | (with_reducible first | exact HB.out | apply ba7 | apply bn7 | apply bd7 | refine bs7 ?_ GE195.out) | exact HB.out))) : w.heap.size ≤ gb196)); have n5_ := Am7 ((by rw [hg]; exact Nat.ne_of_lt (blk_lt (g:=gb195) (by (with_reducible repeat first | apply kn7 | apply kd7 | apply ka7); exact BK195.out)) : gb195 ≠ gb196)); have n6_ := Am7 ((by rw [hg]; exact Nat.ne_of_gt (blk_lt (g:=gb195) (by (with_reducible repeat first | apply kn7 | apply kd7 | apply ka7); exact BK195.out)) : gb196 ≠ gb195)); clear BK195; clear HB; have BK195 := n0_; have HB := n1_; have BK196 := n2_; have GW196 := n3_; have GE196 := n4_; have NB195_196 := n5_; have NB196_195 := n6_; clear n0_ n1_ n2_ n3_ n4_ n5_ n6_; clear hb hbox hg) | ((with_reducible refine gate_dst (N:=6) rfl ?_); refine box_event ?hg (N:=6) ?hd (cs:=#[.string a2_0, .string a2_1]) (t:=26) ?hr ?_; (case hd => rfl); (case hg => rfl); (case hr => first | (go_simp; done) | (go_simp; rfl)); intro gb197 hg w12 hbox hb; have n0_ := Am7 (kb7 (g:=gb195) (by (with_reducible repeat first | apply kn7 | apply kd7 | apply ka7); exact BK195.out) hb); have n1_ := Am7 (kb7 (g:=gb196) (by (with_reducible repeat first | apply kn7 | apply kd7 | apply ka7); exact BK196.out) hb); have n2_ := Am7 (bp7 (by repeat (first | (with_reducible first | exact HB.out | apply ba7 | apply bn7 | apply bd7 | refine bs7 ?_ GE195.out | refine bs7 ?_ GE196.out) | exact HB.out)) hb); have n3_ := Am7 (hbox); have n4_ := Am7 ((by rw [hg]; exact (bz7 (by repeat (first | (with_reducible first | exact HB.out | apply ba7 | apply bn7 | apply bd7 | refine bs7 ?_ GE195.out | refine bs7 ?_ GE196.out) | exact HB.out))) : w.heap.size ≤ gb197)); have n5_ := Am7 ((by rw [hg]; exact (bz7 (by repeat (first | (with_reducible first | exact HB.out | apply ba7 | apply bn7 | apply bd7 | refine bs7 ?_ GE195.out | refine bs7 ?_ GE196.out) | exact HB.out))) : w.heap.size ≤ gb197)); have n6_ := Am7 ((by rw [hg]; exact Nat.ne_of_lt (blk_lt (g:=gb195) (by (with_reducible repeat first | apply kn7 | apply kd7 | apply ka7); exact BK195.out)) : gb195 ≠ gb197)); have n7_ := Am7 ((by rw [hg]; exact Nat.ne_of_gt (blk_lt (g:=gb195) (by (with_reducible repeat first | apply kn7 | apply kd7 | apply ka7); exact BK195.out)) : gb197 ≠ gb195)); have n8_ := Am7 ((by rw [hg]; exact Nat.ne_of_lt (blk_lt (g:=gb196) (by (with_reducible repeat first | apply kn7 | apply kd7 | apply ka7); exact BK196.out)) : gb196 ≠ gb197)); have n9_ := Am7 ((by rw [hg]; exact Nat.ne_of_gt (blk_lt (g:=gb196) (by (with_reducible repeat first | apply kn7 | apply kd7 | apply ka7); exact BK196.out)) : gb197 ≠ gb196)); clear BK195; clear BK196; clear HB; have BK195 := n0_; have BK196 := n1_; have HB := n2_; have BK197 := n3_; have GW197 := n4_; have GE197 := n5_; have NB195_197 := n6_; have NB197_195 := n7_; have NB196_197 := n8_; have NB197_196 := n9_; clear n0_ n1_ n2_ n3_ n4_ n5_ n6_ n7_ n8_ n9_; clear hb hbox hg) | ((with_reducible refine gate_callee (f:=8) rfl ?_); refine goesL_ (some 11) rfl rfl Try.func8 (by kernel_rfl) rfl #[] rfl (by (try simp only [ma7, mc7, mn7]); first | done | rfl | (simp only [ld7, lt_7]; rfl)) ?_; (with_reducible refine (watershedlaw04_awake.calls k  true _ A5.out).mono ?_); rintro e w13 ⟨rfl, hb⟩; refine ⟨_, rfl, ?_⟩; have n0_ := Am7 (kb7 (g:=gb195) (by (with_reducible repeat first | apply kn7 | apply kd7 | apply ka7); exact BK195.out) hb); have n1_ := Am7 (kb7 (g:=gb196) (by (with_reducible repeat first | apply kn7 | apply kd7 | apply ka7); exact BK196.out) hb); have n2_ := Am7 (kb7 (g:=gb197) (by (with_reducible repeat first | apply kn7 | apply kd7 | apply ka7); exact BK197.out) hb); have n3_ := Am7 (bp7 (by repeat (first | (with_reducible first | exact HB.out | apply ba7 | apply bn7 | apply bd7 | refine bs7 ?_ GE195.out | refine bs7 ?_ GE196.out | refine bs7 ?_ GE197.out) | exact HB.out)) hb); clear BK195; clear BK196; clear BK197; clear HB; have BK195 := n0_; have BK196 := n1_; have BK197 := n2_; have HB := n3_; clear n0_ n1_ n2_ n3_; (try clear hb); (try clear hb2); (try clear hk); (try clear hi); have hnb14 := NB195_196.out; have hnc14 := NB196_195.out; have hnb15 := NB195_197.out; have hnc15 := NB197_195.out; have hcz16_0 : w13.cell? ⟨gb195, 0, none⟩ = some (.string a0_0) := (kc7 BK195.out 0).trans rfl; have hcz16_1 : w13.cell? ⟨gb195, 1, none⟩ = some (.string a0_1) := (kc7 BK195.out 1).trans rfl; have hfz16_0 := kz7 BK195.out 0; have hfz16_1 := kz7 BK195.out 1; have hnb17 := NB196_197.out; have hnc17 := NB197_196.out; have hcz18_0 : w13.cell? ⟨gb196, 0, none⟩ = some (.string a1_0) := (kc7 BK196.out 0).trans rfl; have hcz18_1 : w13.cell? ⟨gb196, 1, none⟩ = some (.string a1_1) := (kc7 BK196.out 1).trans rfl; have hfz18_0 := kz7 BK196.out 0; have hfz18_1 := kz7 BK196.out 1; have hcz19_0 : w13.cell? ⟨gb197, 0, none⟩ = some (.string a2_0) := (kc7 BK197.out 0).trans rfl; have hcz19_1 : w13.cell? ⟨gb197, 1, none⟩ = some (.string a2_1) := (kc7 BK197.out 1).trans rfl; have hfz19_0 := kz7 BK197.out 0; have hfz19_1 := kz7 BK197.out 1) | ((with_reducible refine gate_dst (N:=26) rfl ?_); refine Kd.R_lit Kd.string _ 9 ?hg (N:=26) ?hd (xs:=([a0_0, a0_1, a1_0, a1_1, a2_0, a2_1, a3] : List ByteArray)) (inner:=[.string a0_0, .string a0_1, .string a1_0, .string a1_1, .string a2_0, .string a2_1, .string a3]) (ok:=fun _ => True) (okp:=fun _ => True) ?hr ?hp (fun _ hk => hk) trivial (Below.refl _ _) (Nat.le_refl _) (by simp) ?_; (case hd => rfl); (case hg => rfl); (case hr => first | (go_simp; done) | (go_simp; rfl)); (case hp => exact (Reps.one (show Kd.M Kd.string _ _ _ a0_0 [.string a0_0] from rfl) (Reps.one (show Kd.M Kd.string _ _ _ a0_1 [.string a0_1] from rfl) (Reps.one (show Kd.M Kd.string _ _ _ a1_0 [.string a1_0] from rfl) (Reps.one (show Kd.M Kd.string _ _ _ a1_1 [.string a1_1] from rfl) (Reps.one (show Kd.M Kd.string _ _ _ a2_0 [.string a2_0] from rfl) (Reps.one (show Kd.M Kd.string _ _ _ a2_1 [.string a2_1] from rfl) (Reps.one (show Kd.M Kd.string _ _ _ a3 [.string a3] from rfl) (Reps.none _ _))))))))); intro v200 w20 ho21 hb hg_ hnew_; clear hg_ hnew_; (first | rw [← Ny199.out] at ho21 | (simp only [Int.reduceToNat] at ho21; rw [← Ny199.out] at ho21)); have n0_ := Am7 (Rl7 ho21 (bz7 (by repeat (first | (with_reducible first | exact HB.out | apply ba7 | apply bn7 | apply bd7 | refine bs7 ?_ GE195.out | refine bs7 ?_ GE196.out | refine bs7 ?_ GE197.out) | exact HB.out)))); have n1_ := Am7 (kb7 (g:=gb195) (by (with_reducible repeat first | apply kn7 | apply kd7 | apply ka7); exact BK195.out) hb); have n2_ := Am7 (kb7 (g:=gb196) (by (with_reducible repeat first | apply kn7 | apply kd7 | apply ka7); exact BK196.out) hb); have n3_ := Am7 (kb7 (g:=gb197) (by (with_reducible repeat first | apply kn7 | apply kd7 | apply ka7); exact BK197.out) hb); have n4_ := Am7 (bp7 (by repeat (first | (with_reducible first | exact HB.out | apply ba7 | apply bn7 | apply bd7 | refine bs7 ?_ GE195.out | refine bs7 ?_ GE196.out | refine bs7 ?_ GE197.out) | exact HB.out)) hb); clear BK195; clear BK196; clear BK197; clear HB; have HO201 := n0_; have BK195 := n1_; have BK196 := n2_; have BK197 := n3_; have HB := n4_; clear n0_ n1_ n2_ n3_ n4_; clear hb ho21; obtain ⟨Ao22, co22, eo22⟩ := Kd.R_slice HO201.out; subst eo22) | ((with_reducible refine gate_callee (f:=9) rfl ?_); refine goesL_ (some 27) rfl rfl Try.func9 (by kernel_rfl) rfl #[.slice Ao22 y199.length co22] rfl (by (try simp only [ma7, mc7, mn7]); first | done | rfl | (simp only [ld7, lt_7]; rfl)) ?_; (with_reducible refine (watershedlaw04_few.calls k _ _ y199 true _ ?side1 ?side2 A7.out).mono ?_); (case side1 => repeat (first | exact (Kd.R_reads' HO201.out).2.2 | (with_reducible refine Kd.C_alloc ?_ _) | (with_reducible refine Kd.C_drewN ?_ _) | (with_reducible refine Kd.C_drew ?_))); (case side2 => exact (Kd.R_reads' HO201.out).2.1); rintro e w' ⟨rfl, ⟨nd, rfl⟩⟩; refine ⟨_, rfl, ?_⟩))
   (try simp only [Act.put, sa7, sz7, ss7])
   go_cut [63] (fun v63 wc => ∃ (kq : Nat) (x63_8 : Bool), v63 = .bool x63_8 ∧ Aside0 (watershedlaw04_SpanWithin.j0 kq x63_8 a0_0 a0_1 a1_0 a1_1 = some r) ∧ Aside0 (kq ≤ k) ∧ Aside0 (wc.heap[gb195]? = some (.cells #[.string a0_0, .string a0_1] 26 (0, 0))) ∧ Aside0 (wc.heap[gb196]? = some (.cells #[.string a1_0, .string a1_1] 26 (0, 0))) ∧ Aside0 (wc.heap[gb197]? = some (.cells #[.string a2_0, .string a2_1] 26 (0, 0))) ∧ Aside0 (Below w.heap.size w wc))
   case first =>
    have H := HC9.out
    clear HC9
    replace H := Option.bind_eq_some_iff.mp H
    obtain ⟨t203, A230, H⟩ := H
    try dsimp only at H
    have A23 := Am7 A230
    clear A230
    by_cases c24 : t203 = true
    ·subst c24
     rw [if_pos rfl] at H
     replace H := Option.bind_eq_some_iff.mp H
     obtain ⟨t204, A250, H⟩ := H
     try dsimp only at H
     have A25 := Am7 A250
     clear A250
     by_cases c26 : t204 = true
     ·subst c26
      rw [if_pos rfl] at H
      replace H := Option.bind_eq_some_iff.mp H
      obtain ⟨t205, A270, H⟩ := H
      try dsimp only at H
      have A27 := Am7 A270
      clear A270
      by_cases c28 : t205 = true
      ·subst c28
       rw [if_pos rfl] at H
       replace H := Option.bind_eq_some_iff.mp H
       obtain ⟨t206, A290, H⟩ := H
       try dsimp only at H
       have A29 := Am7 A290
       clear A290
       by_cases c30 : t206 = true
       ·subst c30
        rw [if_pos rfl] at H
        replace H := Option.bind_eq_some_iff.mp H
        obtain ⟨t207, A310, H⟩ := H
        try dsimp only at H
        have A31 := Am7 A310
        clear A310
        by_cases c32 : t207 = true
        ·subst c32
         rw [if_pos rfl] at H
         replace H := Option.bind_eq_some_iff.mp H
         obtain ⟨t208, A330, H⟩ := H
         try dsimp only at H
         have A33 := Am7 A330
         clear A330
         by_cases c34 : t208 = true
         ·subst c34
          rw [if_pos rfl] at H
          have H' := Am7 H
          clear H
          have hnb35 := NB195_196.out
          have hnc35 := NB196_195.out
          have hnb36 := NB195_197.out
          have hnc36 := NB197_195.out
          have hcz37_0 : w20.cell? ⟨gb195, 0, none⟩ = some (.string a0_0) := (kc7 BK195.out 0).trans rfl
          have hcz37_1 : w20.cell? ⟨gb195, 1, none⟩ = some (.string a0_1) := (kc7 BK195.out 1).trans rfl
          have hfz37_0 := kz7 BK195.out 0
          have hfz37_1 := kz7 BK195.out 1
          have hnb38 := NB196_197.out
          have hnc38 := NB197_196.out
          have hcz39_0 : w20.cell? ⟨gb196, 0, none⟩ = some (.string a1_0) := (kc7 BK196.out 0).trans rfl
          have hcz39_1 : w20.cell? ⟨gb196, 1, none⟩ = some (.string a1_1) := (kc7 BK196.out 1).trans rfl
          have hfz39_0 := kz7 BK196.out 0
          have hfz39_1 := kz7 BK196.out 1
          go_wp2_with (first | ((with_reducible refine gate_callee (f:=14) rfl ?_); refine goesL_ (some 31) rfl rfl Try.func14 (by kernel_rfl) rfl #[.agg #[.string a0_0, .string a0_1], .agg #[.string a1_0, .string a1_1]] rfl (by (try simp only [ma7, mc7, mn7]); first | done | rfl | (simp only [ld7, lt_7]; rfl)) ?_; (with_reducible refine (span_Within.calls k a0_0 a0_1 a1_0 a1_1 true _ A23.out).mono ?_); rintro e w40 ⟨rfl, hb⟩; refine ⟨_, rfl, ?_⟩; have n0_ := Am7 (Rb7 (by (with_reducible repeat first | apply Ra7 | apply Rn7 | apply Rd7); exact HO201.out) hb); have n1_ := Am7 (kb7 (g:=gb195) (by (with_reducible repeat first | apply kn7 | apply kd7 | apply ka7); exact BK195.out) hb); have n2_ := Am7 (kb7 (g:=gb196) (by (with_reducible repeat first | apply kn7 | apply kd7 | apply ka7); exact BK196.out) hb); have n3_ := Am7 (kb7 (g:=gb197) (by (with_reducible repeat first | apply kn7 | apply kd7 | apply ka7); exact BK197.out) hb); have n4_ := Am7 (bp7 (by repeat (first | (with_reducible first | exact HB.out | apply ba7 | apply bn7 | apply bd7 | refine bs7 ?_ GE195.out | refine bs7 ?_ GE196.out | refine bs7 ?_ GE197.out) | exact HB.out)) hb); clear HO201; clear BK195; clear BK196; clear BK197; clear HB; have HO201 := n0_; have BK195 := n1_; have BK196 := n2_; have BK197 := n3_; have HB := n4_; clear n0_ n1_ n2_ n3_ n4_; (try clear hb); (try clear hb2); (try clear hk); (try clear hi); have hcz41_0 : w40.cell? ⟨gb195, 0, none⟩ = some (.string a0_0) := (kc7 BK195.out 0).trans rfl; have hcz41_1 : w40.cell? ⟨gb195, 1, none⟩ = some (.string a0_1) := (kc7 BK195.out 1).trans rfl; have hfz41_0 := kz7 BK195.out 0; have hfz41_1 := kz7 BK195.out 1) | (go_at_call 20; (with_reducible refine (span_Has.calls k a0_0 a0_1 a3 true _ A25.out).mono ?_); rintro e w42 ⟨rfl, hb⟩; have n0_ := Am7 (Rb7 (by (with_reducible repeat first | apply Ra7 | apply Rn7 | apply Rd7); exact HO201.out) hb); have n1_ := Am7 (kb7 (g:=gb195) (by (with_reducible repeat first | apply kn7 | apply kd7 | apply ka7); exact BK195.out) hb); have n2_ := Am7 (kb7 (g:=gb196) (by (with_reducible repeat first | apply kn7 | apply kd7 | apply ka7); exact BK196.out) hb); have n3_ := Am7 (kb7 (g:=gb197) (by (with_reducible repeat first | apply kn7 | apply kd7 | apply ka7); exact BK197.out) hb); have n4_ := Am7 (bp7 (by repeat (first | (with_reducible first | exact HB.out | apply ba7 | apply bn7 | apply bd7 | refine bs7 ?_ GE195.out | refine bs7 ?_ GE196.out | refine bs7 ?_ GE197.out) | exact HB.out)) hb); clear HO201; clear BK195; clear BK196; clear BK197; clear HB; have HO201 := n0_; have BK195 := n1_; have BK196 := n2_; have BK197 := n3_; have HB := n4_; clear n0_ n1_ n2_ n3_ n4_; (try clear hb); (try clear hb2); (try clear hk); (try clear hi); have hcz43_0 : w42.cell? ⟨gb196, 0, none⟩ = some (.string a1_0) := (kc7 BK196.out 0).trans rfl; have hcz43_1 : w42.cell? ⟨gb196, 1, none⟩ = some (.string a1_1) := (kc7 BK196.out 1).trans rfl; have hfz43_0 := kz7 BK196.out 0; have hfz43_1 := kz7 BK196.out 1) | (go_at_call 20; (with_reducible refine (span_Has.calls k a1_0 a1_1 a3 true _ A27.out).mono ?_); rintro e w44 ⟨rfl, hb⟩; have n0_ := Am7 (Rb7 (by (with_reducible repeat first | apply Ra7 | apply Rn7 | apply Rd7); exact HO201.out) hb); have n1_ := Am7 (kb7 (g:=gb195) (by (with_reducible repeat first | apply kn7 | apply kd7 | apply ka7); exact BK195.out) hb); have n2_ := Am7 (kb7 (g:=gb196) (by (with_reducible repeat first | apply kn7 | apply kd7 | apply ka7); exact BK196.out) hb); have n3_ := Am7 (kb7 (g:=gb197) (by (with_reducible repeat first | apply kn7 | apply kd7 | apply ka7); exact BK197.out) hb); have n4_ := Am7 (bp7 (by repeat (first | (with_reducible first | exact HB.out | apply ba7 | apply bn7 | apply bd7 | refine bs7 ?_ GE195.out | refine bs7 ?_ GE196.out | refine bs7 ?_ GE197.out) | exact HB.out)) hb); clear HO201; clear BK195; clear BK196; clear BK197; clear HB; have HO201 := n0_; have BK195 := n1_; have BK196 := n2_; have BK197 := n3_; have HB := n4_; clear n0_ n1_ n2_ n3_ n4_; (try clear hb); (try clear hb2); (try clear hk); (try clear hi); have hcz45_0 : w44.cell? ⟨gb196, 0, none⟩ = some (.string a1_0) := (kc7 BK196.out 0).trans rfl; have hcz45_1 : w44.cell? ⟨gb196, 1, none⟩ = some (.string a1_1) := (kc7 BK196.out 1).trans rfl; have hfz45_0 := kz7 BK196.out 0; have hfz45_1 := kz7 BK196.out 1; have hcz46_0 : w44.cell? ⟨gb197, 0, none⟩ = some (.string a2_0) := (kc7 BK197.out 0).trans rfl; have hcz46_1 : w44.cell? ⟨gb197, 1, none⟩ = some (.string a2_1) := (kc7 BK197.out 1).trans rfl; have hfz46_0 := kz7 BK197.out 0; have hfz46_1 := kz7 BK197.out 1) | (go_at_call 14; (with_reducible refine (span_Within.calls k a1_0 a1_1 a2_0 a2_1 true _ A29.out).mono ?_); rintro e w47 ⟨rfl, hb⟩; have n0_ := Am7 (Rb7 (by (with_reducible repeat first | apply Ra7 | apply Rn7 | apply Rd7); exact HO201.out) hb); have n1_ := Am7 (kb7 (g:=gb195) (by (with_reducible repeat first | apply kn7 | apply kd7 | apply ka7); exact BK195.out) hb); have n2_ := Am7 (kb7 (g:=gb196) (by (with_reducible repeat first | apply kn7 | apply kd7 | apply ka7); exact BK196.out) hb); have n3_ := Am7 (kb7 (g:=gb197) (by (with_reducible repeat first | apply kn7 | apply kd7 | apply ka7); exact BK197.out) hb); have n4_ := Am7 (bp7 (by repeat (first | (with_reducible first | exact HB.out | apply ba7 | apply bn7 | apply bd7 | refine bs7 ?_ GE195.out | refine bs7 ?_ GE196.out | refine bs7 ?_ GE197.out) | exact HB.out)) hb); clear HO201; clear BK195; clear BK196; clear BK197; clear HB; have HO201 := n0_; have BK195 := n1_; have BK196 := n2_; have BK197 := n3_; have HB := n4_; clear n0_ n1_ n2_ n3_ n4_; (try clear hb); (try clear hb2); (try clear hk); (try clear hi); have hcz48_0 : w47.cell? ⟨gb195, 0, none⟩ = some (.string a0_0) := (kc7 BK195.out 0).trans rfl; have hcz48_1 : w47.cell? ⟨gb195, 1, none⟩ = some (.string a0_1) := (kc7 BK195.out 1).trans rfl; have hfz48_0 := kz7 BK195.out 0; have hfz48_1 := kz7 BK195.out 1; have hcz49_0 : w47.cell? ⟨gb197, 0, none⟩ = some (.string a2_0) := (kc7 BK197.out 0).trans rfl; have hcz49_1 : w47.cell? ⟨gb197, 1, none⟩ = some (.string a2_1) := (kc7 BK197.out 1).trans rfl; have hfz49_0 := kz7 BK197.out 0; have hfz49_1 := kz7 BK197.out 1) | (go_at_call 14; (with_reducible refine (span_Within.calls k a0_0 a0_1 a2_0 a2_1 true _ A31.out).mono ?_); rintro e w50 ⟨rfl, hb⟩; have n0_ := Am7 (Rb7 (by (with_reducible repeat first | apply Ra7 | apply Rn7 | apply Rd7); exact HO201.out) hb); have n1_ := Am7 (kb7 (g:=gb195) (by (with_reducible repeat first | apply kn7 | apply kd7 | apply ka7); exact BK195.out) hb); have n2_ := Am7 (kb7 (g:=gb196) (by (with_reducible repeat first | apply kn7 | apply kd7 | apply ka7); exact BK196.out) hb); have n3_ := Am7 (kb7 (g:=gb197) (by (with_reducible repeat first | apply kn7 | apply kd7 | apply ka7); exact BK197.out) hb); have n4_ := Am7 (bp7 (by repeat (first | (with_reducible first | exact HB.out | apply ba7 | apply bn7 | apply bd7 | refine bs7 ?_ GE195.out | refine bs7 ?_ GE196.out | refine bs7 ?_ GE197.out) | exact HB.out)) hb); clear HO201; clear BK195; clear BK196; clear BK197; clear HB; have HO201 := n0_; have BK195 := n1_; have BK196 := n2_; have BK197 := n3_; have HB := n4_; clear n0_ n1_ n2_ n3_ n4_; (try clear hb); (try clear hb2); (try clear hk); (try clear hi); have hcz51_0 : w50.cell? ⟨gb196, 0, none⟩ = some (.string a1_0) := (kc7 BK196.out 0).trans rfl; have hcz51_1 : w50.cell? ⟨gb196, 1, none⟩ = some (.string a1_1) := (kc7 BK196.out 1).trans rfl; have hfz51_0 := kz7 BK196.out 0; have hfz51_1 := kz7 BK196.out 1; have hcz52_0 : w50.cell? ⟨gb195, 0, none⟩ = some (.string a0_0) := (kc7 BK195.out 0).trans rfl; have hcz52_1 : w50.cell? ⟨gb195, 1, none⟩ = some (.string a0_1) := (kc7 BK195.out 1).trans rfl; have hfz52_0 := kz7 BK195.out 0; have hfz52_1 := kz7 BK195.out 1) | (go_at_call 14; (with_reducible refine (span_Within.calls k a1_0 a1_1 a0_0 a0_1 true _ A33.out).mono ?_); rintro e w53 ⟨rfl, hb⟩; have n0_ := Am7 (Rb7 (by (with_reducible repeat first | apply Ra7 | apply Rn7 | apply Rd7); exact HO201.out) hb); have n1_ := Am7 (kb7 (g:=gb195) (by (with_reducible repeat first | apply kn7 | apply kd7 | apply ka7); exact BK195.out) hb); have n2_ := Am7 (kb7 (g:=gb196) (by (with_reducible repeat first | apply kn7 | apply kd7 | apply ka7); exact BK196.out) hb); have n3_ := Am7 (kb7 (g:=gb197) (by (with_reducible repeat first | apply kn7 | apply kd7 | apply ka7); exact BK197.out) hb); have n4_ := Am7 (bp7 (by repeat (first | (with_reducible first | exact HB.out | apply ba7 | apply bn7 | apply bd7 | refine bs7 ?_ GE195.out | refine bs7 ?_ GE196.out | refine bs7 ?_ GE197.out) | exact HB.out)) hb); clear HO201; clear BK195; clear BK196; clear BK197; clear HB; have HO201 := n0_; have BK195 := n1_; have BK196 := n2_; have BK197 := n3_; have HB := n4_; clear n0_ n1_ n2_ n3_ n4_; (try clear hb); (try clear hb2); (try clear hk); (try clear hi); have hcz54_0 : w53.cell? ⟨gb195, 0, none⟩ = some (.string a0_0) := (kc7 BK195.out 0).trans rfl; have hcz54_1 : w53.cell? ⟨gb195, 1, none⟩ = some (.string a0_1) := (kc7 BK195.out 1).trans rfl; have hfz54_0 := kz7 BK195.out 0; have hfz54_1 := kz7 BK195.out 1; have hcz55_0 : w53.cell? ⟨gb196, 0, none⟩ = some (.string a1_0) := (kc7 BK196.out 0).trans rfl; have hcz55_1 : w53.cell? ⟨gb196, 1, none⟩ = some (.string a1_1) := (kc7 BK196.out 1).trans rfl; have hfz55_0 := kz7 BK196.out 0; have hfz55_1 := kz7 BK196.out 1))
          go_meet
          case rel => exact ⟨_, ((!(a0_0.toList == a1_0.toList) || (!(a0_1.toList == a1_1.toList)))), (by first | rfl | (simp; done) | (simp [*]; done)), H', ⟨by first | omega | exact Nat.le_refl _⟩, ⟨by (with_reducible repeat first | apply kn7 | apply kd7 | apply ka7); exact BK195.out⟩, ⟨by (with_reducible repeat first | apply kn7 | apply kd7 | apply ka7); exact BK196.out⟩, ⟨by (with_reducible repeat first | apply kn7 | apply kd7 | apply ka7); exact BK197.out⟩, ⟨by repeat (first | (with_reducible first | exact HB.out | apply ba7 | apply bn7 | apply bd7 | refine bs7 ?_ GE195.out | refine bs7 ?_ GE196.out | refine bs7 ?_ GE197.out) | exact HB.out)⟩⟩
         ·replace c34 := Bool.eq_false_iff.mpr c34
          subst c34
          rw [if_neg (show ¬ (false = true) by decide)] at H
          have H' := Am7 H
          clear H
          have hnb56 := NB195_196.out
          have hnc56 := NB196_195.out
          have hnb57 := NB195_197.out
          have hnc57 := NB197_195.out
          have hcz58_0 : w20.cell? ⟨gb195, 0, none⟩ = some (.string a0_0) := (kc7 BK195.out 0).trans rfl
          have hcz58_1 : w20.cell? ⟨gb195, 1, none⟩ = some (.string a0_1) := (kc7 BK195.out 1).trans rfl
          have hfz58_0 := kz7 BK195.out 0
          have hfz58_1 := kz7 BK195.out 1
          have hnb59 := NB196_197.out
          have hnc59 := NB197_196.out
          have hcz60_0 : w20.cell? ⟨gb196, 0, none⟩ = some (.string a1_0) := (kc7 BK196.out 0).trans rfl
          have hcz60_1 : w20.cell? ⟨gb196, 1, none⟩ = some (.string a1_1) := (kc7 BK196.out 1).trans rfl
          have hfz60_0 := kz7 BK196.out 0
          have hfz60_1 := kz7 BK196.out 1
          go_wp2_with (first | ((with_reducible refine gate_callee (f:=14) rfl ?_); refine goesL_ (some 31) rfl rfl Try.func14 (by kernel_rfl) rfl #[.agg #[.string a0_0, .string a0_1], .agg #[.string a1_0, .string a1_1]] rfl (by (try simp only [ma7, mc7, mn7]); first | done | rfl | (simp only [ld7, lt_7]; rfl)) ?_; (with_reducible refine (span_Within.calls k a0_0 a0_1 a1_0 a1_1 true _ A23.out).mono ?_); rintro e w61 ⟨rfl, hb⟩; refine ⟨_, rfl, ?_⟩; have n0_ := Am7 (Rb7 (by (with_reducible repeat first | apply Ra7 | apply Rn7 | apply Rd7); exact HO201.out) hb); have n1_ := Am7 (kb7 (g:=gb195) (by (with_reducible repeat first | apply kn7 | apply kd7 | apply ka7); exact BK195.out) hb); have n2_ := Am7 (kb7 (g:=gb196) (by (with_reducible repeat first | apply kn7 | apply kd7 | apply ka7); exact BK196.out) hb); have n3_ := Am7 (kb7 (g:=gb197) (by (with_reducible repeat first | apply kn7 | apply kd7 | apply ka7); exact BK197.out) hb); have n4_ := Am7 (bp7 (by repeat (first | (with_reducible first | exact HB.out | apply ba7 | apply bn7 | apply bd7 | refine bs7 ?_ GE195.out | refine bs7 ?_ GE196.out | refine bs7 ?_ GE197.out) | exact HB.out)) hb); clear HO201; clear BK195; clear BK196; clear BK197; clear HB; have HO201 := n0_; have BK195 := n1_; have BK196 := n2_; have BK197 := n3_; have HB := n4_; clear n0_ n1_ n2_ n3_ n4_; (try clear hb); (try clear hb2); (try clear hk); (try clear hi); have hcz62_0 : w61.cell? ⟨gb195, 0, none⟩ = some (.string a0_0) := (kc7 BK195.out 0).trans rfl; have hcz62_1 : w61.cell? ⟨gb195, 1, none⟩ = some (.string a0_1) := (kc7 BK195.out 1).trans rfl; have hfz62_0 := kz7 BK195.out 0; have hfz62_1 := kz7 BK195.out 1) | (go_at_call 20; (with_reducible refine (span_Has.calls k a0_0 a0_1 a3 true _ A25.out).mono ?_); rintro e w63 ⟨rfl, hb⟩; have n0_ := Am7 (Rb7 (by (with_reducible repeat first | apply Ra7 | apply Rn7 | apply Rd7); exact HO201.out) hb); have n1_ := Am7 (kb7 (g:=gb195) (by (with_reducible repeat first | apply kn7 | apply kd7 | apply ka7); exact BK195.out) hb); have n2_ := Am7 (kb7 (g:=gb196) (by (with_reducible repeat first | apply kn7 | apply kd7 | apply ka7); exact BK196.out) hb); have n3_ := Am7 (kb7 (g:=gb197) (by (with_reducible repeat first | apply kn7 | apply kd7 | apply ka7); exact BK197.out) hb); have n4_ := Am7 (bp7 (by repeat (first | (with_reducible first | exact HB.out | apply ba7 | apply bn7 | apply bd7 | refine bs7 ?_ GE195.out | refine bs7 ?_ GE196.out | refine bs7 ?_ GE197.out) | exact HB.out)) hb); clear HO201; clear BK195; clear BK196; clear BK197; clear HB; have HO201 := n0_; have BK195 := n1_; have BK196 := n2_; have BK197 := n3_; have HB := n4_; clear n0_ n1_ n2_ n3_ n4_; (try clear hb); (try clear hb2); (try clear hk); (try clear hi); have hcz64_0 : w63.cell? ⟨gb196, 0, none⟩ = some (.string a1_0) := (kc7 BK196.out 0).trans rfl; have hcz64_1 : w63.cell? ⟨gb196, 1, none⟩ = some (.string a1_1) := (kc7 BK196.out 1).trans rfl; have hfz64_0 := kz7 BK196.out 0; have hfz64_1 := kz7 BK196.out 1) | (go_at_call 20; (with_reducible refine (span_Has.calls k a1_0 a1_1 a3 true _ A27.out).mono ?_); rintro e w65 ⟨rfl, hb⟩; have n0_ := Am7 (Rb7 (by (with_reducible repeat first | apply Ra7 | apply Rn7 | apply Rd7); exact HO201.out) hb); have n1_ := Am7 (kb7 (g:=gb195) (by (with_reducible repeat first | apply kn7 | apply kd7 | apply ka7); exact BK195.out) hb); have n2_ := Am7 (kb7 (g:=gb196) (by (with_reducible repeat first | apply kn7 | apply kd7 | apply ka7); exact BK196.out) hb); have n3_ := Am7 (kb7 (g:=gb197) (by (with_reducible repeat first | apply kn7 | apply kd7 | apply ka7); exact BK197.out) hb); have n4_ := Am7 (bp7 (by repeat (first | (with_reducible first | exact HB.out | apply ba7 | apply bn7 | apply bd7 | refine bs7 ?_ GE195.out | refine bs7 ?_ GE196.out | refine bs7 ?_ GE197.out) | exact HB.out)) hb); clear HO201; clear BK195; clear BK196; clear BK197; clear HB; have HO201 := n0_; have BK195 := n1_; have BK196 := n2_; have BK197 := n3_; have HB := n4_; clear n0_ n1_ n2_ n3_ n4_; (try clear hb); (try clear hb2); (try clear hk); (try clear hi); have hcz66_0 : w65.cell? ⟨gb196, 0, none⟩ = some (.string a1_0) := (kc7 BK196.out 0).trans rfl; have hcz66_1 : w65.cell? ⟨gb196, 1, none⟩ = some (.string a1_1) := (kc7 BK196.out 1).trans rfl; have hfz66_0 := kz7 BK196.out 0; have hfz66_1 := kz7 BK196.out 1; have hcz67_0 : w65.cell? ⟨gb197, 0, none⟩ = some (.string a2_0) := (kc7 BK197.out 0).trans rfl; have hcz67_1 : w65.cell? ⟨gb197, 1, none⟩ = some (.string a2_1) := (kc7 BK197.out 1).trans rfl; have hfz67_0 := kz7 BK197.out 0; have hfz67_1 := kz7 BK197.out 1) | (go_at_call 14; (with_reducible refine (span_Within.calls k a1_0 a1_1 a2_0 a2_1 true _ A29.out).mono ?_); rintro e w68 ⟨rfl, hb⟩; have n0_ := Am7 (Rb7 (by (with_reducible repeat first | apply Ra7 | apply Rn7 | apply Rd7); exact HO201.out) hb); have n1_ := Am7 (kb7 (g:=gb195) (by (with_reducible repeat first | apply kn7 | apply kd7 | apply ka7); exact BK195.out) hb); have n2_ := Am7 (kb7 (g:=gb196) (by (with_reducible repeat first | apply kn7 | apply kd7 | apply ka7); exact BK196.out) hb); have n3_ := Am7 (kb7 (g:=gb197) (by (with_reducible repeat first | apply kn7 | apply kd7 | apply ka7); exact BK197.out) hb); have n4_ := Am7 (bp7 (by repeat (first | (with_reducible first | exact HB.out | apply ba7 | apply bn7 | apply bd7 | refine bs7 ?_ GE195.out | refine bs7 ?_ GE196.out | refine bs7 ?_ GE197.out) | exact HB.out)) hb); clear HO201; clear BK195; clear BK196; clear BK197; clear HB; have HO201 := n0_; have BK195 := n1_; have BK196 := n2_; have BK197 := n3_; have HB := n4_; clear n0_ n1_ n2_ n3_ n4_; (try clear hb); (try clear hb2); (try clear hk); (try clear hi); have hcz69_0 : w68.cell? ⟨gb195, 0, none⟩ = some (.string a0_0) := (kc7 BK195.out 0).trans rfl; have hcz69_1 : w68.cell? ⟨gb195, 1, none⟩ = some (.string a0_1) := (kc7 BK195.out 1).trans rfl; have hfz69_0 := kz7 BK195.out 0; have hfz69_1 := kz7 BK195.out 1; have hcz70_0 : w68.cell? ⟨gb197, 0, none⟩ = some (.string a2_0) := (kc7 BK197.out 0).trans rfl; have hcz70_1 : w68.cell? ⟨gb197, 1, none⟩ = some (.string a2_1) := (kc7 BK197.out 1).trans rfl; have hfz70_0 := kz7 BK197.out 0; have hfz70_1 := kz7 BK197.out 1) | (go_at_call 14; (with_reducible refine (span_Within.calls k a0_0 a0_1 a2_0 a2_1 true _ A31.out).mono ?_); rintro e w71 ⟨rfl, hb⟩; have n0_ := Am7 (Rb7 (by (with_reducible repeat first | apply Ra7 | apply Rn7 | apply Rd7); exact HO201.out) hb); have n1_ := Am7 (kb7 (g:=gb195) (by (with_reducible repeat first | apply kn7 | apply kd7 | apply ka7); exact BK195.out) hb); have n2_ := Am7 (kb7 (g:=gb196) (by (with_reducible repeat first | apply kn7 | apply kd7 | apply ka7); exact BK196.out) hb); have n3_ := Am7 (kb7 (g:=gb197) (by (with_reducible repeat first | apply kn7 | apply kd7 | apply ka7); exact BK197.out) hb); have n4_ := Am7 (bp7 (by repeat (first | (with_reducible first | exact HB.out | apply ba7 | apply bn7 | apply bd7 | refine bs7 ?_ GE195.out | refine bs7 ?_ GE196.out | refine bs7 ?_ GE197.out) | exact HB.out)) hb); clear HO201; clear BK195; clear BK196; clear BK197; clear HB; have HO201 := n0_; have BK195 := n1_; have BK196 := n2_; have BK197 := n3_; have HB := n4_; clear n0_ n1_ n2_ n3_ n4_; (try clear hb); (try clear hb2); (try clear hk); (try clear hi); have hcz72_0 : w71.cell? ⟨gb196, 0, none⟩ = some (.string a1_0) := (kc7 BK196.out 0).trans rfl; have hcz72_1 : w71.cell? ⟨gb196, 1, none⟩ = some (.string a1_1) := (kc7 BK196.out 1).trans rfl; have hfz72_0 := kz7 BK196.out 0; have hfz72_1 := kz7 BK196.out 1; have hcz73_0 : w71.cell? ⟨gb195, 0, none⟩ = some (.string a0_0) := (kc7 BK195.out 0).trans rfl; have hcz73_1 : w71.cell? ⟨gb195, 1, none⟩ = some (.string a0_1) := (kc7 BK195.out 1).trans rfl; have hfz73_0 := kz7 BK195.out 0; have hfz73_1 := kz7 BK195.out 1) | (go_at_call 14; (with_reducible refine (span_Within.calls k a1_0 a1_1 a0_0 a0_1 false _ A33.out).mono ?_); rintro e w74 ⟨rfl, hb⟩; have n0_ := Am7 (Rb7 (by (with_reducible repeat first | apply Ra7 | apply Rn7 | apply Rd7); exact HO201.out) hb); have n1_ := Am7 (kb7 (g:=gb195) (by (with_reducible repeat first | apply kn7 | apply kd7 | apply ka7); exact BK195.out) hb); have n2_ := Am7 (kb7 (g:=gb196) (by (with_reducible repeat first | apply kn7 | apply kd7 | apply ka7); exact BK196.out) hb); have n3_ := Am7 (kb7 (g:=gb197) (by (with_reducible repeat first | apply kn7 | apply kd7 | apply ka7); exact BK197.out) hb); have n4_ := Am7 (bp7 (by repeat (first | (with_reducible first | exact HB.out | apply ba7 | apply bn7 | apply bd7 | refine bs7 ?_ GE195.out | refine bs7 ?_ GE196.out | refine bs7 ?_ GE197.out) | exact HB.out)) hb); clear HO201; clear BK195; clear BK196; clear BK197; clear HB; have HO201 := n0_; have BK195 := n1_; have BK196 := n2_; have BK197 := n3_; have HB := n4_; clear n0_ n1_ n2_ n3_ n4_; (try clear hb); (try clear hb2); (try clear hk); (try clear hi)))
          go_meet
          case rel => exact ⟨_, (false), (by first | rfl | (simp; done) | (simp [*]; done)), H', ⟨by first | omega | exact Nat.le_refl _⟩, ⟨by (with_reducible repeat first | apply kn7 | apply kd7 | apply ka7); exact BK195.out⟩, ⟨by (with_reducible repeat first | apply kn7 | apply kd7 | apply ka7); exact BK196.out⟩, ⟨by (with_reducible repeat first | apply kn7 | apply kd7 | apply ka7); exact BK197.out⟩, ⟨by repeat (first | (with_reducible first | exact HB.out | apply ba7 | apply bn7 | apply bd7 | refine bs7 ?_ GE195.out | refine bs7 ?_ GE196.out | refine bs7 ?_ GE197.out) | exact HB.out)⟩⟩
        ·replace c32 := Bool.eq_false_iff.mpr c32
         subst c32
         rw [if_neg (show ¬ (false = true) by decide)] at H
         have H' := Am7 H
         clear H
         have hnb75 := NB195_196.out
         have hnc75 := NB196_195.out
         have hnb76 := NB195_197.out
         have hnc76 := NB197_195.out
         have hcz77_0 : w20.cell? ⟨gb195, 0, none⟩ = some (.string a0_0) := (kc7 BK195.out 0).trans rfl
         have hcz77_1 : w20.cell? ⟨gb195, 1, none⟩ = some (.string a0_1) := (kc7 BK195.out 1).trans rfl
         have hfz77_0 := kz7 BK195.out 0
         have hfz77_1 := kz7 BK195.out 1
         have hnb78 := NB196_197.out
         have hnc78 := NB197_196.out
         have hcz79_0 : w20.cell? ⟨gb196, 0, none⟩ = some (.string a1_0) := (kc7 BK196.out 0).trans rfl
         have hcz79_1 : w20.cell? ⟨gb196, 1, none⟩ = some (.string a1_1) := (kc7 BK196.out 1).trans rfl
         have hfz79_0 := kz7 BK196.out 0
         have hfz79_1 := kz7 BK196.out 1
         go_wp2_with (first | ((with_reducible refine gate_callee (f:=14) rfl ?_); refine goesL_ (some 31) rfl rfl Try.func14 (by kernel_rfl) rfl #[.agg #[.string a0_0, .string a0_1], .agg #[.string a1_0, .string a1_1]] rfl (by (try simp only [ma7, mc7, mn7]); first | done | rfl | (simp only [ld7, lt_7]; rfl)) ?_; (with_reducible refine (span_Within.calls k a0_0 a0_1 a1_0 a1_1 true _ A23.out).mono ?_); rintro e w80 ⟨rfl, hb⟩; refine ⟨_, rfl, ?_⟩; have n0_ := Am7 (Rb7 (by (with_reducible repeat first | apply Ra7 | apply Rn7 | apply Rd7); exact HO201.out) hb); have n1_ := Am7 (kb7 (g:=gb195) (by (with_reducible repeat first | apply kn7 | apply kd7 | apply ka7); exact BK195.out) hb); have n2_ := Am7 (kb7 (g:=gb196) (by (with_reducible repeat first | apply kn7 | apply kd7 | apply ka7); exact BK196.out) hb); have n3_ := Am7 (kb7 (g:=gb197) (by (with_reducible repeat first | apply kn7 | apply kd7 | apply ka7); exact BK197.out) hb); have n4_ := Am7 (bp7 (by repeat (first | (with_reducible first | exact HB.out | apply ba7 | apply bn7 | apply bd7 | refine bs7 ?_ GE195.out | refine bs7 ?_ GE196.out | refine bs7 ?_ GE197.out) | exact HB.out)) hb); clear HO201; clear BK195; clear BK196; clear BK197; clear HB; have HO201 := n0_; have BK195 := n1_; have BK196 := n2_; have BK197 := n3_; have HB := n4_; clear n0_ n1_ n2_ n3_ n4_; (try clear hb); (try clear hb2); (try clear hk); (try clear hi); have hcz81_0 : w80.cell? ⟨gb195, 0, none⟩ = some (.string a0_0) := (kc7 BK195.out 0).trans rfl; have hcz81_1 : w80.cell? ⟨gb195, 1, none⟩ = some (.string a0_1) := (kc7 BK195.out 1).trans rfl; have hfz81_0 := kz7 BK195.out 0; have hfz81_1 := kz7 BK195.out 1) | (go_at_call 20; (with_reducible refine (span_Has.calls k a0_0 a0_1 a3 true _ A25.out).mono ?_); rintro e w82 ⟨rfl, hb⟩; have n0_ := Am7 (Rb7 (by (with_reducible repeat first | apply Ra7 | apply Rn7 | apply Rd7); exact HO201.out) hb); have n1_ := Am7 (kb7 (g:=gb195) (by (with_reducible repeat first | apply kn7 | apply kd7 | apply ka7); exact BK195.out) hb); have n2_ := Am7 (kb7 (g:=gb196) (by (with_reducible repeat first | apply kn7 | apply kd7 | apply ka7); exact BK196.out) hb); have n3_ := Am7 (kb7 (g:=gb197) (by (with_reducible repeat first | apply kn7 | apply kd7 | apply ka7); exact BK197.out) hb); have n4_ := Am7 (bp7 (by repeat (first | (with_reducible first | exact HB.out | apply ba7 | apply bn7 | apply bd7 | refine bs7 ?_ GE195.out | refine bs7 ?_ GE196.out | refine bs7 ?_ GE197.out) | exact HB.out)) hb); clear HO201; clear BK195; clear BK196; clear BK197; clear HB; have HO201 := n0_; have BK195 := n1_; have BK196 := n2_; have BK197 := n3_; have HB := n4_; clear n0_ n1_ n2_ n3_ n4_; (try clear hb); (try clear hb2); (try clear hk); (try clear hi); have hcz83_0 : w82.cell? ⟨gb196, 0, none⟩ = some (.string a1_0) := (kc7 BK196.out 0).trans rfl; have hcz83_1 : w82.cell? ⟨gb196, 1, none⟩ = some (.string a1_1) := (kc7 BK196.out 1).trans rfl; have hfz83_0 := kz7 BK196.out 0; have hfz83_1 := kz7 BK196.out 1) | (go_at_call 20; (with_reducible refine (span_Has.calls k a1_0 a1_1 a3 true _ A27.out).mono ?_); rintro e w84 ⟨rfl, hb⟩; have n0_ := Am7 (Rb7 (by (with_reducible repeat first | apply Ra7 | apply Rn7 | apply Rd7); exact HO201.out) hb); have n1_ := Am7 (kb7 (g:=gb195) (by (with_reducible repeat first | apply kn7 | apply kd7 | apply ka7); exact BK195.out) hb); have n2_ := Am7 (kb7 (g:=gb196) (by (with_reducible repeat first | apply kn7 | apply kd7 | apply ka7); exact BK196.out) hb); have n3_ := Am7 (kb7 (g:=gb197) (by (with_reducible repeat first | apply kn7 | apply kd7 | apply ka7); exact BK197.out) hb); have n4_ := Am7 (bp7 (by repeat (first | (with_reducible first | exact HB.out | apply ba7 | apply bn7 | apply bd7 | refine bs7 ?_ GE195.out | refine bs7 ?_ GE196.out | refine bs7 ?_ GE197.out) | exact HB.out)) hb); clear HO201; clear BK195; clear BK196; clear BK197; clear HB; have HO201 := n0_; have BK195 := n1_; have BK196 := n2_; have BK197 := n3_; have HB := n4_; clear n0_ n1_ n2_ n3_ n4_; (try clear hb); (try clear hb2); (try clear hk); (try clear hi); have hcz85_0 : w84.cell? ⟨gb196, 0, none⟩ = some (.string a1_0) := (kc7 BK196.out 0).trans rfl; have hcz85_1 : w84.cell? ⟨gb196, 1, none⟩ = some (.string a1_1) := (kc7 BK196.out 1).trans rfl; have hfz85_0 := kz7 BK196.out 0; have hfz85_1 := kz7 BK196.out 1; have hcz86_0 : w84.cell? ⟨gb197, 0, none⟩ = some (.string a2_0) := (kc7 BK197.out 0).trans rfl; have hcz86_1 : w84.cell? ⟨gb197, 1, none⟩ = some (.string a2_1) := (kc7 BK197.out 1).trans rfl; have hfz86_0 := kz7 BK197.out 0; have hfz86_1 := kz7 BK197.out 1) | (go_at_call 14; (with_reducible refine (span_Within.calls k a1_0 a1_1 a2_0 a2_1 true _ A29.out).mono ?_); rintro e w87 ⟨rfl, hb⟩; have n0_ := Am7 (Rb7 (by (with_reducible repeat first | apply Ra7 | apply Rn7 | apply Rd7); exact HO201.out) hb); have n1_ := Am7 (kb7 (g:=gb195) (by (with_reducible repeat first | apply kn7 | apply kd7 | apply ka7); exact BK195.out) hb); have n2_ := Am7 (kb7 (g:=gb196) (by (with_reducible repeat first | apply kn7 | apply kd7 | apply ka7); exact BK196.out) hb); have n3_ := Am7 (kb7 (g:=gb197) (by (with_reducible repeat first | apply kn7 | apply kd7 | apply ka7); exact BK197.out) hb); have n4_ := Am7 (bp7 (by repeat (first | (with_reducible first | exact HB.out | apply ba7 | apply bn7 | apply bd7 | refine bs7 ?_ GE195.out | refine bs7 ?_ GE196.out | refine bs7 ?_ GE197.out) | exact HB.out)) hb); clear HO201; clear BK195; clear BK196; clear BK197; clear HB; have HO201 := n0_; have BK195 := n1_; have BK196 := n2_; have BK197 := n3_; have HB := n4_; clear n0_ n1_ n2_ n3_ n4_; (try clear hb); (try clear hb2); (try clear hk); (try clear hi); have hcz88_0 : w87.cell? ⟨gb195, 0, none⟩ = some (.string a0_0) := (kc7 BK195.out 0).trans rfl; have hcz88_1 : w87.cell? ⟨gb195, 1, none⟩ = some (.string a0_1) := (kc7 BK195.out 1).trans rfl; have hfz88_0 := kz7 BK195.out 0; have hfz88_1 := kz7 BK195.out 1; have hcz89_0 : w87.cell? ⟨gb197, 0, none⟩ = some (.string a2_0) := (kc7 BK197.out 0).trans rfl; have hcz89_1 : w87.cell? ⟨gb197, 1, none⟩ = some (.string a2_1) := (kc7 BK197.out 1).trans rfl; have hfz89_0 := kz7 BK197.out 0; have hfz89_1 := kz7 BK197.out 1) | (go_at_call 14; (with_reducible refine (span_Within.calls k a0_0 a0_1 a2_0 a2_1 false _ A31.out).mono ?_); rintro e w90 ⟨rfl, hb⟩; have n0_ := Am7 (Rb7 (by (with_reducible repeat first | apply Ra7 | apply Rn7 | apply Rd7); exact HO201.out) hb); have n1_ := Am7 (kb7 (g:=gb195) (by (with_reducible repeat first | apply kn7 | apply kd7 | apply ka7); exact BK195.out) hb); have n2_ := Am7 (kb7 (g:=gb196) (by (with_reducible repeat first | apply kn7 | apply kd7 | apply ka7); exact BK196.out) hb); have n3_ := Am7 (kb7 (g:=gb197) (by (with_reducible repeat first | apply kn7 | apply kd7 | apply ka7); exact BK197.out) hb); have n4_ := Am7 (bp7 (by repeat (first | (with_reducible first | exact HB.out | apply ba7 | apply bn7 | apply bd7 | refine bs7 ?_ GE195.out | refine bs7 ?_ GE196.out | refine bs7 ?_ GE197.out) | exact HB.out)) hb); clear HO201; clear BK195; clear BK196; clear BK197; clear HB; have HO201 := n0_; have BK195 := n1_; have BK196 := n2_; have BK197 := n3_; have HB := n4_; clear n0_ n1_ n2_ n3_ n4_; (try clear hb); (try clear hb2); (try clear hk); (try clear hi)))
         go_meet
         case rel => exact ⟨_, (true), (by first | rfl | (simp; done) | (simp [*]; done)), H', ⟨by first | omega | exact Nat.le_refl _⟩, ⟨by (with_reducible repeat first | apply kn7 | apply kd7 | apply ka7); exact BK195.out⟩, ⟨by (with_reducible repeat first | apply kn7 | apply kd7 | apply ka7); exact BK196.out⟩, ⟨by (with_reducible repeat first | apply kn7 | apply kd7 | apply ka7); exact BK197.out⟩, ⟨by repeat (first | (with_reducible first | exact HB.out | apply ba7 | apply bn7 | apply bd7 | refine bs7 ?_ GE195.out | refine bs7 ?_ GE196.out | refine bs7 ?_ GE197.out) | exact HB.out)⟩⟩
       ·replace c30 := Bool.eq_false_iff.mpr c30
        subst c30
        rw [if_neg (show ¬ (false = true) by decide)] at H
        replace H := Option.bind_eq_some_iff.mp H
        obtain ⟨t209, A910, H⟩ := H
        try dsimp only at H
        have A91 := Am7 A910
        clear A910
        by_cases c92 : t209 = true
        ·subst c92
         rw [if_pos rfl] at H
         have H' := Am7 H
         clear H
         have hnb93 := NB195_196.out
         have hnc93 := NB196_195.out
         have hnb94 := NB195_197.out
         have hnc94 := NB197_195.out
         have hcz95_0 : w20.cell? ⟨gb195, 0, none⟩ = some (.string a0_0) := (kc7 BK195.out 0).trans rfl
         have hcz95_1 : w20.cell? ⟨gb195, 1, none⟩ = some (.string a0_1) := (kc7 BK195.out 1).trans rfl
         have hfz95_0 := kz7 BK195.out 0
         have hfz95_1 := kz7 BK195.out 1
         have hnb96 := NB196_197.out
         have hnc96 := NB197_196.out
         have hcz97_0 : w20.cell? ⟨gb196, 0, none⟩ = some (.string a1_0) := (kc7 BK196.out 0).trans rfl
         have hcz97_1 : w20.cell? ⟨gb196, 1, none⟩ = some (.string a1_1) := (kc7 BK196.out 1).trans rfl
         have hfz97_0 := kz7 BK196.out 0
         have hfz97_1 := kz7 BK196.out 1
         go_wp2_with (first | ((with_reducible refine gate_callee (f:=14) rfl ?_); refine goesL_ (some 31) rfl rfl Try.func14 (by kernel_rfl) rfl #[.agg #[.string a0_0, .string a0_1], .agg #[.string a1_0, .string a1_1]] rfl (by (try simp only [ma7, mc7, mn7]); first | done | rfl | (simp only [ld7, lt_7]; rfl)) ?_; (with_reducible refine (span_Within.calls k a0_0 a0_1 a1_0 a1_1 true _ A23.out).mono ?_); rintro e w98 ⟨rfl, hb⟩; refine ⟨_, rfl, ?_⟩; have n0_ := Am7 (Rb7 (by (with_reducible repeat first | apply Ra7 | apply Rn7 | apply Rd7); exact HO201.out) hb); have n1_ := Am7 (kb7 (g:=gb195) (by (with_reducible repeat first | apply kn7 | apply kd7 | apply ka7); exact BK195.out) hb); have n2_ := Am7 (kb7 (g:=gb196) (by (with_reducible repeat first | apply kn7 | apply kd7 | apply ka7); exact BK196.out) hb); have n3_ := Am7 (kb7 (g:=gb197) (by (with_reducible repeat first | apply kn7 | apply kd7 | apply ka7); exact BK197.out) hb); have n4_ := Am7 (bp7 (by repeat (first | (with_reducible first | exact HB.out | apply ba7 | apply bn7 | apply bd7 | refine bs7 ?_ GE195.out | refine bs7 ?_ GE196.out | refine bs7 ?_ GE197.out) | exact HB.out)) hb); clear HO201; clear BK195; clear BK196; clear BK197; clear HB; have HO201 := n0_; have BK195 := n1_; have BK196 := n2_; have BK197 := n3_; have HB := n4_; clear n0_ n1_ n2_ n3_ n4_; (try clear hb); (try clear hb2); (try clear hk); (try clear hi); have hcz99_0 : w98.cell? ⟨gb195, 0, none⟩ = some (.string a0_0) := (kc7 BK195.out 0).trans rfl; have hcz99_1 : w98.cell? ⟨gb195, 1, none⟩ = some (.string a0_1) := (kc7 BK195.out 1).trans rfl; have hfz99_0 := kz7 BK195.out 0; have hfz99_1 := kz7 BK195.out 1) | (go_at_call 20; (with_reducible refine (span_Has.calls k a0_0 a0_1 a3 true _ A25.out).mono ?_); rintro e w100 ⟨rfl, hb⟩; have n0_ := Am7 (Rb7 (by (with_reducible repeat first | apply Ra7 | apply Rn7 | apply Rd7); exact HO201.out) hb); have n1_ := Am7 (kb7 (g:=gb195) (by (with_reducible repeat first | apply kn7 | apply kd7 | apply ka7); exact BK195.out) hb); have n2_ := Am7 (kb7 (g:=gb196) (by (with_reducible repeat first | apply kn7 | apply kd7 | apply ka7); exact BK196.out) hb); have n3_ := Am7 (kb7 (g:=gb197) (by (with_reducible repeat first | apply kn7 | apply kd7 | apply ka7); exact BK197.out) hb); have n4_ := Am7 (bp7 (by repeat (first | (with_reducible first | exact HB.out | apply ba7 | apply bn7 | apply bd7 | refine bs7 ?_ GE195.out | refine bs7 ?_ GE196.out | refine bs7 ?_ GE197.out) | exact HB.out)) hb); clear HO201; clear BK195; clear BK196; clear BK197; clear HB; have HO201 := n0_; have BK195 := n1_; have BK196 := n2_; have BK197 := n3_; have HB := n4_; clear n0_ n1_ n2_ n3_ n4_; (try clear hb); (try clear hb2); (try clear hk); (try clear hi); have hcz101_0 : w100.cell? ⟨gb196, 0, none⟩ = some (.string a1_0) := (kc7 BK196.out 0).trans rfl; have hcz101_1 : w100.cell? ⟨gb196, 1, none⟩ = some (.string a1_1) := (kc7 BK196.out 1).trans rfl; have hfz101_0 := kz7 BK196.out 0; have hfz101_1 := kz7 BK196.out 1) | (go_at_call 20; (with_reducible refine (span_Has.calls k a1_0 a1_1 a3 true _ A27.out).mono ?_); rintro e w102 ⟨rfl, hb⟩; have n0_ := Am7 (Rb7 (by (with_reducible repeat first | apply Ra7 | apply Rn7 | apply Rd7); exact HO201.out) hb); have n1_ := Am7 (kb7 (g:=gb195) (by (with_reducible repeat first | apply kn7 | apply kd7 | apply ka7); exact BK195.out) hb); have n2_ := Am7 (kb7 (g:=gb196) (by (with_reducible repeat first | apply kn7 | apply kd7 | apply ka7); exact BK196.out) hb); have n3_ := Am7 (kb7 (g:=gb197) (by (with_reducible repeat first | apply kn7 | apply kd7 | apply ka7); exact BK197.out) hb); have n4_ := Am7 (bp7 (by repeat (first | (with_reducible first | exact HB.out | apply ba7 | apply bn7 | apply bd7 | refine bs7 ?_ GE195.out | refine bs7 ?_ GE196.out | refine bs7 ?_ GE197.out) | exact HB.out)) hb); clear HO201; clear BK195; clear BK196; clear BK197; clear HB; have HO201 := n0_; have BK195 := n1_; have BK196 := n2_; have BK197 := n3_; have HB := n4_; clear n0_ n1_ n2_ n3_ n4_; (try clear hb); (try clear hb2); (try clear hk); (try clear hi); have hcz103_0 : w102.cell? ⟨gb196, 0, none⟩ = some (.string a1_0) := (kc7 BK196.out 0).trans rfl; have hcz103_1 : w102.cell? ⟨gb196, 1, none⟩ = some (.string a1_1) := (kc7 BK196.out 1).trans rfl; have hfz103_0 := kz7 BK196.out 0; have hfz103_1 := kz7 BK196.out 1; have hcz104_0 : w102.cell? ⟨gb197, 0, none⟩ = some (.string a2_0) := (kc7 BK197.out 0).trans rfl; have hcz104_1 : w102.cell? ⟨gb197, 1, none⟩ = some (.string a2_1) := (kc7 BK197.out 1).trans rfl; have hfz104_0 := kz7 BK197.out 0; have hfz104_1 := kz7 BK197.out 1) | (go_at_call 14; (with_reducible refine (span_Within.calls k a1_0 a1_1 a2_0 a2_1 false _ A29.out).mono ?_); rintro e w105 ⟨rfl, hb⟩; have n0_ := Am7 (Rb7 (by (with_reducible repeat first | apply Ra7 | apply Rn7 | apply Rd7); exact HO201.out) hb); have n1_ := Am7 (kb7 (g:=gb195) (by (with_reducible repeat first | apply kn7 | apply kd7 | apply ka7); exact BK195.out) hb); have n2_ := Am7 (kb7 (g:=gb196) (by (with_reducible repeat first | apply kn7 | apply kd7 | apply ka7); exact BK196.out) hb); have n3_ := Am7 (kb7 (g:=gb197) (by (with_reducible repeat first | apply kn7 | apply kd7 | apply ka7); exact BK197.out) hb); have n4_ := Am7 (bp7 (by repeat (first | (with_reducible first | exact HB.out | apply ba7 | apply bn7 | apply bd7 | refine bs7 ?_ GE195.out | refine bs7 ?_ GE196.out | refine bs7 ?_ GE197.out) | exact HB.out)) hb); clear HO201; clear BK195; clear BK196; clear BK197; clear HB; have HO201 := n0_; have BK195 := n1_; have BK196 := n2_; have BK197 := n3_; have HB := n4_; clear n0_ n1_ n2_ n3_ n4_; (try clear hb); (try clear hb2); (try clear hk); (try clear hi); have hcz106_0 : w105.cell? ⟨gb196, 0, none⟩ = some (.string a1_0) := (kc7 BK196.out 0).trans rfl; have hcz106_1 : w105.cell? ⟨gb196, 1, none⟩ = some (.string a1_1) := (kc7 BK196.out 1).trans rfl; have hfz106_0 := kz7 BK196.out 0; have hfz106_1 := kz7 BK196.out 1; have hcz107_0 : w105.cell? ⟨gb195, 0, none⟩ = some (.string a0_0) := (kc7 BK195.out 0).trans rfl; have hcz107_1 : w105.cell? ⟨gb195, 1, none⟩ = some (.string a0_1) := (kc7 BK195.out 1).trans rfl; have hfz107_0 := kz7 BK195.out 0; have hfz107_1 := kz7 BK195.out 1) | (go_at_call 14; (with_reducible refine (span_Within.calls k a1_0 a1_1 a0_0 a0_1 true _ A91.out).mono ?_); rintro e w108 ⟨rfl, hb⟩; have n0_ := Am7 (Rb7 (by (with_reducible repeat first | apply Ra7 | apply Rn7 | apply Rd7); exact HO201.out) hb); have n1_ := Am7 (kb7 (g:=gb195) (by (with_reducible repeat first | apply kn7 | apply kd7 | apply ka7); exact BK195.out) hb); have n2_ := Am7 (kb7 (g:=gb196) (by (with_reducible repeat first | apply kn7 | apply kd7 | apply ka7); exact BK196.out) hb); have n3_ := Am7 (kb7 (g:=gb197) (by (with_reducible repeat first | apply kn7 | apply kd7 | apply ka7); exact BK197.out) hb); have n4_ := Am7 (bp7 (by repeat (first | (with_reducible first | exact HB.out | apply ba7 | apply bn7 | apply bd7 | refine bs7 ?_ GE195.out | refine bs7 ?_ GE196.out | refine bs7 ?_ GE197.out) | exact HB.out)) hb); clear HO201; clear BK195; clear BK196; clear BK197; clear HB; have HO201 := n0_; have BK195 := n1_; have BK196 := n2_; have BK197 := n3_; have HB := n4_; clear n0_ n1_ n2_ n3_ n4_; (try clear hb); (try clear hb2); (try clear hk); (try clear hi); have hcz109_0 : w108.cell? ⟨gb195, 0, none⟩ = some (.string a0_0) := (kc7 BK195.out 0).trans rfl; have hcz109_1 : w108.cell? ⟨gb195, 1, none⟩ = some (.string a0_1) := (kc7 BK195.out 1).trans rfl; have hfz109_0 := kz7 BK195.out 0; have hfz109_1 := kz7 BK195.out 1; have hcz110_0 : w108.cell? ⟨gb196, 0, none⟩ = some (.string a1_0) := (kc7 BK196.out 0).trans rfl; have hcz110_1 : w108.cell? ⟨gb196, 1, none⟩ = some (.string a1_1) := (kc7 BK196.out 1).trans rfl; have hfz110_0 := kz7 BK196.out 0; have hfz110_1 := kz7 BK196.out 1))
         go_meet
         case rel => exact ⟨_, ((!(a0_0.toList == a1_0.toList) || (!(a0_1.toList == a1_1.toList)))), (by first | rfl | (simp; done) | (simp [*]; done)), H', ⟨by first | omega | exact Nat.le_refl _⟩, ⟨by (with_reducible repeat first | apply kn7 | apply kd7 | apply ka7); exact BK195.out⟩, ⟨by (with_reducible repeat first | apply kn7 | apply kd7 | apply ka7); exact BK196.out⟩, ⟨by (with_reducible repeat first | apply kn7 | apply kd7 | apply ka7); exact BK197.out⟩, ⟨by repeat (first | (with_reducible first | exact HB.out | apply ba7 | apply bn7 | apply bd7 | refine bs7 ?_ GE195.out | refine bs7 ?_ GE196.out | refine bs7 ?_ GE197.out) | exact HB.out)⟩⟩
        ·replace c92 := Bool.eq_false_iff.mpr c92
         subst c92
         rw [if_neg (show ¬ (false = true) by decide)] at H
         have H' := Am7 H
         clear H
         have hnb111 := NB195_196.out
         have hnc111 := NB196_195.out
         have hnb112 := NB195_197.out
         have hnc112 := NB197_195.out
         have hcz113_0 : w20.cell? ⟨gb195, 0, none⟩ = some (.string a0_0) := (kc7 BK195.out 0).trans rfl
         have hcz113_1 : w20.cell? ⟨gb195, 1, none⟩ = some (.string a0_1) := (kc7 BK195.out 1).trans rfl
         have hfz113_0 := kz7 BK195.out 0
         have hfz113_1 := kz7 BK195.out 1
         have hnb114 := NB196_197.out
         have hnc114 := NB197_196.out
         have hcz115_0 : w20.cell? ⟨gb196, 0, none⟩ = some (.string a1_0) := (kc7 BK196.out 0).trans rfl
         have hcz115_1 : w20.cell? ⟨gb196, 1, none⟩ = some (.string a1_1) := (kc7 BK196.out 1).trans rfl
         have hfz115_0 := kz7 BK196.out 0
         have hfz115_1 := kz7 BK196.out 1
         go_wp2_with (first | ((with_reducible refine gate_callee (f:=14) rfl ?_); refine goesL_ (some 31) rfl rfl Try.func14 (by kernel_rfl) rfl #[.agg #[.string a0_0, .string a0_1], .agg #[.string a1_0, .string a1_1]] rfl (by (try simp only [ma7, mc7, mn7]); first | done | rfl | (simp only [ld7, lt_7]; rfl)) ?_; (with_reducible refine (span_Within.calls k a0_0 a0_1 a1_0 a1_1 true _ A23.out).mono ?_); rintro e w116 ⟨rfl, hb⟩; refine ⟨_, rfl, ?_⟩; have n0_ := Am7 (Rb7 (by (with_reducible repeat first | apply Ra7 | apply Rn7 | apply Rd7); exact HO201.out) hb); have n1_ := Am7 (kb7 (g:=gb195) (by (with_reducible repeat first | apply kn7 | apply kd7 | apply ka7); exact BK195.out) hb); have n2_ := Am7 (kb7 (g:=gb196) (by (with_reducible repeat first | apply kn7 | apply kd7 | apply ka7); exact BK196.out) hb); have n3_ := Am7 (kb7 (g:=gb197) (by (with_reducible repeat first | apply kn7 | apply kd7 | apply ka7); exact BK197.out) hb); have n4_ := Am7 (bp7 (by repeat (first | (with_reducible first | exact HB.out | apply ba7 | apply bn7 | apply bd7 | refine bs7 ?_ GE195.out | refine bs7 ?_ GE196.out | refine bs7 ?_ GE197.out) | exact HB.out)) hb); clear HO201; clear BK195; clear BK196; clear BK197; clear HB; have HO201 := n0_; have BK195 := n1_; have BK196 := n2_; have BK197 := n3_; have HB := n4_; clear n0_ n1_ n2_ n3_ n4_; (try clear hb); (try clear hb2); (try clear hk); (try clear hi); have hcz117_0 : w116.cell? ⟨gb195, 0, none⟩ = some (.string a0_0) := (kc7 BK195.out 0).trans rfl; have hcz117_1 : w116.cell? ⟨gb195, 1, none⟩ = some (.string a0_1) := (kc7 BK195.out 1).trans rfl; have hfz117_0 := kz7 BK195.out 0; have hfz117_1 := kz7 BK195.out 1) | (go_at_call 20; (with_reducible refine (span_Has.calls k a0_0 a0_1 a3 true _ A25.out).mono ?_); rintro e w118 ⟨rfl, hb⟩; have n0_ := Am7 (Rb7 (by (with_reducible repeat first | apply Ra7 | apply Rn7 | apply Rd7); exact HO201.out) hb); have n1_ := Am7 (kb7 (g:=gb195) (by (with_reducible repeat first | apply kn7 | apply kd7 | apply ka7); exact BK195.out) hb); have n2_ := Am7 (kb7 (g:=gb196) (by (with_reducible repeat first | apply kn7 | apply kd7 | apply ka7); exact BK196.out) hb); have n3_ := Am7 (kb7 (g:=gb197) (by (with_reducible repeat first | apply kn7 | apply kd7 | apply ka7); exact BK197.out) hb); have n4_ := Am7 (bp7 (by repeat (first | (with_reducible first | exact HB.out | apply ba7 | apply bn7 | apply bd7 | refine bs7 ?_ GE195.out | refine bs7 ?_ GE196.out | refine bs7 ?_ GE197.out) | exact HB.out)) hb); clear HO201; clear BK195; clear BK196; clear BK197; clear HB; have HO201 := n0_; have BK195 := n1_; have BK196 := n2_; have BK197 := n3_; have HB := n4_; clear n0_ n1_ n2_ n3_ n4_; (try clear hb); (try clear hb2); (try clear hk); (try clear hi); have hcz119_0 : w118.cell? ⟨gb196, 0, none⟩ = some (.string a1_0) := (kc7 BK196.out 0).trans rfl; have hcz119_1 : w118.cell? ⟨gb196, 1, none⟩ = some (.string a1_1) := (kc7 BK196.out 1).trans rfl; have hfz119_0 := kz7 BK196.out 0; have hfz119_1 := kz7 BK196.out 1) | (go_at_call 20; (with_reducible refine (span_Has.calls k a1_0 a1_1 a3 true _ A27.out).mono ?_); rintro e w120 ⟨rfl, hb⟩; have n0_ := Am7 (Rb7 (by (with_reducible repeat first | apply Ra7 | apply Rn7 | apply Rd7); exact HO201.out) hb); have n1_ := Am7 (kb7 (g:=gb195) (by (with_reducible repeat first | apply kn7 | apply kd7 | apply ka7); exact BK195.out) hb); have n2_ := Am7 (kb7 (g:=gb196) (by (with_reducible repeat first | apply kn7 | apply kd7 | apply ka7); exact BK196.out) hb); have n3_ := Am7 (kb7 (g:=gb197) (by (with_reducible repeat first | apply kn7 | apply kd7 | apply ka7); exact BK197.out) hb); have n4_ := Am7 (bp7 (by repeat (first | (with_reducible first | exact HB.out | apply ba7 | apply bn7 | apply bd7 | refine bs7 ?_ GE195.out | refine bs7 ?_ GE196.out | refine bs7 ?_ GE197.out) | exact HB.out)) hb); clear HO201; clear BK195; clear BK196; clear BK197; clear HB; have HO201 := n0_; have BK195 := n1_; have BK196 := n2_; have BK197 := n3_; have HB := n4_; clear n0_ n1_ n2_ n3_ n4_; (try clear hb); (try clear hb2); (try clear hk); (try clear hi); have hcz121_0 : w120.cell? ⟨gb196, 0, none⟩ = some (.string a1_0) := (kc7 BK196.out 0).trans rfl; have hcz121_1 : w120.cell? ⟨gb196, 1, none⟩ = some (.string a1_1) := (kc7 BK196.out 1).trans rfl; have hfz121_0 := kz7 BK196.out 0; have hfz121_1 := kz7 BK196.out 1; have hcz122_0 : w120.cell? ⟨gb197, 0, none⟩ = some (.string a2_0) := (kc7 BK197.out 0).trans rfl; have hcz122_1 : w120.cell? ⟨gb197, 1, none⟩ = some (.string a2_1) := (kc7 BK197.out 1).trans rfl; have hfz122_0 := kz7 BK197.out 0; have hfz122_1 := kz7 BK197.out 1) | (go_at_call 14; (with_reducible refine (span_Within.calls k a1_0 a1_1 a2_0 a2_1 false _ A29.out).mono ?_); rintro e w123 ⟨rfl, hb⟩; have n0_ := Am7 (Rb7 (by (with_reducible repeat first | apply Ra7 | apply Rn7 | apply Rd7); exact HO201.out) hb); have n1_ := Am7 (kb7 (g:=gb195) (by (with_reducible repeat first | apply kn7 | apply kd7 | apply ka7); exact BK195.out) hb); have n2_ := Am7 (kb7 (g:=gb196) (by (with_reducible repeat first | apply kn7 | apply kd7 | apply ka7); exact BK196.out) hb); have n3_ := Am7 (kb7 (g:=gb197) (by (with_reducible repeat first | apply kn7 | apply kd7 | apply ka7); exact BK197.out) hb); have n4_ := Am7 (bp7 (by repeat (first | (with_reducible first | exact HB.out | apply ba7 | apply bn7 | apply bd7 | refine bs7 ?_ GE195.out | refine bs7 ?_ GE196.out | refine bs7 ?_ GE197.out) | exact HB.out)) hb); clear HO201; clear BK195; clear BK196; clear BK197; clear HB; have HO201 := n0_; have BK195 := n1_; have BK196 := n2_; have BK197 := n3_; have HB := n4_; clear n0_ n1_ n2_ n3_ n4_; (try clear hb); (try clear hb2); (try clear hk); (try clear hi); have hcz124_0 : w123.cell? ⟨gb196, 0, none⟩ = some (.string a1_0) := (kc7 BK196.out 0).trans rfl; have hcz124_1 : w123.cell? ⟨gb196, 1, none⟩ = some (.string a1_1) := (kc7 BK196.out 1).trans rfl; have hfz124_0 := kz7 BK196.out 0; have hfz124_1 := kz7 BK196.out 1; have hcz125_0 : w123.cell? ⟨gb195, 0, none⟩ = some (.string a0_0) := (kc7 BK195.out 0).trans rfl; have hcz125_1 : w123.cell? ⟨gb195, 1, none⟩ = some (.string a0_1) := (kc7 BK195.out 1).trans rfl; have hfz125_0 := kz7 BK195.out 0; have hfz125_1 := kz7 BK195.out 1) | (go_at_call 14; (with_reducible refine (span_Within.calls k a1_0 a1_1 a0_0 a0_1 false _ A91.out).mono ?_); rintro e w126 ⟨rfl, hb⟩; have n0_ := Am7 (Rb7 (by (with_reducible repeat first | apply Ra7 | apply Rn7 | apply Rd7); exact HO201.out) hb); have n1_ := Am7 (kb7 (g:=gb195) (by (with_reducible repeat first | apply kn7 | apply kd7 | apply ka7); exact BK195.out) hb); have n2_ := Am7 (kb7 (g:=gb196) (by (with_reducible repeat first | apply kn7 | apply kd7 | apply ka7); exact BK196.out) hb); have n3_ := Am7 (kb7 (g:=gb197) (by (with_reducible repeat first | apply kn7 | apply kd7 | apply ka7); exact BK197.out) hb); have n4_ := Am7 (bp7 (by repeat (first | (with_reducible first | exact HB.out | apply ba7 | apply bn7 | apply bd7 | refine bs7 ?_ GE195.out | refine bs7 ?_ GE196.out | refine bs7 ?_ GE197.out) | exact HB.out)) hb); clear HO201; clear BK195; clear BK196; clear BK197; clear HB; have HO201 := n0_; have BK195 := n1_; have BK196 := n2_; have BK197 := n3_; have HB := n4_; clear n0_ n1_ n2_ n3_ n4_; (try clear hb); (try clear hb2); (try clear hk); (try clear hi)))
         go_meet
         case rel => exact ⟨_, (false), (by first | rfl | (simp; done) | (simp [*]; done)), H', ⟨by first | omega | exact Nat.le_refl _⟩, ⟨by (with_reducible repeat first | apply kn7 | apply kd7 | apply ka7); exact BK195.out⟩, ⟨by (with_reducible repeat first | apply kn7 | apply kd7 | apply ka7); exact BK196.out⟩, ⟨by (with_reducible repeat first | apply kn7 | apply kd7 | apply ka7); exact BK197.out⟩, ⟨by repeat (first | (with_reducible first | exact HB.out | apply ba7 | apply bn7 | apply bd7 | refine bs7 ?_ GE195.out | refine bs7 ?_ GE196.out | refine bs7 ?_ GE197.out) | exact HB.out)⟩⟩
      ·replace c28 := Bool.eq_false_iff.mpr c28
       subst c28
       rw [if_neg (show ¬ (false = true) by decide)] at H
       have H' := Am7 H
       clear H
       have hnb127 := NB195_196.out
       have hnc127 := NB196_195.out
       have hnb128 := NB195_197.out
       have hnc128 := NB197_195.out
       have hcz129_0 : w20.cell? ⟨gb195, 0, none⟩ = some (.string a0_0) := (kc7 BK195.out 0).trans rfl
       have hcz129_1 : w20.cell? ⟨gb195, 1, none⟩ = some (.string a0_1) := (kc7 BK195.out 1).trans rfl
       have hfz129_0 := kz7 BK195.out 0
       have hfz129_1 := kz7 BK195.out 1
       have hnb130 := NB196_197.out
       have hnc130 := NB197_196.out
       have hcz131_0 : w20.cell? ⟨gb196, 0, none⟩ = some (.string a1_0) := (kc7 BK196.out 0).trans rfl
       have hcz131_1 : w20.cell? ⟨gb196, 1, none⟩ = some (.string a1_1) := (kc7 BK196.out 1).trans rfl
       have hfz131_0 := kz7 BK196.out 0
       have hfz131_1 := kz7 BK196.out 1
       go_wp2_with (first | ((with_reducible refine gate_callee (f:=14) rfl ?_); refine goesL_ (some 31) rfl rfl Try.func14 (by kernel_rfl) rfl #[.agg #[.string a0_0, .string a0_1], .agg #[.string a1_0, .string a1_1]] rfl (by (try simp only [ma7, mc7, mn7]); first | done | rfl | (simp only [ld7, lt_7]; rfl)) ?_; (with_reducible refine (span_Within.calls k a0_0 a0_1 a1_0 a1_1 true _ A23.out).mono ?_); rintro e w132 ⟨rfl, hb⟩; refine ⟨_, rfl, ?_⟩; have n0_ := Am7 (Rb7 (by (with_reducible repeat first | apply Ra7 | apply Rn7 | apply Rd7); exact HO201.out) hb); have n1_ := Am7 (kb7 (g:=gb195) (by (with_reducible repeat first | apply kn7 | apply kd7 | apply ka7); exact BK195.out) hb); have n2_ := Am7 (kb7 (g:=gb196) (by (with_reducible repeat first | apply kn7 | apply kd7 | apply ka7); exact BK196.out) hb); have n3_ := Am7 (kb7 (g:=gb197) (by (with_reducible repeat first | apply kn7 | apply kd7 | apply ka7); exact BK197.out) hb); have n4_ := Am7 (bp7 (by repeat (first | (with_reducible first | exact HB.out | apply ba7 | apply bn7 | apply bd7 | refine bs7 ?_ GE195.out | refine bs7 ?_ GE196.out | refine bs7 ?_ GE197.out) | exact HB.out)) hb); clear HO201; clear BK195; clear BK196; clear BK197; clear HB; have HO201 := n0_; have BK195 := n1_; have BK196 := n2_; have BK197 := n3_; have HB := n4_; clear n0_ n1_ n2_ n3_ n4_; (try clear hb); (try clear hb2); (try clear hk); (try clear hi); have hcz133_0 : w132.cell? ⟨gb195, 0, none⟩ = some (.string a0_0) := (kc7 BK195.out 0).trans rfl; have hcz133_1 : w132.cell? ⟨gb195, 1, none⟩ = some (.string a0_1) := (kc7 BK195.out 1).trans rfl; have hfz133_0 := kz7 BK195.out 0; have hfz133_1 := kz7 BK195.out 1) | (go_at_call 20; (with_reducible refine (span_Has.calls k a0_0 a0_1 a3 true _ A25.out).mono ?_); rintro e w134 ⟨rfl, hb⟩; have n0_ := Am7 (Rb7 (by (with_reducible repeat first | apply Ra7 | apply Rn7 | apply Rd7); exact HO201.out) hb); have n1_ := Am7 (kb7 (g:=gb195) (by (with_reducible repeat first | apply kn7 | apply kd7 | apply ka7); exact BK195.out) hb); have n2_ := Am7 (kb7 (g:=gb196) (by (with_reducible repeat first | apply kn7 | apply kd7 | apply ka7); exact BK196.out) hb); have n3_ := Am7 (kb7 (g:=gb197) (by (with_reducible repeat first | apply kn7 | apply kd7 | apply ka7); exact BK197.out) hb); have n4_ := Am7 (bp7 (by repeat (first | (with_reducible first | exact HB.out | apply ba7 | apply bn7 | apply bd7 | refine bs7 ?_ GE195.out | refine bs7 ?_ GE196.out | refine bs7 ?_ GE197.out) | exact HB.out)) hb); clear HO201; clear BK195; clear BK196; clear BK197; clear HB; have HO201 := n0_; have BK195 := n1_; have BK196 := n2_; have BK197 := n3_; have HB := n4_; clear n0_ n1_ n2_ n3_ n4_; (try clear hb); (try clear hb2); (try clear hk); (try clear hi); have hcz135_0 : w134.cell? ⟨gb196, 0, none⟩ = some (.string a1_0) := (kc7 BK196.out 0).trans rfl; have hcz135_1 : w134.cell? ⟨gb196, 1, none⟩ = some (.string a1_1) := (kc7 BK196.out 1).trans rfl; have hfz135_0 := kz7 BK196.out 0; have hfz135_1 := kz7 BK196.out 1) | (go_at_call 20; (with_reducible refine (span_Has.calls k a1_0 a1_1 a3 false _ A27.out).mono ?_); rintro e w136 ⟨rfl, hb⟩; have n0_ := Am7 (Rb7 (by (with_reducible repeat first | apply Ra7 | apply Rn7 | apply Rd7); exact HO201.out) hb); have n1_ := Am7 (kb7 (g:=gb195) (by (with_reducible repeat first | apply kn7 | apply kd7 | apply ka7); exact BK195.out) hb); have n2_ := Am7 (kb7 (g:=gb196) (by (with_reducible repeat first | apply kn7 | apply kd7 | apply ka7); exact BK196.out) hb); have n3_ := Am7 (kb7 (g:=gb197) (by (with_reducible repeat first | apply kn7 | apply kd7 | apply ka7); exact BK197.out) hb); have n4_ := Am7 (bp7 (by repeat (first | (with_reducible first | exact HB.out | apply ba7 | apply bn7 | apply bd7 | refine bs7 ?_ GE195.out | refine bs7 ?_ GE196.out | refine bs7 ?_ GE197.out) | exact HB.out)) hb); clear HO201; clear BK195; clear BK196; clear BK197; clear HB; have HO201 := n0_; have BK195 := n1_; have BK196 := n2_; have BK197 := n3_; have HB := n4_; clear n0_ n1_ n2_ n3_ n4_; (try clear hb); (try clear hb2); (try clear hk); (try clear hi)))
       go_meet
       case rel => exact ⟨_, (true), (by first | rfl | (simp; done) | (simp [*]; done)), H', ⟨by first | omega | exact Nat.le_refl _⟩, ⟨by (with_reducible repeat first | apply kn7 | apply kd7 | apply ka7); exact BK195.out⟩, ⟨by (with_reducible repeat first | apply kn7 | apply kd7 | apply ka7); exact BK196.out⟩, ⟨by (with_reducible repeat first | apply kn7 | apply kd7 | apply ka7); exact BK197.out⟩, ⟨by repeat (first | (with_reducible first | exact HB.out | apply ba7 | apply bn7 | apply bd7 | refine bs7 ?_ GE195.out | refine bs7 ?_ GE196.out | refine bs7 ?_ GE197.out) | exact HB.out)⟩⟩
     ·replace c26 := Bool.eq_false_iff.mpr c26
      subst c26
      rw [if_neg (show ¬ (false = true) by decide)] at H
      replace H := Option.bind_eq_some_iff.mp H
      obtain ⟨t210, A1370, H⟩ := H
      try dsimp only at H
      have A137 := Am7 A1370
      clear A1370
      by_cases c138 : t210 = true
      ·subst c138
       rw [if_pos rfl] at H
       replace H := Option.bind_eq_some_iff.mp H
       obtain ⟨t211, A1390, H⟩ := H
       try dsimp only at H
       have A139 := Am7 A1390
       clear A1390
       by_cases c140 : t211 = true
       ·subst c140
        rw [if_pos rfl] at H
        replace H := Option.bind_eq_some_iff.mp H
        obtain ⟨t212, A1410, H⟩ := H
        try dsimp only at H
        have A141 := Am7 A1410
        clear A1410
        by_cases c142 : t212 = true
        ·subst c142
         rw [if_pos rfl] at H
         have H' := Am7 H
         clear H
         have hnb143 := NB195_196.out
         have hnc143 := NB196_195.out
         have hnb144 := NB195_197.out
         have hnc144 := NB197_195.out
         have hcz145_0 : w20.cell? ⟨gb195, 0, none⟩ = some (.string a0_0) := (kc7 BK195.out 0).trans rfl
         have hcz145_1 : w20.cell? ⟨gb195, 1, none⟩ = some (.string a0_1) := (kc7 BK195.out 1).trans rfl
         have hfz145_0 := kz7 BK195.out 0
         have hfz145_1 := kz7 BK195.out 1
         have hnb146 := NB196_197.out
         have hnc146 := NB197_196.out
         have hcz147_0 : w20.cell? ⟨gb196, 0, none⟩ = some (.string a1_0) := (kc7 BK196.out 0).trans rfl
         have hcz147_1 : w20.cell? ⟨gb196, 1, none⟩ = some (.string a1_1) := (kc7 BK196.out 1).trans rfl
         have hfz147_0 := kz7 BK196.out 0
         have hfz147_1 := kz7 BK196.out 1
         go_wp2_with (first | ((with_reducible refine gate_callee (f:=14) rfl ?_); refine goesL_ (some 31) rfl rfl Try.func14 (by kernel_rfl) rfl #[.agg #[.string a0_0, .string a0_1], .agg #[.string a1_0, .string a1_1]] rfl (by (try simp only [ma7, mc7, mn7]); first | done | rfl | (simp only [ld7, lt_7]; rfl)) ?_; (with_reducible refine (span_Within.calls k a0_0 a0_1 a1_0 a1_1 true _ A23.out).mono ?_); rintro e w148 ⟨rfl, hb⟩; refine ⟨_, rfl, ?_⟩; have n0_ := Am7 (Rb7 (by (with_reducible repeat first | apply Ra7 | apply Rn7 | apply Rd7); exact HO201.out) hb); have n1_ := Am7 (kb7 (g:=gb195) (by (with_reducible repeat first | apply kn7 | apply kd7 | apply ka7); exact BK195.out) hb); have n2_ := Am7 (kb7 (g:=gb196) (by (with_reducible repeat first | apply kn7 | apply kd7 | apply ka7); exact BK196.out) hb); have n3_ := Am7 (kb7 (g:=gb197) (by (with_reducible repeat first | apply kn7 | apply kd7 | apply ka7); exact BK197.out) hb); have n4_ := Am7 (bp7 (by repeat (first | (with_reducible first | exact HB.out | apply ba7 | apply bn7 | apply bd7 | refine bs7 ?_ GE195.out | refine bs7 ?_ GE196.out | refine bs7 ?_ GE197.out) | exact HB.out)) hb); clear HO201; clear BK195; clear BK196; clear BK197; clear HB; have HO201 := n0_; have BK195 := n1_; have BK196 := n2_; have BK197 := n3_; have HB := n4_; clear n0_ n1_ n2_ n3_ n4_; (try clear hb); (try clear hb2); (try clear hk); (try clear hi); have hcz149_0 : w148.cell? ⟨gb195, 0, none⟩ = some (.string a0_0) := (kc7 BK195.out 0).trans rfl; have hcz149_1 : w148.cell? ⟨gb195, 1, none⟩ = some (.string a0_1) := (kc7 BK195.out 1).trans rfl; have hfz149_0 := kz7 BK195.out 0; have hfz149_1 := kz7 BK195.out 1) | (go_at_call 20; (with_reducible refine (span_Has.calls k a0_0 a0_1 a3 false _ A25.out).mono ?_); rintro e w150 ⟨rfl, hb⟩; have n0_ := Am7 (Rb7 (by (with_reducible repeat first | apply Ra7 | apply Rn7 | apply Rd7); exact HO201.out) hb); have n1_ := Am7 (kb7 (g:=gb195) (by (with_reducible repeat first | apply kn7 | apply kd7 | apply ka7); exact BK195.out) hb); have n2_ := Am7 (kb7 (g:=gb196) (by (with_reducible repeat first | apply kn7 | apply kd7 | apply ka7); exact BK196.out) hb); have n3_ := Am7 (kb7 (g:=gb197) (by (with_reducible repeat first | apply kn7 | apply kd7 | apply ka7); exact BK197.out) hb); have n4_ := Am7 (bp7 (by repeat (first | (with_reducible first | exact HB.out | apply ba7 | apply bn7 | apply bd7 | refine bs7 ?_ GE195.out | refine bs7 ?_ GE196.out | refine bs7 ?_ GE197.out) | exact HB.out)) hb); clear HO201; clear BK195; clear BK196; clear BK197; clear HB; have HO201 := n0_; have BK195 := n1_; have BK196 := n2_; have BK197 := n3_; have HB := n4_; clear n0_ n1_ n2_ n3_ n4_; (try clear hb); (try clear hb2); (try clear hk); (try clear hi); have hcz151_0 : w150.cell? ⟨gb196, 0, none⟩ = some (.string a1_0) := (kc7 BK196.out 0).trans rfl; have hcz151_1 : w150.cell? ⟨gb196, 1, none⟩ = some (.string a1_1) := (kc7 BK196.out 1).trans rfl; have hfz151_0 := kz7 BK196.out 0; have hfz151_1 := kz7 BK196.out 1; have hcz152_0 : w150.cell? ⟨gb197, 0, none⟩ = some (.string a2_0) := (kc7 BK197.out 0).trans rfl; have hcz152_1 : w150.cell? ⟨gb197, 1, none⟩ = some (.string a2_1) := (kc7 BK197.out 1).trans rfl; have hfz152_0 := kz7 BK197.out 0; have hfz152_1 := kz7 BK197.out 1) | (go_at_call 14; (with_reducible refine (span_Within.calls k a1_0 a1_1 a2_0 a2_1 true _ A137.out).mono ?_); rintro e w153 ⟨rfl, hb⟩; have n0_ := Am7 (Rb7 (by (with_reducible repeat first | apply Ra7 | apply Rn7 | apply Rd7); exact HO201.out) hb); have n1_ := Am7 (kb7 (g:=gb195) (by (with_reducible repeat first | apply kn7 | apply kd7 | apply ka7); exact BK195.out) hb); have n2_ := Am7 (kb7 (g:=gb196) (by (with_reducible repeat first | apply kn7 | apply kd7 | apply ka7); exact BK196.out) hb); have n3_ := Am7 (kb7 (g:=gb197) (by (with_reducible repeat first | apply kn7 | apply kd7 | apply ka7); exact BK197.out) hb); have n4_ := Am7 (bp7 (by repeat (first | (with_reducible first | exact HB.out | apply ba7 | apply bn7 | apply bd7 | refine bs7 ?_ GE195.out | refine bs7 ?_ GE196.out | refine bs7 ?_ GE197.out) | exact HB.out)) hb); clear HO201; clear BK195; clear BK196; clear BK197; clear HB; have HO201 := n0_; have BK195 := n1_; have BK196 := n2_; have BK197 := n3_; have HB := n4_; clear n0_ n1_ n2_ n3_ n4_; (try clear hb); (try clear hb2); (try clear hk); (try clear hi); have hcz154_0 : w153.cell? ⟨gb195, 0, none⟩ = some (.string a0_0) := (kc7 BK195.out 0).trans rfl; have hcz154_1 : w153.cell? ⟨gb195, 1, none⟩ = some (.string a0_1) := (kc7 BK195.out 1).trans rfl; have hfz154_0 := kz7 BK195.out 0; have hfz154_1 := kz7 BK195.out 1; have hcz155_0 : w153.cell? ⟨gb197, 0, none⟩ = some (.string a2_0) := (kc7 BK197.out 0).trans rfl; have hcz155_1 : w153.cell? ⟨gb197, 1, none⟩ = some (.string a2_1) := (kc7 BK197.out 1).trans rfl; have hfz155_0 := kz7 BK197.out 0; have hfz155_1 := kz7 BK197.out 1) | (go_at_call 14; (with_reducible refine (span_Within.calls k a0_0 a0_1 a2_0 a2_1 true _ A139.out).mono ?_); rintro e w156 ⟨rfl, hb⟩; have n0_ := Am7 (Rb7 (by (with_reducible repeat first | apply Ra7 | apply Rn7 | apply Rd7); exact HO201.out) hb); have n1_ := Am7 (kb7 (g:=gb195) (by (with_reducible repeat first | apply kn7 | apply kd7 | apply ka7); exact BK195.out) hb); have n2_ := Am7 (kb7 (g:=gb196) (by (with_reducible repeat first | apply kn7 | apply kd7 | apply ka7); exact BK196.out) hb); have n3_ := Am7 (kb7 (g:=gb197) (by (with_reducible repeat first | apply kn7 | apply kd7 | apply ka7); exact BK197.out) hb); have n4_ := Am7 (bp7 (by repeat (first | (with_reducible first | exact HB.out | apply ba7 | apply bn7 | apply bd7 | refine bs7 ?_ GE195.out | refine bs7 ?_ GE196.out | refine bs7 ?_ GE197.out) | exact HB.out)) hb); clear HO201; clear BK195; clear BK196; clear BK197; clear HB; have HO201 := n0_; have BK195 := n1_; have BK196 := n2_; have BK197 := n3_; have HB := n4_; clear n0_ n1_ n2_ n3_ n4_; (try clear hb); (try clear hb2); (try clear hk); (try clear hi); have hcz157_0 : w156.cell? ⟨gb196, 0, none⟩ = some (.string a1_0) := (kc7 BK196.out 0).trans rfl; have hcz157_1 : w156.cell? ⟨gb196, 1, none⟩ = some (.string a1_1) := (kc7 BK196.out 1).trans rfl; have hfz157_0 := kz7 BK196.out 0; have hfz157_1 := kz7 BK196.out 1; have hcz158_0 : w156.cell? ⟨gb195, 0, none⟩ = some (.string a0_0) := (kc7 BK195.out 0).trans rfl; have hcz158_1 : w156.cell? ⟨gb195, 1, none⟩ = some (.string a0_1) := (kc7 BK195.out 1).trans rfl; have hfz158_0 := kz7 BK195.out 0; have hfz158_1 := kz7 BK195.out 1) | (go_at_call 14; (with_reducible refine (span_Within.calls k a1_0 a1_1 a0_0 a0_1 true _ A141.out).mono ?_); rintro e w159 ⟨rfl, hb⟩; have n0_ := Am7 (Rb7 (by (with_reducible repeat first | apply Ra7 | apply Rn7 | apply Rd7); exact HO201.out) hb); have n1_ := Am7 (kb7 (g:=gb195) (by (with_reducible repeat first | apply kn7 | apply kd7 | apply ka7); exact BK195.out) hb); have n2_ := Am7 (kb7 (g:=gb196) (by (with_reducible repeat first | apply kn7 | apply kd7 | apply ka7); exact BK196.out) hb); have n3_ := Am7 (kb7 (g:=gb197) (by (with_reducible repeat first | apply kn7 | apply kd7 | apply ka7); exact BK197.out) hb); have n4_ := Am7 (bp7 (by repeat (first | (with_reducible first | exact HB.out | apply ba7 | apply bn7 | apply bd7 | refine bs7 ?_ GE195.out | refine bs7 ?_ GE196.out | refine bs7 ?_ GE197.out) | exact HB.out)) hb); clear HO201; clear BK195; clear BK196; clear BK197; clear HB; have HO201 := n0_; have BK195 := n1_; have BK196 := n2_; have BK197 := n3_; have HB := n4_; clear n0_ n1_ n2_ n3_ n4_; (try clear hb); (try clear hb2); (try clear hk); (try clear hi); have hcz160_0 : w159.cell? ⟨gb195, 0, none⟩ = some (.string a0_0) := (kc7 BK195.out 0).trans rfl; have hcz160_1 : w159.cell? ⟨gb195, 1, none⟩ = some (.string a0_1) := (kc7 BK195.out 1).trans rfl; have hfz160_0 := kz7 BK195.out 0; have hfz160_1 := kz7 BK195.out 1; have hcz161_0 : w159.cell? ⟨gb196, 0, none⟩ = some (.string a1_0) := (kc7 BK196.out 0).trans rfl; have hcz161_1 : w159.cell? ⟨gb196, 1, none⟩ = some (.string a1_1) := (kc7 BK196.out 1).trans rfl; have hfz161_0 := kz7 BK196.out 0; have hfz161_1 := kz7 BK196.out 1))
         go_meet
         case rel => exact ⟨_, ((!(a0_0.toList == a1_0.toList) || (!(a0_1.toList == a1_1.toList)))), (by first | rfl | (simp; done) | (simp [*]; done)), H', ⟨by first | omega | exact Nat.le_refl _⟩, ⟨by (with_reducible repeat first | apply kn7 | apply kd7 | apply ka7); exact BK195.out⟩, ⟨by (with_reducible repeat first | apply kn7 | apply kd7 | apply ka7); exact BK196.out⟩, ⟨by (with_reducible repeat first | apply kn7 | apply kd7 | apply ka7); exact BK197.out⟩, ⟨by repeat (first | (with_reducible first | exact HB.out | apply ba7 | apply bn7 | apply bd7 | refine bs7 ?_ GE195.out | refine bs7 ?_ GE196.out | refine bs7 ?_ GE197.out) | exact HB.out)⟩⟩
        ·replace c142 := Bool.eq_false_iff.mpr c142
         subst c142
         rw [if_neg (show ¬ (false = true) by decide)] at H
         have H' := Am7 H
         clear H
         have hnb162 := NB195_196.out
         have hnc162 := NB196_195.out
         have hnb163 := NB195_197.out
         have hnc163 := NB197_195.out
         have hcz164_0 : w20.cell? ⟨gb195, 0, none⟩ = some (.string a0_0) := (kc7 BK195.out 0).trans rfl
         have hcz164_1 : w20.cell? ⟨gb195, 1, none⟩ = some (.string a0_1) := (kc7 BK195.out 1).trans rfl
         have hfz164_0 := kz7 BK195.out 0
         have hfz164_1 := kz7 BK195.out 1
         have hnb165 := NB196_197.out
         have hnc165 := NB197_196.out
         have hcz166_0 : w20.cell? ⟨gb196, 0, none⟩ = some (.string a1_0) := (kc7 BK196.out 0).trans rfl
         have hcz166_1 : w20.cell? ⟨gb196, 1, none⟩ = some (.string a1_1) := (kc7 BK196.out 1).trans rfl
         have hfz166_0 := kz7 BK196.out 0
         have hfz166_1 := kz7 BK196.out 1
         go_wp2_with (first | ((with_reducible refine gate_callee (f:=14) rfl ?_); refine goesL_ (some 31) rfl rfl Try.func14 (by kernel_rfl) rfl #[.agg #[.string a0_0, .string a0_1], .agg #[.string a1_0, .string a1_1]] rfl (by (try simp only [ma7, mc7, mn7]); first | done | rfl | (simp only [ld7, lt_7]; rfl)) ?_; (with_reducible refine (span_Within.calls k a0_0 a0_1 a1_0 a1_1 true _ A23.out).mono ?_); rintro e w167 ⟨rfl, hb⟩; refine ⟨_, rfl, ?_⟩; have n0_ := Am7 (Rb7 (by (with_reducible repeat first | apply Ra7 | apply Rn7 | apply Rd7); exact HO201.out) hb); have n1_ := Am7 (kb7 (g:=gb195) (by (with_reducible repeat first | apply kn7 | apply kd7 | apply ka7); exact BK195.out) hb); have n2_ := Am7 (kb7 (g:=gb196) (by (with_reducible repeat first | apply kn7 | apply kd7 | apply ka7); exact BK196.out) hb); have n3_ := Am7 (kb7 (g:=gb197) (by (with_reducible repeat first | apply kn7 | apply kd7 | apply ka7); exact BK197.out) hb); have n4_ := Am7 (bp7 (by repeat (first | (with_reducible first | exact HB.out | apply ba7 | apply bn7 | apply bd7 | refine bs7 ?_ GE195.out | refine bs7 ?_ GE196.out | refine bs7 ?_ GE197.out) | exact HB.out)) hb); clear HO201; clear BK195; clear BK196; clear BK197; clear HB; have HO201 := n0_; have BK195 := n1_; have BK196 := n2_; have BK197 := n3_; have HB := n4_; clear n0_ n1_ n2_ n3_ n4_; (try clear hb); (try clear hb2); (try clear hk); (try clear hi); have hcz168_0 : w167.cell? ⟨gb195, 0, none⟩ = some (.string a0_0) := (kc7 BK195.out 0).trans rfl; have hcz168_1 : w167.cell? ⟨gb195, 1, none⟩ = some (.string a0_1) := (kc7 BK195.out 1).trans rfl; have hfz168_0 := kz7 BK195.out 0; have hfz168_1 := kz7 BK195.out 1) | (go_at_call 20; (with_reducible refine (span_Has.calls k a0_0 a0_1 a3 false _ A25.out).mono ?_); rintro e w169 ⟨rfl, hb⟩; have n0_ := Am7 (Rb7 (by (with_reducible repeat first | apply Ra7 | apply Rn7 | apply Rd7); exact HO201.out) hb); have n1_ := Am7 (kb7 (g:=gb195) (by (with_reducible repeat first | apply kn7 | apply kd7 | apply ka7); exact BK195.out) hb); have n2_ := Am7 (kb7 (g:=gb196) (by (with_reducible repeat first | apply kn7 | apply kd7 | apply ka7); exact BK196.out) hb); have n3_ := Am7 (kb7 (g:=gb197) (by (with_reducible repeat first | apply kn7 | apply kd7 | apply ka7); exact BK197.out) hb); have n4_ := Am7 (bp7 (by repeat (first | (with_reducible first | exact HB.out | apply ba7 | apply bn7 | apply bd7 | refine bs7 ?_ GE195.out | refine bs7 ?_ GE196.out | refine bs7 ?_ GE197.out) | exact HB.out)) hb); clear HO201; clear BK195; clear BK196; clear BK197; clear HB; have HO201 := n0_; have BK195 := n1_; have BK196 := n2_; have BK197 := n3_; have HB := n4_; clear n0_ n1_ n2_ n3_ n4_; (try clear hb); (try clear hb2); (try clear hk); (try clear hi); have hcz170_0 : w169.cell? ⟨gb196, 0, none⟩ = some (.string a1_0) := (kc7 BK196.out 0).trans rfl; have hcz170_1 : w169.cell? ⟨gb196, 1, none⟩ = some (.string a1_1) := (kc7 BK196.out 1).trans rfl; have hfz170_0 := kz7 BK196.out 0; have hfz170_1 := kz7 BK196.out 1; have hcz171_0 : w169.cell? ⟨gb197, 0, none⟩ = some (.string a2_0) := (kc7 BK197.out 0).trans rfl; have hcz171_1 : w169.cell? ⟨gb197, 1, none⟩ = some (.string a2_1) := (kc7 BK197.out 1).trans rfl; have hfz171_0 := kz7 BK197.out 0; have hfz171_1 := kz7 BK197.out 1) | (go_at_call 14; (with_reducible refine (span_Within.calls k a1_0 a1_1 a2_0 a2_1 true _ A137.out).mono ?_); rintro e w172 ⟨rfl, hb⟩; have n0_ := Am7 (Rb7 (by (with_reducible repeat first | apply Ra7 | apply Rn7 | apply Rd7); exact HO201.out) hb); have n1_ := Am7 (kb7 (g:=gb195) (by (with_reducible repeat first | apply kn7 | apply kd7 | apply ka7); exact BK195.out) hb); have n2_ := Am7 (kb7 (g:=gb196) (by (with_reducible repeat first | apply kn7 | apply kd7 | apply ka7); exact BK196.out) hb); have n3_ := Am7 (kb7 (g:=gb197) (by (with_reducible repeat first | apply kn7 | apply kd7 | apply ka7); exact BK197.out) hb); have n4_ := Am7 (bp7 (by repeat (first | (with_reducible first | exact HB.out | apply ba7 | apply bn7 | apply bd7 | refine bs7 ?_ GE195.out | refine bs7 ?_ GE196.out | refine bs7 ?_ GE197.out) | exact HB.out)) hb); clear HO201; clear BK195; clear BK196; clear BK197; clear HB; have HO201 := n0_; have BK195 := n1_; have BK196 := n2_; have BK197 := n3_; have HB := n4_; clear n0_ n1_ n2_ n3_ n4_; (try clear hb); (try clear hb2); (try clear hk); (try clear hi); have hcz173_0 : w172.cell? ⟨gb195, 0, none⟩ = some (.string a0_0) := (kc7 BK195.out 0).trans rfl; have hcz173_1 : w172.cell? ⟨gb195, 1, none⟩ = some (.string a0_1) := (kc7 BK195.out 1).trans rfl; have hfz173_0 := kz7 BK195.out 0; have hfz173_1 := kz7 BK195.out 1; have hcz174_0 : w172.cell? ⟨gb197, 0, none⟩ = some (.string a2_0) := (kc7 BK197.out 0).trans rfl; have hcz174_1 : w172.cell? ⟨gb197, 1, none⟩ = some (.string a2_1) := (kc7 BK197.out 1).trans rfl; have hfz174_0 := kz7 BK197.out 0; have hfz174_1 := kz7 BK197.out 1) | (go_at_call 14; (with_reducible refine (span_Within.calls k a0_0 a0_1 a2_0 a2_1 true _ A139.out).mono ?_); rintro e w175 ⟨rfl, hb⟩; have n0_ := Am7 (Rb7 (by (with_reducible repeat first | apply Ra7 | apply Rn7 | apply Rd7); exact HO201.out) hb); have n1_ := Am7 (kb7 (g:=gb195) (by (with_reducible repeat first | apply kn7 | apply kd7 | apply ka7); exact BK195.out) hb); have n2_ := Am7 (kb7 (g:=gb196) (by (with_reducible repeat first | apply kn7 | apply kd7 | apply ka7); exact BK196.out) hb); have n3_ := Am7 (kb7 (g:=gb197) (by (with_reducible repeat first | apply kn7 | apply kd7 | apply ka7); exact BK197.out) hb); have n4_ := Am7 (bp7 (by repeat (first | (with_reducible first | exact HB.out | apply ba7 | apply bn7 | apply bd7 | refine bs7 ?_ GE195.out | refine bs7 ?_ GE196.out | refine bs7 ?_ GE197.out) | exact HB.out)) hb); clear HO201; clear BK195; clear BK196; clear BK197; clear HB; have HO201 := n0_; have BK195 := n1_; have BK196 := n2_; have BK197 := n3_; have HB := n4_; clear n0_ n1_ n2_ n3_ n4_; (try clear hb); (try clear hb2); (try clear hk); (try clear hi); have hcz176_0 : w175.cell? ⟨gb196, 0, none⟩ = some (.string a1_0) := (kc7 BK196.out 0).trans rfl; have hcz176_1 : w175.cell? ⟨gb196, 1, none⟩ = some (.string a1_1) := (kc7 BK196.out 1).trans rfl; have hfz176_0 := kz7 BK196.out 0; have hfz176_1 := kz7 BK196.out 1; have hcz177_0 : w175.cell? ⟨gb195, 0, none⟩ = some (.string a0_0) := (kc7 BK195.out 0).trans rfl; have hcz177_1 : w175.cell? ⟨gb195, 1, none⟩ = some (.string a0_1) := (kc7 BK195.out 1).trans rfl; have hfz177_0 := kz7 BK195.out 0; have hfz177_1 := kz7 BK195.out 1) | (go_at_call 14; (with_reducible refine (span_Within.calls k a1_0 a1_1 a0_0 a0_1 false _ A141.out).mono ?_); rintro e w178 ⟨rfl, hb⟩; have n0_ := Am7 (Rb7 (by (with_reducible repeat first | apply Ra7 | apply Rn7 | apply Rd7); exact HO201.out) hb); have n1_ := Am7 (kb7 (g:=gb195) (by (with_reducible repeat first | apply kn7 | apply kd7 | apply ka7); exact BK195.out) hb); have n2_ := Am7 (kb7 (g:=gb196) (by (with_reducible repeat first | apply kn7 | apply kd7 | apply ka7); exact BK196.out) hb); have n3_ := Am7 (kb7 (g:=gb197) (by (with_reducible repeat first | apply kn7 | apply kd7 | apply ka7); exact BK197.out) hb); have n4_ := Am7 (bp7 (by repeat (first | (with_reducible first | exact HB.out | apply ba7 | apply bn7 | apply bd7 | refine bs7 ?_ GE195.out | refine bs7 ?_ GE196.out | refine bs7 ?_ GE197.out) | exact HB.out)) hb); clear HO201; clear BK195; clear BK196; clear BK197; clear HB; have HO201 := n0_; have BK195 := n1_; have BK196 := n2_; have BK197 := n3_; have HB := n4_; clear n0_ n1_ n2_ n3_ n4_; (try clear hb); (try clear hb2); (try clear hk); (try clear hi)))
         go_meet
         case rel => exact ⟨_, (false), (by first | rfl | (simp; done) | (simp [*]; done)), H', ⟨by first | omega | exact Nat.le_refl _⟩, ⟨by (with_reducible repeat first | apply kn7 | apply kd7 | apply ka7); exact BK195.out⟩, ⟨by (with_reducible repeat first | apply kn7 | apply kd7 | apply ka7); exact BK196.out⟩, ⟨by (with_reducible repeat first | apply kn7 | apply kd7 | apply ka7); exact BK197.out⟩, ⟨by repeat (first | (with_reducible first | exact HB.out | apply ba7 | apply bn7 | apply bd7 | refine bs7 ?_ GE195.out | refine bs7 ?_ GE196.out | refine bs7 ?_ GE197.out) | exact HB.out)⟩⟩
       ·replace c140 := Bool.eq_false_iff.mpr c140
        subst c140
        rw [if_neg (show ¬ (false = true) by decide)] at H
        have H' := Am7 H
        clear H
        have hnb179 := NB195_196.out
        have hnc179 := NB196_195.out
        have hnb180 := NB195_197.out
        have hnc180 := NB197_195.out
        have hcz181_0 : w20.cell? ⟨gb195, 0, none⟩ = some (.string a0_0) := (kc7 BK195.out 0).trans rfl
        have hcz181_1 : w20.cell? ⟨gb195, 1, none⟩ = some (.string a0_1) := (kc7 BK195.out 1).trans rfl
        have hfz181_0 := kz7 BK195.out 0
        have hfz181_1 := kz7 BK195.out 1
        have hnb182 := NB196_197.out
        have hnc182 := NB197_196.out
        have hcz183_0 : w20.cell? ⟨gb196, 0, none⟩ = some (.string a1_0) := (kc7 BK196.out 0).trans rfl
        have hcz183_1 : w20.cell? ⟨gb196, 1, none⟩ = some (.string a1_1) := (kc7 BK196.out 1).trans rfl
        have hfz183_0 := kz7 BK196.out 0
        have hfz183_1 := kz7 BK196.out 1
        go_wp2_with (first | ((with_reducible refine gate_callee (f:=14) rfl ?_); refine goesL_ (some 31) rfl rfl Try.func14 (by kernel_rfl) rfl #[.agg #[.string a0_0, .string a0_1], .agg #[.string a1_0, .string a1_1]] rfl (by (try simp only [ma7, mc7, mn7]); first | done | rfl | (simp only [ld7, lt_7]; rfl)) ?_; (with_reducible refine (span_Within.calls k a0_0 a0_1 a1_0 a1_1 true _ A23.out).mono ?_); rintro e w184 ⟨rfl, hb⟩; refine ⟨_, rfl, ?_⟩; have n0_ := Am7 (Rb7 (by (with_reducible repeat first | apply Ra7 | apply Rn7 | apply Rd7); exact HO201.out) hb); have n1_ := Am7 (kb7 (g:=gb195) (by (with_reducible repeat first | apply kn7 | apply kd7 | apply ka7); exact BK195.out) hb); have n2_ := Am7 (kb7 (g:=gb196) (by (with_reducible repeat first | apply kn7 | apply kd7 | apply ka7); exact BK196.out) hb); have n3_ := Am7 (kb7 (g:=gb197) (by (with_reducible repeat first | apply kn7 | apply kd7 | apply ka7); exact BK197.out) hb); have n4_ := Am7 (bp7 (by repeat (first | (with_reducible first | exact HB.out | apply ba7 | apply bn7 | apply bd7 | refine bs7 ?_ GE195.out | refine bs7 ?_ GE196.out | refine bs7 ?_ GE197.out) | exact HB.out)) hb); clear HO201; clear BK195; clear BK196; clear BK197; clear HB; have HO201 := n0_; have BK195 := n1_; have BK196 := n2_; have BK197 := n3_; have HB := n4_; clear n0_ n1_ n2_ n3_ n4_; (try clear hb); (try clear hb2); (try clear hk); (try clear hi); have hcz185_0 : w184.cell? ⟨gb195, 0, none⟩ = some (.string a0_0) := (kc7 BK195.out 0).trans rfl; have hcz185_1 : w184.cell? ⟨gb195, 1, none⟩ = some (.string a0_1) := (kc7 BK195.out 1).trans rfl; have hfz185_0 := kz7 BK195.out 0; have hfz185_1 := kz7 BK195.out 1) | (go_at_call 20; (with_reducible refine (span_Has.calls k a0_0 a0_1 a3 false _ A25.out).mono ?_); rintro e w186 ⟨rfl, hb⟩; have n0_ := Am7 (Rb7 (by (with_reducible repeat first | apply Ra7 | apply Rn7 | apply Rd7); exact HO201.out) hb); have n1_ := Am7 (kb7 (g:=gb195) (by (with_reducible repeat first | apply kn7 | apply kd7 | apply ka7); exact BK195.out) hb); have n2_ := Am7 (kb7 (g:=gb196) (by (with_reducible repeat first | apply kn7 | apply kd7 | apply ka7); exact BK196.out) hb); have n3_ := Am7 (kb7 (g:=gb197) (by (with_reducible repeat first | apply kn7 | apply kd7 | apply ka7); exact BK197.out) hb); have n4_ := Am7 (bp7 (by repeat (first | (with_reducible first | exact HB.out | apply ba7 | apply bn7 | apply bd7 | refine bs7 ?_ GE195.out | refine bs7 ?_ GE196.out | refine bs7 ?_ GE197.out) | exact HB.out)) hb); clear HO201; clear BK195; clear BK196; clear BK197; clear HB; have HO201 := n0_; have BK195 := n1_; have BK196 := n2_; have BK197 := n3_; have HB := n4_; clear n0_ n1_ n2_ n3_ n4_; (try clear hb); (try clear hb2); (try clear hk); (try clear hi); have hcz187_0 : w186.cell? ⟨gb196, 0, none⟩ = some (.string a1_0) := (kc7 BK196.out 0).trans rfl; have hcz187_1 : w186.cell? ⟨gb196, 1, none⟩ = some (.string a1_1) := (kc7 BK196.out 1).trans rfl; have hfz187_0 := kz7 BK196.out 0; have hfz187_1 := kz7 BK196.out 1; have hcz188_0 : w186.cell? ⟨gb197, 0, none⟩ = some (.string a2_0) := (kc7 BK197.out 0).trans rfl; have hcz188_1 : w186.cell? ⟨gb197, 1, none⟩ = some (.string a2_1) := (kc7 BK197.out 1).trans rfl; have hfz188_0 := kz7 BK197.out 0; have hfz188_1 := kz7 BK197.out 1) | (go_at_call 14; (with_reducible refine (span_Within.calls k a1_0 a1_1 a2_0 a2_1 true _ A137.out).mono ?_); rintro e w189 ⟨rfl, hb⟩; have n0_ := Am7 (Rb7 (by (with_reducible repeat first | apply Ra7 | apply Rn7 | apply Rd7); exact HO201.out) hb); have n1_ := Am7 (kb7 (g:=gb195) (by (with_reducible repeat first | apply kn7 | apply kd7 | apply ka7); exact BK195.out) hb); have n2_ := Am7 (kb7 (g:=gb196) (by (with_reducible repeat first | apply kn7 | apply kd7 | apply ka7); exact BK196.out) hb); have n3_ := Am7 (kb7 (g:=gb197) (by (with_reducible repeat first | apply kn7 | apply kd7 | apply ka7); exact BK197.out) hb); have n4_ := Am7 (bp7 (by repeat (first | (with_reducible first | exact HB.out | apply ba7 | apply bn7 | apply bd7 | refine bs7 ?_ GE195.out | refine bs7 ?_ GE196.out | refine bs7 ?_ GE197.out) | exact HB.out)) hb); clear HO201; clear BK195; clear BK196; clear BK197; clear HB; have HO201 := n0_; have BK195 := n1_; have BK196 := n2_; have BK197 := n3_; have HB := n4_; clear n0_ n1_ n2_ n3_ n4_; (try clear hb); (try clear hb2); (try clear hk); (try clear hi); have hcz190_0 : w189.cell? ⟨gb195, 0, none⟩ = some (.string a0_0) := (kc7 BK195.out 0).trans rfl; have hcz190_1 : w189.cell? ⟨gb195, 1, none⟩ = some (.string a0_1) := (kc7 BK195.out 1).trans rfl; have hfz190_0 := kz7 BK195.out 0; have hfz190_1 := kz7 BK195.out 1; have hcz191_0 : w189.cell? ⟨gb197, 0, none⟩ = some (.string a2_0) := (kc7 BK197.out 0).trans rfl; have hcz191_1 : w189.cell? ⟨gb197, 1, none⟩ = some (.string a2_1) := (kc7 BK197.out 1).trans rfl; have hfz191_0 := kz7 BK197.out 0; have hfz191_1 := kz7 BK197.out 1) | (go_at_call 14; (with_reducible refine (span_Within.calls k a0_0 a0_1 a2_0 a2_1 false _ A139.out).mono ?_); rintro e w192 ⟨rfl, hb⟩; have n0_ := Am7 (Rb7 (by (with_reducible repeat first | apply Ra7 | apply Rn7 | apply Rd7); exact HO201.out) hb); have n1_ := Am7 (kb7 (g:=gb195) (by (with_reducible repeat first | apply kn7 | apply kd7 | apply ka7); exact BK195.out) hb); have n2_ := Am7 (kb7 (g:=gb196) (by (with_reducible repeat first | apply kn7 | apply kd7 | apply ka7); exact BK196.out) hb); have n3_ := Am7 (kb7 (g:=gb197) (by (with_reducible repeat first | apply kn7 | apply kd7 | apply ka7); exact BK197.out) hb); have n4_ := Am7 (bp7 (by repeat (first | (with_reducible first | exact HB.out | apply ba7 | apply bn7 | apply bd7 | refine bs7 ?_ GE195.out | refine bs7 ?_ GE196.out | refine bs7 ?_ GE197.out) | exact HB.out)) hb); clear HO201; clear BK195; clear BK196; clear BK197; clear HB; have HO201 := n0_; have BK195 := n1_; have BK196 := n2_; have BK197 := n3_; have HB := n4_; clear n0_ n1_ n2_ n3_ n4_; (try clear hb); (try clear hb2); (try clear hk); (try clear hi)))
        go_meet
        case rel => exact ⟨_, (true), (by first | rfl | (simp; done) | (simp [*]; done)), H', ⟨by first | omega | exact Nat.le_refl _⟩, ⟨by (with_reducible repeat first | apply kn7 | apply kd7 | apply ka7); exact BK195.out⟩, ⟨by (with_reducible repeat first | apply kn7 | apply kd7 | apply ka7); exact BK196.out⟩, ⟨by (with_reducible repeat first | apply kn7 | apply kd7 | apply ka7); exact BK197.out⟩, ⟨by repeat (first | (with_reducible first | exact HB.out | apply ba7 | apply bn7 | apply bd7 | refine bs7 ?_ GE195.out | refine bs7 ?_ GE196.out | refine bs7 ?_ GE197.out) | exact HB.out)⟩⟩
      ·replace c138 := Bool.eq_false_iff.mpr c138
       subst c138
       rw [if_neg (show ¬ (false = true) by decide)] at H
       replace H := Option.bind_eq_some_iff.mp H
       obtain ⟨t213, A1930, H⟩ := H
       try dsimp only at H
       have A193 := Am7 A1930
       clear A1930
       by_cases c194 : t213 = true
       ·subst c194
        rw [if_pos rfl] at H
        have H' := Am7 H
        clear H
        have hnb195 := NB195_196.out
        have hnc195 := NB196_195.out
        have hnb196 := NB195_197.out
        have hnc196 := NB197_195.out
        have hcz197_0 : w20.cell? ⟨gb195, 0, none⟩ = some (.string a0_0) := (kc7 BK195.out 0).trans rfl
        have hcz197_1 : w20.cell? ⟨gb195, 1, none⟩ = some (.string a0_1) := (kc7 BK195.out 1).trans rfl
        have hfz197_0 := kz7 BK195.out 0
        have hfz197_1 := kz7 BK195.out 1
        have hnb198 := NB196_197.out
        have hnc198 := NB197_196.out
        have hcz199_0 : w20.cell? ⟨gb196, 0, none⟩ = some (.string a1_0) := (kc7 BK196.out 0).trans rfl
        have hcz199_1 : w20.cell? ⟨gb196, 1, none⟩ = some (.string a1_1) := (kc7 BK196.out 1).trans rfl
        have hfz199_0 := kz7 BK196.out 0
        have hfz199_1 := kz7 BK196.out 1
        go_wp2_with (first | ((with_reducible refine gate_callee (f:=14) rfl ?_); refine goesL_ (some 31) rfl rfl Try.func14 (by kernel_rfl) rfl #[.agg #[.string a0_0, .string a0_1], .agg #[.string a1_0, .string a1_1]] rfl (by (try simp only [ma7, mc7, mn7]); first | done | rfl | (simp only [ld7, lt_7]; rfl)) ?_; (with_reducible refine (span_Within.calls k a0_0 a0_1 a1_0 a1_1 true _ A23.out).mono ?_); rintro e w200 ⟨rfl, hb⟩; refine ⟨_, rfl, ?_⟩; have n0_ := Am7 (Rb7 (by (with_reducible repeat first | apply Ra7 | apply Rn7 | apply Rd7); exact HO201.out) hb); have n1_ := Am7 (kb7 (g:=gb195) (by (with_reducible repeat first | apply kn7 | apply kd7 | apply ka7); exact BK195.out) hb); have n2_ := Am7 (kb7 (g:=gb196) (by (with_reducible repeat first | apply kn7 | apply kd7 | apply ka7); exact BK196.out) hb); have n3_ := Am7 (kb7 (g:=gb197) (by (with_reducible repeat first | apply kn7 | apply kd7 | apply ka7); exact BK197.out) hb); have n4_ := Am7 (bp7 (by repeat (first | (with_reducible first | exact HB.out | apply ba7 | apply bn7 | apply bd7 | refine bs7 ?_ GE195.out | refine bs7 ?_ GE196.out | refine bs7 ?_ GE197.out) | exact HB.out)) hb); clear HO201; clear BK195; clear BK196; clear BK197; clear HB; have HO201 := n0_; have BK195 := n1_; have BK196 := n2_; have BK197 := n3_; have HB := n4_; clear n0_ n1_ n2_ n3_ n4_; (try clear hb); (try clear hb2); (try clear hk); (try clear hi); have hcz201_0 : w200.cell? ⟨gb195, 0, none⟩ = some (.string a0_0) := (kc7 BK195.out 0).trans rfl; have hcz201_1 : w200.cell? ⟨gb195, 1, none⟩ = some (.string a0_1) := (kc7 BK195.out 1).trans rfl; have hfz201_0 := kz7 BK195.out 0; have hfz201_1 := kz7 BK195.out 1) | (go_at_call 20; (with_reducible refine (span_Has.calls k a0_0 a0_1 a3 false _ A25.out).mono ?_); rintro e w202 ⟨rfl, hb⟩; have n0_ := Am7 (Rb7 (by (with_reducible repeat first | apply Ra7 | apply Rn7 | apply Rd7); exact HO201.out) hb); have n1_ := Am7 (kb7 (g:=gb195) (by (with_reducible repeat first | apply kn7 | apply kd7 | apply ka7); exact BK195.out) hb); have n2_ := Am7 (kb7 (g:=gb196) (by (with_reducible repeat first | apply kn7 | apply kd7 | apply ka7); exact BK196.out) hb); have n3_ := Am7 (kb7 (g:=gb197) (by (with_reducible repeat first | apply kn7 | apply kd7 | apply ka7); exact BK197.out) hb); have n4_ := Am7 (bp7 (by repeat (first | (with_reducible first | exact HB.out | apply ba7 | apply bn7 | apply bd7 | refine bs7 ?_ GE195.out | refine bs7 ?_ GE196.out | refine bs7 ?_ GE197.out) | exact HB.out)) hb); clear HO201; clear BK195; clear BK196; clear BK197; clear HB; have HO201 := n0_; have BK195 := n1_; have BK196 := n2_; have BK197 := n3_; have HB := n4_; clear n0_ n1_ n2_ n3_ n4_; (try clear hb); (try clear hb2); (try clear hk); (try clear hi); have hcz203_0 : w202.cell? ⟨gb196, 0, none⟩ = some (.string a1_0) := (kc7 BK196.out 0).trans rfl; have hcz203_1 : w202.cell? ⟨gb196, 1, none⟩ = some (.string a1_1) := (kc7 BK196.out 1).trans rfl; have hfz203_0 := kz7 BK196.out 0; have hfz203_1 := kz7 BK196.out 1; have hcz204_0 : w202.cell? ⟨gb197, 0, none⟩ = some (.string a2_0) := (kc7 BK197.out 0).trans rfl; have hcz204_1 : w202.cell? ⟨gb197, 1, none⟩ = some (.string a2_1) := (kc7 BK197.out 1).trans rfl; have hfz204_0 := kz7 BK197.out 0; have hfz204_1 := kz7 BK197.out 1) | (go_at_call 14; (with_reducible refine (span_Within.calls k a1_0 a1_1 a2_0 a2_1 false _ A137.out).mono ?_); rintro e w205 ⟨rfl, hb⟩; have n0_ := Am7 (Rb7 (by (with_reducible repeat first | apply Ra7 | apply Rn7 | apply Rd7); exact HO201.out) hb); have n1_ := Am7 (kb7 (g:=gb195) (by (with_reducible repeat first | apply kn7 | apply kd7 | apply ka7); exact BK195.out) hb); have n2_ := Am7 (kb7 (g:=gb196) (by (with_reducible repeat first | apply kn7 | apply kd7 | apply ka7); exact BK196.out) hb); have n3_ := Am7 (kb7 (g:=gb197) (by (with_reducible repeat first | apply kn7 | apply kd7 | apply ka7); exact BK197.out) hb); have n4_ := Am7 (bp7 (by repeat (first | (with_reducible first | exact HB.out | apply ba7 | apply bn7 | apply bd7 | refine bs7 ?_ GE195.out | refine bs7 ?_ GE196.out | refine bs7 ?_ GE197.out) | exact HB.out)) hb); clear HO201; clear BK195; clear BK196; clear BK197; clear HB; have HO201 := n0_; have BK195 := n1_; have BK196 := n2_; have BK197 := n3_; have HB := n4_; clear n0_ n1_ n2_ n3_ n4_; (try clear hb); (try clear hb2); (try clear hk); (try clear hi); have hcz206_0 : w205.cell? ⟨gb196, 0, none⟩ = some (.string a1_0) := (kc7 BK196.out 0).trans rfl; have hcz206_1 : w205.cell? ⟨gb196, 1, none⟩ = some (.string a1_1) := (kc7 BK196.out 1).trans rfl; have hfz206_0 := kz7 BK196.out 0; have hfz206_1 := kz7 BK196.out 1; have hcz207_0 : w205.cell? ⟨gb195, 0, none⟩ = some (.string a0_0) := (kc7 BK195.out 0).trans rfl; have hcz207_1 : w205.cell? ⟨gb195, 1, none⟩ = some (.string a0_1) := (kc7 BK195.out 1).trans rfl; have hfz207_0 := kz7 BK195.out 0; have hfz207_1 := kz7 BK195.out 1) | (go_at_call 14; (with_reducible refine (span_Within.calls k a1_0 a1_1 a0_0 a0_1 true _ A193.out).mono ?_); rintro e w208 ⟨rfl, hb⟩; have n0_ := Am7 (Rb7 (by (with_reducible repeat first | apply Ra7 | apply Rn7 | apply Rd7); exact HO201.out) hb); have n1_ := Am7 (kb7 (g:=gb195) (by (with_reducible repeat first | apply kn7 | apply kd7 | apply ka7); exact BK195.out) hb); have n2_ := Am7 (kb7 (g:=gb196) (by (with_reducible repeat first | apply kn7 | apply kd7 | apply ka7); exact BK196.out) hb); have n3_ := Am7 (kb7 (g:=gb197) (by (with_reducible repeat first | apply kn7 | apply kd7 | apply ka7); exact BK197.out) hb); have n4_ := Am7 (bp7 (by repeat (first | (with_reducible first | exact HB.out | apply ba7 | apply bn7 | apply bd7 | refine bs7 ?_ GE195.out | refine bs7 ?_ GE196.out | refine bs7 ?_ GE197.out) | exact HB.out)) hb); clear HO201; clear BK195; clear BK196; clear BK197; clear HB; have HO201 := n0_; have BK195 := n1_; have BK196 := n2_; have BK197 := n3_; have HB := n4_; clear n0_ n1_ n2_ n3_ n4_; (try clear hb); (try clear hb2); (try clear hk); (try clear hi); have hcz209_0 : w208.cell? ⟨gb195, 0, none⟩ = some (.string a0_0) := (kc7 BK195.out 0).trans rfl; have hcz209_1 : w208.cell? ⟨gb195, 1, none⟩ = some (.string a0_1) := (kc7 BK195.out 1).trans rfl; have hfz209_0 := kz7 BK195.out 0; have hfz209_1 := kz7 BK195.out 1; have hcz210_0 : w208.cell? ⟨gb196, 0, none⟩ = some (.string a1_0) := (kc7 BK196.out 0).trans rfl; have hcz210_1 : w208.cell? ⟨gb196, 1, none⟩ = some (.string a1_1) := (kc7 BK196.out 1).trans rfl; have hfz210_0 := kz7 BK196.out 0; have hfz210_1 := kz7 BK196.out 1))
        go_meet
        case rel => exact ⟨_, ((!(a0_0.toList == a1_0.toList) || (!(a0_1.toList == a1_1.toList)))), (by first | rfl | (simp; done) | (simp [*]; done)), H', ⟨by first | omega | exact Nat.le_refl _⟩, ⟨by (with_reducible repeat first | apply kn7 | apply kd7 | apply ka7); exact BK195.out⟩, ⟨by (with_reducible repeat first | apply kn7 | apply kd7 | apply ka7); exact BK196.out⟩, ⟨by (with_reducible repeat first | apply kn7 | apply kd7 | apply ka7); exact BK197.out⟩, ⟨by repeat (first | (with_reducible first | exact HB.out | apply ba7 | apply bn7 | apply bd7 | refine bs7 ?_ GE195.out | refine bs7 ?_ GE196.out | refine bs7 ?_ GE197.out) | exact HB.out)⟩⟩
       ·replace c194 := Bool.eq_false_iff.mpr c194
        subst c194
        rw [if_neg (show ¬ (false = true) by decide)] at H
        have H' := Am7 H
        clear H
        have hnb211 := NB195_196.out
        have hnc211 := NB196_195.out
        have hnb212 := NB195_197.out
        have hnc212 := NB197_195.out
        have hcz213_0 : w20.cell? ⟨gb195, 0, none⟩ = some (.string a0_0) := (kc7 BK195.out 0).trans rfl
        have hcz213_1 : w20.cell? ⟨gb195, 1, none⟩ = some (.string a0_1) := (kc7 BK195.out 1).trans rfl
        have hfz213_0 := kz7 BK195.out 0
        have hfz213_1 := kz7 BK195.out 1
        have hnb214 := NB196_197.out
        have hnc214 := NB197_196.out
        have hcz215_0 : w20.cell? ⟨gb196, 0, none⟩ = some (.string a1_0) := (kc7 BK196.out 0).trans rfl
        have hcz215_1 : w20.cell? ⟨gb196, 1, none⟩ = some (.string a1_1) := (kc7 BK196.out 1).trans rfl
        have hfz215_0 := kz7 BK196.out 0
        have hfz215_1 := kz7 BK196.out 1
        go_wp2_with (first | ((with_reducible refine gate_callee (f:=14) rfl ?_); refine goesL_ (some 31) rfl rfl Try.func14 (by kernel_rfl) rfl #[.agg #[.string a0_0, .string a0_1], .agg #[.string a1_0, .string a1_1]] rfl (by (try simp only [ma7, mc7, mn7]); first | done | rfl | (simp only [ld7, lt_7]; rfl)) ?_; (with_reducible refine (span_Within.calls k a0_0 a0_1 a1_0 a1_1 true _ A23.out).mono ?_); rintro e w216 ⟨rfl, hb⟩; refine ⟨_, rfl, ?_⟩; have n0_ := Am7 (Rb7 (by (with_reducible repeat first | apply Ra7 | apply Rn7 | apply Rd7); exact HO201.out) hb); have n1_ := Am7 (kb7 (g:=gb195) (by (with_reducible repeat first | apply kn7 | apply kd7 | apply ka7); exact BK195.out) hb); have n2_ := Am7 (kb7 (g:=gb196) (by (with_reducible repeat first | apply kn7 | apply kd7 | apply ka7); exact BK196.out) hb); have n3_ := Am7 (kb7 (g:=gb197) (by (with_reducible repeat first | apply kn7 | apply kd7 | apply ka7); exact BK197.out) hb); have n4_ := Am7 (bp7 (by repeat (first | (with_reducible first | exact HB.out | apply ba7 | apply bn7 | apply bd7 | refine bs7 ?_ GE195.out | refine bs7 ?_ GE196.out | refine bs7 ?_ GE197.out) | exact HB.out)) hb); clear HO201; clear BK195; clear BK196; clear BK197; clear HB; have HO201 := n0_; have BK195 := n1_; have BK196 := n2_; have BK197 := n3_; have HB := n4_; clear n0_ n1_ n2_ n3_ n4_; (try clear hb); (try clear hb2); (try clear hk); (try clear hi); have hcz217_0 : w216.cell? ⟨gb195, 0, none⟩ = some (.string a0_0) := (kc7 BK195.out 0).trans rfl; have hcz217_1 : w216.cell? ⟨gb195, 1, none⟩ = some (.string a0_1) := (kc7 BK195.out 1).trans rfl; have hfz217_0 := kz7 BK195.out 0; have hfz217_1 := kz7 BK195.out 1) | (go_at_call 20; (with_reducible refine (span_Has.calls k a0_0 a0_1 a3 false _ A25.out).mono ?_); rintro e w218 ⟨rfl, hb⟩; have n0_ := Am7 (Rb7 (by (with_reducible repeat first | apply Ra7 | apply Rn7 | apply Rd7); exact HO201.out) hb); have n1_ := Am7 (kb7 (g:=gb195) (by (with_reducible repeat first | apply kn7 | apply kd7 | apply ka7); exact BK195.out) hb); have n2_ := Am7 (kb7 (g:=gb196) (by (with_reducible repeat first | apply kn7 | apply kd7 | apply ka7); exact BK196.out) hb); have n3_ := Am7 (kb7 (g:=gb197) (by (with_reducible repeat first | apply kn7 | apply kd7 | apply ka7); exact BK197.out) hb); have n4_ := Am7 (bp7 (by repeat (first | (with_reducible first | exact HB.out | apply ba7 | apply bn7 | apply bd7 | refine bs7 ?_ GE195.out | refine bs7 ?_ GE196.out | refine bs7 ?_ GE197.out) | exact HB.out)) hb); clear HO201; clear BK195; clear BK196; clear BK197; clear HB; have HO201 := n0_; have BK195 := n1_; have BK196 := n2_; have BK197 := n3_; have HB := n4_; clear n0_ n1_ n2_ n3_ n4_; (try clear hb); (try clear hb2); (try clear hk); (try clear hi); have hcz219_0 : w218.cell? ⟨gb196, 0, none⟩ = some (.string a1_0) := (kc7 BK196.out 0).trans rfl; have hcz219_1 : w218.cell? ⟨gb196, 1, none⟩ = some (.string a1_1) := (kc7 BK196.out 1).trans rfl; have hfz219_0 := kz7 BK196.out 0; have hfz219_1 := kz7 BK196.out 1; have hcz220_0 : w218.cell? ⟨gb197, 0, none⟩ = some (.string a2_0) := (kc7 BK197.out 0).trans rfl; have hcz220_1 : w218.cell? ⟨gb197, 1, none⟩ = some (.string a2_1) := (kc7 BK197.out 1).trans rfl; have hfz220_0 := kz7 BK197.out 0; have hfz220_1 := kz7 BK197.out 1) | (go_at_call 14; (with_reducible refine (span_Within.calls k a1_0 a1_1 a2_0 a2_1 false _ A137.out).mono ?_); rintro e w221 ⟨rfl, hb⟩; have n0_ := Am7 (Rb7 (by (with_reducible repeat first | apply Ra7 | apply Rn7 | apply Rd7); exact HO201.out) hb); have n1_ := Am7 (kb7 (g:=gb195) (by (with_reducible repeat first | apply kn7 | apply kd7 | apply ka7); exact BK195.out) hb); have n2_ := Am7 (kb7 (g:=gb196) (by (with_reducible repeat first | apply kn7 | apply kd7 | apply ka7); exact BK196.out) hb); have n3_ := Am7 (kb7 (g:=gb197) (by (with_reducible repeat first | apply kn7 | apply kd7 | apply ka7); exact BK197.out) hb); have n4_ := Am7 (bp7 (by repeat (first | (with_reducible first | exact HB.out | apply ba7 | apply bn7 | apply bd7 | refine bs7 ?_ GE195.out | refine bs7 ?_ GE196.out | refine bs7 ?_ GE197.out) | exact HB.out)) hb); clear HO201; clear BK195; clear BK196; clear BK197; clear HB; have HO201 := n0_; have BK195 := n1_; have BK196 := n2_; have BK197 := n3_; have HB := n4_; clear n0_ n1_ n2_ n3_ n4_; (try clear hb); (try clear hb2); (try clear hk); (try clear hi); have hcz222_0 : w221.cell? ⟨gb196, 0, none⟩ = some (.string a1_0) := (kc7 BK196.out 0).trans rfl; have hcz222_1 : w221.cell? ⟨gb196, 1, none⟩ = some (.string a1_1) := (kc7 BK196.out 1).trans rfl; have hfz222_0 := kz7 BK196.out 0; have hfz222_1 := kz7 BK196.out 1; have hcz223_0 : w221.cell? ⟨gb195, 0, none⟩ = some (.string a0_0) := (kc7 BK195.out 0).trans rfl; have hcz223_1 : w221.cell? ⟨gb195, 1, none⟩ = some (.string a0_1) := (kc7 BK195.out 1).trans rfl; have hfz223_0 := kz7 BK195.out 0; have hfz223_1 := kz7 BK195.out 1) | (go_at_call 14; (with_reducible refine (span_Within.calls k a1_0 a1_1 a0_0 a0_1 false _ A193.out).mono ?_); rintro e w224 ⟨rfl, hb⟩; have n0_ := Am7 (Rb7 (by (with_reducible repeat first | apply Ra7 | apply Rn7 | apply Rd7); exact HO201.out) hb); have n1_ := Am7 (kb7 (g:=gb195) (by (with_reducible repeat first | apply kn7 | apply kd7 | apply ka7); exact BK195.out) hb); have n2_ := Am7 (kb7 (g:=gb196) (by (with_reducible repeat first | apply kn7 | apply kd7 | apply ka7); exact BK196.out) hb); have n3_ := Am7 (kb7 (g:=gb197) (by (with_reducible repeat first | apply kn7 | apply kd7 | apply ka7); exact BK197.out) hb); have n4_ := Am7 (bp7 (by repeat (first | (with_reducible first | exact HB.out | apply ba7 | apply bn7 | apply bd7 | refine bs7 ?_ GE195.out | refine bs7 ?_ GE196.out | refine bs7 ?_ GE197.out) | exact HB.out)) hb); clear HO201; clear BK195; clear BK196; clear BK197; clear HB; have HO201 := n0_; have BK195 := n1_; have BK196 := n2_; have BK197 := n3_; have HB := n4_; clear n0_ n1_ n2_ n3_ n4_; (try clear hb); (try clear hb2); (try clear hk); (try clear hi)))
        go_meet
        case rel => exact ⟨_, (false), (by first | rfl | (simp; done) | (simp [*]; done)), H', ⟨by first | omega | exact Nat.le_refl _⟩, ⟨by (with_reducible repeat first | apply kn7 | apply kd7 | apply ka7); exact BK195.out⟩, ⟨by (with_reducible repeat first | apply kn7 | apply kd7 | apply ka7); exact BK196.out⟩, ⟨by (with_reducible repeat first | apply kn7 | apply kd7 | apply ka7); exact BK197.out⟩, ⟨by repeat (first | (with_reducible first | exact HB.out | apply ba7 | apply bn7 | apply bd7 | refine bs7 ?_ GE195.out | refine bs7 ?_ GE196.out | refine bs7 ?_ GE197.out) | exact HB.out)⟩⟩
    ·replace c24 := Bool.eq_false_iff.mpr c24
     subst c24
     rw [if_neg (show ¬ (false = true) by decide)] at H
     have H' := Am7 H
     clear H
     have hnb225 := NB195_196.out
     have hnc225 := NB196_195.out
     have hnb226 := NB195_197.out
     have hnc226 := NB197_195.out
     have hcz227_0 : w20.cell? ⟨gb195, 0, none⟩ = some (.string a0_0) := (kc7 BK195.out 0).trans rfl
     have hcz227_1 : w20.cell? ⟨gb195, 1, none⟩ = some (.string a0_1) := (kc7 BK195.out 1).trans rfl
     have hfz227_0 := kz7 BK195.out 0
     have hfz227_1 := kz7 BK195.out 1
     have hnb228 := NB196_197.out
     have hnc228 := NB197_196.out
     have hcz229_0 : w20.cell? ⟨gb196, 0, none⟩ = some (.string a1_0) := (kc7 BK196.out 0).trans rfl
     have hcz229_1 : w20.cell? ⟨gb196, 1, none⟩ = some (.string a1_1) := (kc7 BK196.out 1).trans rfl
     have hfz229_0 := kz7 BK196.out 0
     have hfz229_1 := kz7 BK196.out 1
     go_wp2_with (first | ((with_reducible refine gate_callee (f:=14) rfl ?_); refine goesL_ (some 31) rfl rfl Try.func14 (by kernel_rfl) rfl #[.agg #[.string a0_0, .string a0_1], .agg #[.string a1_0, .string a1_1]] rfl (by (try simp only [ma7, mc7, mn7]); first | done | rfl | (simp only [ld7, lt_7]; rfl)) ?_; (with_reducible refine (span_Within.calls k a0_0 a0_1 a1_0 a1_1 false _ A23.out).mono ?_); rintro e w230 ⟨rfl, hb⟩; refine ⟨_, rfl, ?_⟩; have n0_ := Am7 (Rb7 (by (with_reducible repeat first | apply Ra7 | apply Rn7 | apply Rd7); exact HO201.out) hb); have n1_ := Am7 (kb7 (g:=gb195) (by (with_reducible repeat first | apply kn7 | apply kd7 | apply ka7); exact BK195.out) hb); have n2_ := Am7 (kb7 (g:=gb196) (by (with_reducible repeat first | apply kn7 | apply kd7 | apply ka7); exact BK196.out) hb); have n3_ := Am7 (kb7 (g:=gb197) (by (with_reducible repeat first | apply kn7 | apply kd7 | apply ka7); exact BK197.out) hb); have n4_ := Am7 (bp7 (by repeat (first | (with_reducible first | exact HB.out | apply ba7 | apply bn7 | apply bd7 | refine bs7 ?_ GE195.out | refine bs7 ?_ GE196.out | refine bs7 ?_ GE197.out) | exact HB.out)) hb); clear HO201; clear BK195; clear BK196; clear BK197; clear HB; have HO201 := n0_; have BK195 := n1_; have BK196 := n2_; have BK197 := n3_; have HB := n4_; clear n0_ n1_ n2_ n3_ n4_; (try clear hb); (try clear hb2); (try clear hk); (try clear hi)))
     go_meet
     case rel => exact ⟨_, (false), (by first | rfl | (simp; done) | (simp [*]; done)), H', ⟨by first | omega | exact Nat.le_refl _⟩, ⟨by (with_reducible repeat first | apply kn7 | apply kd7 | apply ka7); exact BK195.out⟩, ⟨by (with_reducible repeat first | apply kn7 | apply kd7 | apply ka7); exact BK196.out⟩, ⟨by (with_reducible repeat first | apply kn7 | apply kd7 | apply ka7); exact BK197.out⟩, ⟨by repeat (first | (with_reducible first | exact HB.out | apply ba7 | apply bn7 | apply bd7 | refine bs7 ?_ GE195.out | refine bs7 ?_ GE196.out | refine bs7 ?_ GE197.out) | exact HB.out)⟩⟩
   case rest =>
    clear HC9
    try clear c1
    try clear c2
    try clear p2
    try clear c3
    try clear c5
    try clear c6
    try clear c7
    try clear c8
    try clear c9
    try clear c11
    try clear c12
    try clear c13
    try clear c14
    try clear c15
    try clear c16
    try clear c17
    try clear c18
    try clear c19
    try clear c21
    try clear c22
    try clear c24
    try clear c26
    try clear c28
    try clear c30
    try clear c32
    try clear c34
    try clear c35
    try clear c36
    try clear c38
    try clear c56
    try clear c57
    try clear c59
    try clear c75
    try clear c76
    try clear c78
    try clear c92
    try clear c93
    try clear c94
    try clear c96
    try clear c111
    try clear c112
    try clear c114
    try clear c127
    try clear c128
    try clear c130
    try clear c138
    try clear c140
    try clear c142
    try clear c143
    try clear c144
    try clear c146
    try clear c162
    try clear c163
    try clear c165
    try clear c179
    try clear c180
    try clear c182
    try clear c194
    try clear c195
    try clear c196
    try clear c198
    try clear c211
    try clear c212
    try clear c214
    try clear c225
    try clear c226
    try clear c228
    try clear hcz101_0
    try clear hcz101_1
    try clear hcz103_0
    try clear hcz103_1
    try clear hcz104_0
    try clear hcz104_1
    try clear hcz106_0
    try clear hcz106_1
    try clear hcz107_0
    try clear hcz107_1
    try clear hcz109_0
    try clear hcz109_1
    try clear hcz110_0
    try clear hcz110_1
    try clear hcz113_0
    try clear hcz113_1
    try clear hcz115_0
    try clear hcz115_1
    try clear hcz117_0
    try clear hcz117_1
    try clear hcz119_0
    try clear hcz119_1
    try clear hcz121_0
    try clear hcz121_1
    try clear hcz122_0
    try clear hcz122_1
    try clear hcz124_0
    try clear hcz124_1
    try clear hcz125_0
    try clear hcz125_1
    try clear hcz129_0
    try clear hcz129_1
    try clear hcz131_0
    try clear hcz131_1
    try clear hcz133_0
    try clear hcz133_1
    try clear hcz135_0
    try clear hcz135_1
    try clear hcz145_0
    try clear hcz145_1
    try clear hcz147_0
    try clear hcz147_1
    try clear hcz149_0
    try clear hcz149_1
    try clear hcz151_0
    try clear hcz151_1
    try clear hcz152_0
    try clear hcz152_1
    try clear hcz154_0
    try clear hcz154_1
    try clear hcz155_0
    try clear hcz155_1
    try clear hcz157_0
    try clear hcz157_1
    try clear hcz158_0
    try clear hcz158_1
    try clear hcz160_0
    try clear hcz160_1
    try clear hcz161_0
    try clear hcz161_1
    try clear hcz164_0
    try clear hcz164_1
    try clear hcz166_0
    try clear hcz166_1
    try clear hcz168_0
    try clear hcz168_1
    try clear hcz16_0
    try clear hcz16_1
    try clear hcz170_0
    try clear hcz170_1
    try clear hcz171_0
    try clear hcz171_1
    try clear hcz173_0
    try clear hcz173_1
    try clear hcz174_0
    try clear hcz174_1
    try clear hcz176_0
    try clear hcz176_1
    try clear hcz177_0
    try clear hcz177_1
    try clear hcz181_0
    try clear hcz181_1
    try clear hcz183_0
    try clear hcz183_1
    try clear hcz185_0
    try clear hcz185_1
    try clear hcz187_0
    try clear hcz187_1
    try clear hcz188_0
    try clear hcz188_1
    try clear hcz18_0
    try clear hcz18_1
    try clear hcz190_0
    try clear hcz190_1
    try clear hcz191_0
    try clear hcz191_1
    try clear hcz197_0
    try clear hcz197_1
    try clear hcz199_0
    try clear hcz199_1
    try clear hcz19_0
    try clear hcz19_1
    try clear hcz201_0
    try clear hcz201_1
    try clear hcz203_0
    try clear hcz203_1
    try clear hcz204_0
    try clear hcz204_1
    try clear hcz206_0
    try clear hcz206_1
    try clear hcz207_0
    try clear hcz207_1
    try clear hcz209_0
    try clear hcz209_1
    try clear hcz210_0
    try clear hcz210_1
    try clear hcz213_0
    try clear hcz213_1
    try clear hcz215_0
    try clear hcz215_1
    try clear hcz217_0
    try clear hcz217_1
    try clear hcz219_0
    try clear hcz219_1
    try clear hcz220_0
    try clear hcz220_1
    try clear hcz222_0
    try clear hcz222_1
    try clear hcz223_0
    try clear hcz223_1
    try clear hcz227_0
    try clear hcz227_1
    try clear hcz229_0
    try clear hcz229_1
    try clear hcz37_0
    try clear hcz37_1
    try clear hcz39_0
    try clear hcz39_1
    try clear hcz41_0
    try clear hcz41_1
    try clear hcz43_0
    try clear hcz43_1
    try clear hcz45_0
    try clear hcz45_1
    try clear hcz46_0
    try clear hcz46_1
    try clear hcz48_0
    try clear hcz48_1
    try clear hcz49_0
    try clear hcz49_1
    try clear hcz51_0
    try clear hcz51_1
    try clear hcz52_0
    try clear hcz52_1
    try clear hcz54_0
    try clear hcz54_1
    try clear hcz55_0
    try clear hcz55_1
    try clear hcz58_0
    try clear hcz58_1
    try clear hcz60_0
    try clear hcz60_1
    try clear hcz62_0
    try clear hcz62_1
    try clear hcz64_0
    try clear hcz64_1
    try clear hcz66_0
    try clear hcz66_1
    try clear hcz67_0
    try clear hcz67_1
    try clear hcz69_0
    try clear hcz69_1
    try clear hcz70_0
    try clear hcz70_1
    try clear hcz72_0
    try clear hcz72_1
    try clear hcz73_0
    try clear hcz73_1
    try clear hcz77_0
    try clear hcz77_1
    try clear hcz79_0
    try clear hcz79_1
    try clear hcz81_0
    try clear hcz81_1
    try clear hcz83_0
    try clear hcz83_1
    try clear hcz85_0
    try clear hcz85_1
    try clear hcz86_0
    try clear hcz86_1
    try clear hcz88_0
    try clear hcz88_1
    try clear hcz89_0
    try clear hcz89_1
    try clear hcz95_0
    try clear hcz95_1
    try clear hcz97_0
    try clear hcz97_1
    try clear hcz99_0
    try clear hcz99_1
    try clear hfz101_0
    try clear hfz101_1
    try clear hfz103_0
    try clear hfz103_1
    try clear hfz104_0
    try clear hfz104_1
    try clear hfz106_0
    try clear hfz106_1
    try clear hfz107_0
    try clear hfz107_1
    try clear hfz109_0
    try clear hfz109_1
    try clear hfz110_0
    try clear hfz110_1
    try clear hfz113_0
    try clear hfz113_1
    try clear hfz115_0
    try clear hfz115_1
    try clear hfz117_0
    try clear hfz117_1
    try clear hfz119_0
    try clear hfz119_1
    try clear hfz121_0
    try clear hfz121_1
    try clear hfz122_0
    try clear hfz122_1
    try clear hfz124_0
    try clear hfz124_1
    try clear hfz125_0
    try clear hfz125_1
    try clear hfz129_0
    try clear hfz129_1
    try clear hfz131_0
    try clear hfz131_1
    try clear hfz133_0
    try clear hfz133_1
    try clear hfz135_0
    try clear hfz135_1
    try clear hfz145_0
    try clear hfz145_1
    try clear hfz147_0
    try clear hfz147_1
    try clear hfz149_0
    try clear hfz149_1
    try clear hfz151_0
    try clear hfz151_1
    try clear hfz152_0
    try clear hfz152_1
    try clear hfz154_0
    try clear hfz154_1
    try clear hfz155_0
    try clear hfz155_1
    try clear hfz157_0
    try clear hfz157_1
    try clear hfz158_0
    try clear hfz158_1
    try clear hfz160_0
    try clear hfz160_1
    try clear hfz161_0
    try clear hfz161_1
    try clear hfz164_0
    try clear hfz164_1
    try clear hfz166_0
    try clear hfz166_1
    try clear hfz168_0
    try clear hfz168_1
    try clear hfz16_0
    try clear hfz16_1
    try clear hfz170_0
    try clear hfz170_1
    try clear hfz171_0
    try clear hfz171_1
    try clear hfz173_0
    try clear hfz173_1
    try clear hfz174_0
    try clear hfz174_1
    try clear hfz176_0
    try clear hfz176_1
    try clear hfz177_0
    try clear hfz177_1
    try clear hfz181_0
    try clear hfz181_1
    try clear hfz183_0
    try clear hfz183_1
    try clear hfz185_0
    try clear hfz185_1
    try clear hfz187_0
    try clear hfz187_1
    try clear hfz188_0
    try clear hfz188_1
    try clear hfz18_0
    try clear hfz18_1
    try clear hfz190_0
    try clear hfz190_1
    try clear hfz191_0
    try clear hfz191_1
    try clear hfz197_0
    try clear hfz197_1
    try clear hfz199_0
    try clear hfz199_1
    try clear hfz19_0
    try clear hfz19_1
    try clear hfz201_0
    try clear hfz201_1
    try clear hfz203_0
    try clear hfz203_1
    try clear hfz204_0
    try clear hfz204_1
    try clear hfz206_0
    try clear hfz206_1
    try clear hfz207_0
    try clear hfz207_1
    try clear hfz209_0
    try clear hfz209_1
    try clear hfz210_0
    try clear hfz210_1
    try clear hfz213_0
    try clear hfz213_1
    try clear hfz215_0
    try clear hfz215_1
    try clear hfz217_0
    try clear hfz217_1
    try clear hfz219_0
    try clear hfz219_1
    try clear hfz220_0
    try clear hfz220_1
    try clear hfz222_0
    try clear hfz222_1
    try clear hfz223_0
    try clear hfz223_1
    try clear hfz227_0
    try clear hfz227_1
    try clear hfz229_0
    try clear hfz229_1
    try clear hfz37_0
    try clear hfz37_1
    try clear hfz39_0
    try clear hfz39_1
    try clear hfz41_0
    try clear hfz41_1
    try clear hfz43_0
    try clear hfz43_1
    try clear hfz45_0
    try clear hfz45_1
    try clear hfz46_0
    try clear hfz46_1
    try clear hfz48_0
    try clear hfz48_1
    try clear hfz49_0
    try clear hfz49_1
    try clear hfz51_0
    try clear hfz51_1
    try clear hfz52_0
    try clear hfz52_1
    try clear hfz54_0
    try clear hfz54_1
    try clear hfz55_0
    try clear hfz55_1
    try clear hfz58_0
    try clear hfz58_1
    try clear hfz60_0
    try clear hfz60_1
    try clear hfz62_0
    try clear hfz62_1
    try clear hfz64_0
    try clear hfz64_1
    try clear hfz66_0
    try clear hfz66_1
    try clear hfz67_0
    try clear hfz67_1
    try clear hfz69_0
    try clear hfz69_1
    try clear hfz70_0
    try clear hfz70_1
    try clear hfz72_0
    try clear hfz72_1
    try clear hfz73_0
    try clear hfz73_1
    try clear hfz77_0
    try clear hfz77_1
    try clear hfz79_0
    try clear hfz79_1
    try clear hfz81_0
    try clear hfz81_1
    try clear hfz83_0
    try clear hfz83_1
    try clear hfz85_0
    try clear hfz85_1
    try clear hfz86_0
    try clear hfz86_1
    try clear hfz88_0
    try clear hfz88_1
    try clear hfz89_0
    try clear hfz89_1
    try clear hfz95_0
    try clear hfz95_1
    try clear hfz97_0
    try clear hfz97_1
    try clear hfz99_0
    try clear hfz99_1
    obtain ⟨kq, x63_8, rfl, HA, HJ8, BK195, BK196, BK197, HB⟩ := hcut
    cases kq with
    | zero => exact absurd HA.out (by simp [watershedlaw04_SpanWithin.j0])
    | succ kj8 =>
     have H := HA.out
     clear HA
     simp only [watershedlaw04_SpanWithin.j0] at H
     by_cases c231 : x63_8 = true
     ·subst c231
      rw [if_pos rfl] at H
      exact absurd H (by simp)
     ·replace c231 := Bool.eq_false_iff.mpr c231
      subst c231
      rw [if_neg (show ¬ (false = true) by decide)] at H
      replace H := Option.bind_eq_some_iff.mp H
      obtain ⟨⟨t214, t215, t216⟩, A2320, H⟩ := H
      try dsimp only at H
      have A232 := Am7 A2320
      clear A2320
      replace H := Option.bind_eq_some_iff.mp H
      obtain ⟨t218, A2330, H⟩ := H
      try dsimp only at H
      have A233 := Am7 A2330
      clear A2330
      replace H := Option.bind_eq_some_iff.mp H
      obtain ⟨t219, A2340, H⟩ := H
      try dsimp only at H
      have A234 := Am7 A2340
      clear A2340
      by_cases c235 : (t218 == t219) = true
      ·rw [if_pos c235] at H
       have c235b0 : (t218 == t219) = true := c235
       (try (have c235b1 : decide (t218 = t219) = true := by simpa using c235))
       (try (have c235b2 : (t218 == t219) = true := by simpa using c235))
       clear c235
       by_cases c236 : t216 = true
       ·subst c236
        rw [if_pos rfl] at H
        replace H := Option.bind_eq_some_iff.mp H
        obtain ⟨t220, A2370, H⟩ := H
        try dsimp only at H
        have A237 := Am7 A2370
        clear A2370
        by_cases c238 : t220 = true
        ·subst c238
         rw [if_pos rfl] at H
         replace H := Option.bind_eq_some_iff.mp H
         obtain ⟨t221, A2390, H⟩ := H
         try dsimp only at H
         have A239 := Am7 A2390
         clear A2390
         by_cases c240 : t221 = true
         ·subst c240
          rw [if_pos rfl] at H
          replace H := Option.bind_eq_some_iff.mp H
          obtain ⟨t222, A2410, H⟩ := H
          try dsimp only at H
          have A241 := Am7 A2410
          clear A2410
          by_cases c242 : t222 = true
          ·subst c242
           rw [if_pos rfl] at H
           replace H := Option.bind_eq_some_iff.mp H
           obtain ⟨⟨t223, t224⟩, A2430, H⟩ := H
           try dsimp only at H
           have A243 := Am7 A2430
           clear A2430
           replace H := Option.bind_eq_some_iff.mp H
           obtain ⟨t225, A2440, H⟩ := H
           try dsimp only at H
           have A244 := Am7 A2440
           clear A2440
           obtain rfl := Option.some.inj H
           have hnb245 := NB195_196.out
           have hnc245 := NB196_195.out
           have hnb246 := NB195_197.out
           have hnc246 := NB197_195.out
           have hcz247_0 : wc.cell? ⟨gb195, 0, none⟩ = some (.string a0_0) := (kc7 BK195.out 0).trans rfl
           have hcz247_1 : wc.cell? ⟨gb195, 1, none⟩ = some (.string a0_1) := (kc7 BK195.out 1).trans rfl
           have hfz247_0 := kz7 BK195.out 0
           have hfz247_1 := kz7 BK195.out 1
           have hnb248 := NB196_197.out
           have hnc248 := NB197_196.out
           have hcz249_0 : wc.cell? ⟨gb196, 0, none⟩ = some (.string a1_0) := (kc7 BK196.out 0).trans rfl
           have hcz249_1 : wc.cell? ⟨gb196, 1, none⟩ = some (.string a1_1) := (kc7 BK196.out 1).trans rfl
           have hfz249_0 := kz7 BK196.out 0
           have hfz249_1 := kz7 BK196.out 1
           try go_wp2_with (first | ((with_reducible refine gate_callee (f:=12) rfl ?_); refine goesL_ (some 67) rfl rfl Try.func12 (by kernel_rfl) rfl #[.agg #[.string a0_0, .string a0_1], .agg #[.string a1_0, .string a1_1]] rfl (by (try simp only [ma7, mc7, mn7]); first | done | rfl | (simp only [ld7, lt_7]; rfl)) ?_; (with_reducible refine (span_Meet.calls kj8 a0_0 a0_1 a1_0 a1_1 t214 t215 true _ A232.out).mono ?_); rintro e w250 ⟨rfl, hb⟩; refine ⟨_, rfl, ?_⟩; have n0_ := Am7 (kb7 (g:=gb195) (by (with_reducible repeat first | apply kn7 | apply kd7 | apply ka7); exact BK195.out) hb); have n1_ := Am7 (kb7 (g:=gb196) (by (with_reducible repeat first | apply kn7 | apply kd7 | apply ka7); exact BK196.out) hb); have n2_ := Am7 (kb7 (g:=gb197) (by (with_reducible repeat first | apply kn7 | apply kd7 | apply ka7); exact BK197.out) hb); have n3_ := Am7 (bp7 (by repeat (first | (with_reducible first | exact HB.out | apply ba7 | apply bn7 | apply bd7 | refine bs7 ?_ GE195.out | refine bs7 ?_ GE196.out | refine bs7 ?_ GE197.out) | exact HB.out)) hb); clear BK195; clear BK196; clear BK197; clear HB; have BK195 := n0_; have BK196 := n1_; have BK197 := n2_; have HB := n3_; clear n0_ n1_ n2_ n3_; (try clear hb); (try clear hb2); (try clear hk); (try clear hi)) | ((with_reducible refine gate_dst (N:=9) rfl ?_); refine box_event ?hg (N:=9) ?hd (cs:=#[.string (⟨#[]⟩ : ByteArray), .string (⟨#[]⟩ : ByteArray)]) (t:=26) ?hr ?_; (case hd => rfl); (case hg => rfl); (case hr => first | (go_simp; done) | (go_simp; rfl)); intro gb217 hg w251 hbox hb; have n0_ := Am7 (kb7 (g:=gb195) (by (with_reducible repeat first | apply kn7 | apply kd7 | apply ka7); exact BK195.out) hb); have n1_ := Am7 (kb7 (g:=gb196) (by (with_reducible repeat first | apply kn7 | apply kd7 | apply ka7); exact BK196.out) hb); have n2_ := Am7 (kb7 (g:=gb197) (by (with_reducible repeat first | apply kn7 | apply kd7 | apply ka7); exact BK197.out) hb); have n3_ := Am7 (bp7 (by repeat (first | (with_reducible first | exact HB.out | apply ba7 | apply bn7 | apply bd7 | refine bs7 ?_ GE195.out | refine bs7 ?_ GE196.out | refine bs7 ?_ GE197.out) | exact HB.out)) hb); have n4_ := Am7 (hbox); have n5_ := Am7 ((by rw [hg]; exact (bz7 (by repeat (first | (with_reducible first | exact HB.out | apply ba7 | apply bn7 | apply bd7 | refine bs7 ?_ GE195.out | refine bs7 ?_ GE196.out | refine bs7 ?_ GE197.out) | exact HB.out))) : w.heap.size ≤ gb217)); have n6_ := Am7 ((by rw [hg]; exact (bz7 (by repeat (first | (with_reducible first | exact HB.out | apply ba7 | apply bn7 | apply bd7 | refine bs7 ?_ GE195.out | refine bs7 ?_ GE196.out | refine bs7 ?_ GE197.out) | exact HB.out))) : w.heap.size ≤ gb217)); have n7_ := Am7 ((by rw [hg]; exact Nat.ne_of_lt (blk_lt (g:=gb195) (by (with_reducible repeat first | apply kn7 | apply kd7 | apply ka7); exact BK195.out)) : gb195 ≠ gb217)); have n8_ := Am7 ((by rw [hg]; exact Nat.ne_of_gt (blk_lt (g:=gb195) (by (with_reducible repeat first | apply kn7 | apply kd7 | apply ka7); exact BK195.out)) : gb217 ≠ gb195)); have n9_ := Am7 ((by rw [hg]; exact Nat.ne_of_lt (blk_lt (g:=gb196) (by (with_reducible repeat first | apply kn7 | apply kd7 | apply ka7); exact BK196.out)) : gb196 ≠ gb217)); have n10_ := Am7 ((by rw [hg]; exact Nat.ne_of_gt (blk_lt (g:=gb196) (by (with_reducible repeat first | apply kn7 | apply kd7 | apply ka7); exact BK196.out)) : gb217 ≠ gb196)); have n11_ := Am7 ((by rw [hg]; exact Nat.ne_of_lt (blk_lt (g:=gb197) (by (with_reducible repeat first | apply kn7 | apply kd7 | apply ka7); exact BK197.out)) : gb197 ≠ gb217)); have n12_ := Am7 ((by rw [hg]; exact Nat.ne_of_gt (blk_lt (g:=gb197) (by (with_reducible repeat first | apply kn7 | apply kd7 | apply ka7); exact BK197.out)) : gb217 ≠ gb197)); clear BK195; clear BK196; clear BK197; clear HB; have BK195 := n0_; have BK196 := n1_; have BK197 := n2_; have HB := n3_; have BK217 := n4_; have GW217 := n5_; have GE217 := n6_; have NB195_217 := n7_; have NB217_195 := n8_; have NB196_217 := n9_; have NB217_196 := n10_; have NB197_217 := n11_; have NB217_197 := n12_; clear n0_ n1_ n2_ n3_ n4_ n5_ n6_ n7_ n8_ n9_ n10_ n11_ n12_; clear hb hbox hg; have hnb252 := NB217_195.out; have hnc252 := NB195_217.out; have hnb253 := NB217_196.out; have hnc253 := NB196_217.out; have hnb254 := NB217_197.out; have hnc254 := NB197_217.out; have hcz255_0 : w251.cell? ⟨gb217, 0, none⟩ = some (.string (⟨#[]⟩ : ByteArray)) := (kc7 BK217.out 0).trans rfl; have hcz255_1 : w251.cell? ⟨gb217, 1, none⟩ = some (.string (⟨#[]⟩ : ByteArray)) := (kc7 BK217.out 1).trans rfl; have hfz255_0 := kz7 BK217.out 0; have hfz255_1 := kz7 BK217.out 1))
           have n0_ : Aside0 (((w251.setCell ⟨gb217, 0, none⟩ (.string t214)).setCell ⟨gb217, 1, none⟩ (.string t215)).heap[gb195]? = some (.cells #[.string a0_0, .string a0_1] 26 (0, 0))) := ⟨by (with_reducible repeat first | apply kn7 | apply kd7 | apply ka7); refine kf7 ?_ NB195_217.out _; (with_reducible repeat first | apply kn7 | apply kd7 | apply ka7); refine kf7 ?_ NB195_217.out _; (with_reducible repeat first | apply kn7 | apply kd7 | apply ka7); exact BK195.out⟩
           have n1_ : Aside0 (((w251.setCell ⟨gb217, 0, none⟩ (.string t214)).setCell ⟨gb217, 1, none⟩ (.string t215)).heap[gb196]? = some (.cells #[.string a1_0, .string a1_1] 26 (0, 0))) := ⟨by (with_reducible repeat first | apply kn7 | apply kd7 | apply ka7); refine kf7 ?_ NB196_217.out _; (with_reducible repeat first | apply kn7 | apply kd7 | apply ka7); refine kf7 ?_ NB196_217.out _; (with_reducible repeat first | apply kn7 | apply kd7 | apply ka7); exact BK196.out⟩
           have n2_ : Aside0 (((w251.setCell ⟨gb217, 0, none⟩ (.string t214)).setCell ⟨gb217, 1, none⟩ (.string t215)).heap[gb197]? = some (.cells #[.string a2_0, .string a2_1] 26 (0, 0))) := ⟨by (with_reducible repeat first | apply kn7 | apply kd7 | apply ka7); refine kf7 ?_ NB197_217.out _; (with_reducible repeat first | apply kn7 | apply kd7 | apply ka7); refine kf7 ?_ NB197_217.out _; (with_reducible repeat first | apply kn7 | apply kd7 | apply ka7); exact BK197.out⟩
           have n3_ : Aside0 (((w251.setCell ⟨gb217, 0, none⟩ (.string t214)).setCell ⟨gb217, 1, none⟩ (.string t215)).heap[gb217]? = some (.cells #[.string t214, .string t215] 26 (0, 0))) := ⟨by (with_reducible repeat first | apply kn7 | apply kd7 | apply ka7); refine blk_put (cs:=#[.string t214, .string (⟨#[]⟩ : ByteArray)]) ?_ 1 _ rfl; (with_reducible repeat first | apply kn7 | apply kd7 | apply ka7); refine blk_put (cs:=#[.string (⟨#[]⟩ : ByteArray), .string (⟨#[]⟩ : ByteArray)]) ?_ 0 _ rfl; (with_reducible repeat first | apply kn7 | apply kd7 | apply ka7); exact BK217.out⟩
           have n4_ : Aside0 (Below w.heap.size w ((w251.setCell ⟨gb217, 0, none⟩ (.string t214)).setCell ⟨gb217, 1, none⟩ (.string t215))) := ⟨by repeat (first | (with_reducible first | exact HB.out | apply ba7 | apply bn7 | apply bd7 | refine bs7 ?_ GE195.out | refine bs7 ?_ GE196.out | refine bs7 ?_ GE197.out | refine bs7 ?_ GE217.out) | exact HB.out)⟩
           (try clear BK195)
           (try clear BK196)
           (try clear BK197)
           (try clear BK217)
           (try clear HB)
           generalize ((w251.setCell ⟨gb217, 0, none⟩ (.string t214)).setCell ⟨gb217, 1, none⟩ (.string t215)) = w256 at n0_ n1_ n2_ n3_ n4_ ⊢
           have BK195 := n0_
           have BK196 := n1_
           have BK197 := n2_
           have BK217 := n3_
           have HB := n4_
           clear n0_ n1_ n2_ n3_ n4_
           have n0_ := Am7 (kd7 BK195.out)
           have n1_ := Am7 (kd7 BK196.out)
           have n2_ := Am7 (kd7 BK197.out)
           have n3_ := Am7 (kd7 BK217.out)
           have n4_ := Am7 (bd7 HB.out)
           clear BK195
           clear BK196
           clear BK197
           clear BK217
           clear HB
           have BK195 := n0_
           have BK196 := n1_
           have BK197 := n2_
           have BK217 := n3_
           have HB := n4_
           clear n0_ n1_ n2_ n3_ n4_
           refine start_ (n:=31) (S:=fun w' => w'.cell? ⟨gb195, 0, none⟩ = some (.string a0_0) ∧ w'.cell? ⟨gb195, 1, none⟩ = some (.string a0_1) ∧ w'.cell? ⟨gb217, 0, none⟩ = some (.string t214) ∧ w'.cell? ⟨gb217, 1, none⟩ = some (.string t215) ∧ w'.cell? ⟨gb196, 0, none⟩ = some (.string a1_0) ∧ w'.cell? ⟨gb196, 1, none⟩ = some (.string a1_1)) (ds:=[]) #[false, false, false, false, false, false, false, false, false, false, false, false, false, false, false, false, false, false, false, false, false, false, false, false, false, false, false, false, false, false, false] (by kernel_rfl) rfl rfl ⟨(kc7 BK195.out 0).trans rfl, (kc7 BK195.out 1).trans rfl, (kc7 BK217.out 0).trans rfl, (kc7 BK217.out 1).trans rfl, (kc7 BK196.out 0).trans rfl, (kc7 BK196.out 1).trans rfl⟩ (fun hHeld => ?_); refine with_tabW watershedlaw04_SpanWithin.tab8 watershedlaw04_SpanWithin.bits8 (fun HT_ HW_ => ?_)
           generalize w256.drew = w257 at BK195 BK196 BK197 BK217 HB hHeld ⊢
           refine take_ (i:=0) (N:=some 70) (v:=?_) (a' := ?_) #[true, false, false, false, false, false, false, false, false, false, false, false, false, false, false, false, false, false, false, false, false, false, false, false, false, false, false, false, false, false, false] rfl rfl (take_ofW HT_.out HW_.out (by kernel_rfl)) (fun _ _ _ h => h) (Or.inl ⟨by rfl, ?_⟩) hHeld ?_ ?_
           rotate_left
           ·rintro w' ⟨s0, s1, s2, s3, s4, s5⟩
            go_simp
            with_reducible rfl
           rotate_left
           ·simp only [Act.put, sa7, sz7, ss7, i64_w, i32_w]
            rfl
           refine take_ (i:=1) (N:=some 71) (v:=?_) (a' := ?_) #[true, true, false, false, false, false, false, false, false, false, false, false, false, false, false, false, false, false, false, false, false, false, false, false, false, false, false, false, false, false, false] rfl rfl (take_ofW HT_.out HW_.out (by kernel_rfl)) (fun _ _ _ h => h) (Or.inl ⟨by rfl, ?_⟩) hHeld ?_ ?_
           rotate_left
           ·rintro w' ⟨s0, s1, s2, s3, s4, s5⟩
            go_simp
            with_reducible rfl
           rotate_left
           ·simp only [Act.put, sa7, sz7, ss7, i64_w, i32_w]
            rfl
           refine take_ (i:=3) (N:=some 73) (v:=?_) (a' := ?_) #[true, true, false, true, false, false, false, false, false, false, false, false, false, false, false, false, false, false, false, false, false, false, false, false, false, false, false, false, false, false, false] rfl rfl (take_ofW HT_.out HW_.out (by kernel_rfl)) (fun _ _ _ h => h) (Or.inl ⟨by rfl, ?_⟩) hHeld ?_ ?_
           rotate_left
           ·rintro w' ⟨s0, s1, s2, s3, s4, s5⟩
            go_simp
            with_reducible rfl
           rotate_left
           ·simp only [Act.put, sa7, sz7, ss7, i64_w, i32_w]
            rfl
           refine one_ (i:=2) (N:=some 72) #[true, true, true, true, false, false, false, false, false, false, false, false, false, false, false, false, false, false, false, false, false, false, false, false, false, false, false, false, false, false, false] rfl rfl (one_of HT_.out (by kernel_rfl)) (by decide) (fun K hK => ?_)
           refine goes_ Try.func14 (by kernel_rfl) rfl #[.agg #[.string a0_0, .string a0_1], .agg #[.string a0_0, .string a0_1]] (by rfl) rfl rfl (by (try simp only [ma7, mc7, mn7]); first | done | rfl | (simp only [ld7, lt_7]; rfl)) ?_
           with_reducible refine (span_Within.calls kj8 a0_0 a0_1 a0_0 a0_1 t218 _ A233.out).mono ?_
           rintro e w258 ⟨rfl, hb⟩
           refine ⟨_, rfl, ?_⟩
           have n0_ := Am7 (kb7 (g:=gb195) (by (with_reducible repeat first | apply kn7 | apply kd7 | apply ka7); exact BK195.out) hb)
           have n1_ := Am7 (kb7 (g:=gb196) (by (with_reducible repeat first | apply kn7 | apply kd7 | apply ka7); exact BK196.out) hb)
           have n2_ := Am7 (kb7 (g:=gb197) (by (with_reducible repeat first | apply kn7 | apply kd7 | apply ka7); exact BK197.out) hb)
           have n3_ := Am7 (kb7 (g:=gb217) (by (with_reducible repeat first | apply kn7 | apply kd7 | apply ka7); exact BK217.out) hb)
           have n4_ := Am7 (bp7 (by repeat (first | (with_reducible first | exact HB.out | apply ba7 | apply bn7 | apply bd7 | refine bs7 ?_ GE195.out | refine bs7 ?_ GE196.out | refine bs7 ?_ GE197.out | refine bs7 ?_ GE217.out) | exact HB.out)) hb)
           clear BK195
           clear BK196
           clear BK197
           clear BK217
           clear HB
           have BK195 := n0_
           have BK196 := n1_
           have BK197 := n2_
           have BK217 := n3_
           have HB := n4_
           clear n0_ n1_ n2_ n3_ n4_
           (try clear hb)
           (try clear hb2)
           (try clear hk)
           (try clear hi)
           refine hK.out _ _ ⟨(kc7 BK195.out 0).trans rfl, (kc7 BK195.out 1).trans rfl, (kc7 BK217.out 0).trans rfl, (kc7 BK217.out 1).trans rfl, (kc7 BK196.out 0).trans rfl, (kc7 BK196.out 1).trans rfl⟩ (fun hHeld => ?_)
           clear hK K
           refine norm_ (a' := ?_) ?_ ?_
           rotate_left
           ·show Act.put _ (some 72) _ = _
            simp only [Act.put, sa7, sz7, ss7, i64_w, i32_w]
            rfl
           refine one_ (i:=4) (N:=some 74) #[true, true, true, true, true, false, false, false, false, false, false, false, false, false, false, false, false, false, false, false, false, false, false, false, false, false, false, false, false, false, false] rfl rfl (one_of HT_.out (by kernel_rfl)) (by decide) (fun K hK => ?_)
           refine goes_ Try.func16 (by kernel_rfl) rfl #[.agg #[.string a0_0, .string a0_1]] (by rfl) rfl rfl (by (try simp only [ma7, mc7, mn7]); first | done | rfl | (simp only [ld7, lt_7]; rfl)) ?_
           with_reducible refine (span_Right.calls kj8 a0_0 a0_1 t219 _ A234.out).mono ?_
           rintro e w259 ⟨rfl, hb⟩
           refine ⟨_, rfl, ?_⟩
           have n0_ := Am7 (kb7 (g:=gb195) (by (with_reducible repeat first | apply kn7 | apply kd7 | apply ka7); exact BK195.out) hb)
           have n1_ := Am7 (kb7 (g:=gb196) (by (with_reducible repeat first | apply kn7 | apply kd7 | apply ka7); exact BK196.out) hb)
           have n2_ := Am7 (kb7 (g:=gb197) (by (with_reducible repeat first | apply kn7 | apply kd7 | apply ka7); exact BK197.out) hb)
           have n3_ := Am7 (kb7 (g:=gb217) (by (with_reducible repeat first | apply kn7 | apply kd7 | apply ka7); exact BK217.out) hb)
           have n4_ := Am7 (bp7 (by repeat (first | (with_reducible first | exact HB.out | apply ba7 | apply bn7 | apply bd7 | refine bs7 ?_ GE195.out | refine bs7 ?_ GE196.out | refine bs7 ?_ GE197.out | refine bs7 ?_ GE217.out) | exact HB.out)) hb)
           clear BK195
           clear BK196
           clear BK197
           clear BK217
           clear HB
           have BK195 := n0_
           have BK196 := n1_
           have BK197 := n2_
           have BK217 := n3_
           have HB := n4_
           clear n0_ n1_ n2_ n3_ n4_
           (try clear hb)
           (try clear hb2)
           (try clear hk)
           (try clear hi)
           refine hK.out _ _ ⟨(kc7 BK195.out 0).trans rfl, (kc7 BK195.out 1).trans rfl, (kc7 BK217.out 0).trans rfl, (kc7 BK217.out 1).trans rfl, (kc7 BK196.out 0).trans rfl, (kc7 BK196.out 1).trans rfl⟩ (fun hHeld => ?_)
           clear hK K
           refine norm_ (a' := ?_) ?_ ?_
           rotate_left
           ·show Act.put _ (some 74) _ = _
            simp only [Act.put, sa7, sz7, ss7, i64_w, i32_w]
            rfl
           refine pure_ (i:=5) (N:=some 75) (v:=?_) (a' := ?_) #[true, true, true, true, true, true, false, false, false, false, false, false, false, false, false, false, false, false, false, false, false, false, false, false, false, false, false, false, false, false, false] rfl rfl (any_of HT_.out (by kernel_rfl)) (fun _ _ _ h => h) (Or.inl ⟨by rfl, ?_⟩) ?_ ?_
           rotate_left
           ·intro w'
            go_simp
            with_reducible rfl
           rotate_left
           ·simp only [Act.put, sa7, sz7, ss7, i64_w, i32_w]
            rfl
           refine pure_ (i:=6) (N:=some 76) (v:=?_) (a' := ?_) #[true, true, true, true, true, true, true, false, false, false, false, false, false, false, false, false, false, false, false, false, false, false, false, false, false, false, false, false, false, false, false] rfl rfl (any_of HT_.out (by kernel_rfl)) (fun _ _ _ h => h) (Or.inl ⟨by rfl, ?_⟩) ?_ ?_
           rotate_left
           ·intro w'
            go_simp
            with_reducible rfl
           rotate_left
           ·simp only [Act.put, sa7, sz7, ss7, i64_w, i32_w]
            rfl
           refine pure_ (i:=7) (N:=some 77) (v:=?_) (a' := ?_) #[true, true, true, true, true, true, true, true, false, false, false, false, false, false, false, false, false, false, false, false, false, false, false, false, false, false, false, false, false, false, false] rfl rfl (any_of HT_.out (by kernel_rfl)) (fun _ _ _ h => h) (Or.inl ⟨by rfl, ?_⟩) ?_ ?_
           rotate_left
           ·intro w'
            go_simp
            with_reducible rfl
           rotate_left
           ·simp only [Act.put, sa7, sz7, ss7, i64_w, i32_w]
            rfl
           refine pure_ (i:=8) (N:=some 78) (v:=?_) (a' := ?_) #[true, true, true, true, true, true, true, true, true, false, false, false, false, false, false, false, false, false, false, false, false, false, false, false, false, false, false, false, false, false, false] rfl rfl (any_of HT_.out (by kernel_rfl)) (fun _ _ _ h => h) (Or.inl ⟨by rfl, ?_⟩) ?_ ?_
           rotate_left
           ·intro w'
            go_simp
            with_reducible rfl
           rotate_left
           ·simp only [Act.put, sa7, sz7, ss7, i64_w, i32_w]
            rfl
           refine pure_ (i:=9) (N:=some 79) (v:=?_) (a' := ?_) #[true, true, true, true, true, true, true, true, true, true, false, false, false, false, false, false, false, false, false, false, false, false, false, false, false, false, false, false, false, false, false] rfl rfl (any_of HT_.out (by kernel_rfl)) (fun _ _ _ h => h) (Or.inl ⟨by rfl, ?_⟩) ?_ ?_
           rotate_left
           ·intro w'
            go_simp
            with_reducible rfl
           rotate_left
           ·simp only [Act.put, sa7, sz7, ss7, i64_w, i32_w]
            rfl
           refine take_ (i:=10) (N:=some 80) (v:=?_) (a' := ?_) #[true, true, true, true, true, true, true, true, true, true, true, false, false, false, false, false, false, false, false, false, false, false, false, false, false, false, false, false, false, false, false] rfl rfl (take_ofW HT_.out HW_.out (by kernel_rfl)) (fun _ _ _ h => h) (Or.inl ⟨by rfl, ?_⟩) hHeld ?_ ?_
           rotate_left
           ·rintro w' ⟨s0, s1, s2, s3, s4, s5⟩
            go_simp
            with_reducible rfl
           rotate_left
           ·simp only [Act.put, sa7, sz7, ss7, i64_w, i32_w]
            rfl
           refine take_ (i:=11) (N:=some 81) (v:=?_) (a' := ?_) #[true, true, true, true, true, true, true, true, true, true, true, true, false, false, false, false, false, false, false, false, false, false, false, false, false, false, false, false, false, false, false] rfl rfl (take_ofW HT_.out HW_.out (by kernel_rfl)) (fun _ _ _ h => h) (Or.inl ⟨by rfl, ?_⟩) hHeld ?_ ?_
           rotate_left
           ·rintro w' ⟨s0, s1, s2, s3, s4, s5⟩
            go_simp
            with_reducible rfl
           rotate_left
           ·simp only [Act.put, sa7, sz7, ss7, i64_w, i32_w]
            rfl
           refine one_ (i:=12) (N:=some 82) #[true, true, true, true, true, true, true, true, true, true, true, true, true, false, false, false, false, false, false, false, false, false, false, false, false, false, false, false, false, false, false] rfl rfl (one_of HT_.out (by kernel_rfl)) (by decide) (fun K hK => ?_)
           refine goes_ Try.func14 (by kernel_rfl) rfl #[.agg #[.string t214, .string t215], .agg #[.string a0_0, .string a0_1]] (by rfl) rfl rfl (by (try simp only [ma7, mc7, mn7]); first | done | rfl | (simp only [ld7, lt_7]; rfl)) ?_
           with_reducible refine (span_Within.calls kj8 t214 t215 a0_0 a0_1 true _ A237.out).mono ?_
           rintro e w260 ⟨rfl, hb⟩
           refine ⟨_, rfl, ?_⟩
           have n0_ := Am7 (kb7 (g:=gb195) (by (with_reducible repeat first | apply kn7 | apply kd7 | apply ka7); exact BK195.out) hb)
           have n1_ := Am7 (kb7 (g:=gb196) (by (with_reducible repeat first | apply kn7 | apply kd7 | apply ka7); exact BK196.out) hb)
           have n2_ := Am7 (kb7 (g:=gb197) (by (with_reducible repeat first | apply kn7 | apply kd7 | apply ka7); exact BK197.out) hb)
           have n3_ := Am7 (kb7 (g:=gb217) (by (with_reducible repeat first | apply kn7 | apply kd7 | apply ka7); exact BK217.out) hb)
           have n4_ := Am7 (bp7 (by repeat (first | (with_reducible first | exact HB.out | apply ba7 | apply bn7 | apply bd7 | refine bs7 ?_ GE195.out | refine bs7 ?_ GE196.out | refine bs7 ?_ GE197.out | refine bs7 ?_ GE217.out) | exact HB.out)) hb)
           clear BK195
           clear BK196
           clear BK197
           clear BK217
           clear HB
           have BK195 := n0_
           have BK196 := n1_
           have BK197 := n2_
           have BK217 := n3_
           have HB := n4_
           clear n0_ n1_ n2_ n3_ n4_
           (try clear hb)
           (try clear hb2)
           (try clear hk)
           (try clear hi)
           refine hK.out _ _ ⟨(kc7 BK195.out 0).trans rfl, (kc7 BK195.out 1).trans rfl, (kc7 BK217.out 0).trans rfl, (kc7 BK217.out 1).trans rfl, (kc7 BK196.out 0).trans rfl, (kc7 BK196.out 1).trans rfl⟩ (fun hHeld => ?_)
           clear hK K
           refine norm_ (a' := ?_) ?_ ?_
           rotate_left
           ·show Act.put _ (some 82) _ = _
            simp only [Act.put, sa7, sz7, ss7, i64_w, i32_w]
            rfl
           refine pure_ (i:=13) (N:=some 83) (v:=?_) (a' := ?_) #[true, true, true, true, true, true, true, true, true, true, true, true, true, true, false, false, false, false, false, false, false, false, false, false, false, false, false, false, false, false, false] rfl rfl (any_of HT_.out (by kernel_rfl)) (fun _ _ _ h => h) (Or.inl ⟨by rfl, ?_⟩) ?_ ?_
           rotate_left
           ·intro w'
            go_simp
            with_reducible rfl
           rotate_left
           ·simp only [Act.put, sa7, sz7, ss7, i64_w, i32_w]
            rfl
           refine take_ (i:=14) (N:=some 84) (v:=?_) (a' := ?_) #[true, true, true, true, true, true, true, true, true, true, true, true, true, true, true, false, false, false, false, false, false, false, false, false, false, false, false, false, false, false, false] rfl rfl (take_ofW HT_.out HW_.out (by kernel_rfl)) (fun _ _ _ h => h) (Or.inl ⟨by rfl, ?_⟩) hHeld ?_ ?_
           rotate_left
           ·rintro w' ⟨s0, s1, s2, s3, s4, s5⟩
            go_simp
            with_reducible rfl
           rotate_left
           ·simp only [Act.put, sa7, sz7, ss7, i64_w, i32_w]
            rfl
           refine take_ (i:=15) (N:=some 85) (v:=?_) (a' := ?_) #[true, true, true, true, true, true, true, true, true, true, true, true, true, true, true, true, false, false, false, false, false, false, false, false, false, false, false, false, false, false, false] rfl rfl (take_ofW HT_.out HW_.out (by kernel_rfl)) (fun _ _ _ h => h) (Or.inl ⟨by rfl, ?_⟩) hHeld ?_ ?_
           rotate_left
           ·rintro w' ⟨s0, s1, s2, s3, s4, s5⟩
            go_simp
            with_reducible rfl
           rotate_left
           ·simp only [Act.put, sa7, sz7, ss7, i64_w, i32_w]
            rfl
           refine one_ (i:=16) (N:=some 86) #[true, true, true, true, true, true, true, true, true, true, true, true, true, true, true, true, true, false, false, false, false, false, false, false, false, false, false, false, false, false, false] rfl rfl (one_of HT_.out (by kernel_rfl)) (by decide) (fun K hK => ?_)
           refine goes_ Try.func14 (by kernel_rfl) rfl #[.agg #[.string t214, .string t215], .agg #[.string a1_0, .string a1_1]] (by rfl) rfl rfl (by (try simp only [ma7, mc7, mn7]); first | done | rfl | (simp only [ld7, lt_7]; rfl)) ?_
           with_reducible refine (span_Within.calls kj8 t214 t215 a1_0 a1_1 true _ A239.out).mono ?_
           rintro e w261 ⟨rfl, hb⟩
           refine ⟨_, rfl, ?_⟩
           have n0_ := Am7 (kb7 (g:=gb195) (by (with_reducible repeat first | apply kn7 | apply kd7 | apply ka7); exact BK195.out) hb)
           have n1_ := Am7 (kb7 (g:=gb196) (by (with_reducible repeat first | apply kn7 | apply kd7 | apply ka7); exact BK196.out) hb)
           have n2_ := Am7 (kb7 (g:=gb197) (by (with_reducible repeat first | apply kn7 | apply kd7 | apply ka7); exact BK197.out) hb)
           have n3_ := Am7 (kb7 (g:=gb217) (by (with_reducible repeat first | apply kn7 | apply kd7 | apply ka7); exact BK217.out) hb)
           have n4_ := Am7 (bp7 (by repeat (first | (with_reducible first | exact HB.out | apply ba7 | apply bn7 | apply bd7 | refine bs7 ?_ GE195.out | refine bs7 ?_ GE196.out | refine bs7 ?_ GE197.out | refine bs7 ?_ GE217.out) | exact HB.out)) hb)
           clear BK195
           clear BK196
           clear BK197
           clear BK217
           clear HB
           have BK195 := n0_
           have BK196 := n1_
           have BK197 := n2_
           have BK217 := n3_
           have HB := n4_
           clear n0_ n1_ n2_ n3_ n4_
           (try clear hb)
           (try clear hb2)
           (try clear hk)
           (try clear hi)
           refine hK.out _ _ ⟨(kc7 BK195.out 0).trans rfl, (kc7 BK195.out 1).trans rfl, (kc7 BK217.out 0).trans rfl, (kc7 BK217.out 1).trans rfl, (kc7 BK196.out 0).trans rfl, (kc7 BK196.out 1).trans rfl⟩ (fun hHeld => ?_)
           clear hK K
           refine norm_ (a' := ?_) ?_ ?_
           rotate_left
           ·show Act.put _ (some 86) _ = _
            simp only [Act.put, sa7, sz7, ss7, i64_w, i32_w]
            rfl
           refine pure_ (i:=17) (N:=some 87) (v:=?_) (a' := ?_) #[true, true, true, true, true, true, true, true, true, true, true, true, true, true, true, true, true, true, false, false, false, false, false, false, false, false, false, false, false, false, false] rfl rfl (any_of HT_.out (by kernel_rfl)) (fun _ _ _ h => h) (Or.inl ⟨by rfl, ?_⟩) ?_ ?_
           rotate_left
           ·intro w'
            go_simp
            with_reducible rfl
           rotate_left
           ·simp only [Act.put, sa7, sz7, ss7, i64_w, i32_w]
            rfl
           refine pure_ (i:=18) (N:=some 88) (v:=?_) (a' := ?_) #[true, true, true, true, true, true, true, true, true, true, true, true, true, true, true, true, true, true, true, false, false, false, false, false, false, false, false, false, false, false, false] rfl rfl (any_of HT_.out (by kernel_rfl)) (fun _ _ _ h => h) (Or.inl ⟨by rfl, ?_⟩) ?_ ?_
           rotate_left
           ·intro w'
            go_simp
            with_reducible rfl
           rotate_left
           ·simp only [Act.put, sa7, sz7, ss7, i64_w, i32_w]
            rfl
           refine pure_ (i:=19) (N:=some 89) (v:=?_) (a' := ?_) #[true, true, true, true, true, true, true, true, true, true, true, true, true, true, true, true, true, true, true, true, false, false, false, false, false, false, false, false, false, false, false] rfl rfl (any_of HT_.out (by kernel_rfl)) (fun _ _ _ h => h) (Or.inl ⟨by rfl, ?_⟩) ?_ ?_
           rotate_left
           ·intro w'
            go_simp
            with_reducible rfl
           rotate_left
           ·simp only [Act.put, sa7, sz7, ss7, i64_w, i32_w]
            rfl
           refine pure_ (i:=20) (N:=some 90) (v:=?_) (a' := ?_) #[true, true, true, true, true, true, true, true, true, true, true, true, true, true, true, true, true, true, true, true, true, false, false, false, false, false, false, false, false, false, false] rfl rfl (any_of HT_.out (by kernel_rfl)) (fun _ _ _ h => h) (Or.inl ⟨by rfl, ?_⟩) ?_ ?_
           rotate_left
           ·intro w'
            go_simp
            with_reducible rfl
           rotate_left
           ·simp only [Act.put, sa7, sz7, ss7, i64_w, i32_w]
            rfl
           refine take_ (i:=21) (N:=some 91) (v:=?_) (a' := ?_) #[true, true, true, true, true, true, true, true, true, true, true, true, true, true, true, true, true, true, true, true, true, true, false, false, false, false, false, false, false, false, false] rfl rfl (take_ofW HT_.out HW_.out (by kernel_rfl)) (fun _ _ _ h => h) (Or.inl ⟨by rfl, ?_⟩) hHeld ?_ ?_
           rotate_left
           ·rintro w' ⟨s0, s1, s2, s3, s4, s5⟩
            go_simp
            with_reducible rfl
           rotate_left
           ·simp only [Act.put, sa7, sz7, ss7, i64_w, i32_w]
            rfl
           refine one_ (i:=22) (N:=some 92) #[true, true, true, true, true, true, true, true, true, true, true, true, true, true, true, true, true, true, true, true, true, true, true, false, false, false, false, false, false, false, false] rfl rfl (one_of HT_.out (by kernel_rfl)) (by decide) (fun K hK => ?_)
           refine goes_ Try.func16 (by kernel_rfl) rfl #[.agg #[.string a0_0, .string a0_1]] (by rfl) rfl rfl (by (try simp only [ma7, mc7, mn7]); first | done | rfl | (simp only [ld7, lt_7]; rfl)) ?_
           with_reducible refine (span_Right.calls kj8 a0_0 a0_1 true _ A241.out).mono ?_
           rintro e w262 ⟨rfl, hb⟩
           refine ⟨_, rfl, ?_⟩
           have n0_ := Am7 (kb7 (g:=gb195) (by (with_reducible repeat first | apply kn7 | apply kd7 | apply ka7); exact BK195.out) hb)
           have n1_ := Am7 (kb7 (g:=gb196) (by (with_reducible repeat first | apply kn7 | apply kd7 | apply ka7); exact BK196.out) hb)
           have n2_ := Am7 (kb7 (g:=gb197) (by (with_reducible repeat first | apply kn7 | apply kd7 | apply ka7); exact BK197.out) hb)
           have n3_ := Am7 (kb7 (g:=gb217) (by (with_reducible repeat first | apply kn7 | apply kd7 | apply ka7); exact BK217.out) hb)
           have n4_ := Am7 (bp7 (by repeat (first | (with_reducible first | exact HB.out | apply ba7 | apply bn7 | apply bd7 | refine bs7 ?_ GE195.out | refine bs7 ?_ GE196.out | refine bs7 ?_ GE197.out | refine bs7 ?_ GE217.out) | exact HB.out)) hb)
           clear BK195
           clear BK196
           clear BK197
           clear BK217
           clear HB
           have BK195 := n0_
           have BK196 := n1_
           have BK197 := n2_
           have BK217 := n3_
           have HB := n4_
           clear n0_ n1_ n2_ n3_ n4_
           (try clear hb)
           (try clear hb2)
           (try clear hk)
           (try clear hi)
           refine hK.out _ _ ⟨(kc7 BK195.out 0).trans rfl, (kc7 BK195.out 1).trans rfl, (kc7 BK217.out 0).trans rfl, (kc7 BK217.out 1).trans rfl, (kc7 BK196.out 0).trans rfl, (kc7 BK196.out 1).trans rfl⟩ (fun hHeld => ?_)
           clear hK K
           refine norm_ (a' := ?_) ?_ ?_
           rotate_left
           ·show Act.put _ (some 92) _ = _
            simp only [Act.put, sa7, sz7, ss7, i64_w, i32_w]
            rfl
           refine pure_ (i:=23) (N:=some 93) (v:=?_) (a' := ?_) #[true, true, true, true, true, true, true, true, true, true, true, true, true, true, true, true, true, true, true, true, true, true, true, true, false, false, false, false, false, false, false] rfl rfl (any_of HT_.out (by kernel_rfl)) (fun _ _ _ h => h) (Or.inl ⟨by rfl, ?_⟩) ?_ ?_
           rotate_left
           ·intro w'
            go_simp
            with_reducible rfl
           rotate_left
           ·simp only [Act.put, sa7, sz7, ss7, i64_w, i32_w]
            rfl
           refine pure_ (i:=24) (N:=some 94) (v:=?_) (a' := ?_) #[true, true, true, true, true, true, true, true, true, true, true, true, true, true, true, true, true, true, true, true, true, true, true, true, true, false, false, false, false, false, false] rfl rfl (any_of HT_.out (by kernel_rfl)) (fun _ _ _ h => h) (Or.inl ⟨by rfl, ?_⟩) ?_ ?_
           rotate_left
           ·intro w'
            go_simp
            with_reducible rfl
           rotate_left
           ·simp only [Act.put, sa7, sz7, ss7, i64_w, i32_w]
            rfl
           refine take_ (i:=25) (N:=some 95) (v:=?_) (a' := ?_) #[true, true, true, true, true, true, true, true, true, true, true, true, true, true, true, true, true, true, true, true, true, true, true, true, true, true, false, false, false, false, false] rfl rfl (take_ofW HT_.out HW_.out (by kernel_rfl)) (fun _ _ _ h => h) (Or.inl ⟨by rfl, ?_⟩) hHeld ?_ ?_
           rotate_left
           ·rintro w' ⟨s0, s1, s2, s3, s4, s5⟩
            go_simp
            with_reducible rfl
           rotate_left
           ·simp only [Act.put, sa7, sz7, ss7, i64_w, i32_w]
            rfl
           refine one_ (i:=26) (N:=some 96) #[true, true, true, true, true, true, true, true, true, true, true, true, true, true, true, true, true, true, true, true, true, true, true, true, true, true, true, false, false, false, false] rfl rfl (one_of HT_.out (by kernel_rfl)) (by decide) (fun K hK => ?_)
           refine goes_ Try.func27 (by kernel_rfl) rfl #[] (by rfl) rfl rfl (by (try simp only [ma7, mc7, mn7]); first | done | rfl | (simp only [ld7, lt_7]; rfl)) ?_
           with_reducible refine (span_All.calls  t223 t224 _ A243.out).mono ?_
           rintro e w263 ⟨rfl, hb⟩
           refine ⟨_, rfl, ?_⟩
           have n0_ := Am7 (kb7 (g:=gb195) (by (with_reducible repeat first | apply kn7 | apply kd7 | apply ka7); exact BK195.out) hb)
           have n1_ := Am7 (kb7 (g:=gb196) (by (with_reducible repeat first | apply kn7 | apply kd7 | apply ka7); exact BK196.out) hb)
           have n2_ := Am7 (kb7 (g:=gb197) (by (with_reducible repeat first | apply kn7 | apply kd7 | apply ka7); exact BK197.out) hb)
           have n3_ := Am7 (kb7 (g:=gb217) (by (with_reducible repeat first | apply kn7 | apply kd7 | apply ka7); exact BK217.out) hb)
           have n4_ := Am7 (bp7 (by repeat (first | (with_reducible first | exact HB.out | apply ba7 | apply bn7 | apply bd7 | refine bs7 ?_ GE195.out | refine bs7 ?_ GE196.out | refine bs7 ?_ GE197.out | refine bs7 ?_ GE217.out) | exact HB.out)) hb)
           clear BK195
           clear BK196
           clear BK197
           clear BK217
           clear HB
           have BK195 := n0_
           have BK196 := n1_
           have BK197 := n2_
           have BK217 := n3_
           have HB := n4_
           clear n0_ n1_ n2_ n3_ n4_
           (try clear hb)
           (try clear hb2)
           (try clear hk)
           (try clear hi)
           refine hK.out _ _ ⟨(kc7 BK195.out 0).trans rfl, (kc7 BK195.out 1).trans rfl, (kc7 BK217.out 0).trans rfl, (kc7 BK217.out 1).trans rfl, (kc7 BK196.out 0).trans rfl, (kc7 BK196.out 1).trans rfl⟩ (fun hHeld => ?_)
           clear hK K
           refine norm_ (a' := ?_) ?_ ?_
           rotate_left
           ·show Act.put _ (some 96) _ = _
            simp only [Act.put, sa7, sz7, ss7, i64_w, i32_w]
            rfl
           refine one_ (i:=27) (N:=some 97) #[true, true, true, true, true, true, true, true, true, true, true, true, true, true, true, true, true, true, true, true, true, true, true, true, true, true, true, true, false, false, false] rfl rfl (one_of HT_.out (by kernel_rfl)) (by decide) (fun K hK => ?_)
           refine goes_ Try.func14 (by kernel_rfl) rfl #[.agg #[.string a0_0, .string a0_1], .agg #[.string t223, .string t224]] (by rfl) rfl rfl (by (try simp only [ma7, mc7, mn7]); first | done | rfl | (simp only [ld7, lt_7]; rfl)) ?_
           with_reducible refine (span_Within.calls kj8 a0_0 a0_1 t223 t224 t225 _ A244.out).mono ?_
           rintro e w264 ⟨rfl, hb⟩
           refine ⟨_, rfl, ?_⟩
           have n0_ := Am7 (kb7 (g:=gb195) (by (with_reducible repeat first | apply kn7 | apply kd7 | apply ka7); exact BK195.out) hb)
           have n1_ := Am7 (kb7 (g:=gb196) (by (with_reducible repeat first | apply kn7 | apply kd7 | apply ka7); exact BK196.out) hb)
           have n2_ := Am7 (kb7 (g:=gb197) (by (with_reducible repeat first | apply kn7 | apply kd7 | apply ka7); exact BK197.out) hb)
           have n3_ := Am7 (kb7 (g:=gb217) (by (with_reducible repeat first | apply kn7 | apply kd7 | apply ka7); exact BK217.out) hb)
           have n4_ := Am7 (bp7 (by repeat (first | (with_reducible first | exact HB.out | apply ba7 | apply bn7 | apply bd7 | refine bs7 ?_ GE195.out | refine bs7 ?_ GE196.out | refine bs7 ?_ GE197.out | refine bs7 ?_ GE217.out) | exact HB.out)) hb)
           clear BK195
           clear BK196
           clear BK197
           clear BK217
           clear HB
           have BK195 := n0_
           have BK196 := n1_
           have BK197 := n2_
           have BK217 := n3_
           have HB := n4_
           clear n0_ n1_ n2_ n3_ n4_
           (try clear hb)
           (try clear hb2)
           (try clear hk)
           (try clear hi)
           refine hK.out _ _ ⟨(kc7 BK195.out 0).trans rfl, (kc7 BK195.out 1).trans rfl, (kc7 BK217.out 0).trans rfl, (kc7 BK217.out 1).trans rfl, (kc7 BK196.out 0).trans rfl, (kc7 BK196.out 1).trans rfl⟩ (fun hHeld => ?_)
           clear hK K
           refine norm_ (a' := ?_) ?_ ?_
           rotate_left
           ·show Act.put _ (some 97) _ = _
            simp only [Act.put, sa7, sz7, ss7, i64_w, i32_w]
            rfl
           refine pure_ (i:=28) (N:=some 98) (v:=?_) (a' := ?_) #[true, true, true, true, true, true, true, true, true, true, true, true, true, true, true, true, true, true, true, true, true, true, true, true, true, true, true, true, true, false, false] rfl rfl (any_of HT_.out (by kernel_rfl)) (fun _ _ _ h => h) (Or.inl ⟨by rfl, ?_⟩) ?_ ?_
           rotate_left
           ·intro w'
            go_simp
            with_reducible rfl
           rotate_left
           ·simp only [Act.put, sa7, sz7, ss7, i64_w, i32_w]
            rfl
           refine pure_ (i:=29) (N:=some 99) (v:=?_) (a' := ?_) #[true, true, true, true, true, true, true, true, true, true, true, true, true, true, true, true, true, true, true, true, true, true, true, true, true, true, true, true, true, true, false] rfl rfl (any_of HT_.out (by kernel_rfl)) (fun _ _ _ h => h) (Or.inl ⟨by rfl, ?_⟩) ?_ ?_
           rotate_left
           ·intro w'
            go_simp
            with_reducible rfl
           rotate_left
           ·simp only [Act.put, sa7, sz7, ss7, i64_w, i32_w]
            rfl
           refine pure_ (i:=30) (N:=some 8) (v:=?_) (a' := ?_) #[true, true, true, true, true, true, true, true, true, true, true, true, true, true, true, true, true, true, true, true, true, true, true, true, true, true, true, true, true, true, true] rfl rfl (any_of HT_.out (by kernel_rfl)) (fun _ _ _ h => h) (Or.inl ⟨by rfl, ?_⟩) ?_ ?_
           rotate_left
           ·intro w'
            go_simp
            with_reducible rfl
           rotate_left
           ·simp only [Act.put, sa7, sz7, ss7, i64_w, i32_w]
            rfl
           refine done_ (done_of HT_.out (by kernel_rfl)) ?_
           try go_wp2
           go_ret
           exact ⟨by first | rfl | (simp [errW_none, errW_some] <;> rfl) | (simp [*, errW_none, errW_some] <;> rfl), by repeat (first | (with_reducible first | exact HB.out | apply ba7 | apply bn7 | apply bd7 | refine bs7 ?_ GE195.out | refine bs7 ?_ GE196.out | refine bs7 ?_ GE197.out | refine bs7 ?_ GE217.out) | exact HB.out)⟩
          ·replace c242 := Bool.eq_false_iff.mpr c242
           subst c242
           rw [if_neg (show ¬ (false = true) by decide)] at H
           obtain rfl := Option.some.inj H
           have hnb265 := NB195_196.out
           have hnc265 := NB196_195.out
           have hnb266 := NB195_197.out
           have hnc266 := NB197_195.out
           have hcz267_0 : wc.cell? ⟨gb195, 0, none⟩ = some (.string a0_0) := (kc7 BK195.out 0).trans rfl
           have hcz267_1 : wc.cell? ⟨gb195, 1, none⟩ = some (.string a0_1) := (kc7 BK195.out 1).trans rfl
           have hfz267_0 := kz7 BK195.out 0
           have hfz267_1 := kz7 BK195.out 1
           have hnb268 := NB196_197.out
           have hnc268 := NB197_196.out
           have hcz269_0 : wc.cell? ⟨gb196, 0, none⟩ = some (.string a1_0) := (kc7 BK196.out 0).trans rfl
           have hcz269_1 : wc.cell? ⟨gb196, 1, none⟩ = some (.string a1_1) := (kc7 BK196.out 1).trans rfl
           have hfz269_0 := kz7 BK196.out 0
           have hfz269_1 := kz7 BK196.out 1
           try go_wp2_with (first | ((with_reducible refine gate_callee (f:=12) rfl ?_); refine goesL_ (some 67) rfl rfl Try.func12 (by kernel_rfl) rfl #[.agg #[.string a0_0, .string a0_1], .agg #[.string a1_0, .string a1_1]] rfl (by (try simp only [ma7, mc7, mn7]); first | done | rfl | (simp only [ld7, lt_7]; rfl)) ?_; (with_reducible refine (span_Meet.calls kj8 a0_0 a0_1 a1_0 a1_1 t214 t215 true _ A232.out).mono ?_); rintro e w270 ⟨rfl, hb⟩; refine ⟨_, rfl, ?_⟩; have n0_ := Am7 (kb7 (g:=gb195) (by (with_reducible repeat first | apply kn7 | apply kd7 | apply ka7); exact BK195.out) hb); have n1_ := Am7 (kb7 (g:=gb196) (by (with_reducible repeat first | apply kn7 | apply kd7 | apply ka7); exact BK196.out) hb); have n2_ := Am7 (kb7 (g:=gb197) (by (with_reducible repeat first | apply kn7 | apply kd7 | apply ka7); exact BK197.out) hb); have n3_ := Am7 (bp7 (by repeat (first | (with_reducible first | exact HB.out | apply ba7 | apply bn7 | apply bd7 | refine bs7 ?_ GE195.out | refine bs7 ?_ GE196.out | refine bs7 ?_ GE197.out) | exact HB.out)) hb); clear BK195; clear BK196; clear BK197; clear HB; have BK195 := n0_; have BK196 := n1_; have BK197 := n2_; have HB := n3_; clear n0_ n1_ n2_ n3_; (try clear hb); (try clear hb2); (try clear hk); (try clear hi)) | ((with_reducible refine gate_dst (N:=9) rfl ?_); refine box_event ?hg (N:=9) ?hd (cs:=#[.string (⟨#[]⟩ : ByteArray), .string (⟨#[]⟩ : ByteArray)]) (t:=26) ?hr ?_; (case hd => rfl); (case hg => rfl); (case hr => first | (go_simp; done) | (go_simp; rfl)); intro gb217 hg w271 hbox hb; have n0_ := Am7 (kb7 (g:=gb195) (by (with_reducible repeat first | apply kn7 | apply kd7 | apply ka7); exact BK195.out) hb); have n1_ := Am7 (kb7 (g:=gb196) (by (with_reducible repeat first | apply kn7 | apply kd7 | apply ka7); exact BK196.out) hb); have n2_ := Am7 (kb7 (g:=gb197) (by (with_reducible repeat first | apply kn7 | apply kd7 | apply ka7); exact BK197.out) hb); have n3_ := Am7 (bp7 (by repeat (first | (with_reducible first | exact HB.out | apply ba7 | apply bn7 | apply bd7 | refine bs7 ?_ GE195.out | refine bs7 ?_ GE196.out | refine bs7 ?_ GE197.out) | exact HB.out)) hb); have n4_ := Am7 (hbox); have n5_ := Am7 ((by rw [hg]; exact (bz7 (by repeat (first | (with_reducible first | exact HB.out | apply ba7 | apply bn7 | apply bd7 | refine bs7 ?_ GE195.out | refine bs7 ?_ GE196.out | refine bs7 ?_ GE197.out) | exact HB.out))) : w.heap.size ≤ gb217)); have n6_ := Am7 ((by rw [hg]; exact (bz7 (by repeat (first | (with_reducible first | exact HB.out | apply ba7 | apply bn7 | apply bd7 | refine bs7 ?_ GE195.out | refine bs7 ?_ GE196.out | refine bs7 ?_ GE197.out) | exact HB.out))) : w.heap.size ≤ gb217)); have n7_ := Am7 ((by rw [hg]; exact Nat.ne_of_lt (blk_lt (g:=gb195) (by (with_reducible repeat first | apply kn7 | apply kd7 | apply ka7); exact BK195.out)) : gb195 ≠ gb217)); have n8_ := Am7 ((by rw [hg]; exact Nat.ne_of_gt (blk_lt (g:=gb195) (by (with_reducible repeat first | apply kn7 | apply kd7 | apply ka7); exact BK195.out)) : gb217 ≠ gb195)); have n9_ := Am7 ((by rw [hg]; exact Nat.ne_of_lt (blk_lt (g:=gb196) (by (with_reducible repeat first | apply kn7 | apply kd7 | apply ka7); exact BK196.out)) : gb196 ≠ gb217)); have n10_ := Am7 ((by rw [hg]; exact Nat.ne_of_gt (blk_lt (g:=gb196) (by (with_reducible repeat first | apply kn7 | apply kd7 | apply ka7); exact BK196.out)) : gb217 ≠ gb196)); have n11_ := Am7 ((by rw [hg]; exact Nat.ne_of_lt (blk_lt (g:=gb197) (by (with_reducible repeat first | apply kn7 | apply kd7 | apply ka7); exact BK197.out)) : gb197 ≠ gb217)); have n12_ := Am7 ((by rw [hg]; exact Nat.ne_of_gt (blk_lt (g:=gb197) (by (with_reducible repeat first | apply kn7 | apply kd7 | apply ka7); exact BK197.out)) : gb217 ≠ gb197)); clear BK195; clear BK196; clear BK197; clear HB; have BK195 := n0_; have BK196 := n1_; have BK197 := n2_; have HB := n3_; have BK217 := n4_; have GW217 := n5_; have GE217 := n6_; have NB195_217 := n7_; have NB217_195 := n8_; have NB196_217 := n9_; have NB217_196 := n10_; have NB197_217 := n11_; have NB217_197 := n12_; clear n0_ n1_ n2_ n3_ n4_ n5_ n6_ n7_ n8_ n9_ n10_ n11_ n12_; clear hb hbox hg; have hnb272 := NB217_195.out; have hnc272 := NB195_217.out; have hnb273 := NB217_196.out; have hnc273 := NB196_217.out; have hnb274 := NB217_197.out; have hnc274 := NB197_217.out; have hcz275_0 : w271.cell? ⟨gb217, 0, none⟩ = some (.string (⟨#[]⟩ : ByteArray)) := (kc7 BK217.out 0).trans rfl; have hcz275_1 : w271.cell? ⟨gb217, 1, none⟩ = some (.string (⟨#[]⟩ : ByteArray)) := (kc7 BK217.out 1).trans rfl; have hfz275_0 := kz7 BK217.out 0; have hfz275_1 := kz7 BK217.out 1))
           have n0_ : Aside0 (((w271.setCell ⟨gb217, 0, none⟩ (.string t214)).setCell ⟨gb217, 1, none⟩ (.string t215)).heap[gb195]? = some (.cells #[.string a0_0, .string a0_1] 26 (0, 0))) := ⟨by (with_reducible repeat first | apply kn7 | apply kd7 | apply ka7); refine kf7 ?_ NB195_217.out _; (with_reducible repeat first | apply kn7 | apply kd7 | apply ka7); refine kf7 ?_ NB195_217.out _; (with_reducible repeat first | apply kn7 | apply kd7 | apply ka7); exact BK195.out⟩
           have n1_ : Aside0 (((w271.setCell ⟨gb217, 0, none⟩ (.string t214)).setCell ⟨gb217, 1, none⟩ (.string t215)).heap[gb196]? = some (.cells #[.string a1_0, .string a1_1] 26 (0, 0))) := ⟨by (with_reducible repeat first | apply kn7 | apply kd7 | apply ka7); refine kf7 ?_ NB196_217.out _; (with_reducible repeat first | apply kn7 | apply kd7 | apply ka7); refine kf7 ?_ NB196_217.out _; (with_reducible repeat first | apply kn7 | apply kd7 | apply ka7); exact BK196.out⟩
           have n2_ : Aside0 (((w271.setCell ⟨gb217, 0, none⟩ (.string t214)).setCell ⟨gb217, 1, none⟩ (.string t215)).heap[gb197]? = some (.cells #[.string a2_0, .string a2_1] 26 (0, 0))) := ⟨by (with_reducible repeat first | apply kn7 | apply kd7 | apply ka7); refine kf7 ?_ NB197_217.out _; (with_reducible repeat first | apply kn7 | apply kd7 | apply ka7); refine kf7 ?_ NB197_217.out _; (with_reducible repeat first | apply kn7 | apply kd7 | apply ka7); exact BK197.out⟩
           have n3_ : Aside0 (((w271.setCell ⟨gb217, 0, none⟩ (.string t214)).setCell ⟨gb217, 1, none⟩ (.string t215)).heap[gb217]? = some (.cells #[.string t214, .string t215] 26 (0, 0))) := ⟨by (with_reducible repeat first | apply kn7 | apply kd7 | apply ka7); refine blk_put (cs:=#[.string t214, .string (⟨#[]⟩ : ByteArray)]) ?_ 1 _ rfl; (with_reducible repeat first | apply kn7 | apply kd7 | apply ka7); refine blk_put (cs:=#[.string (⟨#[]⟩ : ByteArray), .string (⟨#[]⟩ : ByteArray)]) ?_ 0 _ rfl; (with_reducible repeat first | apply kn7 | apply kd7 | apply ka7); exact BK217.out⟩
           have n4_ : Aside0 (Below w.heap.size w ((w271.setCell ⟨gb217, 0, none⟩ (.string t214)).setCell ⟨gb217, 1, none⟩ (.string t215))) := ⟨by repeat (first | (with_reducible first | exact HB.out | apply ba7 | apply bn7 | apply bd7 | refine bs7 ?_ GE195.out | refine bs7 ?_ GE196.out | refine bs7 ?_ GE197.out | refine bs7 ?_ GE217.out) | exact HB.out)⟩
           (try clear BK195)
           (try clear BK196)
           (try clear BK197)
           (try clear BK217)
           (try clear HB)
           generalize ((w271.setCell ⟨gb217, 0, none⟩ (.string t214)).setCell ⟨gb217, 1, none⟩ (.string t215)) = w276 at n0_ n1_ n2_ n3_ n4_ ⊢
           have BK195 := n0_
           have BK196 := n1_
           have BK197 := n2_
           have BK217 := n3_
           have HB := n4_
           clear n0_ n1_ n2_ n3_ n4_
           have n0_ := Am7 (kd7 BK195.out)
           have n1_ := Am7 (kd7 BK196.out)
           have n2_ := Am7 (kd7 BK197.out)
           have n3_ := Am7 (kd7 BK217.out)
           have n4_ := Am7 (bd7 HB.out)
           clear BK195
           clear BK196
           clear BK197
           clear BK217
           clear HB
           have BK195 := n0_
           have BK196 := n1_
           have BK197 := n2_
           have BK217 := n3_
           have HB := n4_
           clear n0_ n1_ n2_ n3_ n4_
           refine start_ (n:=31) (S:=fun w' => w'.cell? ⟨gb195, 0, none⟩ = some (.string a0_0) ∧ w'.cell? ⟨gb195, 1, none⟩ = some (.string a0_1) ∧ w'.cell? ⟨gb217, 0, none⟩ = some (.string t214) ∧ w'.cell? ⟨gb217, 1, none⟩ = some (.string t215) ∧ w'.cell? ⟨gb196, 0, none⟩ = some (.string a1_0) ∧ w'.cell? ⟨gb196, 1, none⟩ = some (.string a1_1)) (ds:=[]) #[false, false, false, false, false, false, false, false, false, false, false, false, false, false, false, false, false, false, false, false, false, false, false, false, false, false, false, false, false, false, false] (by kernel_rfl) rfl rfl ⟨(kc7 BK195.out 0).trans rfl, (kc7 BK195.out 1).trans rfl, (kc7 BK217.out 0).trans rfl, (kc7 BK217.out 1).trans rfl, (kc7 BK196.out 0).trans rfl, (kc7 BK196.out 1).trans rfl⟩ (fun hHeld => ?_); refine with_tabW watershedlaw04_SpanWithin.tab8 watershedlaw04_SpanWithin.bits8 (fun HT_ HW_ => ?_)
           generalize w276.drew = w277 at BK195 BK196 BK197 BK217 HB hHeld ⊢
           refine take_ (i:=0) (N:=some 70) (v:=?_) (a' := ?_) #[true, false, false, false, false, false, false, false, false, false, false, false, false, false, false, false, false, false, false, false, false, false, false, false, false, false, false, false, false, false, false] rfl rfl (take_ofW HT_.out HW_.out (by kernel_rfl)) (fun _ _ _ h => h) (Or.inl ⟨by rfl, ?_⟩) hHeld ?_ ?_
           rotate_left
           ·rintro w' ⟨s0, s1, s2, s3, s4, s5⟩
            go_simp
            with_reducible rfl
           rotate_left
           ·simp only [Act.put, sa7, sz7, ss7, i64_w, i32_w]
            rfl
           refine take_ (i:=1) (N:=some 71) (v:=?_) (a' := ?_) #[true, true, false, false, false, false, false, false, false, false, false, false, false, false, false, false, false, false, false, false, false, false, false, false, false, false, false, false, false, false, false] rfl rfl (take_ofW HT_.out HW_.out (by kernel_rfl)) (fun _ _ _ h => h) (Or.inl ⟨by rfl, ?_⟩) hHeld ?_ ?_
           rotate_left
           ·rintro w' ⟨s0, s1, s2, s3, s4, s5⟩
            go_simp
            with_reducible rfl
           rotate_left
           ·simp only [Act.put, sa7, sz7, ss7, i64_w, i32_w]
            rfl
           refine take_ (i:=3) (N:=some 73) (v:=?_) (a' := ?_) #[true, true, false, true, false, false, false, false, false, false, false, false, false, false, false, false, false, false, false, false, false, false, false, false, false, false, false, false, false, false, false] rfl rfl (take_ofW HT_.out HW_.out (by kernel_rfl)) (fun _ _ _ h => h) (Or.inl ⟨by rfl, ?_⟩) hHeld ?_ ?_
           rotate_left
           ·rintro w' ⟨s0, s1, s2, s3, s4, s5⟩
            go_simp
            with_reducible rfl
           rotate_left
           ·simp only [Act.put, sa7, sz7, ss7, i64_w, i32_w]
            rfl
           refine one_ (i:=2) (N:=some 72) #[true, true, true, true, false, false, false, false, false, false, false, false, false, false, false, false, false, false, false, false, false, false, false, false, false, false, false, false, false, false, false] rfl rfl (one_of HT_.out (by kernel_rfl)) (by decide) (fun K hK => ?_)
           refine goes_ Try.func14 (by kernel_rfl) rfl #[.agg #[.string a0_0, .string a0_1], .agg #[.string a0_0, .string a0_1]] (by rfl) rfl rfl (by (try simp only [ma7, mc7, mn7]); first | done | rfl | (simp only [ld7, lt_7]; rfl)) ?_
           with_reducible refine (span_Within.calls kj8 a0_0 a0_1 a0_0 a0_1 t218 _ A233.out).mono ?_
           rintro e w278 ⟨rfl, hb⟩
           refine ⟨_, rfl, ?_⟩
           have n0_ := Am7 (kb7 (g:=gb195) (by (with_reducible repeat first | apply kn7 | apply kd7 | apply ka7); exact BK195.out) hb)
           have n1_ := Am7 (kb7 (g:=gb196) (by (with_reducible repeat first | apply kn7 | apply kd7 | apply ka7); exact BK196.out) hb)
           have n2_ := Am7 (kb7 (g:=gb197) (by (with_reducible repeat first | apply kn7 | apply kd7 | apply ka7); exact BK197.out) hb)
           have n3_ := Am7 (kb7 (g:=gb217) (by (with_reducible repeat first | apply kn7 | apply kd7 | apply ka7); exact BK217.out) hb)
           have n4_ := Am7 (bp7 (by repeat (first | (with_reducible first | exact HB.out | apply ba7 | apply bn7 | apply bd7 | refine bs7 ?_ GE195.out | refine bs7 ?_ GE196.out | refine bs7 ?_ GE197.out | refine bs7 ?_ GE217.out) | exact HB.out)) hb)
           clear BK195
           clear BK196
           clear BK197
           clear BK217
           clear HB
           have BK195 := n0_
           have BK196 := n1_
           have BK197 := n2_
           have BK217 := n3_
           have HB := n4_
           clear n0_ n1_ n2_ n3_ n4_
           (try clear hb)
           (try clear hb2)
           (try clear hk)
           (try clear hi)
           refine hK.out _ _ ⟨(kc7 BK195.out 0).trans rfl, (kc7 BK195.out 1).trans rfl, (kc7 BK217.out 0).trans rfl, (kc7 BK217.out 1).trans rfl, (kc7 BK196.out 0).trans rfl, (kc7 BK196.out 1).trans rfl⟩ (fun hHeld => ?_)
           clear hK K
           refine norm_ (a' := ?_) ?_ ?_
           rotate_left
           ·show Act.put _ (some 72) _ = _
            simp only [Act.put, sa7, sz7, ss7, i64_w, i32_w]
            rfl
           refine one_ (i:=4) (N:=some 74) #[true, true, true, true, true, false, false, false, false, false, false, false, false, false, false, false, false, false, false, false, false, false, false, false, false, false, false, false, false, false, false] rfl rfl (one_of HT_.out (by kernel_rfl)) (by decide) (fun K hK => ?_)
           refine goes_ Try.func16 (by kernel_rfl) rfl #[.agg #[.string a0_0, .string a0_1]] (by rfl) rfl rfl (by (try simp only [ma7, mc7, mn7]); first | done | rfl | (simp only [ld7, lt_7]; rfl)) ?_
           with_reducible refine (span_Right.calls kj8 a0_0 a0_1 t219 _ A234.out).mono ?_
           rintro e w279 ⟨rfl, hb⟩
           refine ⟨_, rfl, ?_⟩
           have n0_ := Am7 (kb7 (g:=gb195) (by (with_reducible repeat first | apply kn7 | apply kd7 | apply ka7); exact BK195.out) hb)
           have n1_ := Am7 (kb7 (g:=gb196) (by (with_reducible repeat first | apply kn7 | apply kd7 | apply ka7); exact BK196.out) hb)
           have n2_ := Am7 (kb7 (g:=gb197) (by (with_reducible repeat first | apply kn7 | apply kd7 | apply ka7); exact BK197.out) hb)
           have n3_ := Am7 (kb7 (g:=gb217) (by (with_reducible repeat first | apply kn7 | apply kd7 | apply ka7); exact BK217.out) hb)
           have n4_ := Am7 (bp7 (by repeat (first | (with_reducible first | exact HB.out | apply ba7 | apply bn7 | apply bd7 | refine bs7 ?_ GE195.out | refine bs7 ?_ GE196.out | refine bs7 ?_ GE197.out | refine bs7 ?_ GE217.out) | exact HB.out)) hb)
           clear BK195
           clear BK196
           clear BK197
           clear BK217
           clear HB
           have BK195 := n0_
           have BK196 := n1_
           have BK197 := n2_
           have BK217 := n3_
           have HB := n4_
           clear n0_ n1_ n2_ n3_ n4_
           (try clear hb)
           (try clear hb2)
           (try clear hk)
           (try clear hi)
           refine hK.out _ _ ⟨(kc7 BK195.out 0).trans rfl, (kc7 BK195.out 1).trans rfl, (kc7 BK217.out 0).trans rfl, (kc7 BK217.out 1).trans rfl, (kc7 BK196.out 0).trans rfl, (kc7 BK196.out 1).trans rfl⟩ (fun hHeld => ?_)
           clear hK K
           refine norm_ (a' := ?_) ?_ ?_
           rotate_left
           ·show Act.put _ (some 74) _ = _
            simp only [Act.put, sa7, sz7, ss7, i64_w, i32_w]
            rfl
           refine pure_ (i:=5) (N:=some 75) (v:=?_) (a' := ?_) #[true, true, true, true, true, true, false, false, false, false, false, false, false, false, false, false, false, false, false, false, false, false, false, false, false, false, false, false, false, false, false] rfl rfl (any_of HT_.out (by kernel_rfl)) (fun _ _ _ h => h) (Or.inl ⟨by rfl, ?_⟩) ?_ ?_
           rotate_left
           ·intro w'
            go_simp
            with_reducible rfl
           rotate_left
           ·simp only [Act.put, sa7, sz7, ss7, i64_w, i32_w]
            rfl
           refine pure_ (i:=6) (N:=some 76) (v:=?_) (a' := ?_) #[true, true, true, true, true, true, true, false, false, false, false, false, false, false, false, false, false, false, false, false, false, false, false, false, false, false, false, false, false, false, false] rfl rfl (any_of HT_.out (by kernel_rfl)) (fun _ _ _ h => h) (Or.inl ⟨by rfl, ?_⟩) ?_ ?_
           rotate_left
           ·intro w'
            go_simp
            with_reducible rfl
           rotate_left
           ·simp only [Act.put, sa7, sz7, ss7, i64_w, i32_w]
            rfl
           refine pure_ (i:=7) (N:=some 77) (v:=?_) (a' := ?_) #[true, true, true, true, true, true, true, true, false, false, false, false, false, false, false, false, false, false, false, false, false, false, false, false, false, false, false, false, false, false, false] rfl rfl (any_of HT_.out (by kernel_rfl)) (fun _ _ _ h => h) (Or.inl ⟨by rfl, ?_⟩) ?_ ?_
           rotate_left
           ·intro w'
            go_simp
            with_reducible rfl
           rotate_left
           ·simp only [Act.put, sa7, sz7, ss7, i64_w, i32_w]
            rfl
           refine pure_ (i:=8) (N:=some 78) (v:=?_) (a' := ?_) #[true, true, true, true, true, true, true, true, true, false, false, false, false, false, false, false, false, false, false, false, false, false, false, false, false, false, false, false, false, false, false] rfl rfl (any_of HT_.out (by kernel_rfl)) (fun _ _ _ h => h) (Or.inl ⟨by rfl, ?_⟩) ?_ ?_
           rotate_left
           ·intro w'
            go_simp
            with_reducible rfl
           rotate_left
           ·simp only [Act.put, sa7, sz7, ss7, i64_w, i32_w]
            rfl
           refine pure_ (i:=9) (N:=some 79) (v:=?_) (a' := ?_) #[true, true, true, true, true, true, true, true, true, true, false, false, false, false, false, false, false, false, false, false, false, false, false, false, false, false, false, false, false, false, false] rfl rfl (any_of HT_.out (by kernel_rfl)) (fun _ _ _ h => h) (Or.inl ⟨by rfl, ?_⟩) ?_ ?_
           rotate_left
           ·intro w'
            go_simp
            with_reducible rfl
           rotate_left
           ·simp only [Act.put, sa7, sz7, ss7, i64_w, i32_w]
            rfl
           refine take_ (i:=10) (N:=some 80) (v:=?_) (a' := ?_) #[true, true, true, true, true, true, true, true, true, true, true, false, false, false, false, false, false, false, false, false, false, false, false, false, false, false, false, false, false, false, false] rfl rfl (take_ofW HT_.out HW_.out (by kernel_rfl)) (fun _ _ _ h => h) (Or.inl ⟨by rfl, ?_⟩) hHeld ?_ ?_
           rotate_left
           ·rintro w' ⟨s0, s1, s2, s3, s4, s5⟩
            go_simp
            with_reducible rfl
           rotate_left
           ·simp only [Act.put, sa7, sz7, ss7, i64_w, i32_w]
            rfl
           refine take_ (i:=11) (N:=some 81) (v:=?_) (a' := ?_) #[true, true, true, true, true, true, true, true, true, true, true, true, false, false, false, false, false, false, false, false, false, false, false, false, false, false, false, false, false, false, false] rfl rfl (take_ofW HT_.out HW_.out (by kernel_rfl)) (fun _ _ _ h => h) (Or.inl ⟨by rfl, ?_⟩) hHeld ?_ ?_
           rotate_left
           ·rintro w' ⟨s0, s1, s2, s3, s4, s5⟩
            go_simp
            with_reducible rfl
           rotate_left
           ·simp only [Act.put, sa7, sz7, ss7, i64_w, i32_w]
            rfl
           refine one_ (i:=12) (N:=some 82) #[true, true, true, true, true, true, true, true, true, true, true, true, true, false, false, false, false, false, false, false, false, false, false, false, false, false, false, false, false, false, false] rfl rfl (one_of HT_.out (by kernel_rfl)) (by decide) (fun K hK => ?_)
           refine goes_ Try.func14 (by kernel_rfl) rfl #[.agg #[.string t214, .string t215], .agg #[.string a0_0, .string a0_1]] (by rfl) rfl rfl (by (try simp only [ma7, mc7, mn7]); first | done | rfl | (simp only [ld7, lt_7]; rfl)) ?_
           with_reducible refine (span_Within.calls kj8 t214 t215 a0_0 a0_1 true _ A237.out).mono ?_
           rintro e w280 ⟨rfl, hb⟩
           refine ⟨_, rfl, ?_⟩
           have n0_ := Am7 (kb7 (g:=gb195) (by (with_reducible repeat first | apply kn7 | apply kd7 | apply ka7); exact BK195.out) hb)
           have n1_ := Am7 (kb7 (g:=gb196) (by (with_reducible repeat first | apply kn7 | apply kd7 | apply ka7); exact BK196.out) hb)
           have n2_ := Am7 (kb7 (g:=gb197) (by (with_reducible repeat first | apply kn7 | apply kd7 | apply ka7); exact BK197.out) hb)
           have n3_ := Am7 (kb7 (g:=gb217) (by (with_reducible repeat first | apply kn7 | apply kd7 | apply ka7); exact BK217.out) hb)
           have n4_ := Am7 (bp7 (by repeat (first | (with_reducible first | exact HB.out | apply ba7 | apply bn7 | apply bd7 | refine bs7 ?_ GE195.out | refine bs7 ?_ GE196.out | refine bs7 ?_ GE197.out | refine bs7 ?_ GE217.out) | exact HB.out)) hb)
           clear BK195
           clear BK196
           clear BK197
           clear BK217
           clear HB
           have BK195 := n0_
           have BK196 := n1_
           have BK197 := n2_
           have BK217 := n3_
           have HB := n4_
           clear n0_ n1_ n2_ n3_ n4_
           (try clear hb)
           (try clear hb2)
           (try clear hk)
           (try clear hi)
           refine hK.out _ _ ⟨(kc7 BK195.out 0).trans rfl, (kc7 BK195.out 1).trans rfl, (kc7 BK217.out 0).trans rfl, (kc7 BK217.out 1).trans rfl, (kc7 BK196.out 0).trans rfl, (kc7 BK196.out 1).trans rfl⟩ (fun hHeld => ?_)
           clear hK K
           refine norm_ (a' := ?_) ?_ ?_
           rotate_left
           ·show Act.put _ (some 82) _ = _
            simp only [Act.put, sa7, sz7, ss7, i64_w, i32_w]
            rfl
           refine pure_ (i:=13) (N:=some 83) (v:=?_) (a' := ?_) #[true, true, true, true, true, true, true, true, true, true, true, true, true, true, false, false, false, false, false, false, false, false, false, false, false, false, false, false, false, false, false] rfl rfl (any_of HT_.out (by kernel_rfl)) (fun _ _ _ h => h) (Or.inl ⟨by rfl, ?_⟩) ?_ ?_
           rotate_left
           ·intro w'
            go_simp
            with_reducible rfl
           rotate_left
           ·simp only [Act.put, sa7, sz7, ss7, i64_w, i32_w]
            rfl
           refine take_ (i:=14) (N:=some 84) (v:=?_) (a' := ?_) #[true, true, true, true, true, true, true, true, true, true, true, true, true, true, true, false, false, false, false, false, false, false, false, false, false, false, false, false, false, false, false] rfl rfl (take_ofW HT_.out HW_.out (by kernel_rfl)) (fun _ _ _ h => h) (Or.inl ⟨by rfl, ?_⟩) hHeld ?_ ?_
           rotate_left
           ·rintro w' ⟨s0, s1, s2, s3, s4, s5⟩
            go_simp
            with_reducible rfl
           rotate_left
           ·simp only [Act.put, sa7, sz7, ss7, i64_w, i32_w]
            rfl
           refine take_ (i:=15) (N:=some 85) (v:=?_) (a' := ?_) #[true, true, true, true, true, true, true, true, true, true, true, true, true, true, true, true, false, false, false, false, false, false, false, false, false, false, false, false, false, false, false] rfl rfl (take_ofW HT_.out HW_.out (by kernel_rfl)) (fun _ _ _ h => h) (Or.inl ⟨by rfl, ?_⟩) hHeld ?_ ?_
           rotate_left
           ·rintro w' ⟨s0, s1, s2, s3, s4, s5⟩
            go_simp
            with_reducible rfl
           rotate_left
           ·simp only [Act.put, sa7, sz7, ss7, i64_w, i32_w]
            rfl
           refine one_ (i:=16) (N:=some 86) #[true, true, true, true, true, true, true, true, true, true, true, true, true, true, true, true, true, false, false, false, false, false, false, false, false, false, false, false, false, false, false] rfl rfl (one_of HT_.out (by kernel_rfl)) (by decide) (fun K hK => ?_)
           refine goes_ Try.func14 (by kernel_rfl) rfl #[.agg #[.string t214, .string t215], .agg #[.string a1_0, .string a1_1]] (by rfl) rfl rfl (by (try simp only [ma7, mc7, mn7]); first | done | rfl | (simp only [ld7, lt_7]; rfl)) ?_
           with_reducible refine (span_Within.calls kj8 t214 t215 a1_0 a1_1 true _ A239.out).mono ?_
           rintro e w281 ⟨rfl, hb⟩
           refine ⟨_, rfl, ?_⟩
           have n0_ := Am7 (kb7 (g:=gb195) (by (with_reducible repeat first | apply kn7 | apply kd7 | apply ka7); exact BK195.out) hb)
           have n1_ := Am7 (kb7 (g:=gb196) (by (with_reducible repeat first | apply kn7 | apply kd7 | apply ka7); exact BK196.out) hb)
           have n2_ := Am7 (kb7 (g:=gb197) (by (with_reducible repeat first | apply kn7 | apply kd7 | apply ka7); exact BK197.out) hb)
           have n3_ := Am7 (kb7 (g:=gb217) (by (with_reducible repeat first | apply kn7 | apply kd7 | apply ka7); exact BK217.out) hb)
           have n4_ := Am7 (bp7 (by repeat (first | (with_reducible first | exact HB.out | apply ba7 | apply bn7 | apply bd7 | refine bs7 ?_ GE195.out | refine bs7 ?_ GE196.out | refine bs7 ?_ GE197.out | refine bs7 ?_ GE217.out) | exact HB.out)) hb)
           clear BK195
           clear BK196
           clear BK197
           clear BK217
           clear HB
           have BK195 := n0_
           have BK196 := n1_
           have BK197 := n2_
           have BK217 := n3_
           have HB := n4_
           clear n0_ n1_ n2_ n3_ n4_
           (try clear hb)
           (try clear hb2)
           (try clear hk)
           (try clear hi)
           refine hK.out _ _ ⟨(kc7 BK195.out 0).trans rfl, (kc7 BK195.out 1).trans rfl, (kc7 BK217.out 0).trans rfl, (kc7 BK217.out 1).trans rfl, (kc7 BK196.out 0).trans rfl, (kc7 BK196.out 1).trans rfl⟩ (fun hHeld => ?_)
           clear hK K
           refine norm_ (a' := ?_) ?_ ?_
           rotate_left
           ·show Act.put _ (some 86) _ = _
            simp only [Act.put, sa7, sz7, ss7, i64_w, i32_w]
            rfl
           refine pure_ (i:=17) (N:=some 87) (v:=?_) (a' := ?_) #[true, true, true, true, true, true, true, true, true, true, true, true, true, true, true, true, true, true, false, false, false, false, false, false, false, false, false, false, false, false, false] rfl rfl (any_of HT_.out (by kernel_rfl)) (fun _ _ _ h => h) (Or.inl ⟨by rfl, ?_⟩) ?_ ?_
           rotate_left
           ·intro w'
            go_simp
            with_reducible rfl
           rotate_left
           ·simp only [Act.put, sa7, sz7, ss7, i64_w, i32_w]
            rfl
           refine pure_ (i:=18) (N:=some 88) (v:=?_) (a' := ?_) #[true, true, true, true, true, true, true, true, true, true, true, true, true, true, true, true, true, true, true, false, false, false, false, false, false, false, false, false, false, false, false] rfl rfl (any_of HT_.out (by kernel_rfl)) (fun _ _ _ h => h) (Or.inl ⟨by rfl, ?_⟩) ?_ ?_
           rotate_left
           ·intro w'
            go_simp
            with_reducible rfl
           rotate_left
           ·simp only [Act.put, sa7, sz7, ss7, i64_w, i32_w]
            rfl
           refine pure_ (i:=19) (N:=some 89) (v:=?_) (a' := ?_) #[true, true, true, true, true, true, true, true, true, true, true, true, true, true, true, true, true, true, true, true, false, false, false, false, false, false, false, false, false, false, false] rfl rfl (any_of HT_.out (by kernel_rfl)) (fun _ _ _ h => h) (Or.inl ⟨by rfl, ?_⟩) ?_ ?_
           rotate_left
           ·intro w'
            go_simp
            with_reducible rfl
           rotate_left
           ·simp only [Act.put, sa7, sz7, ss7, i64_w, i32_w]
            rfl
           refine pure_ (i:=20) (N:=some 90) (v:=?_) (a' := ?_) #[true, true, true, true, true, true, true, true, true, true, true, true, true, true, true, true, true, true, true, true, true, false, false, false, false, false, false, false, false, false, false] rfl rfl (any_of HT_.out (by kernel_rfl)) (fun _ _ _ h => h) (Or.inl ⟨by rfl, ?_⟩) ?_ ?_
           rotate_left
           ·intro w'
            go_simp
            with_reducible rfl
           rotate_left
           ·simp only [Act.put, sa7, sz7, ss7, i64_w, i32_w]
            rfl
           refine take_ (i:=21) (N:=some 91) (v:=?_) (a' := ?_) #[true, true, true, true, true, true, true, true, true, true, true, true, true, true, true, true, true, true, true, true, true, true, false, false, false, false, false, false, false, false, false] rfl rfl (take_ofW HT_.out HW_.out (by kernel_rfl)) (fun _ _ _ h => h) (Or.inl ⟨by rfl, ?_⟩) hHeld ?_ ?_
           rotate_left
           ·rintro w' ⟨s0, s1, s2, s3, s4, s5⟩
            go_simp
            with_reducible rfl
           rotate_left
           ·simp only [Act.put, sa7, sz7, ss7, i64_w, i32_w]
            rfl
           refine one_ (i:=22) (N:=some 92) #[true, true, true, true, true, true, true, true, true, true, true, true, true, true, true, true, true, true, true, true, true, true, true, false, false, false, false, false, false, false, false] rfl rfl (one_of HT_.out (by kernel_rfl)) (by decide) (fun K hK => ?_)
           refine goes_ Try.func16 (by kernel_rfl) rfl #[.agg #[.string a0_0, .string a0_1]] (by rfl) rfl rfl (by (try simp only [ma7, mc7, mn7]); first | done | rfl | (simp only [ld7, lt_7]; rfl)) ?_
           with_reducible refine (span_Right.calls kj8 a0_0 a0_1 false _ A241.out).mono ?_
           rintro e w282 ⟨rfl, hb⟩
           refine ⟨_, rfl, ?_⟩
           have n0_ := Am7 (kb7 (g:=gb195) (by (with_reducible repeat first | apply kn7 | apply kd7 | apply ka7); exact BK195.out) hb)
           have n1_ := Am7 (kb7 (g:=gb196) (by (with_reducible repeat first | apply kn7 | apply kd7 | apply ka7); exact BK196.out) hb)
           have n2_ := Am7 (kb7 (g:=gb197) (by (with_reducible repeat first | apply kn7 | apply kd7 | apply ka7); exact BK197.out) hb)
           have n3_ := Am7 (kb7 (g:=gb217) (by (with_reducible repeat first | apply kn7 | apply kd7 | apply ka7); exact BK217.out) hb)
           have n4_ := Am7 (bp7 (by repeat (first | (with_reducible first | exact HB.out | apply ba7 | apply bn7 | apply bd7 | refine bs7 ?_ GE195.out | refine bs7 ?_ GE196.out | refine bs7 ?_ GE197.out | refine bs7 ?_ GE217.out) | exact HB.out)) hb)
           clear BK195
           clear BK196
           clear BK197
           clear BK217
           clear HB
           have BK195 := n0_
           have BK196 := n1_
           have BK197 := n2_
           have BK217 := n3_
           have HB := n4_
           clear n0_ n1_ n2_ n3_ n4_
           (try clear hb)
           (try clear hb2)
           (try clear hk)
           (try clear hi)
           refine hK.out _ _ ⟨(kc7 BK195.out 0).trans rfl, (kc7 BK195.out 1).trans rfl, (kc7 BK217.out 0).trans rfl, (kc7 BK217.out 1).trans rfl, (kc7 BK196.out 0).trans rfl, (kc7 BK196.out 1).trans rfl⟩ (fun hHeld => ?_)
           clear hK K
           refine norm_ (a' := ?_) ?_ ?_
           rotate_left
           ·show Act.put _ (some 92) _ = _
            simp only [Act.put, sa7, sz7, ss7, i64_w, i32_w]
            rfl
           refine pure_ (i:=23) (N:=some 93) (v:=?_) (a' := ?_) #[true, true, true, true, true, true, true, true, true, true, true, true, true, true, true, true, true, true, true, true, true, true, true, true, false, false, false, false, false, false, false] rfl rfl (any_of HT_.out (by kernel_rfl)) (fun _ _ _ h => h) (Or.inl ⟨by rfl, ?_⟩) ?_ ?_
           rotate_left
           ·intro w'
            go_simp
            with_reducible rfl
           rotate_left
           ·simp only [Act.put, sa7, sz7, ss7, i64_w, i32_w]
            rfl
           refine pure_ (i:=24) (N:=some 94) (v:=?_) (a' := ?_) #[true, true, true, true, true, true, true, true, true, true, true, true, true, true, true, true, true, true, true, true, true, true, true, true, true, false, false, false, false, false, false] rfl rfl (any_of HT_.out (by kernel_rfl)) (fun _ _ _ h => h) (Or.inl ⟨by rfl, ?_⟩) ?_ ?_
           rotate_left
           ·intro w'
            go_simp
            with_reducible rfl
           rotate_left
           ·simp only [Act.put, sa7, sz7, ss7, i64_w, i32_w]
            rfl
           refine pure_ (i:=25) (N:=some 95) (v:=undef) (a' := ?_) #[true, true, true, true, true, true, true, true, true, true, true, true, true, true, true, true, true, true, true, true, true, true, true, true, true, true, false, false, false, false, false] rfl rfl (any_of HT_.out (by kernel_rfl)) (fun _ _ _ h => h) (Or.inr ⟨by rfl, rfl⟩) ?_ ?_
           rotate_left
           ·simp only [Act.put, sa7, sz7, ss7, i64_w, i32_w]
            rfl
           refine pure_ (i:=26) (N:=some 96) (v:=undef) (a' := ?_) #[true, true, true, true, true, true, true, true, true, true, true, true, true, true, true, true, true, true, true, true, true, true, true, true, true, true, true, false, false, false, false] rfl rfl (any_of HT_.out (by kernel_rfl)) (fun _ _ _ h => h) (Or.inr ⟨by rfl, rfl⟩) ?_ ?_
           rotate_left
           ·simp only [Act.put, sa7, sz7, ss7, i64_w, i32_w]
            rfl
           refine pure_ (i:=27) (N:=some 97) (v:=undef) (a' := ?_) #[true, true, true, true, true, true, true, true, true, true, true, true, true, true, true, true, true, true, true, true, true, true, true, true, true, true, true, true, false, false, false] rfl rfl (any_of HT_.out (by kernel_rfl)) (fun _ _ _ h => h) (Or.inr ⟨by rfl, rfl⟩) ?_ ?_
           rotate_left
           ·simp only [Act.put, sa7, sz7, ss7, i64_w, i32_w]
            rfl
           refine pure_ (i:=28) (N:=some 98) (v:=?_) (a' := ?_) #[true, true, true, true, true, true, true, true, true, true, true, true, true, true, true, true, true, true, true, true, true, true, true, true, true, true, true, true, true, false, false] rfl rfl (any_of HT_.out (by kernel_rfl)) (fun _ _ _ h => h) (Or.inl ⟨by rfl, ?_⟩) ?_ ?_
           rotate_left
           ·intro w'
            go_simp
            with_reducible rfl
           rotate_left
           ·simp only [Act.put, sa7, sz7, ss7, i64_w, i32_w]
            rfl
           refine pure_ (i:=29) (N:=some 99) (v:=?_) (a' := ?_) #[true, true, true, true, true, true, true, true, true, true, true, true, true, true, true, true, true, true, true, true, true, true, true, true, true, true, true, true, true, true, false] rfl rfl (any_of HT_.out (by kernel_rfl)) (fun _ _ _ h => h) (Or.inl ⟨by rfl, ?_⟩) ?_ ?_
           rotate_left
           ·intro w'
            go_simp
            with_reducible rfl
           rotate_left
           ·simp only [Act.put, sa7, sz7, ss7, i64_w, i32_w]
            rfl
           refine pure_ (i:=30) (N:=some 8) (v:=?_) (a' := ?_) #[true, true, true, true, true, true, true, true, true, true, true, true, true, true, true, true, true, true, true, true, true, true, true, true, true, true, true, true, true, true, true] rfl rfl (any_of HT_.out (by kernel_rfl)) (fun _ _ _ h => h) (Or.inl ⟨by rfl, ?_⟩) ?_ ?_
           rotate_left
           ·intro w'
            go_simp
            with_reducible rfl
           rotate_left
           ·simp only [Act.put, sa7, sz7, ss7, i64_w, i32_w]
            rfl
           refine done_ (done_of HT_.out (by kernel_rfl)) ?_
           try go_wp2
           go_ret
           exact ⟨by first | rfl | (simp [errW_none, errW_some] <;> rfl) | (simp [*, errW_none, errW_some] <;> rfl), by repeat (first | (with_reducible first | exact HB.out | apply ba7 | apply bn7 | apply bd7 | refine bs7 ?_ GE195.out | refine bs7 ?_ GE196.out | refine bs7 ?_ GE197.out | refine bs7 ?_ GE217.out) | exact HB.out)⟩
         ·replace c240 := Bool.eq_false_iff.mpr c240
          subst c240
          rw [if_neg (show ¬ (false = true) by decide)] at H
          exact absurd H (by simp)
        ·replace c238 := Bool.eq_false_iff.mpr c238
         subst c238
         rw [if_neg (show ¬ (false = true) by decide)] at H
         exact absurd H (by simp)
       ·replace c236 := Bool.eq_false_iff.mpr c236
        subst c236
        rw [if_neg (show ¬ (false = true) by decide)] at H
        replace H := Option.bind_eq_some_iff.mp H
        obtain ⟨t226, A2830, H⟩ := H
        try dsimp only at H
        have A283 := Am7 A2830
        clear A2830
        by_cases c284 : t226 = true
        ·subst c284
         rw [if_pos rfl] at H
         replace H := Option.bind_eq_some_iff.mp H
         obtain ⟨⟨t227, t228⟩, A2850, H⟩ := H
         try dsimp only at H
         have A285 := Am7 A2850
         clear A2850
         replace H := Option.bind_eq_some_iff.mp H
         obtain ⟨t229, A2860, H⟩ := H
         try dsimp only at H
         have A286 := Am7 A2860
         clear A2860
         obtain rfl := Option.some.inj H
         have hnb287 := NB195_196.out
         have hnc287 := NB196_195.out
         have hnb288 := NB195_197.out
         have hnc288 := NB197_195.out
         have hcz289_0 : wc.cell? ⟨gb195, 0, none⟩ = some (.string a0_0) := (kc7 BK195.out 0).trans rfl
         have hcz289_1 : wc.cell? ⟨gb195, 1, none⟩ = some (.string a0_1) := (kc7 BK195.out 1).trans rfl
         have hfz289_0 := kz7 BK195.out 0
         have hfz289_1 := kz7 BK195.out 1
         have hnb290 := NB196_197.out
         have hnc290 := NB197_196.out
         have hcz291_0 : wc.cell? ⟨gb196, 0, none⟩ = some (.string a1_0) := (kc7 BK196.out 0).trans rfl
         have hcz291_1 : wc.cell? ⟨gb196, 1, none⟩ = some (.string a1_1) := (kc7 BK196.out 1).trans rfl
         have hfz291_0 := kz7 BK196.out 0
         have hfz291_1 := kz7 BK196.out 1
         try go_wp2_with (first | ((with_reducible refine gate_callee (f:=12) rfl ?_); refine goesL_ (some 67) rfl rfl Try.func12 (by kernel_rfl) rfl #[.agg #[.string a0_0, .string a0_1], .agg #[.string a1_0, .string a1_1]] rfl (by (try simp only [ma7, mc7, mn7]); first | done | rfl | (simp only [ld7, lt_7]; rfl)) ?_; (with_reducible refine (span_Meet.calls kj8 a0_0 a0_1 a1_0 a1_1 t214 t215 false _ A232.out).mono ?_); rintro e w292 ⟨rfl, hb⟩; refine ⟨_, rfl, ?_⟩; have n0_ := Am7 (kb7 (g:=gb195) (by (with_reducible repeat first | apply kn7 | apply kd7 | apply ka7); exact BK195.out) hb); have n1_ := Am7 (kb7 (g:=gb196) (by (with_reducible repeat first | apply kn7 | apply kd7 | apply ka7); exact BK196.out) hb); have n2_ := Am7 (kb7 (g:=gb197) (by (with_reducible repeat first | apply kn7 | apply kd7 | apply ka7); exact BK197.out) hb); have n3_ := Am7 (bp7 (by repeat (first | (with_reducible first | exact HB.out | apply ba7 | apply bn7 | apply bd7 | refine bs7 ?_ GE195.out | refine bs7 ?_ GE196.out | refine bs7 ?_ GE197.out) | exact HB.out)) hb); clear BK195; clear BK196; clear BK197; clear HB; have BK195 := n0_; have BK196 := n1_; have BK197 := n2_; have HB := n3_; clear n0_ n1_ n2_ n3_; (try clear hb); (try clear hb2); (try clear hk); (try clear hi)) | ((with_reducible refine gate_dst (N:=9) rfl ?_); refine box_event ?hg (N:=9) ?hd (cs:=#[.string (⟨#[]⟩ : ByteArray), .string (⟨#[]⟩ : ByteArray)]) (t:=26) ?hr ?_; (case hd => rfl); (case hg => rfl); (case hr => first | (go_simp; done) | (go_simp; rfl)); intro gb217 hg w293 hbox hb; have n0_ := Am7 (kb7 (g:=gb195) (by (with_reducible repeat first | apply kn7 | apply kd7 | apply ka7); exact BK195.out) hb); have n1_ := Am7 (kb7 (g:=gb196) (by (with_reducible repeat first | apply kn7 | apply kd7 | apply ka7); exact BK196.out) hb); have n2_ := Am7 (kb7 (g:=gb197) (by (with_reducible repeat first | apply kn7 | apply kd7 | apply ka7); exact BK197.out) hb); have n3_ := Am7 (bp7 (by repeat (first | (with_reducible first | exact HB.out | apply ba7 | apply bn7 | apply bd7 | refine bs7 ?_ GE195.out | refine bs7 ?_ GE196.out | refine bs7 ?_ GE197.out) | exact HB.out)) hb); have n4_ := Am7 (hbox); have n5_ := Am7 ((by rw [hg]; exact (bz7 (by repeat (first | (with_reducible first | exact HB.out | apply ba7 | apply bn7 | apply bd7 | refine bs7 ?_ GE195.out | refine bs7 ?_ GE196.out | refine bs7 ?_ GE197.out) | exact HB.out))) : w.heap.size ≤ gb217)); have n6_ := Am7 ((by rw [hg]; exact (bz7 (by repeat (first | (with_reducible first | exact HB.out | apply ba7 | apply bn7 | apply bd7 | refine bs7 ?_ GE195.out | refine bs7 ?_ GE196.out | refine bs7 ?_ GE197.out) | exact HB.out))) : w.heap.size ≤ gb217)); have n7_ := Am7 ((by rw [hg]; exact Nat.ne_of_lt (blk_lt (g:=gb195) (by (with_reducible repeat first | apply kn7 | apply kd7 | apply ka7); exact BK195.out)) : gb195 ≠ gb217)); have n8_ := Am7 ((by rw [hg]; exact Nat.ne_of_gt (blk_lt (g:=gb195) (by (with_reducible repeat first | apply kn7 | apply kd7 | apply ka7); exact BK195.out)) : gb217 ≠ gb195)); have n9_ := Am7 ((by rw [hg]; exact Nat.ne_of_lt (blk_lt (g:=gb196) (by (with_reducible repeat first | apply kn7 | apply kd7 | apply ka7); exact BK196.out)) : gb196 ≠ gb217)); have n10_ := Am7 ((by rw [hg]; exact Nat.ne_of_gt (blk_lt (g:=gb196) (by (with_reducible repeat first | apply kn7 | apply kd7 | apply ka7); exact BK196.out)) : gb217 ≠ gb196)); have n11_ := Am7 ((by rw [hg]; exact Nat.ne_of_lt (blk_lt (g:=gb197) (by (with_reducible repeat first | apply kn7 | apply kd7 | apply ka7); exact BK197.out)) : gb197 ≠ gb217)); have n12_ := Am7 ((by rw [hg]; exact Nat.ne_of_gt (blk_lt (g:=gb197) (by (with_reducible repeat first | apply kn7 | apply kd7 | apply ka7); exact BK197.out)) : gb217 ≠ gb197)); clear BK195; clear BK196; clear BK197; clear HB; have BK195 := n0_; have BK196 := n1_; have BK197 := n2_; have HB := n3_; have BK217 := n4_; have GW217 := n5_; have GE217 := n6_; have NB195_217 := n7_; have NB217_195 := n8_; have NB196_217 := n9_; have NB217_196 := n10_; have NB197_217 := n11_; have NB217_197 := n12_; clear n0_ n1_ n2_ n3_ n4_ n5_ n6_ n7_ n8_ n9_ n10_ n11_ n12_; clear hb hbox hg; have hnb294 := NB217_195.out; have hnc294 := NB195_217.out; have hnb295 := NB217_196.out; have hnc295 := NB196_217.out; have hnb296 := NB217_197.out; have hnc296 := NB197_217.out; have hcz297_0 : w293.cell? ⟨gb217, 0, none⟩ = some (.string (⟨#[]⟩ : ByteArray)) := (kc7 BK217.out 0).trans rfl; have hcz297_1 : w293.cell? ⟨gb217, 1, none⟩ = some (.string (⟨#[]⟩ : ByteArray)) := (kc7 BK217.out 1).trans rfl; have hfz297_0 := kz7 BK217.out 0; have hfz297_1 := kz7 BK217.out 1))
         have n0_ : Aside0 (((w293.setCell ⟨gb217, 0, none⟩ (.string t214)).setCell ⟨gb217, 1, none⟩ (.string t215)).heap[gb195]? = some (.cells #[.string a0_0, .string a0_1] 26 (0, 0))) := ⟨by (with_reducible repeat first | apply kn7 | apply kd7 | apply ka7); refine kf7 ?_ NB195_217.out _; (with_reducible repeat first | apply kn7 | apply kd7 | apply ka7); refine kf7 ?_ NB195_217.out _; (with_reducible repeat first | apply kn7 | apply kd7 | apply ka7); exact BK195.out⟩
         have n1_ : Aside0 (((w293.setCell ⟨gb217, 0, none⟩ (.string t214)).setCell ⟨gb217, 1, none⟩ (.string t215)).heap[gb196]? = some (.cells #[.string a1_0, .string a1_1] 26 (0, 0))) := ⟨by (with_reducible repeat first | apply kn7 | apply kd7 | apply ka7); refine kf7 ?_ NB196_217.out _; (with_reducible repeat first | apply kn7 | apply kd7 | apply ka7); refine kf7 ?_ NB196_217.out _; (with_reducible repeat first | apply kn7 | apply kd7 | apply ka7); exact BK196.out⟩
         have n2_ : Aside0 (((w293.setCell ⟨gb217, 0, none⟩ (.string t214)).setCell ⟨gb217, 1, none⟩ (.string t215)).heap[gb197]? = some (.cells #[.string a2_0, .string a2_1] 26 (0, 0))) := ⟨by (with_reducible repeat first | apply kn7 | apply kd7 | apply ka7); refine kf7 ?_ NB197_217.out _; (with_reducible repeat first | apply kn7 | apply kd7 | apply ka7); refine kf7 ?_ NB197_217.out _; (with_reducible repeat first | apply kn7 | apply kd7 | apply ka7); exact BK197.out⟩
         have n3_ : Aside0 (((w293.setCell ⟨gb217, 0, none⟩ (.string t214)).setCell ⟨gb217, 1, none⟩ (.string t215)).heap[gb217]? = some (.cells #[.string t214, .string t215] 26 (0, 0))) := ⟨by (with_reducible repeat first | apply kn7 | apply kd7 | apply ka7); refine blk_put (cs:=#[.string t214, .string (⟨#[]⟩ : ByteArray)]) ?_ 1 _ rfl; (with_reducible repeat first | apply kn7 | apply kd7 | apply ka7); refine blk_put (cs:=#[.string (⟨#[]⟩ : ByteArray), .string (⟨#[]⟩ : ByteArray)]) ?_ 0 _ rfl; (with_reducible repeat first | apply kn7 | apply kd7 | apply ka7); exact BK217.out⟩
         have n4_ : Aside0 (Below w.heap.size w ((w293.setCell ⟨gb217, 0, none⟩ (.string t214)).setCell ⟨gb217, 1, none⟩ (.string t215))) := ⟨by repeat (first | (with_reducible first | exact HB.out | apply ba7 | apply bn7 | apply bd7 | refine bs7 ?_ GE195.out | refine bs7 ?_ GE196.out | refine bs7 ?_ GE197.out | refine bs7 ?_ GE217.out) | exact HB.out)⟩
         (try clear BK195)
         (try clear BK196)
         (try clear BK197)
         (try clear BK217)
         (try clear HB)
         generalize ((w293.setCell ⟨gb217, 0, none⟩ (.string t214)).setCell ⟨gb217, 1, none⟩ (.string t215)) = w298 at n0_ n1_ n2_ n3_ n4_ ⊢
         have BK195 := n0_
         have BK196 := n1_
         have BK197 := n2_
         have BK217 := n3_
         have HB := n4_
         clear n0_ n1_ n2_ n3_ n4_
         have n0_ := Am7 (kd7 BK195.out)
         have n1_ := Am7 (kd7 BK196.out)
         have n2_ := Am7 (kd7 BK197.out)
         have n3_ := Am7 (kd7 BK217.out)
         have n4_ := Am7 (bd7 HB.out)
         clear BK195
         clear BK196
         clear BK197
         clear BK217
         clear HB
         have BK195 := n0_
         have BK196 := n1_
         have BK197 := n2_
         have BK217 := n3_
         have HB := n4_
         clear n0_ n1_ n2_ n3_ n4_
         refine start_ (n:=31) (S:=fun w' => w'.cell? ⟨gb195, 0, none⟩ = some (.string a0_0) ∧ w'.cell? ⟨gb195, 1, none⟩ = some (.string a0_1)) (ds:=[]) #[false, false, false, false, false, false, false, false, false, false, false, false, false, false, false, false, false, false, false, false, false, false, false, false, false, false, false, false, false, false, false] (by kernel_rfl) rfl rfl ⟨(kc7 BK195.out 0).trans rfl, (kc7 BK195.out 1).trans rfl⟩ (fun hHeld => ?_); refine with_tabW watershedlaw04_SpanWithin.tab8 watershedlaw04_SpanWithin.bits8 (fun HT_ HW_ => ?_)
         generalize w298.drew = w299 at BK195 BK196 BK197 BK217 HB hHeld ⊢
         refine take_ (i:=0) (N:=some 70) (v:=?_) (a' := ?_) #[true, false, false, false, false, false, false, false, false, false, false, false, false, false, false, false, false, false, false, false, false, false, false, false, false, false, false, false, false, false, false] rfl rfl (take_ofW HT_.out HW_.out (by kernel_rfl)) (fun _ _ _ h => h) (Or.inl ⟨by rfl, ?_⟩) hHeld ?_ ?_
         rotate_left
         ·rintro w' ⟨s0, s1⟩
          go_simp
          with_reducible rfl
         rotate_left
         ·simp only [Act.put, sa7, sz7, ss7, i64_w, i32_w]
          rfl
         refine take_ (i:=1) (N:=some 71) (v:=?_) (a' := ?_) #[true, true, false, false, false, false, false, false, false, false, false, false, false, false, false, false, false, false, false, false, false, false, false, false, false, false, false, false, false, false, false] rfl rfl (take_ofW HT_.out HW_.out (by kernel_rfl)) (fun _ _ _ h => h) (Or.inl ⟨by rfl, ?_⟩) hHeld ?_ ?_
         rotate_left
         ·rintro w' ⟨s0, s1⟩
          go_simp
          with_reducible rfl
         rotate_left
         ·simp only [Act.put, sa7, sz7, ss7, i64_w, i32_w]
          rfl
         refine take_ (i:=3) (N:=some 73) (v:=?_) (a' := ?_) #[true, true, false, true, false, false, false, false, false, false, false, false, false, false, false, false, false, false, false, false, false, false, false, false, false, false, false, false, false, false, false] rfl rfl (take_ofW HT_.out HW_.out (by kernel_rfl)) (fun _ _ _ h => h) (Or.inl ⟨by rfl, ?_⟩) hHeld ?_ ?_
         rotate_left
         ·rintro w' ⟨s0, s1⟩
          go_simp
          with_reducible rfl
         rotate_left
         ·simp only [Act.put, sa7, sz7, ss7, i64_w, i32_w]
          rfl
         refine one_ (i:=2) (N:=some 72) #[true, true, true, true, false, false, false, false, false, false, false, false, false, false, false, false, false, false, false, false, false, false, false, false, false, false, false, false, false, false, false] rfl rfl (one_of HT_.out (by kernel_rfl)) (by decide) (fun K hK => ?_)
         refine goes_ Try.func14 (by kernel_rfl) rfl #[.agg #[.string a0_0, .string a0_1], .agg #[.string a0_0, .string a0_1]] (by rfl) rfl rfl (by (try simp only [ma7, mc7, mn7]); first | done | rfl | (simp only [ld7, lt_7]; rfl)) ?_
         with_reducible refine (span_Within.calls kj8 a0_0 a0_1 a0_0 a0_1 t218 _ A233.out).mono ?_
         rintro e w300 ⟨rfl, hb⟩
         refine ⟨_, rfl, ?_⟩
         have n0_ := Am7 (kb7 (g:=gb195) (by (with_reducible repeat first | apply kn7 | apply kd7 | apply ka7); exact BK195.out) hb)
         have n1_ := Am7 (kb7 (g:=gb196) (by (with_reducible repeat first | apply kn7 | apply kd7 | apply ka7); exact BK196.out) hb)
         have n2_ := Am7 (kb7 (g:=gb197) (by (with_reducible repeat first | apply kn7 | apply kd7 | apply ka7); exact BK197.out) hb)
         have n3_ := Am7 (kb7 (g:=gb217) (by (with_reducible repeat first | apply kn7 | apply kd7 | apply ka7); exact BK217.out) hb)
         have n4_ := Am7 (bp7 (by repeat (first | (with_reducible first | exact HB.out | apply ba7 | apply bn7 | apply bd7 | refine bs7 ?_ GE195.out | refine bs7 ?_ GE196.out | refine bs7 ?_ GE197.out | refine bs7 ?_ GE217.out) | exact HB.out)) hb)
         clear BK195
         clear BK196
         clear BK197
         clear BK217
         clear HB
         have BK195 := n0_
         have BK196 := n1_
         have BK197 := n2_
         have BK217 := n3_
         have HB := n4_
         clear n0_ n1_ n2_ n3_ n4_
         (try clear hb)
         (try clear hb2)
         (try clear hk)
         (try clear hi)
         refine hK.out _ _ ⟨(kc7 BK195.out 0).trans rfl, (kc7 BK195.out 1).trans rfl⟩ (fun hHeld => ?_)
         clear hK K
         refine norm_ (a' := ?_) ?_ ?_
         rotate_left
         ·show Act.put _ (some 72) _ = _
          simp only [Act.put, sa7, sz7, ss7, i64_w, i32_w]
          rfl
         refine one_ (i:=4) (N:=some 74) #[true, true, true, true, true, false, false, false, false, false, false, false, false, false, false, false, false, false, false, false, false, false, false, false, false, false, false, false, false, false, false] rfl rfl (one_of HT_.out (by kernel_rfl)) (by decide) (fun K hK => ?_)
         refine goes_ Try.func16 (by kernel_rfl) rfl #[.agg #[.string a0_0, .string a0_1]] (by rfl) rfl rfl (by (try simp only [ma7, mc7, mn7]); first | done | rfl | (simp only [ld7, lt_7]; rfl)) ?_
         with_reducible refine (span_Right.calls kj8 a0_0 a0_1 t219 _ A234.out).mono ?_
         rintro e w301 ⟨rfl, hb⟩
         refine ⟨_, rfl, ?_⟩
         have n0_ := Am7 (kb7 (g:=gb195) (by (with_reducible repeat first | apply kn7 | apply kd7 | apply ka7); exact BK195.out) hb)
         have n1_ := Am7 (kb7 (g:=gb196) (by (with_reducible repeat first | apply kn7 | apply kd7 | apply ka7); exact BK196.out) hb)
         have n2_ := Am7 (kb7 (g:=gb197) (by (with_reducible repeat first | apply kn7 | apply kd7 | apply ka7); exact BK197.out) hb)
         have n3_ := Am7 (kb7 (g:=gb217) (by (with_reducible repeat first | apply kn7 | apply kd7 | apply ka7); exact BK217.out) hb)
         have n4_ := Am7 (bp7 (by repeat (first | (with_reducible first | exact HB.out | apply ba7 | apply bn7 | apply bd7 | refine bs7 ?_ GE195.out | refine bs7 ?_ GE196.out | refine bs7 ?_ GE197.out | refine bs7 ?_ GE217.out) | exact HB.out)) hb)
         clear BK195
         clear BK196
         clear BK197
         clear BK217
         clear HB
         have BK195 := n0_
         have BK196 := n1_
         have BK197 := n2_
         have BK217 := n3_
         have HB := n4_
         clear n0_ n1_ n2_ n3_ n4_
         (try clear hb)
         (try clear hb2)
         (try clear hk)
         (try clear hi)
         refine hK.out _ _ ⟨(kc7 BK195.out 0).trans rfl, (kc7 BK195.out 1).trans rfl⟩ (fun hHeld => ?_)
         clear hK K
         refine norm_ (a' := ?_) ?_ ?_
         rotate_left
         ·show Act.put _ (some 74) _ = _
          simp only [Act.put, sa7, sz7, ss7, i64_w, i32_w]
          rfl
         refine pure_ (i:=5) (N:=some 75) (v:=?_) (a' := ?_) #[true, true, true, true, true, true, false, false, false, false, false, false, false, false, false, false, false, false, false, false, false, false, false, false, false, false, false, false, false, false, false] rfl rfl (any_of HT_.out (by kernel_rfl)) (fun _ _ _ h => h) (Or.inl ⟨by rfl, ?_⟩) ?_ ?_
         rotate_left
         ·intro w'
          go_simp
          with_reducible rfl
         rotate_left
         ·simp only [Act.put, sa7, sz7, ss7, i64_w, i32_w]
          rfl
         refine pure_ (i:=6) (N:=some 76) (v:=?_) (a' := ?_) #[true, true, true, true, true, true, true, false, false, false, false, false, false, false, false, false, false, false, false, false, false, false, false, false, false, false, false, false, false, false, false] rfl rfl (any_of HT_.out (by kernel_rfl)) (fun _ _ _ h => h) (Or.inl ⟨by rfl, ?_⟩) ?_ ?_
         rotate_left
         ·intro w'
          go_simp
          with_reducible rfl
         rotate_left
         ·simp only [Act.put, sa7, sz7, ss7, i64_w, i32_w]
          rfl
         refine pure_ (i:=7) (N:=some 77) (v:=?_) (a' := ?_) #[true, true, true, true, true, true, true, true, false, false, false, false, false, false, false, false, false, false, false, false, false, false, false, false, false, false, false, false, false, false, false] rfl rfl (any_of HT_.out (by kernel_rfl)) (fun _ _ _ h => h) (Or.inl ⟨by rfl, ?_⟩) ?_ ?_
         rotate_left
         ·intro w'
          go_simp
          with_reducible rfl
         rotate_left
         ·simp only [Act.put, sa7, sz7, ss7, i64_w, i32_w]
          rfl
         refine pure_ (i:=8) (N:=some 78) (v:=?_) (a' := ?_) #[true, true, true, true, true, true, true, true, true, false, false, false, false, false, false, false, false, false, false, false, false, false, false, false, false, false, false, false, false, false, false] rfl rfl (any_of HT_.out (by kernel_rfl)) (fun _ _ _ h => h) (Or.inl ⟨by rfl, ?_⟩) ?_ ?_
         rotate_left
         ·intro w'
          go_simp
          with_reducible rfl
         rotate_left
         ·simp only [Act.put, sa7, sz7, ss7, i64_w, i32_w]
          rfl
         refine pure_ (i:=9) (N:=some 79) (v:=?_) (a' := ?_) #[true, true, true, true, true, true, true, true, true, true, false, false, false, false, false, false, false, false, false, false, false, false, false, false, false, false, false, false, false, false, false] rfl rfl (any_of HT_.out (by kernel_rfl)) (fun _ _ _ h => h) (Or.inl ⟨by rfl, ?_⟩) ?_ ?_
         rotate_left
         ·intro w'
          go_simp
          with_reducible rfl
         rotate_left
         ·simp only [Act.put, sa7, sz7, ss7, i64_w, i32_w]
          rfl
         refine pure_ (i:=10) (N:=some 80) (v:=undef) (a' := ?_) #[true, true, true, true, true, true, true, true, true, true, true, false, false, false, false, false, false, false, false, false, false, false, false, false, false, false, false, false, false, false, false] rfl rfl (any_of HT_.out (by kernel_rfl)) (fun _ _ _ h => h) (Or.inr ⟨by rfl, rfl⟩) ?_ ?_
         rotate_left
         ·simp only [Act.put, sa7, sz7, ss7, i64_w, i32_w]
          rfl
         refine pure_ (i:=11) (N:=some 81) (v:=undef) (a' := ?_) #[true, true, true, true, true, true, true, true, true, true, true, true, false, false, false, false, false, false, false, false, false, false, false, false, false, false, false, false, false, false, false] rfl rfl (any_of HT_.out (by kernel_rfl)) (fun _ _ _ h => h) (Or.inr ⟨by rfl, rfl⟩) ?_ ?_
         rotate_left
         ·simp only [Act.put, sa7, sz7, ss7, i64_w, i32_w]
          rfl
         refine pure_ (i:=12) (N:=some 82) (v:=undef) (a' := ?_) #[true, true, true, true, true, true, true, true, true, true, true, true, true, false, false, false, false, false, false, false, false, false, false, false, false, false, false, false, false, false, false] rfl rfl (any_of HT_.out (by kernel_rfl)) (fun _ _ _ h => h) (Or.inr ⟨by rfl, rfl⟩) ?_ ?_
         rotate_left
         ·simp only [Act.put, sa7, sz7, ss7, i64_w, i32_w]
          rfl
         refine pure_ (i:=13) (N:=some 83) (v:=undef) (a' := ?_) #[true, true, true, true, true, true, true, true, true, true, true, true, true, true, false, false, false, false, false, false, false, false, false, false, false, false, false, false, false, false, false] rfl rfl (any_of HT_.out (by kernel_rfl)) (fun _ _ _ h => h) (Or.inr ⟨by rfl, rfl⟩) ?_ ?_
         rotate_left
         ·simp only [Act.put, sa7, sz7, ss7, i64_w, i32_w]
          rfl
         refine pure_ (i:=14) (N:=some 84) (v:=undef) (a' := ?_) #[true, true, true, true, true, true, true, true, true, true, true, true, true, true, true, false, false, false, false, false, false, false, false, false, false, false, false, false, false, false, false] rfl rfl (any_of HT_.out (by kernel_rfl)) (fun _ _ _ h => h) (Or.inr ⟨by rfl, rfl⟩) ?_ ?_
         rotate_left
         ·simp only [Act.put, sa7, sz7, ss7, i64_w, i32_w]
          rfl
         refine pure_ (i:=15) (N:=some 85) (v:=undef) (a' := ?_) #[true, true, true, true, true, true, true, true, true, true, true, true, true, true, true, true, false, false, false, false, false, false, false, false, false, false, false, false, false, false, false] rfl rfl (any_of HT_.out (by kernel_rfl)) (fun _ _ _ h => h) (Or.inr ⟨by rfl, rfl⟩) ?_ ?_
         rotate_left
         ·simp only [Act.put, sa7, sz7, ss7, i64_w, i32_w]
          rfl
         refine pure_ (i:=16) (N:=some 86) (v:=undef) (a' := ?_) #[true, true, true, true, true, true, true, true, true, true, true, true, true, true, true, true, true, false, false, false, false, false, false, false, false, false, false, false, false, false, false] rfl rfl (any_of HT_.out (by kernel_rfl)) (fun _ _ _ h => h) (Or.inr ⟨by rfl, rfl⟩) ?_ ?_
         rotate_left
         ·simp only [Act.put, sa7, sz7, ss7, i64_w, i32_w]
          rfl
         refine pure_ (i:=17) (N:=some 87) (v:=undef) (a' := ?_) #[true, true, true, true, true, true, true, true, true, true, true, true, true, true, true, true, true, true, false, false, false, false, false, false, false, false, false, false, false, false, false] rfl rfl (any_of HT_.out (by kernel_rfl)) (fun _ _ _ h => h) (Or.inr ⟨by rfl, rfl⟩) ?_ ?_
         rotate_left
         ·simp only [Act.put, sa7, sz7, ss7, i64_w, i32_w]
          rfl
         refine pure_ (i:=18) (N:=some 88) (v:=?_) (a' := ?_) #[true, true, true, true, true, true, true, true, true, true, true, true, true, true, true, true, true, true, true, false, false, false, false, false, false, false, false, false, false, false, false] rfl rfl (any_of HT_.out (by kernel_rfl)) (fun _ _ _ h => h) (Or.inl ⟨by rfl, ?_⟩) ?_ ?_
         rotate_left
         ·intro w'
          go_simp
          with_reducible rfl
         rotate_left
         ·simp only [Act.put, sa7, sz7, ss7, i64_w, i32_w]
          rfl
         refine pure_ (i:=19) (N:=some 89) (v:=?_) (a' := ?_) #[true, true, true, true, true, true, true, true, true, true, true, true, true, true, true, true, true, true, true, true, false, false, false, false, false, false, false, false, false, false, false] rfl rfl (any_of HT_.out (by kernel_rfl)) (fun _ _ _ h => h) (Or.inl ⟨by rfl, ?_⟩) ?_ ?_
         rotate_left
         ·intro w'
          go_simp
          with_reducible rfl
         rotate_left
         ·simp only [Act.put, sa7, sz7, ss7, i64_w, i32_w]
          rfl
         refine pure_ (i:=20) (N:=some 90) (v:=?_) (a' := ?_) #[true, true, true, true, true, true, true, true, true, true, true, true, true, true, true, true, true, true, true, true, true, false, false, false, false, false, false, false, false, false, false] rfl rfl (any_of HT_.out (by kernel_rfl)) (fun _ _ _ h => h) (Or.inl ⟨by rfl, ?_⟩) ?_ ?_
         rotate_left
         ·intro w'
          go_simp
          with_reducible rfl
         rotate_left
         ·simp only [Act.put, sa7, sz7, ss7, i64_w, i32_w]
          rfl
         refine take_ (i:=21) (N:=some 91) (v:=?_) (a' := ?_) #[true, true, true, true, true, true, true, true, true, true, true, true, true, true, true, true, true, true, true, true, true, true, false, false, false, false, false, false, false, false, false] rfl rfl (take_ofW HT_.out HW_.out (by kernel_rfl)) (fun _ _ _ h => h) (Or.inl ⟨by rfl, ?_⟩) hHeld ?_ ?_
         rotate_left
         ·rintro w' ⟨s0, s1⟩
          go_simp
          with_reducible rfl
         rotate_left
         ·simp only [Act.put, sa7, sz7, ss7, i64_w, i32_w]
          rfl
         refine one_ (i:=22) (N:=some 92) #[true, true, true, true, true, true, true, true, true, true, true, true, true, true, true, true, true, true, true, true, true, true, true, false, false, false, false, false, false, false, false] rfl rfl (one_of HT_.out (by kernel_rfl)) (by decide) (fun K hK => ?_)
         refine goes_ Try.func16 (by kernel_rfl) rfl #[.agg #[.string a0_0, .string a0_1]] (by rfl) rfl rfl (by (try simp only [ma7, mc7, mn7]); first | done | rfl | (simp only [ld7, lt_7]; rfl)) ?_
         with_reducible refine (span_Right.calls kj8 a0_0 a0_1 true _ A283.out).mono ?_
         rintro e w302 ⟨rfl, hb⟩
         refine ⟨_, rfl, ?_⟩
         have n0_ := Am7 (kb7 (g:=gb195) (by (with_reducible repeat first | apply kn7 | apply kd7 | apply ka7); exact BK195.out) hb)
         have n1_ := Am7 (kb7 (g:=gb196) (by (with_reducible repeat first | apply kn7 | apply kd7 | apply ka7); exact BK196.out) hb)
         have n2_ := Am7 (kb7 (g:=gb197) (by (with_reducible repeat first | apply kn7 | apply kd7 | apply ka7); exact BK197.out) hb)
         have n3_ := Am7 (kb7 (g:=gb217) (by (with_reducible repeat first | apply kn7 | apply kd7 | apply ka7); exact BK217.out) hb)
         have n4_ := Am7 (bp7 (by repeat (first | (with_reducible first | exact HB.out | apply ba7 | apply bn7 | apply bd7 | refine bs7 ?_ GE195.out | refine bs7 ?_ GE196.out | refine bs7 ?_ GE197.out | refine bs7 ?_ GE217.out) | exact HB.out)) hb)
         clear BK195
         clear BK196
         clear BK197
         clear BK217
         clear HB
         have BK195 := n0_
         have BK196 := n1_
         have BK197 := n2_
         have BK217 := n3_
         have HB := n4_
         clear n0_ n1_ n2_ n3_ n4_
         (try clear hb)
         (try clear hb2)
         (try clear hk)
         (try clear hi)
         refine hK.out _ _ ⟨(kc7 BK195.out 0).trans rfl, (kc7 BK195.out 1).trans rfl⟩ (fun hHeld => ?_)
         clear hK K
         refine norm_ (a' := ?_) ?_ ?_
         rotate_left
         ·show Act.put _ (some 92) _ = _
          simp only [Act.put, sa7, sz7, ss7, i64_w, i32_w]
          rfl
         refine pure_ (i:=23) (N:=some 93) (v:=?_) (a' := ?_) #[true, true, true, true, true, true, true, true, true, true, true, true, true, true, true, true, true, true, true, true, true, true, true, true, false, false, false, false, false, false, false] rfl rfl (any_of HT_.out (by kernel_rfl)) (fun _ _ _ h => h) (Or.inl ⟨by rfl, ?_⟩) ?_ ?_
         rotate_left
         ·intro w'
          go_simp
          with_reducible rfl
         rotate_left
         ·simp only [Act.put, sa7, sz7, ss7, i64_w, i32_w]
          rfl
         refine pure_ (i:=24) (N:=some 94) (v:=?_) (a' := ?_) #[true, true, true, true, true, true, true, true, true, true, true, true, true, true, true, true, true, true, true, true, true, true, true, true, true, false, false, false, false, false, false] rfl rfl (any_of HT_.out (by kernel_rfl)) (fun _ _ _ h => h) (Or.inl ⟨by rfl, ?_⟩) ?_ ?_
         rotate_left
         ·intro w'
          go_simp
          with_reducible rfl
         rotate_left
         ·simp only [Act.put, sa7, sz7, ss7, i64_w, i32_w]
          rfl
         refine take_ (i:=25) (N:=some 95) (v:=?_) (a' := ?_) #[true, true, true, true, true, true, true, true, true, true, true, true, true, true, true, true, true, true, true, true, true, true, true, true, true, true, false, false, false, false, false] rfl rfl (take_ofW HT_.out HW_.out (by kernel_rfl)) (fun _ _ _ h => h) (Or.inl ⟨by rfl, ?_⟩) hHeld ?_ ?_
         rotate_left
         ·rintro w' ⟨s0, s1⟩
          go_simp
          with_reducible rfl
         rotate_left
         ·simp only [Act.put, sa7, sz7, ss7, i64_w, i32_w]
          rfl
         refine one_ (i:=26) (N:=some 96) #[true, true, true, true, true, true, true, true, true, true, true, true, true, true, true, true, true, true, true, true, true, true, true, true, true, true, true, false, false, false, false] rfl rfl (one_of HT_.out (by kernel_rfl)) (by decide) (fun K hK => ?_)
         refine goes_ Try.func27 (by kernel_rfl) rfl #[] (by rfl) rfl rfl (by (try simp only [ma7, mc7, mn7]); first | done | rfl | (simp only [ld7, lt_7]; rfl)) ?_
         with_reducible refine (span_All.calls  t227 t228 _ A285.out).mono ?_
         rintro e w303 ⟨rfl, hb⟩
         refine ⟨_, rfl, ?_⟩
         have n0_ := Am7 (kb7 (g:=gb195) (by (with_reducible repeat first | apply kn7 | apply kd7 | apply ka7); exact BK195.out) hb)
         have n1_ := Am7 (kb7 (g:=gb196) (by (with_reducible repeat first | apply kn7 | apply kd7 | apply ka7); exact BK196.out) hb)
         have n2_ := Am7 (kb7 (g:=gb197) (by (with_reducible repeat first | apply kn7 | apply kd7 | apply ka7); exact BK197.out) hb)
         have n3_ := Am7 (kb7 (g:=gb217) (by (with_reducible repeat first | apply kn7 | apply kd7 | apply ka7); exact BK217.out) hb)
         have n4_ := Am7 (bp7 (by repeat (first | (with_reducible first | exact HB.out | apply ba7 | apply bn7 | apply bd7 | refine bs7 ?_ GE195.out | refine bs7 ?_ GE196.out | refine bs7 ?_ GE197.out | refine bs7 ?_ GE217.out) | exact HB.out)) hb)
         clear BK195
         clear BK196
         clear BK197
         clear BK217
         clear HB
         have BK195 := n0_
         have BK196 := n1_
         have BK197 := n2_
         have BK217 := n3_
         have HB := n4_
         clear n0_ n1_ n2_ n3_ n4_
         (try clear hb)
         (try clear hb2)
         (try clear hk)
         (try clear hi)
         refine hK.out _ _ ⟨(kc7 BK195.out 0).trans rfl, (kc7 BK195.out 1).trans rfl⟩ (fun hHeld => ?_)
         clear hK K
         refine norm_ (a' := ?_) ?_ ?_
         rotate_left
         ·show Act.put _ (some 96) _ = _
          simp only [Act.put, sa7, sz7, ss7, i64_w, i32_w]
          rfl
         refine one_ (i:=27) (N:=some 97) #[true, true, true, true, true, true, true, true, true, true, true, true, true, true, true, true, true, true, true, true, true, true, true, true, true, true, true, true, false, false, false] rfl rfl (one_of HT_.out (by kernel_rfl)) (by decide) (fun K hK => ?_)
         refine goes_ Try.func14 (by kernel_rfl) rfl #[.agg #[.string a0_0, .string a0_1], .agg #[.string t227, .string t228]] (by rfl) rfl rfl (by (try simp only [ma7, mc7, mn7]); first | done | rfl | (simp only [ld7, lt_7]; rfl)) ?_
         with_reducible refine (span_Within.calls kj8 a0_0 a0_1 t227 t228 t229 _ A286.out).mono ?_
         rintro e w304 ⟨rfl, hb⟩
         refine ⟨_, rfl, ?_⟩
         have n0_ := Am7 (kb7 (g:=gb195) (by (with_reducible repeat first | apply kn7 | apply kd7 | apply ka7); exact BK195.out) hb)
         have n1_ := Am7 (kb7 (g:=gb196) (by (with_reducible repeat first | apply kn7 | apply kd7 | apply ka7); exact BK196.out) hb)
         have n2_ := Am7 (kb7 (g:=gb197) (by (with_reducible repeat first | apply kn7 | apply kd7 | apply ka7); exact BK197.out) hb)
         have n3_ := Am7 (kb7 (g:=gb217) (by (with_reducible repeat first | apply kn7 | apply kd7 | apply ka7); exact BK217.out) hb)
         have n4_ := Am7 (bp7 (by repeat (first | (with_reducible first | exact HB.out | apply ba7 | apply bn7 | apply bd7 | refine bs7 ?_ GE195.out | refine bs7 ?_ GE196.out | refine bs7 ?_ GE197.out | refine bs7 ?_ GE217.out) | exact HB.out)) hb)
         clear BK195
         clear BK196
         clear BK197
         clear BK217
         clear HB
         have BK195 := n0_
         have BK196 := n1_
         have BK197 := n2_
         have BK217 := n3_
         have HB := n4_
         clear n0_ n1_ n2_ n3_ n4_
         (try clear hb)
         (try clear hb2)
         (try clear hk)
         (try clear hi)
         refine hK.out _ _ ⟨(kc7 BK195.out 0).trans rfl, (kc7 BK195.out 1).trans rfl⟩ (fun hHeld => ?_)
         clear hK K
         refine norm_ (a' := ?_) ?_ ?_
         rotate_left
         ·show Act.put _ (some 97) _ = _
          simp only [Act.put, sa7, sz7, ss7, i64_w, i32_w]
          rfl
         refine pure_ (i:=28) (N:=some 98) (v:=?_) (a' := ?_) #[true, true, true, true, true, true, true, true, true, true, true, true, true, true, true, true, true, true, true, true, true, true, true, true, true, true, true, true, true, false, false] rfl rfl (any_of HT_.out (by kernel_rfl)) (fun _ _ _ h => h) (Or.inl ⟨by rfl, ?_⟩) ?_ ?_
         rotate_left
         ·intro w'
          go_simp
          with_reducible rfl
         rotate_left
         ·simp only [Act.put, sa7, sz7, ss7, i64_w, i32_w]
          rfl
         refine pure_ (i:=29) (N:=some 99) (v:=?_) (a' := ?_) #[true, true, true, true, true, true, true, true, true, true, true, true, true, true, true, true, true, true, true, true, true, true, true, true, true, true, true, true, true, true, false] rfl rfl (any_of HT_.out (by kernel_rfl)) (fun _ _ _ h => h) (Or.inl ⟨by rfl, ?_⟩) ?_ ?_
         rotate_left
         ·intro w'
          go_simp
          with_reducible rfl
         rotate_left
         ·simp only [Act.put, sa7, sz7, ss7, i64_w, i32_w]
          rfl
         refine pure_ (i:=30) (N:=some 8) (v:=?_) (a' := ?_) #[true, true, true, true, true, true, true, true, true, true, true, true, true, true, true, true, true, true, true, true, true, true, true, true, true, true, true, true, true, true, true] rfl rfl (any_of HT_.out (by kernel_rfl)) (fun _ _ _ h => h) (Or.inl ⟨by rfl, ?_⟩) ?_ ?_
         rotate_left
         ·intro w'
          go_simp
          with_reducible rfl
         rotate_left
         ·simp only [Act.put, sa7, sz7, ss7, i64_w, i32_w]
          rfl
         refine done_ (done_of HT_.out (by kernel_rfl)) ?_
         try go_wp2
         go_ret
         exact ⟨by first | rfl | (simp [errW_none, errW_some] <;> rfl) | (simp [*, errW_none, errW_some] <;> rfl), by repeat (first | (with_reducible first | exact HB.out | apply ba7 | apply bn7 | apply bd7 | refine bs7 ?_ GE195.out | refine bs7 ?_ GE196.out | refine bs7 ?_ GE197.out | refine bs7 ?_ GE217.out) | exact HB.out)⟩
        ·replace c284 := Bool.eq_false_iff.mpr c284
         subst c284
         rw [if_neg (show ¬ (false = true) by decide)] at H
         obtain rfl := Option.some.inj H
         have hnb305 := NB195_196.out
         have hnc305 := NB196_195.out
         have hnb306 := NB195_197.out
         have hnc306 := NB197_195.out
         have hcz307_0 : wc.cell? ⟨gb195, 0, none⟩ = some (.string a0_0) := (kc7 BK195.out 0).trans rfl
         have hcz307_1 : wc.cell? ⟨gb195, 1, none⟩ = some (.string a0_1) := (kc7 BK195.out 1).trans rfl
         have hfz307_0 := kz7 BK195.out 0
         have hfz307_1 := kz7 BK195.out 1
         have hnb308 := NB196_197.out
         have hnc308 := NB197_196.out
         have hcz309_0 : wc.cell? ⟨gb196, 0, none⟩ = some (.string a1_0) := (kc7 BK196.out 0).trans rfl
         have hcz309_1 : wc.cell? ⟨gb196, 1, none⟩ = some (.string a1_1) := (kc7 BK196.out 1).trans rfl
         have hfz309_0 := kz7 BK196.out 0
         have hfz309_1 := kz7 BK196.out 1
         try go_wp2_with (first | ((with_reducible refine gate_callee (f:=12) rfl ?_); refine goesL_ (some 67) rfl rfl Try.func12 (by kernel_rfl) rfl #[.agg #[.string a0_0, .string a0_1], .agg #[.string a1_0, .string a1_1]] rfl (by (try simp only [ma7, mc7, mn7]); first | done | rfl | (simp only [ld7, lt_7]; rfl)) ?_; (with_reducible refine (span_Meet.calls kj8 a0_0 a0_1 a1_0 a1_1 t214 t215 false _ A232.out).mono ?_); rintro e w310 ⟨rfl, hb⟩; refine ⟨_, rfl, ?_⟩; have n0_ := Am7 (kb7 (g:=gb195) (by (with_reducible repeat first | apply kn7 | apply kd7 | apply ka7); exact BK195.out) hb); have n1_ := Am7 (kb7 (g:=gb196) (by (with_reducible repeat first | apply kn7 | apply kd7 | apply ka7); exact BK196.out) hb); have n2_ := Am7 (kb7 (g:=gb197) (by (with_reducible repeat first | apply kn7 | apply kd7 | apply ka7); exact BK197.out) hb); have n3_ := Am7 (bp7 (by repeat (first | (with_reducible first | exact HB.out | apply ba7 | apply bn7 | apply bd7 | refine bs7 ?_ GE195.out | refine bs7 ?_ GE196.out | refine bs7 ?_ GE197.out) | exact HB.out)) hb); clear BK195; clear BK196; clear BK197; clear HB; have BK195 := n0_; have BK196 := n1_; have BK197 := n2_; have HB := n3_; clear n0_ n1_ n2_ n3_; (try clear hb); (try clear hb2); (try clear hk); (try clear hi)) | ((with_reducible refine gate_dst (N:=9) rfl ?_); refine box_event ?hg (N:=9) ?hd (cs:=#[.string (⟨#[]⟩ : ByteArray), .string (⟨#[]⟩ : ByteArray)]) (t:=26) ?hr ?_; (case hd => rfl); (case hg => rfl); (case hr => first | (go_simp; done) | (go_simp; rfl)); intro gb217 hg w311 hbox hb; have n0_ := Am7 (kb7 (g:=gb195) (by (with_reducible repeat first | apply kn7 | apply kd7 | apply ka7); exact BK195.out) hb); have n1_ := Am7 (kb7 (g:=gb196) (by (with_reducible repeat first | apply kn7 | apply kd7 | apply ka7); exact BK196.out) hb); have n2_ := Am7 (kb7 (g:=gb197) (by (with_reducible repeat first | apply kn7 | apply kd7 | apply ka7); exact BK197.out) hb); have n3_ := Am7 (bp7 (by repeat (first | (with_reducible first | exact HB.out | apply ba7 | apply bn7 | apply bd7 | refine bs7 ?_ GE195.out | refine bs7 ?_ GE196.out | refine bs7 ?_ GE197.out) | exact HB.out)) hb); have n4_ := Am7 (hbox); have n5_ := Am7 ((by rw [hg]; exact (bz7 (by repeat (first | (with_reducible first | exact HB.out | apply ba7 | apply bn7 | apply bd7 | refine bs7 ?_ GE195.out | refine bs7 ?_ GE196.out | refine bs7 ?_ GE197.out) | exact HB.out))) : w.heap.size ≤ gb217)); have n6_ := Am7 ((by rw [hg]; exact (bz7 (by repeat (first | (with_reducible first | exact HB.out | apply ba7 | apply bn7 | apply bd7 | refine bs7 ?_ GE195.out | refine bs7 ?_ GE196.out | refine bs7 ?_ GE197.out) | exact HB.out))) : w.heap.size ≤ gb217)); have n7_ := Am7 ((by rw [hg]; exact Nat.ne_of_lt (blk_lt (g:=gb195) (by (with_reducible repeat first | apply kn7 | apply kd7 | apply ka7); exact BK195.out)) : gb195 ≠ gb217)); have n8_ := Am7 ((by rw [hg]; exact Nat.ne_of_gt (blk_lt (g:=gb195) (by (with_reducible repeat first | apply kn7 | apply kd7 | apply ka7); exact BK195.out)) : gb217 ≠ gb195)); have n9_ := Am7 ((by rw [hg]; exact Nat.ne_of_lt (blk_lt (g:=gb196) (by (with_reducible repeat first | apply kn7 | apply kd7 | apply ka7); exact BK196.out)) : gb196 ≠ gb217)); have n10_ := Am7 ((by rw [hg]; exact Nat.ne_of_gt (blk_lt (g:=gb196) (by (with_reducible repeat first | apply kn7 | apply kd7 | apply ka7); exact BK196.out)) : gb217 ≠ gb196)); have n11_ := Am7 ((by rw [hg]; exact Nat.ne_of_lt (blk_lt (g:=gb197) (by (with_reducible repeat first | apply kn7 | apply kd7 | apply ka7); exact BK197.out)) : gb197 ≠ gb217)); have n12_ := Am7 ((by rw [hg]; exact Nat.ne_of_gt (blk_lt (g:=gb197) (by (with_reducible repeat first | apply kn7 | apply kd7 | apply ka7); exact BK197.out)) : gb217 ≠ gb197)); clear BK195; clear BK196; clear BK197; clear HB; have BK195 := n0_; have BK196 := n1_; have BK197 := n2_; have HB := n3_; have BK217 := n4_; have GW217 := n5_; have GE217 := n6_; have NB195_217 := n7_; have NB217_195 := n8_; have NB196_217 := n9_; have NB217_196 := n10_; have NB197_217 := n11_; have NB217_197 := n12_; clear n0_ n1_ n2_ n3_ n4_ n5_ n6_ n7_ n8_ n9_ n10_ n11_ n12_; clear hb hbox hg; have hnb312 := NB217_195.out; have hnc312 := NB195_217.out; have hnb313 := NB217_196.out; have hnc313 := NB196_217.out; have hnb314 := NB217_197.out; have hnc314 := NB197_217.out; have hcz315_0 : w311.cell? ⟨gb217, 0, none⟩ = some (.string (⟨#[]⟩ : ByteArray)) := (kc7 BK217.out 0).trans rfl; have hcz315_1 : w311.cell? ⟨gb217, 1, none⟩ = some (.string (⟨#[]⟩ : ByteArray)) := (kc7 BK217.out 1).trans rfl; have hfz315_0 := kz7 BK217.out 0; have hfz315_1 := kz7 BK217.out 1))
         have n0_ : Aside0 (((w311.setCell ⟨gb217, 0, none⟩ (.string t214)).setCell ⟨gb217, 1, none⟩ (.string t215)).heap[gb195]? = some (.cells #[.string a0_0, .string a0_1] 26 (0, 0))) := ⟨by (with_reducible repeat first | apply kn7 | apply kd7 | apply ka7); refine kf7 ?_ NB195_217.out _; (with_reducible repeat first | apply kn7 | apply kd7 | apply ka7); refine kf7 ?_ NB195_217.out _; (with_reducible repeat first | apply kn7 | apply kd7 | apply ka7); exact BK195.out⟩
         have n1_ : Aside0 (((w311.setCell ⟨gb217, 0, none⟩ (.string t214)).setCell ⟨gb217, 1, none⟩ (.string t215)).heap[gb196]? = some (.cells #[.string a1_0, .string a1_1] 26 (0, 0))) := ⟨by (with_reducible repeat first | apply kn7 | apply kd7 | apply ka7); refine kf7 ?_ NB196_217.out _; (with_reducible repeat first | apply kn7 | apply kd7 | apply ka7); refine kf7 ?_ NB196_217.out _; (with_reducible repeat first | apply kn7 | apply kd7 | apply ka7); exact BK196.out⟩
         have n2_ : Aside0 (((w311.setCell ⟨gb217, 0, none⟩ (.string t214)).setCell ⟨gb217, 1, none⟩ (.string t215)).heap[gb197]? = some (.cells #[.string a2_0, .string a2_1] 26 (0, 0))) := ⟨by (with_reducible repeat first | apply kn7 | apply kd7 | apply ka7); refine kf7 ?_ NB197_217.out _; (with_reducible repeat first | apply kn7 | apply kd7 | apply ka7); refine kf7 ?_ NB197_217.out _; (with_reducible repeat first | apply kn7 | apply kd7 | apply ka7); exact BK197.out⟩
         have n3_ : Aside0 (((w311.setCell ⟨gb217, 0, none⟩ (.string t214)).setCell ⟨gb217, 1, none⟩ (.string t215)).heap[gb217]? = some (.cells #[.string t214, .string t215] 26 (0, 0))) := ⟨by (with_reducible repeat first | apply kn7 | apply kd7 | apply ka7); refine blk_put (cs:=#[.string t214, .string (⟨#[]⟩ : ByteArray)]) ?_ 1 _ rfl; (with_reducible repeat first | apply kn7 | apply kd7 | apply ka7); refine blk_put (cs:=#[.string (⟨#[]⟩ : ByteArray), .string (⟨#[]⟩ : ByteArray)]) ?_ 0 _ rfl; (with_reducible repeat first | apply kn7 | apply kd7 | apply ka7); exact BK217.out⟩
         have n4_ : Aside0 (Below w.heap.size w ((w311.setCell ⟨gb217, 0, none⟩ (.string t214)).setCell ⟨gb217, 1, none⟩ (.string t215))) := ⟨by repeat (first | (with_reducible first | exact HB.out | apply ba7 | apply bn7 | apply bd7 | refine bs7 ?_ GE195.out | refine bs7 ?_ GE196.out | refine bs7 ?_ GE197.out | refine bs7 ?_ GE217.out) | exact HB.out)⟩
         (try clear BK195)
         (try clear BK196)
         (try clear BK197)
         (try clear BK217)
         (try clear HB)
         generalize ((w311.setCell ⟨gb217, 0, none⟩ (.string t214)).setCell ⟨gb217, 1, none⟩ (.string t215)) = w316 at n0_ n1_ n2_ n3_ n4_ ⊢
         have BK195 := n0_
         have BK196 := n1_
         have BK197 := n2_
         have BK217 := n3_
         have HB := n4_
         clear n0_ n1_ n2_ n3_ n4_
         have n0_ := Am7 (kd7 BK195.out)
         have n1_ := Am7 (kd7 BK196.out)
         have n2_ := Am7 (kd7 BK197.out)
         have n3_ := Am7 (kd7 BK217.out)
         have n4_ := Am7 (bd7 HB.out)
         clear BK195
         clear BK196
         clear BK197
         clear BK217
         clear HB
         have BK195 := n0_
         have BK196 := n1_
         have BK197 := n2_
         have BK217 := n3_
         have HB := n4_
         clear n0_ n1_ n2_ n3_ n4_
         refine start_ (n:=31) (S:=fun w' => w'.cell? ⟨gb195, 0, none⟩ = some (.string a0_0) ∧ w'.cell? ⟨gb195, 1, none⟩ = some (.string a0_1)) (ds:=[]) #[false, false, false, false, false, false, false, false, false, false, false, false, false, false, false, false, false, false, false, false, false, false, false, false, false, false, false, false, false, false, false] (by kernel_rfl) rfl rfl ⟨(kc7 BK195.out 0).trans rfl, (kc7 BK195.out 1).trans rfl⟩ (fun hHeld => ?_); refine with_tabW watershedlaw04_SpanWithin.tab8 watershedlaw04_SpanWithin.bits8 (fun HT_ HW_ => ?_)
         generalize w316.drew = w317 at BK195 BK196 BK197 BK217 HB hHeld ⊢
         refine take_ (i:=0) (N:=some 70) (v:=?_) (a' := ?_) #[true, false, false, false, false, false, false, false, false, false, false, false, false, false, false, false, false, false, false, false, false, false, false, false, false, false, false, false, false, false, false] rfl rfl (take_ofW HT_.out HW_.out (by kernel_rfl)) (fun _ _ _ h => h) (Or.inl ⟨by rfl, ?_⟩) hHeld ?_ ?_
         rotate_left
         ·rintro w' ⟨s0, s1⟩
          go_simp
          with_reducible rfl
         rotate_left
         ·simp only [Act.put, sa7, sz7, ss7, i64_w, i32_w]
          rfl
         refine take_ (i:=1) (N:=some 71) (v:=?_) (a' := ?_) #[true, true, false, false, false, false, false, false, false, false, false, false, false, false, false, false, false, false, false, false, false, false, false, false, false, false, false, false, false, false, false] rfl rfl (take_ofW HT_.out HW_.out (by kernel_rfl)) (fun _ _ _ h => h) (Or.inl ⟨by rfl, ?_⟩) hHeld ?_ ?_
         rotate_left
         ·rintro w' ⟨s0, s1⟩
          go_simp
          with_reducible rfl
         rotate_left
         ·simp only [Act.put, sa7, sz7, ss7, i64_w, i32_w]
          rfl
         refine take_ (i:=3) (N:=some 73) (v:=?_) (a' := ?_) #[true, true, false, true, false, false, false, false, false, false, false, false, false, false, false, false, false, false, false, false, false, false, false, false, false, false, false, false, false, false, false] rfl rfl (take_ofW HT_.out HW_.out (by kernel_rfl)) (fun _ _ _ h => h) (Or.inl ⟨by rfl, ?_⟩) hHeld ?_ ?_
         rotate_left
         ·rintro w' ⟨s0, s1⟩
          go_simp
          with_reducible rfl
         rotate_left
         ·simp only [Act.put, sa7, sz7, ss7, i64_w, i32_w]
          rfl
         refine one_ (i:=2) (N:=some 72) #[true, true, true, true, false, false, false, false, false, false, false, false, false, false, false, false, false, false, false, false, false, false, false, false, false, false, false, false, false, false, false] rfl rfl (one_of HT_.out (by kernel_rfl)) (by decide) (fun K hK => ?_)
         refine goes_ Try.func14 (by kernel_rfl) rfl #[.agg #[.string a0_0, .string a0_1], .agg #[.string a0_0, .string a0_1]] (by rfl) rfl rfl (by (try simp only [ma7, mc7, mn7]); first | done | rfl | (simp only [ld7, lt_7]; rfl)) ?_
         with_reducible refine (span_Within.calls kj8 a0_0 a0_1 a0_0 a0_1 t218 _ A233.out).mono ?_
         rintro e w318 ⟨rfl, hb⟩
         refine ⟨_, rfl, ?_⟩
         have n0_ := Am7 (kb7 (g:=gb195) (by (with_reducible repeat first | apply kn7 | apply kd7 | apply ka7); exact BK195.out) hb)
         have n1_ := Am7 (kb7 (g:=gb196) (by (with_reducible repeat first | apply kn7 | apply kd7 | apply ka7); exact BK196.out) hb)
         have n2_ := Am7 (kb7 (g:=gb197) (by (with_reducible repeat first | apply kn7 | apply kd7 | apply ka7); exact BK197.out) hb)
         have n3_ := Am7 (kb7 (g:=gb217) (by (with_reducible repeat first | apply kn7 | apply kd7 | apply ka7); exact BK217.out) hb)
         have n4_ := Am7 (bp7 (by repeat (first | (with_reducible first | exact HB.out | apply ba7 | apply bn7 | apply bd7 | refine bs7 ?_ GE195.out | refine bs7 ?_ GE196.out | refine bs7 ?_ GE197.out | refine bs7 ?_ GE217.out) | exact HB.out)) hb)
         clear BK195
         clear BK196
         clear BK197
         clear BK217
         clear HB
         have BK195 := n0_
         have BK196 := n1_
         have BK197 := n2_
         have BK217 := n3_
         have HB := n4_
         clear n0_ n1_ n2_ n3_ n4_
         (try clear hb)
         (try clear hb2)
         (try clear hk)
         (try clear hi)
         refine hK.out _ _ ⟨(kc7 BK195.out 0).trans rfl, (kc7 BK195.out 1).trans rfl⟩ (fun hHeld => ?_)
         clear hK K
         refine norm_ (a' := ?_) ?_ ?_
         rotate_left
         ·show Act.put _ (some 72) _ = _
          simp only [Act.put, sa7, sz7, ss7, i64_w, i32_w]
          rfl
         refine one_ (i:=4) (N:=some 74) #[true, true, true, true, true, false, false, false, false, false, false, false, false, false, false, false, false, false, false, false, false, false, false, false, false, false, false, false, false, false, false] rfl rfl (one_of HT_.out (by kernel_rfl)) (by decide) (fun K hK => ?_)
         refine goes_ Try.func16 (by kernel_rfl) rfl #[.agg #[.string a0_0, .string a0_1]] (by rfl) rfl rfl (by (try simp only [ma7, mc7, mn7]); first | done | rfl | (simp only [ld7, lt_7]; rfl)) ?_
         with_reducible refine (span_Right.calls kj8 a0_0 a0_1 t219 _ A234.out).mono ?_
         rintro e w319 ⟨rfl, hb⟩
         refine ⟨_, rfl, ?_⟩
         have n0_ := Am7 (kb7 (g:=gb195) (by (with_reducible repeat first | apply kn7 | apply kd7 | apply ka7); exact BK195.out) hb)
         have n1_ := Am7 (kb7 (g:=gb196) (by (with_reducible repeat first | apply kn7 | apply kd7 | apply ka7); exact BK196.out) hb)
         have n2_ := Am7 (kb7 (g:=gb197) (by (with_reducible repeat first | apply kn7 | apply kd7 | apply ka7); exact BK197.out) hb)
         have n3_ := Am7 (kb7 (g:=gb217) (by (with_reducible repeat first | apply kn7 | apply kd7 | apply ka7); exact BK217.out) hb)
         have n4_ := Am7 (bp7 (by repeat (first | (with_reducible first | exact HB.out | apply ba7 | apply bn7 | apply bd7 | refine bs7 ?_ GE195.out | refine bs7 ?_ GE196.out | refine bs7 ?_ GE197.out | refine bs7 ?_ GE217.out) | exact HB.out)) hb)
         clear BK195
         clear BK196
         clear BK197
         clear BK217
         clear HB
         have BK195 := n0_
         have BK196 := n1_
         have BK197 := n2_
         have BK217 := n3_
         have HB := n4_
         clear n0_ n1_ n2_ n3_ n4_
         (try clear hb)
         (try clear hb2)
         (try clear hk)
         (try clear hi)
         refine hK.out _ _ ⟨(kc7 BK195.out 0).trans rfl, (kc7 BK195.out 1).trans rfl⟩ (fun hHeld => ?_)
         clear hK K
         refine norm_ (a' := ?_) ?_ ?_
         rotate_left
         ·show Act.put _ (some 74) _ = _
          simp only [Act.put, sa7, sz7, ss7, i64_w, i32_w]
          rfl
         refine pure_ (i:=5) (N:=some 75) (v:=?_) (a' := ?_) #[true, true, true, true, true, true, false, false, false, false, false, false, false, false, false, false, false, false, false, false, false, false, false, false, false, false, false, false, false, false, false] rfl rfl (any_of HT_.out (by kernel_rfl)) (fun _ _ _ h => h) (Or.inl ⟨by rfl, ?_⟩) ?_ ?_
         rotate_left
         ·intro w'
          go_simp
          with_reducible rfl
         rotate_left
         ·simp only [Act.put, sa7, sz7, ss7, i64_w, i32_w]
          rfl
         refine pure_ (i:=6) (N:=some 76) (v:=?_) (a' := ?_) #[true, true, true, true, true, true, true, false, false, false, false, false, false, false, false, false, false, false, false, false, false, false, false, false, false, false, false, false, false, false, false] rfl rfl (any_of HT_.out (by kernel_rfl)) (fun _ _ _ h => h) (Or.inl ⟨by rfl, ?_⟩) ?_ ?_
         rotate_left
         ·intro w'
          go_simp
          with_reducible rfl
         rotate_left
         ·simp only [Act.put, sa7, sz7, ss7, i64_w, i32_w]
          rfl
         refine pure_ (i:=7) (N:=some 77) (v:=?_) (a' := ?_) #[true, true, true, true, true, true, true, true, false, false, false, false, false, false, false, false, false, false, false, false, false, false, false, false, false, false, false, false, false, false, false] rfl rfl (any_of HT_.out (by kernel_rfl)) (fun _ _ _ h => h) (Or.inl ⟨by rfl, ?_⟩) ?_ ?_
         rotate_left
         ·intro w'
          go_simp
          with_reducible rfl
         rotate_left
         ·simp only [Act.put, sa7, sz7, ss7, i64_w, i32_w]
          rfl
         refine pure_ (i:=8) (N:=some 78) (v:=?_) (a' := ?_) #[true, true, true, true, true, true, true, true, true, false, false, false, false, false, false, false, false, false, false, false, false, false, false, false, false, false, false, false, false, false, false] rfl rfl (any_of HT_.out (by kernel_rfl)) (fun _ _ _ h => h) (Or.inl ⟨by rfl, ?_⟩) ?_ ?_
         rotate_left
         ·intro w'
          go_simp
          with_reducible rfl
         rotate_left
         ·simp only [Act.put, sa7, sz7, ss7, i64_w, i32_w]
          rfl
         refine pure_ (i:=9) (N:=some 79) (v:=?_) (a' := ?_) #[true, true, true, true, true, true, true, true, true, true, false, false, false, false, false, false, false, false, false, false, false, false, false, false, false, false, false, false, false, false, false] rfl rfl (any_of HT_.out (by kernel_rfl)) (fun _ _ _ h => h) (Or.inl ⟨by rfl, ?_⟩) ?_ ?_
         rotate_left
         ·intro w'
          go_simp
          with_reducible rfl
         rotate_left
         ·simp only [Act.put, sa7, sz7, ss7, i64_w, i32_w]
          rfl
         refine pure_ (i:=10) (N:=some 80) (v:=undef) (a' := ?_) #[true, true, true, true, true, true, true, true, true, true, true, false, false, false, false, false, false, false, false, false, false, false, false, false, false, false, false, false, false, false, false] rfl rfl (any_of HT_.out (by kernel_rfl)) (fun _ _ _ h => h) (Or.inr ⟨by rfl, rfl⟩) ?_ ?_
         rotate_left
         ·simp only [Act.put, sa7, sz7, ss7, i64_w, i32_w]
          rfl
         refine pure_ (i:=11) (N:=some 81) (v:=undef) (a' := ?_) #[true, true, true, true, true, true, true, true, true, true, true, true, false, false, false, false, false, false, false, false, false, false, false, false, false, false, false, false, false, false, false] rfl rfl (any_of HT_.out (by kernel_rfl)) (fun _ _ _ h => h) (Or.inr ⟨by rfl, rfl⟩) ?_ ?_
         rotate_left
         ·simp only [Act.put, sa7, sz7, ss7, i64_w, i32_w]
          rfl
         refine pure_ (i:=12) (N:=some 82) (v:=undef) (a' := ?_) #[true, true, true, true, true, true, true, true, true, true, true, true, true, false, false, false, false, false, false, false, false, false, false, false, false, false, false, false, false, false, false] rfl rfl (any_of HT_.out (by kernel_rfl)) (fun _ _ _ h => h) (Or.inr ⟨by rfl, rfl⟩) ?_ ?_
         rotate_left
         ·simp only [Act.put, sa7, sz7, ss7, i64_w, i32_w]
          rfl
         refine pure_ (i:=13) (N:=some 83) (v:=undef) (a' := ?_) #[true, true, true, true, true, true, true, true, true, true, true, true, true, true, false, false, false, false, false, false, false, false, false, false, false, false, false, false, false, false, false] rfl rfl (any_of HT_.out (by kernel_rfl)) (fun _ _ _ h => h) (Or.inr ⟨by rfl, rfl⟩) ?_ ?_
         rotate_left
         ·simp only [Act.put, sa7, sz7, ss7, i64_w, i32_w]
          rfl
         refine pure_ (i:=14) (N:=some 84) (v:=undef) (a' := ?_) #[true, true, true, true, true, true, true, true, true, true, true, true, true, true, true, false, false, false, false, false, false, false, false, false, false, false, false, false, false, false, false] rfl rfl (any_of HT_.out (by kernel_rfl)) (fun _ _ _ h => h) (Or.inr ⟨by rfl, rfl⟩) ?_ ?_
         rotate_left
         ·simp only [Act.put, sa7, sz7, ss7, i64_w, i32_w]
          rfl
         refine pure_ (i:=15) (N:=some 85) (v:=undef) (a' := ?_) #[true, true, true, true, true, true, true, true, true, true, true, true, true, true, true, true, false, false, false, false, false, false, false, false, false, false, false, false, false, false, false] rfl rfl (any_of HT_.out (by kernel_rfl)) (fun _ _ _ h => h) (Or.inr ⟨by rfl, rfl⟩) ?_ ?_
         rotate_left
         ·simp only [Act.put, sa7, sz7, ss7, i64_w, i32_w]
          rfl
         refine pure_ (i:=16) (N:=some 86) (v:=undef) (a' := ?_) #[true, true, true, true, true, true, true, true, true, true, true, true, true, true, true, true, true, false, false, false, false, false, false, false, false, false, false, false, false, false, false] rfl rfl (any_of HT_.out (by kernel_rfl)) (fun _ _ _ h => h) (Or.inr ⟨by rfl, rfl⟩) ?_ ?_
         rotate_left
         ·simp only [Act.put, sa7, sz7, ss7, i64_w, i32_w]
          rfl
         refine pure_ (i:=17) (N:=some 87) (v:=undef) (a' := ?_) #[true, true, true, true, true, true, true, true, true, true, true, true, true, true, true, true, true, true, false, false, false, false, false, false, false, false, false, false, false, false, false] rfl rfl (any_of HT_.out (by kernel_rfl)) (fun _ _ _ h => h) (Or.inr ⟨by rfl, rfl⟩) ?_ ?_
         rotate_left
         ·simp only [Act.put, sa7, sz7, ss7, i64_w, i32_w]
          rfl
         refine pure_ (i:=18) (N:=some 88) (v:=?_) (a' := ?_) #[true, true, true, true, true, true, true, true, true, true, true, true, true, true, true, true, true, true, true, false, false, false, false, false, false, false, false, false, false, false, false] rfl rfl (any_of HT_.out (by kernel_rfl)) (fun _ _ _ h => h) (Or.inl ⟨by rfl, ?_⟩) ?_ ?_
         rotate_left
         ·intro w'
          go_simp
          with_reducible rfl
         rotate_left
         ·simp only [Act.put, sa7, sz7, ss7, i64_w, i32_w]
          rfl
         refine pure_ (i:=19) (N:=some 89) (v:=?_) (a' := ?_) #[true, true, true, true, true, true, true, true, true, true, true, true, true, true, true, true, true, true, true, true, false, false, false, false, false, false, false, false, false, false, false] rfl rfl (any_of HT_.out (by kernel_rfl)) (fun _ _ _ h => h) (Or.inl ⟨by rfl, ?_⟩) ?_ ?_
         rotate_left
         ·intro w'
          go_simp
          with_reducible rfl
         rotate_left
         ·simp only [Act.put, sa7, sz7, ss7, i64_w, i32_w]
          rfl
         refine pure_ (i:=20) (N:=some 90) (v:=?_) (a' := ?_) #[true, true, true, true, true, true, true, true, true, true, true, true, true, true, true, true, true, true, true, true, true, false, false, false, false, false, false, false, false, false, false] rfl rfl (any_of HT_.out (by kernel_rfl)) (fun _ _ _ h => h) (Or.inl ⟨by rfl, ?_⟩) ?_ ?_
         rotate_left
         ·intro w'
          go_simp
          with_reducible rfl
         rotate_left
         ·simp only [Act.put, sa7, sz7, ss7, i64_w, i32_w]
          rfl
         refine take_ (i:=21) (N:=some 91) (v:=?_) (a' := ?_) #[true, true, true, true, true, true, true, true, true, true, true, true, true, true, true, true, true, true, true, true, true, true, false, false, false, false, false, false, false, false, false] rfl rfl (take_ofW HT_.out HW_.out (by kernel_rfl)) (fun _ _ _ h => h) (Or.inl ⟨by rfl, ?_⟩) hHeld ?_ ?_
         rotate_left
         ·rintro w' ⟨s0, s1⟩
          go_simp
          with_reducible rfl
         rotate_left
         ·simp only [Act.put, sa7, sz7, ss7, i64_w, i32_w]
          rfl
         refine one_ (i:=22) (N:=some 92) #[true, true, true, true, true, true, true, true, true, true, true, true, true, true, true, true, true, true, true, true, true, true, true, false, false, false, false, false, false, false, false] rfl rfl (one_of HT_.out (by kernel_rfl)) (by decide) (fun K hK => ?_)
         refine goes_ Try.func16 (by kernel_rfl) rfl #[.agg #[.string a0_0, .string a0_1]] (by rfl) rfl rfl (by (try simp only [ma7, mc7, mn7]); first | done | rfl | (simp only [ld7, lt_7]; rfl)) ?_
         with_reducible refine (span_Right.calls kj8 a0_0 a0_1 false _ A283.out).mono ?_
         rintro e w320 ⟨rfl, hb⟩
         refine ⟨_, rfl, ?_⟩
         have n0_ := Am7 (kb7 (g:=gb195) (by (with_reducible repeat first | apply kn7 | apply kd7 | apply ka7); exact BK195.out) hb)
         have n1_ := Am7 (kb7 (g:=gb196) (by (with_reducible repeat first | apply kn7 | apply kd7 | apply ka7); exact BK196.out) hb)
         have n2_ := Am7 (kb7 (g:=gb197) (by (with_reducible repeat first | apply kn7 | apply kd7 | apply ka7); exact BK197.out) hb)
         have n3_ := Am7 (kb7 (g:=gb217) (by (with_reducible repeat first | apply kn7 | apply kd7 | apply ka7); exact BK217.out) hb)
         have n4_ := Am7 (bp7 (by repeat (first | (with_reducible first | exact HB.out | apply ba7 | apply bn7 | apply bd7 | refine bs7 ?_ GE195.out | refine bs7 ?_ GE196.out | refine bs7 ?_ GE197.out | refine bs7 ?_ GE217.out) | exact HB.out)) hb)
         clear BK195
         clear BK196
         clear BK197
         clear BK217
         clear HB
         have BK195 := n0_
         have BK196 := n1_
         have BK197 := n2_
         have BK217 := n3_
         have HB := n4_
         clear n0_ n1_ n2_ n3_ n4_
         (try clear hb)
         (try clear hb2)
         (try clear hk)
         (try clear hi)
         refine hK.out _ _ ⟨(kc7 BK195.out 0).trans rfl, (kc7 BK195.out 1).trans rfl⟩ (fun hHeld => ?_)
         clear hK K
         refine norm_ (a' := ?_) ?_ ?_
         rotate_left
         ·show Act.put _ (some 92) _ = _
          simp only [Act.put, sa7, sz7, ss7, i64_w, i32_w]
          rfl
         refine pure_ (i:=23) (N:=some 93) (v:=?_) (a' := ?_) #[true, true, true, true, true, true, true, true, true, true, true, true, true, true, true, true, true, true, true, true, true, true, true, true, false, false, false, false, false, false, false] rfl rfl (any_of HT_.out (by kernel_rfl)) (fun _ _ _ h => h) (Or.inl ⟨by rfl, ?_⟩) ?_ ?_
         rotate_left
         ·intro w'
          go_simp
          with_reducible rfl
         rotate_left
         ·simp only [Act.put, sa7, sz7, ss7, i64_w, i32_w]
          rfl
         refine pure_ (i:=24) (N:=some 94) (v:=?_) (a' := ?_) #[true, true, true, true, true, true, true, true, true, true, true, true, true, true, true, true, true, true, true, true, true, true, true, true, true, false, false, false, false, false, false] rfl rfl (any_of HT_.out (by kernel_rfl)) (fun _ _ _ h => h) (Or.inl ⟨by rfl, ?_⟩) ?_ ?_
         rotate_left
         ·intro w'
          go_simp
          with_reducible rfl
         rotate_left
         ·simp only [Act.put, sa7, sz7, ss7, i64_w, i32_w]
          rfl
         refine pure_ (i:=25) (N:=some 95) (v:=undef) (a' := ?_) #[true, true, true, true, true, true, true, true, true, true, true, true, true, true, true, true, true, true, true, true, true, true, true, true, true, true, false, false, false, false, false] rfl rfl (any_of HT_.out (by kernel_rfl)) (fun _ _ _ h => h) (Or.inr ⟨by rfl, rfl⟩) ?_ ?_
         rotate_left
         ·simp only [Act.put, sa7, sz7, ss7, i64_w, i32_w]
          rfl
         refine pure_ (i:=26) (N:=some 96) (v:=undef) (a' := ?_) #[true, true, true, true, true, true, true, true, true, true, true, true, true, true, true, true, true, true, true, true, true, true, true, true, true, true, true, false, false, false, false] rfl rfl (any_of HT_.out (by kernel_rfl)) (fun _ _ _ h => h) (Or.inr ⟨by rfl, rfl⟩) ?_ ?_
         rotate_left
         ·simp only [Act.put, sa7, sz7, ss7, i64_w, i32_w]
          rfl
         refine pure_ (i:=27) (N:=some 97) (v:=undef) (a' := ?_) #[true, true, true, true, true, true, true, true, true, true, true, true, true, true, true, true, true, true, true, true, true, true, true, true, true, true, true, true, false, false, false] rfl rfl (any_of HT_.out (by kernel_rfl)) (fun _ _ _ h => h) (Or.inr ⟨by rfl, rfl⟩) ?_ ?_
         rotate_left
         ·simp only [Act.put, sa7, sz7, ss7, i64_w, i32_w]
          rfl
         refine pure_ (i:=28) (N:=some 98) (v:=?_) (a' := ?_) #[true, true, true, true, true, true, true, true, true, true, true, true, true, true, true, true, true, true, true, true, true, true, true, true, true, true, true, true, true, false, false] rfl rfl (any_of HT_.out (by kernel_rfl)) (fun _ _ _ h => h) (Or.inl ⟨by rfl, ?_⟩) ?_ ?_
         rotate_left
         ·intro w'
          go_simp
          with_reducible rfl
         rotate_left
         ·simp only [Act.put, sa7, sz7, ss7, i64_w, i32_w]
          rfl
         refine pure_ (i:=29) (N:=some 99) (v:=?_) (a' := ?_) #[true, true, true, true, true, true, true, true, true, true, true, true, true, true, true, true, true, true, true, true, true, true, true, true, true, true, true, true, true, true, false] rfl rfl (any_of HT_.out (by kernel_rfl)) (fun _ _ _ h => h) (Or.inl ⟨by rfl, ?_⟩) ?_ ?_
         rotate_left
         ·intro w'
          go_simp
          with_reducible rfl
         rotate_left
         ·simp only [Act.put, sa7, sz7, ss7, i64_w, i32_w]
          rfl
         refine pure_ (i:=30) (N:=some 8) (v:=?_) (a' := ?_) #[true, true, true, true, true, true, true, true, true, true, true, true, true, true, true, true, true, true, true, true, true, true, true, true, true, true, true, true, true, true, true] rfl rfl (any_of HT_.out (by kernel_rfl)) (fun _ _ _ h => h) (Or.inl ⟨by rfl, ?_⟩) ?_ ?_
         rotate_left
         ·intro w'
          go_simp
          with_reducible rfl
         rotate_left
         ·simp only [Act.put, sa7, sz7, ss7, i64_w, i32_w]
          rfl
         refine done_ (done_of HT_.out (by kernel_rfl)) ?_
         try go_wp2
         go_ret
         exact ⟨by first | rfl | (simp [errW_none, errW_some] <;> rfl) | (simp [*, errW_none, errW_some] <;> rfl), by repeat (first | (with_reducible first | exact HB.out | apply ba7 | apply bn7 | apply bd7 | refine bs7 ?_ GE195.out | refine bs7 ?_ GE196.out | refine bs7 ?_ GE197.out | refine bs7 ?_ GE217.out) | exact HB.out)⟩
      ·rw [if_neg c235] at H
       have c235b0 : (t218 == t219) = false := by simpa using c235
       (try (have c235b1 : decide (t218 = t219) = false := by simpa using c235))
       (try (have c235b2 : (t218 == t219) = false := by simpa using c235))
       (try (have c235b3 : ¬ (t218 = t219) := by simpa using c235))
       clear c235
       exact absurd H (by simp)
  ·replace c8 := Bool.eq_false_iff.mpr c8
   subst c8
   rw [if_neg (show ¬ (false = true) by decide)] at H
   obtain rfl := Option.some.inj H
   go_enter Try.func7, Try.ntmps7
   go_wp2_with (first | ((with_reducible refine gate_dst (N:=4) rfl ?_); refine box_event ?hg (N:=4) ?hd (cs:=#[.string a0_0, .string a0_1]) (t:=26) ?hr ?_; (case hd => rfl); (case hg => rfl); (case hr => first | (go_simp; done) | (go_simp; rfl)); intro gb195 hg w321 hbox hb; have n0_ := Am7 (bp7 (by repeat (first | (with_reducible first | exact HB.out | apply ba7 | apply bn7 | apply bd7) | exact HB.out)) hb); have n1_ := Am7 (hbox); have n2_ := Am7 ((by rw [hg]; exact (bz7 (by repeat (first | (with_reducible first | exact HB.out | apply ba7 | apply bn7 | apply bd7) | exact HB.out))) : w.heap.size ≤ gb195)); have n3_ := Am7 ((by rw [hg]; exact (bz7 (by repeat (first | (with_reducible first | exact HB.out | apply ba7 | apply bn7 | apply bd7) | exact HB.out))) : w.heap.size ≤ gb195)); clear HB; have HB := n0_; have BK195 := n1_; have GW195 := n2_; have GE195 := n3_; clear n0_ n1_ n2_ n3_; clear hb hbox hg) | ((with_reducible refine gate_dst (N:=5) rfl ?_); refine box_event ?hg (N:=5) ?hd (cs:=#[.string a1_0, .string a1_1]) (t:=26) ?hr ?_; (case hd => rfl); (case hg => rfl); (case hr => first | (go_simp; done) | (go_simp; rfl)); intro gb196 hg w322 hbox hb; have n0_ := Am7 (kb7 (g:=gb195) (by (with_reducible repeat first | apply kn7 | apply kd7 | apply ka7); exact BK195.out) hb); have n1_ := Am7 (bp7 (by repeat (first | (with_reducible first | exact HB.out | apply ba7 | apply bn7 | apply bd7 | refine bs7 ?_ GE195.out) | exact HB.out)) hb); have n2_ := Am7 (hbox); have n3_ := Am7 ((by rw [hg]; exact (bz7 (by repeat (first | (with_reducible first | exact HB.out | apply ba7 | apply bn7 | apply bd7 | refine bs7 ?_ GE195.out) | exact HB.out))) : w.heap.size ≤ gb196)); have n4_ := Am7 ((by rw [hg]; exact (bz7 (by repeat (first | (with_reducible first | exact HB.out | apply ba7 | apply bn7 | apply bd7 | refine bs7 ?_ GE195.out) | exact HB.out))) : w.heap.size ≤ gb196)); have n5_ := Am7 ((by rw [hg]; exact Nat.ne_of_lt (blk_lt (g:=gb195) (by (with_reducible repeat first | apply kn7 | apply kd7 | apply ka7); exact BK195.out)) : gb195 ≠ gb196)); have n6_ := Am7 ((by rw [hg]; exact Nat.ne_of_gt (blk_lt (g:=gb195) (by (with_reducible repeat first | apply kn7 | apply kd7 | apply ka7); exact BK195.out)) : gb196 ≠ gb195)); clear BK195; clear HB; have BK195 := n0_; have HB := n1_; have BK196 := n2_; have GW196 := n3_; have GE196 := n4_; have NB195_196 := n5_; have NB196_195 := n6_; clear n0_ n1_ n2_ n3_ n4_ n5_ n6_; clear hb hbox hg) | ((with_reducible refine gate_dst (N:=6) rfl ?_); refine box_event ?hg (N:=6) ?hd (cs:=#[.string a2_0, .string a2_1]) (t:=26) ?hr ?_; (case hd => rfl); (case hg => rfl); (case hr => first | (go_simp; done) | (go_simp; rfl)); intro gb197 hg w323 hbox hb; have n0_ := Am7 (kb7 (g:=gb195) (by (with_reducible repeat first | apply kn7 | apply kd7 | apply ka7); exact BK195.out) hb); have n1_ := Am7 (kb7 (g:=gb196) (by (with_reducible repeat first | apply kn7 | apply kd7 | apply ka7); exact BK196.out) hb); have n2_ := Am7 (bp7 (by repeat (first | (with_reducible first | exact HB.out | apply ba7 | apply bn7 | apply bd7 | refine bs7 ?_ GE195.out | refine bs7 ?_ GE196.out) | exact HB.out)) hb); have n3_ := Am7 (hbox); have n4_ := Am7 ((by rw [hg]; exact (bz7 (by repeat (first | (with_reducible first | exact HB.out | apply ba7 | apply bn7 | apply bd7 | refine bs7 ?_ GE195.out | refine bs7 ?_ GE196.out) | exact HB.out))) : w.heap.size ≤ gb197)); have n5_ := Am7 ((by rw [hg]; exact (bz7 (by repeat (first | (with_reducible first | exact HB.out | apply ba7 | apply bn7 | apply bd7 | refine bs7 ?_ GE195.out | refine bs7 ?_ GE196.out) | exact HB.out))) : w.heap.size ≤ gb197)); have n6_ := Am7 ((by rw [hg]; exact Nat.ne_of_lt (blk_lt (g:=gb195) (by (with_reducible repeat first | apply kn7 | apply kd7 | apply ka7); exact BK195.out)) : gb195 ≠ gb197)); have n7_ := Am7 ((by rw [hg]; exact Nat.ne_of_gt (blk_lt (g:=gb195) (by (with_reducible repeat first | apply kn7 | apply kd7 | apply ka7); exact BK195.out)) : gb197 ≠ gb195)); have n8_ := Am7 ((by rw [hg]; exact Nat.ne_of_lt (blk_lt (g:=gb196) (by (with_reducible repeat first | apply kn7 | apply kd7 | apply ka7); exact BK196.out)) : gb196 ≠ gb197)); have n9_ := Am7 ((by rw [hg]; exact Nat.ne_of_gt (blk_lt (g:=gb196) (by (with_reducible repeat first | apply kn7 | apply kd7 | apply ka7); exact BK196.out)) : gb197 ≠ gb196)); clear BK195; clear BK196; clear HB; have BK195 := n0_; have BK196 := n1_; have HB := n2_; have BK197 := n3_; have GW197 := n4_; have GE197 := n5_; have NB195_197 := n6_; have NB197_195 := n7_; have NB196_197 := n8_; have NB197_196 := n9_; clear n0_ n1_ n2_ n3_ n4_ n5_ n6_ n7_ n8_ n9_; clear hb hbox hg) | ((with_reducible refine gate_callee (f:=8) rfl ?_); refine goesL_ (some 11) rfl rfl Try.func8 (by kernel_rfl) rfl #[] rfl (by (try simp only [ma7, mc7, mn7]); first | done | rfl | (simp only [ld7, lt_7]; rfl)) ?_; (with_reducible refine (watershedlaw04_awake.calls k  true _ A5.out).mono ?_); rintro e w324 ⟨rfl, hb⟩; refine ⟨_, rfl, ?_⟩; have n0_ := Am7 (kb7 (g:=gb195) (by (with_reducible repeat first | apply kn7 | apply kd7 | apply ka7); exact BK195.out) hb); have n1_ := Am7 (kb7 (g:=gb196) (by (with_reducible repeat first | apply kn7 | apply kd7 | apply ka7); exact BK196.out) hb); have n2_ := Am7 (kb7 (g:=gb197) (by (with_reducible repeat first | apply kn7 | apply kd7 | apply ka7); exact BK197.out) hb); have n3_ := Am7 (bp7 (by repeat (first | (with_reducible first | exact HB.out | apply ba7 | apply bn7 | apply bd7 | refine bs7 ?_ GE195.out | refine bs7 ?_ GE196.out | refine bs7 ?_ GE197.out) | exact HB.out)) hb); clear BK195; clear BK196; clear BK197; clear HB; have BK195 := n0_; have BK196 := n1_; have BK197 := n2_; have HB := n3_; clear n0_ n1_ n2_ n3_; (try clear hb); (try clear hb2); (try clear hk); (try clear hi); have hnb325 := NB195_196.out; have hnc325 := NB196_195.out; have hnb326 := NB195_197.out; have hnc326 := NB197_195.out; have hcz327_0 : w324.cell? ⟨gb195, 0, none⟩ = some (.string a0_0) := (kc7 BK195.out 0).trans rfl; have hcz327_1 : w324.cell? ⟨gb195, 1, none⟩ = some (.string a0_1) := (kc7 BK195.out 1).trans rfl; have hfz327_0 := kz7 BK195.out 0; have hfz327_1 := kz7 BK195.out 1; have hnb328 := NB196_197.out; have hnc328 := NB197_196.out; have hcz329_0 : w324.cell? ⟨gb196, 0, none⟩ = some (.string a1_0) := (kc7 BK196.out 0).trans rfl; have hcz329_1 : w324.cell? ⟨gb196, 1, none⟩ = some (.string a1_1) := (kc7 BK196.out 1).trans rfl; have hfz329_0 := kz7 BK196.out 0; have hfz329_1 := kz7 BK196.out 1; have hcz330_0 : w324.cell? ⟨gb197, 0, none⟩ = some (.string a2_0) := (kc7 BK197.out 0).trans rfl; have hcz330_1 : w324.cell? ⟨gb197, 1, none⟩ = some (.string a2_1) := (kc7 BK197.out 1).trans rfl; have hfz330_0 := kz7 BK197.out 0; have hfz330_1 := kz7 BK197.out 1) | ((with_reducible refine gate_dst (N:=26) rfl ?_); refine Kd.R_lit Kd.string _ 9 ?hg (N:=26) ?hd (xs:=([a0_0, a0_1, a1_0, a1_1, a2_0, a2_1, a3] : List ByteArray)) (inner:=[.string a0_0, .string a0_1, .string a1_0, .string a1_1, .string a2_0, .string a2_1, .string a3]) (ok:=fun _ => True) (okp:=fun _ => True) ?hr ?hp (fun _ hk => hk) trivial (Below.refl _ _) (Nat.le_refl _) (by simp) ?_; (case hd => rfl); (case hg => rfl); (case hr => first | (go_simp; done) | (go_simp; rfl)); (case hp => exact (Reps.one (show Kd.M Kd.string _ _ _ a0_0 [.string a0_0] from rfl) (Reps.one (show Kd.M Kd.string _ _ _ a0_1 [.string a0_1] from rfl) (Reps.one (show Kd.M Kd.string _ _ _ a1_0 [.string a1_0] from rfl) (Reps.one (show Kd.M Kd.string _ _ _ a1_1 [.string a1_1] from rfl) (Reps.one (show Kd.M Kd.string _ _ _ a2_0 [.string a2_0] from rfl) (Reps.one (show Kd.M Kd.string _ _ _ a2_1 [.string a2_1] from rfl) (Reps.one (show Kd.M Kd.string _ _ _ a3 [.string a3] from rfl) (Reps.none _ _))))))))); intro v200 w331 ho332 hb hg_ hnew_; clear hg_ hnew_; (first | rw [← Ny199.out] at ho332 | (simp only [Int.reduceToNat] at ho332; rw [← Ny199.out] at ho332)); have n0_ := Am7 (Rl7 ho332 (bz7 (by repeat (first | (with_reducible first | exact HB.out | apply ba7 | apply bn7 | apply bd7 | refine bs7 ?_ GE195.out | refine bs7 ?_ GE196.out | refine bs7 ?_ GE197.out) | exact HB.out)))); have n1_ := Am7 (kb7 (g:=gb195) (by (with_reducible repeat first | apply kn7 | apply kd7 | apply ka7); exact BK195.out) hb); have n2_ := Am7 (kb7 (g:=gb196) (by (with_reducible repeat first | apply kn7 | apply kd7 | apply ka7); exact BK196.out) hb); have n3_ := Am7 (kb7 (g:=gb197) (by (with_reducible repeat first | apply kn7 | apply kd7 | apply ka7); exact BK197.out) hb); have n4_ := Am7 (bp7 (by repeat (first | (with_reducible first | exact HB.out | apply ba7 | apply bn7 | apply bd7 | refine bs7 ?_ GE195.out | refine bs7 ?_ GE196.out | refine bs7 ?_ GE197.out) | exact HB.out)) hb); clear BK195; clear BK196; clear BK197; clear HB; have HO201 := n0_; have BK195 := n1_; have BK196 := n2_; have BK197 := n3_; have HB := n4_; clear n0_ n1_ n2_ n3_ n4_; clear hb ho332; obtain ⟨Ao333, co333, eo333⟩ := Kd.R_slice HO201.out; subst eo333) | ((with_reducible refine gate_callee (f:=9) rfl ?_); refine goesL_ (some 27) rfl rfl Try.func9 (by kernel_rfl) rfl #[.slice Ao333 y199.length co333] rfl (by (try simp only [ma7, mc7, mn7]); first | done | rfl | (simp only [ld7, lt_7]; rfl)) ?_; (with_reducible refine (watershedlaw04_few.calls k _ _ y199 false _ ?side1 ?side2 A7.out).mono ?_); (case side1 => repeat (first | exact (Kd.R_reads' HO201.out).2.2 | (with_reducible refine Kd.C_alloc ?_ _) | (with_reducible refine Kd.C_drewN ?_ _) | (with_reducible refine Kd.C_drew ?_))); (case side2 => exact (Kd.R_reads' HO201.out).2.1); rintro e w' ⟨rfl, ⟨nd, rfl⟩⟩; refine ⟨_, rfl, ?_⟩))
   go_ret
   exact ⟨by first | rfl | (simp [errW_none, errW_some] <;> rfl) | (simp [*, errW_none, errW_some] <;> rfl), by repeat (first | (with_reducible first | exact HB.out | apply ba7 | apply bn7 | apply bd7 | refine bs7 ?_ GE195.out | refine bs7 ?_ GE196.out | refine bs7 ?_ GE197.out) | exact HB.out)⟩
 ·replace c6 := Bool.eq_false_iff.mpr c6
  subst c6
  rw [if_neg (show ¬ (false = true) by decide)] at H
  exact absurd H (by simp)

end Go.Proofs.Ytbmnhpihlkljdaa.P04w
