-- Written by gprint.py, a program of this session, over the kit's print; the functions of my own contracts are marked GIVEN
import Derived.Test.YtbmnhpihlkljdaaP04cx0
import Derived.Test.YtbmnhpihlkljdaaP04cx2
import Derived.Test.YtbmnhpihlkljdaaP04cx3
import Derived.Test.YtbmnhpihlkljdaaP04cx4
namespace Go.Proofs.Ytbmnhpihlkljdaa.P04c
open Go.RowKit Go.Proofs.YtbmnhpihlkljdaaW.PrintWords Go.Proofs.YtbmnhpihlkljdaaW.PrintLast Go.Proofs.YtbmnhpihlkljdaaW.PrintMore
attribute [local go_sem] max2_str max2_int min2_int max_two min_two max_three min_three max_four min_four   -- for this text's walks alone
set_option linter.unusedVariables false
set_option linter.unusedSimpArgs false

theorem Am6 : type_of% @Aside0.mk := @Aside0.mk
theorem Ra6 : type_of% @Kd.R_alloc := @Kd.R_alloc
theorem Rn6 : type_of% @Kd.R_drewN := @Kd.R_drewN
theorem Rd6 : type_of% @Kd.R_drew := @Kd.R_drew
theorem Rf6 : type_of% @Kd.R_far := @Kd.R_far
theorem Ro6 : type_of% @Kd.R_mono := @Kd.R_mono
theorem Rb6 : type_of% @Kd.R_below := @Kd.R_below
theorem ba6 : type_of% @below_alloc := @below_alloc
theorem bn6 : type_of% @pw_below_drewN := @pw_below_drewN
theorem bd6 : type_of% @below_drew1 := @below_drew1
theorem bs6 : type_of% @below_set := @below_set
theorem kn6 : type_of% @blk_drewN := @blk_drewN
theorem kd6 : type_of% @blk_drew := @blk_drew
theorem ka6 : type_of% @blk_alloc := @blk_alloc
theorem kf6 : type_of% @blk_far := @blk_far
theorem kb6 : type_of% @blk_below := @blk_below
theorem Re6 : type_of% @Kd.R_elder' := @Kd.R_elder'
theorem Rw6 : type_of% @Kd.R_new' := @Kd.R_new'
theorem Rl6 : type_of% @Kd.R_lower := @Kd.R_lower
theorem Ra_6 : type_of% @Kd.R_base := @Kd.R_base
theorem Rt6 : type_of% @Kd.R_lt := @Kd.R_lt
theorem bz6 : type_of% @below_size := @below_size
theorem bp6 : type_of% @below_step := @below_step
theorem kc6 : type_of% @blk_cell := @blk_cell
theorem kz6 : type_of% @blk_frozen := @blk_frozen
theorem sa6 : type_of% @List.setIfInBounds_toArray := @List.setIfInBounds_toArray
theorem sz6 : type_of% @List.set_cons_zero := @List.set_cons_zero
theorem ss6 : type_of% @List.set_cons_succ := @List.set_cons_succ
theorem ma6 : type_of% @List.map_toArray := @List.map_toArray
theorem mc6 : type_of% @List.map_cons := @List.map_cons
theorem mn6 : type_of% @List.map_nil := @List.map_nil
theorem ld6 : type_of% @List.length_drop := @List.length_drop
theorem lt_6 : type_of% @List.length_take := @List.length_take
/-! ### watershedlaw04_SpanCuts: function 6 -/
mutual
def watershedlaw04_SpanCuts.j0 : Nat → List ByteArray → List ByteArray → Bool → ByteArray → ByteArray → ByteArray → ByteArray → Option (Bool)
 | 0, _, _, _, _, _, _, _ => none
 | k + 1, x2, x3, x37, x196000, x196001, x197000, x197001 => if x37 = true then (some true) else ((span_Cut.f k x196000 x196001 x2).bind fun t206 => ((span_Meet.f k x196000 x196001 x197000 x197001).bind fun bt209 => ((span_All.f).bind fun bt213 => ((span_Cut.f k bt213.1 bt213.2 x2).bind fun t215 => ((span_Parts.f k t215).bind fun t218 => (if t218 = true then (if (t206.length : Int) = 0 then ((span_Right.f k x196000 x196001).bind fun t219 => (watershedlaw04_SpanCuts.j1 k x3 t206 bt209.2.2 t219 x196000 x196001 x197000 x197001 bt209.1 bt209.2.1)) else (watershedlaw04_SpanCuts.j1 k x3 t206 bt209.2.2 false x196000 x196001 x197000 x197001 bt209.1 bt209.2.1)) else (watershedlaw04_SpanCuts.j1 k x3 t206 bt209.2.2 true x196000 x196001 x197000 x197001 bt209.1 bt209.2.1)))))))
def watershedlaw04_SpanCuts.j1 : Nat → List ByteArray → List (S26) → Bool → Bool → ByteArray → ByteArray → ByteArray → ByteArray → ByteArray → ByteArray → Option (Bool)
 | 0, _, _, _, _, _, _, _, _, _, _ => none
 | k + 1, x3, x9, x11, x60, x196000, x196001, x197000, x197001, x213000, x213001 => if x60 = true then (none) else (watershedlaw04_SpanCuts.l0 k x3 x9 x11 0 x196000 x196001 x197000 x197001 x213000 x213001)
def watershedlaw04_SpanCuts.l0 : Nat → List ByteArray → List (S26) → Bool → Int → ByteArray → ByteArray → ByteArray → ByteArray → ByteArray → ByteArray → Option (Bool)
 | 0, _, _, _, _, _, _, _, _, _, _ => none
 | k + 1, x3, x9, x11, x12, x196000, x196001, x197000, x197001, x213000, x213001 => if x12 < (x3.length : Int) then (watershedlaw04_SpanCuts.l1 k x3 x9 x11 x12 0 0 x196000 x196001 x197000 x197001 x213000 x213001) else (watershedlaw04_SpanCuts.l2 k x9 0 x196000 x196001)
def watershedlaw04_SpanCuts.l1 : Nat → List ByteArray → List (S26) → Bool → Int → Int → Int → ByteArray → ByteArray → ByteArray → ByteArray → ByteArray → ByteArray → Option (Bool)
 | 0, _, _, _, _, _, _, _, _, _, _, _, _ => none
 | k + 1, x3, x9, x11, x12, x13, x14, x196000, x196001, x197000, x197001, x213000, x213001 => if x14 < (x9.length : Int) then (if 0 ≤ x14 then (if 0 ≤ x12 then (if x12 < (x3.length : Int) then ((span_Has.f k ((rd_T26 x9 x14).f0) ((rd_T26 x9 x14).f1) (rdOf ByteArray.empty x3 x12)).bind fun t222 => (if t222 = true then (watershedlaw04_SpanCuts.l1 k x3 x9 x11 x12 (wrap64 (x13 + 1)) (wrap64 (x14 + 1)) x196000 x196001 x197000 x197001 x213000 x213001) else (watershedlaw04_SpanCuts.l1 k x3 x9 x11 x12 x13 (wrap64 (x14 + 1)) x196000 x196001 x197000 x197001 x213000 x213001))) else (none)) else (none)) else (none)) else (if 0 ≤ x12 then (if x12 < (x3.length : Int) then ((span_Has.f k x196000 x196001 (rdOf ByteArray.empty x3 x12)).bind fun t224 => ((span_Has.f k x197000 x197001 (rdOf ByteArray.empty x3 x12)).bind fun t226 => (if (t224 != (x13 == 1)) = true then (none) else (if x13 > 1 then (none) else (if t224 = true then (if x11 = true then ((span_Has.f k x213000 x213001 (rdOf ByteArray.empty x3 x12)).bind fun t228 => (if (t226 != t228) = true then (none) else (watershedlaw04_SpanCuts.l0 k x3 x9 x11 (wrap64 (x12 + 1)) x196000 x196001 x197000 x197001 x213000 x213001))) else (if (t226 != false) = true then (none) else (watershedlaw04_SpanCuts.l0 k x3 x9 x11 (wrap64 (x12 + 1)) x196000 x196001 x197000 x197001 x213000 x213001))) else (if x11 = true then ((span_Has.f k x213000 x213001 (rdOf ByteArray.empty x3 x12)).bind fun t230 => (if (false != t230) = true then (none) else (watershedlaw04_SpanCuts.l0 k x3 x9 x11 (wrap64 (x12 + 1)) x196000 x196001 x197000 x197001 x213000 x213001))) else (if (false != false) = true then (none) else (watershedlaw04_SpanCuts.l0 k x3 x9 x11 (wrap64 (x12 + 1)) x196000 x196001 x197000 x197001 x213000 x213001)))))))) else (none)) else (none))
def watershedlaw04_SpanCuts.l2 : Nat → List (S26) → Int → ByteArray → ByteArray → Option (Bool)
 | 0, _, _, _, _ => none
 | k + 1, x9, x17, x196000, x196001 => if x17 < (x9.length : Int) then (if 0 ≤ x17 then ((span_Within.f k ((rd_T26 x9 x17).f0) ((rd_T26 x9 x17).f1) x196000 x196001).bind fun t232 => (if t232 = true then ((span_Right.f k ((rd_T26 x9 x17).f0) ((rd_T26 x9 x17).f1)).bind fun t234 => (if t234 = true then (watershedlaw04_SpanCuts.l2 k x9 (wrap64 (x17 + 1)) x196000 x196001) else (none))) else (none))) else (none)) else (some true)
end
def watershedlaw04_SpanCuts.f (k : Nat) (a0_0 : ByteArray) (a0_1 : ByteArray) (a1_0 : ByteArray) (a1_1 : ByteArray) (l2 : List ByteArray) (l3 : List ByteArray) : Option (Bool) := (watershedlaw04_awake.f k).bind fun t197 => (if t197 = true then ((some (([a0_0, a0_1, a1_0, a1_1] : List ByteArray) : List ByteArray)).bind fun y198 => (if y198.length + l2.length < 8796093022208 then ((watershedlaw04_few.f k (y198 ++ l2)).bind fun t204 => (if t204 = true then ((watershedlaw04_few.f k l3).bind fun t205 => (watershedlaw04_SpanCuts.j0 k l2 l3 (!t205) a0_0 a0_1 a1_0 a1_1)) else (watershedlaw04_SpanCuts.j0 k l2 l3 true a0_0 a0_1 a1_0 a1_1))) else (none))) else (none))
theorem watershedlaw04_SpanCuts.mono_l : ∀ k, (∀ y0 y1 y2 y3 y4 y5 y6, LeO (watershedlaw04_SpanCuts.j0 k y0 y1 y2 y3 y4 y5 y6) (watershedlaw04_SpanCuts.j0 (k + 1) y0 y1 y2 y3 y4 y5 y6)) ∧ (∀ y0 y1 y2 y3 y4 y5 y6 y7 y8 y9, LeO (watershedlaw04_SpanCuts.j1 k y0 y1 y2 y3 y4 y5 y6 y7 y8 y9) (watershedlaw04_SpanCuts.j1 (k + 1) y0 y1 y2 y3 y4 y5 y6 y7 y8 y9)) ∧ (∀ y0 y1 y2 y3 y4 y5 y6 y7 y8 y9, LeO (watershedlaw04_SpanCuts.l0 k y0 y1 y2 y3 y4 y5 y6 y7 y8 y9) (watershedlaw04_SpanCuts.l0 (k + 1) y0 y1 y2 y3 y4 y5 y6 y7 y8 y9)) ∧ (∀ y0 y1 y2 y3 y4 y5 y6 y7 y8 y9 y10 y11, LeO (watershedlaw04_SpanCuts.l1 k y0 y1 y2 y3 y4 y5 y6 y7 y8 y9 y10 y11) (watershedlaw04_SpanCuts.l1 (k + 1) y0 y1 y2 y3 y4 y5 y6 y7 y8 y9 y10 y11)) ∧ (∀ y0 y1 y2 y3, LeO (watershedlaw04_SpanCuts.l2 k y0 y1 y2 y3) (watershedlaw04_SpanCuts.l2 (k + 1) y0 y1 y2 y3))
 | 0 => ⟨fun _ _ _ _ _ _ _ r h => by simp [watershedlaw04_SpanCuts.j0] at h, fun _ _ _ _ _ _ _ _ _ _ r h => by simp [watershedlaw04_SpanCuts.j1] at h, fun _ _ _ _ _ _ _ _ _ _ r h => by simp [watershedlaw04_SpanCuts.l0] at h, fun _ _ _ _ _ _ _ _ _ _ _ _ r h => by simp [watershedlaw04_SpanCuts.l1] at h, fun _ _ _ _ r h => by simp [watershedlaw04_SpanCuts.l2] at h⟩
 | k + 1 => by
  obtain ⟨ih0, ih1, ih2, ih3, ih4⟩ := watershedlaw04_SpanCuts.mono_l k
  refine ⟨?_, ?_, ?_, ?_, ?_⟩
  ·intro y0 y1 y2 y3 y4 y5 y6
   unfold watershedlaw04_SpanCuts.j0
   repeat' first
   | (with_reducible exact ih0 _ _ _ _ _ _ _)
   | (with_reducible exact ih1 _ _ _ _ _ _ _ _ _ _)
   | (with_reducible exact ih2 _ _ _ _ _ _ _ _ _ _)
   | (with_reducible exact ih3 _ _ _ _ _ _ _ _ _ _ _ _)
   | (with_reducible exact ih4 _ _ _ _)
   | (with_reducible exact span_Cut.mono _ _ _ _)
   | (with_reducible exact span_Has.mono _ _ _ _)
   | (with_reducible exact span_Meet.mono _ _ _ _ _)
   | (with_reducible exact span_Parts.mono _ _)
   | (with_reducible exact span_Right.mono _ _ _)
   | (with_reducible exact span_Within.mono _ _ _ _ _)
   | (with_reducible exact watershedlaw04_awake.mono _)
   | (with_reducible exact watershedlaw04_few.mono _ _)
   | (with_reducible exact LeO.refl _)
   | (with_reducible exact LeO.none _)
   | (with_reducible refine LeO.ite ?_ ?_)
   | (with_reducible refine LeO.bind ?_ (fun _ => ?_))
   | exact ih0 _ _ _ _ _ _ _
   | exact ih1 _ _ _ _ _ _ _ _ _ _
   | exact ih2 _ _ _ _ _ _ _ _ _ _
   | exact ih3 _ _ _ _ _ _ _ _ _ _ _ _
   | exact ih4 _ _ _ _
   | exact span_Cut.mono _ _ _ _
   | exact span_Has.mono _ _ _ _
   | exact span_Meet.mono _ _ _ _ _
   | exact span_Parts.mono _ _
   | exact span_Right.mono _ _ _
   | exact span_Within.mono _ _ _ _ _
   | exact watershedlaw04_awake.mono _
   | exact watershedlaw04_few.mono _ _
   | exact LeO.none _
   | refine LeO.ite ?_ ?_
   | refine LeO.bind ?_ (fun _ => ?_)
  ·intro y0 y1 y2 y3 y4 y5 y6 y7 y8 y9
   unfold watershedlaw04_SpanCuts.j1
   repeat' first
   | (with_reducible exact ih0 _ _ _ _ _ _ _)
   | (with_reducible exact ih1 _ _ _ _ _ _ _ _ _ _)
   | (with_reducible exact ih2 _ _ _ _ _ _ _ _ _ _)
   | (with_reducible exact ih3 _ _ _ _ _ _ _ _ _ _ _ _)
   | (with_reducible exact ih4 _ _ _ _)
   | (with_reducible exact span_Cut.mono _ _ _ _)
   | (with_reducible exact span_Has.mono _ _ _ _)
   | (with_reducible exact span_Meet.mono _ _ _ _ _)
   | (with_reducible exact span_Parts.mono _ _)
   | (with_reducible exact span_Right.mono _ _ _)
   | (with_reducible exact span_Within.mono _ _ _ _ _)
   | (with_reducible exact watershedlaw04_awake.mono _)
   | (with_reducible exact watershedlaw04_few.mono _ _)
   | (with_reducible exact LeO.refl _)
   | (with_reducible exact LeO.none _)
   | (with_reducible refine LeO.ite ?_ ?_)
   | (with_reducible refine LeO.bind ?_ (fun _ => ?_))
   | exact ih0 _ _ _ _ _ _ _
   | exact ih1 _ _ _ _ _ _ _ _ _ _
   | exact ih2 _ _ _ _ _ _ _ _ _ _
   | exact ih3 _ _ _ _ _ _ _ _ _ _ _ _
   | exact ih4 _ _ _ _
   | exact span_Cut.mono _ _ _ _
   | exact span_Has.mono _ _ _ _
   | exact span_Meet.mono _ _ _ _ _
   | exact span_Parts.mono _ _
   | exact span_Right.mono _ _ _
   | exact span_Within.mono _ _ _ _ _
   | exact watershedlaw04_awake.mono _
   | exact watershedlaw04_few.mono _ _
   | exact LeO.none _
   | refine LeO.ite ?_ ?_
   | refine LeO.bind ?_ (fun _ => ?_)
  ·intro y0 y1 y2 y3 y4 y5 y6 y7 y8 y9
   unfold watershedlaw04_SpanCuts.l0
   repeat' first
   | (with_reducible exact ih0 _ _ _ _ _ _ _)
   | (with_reducible exact ih1 _ _ _ _ _ _ _ _ _ _)
   | (with_reducible exact ih2 _ _ _ _ _ _ _ _ _ _)
   | (with_reducible exact ih3 _ _ _ _ _ _ _ _ _ _ _ _)
   | (with_reducible exact ih4 _ _ _ _)
   | (with_reducible exact span_Cut.mono _ _ _ _)
   | (with_reducible exact span_Has.mono _ _ _ _)
   | (with_reducible exact span_Meet.mono _ _ _ _ _)
   | (with_reducible exact span_Parts.mono _ _)
   | (with_reducible exact span_Right.mono _ _ _)
   | (with_reducible exact span_Within.mono _ _ _ _ _)
   | (with_reducible exact watershedlaw04_awake.mono _)
   | (with_reducible exact watershedlaw04_few.mono _ _)
   | (with_reducible exact LeO.refl _)
   | (with_reducible exact LeO.none _)
   | (with_reducible refine LeO.ite ?_ ?_)
   | (with_reducible refine LeO.bind ?_ (fun _ => ?_))
   | exact ih0 _ _ _ _ _ _ _
   | exact ih1 _ _ _ _ _ _ _ _ _ _
   | exact ih2 _ _ _ _ _ _ _ _ _ _
   | exact ih3 _ _ _ _ _ _ _ _ _ _ _ _
   | exact ih4 _ _ _ _
   | exact span_Cut.mono _ _ _ _
   | exact span_Has.mono _ _ _ _
   | exact span_Meet.mono _ _ _ _ _
   | exact span_Parts.mono _ _
   | exact span_Right.mono _ _ _
   | exact span_Within.mono _ _ _ _ _
   | exact watershedlaw04_awake.mono _
   | exact watershedlaw04_few.mono _ _
   | exact LeO.none _
   | refine LeO.ite ?_ ?_
   | refine LeO.bind ?_ (fun _ => ?_)
  ·intro y0 y1 y2 y3 y4 y5 y6 y7 y8 y9 y10 y11
   unfold watershedlaw04_SpanCuts.l1
   repeat' first
   | (with_reducible exact ih0 _ _ _ _ _ _ _)
   | (with_reducible exact ih1 _ _ _ _ _ _ _ _ _ _)
   | (with_reducible exact ih2 _ _ _ _ _ _ _ _ _ _)
   | (with_reducible exact ih3 _ _ _ _ _ _ _ _ _ _ _ _)
   | (with_reducible exact ih4 _ _ _ _)
   | (with_reducible exact span_Cut.mono _ _ _ _)
   | (with_reducible exact span_Has.mono _ _ _ _)
   | (with_reducible exact span_Meet.mono _ _ _ _ _)
   | (with_reducible exact span_Parts.mono _ _)
   | (with_reducible exact span_Right.mono _ _ _)
   | (with_reducible exact span_Within.mono _ _ _ _ _)
   | (with_reducible exact watershedlaw04_awake.mono _)
   | (with_reducible exact watershedlaw04_few.mono _ _)
   | (with_reducible exact LeO.refl _)
   | (with_reducible exact LeO.none _)
   | (with_reducible refine LeO.ite ?_ ?_)
   | (with_reducible refine LeO.bind ?_ (fun _ => ?_))
   | exact ih0 _ _ _ _ _ _ _
   | exact ih1 _ _ _ _ _ _ _ _ _ _
   | exact ih2 _ _ _ _ _ _ _ _ _ _
   | exact ih3 _ _ _ _ _ _ _ _ _ _ _ _
   | exact ih4 _ _ _ _
   | exact span_Cut.mono _ _ _ _
   | exact span_Has.mono _ _ _ _
   | exact span_Meet.mono _ _ _ _ _
   | exact span_Parts.mono _ _
   | exact span_Right.mono _ _ _
   | exact span_Within.mono _ _ _ _ _
   | exact watershedlaw04_awake.mono _
   | exact watershedlaw04_few.mono _ _
   | exact LeO.none _
   | refine LeO.ite ?_ ?_
   | refine LeO.bind ?_ (fun _ => ?_)
  ·intro y0 y1 y2 y3
   unfold watershedlaw04_SpanCuts.l2
   repeat' first
   | (with_reducible exact ih0 _ _ _ _ _ _ _)
   | (with_reducible exact ih1 _ _ _ _ _ _ _ _ _ _)
   | (with_reducible exact ih2 _ _ _ _ _ _ _ _ _ _)
   | (with_reducible exact ih3 _ _ _ _ _ _ _ _ _ _ _ _)
   | (with_reducible exact ih4 _ _ _ _)
   | (with_reducible exact span_Cut.mono _ _ _ _)
   | (with_reducible exact span_Has.mono _ _ _ _)
   | (with_reducible exact span_Meet.mono _ _ _ _ _)
   | (with_reducible exact span_Parts.mono _ _)
   | (with_reducible exact span_Right.mono _ _ _)
   | (with_reducible exact span_Within.mono _ _ _ _ _)
   | (with_reducible exact watershedlaw04_awake.mono _)
   | (with_reducible exact watershedlaw04_few.mono _ _)
   | (with_reducible exact LeO.refl _)
   | (with_reducible exact LeO.none _)
   | (with_reducible refine LeO.ite ?_ ?_)
   | (with_reducible refine LeO.bind ?_ (fun _ => ?_))
   | exact ih0 _ _ _ _ _ _ _
   | exact ih1 _ _ _ _ _ _ _ _ _ _
   | exact ih2 _ _ _ _ _ _ _ _ _ _
   | exact ih3 _ _ _ _ _ _ _ _ _ _ _ _
   | exact ih4 _ _ _ _
   | exact span_Cut.mono _ _ _ _
   | exact span_Has.mono _ _ _ _
   | exact span_Meet.mono _ _ _ _ _
   | exact span_Parts.mono _ _
   | exact span_Right.mono _ _ _
   | exact span_Within.mono _ _ _ _ _
   | exact watershedlaw04_awake.mono _
   | exact watershedlaw04_few.mono _ _
   | exact LeO.none _
   | refine LeO.ite ?_ ?_
   | refine LeO.bind ?_ (fun _ => ?_)
theorem watershedlaw04_SpanCuts.mono : ∀ a0 a1 a2 a3 a4 a5 k, LeO (watershedlaw04_SpanCuts.f k a0 a1 a2 a3 a4 a5) (watershedlaw04_SpanCuts.f (k + 1) a0 a1 a2 a3 a4 a5) := by
 intro a0 a1 a2 a3 a4 a5 k
 obtain ⟨ih0, ih1, ih2, ih3, ih4⟩ := watershedlaw04_SpanCuts.mono_l k
 unfold watershedlaw04_SpanCuts.f
 repeat' first
   | (with_reducible exact ih0 _ _ _ _ _ _ _)
   | (with_reducible exact ih1 _ _ _ _ _ _ _ _ _ _)
   | (with_reducible exact ih2 _ _ _ _ _ _ _ _ _ _)
   | (with_reducible exact ih3 _ _ _ _ _ _ _ _ _ _ _ _)
   | (with_reducible exact ih4 _ _ _ _)
   | (with_reducible exact span_Cut.mono _ _ _ _)
   | (with_reducible exact span_Has.mono _ _ _ _)
   | (with_reducible exact span_Meet.mono _ _ _ _ _)
   | (with_reducible exact span_Parts.mono _ _)
   | (with_reducible exact span_Right.mono _ _ _)
   | (with_reducible exact span_Within.mono _ _ _ _ _)
   | (with_reducible exact watershedlaw04_awake.mono _)
   | (with_reducible exact watershedlaw04_few.mono _ _)
   | (with_reducible exact LeO.refl _)
   | (with_reducible exact LeO.none _)
   | (with_reducible refine LeO.ite ?_ ?_)
   | (with_reducible refine LeO.bind ?_ (fun _ => ?_))
   | exact ih0 _ _ _ _ _ _ _
   | exact ih1 _ _ _ _ _ _ _ _ _ _
   | exact ih2 _ _ _ _ _ _ _ _ _ _
   | exact ih3 _ _ _ _ _ _ _ _ _ _ _ _
   | exact ih4 _ _ _ _
   | exact span_Cut.mono _ _ _ _
   | exact span_Has.mono _ _ _ _
   | exact span_Meet.mono _ _ _ _ _
   | exact span_Parts.mono _ _
   | exact span_Right.mono _ _ _
   | exact span_Within.mono _ _ _ _ _
   | exact watershedlaw04_awake.mono _
   | exact watershedlaw04_few.mono _ _
   | exact LeO.none _
   | refine LeO.ite ?_ ?_
   | refine LeO.bind ?_ (fun _ => ?_)
def watershedlaw04_SpanCuts.T16 : Bool × List (List Nat × List Nat) := (true, [([], []), ([], []), ([0, 1], [0, 1]), ([2], [2]), ([], []), ([], []), ([4, 5], [4, 5]), ([6], [6]), ([3, 7], [3, 7])])
def watershedlaw04_SpanCuts.B16 : List Nat := [0, 0, 3, 7, 0, 0, 48, 112, 255]
theorem watershedlaw04_SpanCuts.tab16 : rtab .any (opsOf Try.f6 16) = watershedlaw04_SpanCuts.T16 := by kernel_rfl
theorem watershedlaw04_SpanCuts.bits16 : waitsOk watershedlaw04_SpanCuts.T16.2 watershedlaw04_SpanCuts.B16 = true := by kernel_rfl
def watershedlaw04_SpanCuts.T18 : Bool × List (List Nat × List Nat) := (true, [([], []), ([], []), ([], []), ([1, 2], [1, 2]), ([3], [3]), ([0, 4], [0, 4]), ([], []), ([], []), ([], []), ([7, 8], [7, 8]), ([9], [9]), ([6, 10, 5], [6, 10]), ([5, 11, 0, 1, 2, 3, 4, 5], [5]), ([11, 12, 0, 1, 2, 3, 4, 5, 6, 7, 8, 9, 10, 11, 12], [11])])
def watershedlaw04_SpanCuts.B18 : List Nat := [0, 0, 0, 6, 14, 31, 0, 0, 0, 384, 896, 2047, 4095, 8191]
theorem watershedlaw04_SpanCuts.tab18 : rtab .any (opsOf Try.f6 18) = watershedlaw04_SpanCuts.T18 := by kernel_rfl
theorem watershedlaw04_SpanCuts.bits18 : waitsOk watershedlaw04_SpanCuts.T18.2 watershedlaw04_SpanCuts.B18 = true := by kernel_rfl
def watershedlaw04_SpanCuts.T19 : Bool × List (List Nat × List Nat) := (true, [([], []), ([], []), ([1], [1]), ([0, 2], [0, 2]), ([3], [3]), ([4], [4]), ([5, 4], [4, 5]), ([4, 6], [4, 6]), ([7, 4], [7]), ([8], [8]), ([9, 8, 8], [8, 9]), ([10], [10]), ([10, 11, 8], [8, 10, 11]), ([8], [8]), ([13, 10, 8], [8, 13]), ([14], [14]), ([14], [14]), ([14], [14]), ([16, 17, 14], [14, 16, 17]), ([18, 14], [14, 18]), ([15, 19, 14, 14], [14, 15, 19]), ([14, 20, 8], [8, 14, 20]), ([12, 21, 8], [8, 12, 21]), ([8, 22], [8, 22])])
def watershedlaw04_SpanCuts.B19 : List Nat := [0, 0, 2, 7, 15, 31, 63, 127, 255, 511, 1023, 2047, 4095, 511, 10239, 26623, 26623, 26623, 223231, 485375, 1042431, 2091007, 4194303, 8388607]
theorem watershedlaw04_SpanCuts.tab19 : rtab .any (opsOf Try.f6 19) = watershedlaw04_SpanCuts.T19 := by kernel_rfl
theorem watershedlaw04_SpanCuts.bits19 : waitsOk watershedlaw04_SpanCuts.T19.2 watershedlaw04_SpanCuts.B19 = true := by kernel_rfl
def watershedlaw04_SpanCuts.T24 : Bool × List (List Nat × List Nat) := (true, [([], []), ([], []), ([0, 1], [0, 1]), ([2], [2]), ([], []), ([3, 4], [3, 4]), ([5], [5]), ([6, 5], [6]), ([7], [7]), ([7], [7]), ([8, 9, 7], [7, 8, 9]), ([10, 7], [7, 10]), ([11, 7, 7], [7, 11]), ([12, 7], [7, 12]), ([7, 13], [7, 13])])
def watershedlaw04_SpanCuts.B24 : List Nat := [0, 0, 3, 7, 0, 31, 63, 127, 255, 255, 1023, 2047, 4095, 8191, 16383]
theorem watershedlaw04_SpanCuts.tab24 : rtab .any (opsOf Try.f6 24) = watershedlaw04_SpanCuts.T24 := by kernel_rfl
theorem watershedlaw04_SpanCuts.bits24 : waitsOk watershedlaw04_SpanCuts.T24.2 watershedlaw04_SpanCuts.B24 = true := by kernel_rfl
set_option maxHeartbeats 8000000 in
set_option maxRecDepth 100000 in
theorem watershedlaw04_SpanCuts.calls (k : Nat) (a0_0 : ByteArray) (a0_1 : ByteArray) (a1_0 : ByteArray) (a1_1 : ByteArray) (A2 : Option Addr) (c2 : Nat) (l2 : List ByteArray) (A3 : Option Addr) (c3 : Nat) (l3 : List ByteArray) (r : Bool) (w : World) (hr2 : Kd.C Kd.string w A2 l2.length l2) (hc2 : l2.length ≤ c2) (hr3 : Kd.C Kd.string w A3 l3.length l3) (hc3 : l3.length ≤ c3) (h : watershedlaw04_SpanCuts.f k a0_0 a0_1 a1_0 a1_1 l2 l3 = some r) :
  Calls Try.prog 6 #[.agg #[.string a0_0, .string a0_1], .agg #[.string a1_0, .string a1_1], .slice A2 l2.length c2, .slice A3 l3.length c3] w fun e w' => e = .returned (.bool r) ∧ Below w.heap.size w w' := by
 have hu26 := Try.underlying26
 have HR2 := Am6 hr2
 have HC2 := Am6 hc2
 clear hr2 hc2
 have HR3 := Am6 hr3
 have HC3 := Am6 hc3
 clear hr3 hc3
 have HB := Am6 (Below.refl w.heap.size w)
 have H : ((watershedlaw04_awake.f k).bind fun t197 => (if t197 = true then ((some (([a0_0, a0_1, a1_0, a1_1] : List ByteArray) : List ByteArray)).bind fun y198 => (if y198.length + l2.length < 8796093022208 then ((watershedlaw04_few.f k (y198 ++ l2)).bind fun t204 => (if t204 = true then ((watershedlaw04_few.f k l3).bind fun t205 => (watershedlaw04_SpanCuts.j0 k l2 l3 (!t205) a0_0 a0_1 a1_0 a1_1)) else (watershedlaw04_SpanCuts.j0 k l2 l3 true a0_0 a0_1 a1_0 a1_1))) else (none))) else (none))) = some r := h
 clear h
 replace H := Option.bind_eq_some_iff.mp H
 obtain ⟨t197, A50, H⟩ := H
 try dsimp only at H
 have A5 := Am6 A50
 clear A50
 by_cases c6 : t197 = true
 ·subst c6
  rw [if_pos rfl] at H
  have HC7 := Am6 H
  clear H
  go_enter Try.func6, Try.ntmps6
  go_upto_region 3 with (first | ((with_reducible refine gate_dst (N:=4) rfl ?_); (try (refine gate_guard (by rfl) ?_; dsimp only)); refine box_event ?hg (N:=4) ?hd (cs:=#[.string a0_0, .string a0_1]) (t:=26) ?hr ?_; (case hd => rfl); (case hg => rfl); (case hr => first | (go_simp; done) | (go_simp; rfl)); intro gb195 hg w8 hbox hb; have n0_ := Am6 (bp6 (by repeat (first | (with_reducible first | exact HB.out | apply ba6 | apply bn6 | apply bd6) | exact HB.out)) hb); have n1_ := Am6 (hbox); have n2_ := Am6 ((by rw [hg]; exact (bz6 (by repeat (first | (with_reducible first | exact HB.out | apply ba6 | apply bn6 | apply bd6) | exact HB.out))) : w.heap.size ≤ gb195)); have n3_ := Am6 ((by rw [hg]; exact (bz6 (by repeat (first | (with_reducible first | exact HB.out | apply ba6 | apply bn6 | apply bd6) | exact HB.out))) : w.heap.size ≤ gb195)); clear HB; have HB := n0_; have BK195 := n1_; have GW195 := n2_; have GE195 := n3_; clear n0_ n1_ n2_ n3_; clear hb hbox hg) | ((with_reducible refine gate_dst (N:=5) rfl ?_); (try (refine gate_guard (by rfl) ?_; dsimp only)); refine box_event ?hg (N:=5) ?hd (cs:=#[.string a1_0, .string a1_1]) (t:=26) ?hr ?_; (case hd => rfl); (case hg => rfl); (case hr => first | (go_simp; done) | (go_simp; rfl)); intro gb196 hg w9 hbox hb; have n0_ := Am6 (kb6 (g:=gb195) (o:=.cells #[.string a0_0, .string a0_1] 26 (0, 0)) (by (with_reducible repeat first | apply kn6 | apply kd6 | apply ka6); exact BK195.out) hb); have n1_ := Am6 (bp6 (by repeat (first | (with_reducible first | exact HB.out | apply ba6 | apply bn6 | apply bd6 | refine bs6 ?_ GE195.out) | exact HB.out)) hb); have n2_ := Am6 (hbox); have n3_ := Am6 ((by rw [hg]; exact (bz6 (by repeat (first | (with_reducible first | exact HB.out | apply ba6 | apply bn6 | apply bd6 | refine bs6 ?_ GE195.out) | exact HB.out))) : w.heap.size ≤ gb196)); have n4_ := Am6 ((by rw [hg]; exact (bz6 (by repeat (first | (with_reducible first | exact HB.out | apply ba6 | apply bn6 | apply bd6 | refine bs6 ?_ GE195.out) | exact HB.out))) : w.heap.size ≤ gb196)); have n5_ := Am6 ((by rw [hg]; exact Nat.ne_of_lt (blk_lt (g:=gb195) (o:=.cells #[.string a0_0, .string a0_1] 26 (0, 0)) (by (with_reducible repeat first | apply kn6 | apply kd6 | apply ka6); exact BK195.out)) : gb195 ≠ gb196)); have n6_ := Am6 ((by rw [hg]; exact Nat.ne_of_gt (blk_lt (g:=gb195) (o:=.cells #[.string a0_0, .string a0_1] 26 (0, 0)) (by (with_reducible repeat first | apply kn6 | apply kd6 | apply ka6); exact BK195.out)) : gb196 ≠ gb195)); clear BK195; clear HB; have BK195 := n0_; have HB := n1_; have BK196 := n2_; have GW196 := n3_; have GE196 := n4_; have NB195_196 := n5_; have NB196_195 := n6_; clear n0_ n1_ n2_ n3_ n4_ n5_ n6_; clear hb hbox hg) | ((with_reducible refine gate_callee (f:=8) rfl ?_); refine goesL_ (some 18) rfl rfl Try.func8 (by kernel_rfl) rfl #[] rfl (by (try simp only [ma6, mc6, mn6]); first | done | rfl | (simp only [ld6, lt_6]; rfl)) ?_; (with_reducible refine (watershedlaw04_awake.calls k  true _ A5.out).mono ?_); rintro e w10 ⟨rfl, hb⟩; refine ⟨_, rfl, ?_⟩; have n0_ := Am6 (kb6 (g:=gb195) (o:=.cells #[.string a0_0, .string a0_1] 26 (0, 0)) (by (with_reducible repeat first | apply kn6 | apply kd6 | apply ka6); exact BK195.out) hb); have n1_ := Am6 (kb6 (g:=gb196) (o:=.cells #[.string a1_0, .string a1_1] 26 (0, 0)) (by (with_reducible repeat first | apply kn6 | apply kd6 | apply ka6); exact BK196.out) hb); have n2_ := Am6 (bp6 (by repeat (first | (with_reducible first | exact HB.out | apply ba6 | apply bn6 | apply bd6 | refine bs6 ?_ GE195.out | refine bs6 ?_ GE196.out) | exact HB.out)) hb); clear BK195; clear BK196; clear HB; have BK195 := n0_; have BK196 := n1_; have HB := n2_; clear n0_ n1_ n2_; (try clear hb); (try clear hb2); (try clear hk); (try clear hi)))
  (try simp only [Act.put, sa6, sz6, ss6])
  go_cut [37] (fun v37 wc => ∃ (kq : Nat) (x37_6 : Bool), v37 = .bool x37_6 ∧ Aside0 (watershedlaw04_SpanCuts.j0 kq l2 l3 x37_6 a0_0 a0_1 a1_0 a1_1 = some r) ∧ Aside0 (kq ≤ k) ∧ Aside0 (wc.heap[gb195]? = some (.cells #[.string a0_0, .string a0_1] 26 (0, 0))) ∧ Aside0 (wc.heap[gb196]? = some (.cells #[.string a1_0, .string a1_1] 26 (0, 0))) ∧ Aside0 (Below w.heap.size w wc))
  case first =>
   have H := HC7.out
   clear HC7
   obtain ⟨y198, hy198⟩ : ∃ y_ : List ByteArray, y_ = (([a0_0, a0_1, a1_0, a1_1] : List ByteArray)) := ⟨_, rfl⟩
   replace H : (if y198.length + l2.length < 8796093022208 then ((watershedlaw04_few.f k (y198 ++ l2)).bind fun t204 => (if t204 = true then ((watershedlaw04_few.f k l3).bind fun t205 => (watershedlaw04_SpanCuts.j0 k l2 l3 (!t205) a0_0 a0_1 a1_0 a1_1)) else (watershedlaw04_SpanCuts.j0 k l2 l3 true a0_0 a0_1 a1_0 a1_1))) else (none)) = some r := by first | (rw [hy198]; with_reducible exact H) | (have H2_ := (Option.bind_some _ _).symm.trans H; rw [hy198]; with_reducible exact H2_) | (have H2_ := (Option.bind_some _ _).symm.trans H; with_reducible exact H2_) | with_reducible exact H | (rw [hy198]; exact H) | exact H
   have Ny198 := Am6 hy198
   clear hy198
   by_cases c11 : y198.length + l2.length < 8796093022208
   ·rw [if_pos c11] at H
    have LMc11 := Am6 c11
    clear c11
    obtain ⟨y201, hy201⟩ : ∃ y_ : List ByteArray, y_ = (y198 ++ l2) := ⟨_, rfl⟩
    replace H : ((watershedlaw04_few.f k y201).bind fun t204 => (if t204 = true then ((watershedlaw04_few.f k l3).bind fun t205 => (watershedlaw04_SpanCuts.j0 k l2 l3 (!t205) a0_0 a0_1 a1_0 a1_1)) else (watershedlaw04_SpanCuts.j0 k l2 l3 true a0_0 a0_1 a1_0 a1_1))) = some r := by first | (rw [hy201]; with_reducible exact H) | (have H2_ := (Option.bind_some _ _).symm.trans H; rw [hy201]; with_reducible exact H2_) | (have H2_ := (Option.bind_some _ _).symm.trans H; with_reducible exact H2_) | with_reducible exact H | (rw [hy201]; exact H) | exact H
    have Ny201 := Am6 hy201
    clear hy201
    replace H := Option.bind_eq_some_iff.mp H
    obtain ⟨t204, A120, H⟩ := H
    try dsimp only at H
    have A12 := Am6 A120
    clear A120
    by_cases c13 : t204 = true
    ·subst c13
     rw [if_pos rfl] at H
     replace H := Option.bind_eq_some_iff.mp H
     obtain ⟨t205, A140, H⟩ := H
     try dsimp only at H
     have A14 := Am6 A140
     clear A140
     have H' := Am6 H
     clear H
     have hnb15 := NB195_196.out
     have hnc15 := NB196_195.out
     have hcz16_0 : w10.cell? ⟨gb195, 0, none⟩ = some (.string a0_0) := (kc6 BK195.out 0).trans rfl
     have hcz16_1 : w10.cell? ⟨gb195, 1, none⟩ = some (.string a0_1) := (kc6 BK195.out 1).trans rfl
     have hfz16_0 := kz6 BK195.out 0
     have hfz16_1 := kz6 BK195.out 1
     have hcz17_0 : w10.cell? ⟨gb196, 0, none⟩ = some (.string a1_0) := (kc6 BK196.out 0).trans rfl
     have hcz17_1 : w10.cell? ⟨gb196, 1, none⟩ = some (.string a1_1) := (kc6 BK196.out 1).trans rfl
     have hfz17_0 := kz6 BK196.out 0
     have hfz17_1 := kz6 BK196.out 1
     go_wp2_with (first | ((with_reducible refine gate_dst (N:=28) rfl ?_); (try (refine gate_guard (by rfl) ?_; dsimp only)); refine Kd.R_lit Kd.string _ 9 ?hg (N:=28) ?hd (xs:=([a0_0, a0_1, a1_0, a1_1] : List ByteArray)) (inner:=[.string a0_0, .string a0_1, .string a1_0, .string a1_1]) (ok:=fun _ => True) (okp:=fun _ => True) ?hr ?hp (fun _ hk => hk) trivial (Below.refl _ _) (Nat.le_refl _) (by simp) ?_; (case hd => rfl); (case hg => rfl); (case hr => first | (go_simp; done) | (go_simp; rfl)); (case hp => exact (Reps.one (show Kd.M Kd.string _ _ _ a0_0 [.string a0_0] from rfl) (Reps.one (show Kd.M Kd.string _ _ _ a0_1 [.string a0_1] from rfl) (Reps.one (show Kd.M Kd.string _ _ _ a1_0 [.string a1_0] from rfl) (Reps.one (show Kd.M Kd.string _ _ _ a1_1 [.string a1_1] from rfl) (Reps.none _ _)))))); intro v199 w18 ho19 hb hg_ hnew_; clear hg_ hnew_; (first | rw [← Ny198.out] at ho19 | (simp only [Int.reduceToNat] at ho19; rw [← Ny198.out] at ho19)); have n0_ := Am6 (Rl6 ho19 (bz6 (by repeat (first | (with_reducible first | exact HB.out | apply ba6 | apply bn6 | apply bd6 | refine bs6 ?_ GE195.out | refine bs6 ?_ GE196.out) | exact HB.out)))); have n1_ := Am6 (kb6 (g:=gb195) (o:=.cells #[.string a0_0, .string a0_1] 26 (0, 0)) (by (with_reducible repeat first | apply kn6 | apply kd6 | apply ka6); exact BK195.out) hb); have n2_ := Am6 (kb6 (g:=gb196) (o:=.cells #[.string a1_0, .string a1_1] 26 (0, 0)) (by (with_reducible repeat first | apply kn6 | apply kd6 | apply ka6); exact BK196.out) hb); have n3_ := Am6 (bp6 (by repeat (first | (with_reducible first | exact HB.out | apply ba6 | apply bn6 | apply bd6 | refine bs6 ?_ GE195.out | refine bs6 ?_ GE196.out) | exact HB.out)) hb); clear BK195; clear BK196; clear HB; have HO200 := n0_; have BK195 := n1_; have BK196 := n2_; have HB := n3_; clear n0_ n1_ n2_ n3_; clear hb ho19) | ((with_reducible refine gate_builtin (b:=.append) (xs:=#[.tmp 28, .tmp 29]) rfl ?_); (try (refine gate_guard (by rfl) ?_; dsimp only)); at_builtin; refine Kd.R_append_rows Kd.string (w0:=w) w.heap.size rfl (.tmp 28) (.tmp 29) 24 9 (.string ⟨#[]⟩) 16 rfl Try.underlying24 info9 rfl (by decide) (by omega) v199 y198 l2 _ _ _ (fun _ => True) (fun _ => False) rfl rfl ?aO ?aR (fun _ _ h => h) (fun _ h => h.elim) ?aF ?aB ?aS ?aL ?_; (case aR => repeat (first | exact (Kd.C_below HR2.out HB.out) | (with_reducible refine Kd.C_alloc ?_ _) | (with_reducible refine Kd.C_drewN ?_ _) | (with_reducible refine Kd.C_drew ?_))); (case aB => exact (by repeat (first | (with_reducible first | exact HB.out | apply ba6 | apply bn6 | apply bd6 | refine bs6 ?_ GE195.out | refine bs6 ?_ GE196.out) | exact HB.out))); (case aF => exact (fun _ _ => trivial)); (case aO => exact (by (with_reducible repeat first | apply Ra6 | apply Rn6 | apply Rd6); exact HO200.out)); (case aS => exact (bz6 (by repeat (first | (with_reducible first | exact HB.out | apply ba6 | apply bn6 | apply bd6 | refine bs6 ?_ GE195.out | refine bs6 ?_ GE196.out) | exact HB.out)))); (case aL => have := LMc11.out; omega); intro v202 w20 ho hb hg hat; rw [← Ny201.out] at ho; have n0_ := Am6 (blk_grown (g:=gb195) (o:=.cells #[.string a0_0, .string a0_1] 26 (0, 0)) (by (with_reducible repeat first | apply kn6 | apply kd6 | apply ka6); exact BK195.out) hg (Kd.R_ne HO200.out BK195.out (by decide))); have n1_ := Am6 (blk_grown (g:=gb196) (o:=.cells #[.string a1_0, .string a1_1] 26 (0, 0)) (by (with_reducible repeat first | apply kn6 | apply kd6 | apply ka6); exact BK196.out) hg (Kd.R_ne HO200.out BK196.out (by decide))); have n2_ := Am6 (hb); have n3_ := Am6 (ho); clear BK195; clear BK196; clear HB; clear HO200; have BK195 := n0_; have BK196 := n1_; have HB := n2_; have HO203 := n3_; clear n0_ n1_ n2_ n3_; clear ho hb hg hat; obtain ⟨Ao21, co21, eo21⟩ := Kd.R_slice HO203.out; subst eo21) | ((with_reducible refine gate_callee (f:=9) rfl ?_); refine goesL_ (some 31) rfl rfl Try.func9 (by kernel_rfl) rfl #[.slice Ao21 y201.length co21] rfl (by (try simp only [ma6, mc6, mn6]); first | done | rfl | (simp only [ld6, lt_6]; rfl)) ?_; (with_reducible refine (watershedlaw04_few.calls k _ _ y201 true _ ?side1 ?side2 A12.out).mono ?_); (case side1 => repeat (first | exact (Kd.R_reads' HO203.out).2.2 | (with_reducible refine Kd.C_alloc ?_ _) | (with_reducible refine Kd.C_drewN ?_ _) | (with_reducible refine Kd.C_drew ?_))); (case side2 => exact (Kd.R_reads' HO203.out).2.1); rintro e w' ⟨rfl, ⟨nd, rfl⟩⟩; refine ⟨_, rfl, ?_⟩) | (go_at_call 9; (with_reducible refine (watershedlaw04_few.calls k _ _ l3 t205 _ ?side1 ?side2 A14.out).mono ?_); (case side1 => repeat (first | exact (Kd.C_below HR3.out (by repeat (first | (with_reducible first | exact HB.out | apply ba6 | apply bn6 | apply bd6 | refine bs6 ?_ GE195.out | refine bs6 ?_ GE196.out) | exact HB.out))) | (with_reducible refine Kd.C_alloc ?_ _) | (with_reducible refine Kd.C_drewN ?_ _) | (with_reducible refine Kd.C_drew ?_))); (case side2 => exact HC3.out); rintro e w' ⟨rfl, ⟨nd, rfl⟩⟩))
     go_meet
     case rel => exact ⟨_, (!t205), (by first | rfl | (simp; done) | (simp [*]; done)), H', ⟨by first | omega | exact Nat.le_refl _⟩, ⟨by (with_reducible repeat first | apply kn6 | apply kd6 | apply ka6); exact BK195.out⟩, ⟨by (with_reducible repeat first | apply kn6 | apply kd6 | apply ka6); exact BK196.out⟩, ⟨by repeat (first | (with_reducible first | exact HB.out | apply ba6 | apply bn6 | apply bd6 | refine bs6 ?_ GE195.out | refine bs6 ?_ GE196.out) | exact HB.out)⟩⟩
    ·replace c13 := Bool.eq_false_iff.mpr c13
     subst c13
     rw [if_neg (show ¬ (false = true) by decide)] at H
     have H' := Am6 H
     clear H
     have hnb22 := NB195_196.out
     have hnc22 := NB196_195.out
     have hcz23_0 : w10.cell? ⟨gb195, 0, none⟩ = some (.string a0_0) := (kc6 BK195.out 0).trans rfl
     have hcz23_1 : w10.cell? ⟨gb195, 1, none⟩ = some (.string a0_1) := (kc6 BK195.out 1).trans rfl
     have hfz23_0 := kz6 BK195.out 0
     have hfz23_1 := kz6 BK195.out 1
     have hcz24_0 : w10.cell? ⟨gb196, 0, none⟩ = some (.string a1_0) := (kc6 BK196.out 0).trans rfl
     have hcz24_1 : w10.cell? ⟨gb196, 1, none⟩ = some (.string a1_1) := (kc6 BK196.out 1).trans rfl
     have hfz24_0 := kz6 BK196.out 0
     have hfz24_1 := kz6 BK196.out 1
     go_wp2_with (first | ((with_reducible refine gate_dst (N:=28) rfl ?_); (try (refine gate_guard (by rfl) ?_; dsimp only)); refine Kd.R_lit Kd.string _ 9 ?hg (N:=28) ?hd (xs:=([a0_0, a0_1, a1_0, a1_1] : List ByteArray)) (inner:=[.string a0_0, .string a0_1, .string a1_0, .string a1_1]) (ok:=fun _ => True) (okp:=fun _ => True) ?hr ?hp (fun _ hk => hk) trivial (Below.refl _ _) (Nat.le_refl _) (by simp) ?_; (case hd => rfl); (case hg => rfl); (case hr => first | (go_simp; done) | (go_simp; rfl)); (case hp => exact (Reps.one (show Kd.M Kd.string _ _ _ a0_0 [.string a0_0] from rfl) (Reps.one (show Kd.M Kd.string _ _ _ a0_1 [.string a0_1] from rfl) (Reps.one (show Kd.M Kd.string _ _ _ a1_0 [.string a1_0] from rfl) (Reps.one (show Kd.M Kd.string _ _ _ a1_1 [.string a1_1] from rfl) (Reps.none _ _)))))); intro v199 w25 ho26 hb hg_ hnew_; clear hg_ hnew_; (first | rw [← Ny198.out] at ho26 | (simp only [Int.reduceToNat] at ho26; rw [← Ny198.out] at ho26)); have n0_ := Am6 (Rl6 ho26 (bz6 (by repeat (first | (with_reducible first | exact HB.out | apply ba6 | apply bn6 | apply bd6 | refine bs6 ?_ GE195.out | refine bs6 ?_ GE196.out) | exact HB.out)))); have n1_ := Am6 (kb6 (g:=gb195) (o:=.cells #[.string a0_0, .string a0_1] 26 (0, 0)) (by (with_reducible repeat first | apply kn6 | apply kd6 | apply ka6); exact BK195.out) hb); have n2_ := Am6 (kb6 (g:=gb196) (o:=.cells #[.string a1_0, .string a1_1] 26 (0, 0)) (by (with_reducible repeat first | apply kn6 | apply kd6 | apply ka6); exact BK196.out) hb); have n3_ := Am6 (bp6 (by repeat (first | (with_reducible first | exact HB.out | apply ba6 | apply bn6 | apply bd6 | refine bs6 ?_ GE195.out | refine bs6 ?_ GE196.out) | exact HB.out)) hb); clear BK195; clear BK196; clear HB; have HO200 := n0_; have BK195 := n1_; have BK196 := n2_; have HB := n3_; clear n0_ n1_ n2_ n3_; clear hb ho26) | ((with_reducible refine gate_builtin (b:=.append) (xs:=#[.tmp 28, .tmp 29]) rfl ?_); (try (refine gate_guard (by rfl) ?_; dsimp only)); at_builtin; refine Kd.R_append_rows Kd.string (w0:=w) w.heap.size rfl (.tmp 28) (.tmp 29) 24 9 (.string ⟨#[]⟩) 16 rfl Try.underlying24 info9 rfl (by decide) (by omega) v199 y198 l2 _ _ _ (fun _ => True) (fun _ => False) rfl rfl ?aO ?aR (fun _ _ h => h) (fun _ h => h.elim) ?aF ?aB ?aS ?aL ?_; (case aR => repeat (first | exact (Kd.C_below HR2.out HB.out) | (with_reducible refine Kd.C_alloc ?_ _) | (with_reducible refine Kd.C_drewN ?_ _) | (with_reducible refine Kd.C_drew ?_))); (case aB => exact (by repeat (first | (with_reducible first | exact HB.out | apply ba6 | apply bn6 | apply bd6 | refine bs6 ?_ GE195.out | refine bs6 ?_ GE196.out) | exact HB.out))); (case aF => exact (fun _ _ => trivial)); (case aO => exact (by (with_reducible repeat first | apply Ra6 | apply Rn6 | apply Rd6); exact HO200.out)); (case aS => exact (bz6 (by repeat (first | (with_reducible first | exact HB.out | apply ba6 | apply bn6 | apply bd6 | refine bs6 ?_ GE195.out | refine bs6 ?_ GE196.out) | exact HB.out)))); (case aL => have := LMc11.out; omega); intro v202 w27 ho hb hg hat; rw [← Ny201.out] at ho; have n0_ := Am6 (blk_grown (g:=gb195) (o:=.cells #[.string a0_0, .string a0_1] 26 (0, 0)) (by (with_reducible repeat first | apply kn6 | apply kd6 | apply ka6); exact BK195.out) hg (Kd.R_ne HO200.out BK195.out (by decide))); have n1_ := Am6 (blk_grown (g:=gb196) (o:=.cells #[.string a1_0, .string a1_1] 26 (0, 0)) (by (with_reducible repeat first | apply kn6 | apply kd6 | apply ka6); exact BK196.out) hg (Kd.R_ne HO200.out BK196.out (by decide))); have n2_ := Am6 (hb); have n3_ := Am6 (ho); clear BK195; clear BK196; clear HB; clear HO200; have BK195 := n0_; have BK196 := n1_; have HB := n2_; have HO203 := n3_; clear n0_ n1_ n2_ n3_; clear ho hb hg hat; obtain ⟨Ao28, co28, eo28⟩ := Kd.R_slice HO203.out; subst eo28) | ((with_reducible refine gate_callee (f:=9) rfl ?_); refine goesL_ (some 31) rfl rfl Try.func9 (by kernel_rfl) rfl #[.slice Ao28 y201.length co28] rfl (by (try simp only [ma6, mc6, mn6]); first | done | rfl | (simp only [ld6, lt_6]; rfl)) ?_; (with_reducible refine (watershedlaw04_few.calls k _ _ y201 false _ ?side1 ?side2 A12.out).mono ?_); (case side1 => repeat (first | exact (Kd.R_reads' HO203.out).2.2 | (with_reducible refine Kd.C_alloc ?_ _) | (with_reducible refine Kd.C_drewN ?_ _) | (with_reducible refine Kd.C_drew ?_))); (case side2 => exact (Kd.R_reads' HO203.out).2.1); rintro e w' ⟨rfl, ⟨nd, rfl⟩⟩; refine ⟨_, rfl, ?_⟩))
     go_meet
     case rel => exact ⟨_, (true), (by first | rfl | (simp; done) | (simp [*]; done)), H', ⟨by first | omega | exact Nat.le_refl _⟩, ⟨by (with_reducible repeat first | apply kn6 | apply kd6 | apply ka6); exact BK195.out⟩, ⟨by (with_reducible repeat first | apply kn6 | apply kd6 | apply ka6); exact BK196.out⟩, ⟨by repeat (first | (with_reducible first | exact HB.out | apply ba6 | apply bn6 | apply bd6 | refine bs6 ?_ GE195.out | refine bs6 ?_ GE196.out) | exact HB.out)⟩⟩
   ·rw [if_neg c11] at H
    exact absurd H (by simp)
  case rest =>
   clear HC7
   try clear c1
   try clear c2
   try clear p2
   try clear c3
   try clear c6
   try clear c8
   try clear c9
   try clear c11
   try clear c13
   try clear c15
   try clear c22
   try clear hcz16_0
   try clear hcz16_1
   try clear hcz17_0
   try clear hcz17_1
   try clear hcz23_0
   try clear hcz23_1
   try clear hcz24_0
   try clear hcz24_1
   try clear hfz16_0
   try clear hfz16_1
   try clear hfz17_0
   try clear hfz17_1
   try clear hfz23_0
   try clear hfz23_1
   try clear hfz24_0
   try clear hfz24_1
   obtain ⟨kq, x37_6, rfl, HA, HJ6, BK195, BK196, HB⟩ := hcut
   cases kq with
   | zero => exact absurd HA.out (by simp [watershedlaw04_SpanCuts.j0])
   | succ kj6 =>
    have H := HA.out
    clear HA
    simp only [watershedlaw04_SpanCuts.j0] at H
    by_cases c29 : x37_6 = true
    ·subst c29
     rw [if_pos rfl] at H
     obtain rfl := Option.some.inj H
     go_wp2
     go_ret
     exact ⟨by first | rfl | (simp [errW_none, errW_some] <;> rfl) | (simp [*, errW_none, errW_some] <;> rfl), by repeat (first | (with_reducible first | exact HB.out | apply ba6 | apply bn6 | apply bd6 | refine bs6 ?_ GE195.out | refine bs6 ?_ GE196.out) | exact HB.out)⟩
    ·replace c29 := Bool.eq_false_iff.mpr c29
     subst c29
     rw [if_neg (show ¬ (false = true) by decide)] at H
     replace H := Option.bind_eq_some_iff.mp H
     obtain ⟨t206, A300, H⟩ := H
     try dsimp only at H
     have A30 := Am6 A300
     clear A300
     replace H := Option.bind_eq_some_iff.mp H
     obtain ⟨⟨t209, t210, t211⟩, A310, H⟩ := H
     try dsimp only at H
     have A31 := Am6 A310
     clear A310
     have HC32 := Am6 H
     clear H
     have hnb33 := NB195_196.out
     have hnc33 := NB196_195.out
     have hcz34_0 : wc.cell? ⟨gb195, 0, none⟩ = some (.string a0_0) := (kc6 BK195.out 0).trans rfl
     have hcz34_1 : wc.cell? ⟨gb195, 1, none⟩ = some (.string a0_1) := (kc6 BK195.out 1).trans rfl
     have hfz34_0 := kz6 BK195.out 0
     have hfz34_1 := kz6 BK195.out 1
     go_upto_region 7 with (first | ((with_reducible refine gate_callee (f:=24) rfl ?_); refine goesL_ (some 40) rfl rfl Try.func24 (by kernel_rfl) rfl #[.agg #[.string a0_0, .string a0_1], .slice A2 l2.length c2] rfl (by (try simp only [ma6, mc6, mn6]); first | done | rfl | (simp only [ld6, lt_6]; rfl)) ?_; (with_reducible refine (span_Cut.calls kj6 a0_0 a0_1 _ _ l2 t206 _ ?side1 ?side2 A30.out).mono ?_); (case side1 => repeat (first | exact (Kd.C_below HR2.out HB.out) | (with_reducible refine Kd.C_alloc ?_ _) | (with_reducible refine Kd.C_drewN ?_ _) | (with_reducible refine Kd.C_drew ?_))); (case side2 => exact HC2.out); rintro e w35 ⟨v207, rfl, ho0, hb⟩; refine ⟨_, rfl, ?_⟩; have n0_ := Am6 (Rl6 (Kd.R_newB (Kd.R_newB ho0 (g:=gb195) (o:=.cells #[.string a0_0, .string a0_1] 26 (0, 0)) (by (with_reducible repeat first | apply kn6 | apply kd6 | apply ka6); exact BK195.out)) (g:=gb196) (o:=.cells #[.string a1_0, .string a1_1] 26 (0, 0)) (by (with_reducible repeat first | apply kn6 | apply kd6 | apply ka6); exact BK196.out)) (bz6 (by repeat (first | (with_reducible first | exact HB.out | apply ba6 | apply bn6 | apply bd6 | refine bs6 ?_ GE195.out | refine bs6 ?_ GE196.out) | exact HB.out)))); have n1_ := Am6 (kb6 (g:=gb195) (o:=.cells #[.string a0_0, .string a0_1] 26 (0, 0)) (by (with_reducible repeat first | apply kn6 | apply kd6 | apply ka6); exact BK195.out) hb); have n2_ := Am6 (kb6 (g:=gb196) (o:=.cells #[.string a1_0, .string a1_1] 26 (0, 0)) (by (with_reducible repeat first | apply kn6 | apply kd6 | apply ka6); exact BK196.out) hb); have n3_ := Am6 (bp6 (by repeat (first | (with_reducible first | exact HB.out | apply ba6 | apply bn6 | apply bd6 | refine bs6 ?_ GE195.out | refine bs6 ?_ GE196.out) | exact HB.out)) hb); clear BK195; clear BK196; clear HB; have HO208 := n0_; have BK195 := n1_; have BK196 := n2_; have HB := n3_; clear n0_ n1_ n2_ n3_; (try clear hb); (try clear hb2); (try clear hk); (try clear hi); (try clear ho0); have hcz36_0 : w35.cell? ⟨gb195, 0, none⟩ = some (.string a0_0) := (kc6 BK195.out 0).trans rfl; have hcz36_1 : w35.cell? ⟨gb195, 1, none⟩ = some (.string a0_1) := (kc6 BK195.out 1).trans rfl; have hfz36_0 := kz6 BK195.out 0; have hfz36_1 := kz6 BK195.out 1; have hcz37_0 : w35.cell? ⟨gb196, 0, none⟩ = some (.string a1_0) := (kc6 BK196.out 0).trans rfl; have hcz37_1 : w35.cell? ⟨gb196, 1, none⟩ = some (.string a1_1) := (kc6 BK196.out 1).trans rfl; have hfz37_0 := kz6 BK196.out 0; have hfz37_1 := kz6 BK196.out 1) | ((with_reducible refine gate_callee (f:=12) rfl ?_); refine goesL_ (some 44) rfl rfl Try.func12 (by kernel_rfl) rfl #[.agg #[.string a0_0, .string a0_1], .agg #[.string a1_0, .string a1_1]] rfl (by (try simp only [ma6, mc6, mn6]); first | done | rfl | (simp only [ld6, lt_6]; rfl)) ?_; (with_reducible refine (span_Meet.calls kj6 a0_0 a0_1 a1_0 a1_1 t209 t210 t211 _ A31.out).mono ?_); rintro e w38 ⟨rfl, hb⟩; refine ⟨_, rfl, ?_⟩; have n0_ := Am6 (Rb6 (by (with_reducible repeat first | apply Ra6 | apply Rn6 | apply Rd6); exact HO208.out) hb); have n1_ := Am6 (kb6 (g:=gb195) (o:=.cells #[.string a0_0, .string a0_1] 26 (0, 0)) (by (with_reducible repeat first | apply kn6 | apply kd6 | apply ka6); exact BK195.out) hb); have n2_ := Am6 (kb6 (g:=gb196) (o:=.cells #[.string a1_0, .string a1_1] 26 (0, 0)) (by (with_reducible repeat first | apply kn6 | apply kd6 | apply ka6); exact BK196.out) hb); have n3_ := Am6 (bp6 (by repeat (first | (with_reducible first | exact HB.out | apply ba6 | apply bn6 | apply bd6 | refine bs6 ?_ GE195.out | refine bs6 ?_ GE196.out) | exact HB.out)) hb); clear HO208; clear BK195; clear BK196; clear HB; have HO208 := n0_; have BK195 := n1_; have BK196 := n2_; have HB := n3_; clear n0_ n1_ n2_ n3_; (try clear hb); (try clear hb2); (try clear hk); (try clear hi)) | ((with_reducible refine gate_dst (N:=10) rfl ?_); (try (refine gate_guard (by rfl) ?_; dsimp only)); refine box_event ?hg (N:=10) ?hd (cs:=#[.string (⟨#[]⟩ : ByteArray), .string (⟨#[]⟩ : ByteArray)]) (t:=26) ?hr ?_; (case hd => rfl); (case hg => rfl); (case hr => first | (go_simp; done) | (go_simp; rfl)); intro gb212 hg w39 hbox hb; have n0_ := Am6 (Rb6 (Kd.R_elderB (by (with_reducible repeat first | apply Ra6 | apply Rn6 | apply Rd6); exact HO208.out) gb212 (Nat.le_of_eq hg.symm)) hb); have n1_ := Am6 (kb6 (g:=gb195) (o:=.cells #[.string a0_0, .string a0_1] 26 (0, 0)) (by (with_reducible repeat first | apply kn6 | apply kd6 | apply ka6); exact BK195.out) hb); have n2_ := Am6 (kb6 (g:=gb196) (o:=.cells #[.string a1_0, .string a1_1] 26 (0, 0)) (by (with_reducible repeat first | apply kn6 | apply kd6 | apply ka6); exact BK196.out) hb); have n3_ := Am6 (bp6 (by repeat (first | (with_reducible first | exact HB.out | apply ba6 | apply bn6 | apply bd6 | refine bs6 ?_ GE195.out | refine bs6 ?_ GE196.out) | exact HB.out)) hb); have n4_ := Am6 (hbox); have n5_ := Am6 ((by rw [hg]; exact (bz6 (by repeat (first | (with_reducible first | exact HB.out | apply ba6 | apply bn6 | apply bd6 | refine bs6 ?_ GE195.out | refine bs6 ?_ GE196.out) | exact HB.out))) : w.heap.size ≤ gb212)); have n6_ := Am6 ((by rw [hg]; exact (bz6 (by repeat (first | (with_reducible first | exact HB.out | apply ba6 | apply bn6 | apply bd6 | refine bs6 ?_ GE195.out | refine bs6 ?_ GE196.out) | exact HB.out))) : w.heap.size ≤ gb212)); have n7_ := Am6 ((by rw [hg]; exact Nat.ne_of_lt (blk_lt (g:=gb195) (o:=.cells #[.string a0_0, .string a0_1] 26 (0, 0)) (by (with_reducible repeat first | apply kn6 | apply kd6 | apply ka6); exact BK195.out)) : gb195 ≠ gb212)); have n8_ := Am6 ((by rw [hg]; exact Nat.ne_of_gt (blk_lt (g:=gb195) (o:=.cells #[.string a0_0, .string a0_1] 26 (0, 0)) (by (with_reducible repeat first | apply kn6 | apply kd6 | apply ka6); exact BK195.out)) : gb212 ≠ gb195)); have n9_ := Am6 ((by rw [hg]; exact Nat.ne_of_lt (blk_lt (g:=gb196) (o:=.cells #[.string a1_0, .string a1_1] 26 (0, 0)) (by (with_reducible repeat first | apply kn6 | apply kd6 | apply ka6); exact BK196.out)) : gb196 ≠ gb212)); have n10_ := Am6 ((by rw [hg]; exact Nat.ne_of_gt (blk_lt (g:=gb196) (o:=.cells #[.string a1_0, .string a1_1] 26 (0, 0)) (by (with_reducible repeat first | apply kn6 | apply kd6 | apply ka6); exact BK196.out)) : gb212 ≠ gb196)); clear HO208; clear BK195; clear BK196; clear HB; have HO208 := n0_; have BK195 := n1_; have BK196 := n2_; have HB := n3_; have BK212 := n4_; have GW212 := n5_; have GE212 := n6_; have NB195_212 := n7_; have NB212_195 := n8_; have NB196_212 := n9_; have NB212_196 := n10_; clear n0_ n1_ n2_ n3_ n4_ n5_ n6_ n7_ n8_ n9_ n10_; clear hb hbox hg; have hnb40 := NB212_195.out; have hnc40 := NB195_212.out; have hnb41 := NB212_196.out; have hnc41 := NB196_212.out; have hcz42_0 : w39.cell? ⟨gb212, 0, none⟩ = some (.string (⟨#[]⟩ : ByteArray)) := (kc6 BK212.out 0).trans rfl; have hcz42_1 : w39.cell? ⟨gb212, 1, none⟩ = some (.string (⟨#[]⟩ : ByteArray)) := (kc6 BK212.out 1).trans rfl; have hfz42_0 := kz6 BK212.out 0; have hfz42_1 := kz6 BK212.out 1))
     (try simp only [Act.put, sa6, sz6, ss6])
     go_cut [60] (fun v60 wc => ∃ (kq : Nat) (x60_31 : Bool), v60 = .bool x60_31 ∧ Aside0 (watershedlaw04_SpanCuts.j1 kq l3 t206 t211 x60_31 a0_0 a0_1 a1_0 a1_1 t209 t210 = some r) ∧ Aside0 (kq ≤ kj6) ∧ Aside0 (Kd.R k26 26 wc w.heap.size (fun k_ => k_ ≠ gb195 ∧ k_ ≠ gb196 ∧ k_ ≠ gb212) v207 t206) ∧ Aside0 (wc.heap[gb195]? = some (.cells #[.string a0_0, .string a0_1] 26 (0, 0))) ∧ Aside0 (wc.heap[gb196]? = some (.cells #[.string a1_0, .string a1_1] 26 (0, 0))) ∧ Aside0 (wc.heap[gb212]? = some (.cells #[.string t209, .string t210] 26 (0, 0))) ∧ Aside0 (Below w.heap.size w wc))
     case first =>
      have H := HC32.out
      clear HC32
      replace H := Option.bind_eq_some_iff.mp H
      obtain ⟨⟨t213, t214⟩, A430, H⟩ := H
      try dsimp only at H
      have A43 := Am6 A430
      clear A430
      replace H := Option.bind_eq_some_iff.mp H
      obtain ⟨t215, A440, H⟩ := H
      try dsimp only at H
      have A44 := Am6 A440
      clear A440
      replace H := Option.bind_eq_some_iff.mp H
      obtain ⟨t218, A450, H⟩ := H
      try dsimp only at H
      have A45 := Am6 A450
      clear A450
      by_cases c46 : t218 = true
      ·subst c46
       rw [if_pos rfl] at H
       by_cases c47 : (t206.length : Int) = 0
       ·rw [if_pos c47] at H
        have c47b0 : ((t206.length : Int) == 0) = true := beq_iff_eq.mpr c47
        have c47b1 : ((t206.length : Int) != 0) = false := bne_eq_false_iff_eq.mpr c47
        clear c47
        (first | rw [c47b0] | (simp only [i64_w, i32_w]; rw [c47b0]) | skip)
        replace H := Option.bind_eq_some_iff.mp H
        obtain ⟨t219, A480, H⟩ := H
        try dsimp only at H
        have A48 := Am6 A480
        clear A480
        have H' := Am6 H
        clear H
        go_wp2_with (first | ((with_reducible refine gate_callee (f:=27) rfl ?_); refine goesL_ (some 47) rfl rfl Try.func27 (by kernel_rfl) rfl #[] rfl (by (try simp only [ma6, mc6, mn6]); first | done | rfl | (simp only [ld6, lt_6]; rfl)) ?_; (with_reducible refine (span_All.calls  t213 t214 _ A43.out).mono ?_); rintro e w49 ⟨rfl, hb⟩; refine ⟨_, rfl, ?_⟩; have n0_ := Am6 (Rb6 (by (with_reducible repeat first | apply Ra6 | apply Rn6 | apply Rd6); exact (Ro6 (Rf6 (p:=⟨gb212, 1, none⟩) (Rf6 (p:=⟨gb212, 0, none⟩) (Ro6 HO208.out (fun k_ hk => (⟨hk, hk.2⟩ : _ ∧ k_ ≠ gb212))) (fun _ h=>h.2) (.string t209)) (fun _ h=>h.2) (.string t210)) (fun _ h=>h.1))) hb); have n1_ := Am6 (kb6 (g:=gb195) (o:=.cells #[.string a0_0, .string a0_1] 26 (0, 0)) (by (with_reducible repeat first | apply kn6 | apply kd6 | apply ka6); refine kf6 ?_ NB195_212.out _; (with_reducible repeat first | apply kn6 | apply kd6 | apply ka6); refine kf6 ?_ NB195_212.out _; (with_reducible repeat first | apply kn6 | apply kd6 | apply ka6); exact BK195.out) hb); have n2_ := Am6 (kb6 (g:=gb196) (o:=.cells #[.string a1_0, .string a1_1] 26 (0, 0)) (by (with_reducible repeat first | apply kn6 | apply kd6 | apply ka6); refine kf6 ?_ NB196_212.out _; (with_reducible repeat first | apply kn6 | apply kd6 | apply ka6); refine kf6 ?_ NB196_212.out _; (with_reducible repeat first | apply kn6 | apply kd6 | apply ka6); exact BK196.out) hb); have n3_ := Am6 (kb6 (g:=gb212) (o:=.cells #[.string t209, .string t210] 26 (0, 0)) (by (with_reducible repeat first | apply kn6 | apply kd6 | apply ka6); refine blk_put (cs:=#[.string t209, .string (⟨#[]⟩ : ByteArray)]) ?_ 1 _ rfl; (with_reducible repeat first | apply kn6 | apply kd6 | apply ka6); refine blk_put (cs:=#[.string (⟨#[]⟩ : ByteArray), .string (⟨#[]⟩ : ByteArray)]) ?_ 0 _ rfl; (with_reducible repeat first | apply kn6 | apply kd6 | apply ka6); exact BK212.out) hb); have n4_ := Am6 (bp6 (by repeat (first | (with_reducible first | exact HB.out | apply ba6 | apply bn6 | apply bd6 | refine bs6 ?_ GE195.out | refine bs6 ?_ GE196.out | refine bs6 ?_ GE212.out) | exact HB.out)) hb); clear HO208; clear BK195; clear BK196; clear BK212; clear HB; have HO208 := n0_; have BK195 := n1_; have BK196 := n2_; have BK212 := n3_; have HB := n4_; clear n0_ n1_ n2_ n3_ n4_; (try clear hb); (try clear hb2); (try clear hk); (try clear hi)) | ((with_reducible refine gate_callee (f:=24) rfl ?_); refine goesL_ (some 49) rfl rfl Try.func24 (by kernel_rfl) rfl #[.agg #[.string t213, .string t214], .slice A2 l2.length c2] rfl (by (try simp only [ma6, mc6, mn6]); first | done | rfl | (simp only [ld6, lt_6]; rfl)) ?_; (with_reducible refine (span_Cut.calls kj6 t213 t214 _ _ l2 t215 _ ?side1 ?side2 A44.out).mono ?_); (case side1 => repeat (first | exact (Kd.C_below HR2.out HB.out) | (with_reducible refine Kd.C_alloc ?_ _) | (with_reducible refine Kd.C_drewN ?_ _) | (with_reducible refine Kd.C_drew ?_))); (case side2 => exact HC2.out); rintro e w50 ⟨v216, rfl, ho0, hb⟩; refine ⟨_, rfl, ?_⟩; have n0_ := Am6 (Re6 (by (with_reducible repeat first | apply Ra6 | apply Rn6 | apply Rd6); exact HO208.out) (Ra_6 ho0) hb); have n1_ := Am6 (Rl6 (Kd.R_newB (Kd.R_newB (Kd.R_newB (Rw6 ho0 (Rt6 (by (with_reducible repeat first | apply Ra6 | apply Rn6 | apply Rd6); exact HO208.out))) (g:=gb195) (o:=.cells #[.string a0_0, .string a0_1] 26 (0, 0)) (by (with_reducible repeat first | apply kn6 | apply kd6 | apply ka6); exact BK195.out)) (g:=gb196) (o:=.cells #[.string a1_0, .string a1_1] 26 (0, 0)) (by (with_reducible repeat first | apply kn6 | apply kd6 | apply ka6); exact BK196.out)) (g:=gb212) (o:=.cells #[.string t209, .string t210] 26 (0, 0)) (by (with_reducible repeat first | apply kn6 | apply kd6 | apply ka6); exact BK212.out)) (bz6 (by repeat (first | (with_reducible first | exact HB.out | apply ba6 | apply bn6 | apply bd6 | refine bs6 ?_ GE195.out | refine bs6 ?_ GE196.out | refine bs6 ?_ GE212.out) | exact HB.out)))); have n2_ := Am6 (kb6 (g:=gb195) (o:=.cells #[.string a0_0, .string a0_1] 26 (0, 0)) (by (with_reducible repeat first | apply kn6 | apply kd6 | apply ka6); exact BK195.out) hb); have n3_ := Am6 (kb6 (g:=gb196) (o:=.cells #[.string a1_0, .string a1_1] 26 (0, 0)) (by (with_reducible repeat first | apply kn6 | apply kd6 | apply ka6); exact BK196.out) hb); have n4_ := Am6 (kb6 (g:=gb212) (o:=.cells #[.string t209, .string t210] 26 (0, 0)) (by (with_reducible repeat first | apply kn6 | apply kd6 | apply ka6); exact BK212.out) hb); have n5_ := Am6 (bp6 (by repeat (first | (with_reducible first | exact HB.out | apply ba6 | apply bn6 | apply bd6 | refine bs6 ?_ GE195.out | refine bs6 ?_ GE196.out | refine bs6 ?_ GE212.out) | exact HB.out)) hb); clear HO208; clear BK195; clear BK196; clear BK212; clear HB; have HO208 := n0_; have HO217 := n1_; have BK195 := n2_; have BK196 := n3_; have BK212 := n4_; have HB := n5_; clear n0_ n1_ n2_ n3_ n4_ n5_; (try clear hb); (try clear hb2); (try clear hk); (try clear hi); (try clear ho0); obtain ⟨Ao51, co51, eo51⟩ := Kd.R_slice HO217.out; subst eo51) | ((with_reducible refine gate_callee (f:=10) rfl ?_); refine goesL_ (some 50) rfl rfl Try.func10 (by kernel_rfl) rfl #[.slice Ao51 t215.length co51] rfl (by (try simp only [ma6, mc6, mn6]); first | done | rfl | (simp only [ld6, lt_6]; rfl)) ?_; (with_reducible refine (span_Parts.calls kj6 _ _ t215 true _ ?side1 ?side2 A45.out).mono ?_); (case side1 => repeat (first | exact (Kd.R_reads' HO217.out).2.2 | (with_reducible refine Kd.C_alloc ?_ _) | (with_reducible refine Kd.C_drewN ?_ _) | (with_reducible refine Kd.C_drew ?_))); (case side2 => exact (Kd.R_reads' HO217.out).2.1); rintro e w52 ⟨rfl, hb⟩; refine ⟨_, rfl, ?_⟩; have n0_ := Am6 (Rb6 (by (with_reducible repeat first | apply Ra6 | apply Rn6 | apply Rd6); exact HO208.out) hb); have n1_ := Am6 (Rb6 (by (with_reducible repeat first | apply Ra6 | apply Rn6 | apply Rd6); exact HO217.out) hb); have n2_ := Am6 (kb6 (g:=gb195) (o:=.cells #[.string a0_0, .string a0_1] 26 (0, 0)) (by (with_reducible repeat first | apply kn6 | apply kd6 | apply ka6); exact BK195.out) hb); have n3_ := Am6 (kb6 (g:=gb196) (o:=.cells #[.string a1_0, .string a1_1] 26 (0, 0)) (by (with_reducible repeat first | apply kn6 | apply kd6 | apply ka6); exact BK196.out) hb); have n4_ := Am6 (kb6 (g:=gb212) (o:=.cells #[.string t209, .string t210] 26 (0, 0)) (by (with_reducible repeat first | apply kn6 | apply kd6 | apply ka6); exact BK212.out) hb); have n5_ := Am6 (bp6 (by repeat (first | (with_reducible first | exact HB.out | apply ba6 | apply bn6 | apply bd6 | refine bs6 ?_ GE195.out | refine bs6 ?_ GE196.out | refine bs6 ?_ GE212.out) | exact HB.out)) hb); clear HO208; clear HO217; clear BK195; clear BK196; clear BK212; clear HB; have HO208 := n0_; have HO217 := n1_; have BK195 := n2_; have BK196 := n3_; have BK212 := n4_; have HB := n5_; clear n0_ n1_ n2_ n3_ n4_ n5_; (try clear hb); (try clear hb2); (try clear hk); (try clear hi); obtain ⟨Ao53, co53, eo53⟩ := Kd.R_slice HO208.out; subst eo53; have hnb54 := NB195_196.out; have hnc54 := NB196_195.out; have hnb55 := NB195_212.out; have hnc55 := NB212_195.out; have hcz56_0 : w52.cell? ⟨gb195, 0, none⟩ = some (.string a0_0) := (kc6 BK195.out 0).trans rfl; have hcz56_1 : w52.cell? ⟨gb195, 1, none⟩ = some (.string a0_1) := (kc6 BK195.out 1).trans rfl; have hfz56_0 := kz6 BK195.out 0; have hfz56_1 := kz6 BK195.out 1) | (go_at_call 16; (with_reducible refine (span_Right.calls kj6 a0_0 a0_1 t219 _ A48.out).mono ?_); rintro e w57 ⟨rfl, hb⟩; have n0_ := Am6 (Rb6 (by (with_reducible repeat first | apply Ra6 | apply Rn6 | apply Rd6); exact HO208.out) hb); have n1_ := Am6 (Rb6 (by (with_reducible repeat first | apply Ra6 | apply Rn6 | apply Rd6); exact HO217.out) hb); have n2_ := Am6 (kb6 (g:=gb195) (o:=.cells #[.string a0_0, .string a0_1] 26 (0, 0)) (by (with_reducible repeat first | apply kn6 | apply kd6 | apply ka6); exact BK195.out) hb); have n3_ := Am6 (kb6 (g:=gb196) (o:=.cells #[.string a1_0, .string a1_1] 26 (0, 0)) (by (with_reducible repeat first | apply kn6 | apply kd6 | apply ka6); exact BK196.out) hb); have n4_ := Am6 (kb6 (g:=gb212) (o:=.cells #[.string t209, .string t210] 26 (0, 0)) (by (with_reducible repeat first | apply kn6 | apply kd6 | apply ka6); exact BK212.out) hb); have n5_ := Am6 (bp6 (by repeat (first | (with_reducible first | exact HB.out | apply ba6 | apply bn6 | apply bd6 | refine bs6 ?_ GE195.out | refine bs6 ?_ GE196.out | refine bs6 ?_ GE212.out) | exact HB.out)) hb); clear HO208; clear HO217; clear BK195; clear BK196; clear BK212; clear HB; have HO208 := n0_; have HO217 := n1_; have BK195 := n2_; have BK196 := n3_; have BK212 := n4_; have HB := n5_; clear n0_ n1_ n2_ n3_ n4_ n5_; (try clear hb); (try clear hb2); (try clear hk); (try clear hi)))
        go_meet
        case rel => exact ⟨_, (t219), (by first | rfl | (simp; done) | (simp [*]; done)), H', ⟨by have := HJ6.out; first | omega | exact Nat.le_refl _⟩, ⟨by (with_reducible repeat first | apply Ra6 | apply Rn6 | apply Rd6); exact Ro6 HO208.out (fun _ hk => ⟨hk.1.1.1.2, ⟨hk.1.1.2, hk.1.2⟩⟩)⟩, ⟨by (with_reducible repeat first | apply kn6 | apply kd6 | apply ka6); exact BK195.out⟩, ⟨by (with_reducible repeat first | apply kn6 | apply kd6 | apply ka6); exact BK196.out⟩, ⟨by (with_reducible repeat first | apply kn6 | apply kd6 | apply ka6); exact BK212.out⟩, ⟨by repeat (first | (with_reducible first | exact HB.out | apply ba6 | apply bn6 | apply bd6 | refine bs6 ?_ GE195.out | refine bs6 ?_ GE196.out | refine bs6 ?_ GE212.out) | exact HB.out)⟩⟩
       ·rw [if_neg c47] at H
        have c47b0 : ((t206.length : Int) == 0) = false := beq_eq_false_iff_ne.mpr c47
        have c47b1 : ((t206.length : Int) != 0) = true := bne_iff_ne.mpr c47
        have c47b2 : ¬ (t206 = []) := fun h_ => c47 (by rw [h_]; rfl)
        (first | rw [c47b0] | (simp only [i64_w, i32_w]; rw [c47b0]) | skip)
        have H' := Am6 H
        clear H
        go_wp2_with (first | ((with_reducible refine gate_callee (f:=27) rfl ?_); refine goesL_ (some 47) rfl rfl Try.func27 (by kernel_rfl) rfl #[] rfl (by (try simp only [ma6, mc6, mn6]); first | done | rfl | (simp only [ld6, lt_6]; rfl)) ?_; (with_reducible refine (span_All.calls  t213 t214 _ A43.out).mono ?_); rintro e w58 ⟨rfl, hb⟩; refine ⟨_, rfl, ?_⟩; have n0_ := Am6 (Rb6 (by (with_reducible repeat first | apply Ra6 | apply Rn6 | apply Rd6); exact (Ro6 (Rf6 (p:=⟨gb212, 1, none⟩) (Rf6 (p:=⟨gb212, 0, none⟩) (Ro6 HO208.out (fun k_ hk => (⟨hk, hk.2⟩ : _ ∧ k_ ≠ gb212))) (fun _ h=>h.2) (.string t209)) (fun _ h=>h.2) (.string t210)) (fun _ h=>h.1))) hb); have n1_ := Am6 (kb6 (g:=gb195) (o:=.cells #[.string a0_0, .string a0_1] 26 (0, 0)) (by (with_reducible repeat first | apply kn6 | apply kd6 | apply ka6); refine kf6 ?_ NB195_212.out _; (with_reducible repeat first | apply kn6 | apply kd6 | apply ka6); refine kf6 ?_ NB195_212.out _; (with_reducible repeat first | apply kn6 | apply kd6 | apply ka6); exact BK195.out) hb); have n2_ := Am6 (kb6 (g:=gb196) (o:=.cells #[.string a1_0, .string a1_1] 26 (0, 0)) (by (with_reducible repeat first | apply kn6 | apply kd6 | apply ka6); refine kf6 ?_ NB196_212.out _; (with_reducible repeat first | apply kn6 | apply kd6 | apply ka6); refine kf6 ?_ NB196_212.out _; (with_reducible repeat first | apply kn6 | apply kd6 | apply ka6); exact BK196.out) hb); have n3_ := Am6 (kb6 (g:=gb212) (o:=.cells #[.string t209, .string t210] 26 (0, 0)) (by (with_reducible repeat first | apply kn6 | apply kd6 | apply ka6); refine blk_put (cs:=#[.string t209, .string (⟨#[]⟩ : ByteArray)]) ?_ 1 _ rfl; (with_reducible repeat first | apply kn6 | apply kd6 | apply ka6); refine blk_put (cs:=#[.string (⟨#[]⟩ : ByteArray), .string (⟨#[]⟩ : ByteArray)]) ?_ 0 _ rfl; (with_reducible repeat first | apply kn6 | apply kd6 | apply ka6); exact BK212.out) hb); have n4_ := Am6 (bp6 (by repeat (first | (with_reducible first | exact HB.out | apply ba6 | apply bn6 | apply bd6 | refine bs6 ?_ GE195.out | refine bs6 ?_ GE196.out | refine bs6 ?_ GE212.out) | exact HB.out)) hb); clear HO208; clear BK195; clear BK196; clear BK212; clear HB; have HO208 := n0_; have BK195 := n1_; have BK196 := n2_; have BK212 := n3_; have HB := n4_; clear n0_ n1_ n2_ n3_ n4_; (try clear hb); (try clear hb2); (try clear hk); (try clear hi)) | ((with_reducible refine gate_callee (f:=24) rfl ?_); refine goesL_ (some 49) rfl rfl Try.func24 (by kernel_rfl) rfl #[.agg #[.string t213, .string t214], .slice A2 l2.length c2] rfl (by (try simp only [ma6, mc6, mn6]); first | done | rfl | (simp only [ld6, lt_6]; rfl)) ?_; (with_reducible refine (span_Cut.calls kj6 t213 t214 _ _ l2 t215 _ ?side1 ?side2 A44.out).mono ?_); (case side1 => repeat (first | exact (Kd.C_below HR2.out HB.out) | (with_reducible refine Kd.C_alloc ?_ _) | (with_reducible refine Kd.C_drewN ?_ _) | (with_reducible refine Kd.C_drew ?_))); (case side2 => exact HC2.out); rintro e w59 ⟨v216, rfl, ho0, hb⟩; refine ⟨_, rfl, ?_⟩; have n0_ := Am6 (Re6 (by (with_reducible repeat first | apply Ra6 | apply Rn6 | apply Rd6); exact HO208.out) (Ra_6 ho0) hb); have n1_ := Am6 (Rl6 (Kd.R_newB (Kd.R_newB (Kd.R_newB (Rw6 ho0 (Rt6 (by (with_reducible repeat first | apply Ra6 | apply Rn6 | apply Rd6); exact HO208.out))) (g:=gb195) (o:=.cells #[.string a0_0, .string a0_1] 26 (0, 0)) (by (with_reducible repeat first | apply kn6 | apply kd6 | apply ka6); exact BK195.out)) (g:=gb196) (o:=.cells #[.string a1_0, .string a1_1] 26 (0, 0)) (by (with_reducible repeat first | apply kn6 | apply kd6 | apply ka6); exact BK196.out)) (g:=gb212) (o:=.cells #[.string t209, .string t210] 26 (0, 0)) (by (with_reducible repeat first | apply kn6 | apply kd6 | apply ka6); exact BK212.out)) (bz6 (by repeat (first | (with_reducible first | exact HB.out | apply ba6 | apply bn6 | apply bd6 | refine bs6 ?_ GE195.out | refine bs6 ?_ GE196.out | refine bs6 ?_ GE212.out) | exact HB.out)))); have n2_ := Am6 (kb6 (g:=gb195) (o:=.cells #[.string a0_0, .string a0_1] 26 (0, 0)) (by (with_reducible repeat first | apply kn6 | apply kd6 | apply ka6); exact BK195.out) hb); have n3_ := Am6 (kb6 (g:=gb196) (o:=.cells #[.string a1_0, .string a1_1] 26 (0, 0)) (by (with_reducible repeat first | apply kn6 | apply kd6 | apply ka6); exact BK196.out) hb); have n4_ := Am6 (kb6 (g:=gb212) (o:=.cells #[.string t209, .string t210] 26 (0, 0)) (by (with_reducible repeat first | apply kn6 | apply kd6 | apply ka6); exact BK212.out) hb); have n5_ := Am6 (bp6 (by repeat (first | (with_reducible first | exact HB.out | apply ba6 | apply bn6 | apply bd6 | refine bs6 ?_ GE195.out | refine bs6 ?_ GE196.out | refine bs6 ?_ GE212.out) | exact HB.out)) hb); clear HO208; clear BK195; clear BK196; clear BK212; clear HB; have HO208 := n0_; have HO217 := n1_; have BK195 := n2_; have BK196 := n3_; have BK212 := n4_; have HB := n5_; clear n0_ n1_ n2_ n3_ n4_ n5_; (try clear hb); (try clear hb2); (try clear hk); (try clear hi); (try clear ho0); obtain ⟨Ao60, co60, eo60⟩ := Kd.R_slice HO217.out; subst eo60) | ((with_reducible refine gate_callee (f:=10) rfl ?_); refine goesL_ (some 50) rfl rfl Try.func10 (by kernel_rfl) rfl #[.slice Ao60 t215.length co60] rfl (by (try simp only [ma6, mc6, mn6]); first | done | rfl | (simp only [ld6, lt_6]; rfl)) ?_; (with_reducible refine (span_Parts.calls kj6 _ _ t215 true _ ?side1 ?side2 A45.out).mono ?_); (case side1 => repeat (first | exact (Kd.R_reads' HO217.out).2.2 | (with_reducible refine Kd.C_alloc ?_ _) | (with_reducible refine Kd.C_drewN ?_ _) | (with_reducible refine Kd.C_drew ?_))); (case side2 => exact (Kd.R_reads' HO217.out).2.1); rintro e w61 ⟨rfl, hb⟩; refine ⟨_, rfl, ?_⟩; have n0_ := Am6 (Rb6 (by (with_reducible repeat first | apply Ra6 | apply Rn6 | apply Rd6); exact HO208.out) hb); have n1_ := Am6 (Rb6 (by (with_reducible repeat first | apply Ra6 | apply Rn6 | apply Rd6); exact HO217.out) hb); have n2_ := Am6 (kb6 (g:=gb195) (o:=.cells #[.string a0_0, .string a0_1] 26 (0, 0)) (by (with_reducible repeat first | apply kn6 | apply kd6 | apply ka6); exact BK195.out) hb); have n3_ := Am6 (kb6 (g:=gb196) (o:=.cells #[.string a1_0, .string a1_1] 26 (0, 0)) (by (with_reducible repeat first | apply kn6 | apply kd6 | apply ka6); exact BK196.out) hb); have n4_ := Am6 (kb6 (g:=gb212) (o:=.cells #[.string t209, .string t210] 26 (0, 0)) (by (with_reducible repeat first | apply kn6 | apply kd6 | apply ka6); exact BK212.out) hb); have n5_ := Am6 (bp6 (by repeat (first | (with_reducible first | exact HB.out | apply ba6 | apply bn6 | apply bd6 | refine bs6 ?_ GE195.out | refine bs6 ?_ GE196.out | refine bs6 ?_ GE212.out) | exact HB.out)) hb); clear HO208; clear HO217; clear BK195; clear BK196; clear BK212; clear HB; have HO208 := n0_; have HO217 := n1_; have BK195 := n2_; have BK196 := n3_; have BK212 := n4_; have HB := n5_; clear n0_ n1_ n2_ n3_ n4_ n5_; (try clear hb); (try clear hb2); (try clear hk); (try clear hi); obtain ⟨Ao62, co62, eo62⟩ := Kd.R_slice HO208.out; subst eo62))
        go_meet
        case rel => exact ⟨_, (false), (by first | rfl | (simp; done) | (simp [*]; done)), H', ⟨by have := HJ6.out; first | omega | exact Nat.le_refl _⟩, ⟨by (with_reducible repeat first | apply Ra6 | apply Rn6 | apply Rd6); exact Ro6 HO208.out (fun _ hk => ⟨hk.1.1.1.2, ⟨hk.1.1.2, hk.1.2⟩⟩)⟩, ⟨by (with_reducible repeat first | apply kn6 | apply kd6 | apply ka6); exact BK195.out⟩, ⟨by (with_reducible repeat first | apply kn6 | apply kd6 | apply ka6); exact BK196.out⟩, ⟨by (with_reducible repeat first | apply kn6 | apply kd6 | apply ka6); exact BK212.out⟩, ⟨by repeat (first | (with_reducible first | exact HB.out | apply ba6 | apply bn6 | apply bd6 | refine bs6 ?_ GE195.out | refine bs6 ?_ GE196.out | refine bs6 ?_ GE212.out) | exact HB.out)⟩⟩
      ·replace c46 := Bool.eq_false_iff.mpr c46
       subst c46
       rw [if_neg (show ¬ (false = true) by decide)] at H
       have H' := Am6 H
       clear H
       go_wp2_with (first | ((with_reducible refine gate_callee (f:=27) rfl ?_); refine goesL_ (some 47) rfl rfl Try.func27 (by kernel_rfl) rfl #[] rfl (by (try simp only [ma6, mc6, mn6]); first | done | rfl | (simp only [ld6, lt_6]; rfl)) ?_; (with_reducible refine (span_All.calls  t213 t214 _ A43.out).mono ?_); rintro e w63 ⟨rfl, hb⟩; refine ⟨_, rfl, ?_⟩; have n0_ := Am6 (Rb6 (by (with_reducible repeat first | apply Ra6 | apply Rn6 | apply Rd6); exact (Ro6 (Rf6 (p:=⟨gb212, 1, none⟩) (Rf6 (p:=⟨gb212, 0, none⟩) (Ro6 HO208.out (fun k_ hk => (⟨hk, hk.2⟩ : _ ∧ k_ ≠ gb212))) (fun _ h=>h.2) (.string t209)) (fun _ h=>h.2) (.string t210)) (fun _ h=>h.1))) hb); have n1_ := Am6 (kb6 (g:=gb195) (o:=.cells #[.string a0_0, .string a0_1] 26 (0, 0)) (by (with_reducible repeat first | apply kn6 | apply kd6 | apply ka6); refine kf6 ?_ NB195_212.out _; (with_reducible repeat first | apply kn6 | apply kd6 | apply ka6); refine kf6 ?_ NB195_212.out _; (with_reducible repeat first | apply kn6 | apply kd6 | apply ka6); exact BK195.out) hb); have n2_ := Am6 (kb6 (g:=gb196) (o:=.cells #[.string a1_0, .string a1_1] 26 (0, 0)) (by (with_reducible repeat first | apply kn6 | apply kd6 | apply ka6); refine kf6 ?_ NB196_212.out _; (with_reducible repeat first | apply kn6 | apply kd6 | apply ka6); refine kf6 ?_ NB196_212.out _; (with_reducible repeat first | apply kn6 | apply kd6 | apply ka6); exact BK196.out) hb); have n3_ := Am6 (kb6 (g:=gb212) (o:=.cells #[.string t209, .string t210] 26 (0, 0)) (by (with_reducible repeat first | apply kn6 | apply kd6 | apply ka6); refine blk_put (cs:=#[.string t209, .string (⟨#[]⟩ : ByteArray)]) ?_ 1 _ rfl; (with_reducible repeat first | apply kn6 | apply kd6 | apply ka6); refine blk_put (cs:=#[.string (⟨#[]⟩ : ByteArray), .string (⟨#[]⟩ : ByteArray)]) ?_ 0 _ rfl; (with_reducible repeat first | apply kn6 | apply kd6 | apply ka6); exact BK212.out) hb); have n4_ := Am6 (bp6 (by repeat (first | (with_reducible first | exact HB.out | apply ba6 | apply bn6 | apply bd6 | refine bs6 ?_ GE195.out | refine bs6 ?_ GE196.out | refine bs6 ?_ GE212.out) | exact HB.out)) hb); clear HO208; clear BK195; clear BK196; clear BK212; clear HB; have HO208 := n0_; have BK195 := n1_; have BK196 := n2_; have BK212 := n3_; have HB := n4_; clear n0_ n1_ n2_ n3_ n4_; (try clear hb); (try clear hb2); (try clear hk); (try clear hi)) | ((with_reducible refine gate_callee (f:=24) rfl ?_); refine goesL_ (some 49) rfl rfl Try.func24 (by kernel_rfl) rfl #[.agg #[.string t213, .string t214], .slice A2 l2.length c2] rfl (by (try simp only [ma6, mc6, mn6]); first | done | rfl | (simp only [ld6, lt_6]; rfl)) ?_; (with_reducible refine (span_Cut.calls kj6 t213 t214 _ _ l2 t215 _ ?side1 ?side2 A44.out).mono ?_); (case side1 => repeat (first | exact (Kd.C_below HR2.out HB.out) | (with_reducible refine Kd.C_alloc ?_ _) | (with_reducible refine Kd.C_drewN ?_ _) | (with_reducible refine Kd.C_drew ?_))); (case side2 => exact HC2.out); rintro e w64 ⟨v216, rfl, ho0, hb⟩; refine ⟨_, rfl, ?_⟩; have n0_ := Am6 (Re6 (by (with_reducible repeat first | apply Ra6 | apply Rn6 | apply Rd6); exact HO208.out) (Ra_6 ho0) hb); have n1_ := Am6 (Rl6 (Kd.R_newB (Kd.R_newB (Kd.R_newB (Rw6 ho0 (Rt6 (by (with_reducible repeat first | apply Ra6 | apply Rn6 | apply Rd6); exact HO208.out))) (g:=gb195) (o:=.cells #[.string a0_0, .string a0_1] 26 (0, 0)) (by (with_reducible repeat first | apply kn6 | apply kd6 | apply ka6); exact BK195.out)) (g:=gb196) (o:=.cells #[.string a1_0, .string a1_1] 26 (0, 0)) (by (with_reducible repeat first | apply kn6 | apply kd6 | apply ka6); exact BK196.out)) (g:=gb212) (o:=.cells #[.string t209, .string t210] 26 (0, 0)) (by (with_reducible repeat first | apply kn6 | apply kd6 | apply ka6); exact BK212.out)) (bz6 (by repeat (first | (with_reducible first | exact HB.out | apply ba6 | apply bn6 | apply bd6 | refine bs6 ?_ GE195.out | refine bs6 ?_ GE196.out | refine bs6 ?_ GE212.out) | exact HB.out)))); have n2_ := Am6 (kb6 (g:=gb195) (o:=.cells #[.string a0_0, .string a0_1] 26 (0, 0)) (by (with_reducible repeat first | apply kn6 | apply kd6 | apply ka6); exact BK195.out) hb); have n3_ := Am6 (kb6 (g:=gb196) (o:=.cells #[.string a1_0, .string a1_1] 26 (0, 0)) (by (with_reducible repeat first | apply kn6 | apply kd6 | apply ka6); exact BK196.out) hb); have n4_ := Am6 (kb6 (g:=gb212) (o:=.cells #[.string t209, .string t210] 26 (0, 0)) (by (with_reducible repeat first | apply kn6 | apply kd6 | apply ka6); exact BK212.out) hb); have n5_ := Am6 (bp6 (by repeat (first | (with_reducible first | exact HB.out | apply ba6 | apply bn6 | apply bd6 | refine bs6 ?_ GE195.out | refine bs6 ?_ GE196.out | refine bs6 ?_ GE212.out) | exact HB.out)) hb); clear HO208; clear BK195; clear BK196; clear BK212; clear HB; have HO208 := n0_; have HO217 := n1_; have BK195 := n2_; have BK196 := n3_; have BK212 := n4_; have HB := n5_; clear n0_ n1_ n2_ n3_ n4_ n5_; (try clear hb); (try clear hb2); (try clear hk); (try clear hi); (try clear ho0); obtain ⟨Ao65, co65, eo65⟩ := Kd.R_slice HO217.out; subst eo65) | ((with_reducible refine gate_callee (f:=10) rfl ?_); refine goesL_ (some 50) rfl rfl Try.func10 (by kernel_rfl) rfl #[.slice Ao65 t215.length co65] rfl (by (try simp only [ma6, mc6, mn6]); first | done | rfl | (simp only [ld6, lt_6]; rfl)) ?_; (with_reducible refine (span_Parts.calls kj6 _ _ t215 false _ ?side1 ?side2 A45.out).mono ?_); (case side1 => repeat (first | exact (Kd.R_reads' HO217.out).2.2 | (with_reducible refine Kd.C_alloc ?_ _) | (with_reducible refine Kd.C_drewN ?_ _) | (with_reducible refine Kd.C_drew ?_))); (case side2 => exact (Kd.R_reads' HO217.out).2.1); rintro e w66 ⟨rfl, hb⟩; refine ⟨_, rfl, ?_⟩; have n0_ := Am6 (Rb6 (by (with_reducible repeat first | apply Ra6 | apply Rn6 | apply Rd6); exact HO208.out) hb); have n1_ := Am6 (Rb6 (by (with_reducible repeat first | apply Ra6 | apply Rn6 | apply Rd6); exact HO217.out) hb); have n2_ := Am6 (kb6 (g:=gb195) (o:=.cells #[.string a0_0, .string a0_1] 26 (0, 0)) (by (with_reducible repeat first | apply kn6 | apply kd6 | apply ka6); exact BK195.out) hb); have n3_ := Am6 (kb6 (g:=gb196) (o:=.cells #[.string a1_0, .string a1_1] 26 (0, 0)) (by (with_reducible repeat first | apply kn6 | apply kd6 | apply ka6); exact BK196.out) hb); have n4_ := Am6 (kb6 (g:=gb212) (o:=.cells #[.string t209, .string t210] 26 (0, 0)) (by (with_reducible repeat first | apply kn6 | apply kd6 | apply ka6); exact BK212.out) hb); have n5_ := Am6 (bp6 (by repeat (first | (with_reducible first | exact HB.out | apply ba6 | apply bn6 | apply bd6 | refine bs6 ?_ GE195.out | refine bs6 ?_ GE196.out | refine bs6 ?_ GE212.out) | exact HB.out)) hb); clear HO208; clear HO217; clear BK195; clear BK196; clear BK212; clear HB; have HO208 := n0_; have HO217 := n1_; have BK195 := n2_; have BK196 := n3_; have BK212 := n4_; have HB := n5_; clear n0_ n1_ n2_ n3_ n4_ n5_; (try clear hb); (try clear hb2); (try clear hk); (try clear hi)))
       go_meet
       case rel => exact ⟨_, (true), (by first | rfl | (simp; done) | (simp [*]; done)), H', ⟨by have := HJ6.out; first | omega | exact Nat.le_refl _⟩, ⟨by (with_reducible repeat first | apply Ra6 | apply Rn6 | apply Rd6); exact Ro6 HO208.out (fun _ hk => ⟨hk.1.1.1.2, ⟨hk.1.1.2, hk.1.2⟩⟩)⟩, ⟨by (with_reducible repeat first | apply kn6 | apply kd6 | apply ka6); exact BK195.out⟩, ⟨by (with_reducible repeat first | apply kn6 | apply kd6 | apply ka6); exact BK196.out⟩, ⟨by (with_reducible repeat first | apply kn6 | apply kd6 | apply ka6); exact BK212.out⟩, ⟨by repeat (first | (with_reducible first | exact HB.out | apply ba6 | apply bn6 | apply bd6 | refine bs6 ?_ GE195.out | refine bs6 ?_ GE196.out | refine bs6 ?_ GE212.out) | exact HB.out)⟩⟩
     case rest =>
      clear HC32
      try clear c1
      try clear c2
      try clear p2
      try clear c3
      try clear c4
      try clear c5
      try clear c6
      try clear c8
      try clear c9
      try clear c10
      try clear c11
      try clear c12
      try clear c13
      try clear c15
      try clear c22
      try clear c24
      try clear c27
      try clear c29
      try clear c33
      try clear c40
      try clear c41
      try clear c46
      try clear c47
      try clear c47b0
      try clear c47b1
      try clear c47b2
      try clear c54
      try clear c55
      try clear hcz16_0
      try clear hcz16_1
      try clear hcz17_0
      try clear hcz17_1
      try clear hcz23_0
      try clear hcz23_1
      try clear hcz24_0
      try clear hcz24_1
      try clear hcz34_0
      try clear hcz34_1
      try clear hcz36_0
      try clear hcz36_1
      try clear hcz37_0
      try clear hcz37_1
      try clear hcz42_0
      try clear hcz42_1
      try clear hcz56_0
      try clear hcz56_1
      try clear hfz16_0
      try clear hfz16_1
      try clear hfz17_0
      try clear hfz17_1
      try clear hfz23_0
      try clear hfz23_1
      try clear hfz24_0
      try clear hfz24_1
      try clear hfz34_0
      try clear hfz34_1
      try clear hfz36_0
      try clear hfz36_1
      try clear hfz37_0
      try clear hfz37_1
      try clear hfz42_0
      try clear hfz42_1
      try clear hfz56_0
      try clear hfz56_1
      try clear p2
      obtain ⟨kq, x60_31, rfl, HA, HJ31, HO_9, BK195, BK196, BK212, HB⟩ := hcut
      cases kq with
      | zero => exact absurd HA.out (by simp [watershedlaw04_SpanCuts.j1])
      | succ kj31 =>
       have H := HA.out
       clear HA
       simp only [watershedlaw04_SpanCuts.j1] at H
       by_cases c67 : x60_31 = true
       ·subst c67
        rw [if_pos rfl] at H
        exact absurd H (by simp)
       ·replace c67 := Bool.eq_false_iff.mpr c67
        subst c67
        rw [if_neg (show ¬ (false = true) by decide)] at H
        have H' := Am6 H
        clear H
        go_wp2
        go_loopg [12] kj31 (fun kq v12 w' => ∃ (x12_3 : Int), v12 = .int .i64 x12_3 ∧ Aside0 (watershedlaw04_SpanCuts.l0 kq l3 t206 t211 x12_3 a0_0 a0_1 a1_0 a1_1 t209 t210 = some r) ∧ Aside0 (kq ≤ kj31) ∧ Aside0 (Kd.R k26 26 w' w.heap.size (fun k_ => k_ ≠ gb195 ∧ k_ ≠ gb196 ∧ k_ ≠ gb212) v207 t206) ∧ Aside0 (w'.heap[gb195]? = some (.cells #[.string a0_0, .string a0_1] 26 (0, 0))) ∧ Aside0 (w'.heap[gb196]? = some (.cells #[.string a1_0, .string a1_1] 26 (0, 0))) ∧ Aside0 (w'.heap[gb212]? = some (.cells #[.string t209, .string t210] 26 (0, 0))) ∧ Aside0 (Below w.heap.size w w'))
        case atStart => exact ⟨(0), (by first | rfl | (simp; done) | (simp [*]; done)), H', ⟨Nat.le_refl _⟩, ⟨by (with_reducible repeat first | apply Ra6 | apply Rn6 | apply Rd6); exact HO_9.out⟩, ⟨by (with_reducible repeat first | apply kn6 | apply kd6 | apply ka6); exact BK195.out⟩, ⟨by (with_reducible repeat first | apply kn6 | apply kd6 | apply ka6); exact BK196.out⟩, ⟨by (with_reducible repeat first | apply kn6 | apply kd6 | apply ka6); exact BK212.out⟩, ⟨by repeat (first | (with_reducible first | exact HB.out | apply ba6 | apply bn6 | apply bd6 | refine bs6 ?_ GE195.out | refine bs6 ?_ GE196.out | refine bs6 ?_ GE212.out) | exact HB.out)⟩⟩
        case round =>
         clear H'
         try clear c1
         try clear c2
         try clear p2
         try clear c3
         try clear c4
         try clear c5
         try clear c6
         try clear c8
         try clear c9
         try clear c10
         try clear c11
         try clear c12
         try clear c13
         try clear c15
         try clear c22
         try clear c24
         try clear c27
         try clear c29
         try clear c33
         try clear c40
         try clear c41
         try clear c46
         try clear c47
         try clear c47b0
         try clear c47b1
         try clear c47b2
         try clear c54
         try clear c55
         try clear c67
         try clear hcz16_0
         try clear hcz16_1
         try clear hcz17_0
         try clear hcz17_1
         try clear hcz23_0
         try clear hcz23_1
         try clear hcz24_0
         try clear hcz24_1
         try clear hcz34_0
         try clear hcz34_1
         try clear hcz36_0
         try clear hcz36_1
         try clear hcz37_0
         try clear hcz37_1
         try clear hcz42_0
         try clear hcz42_1
         try clear hcz56_0
         try clear hcz56_1
         try clear hfz16_0
         try clear hfz16_1
         try clear hfz17_0
         try clear hfz17_1
         try clear hfz23_0
         try clear hfz23_1
         try clear hfz24_0
         try clear hfz24_1
         try clear hfz34_0
         try clear hfz34_1
         try clear hfz36_0
         try clear hfz36_1
         try clear hfz37_0
         try clear hfz37_1
         try clear hfz42_0
         try clear hfz42_1
         try clear hfz56_0
         try clear hfz56_1
         try clear p2
         obtain ⟨x12_3, rfl, HA, HK3, HO_9, BK195, BK196, BK212, HB⟩ := hrel
         cases gk with
         | zero => exact absurd HA.out (by simp [watershedlaw04_SpanCuts.l0])
         | succ k3 =>
          have H := HA.out
          clear HA
          simp only [watershedlaw04_SpanCuts.l0] at H
          by_cases c68 : x12_3 < (l3.length : Int)
          ·rw [if_pos c68] at H
           have c68b0 : decide (x12_3 < (l3.length : Int)) = true := decide_eq_true c68
           clear c68
           have H' := Am6 H
           clear H
           go_wp2
           go_loopg [13, 14] k3 (fun kq v13 v14 w' => ∃ (x13_4 : Int) (x14_4 : Int), v13 = .int .i64 x13_4 ∧ v14 = .int .i64 x14_4 ∧ Aside0 (watershedlaw04_SpanCuts.l1 kq l3 t206 t211 x12_3 x13_4 x14_4 a0_0 a0_1 a1_0 a1_1 t209 t210 = some r) ∧ Aside0 (kq ≤ k3) ∧ Aside0 (Kd.R k26 26 w' w.heap.size (fun k_ => k_ ≠ gb195 ∧ k_ ≠ gb196 ∧ k_ ≠ gb212) v207 t206) ∧ Aside0 (w'.heap[gb195]? = some (.cells #[.string a0_0, .string a0_1] 26 (0, 0))) ∧ Aside0 (w'.heap[gb196]? = some (.cells #[.string a1_0, .string a1_1] 26 (0, 0))) ∧ Aside0 (w'.heap[gb212]? = some (.cells #[.string t209, .string t210] 26 (0, 0))) ∧ Aside0 (Below w.heap.size w w'))
           case atStart => exact ⟨(0), (0), (by first | rfl | (simp; done) | (simp [*]; done)), (by first | rfl | (simp; done) | (simp [*]; done)), H', ⟨Nat.le_refl _⟩, ⟨by (with_reducible repeat first | apply Ra6 | apply Rn6 | apply Rd6); exact HO_9.out⟩, ⟨by (with_reducible repeat first | apply kn6 | apply kd6 | apply ka6); exact BK195.out⟩, ⟨by (with_reducible repeat first | apply kn6 | apply kd6 | apply ka6); exact BK196.out⟩, ⟨by (with_reducible repeat first | apply kn6 | apply kd6 | apply ka6); exact BK212.out⟩, ⟨by repeat (first | (with_reducible first | exact HB.out | apply ba6 | apply bn6 | apply bd6 | refine bs6 ?_ GE195.out | refine bs6 ?_ GE196.out | refine bs6 ?_ GE212.out) | exact HB.out)⟩⟩
           case round =>
            clear H'
            try clear c1
            try clear c2
            try clear p2
            try clear c3
            try clear c4
            try clear c5
            try clear c6
            try clear c8
            try clear c9
            try clear c10
            try clear c11
            try clear c12
            try clear c13
            try clear c15
            try clear c22
            try clear c24
            try clear c27
            try clear c29
            try clear c33
            try clear c40
            try clear c41
            try clear c46
            try clear c47
            try clear c47b0
            try clear c47b1
            try clear c47b2
            try clear c54
            try clear c55
            try clear c67
            try clear c68
            try clear c68b0
            try clear hcz16_0
            try clear hcz16_1
            try clear hcz17_0
            try clear hcz17_1
            try clear hcz23_0
            try clear hcz23_1
            try clear hcz24_0
            try clear hcz24_1
            try clear hcz34_0
            try clear hcz34_1
            try clear hcz36_0
            try clear hcz36_1
            try clear hcz37_0
            try clear hcz37_1
            try clear hcz42_0
            try clear hcz42_1
            try clear hcz56_0
            try clear hcz56_1
            try clear hfz16_0
            try clear hfz16_1
            try clear hfz17_0
            try clear hfz17_1
            try clear hfz23_0
            try clear hfz23_1
            try clear hfz24_0
            try clear hfz24_1
            try clear hfz34_0
            try clear hfz34_1
            try clear hfz36_0
            try clear hfz36_1
            try clear hfz37_0
            try clear hfz37_1
            try clear hfz42_0
            try clear hfz42_1
            try clear hfz56_0
            try clear hfz56_1
            try clear p2
            obtain ⟨x13_4, x14_4, rfl, rfl, HA, HK4, HO_9, BK195, BK196, BK212, HB⟩ := hrel
            cases gk with
            | zero => exact absurd HA.out (by simp [watershedlaw04_SpanCuts.l1])
            | succ k4 =>
             have H := HA.out
             clear HA
             simp only [watershedlaw04_SpanCuts.l1] at H
             by_cases c69 : x14_4 < (t206.length : Int)
             ·rw [if_pos c69] at H
              have c69b0 : decide (x14_4 < (t206.length : Int)) = true := decide_eq_true c69
              clear c69
              by_cases c70 : 0 ≤ x14_4
              ·rw [if_pos c70] at H
               have c70b0 : decide (0 ≤ x14_4) = true := decide_eq_true c70
               clear c70
               by_cases c71 : 0 ≤ x12_3
               ·rw [if_pos c71] at H
                have c71b0 : decide (0 ≤ x12_3) = true := decide_eq_true c71
                clear c71
                by_cases c72 : x12_3 < (l3.length : Int)
                ·rw [if_pos c72] at H
                 have c72b0 : decide (x12_3 < (l3.length : Int)) = true := decide_eq_true c72
                 clear c72
                 replace H := Option.bind_eq_some_iff.mp H
                 obtain ⟨t222, A730, H⟩ := H
                 try dsimp only at H
                 have A73 := Am6 A730
                 clear A730
                 by_cases c74 : t222 = true
                 ·subst c74
                  rw [if_pos rfl] at H
                  have H' := Am6 H
                  clear H
                  obtain ⟨Ao75, co75, eo75⟩ := Kd.R_slice HO_9.out
                  subst eo75
                  try go_wp2
                  have n0_ := Am6 (Rd6 HO_9.out)
                  have n1_ := Am6 (kd6 BK195.out)
                  have n2_ := Am6 (kd6 BK196.out)
                  have n3_ := Am6 (kd6 BK212.out)
                  have n4_ := Am6 (bd6 HB.out)
                  clear HO_9
                  clear BK195
                  clear BK196
                  clear BK212
                  clear HB
                  have HO_9 := n0_
                  have BK195 := n1_
                  have BK196 := n2_
                  have BK212 := n3_
                  have HB := n4_
                  clear n0_ n1_ n2_ n3_ n4_
                  have p220 : 0 ≤ (x14_4 : Int) := of_decide_eq_true (by first | (with_reducible assumption) | assumption)
                  have q220 : x14_4 < (t206.length : Int) := of_decide_eq_true (by first | (with_reducible assumption) | assumption)
                  obtain ⟨ad220, e220, hx220_0, hx220_1⟩ := at_T26 (Kd.R_reads' HO_9.out).2.2 x14_4 p220 q220
                  cases e220
                  replace p220 := eq_true p220
                  replace q220 := eq_true q220
                  have p221 : 0 ≤ (x12_3 : Int) := of_decide_eq_true (by first | (with_reducible assumption) | assumption)
                  have q221 : x12_3 < (l3.length : Int) := of_decide_eq_true (by first | (with_reducible assumption) | assumption)
                  obtain ⟨ad221, e221, hx221_0⟩ := Kd.at_string HR3.out x12_3 p221 q221
                  have hw221_0 := hx221_0
                  cases e221
                  replace hx221_0 := (HB.out.cell (World.block_lt_of_cell? w _ hx221_0)).trans hx221_0
                  replace p221 := eq_true p221
                  replace q221 := eq_true q221
                  refine start_ (n:=9) (S:=fun w' => w'.cell? (ad220.add ((x14_4).toNat * 2)) = some (.string ((rd_T26 t206 x14_4).f0)) ∧ w'.cell? ⟨(ad220.add ((x14_4).toNat * 2)).block, (ad220.add ((x14_4).toNat * 2)).off + 1, none⟩ = some (.string ((rd_T26 t206 x14_4).f1)) ∧ w'.cell? (ad221.add (x12_3).toNat) = some (.string (rdOf ByteArray.empty l3 x12_3))) (ds:=[]) #[false, false, false, false, false, false, false, false, false] (by kernel_rfl) rfl rfl ⟨hx220_0, hx220_1, ((HB.out.cell (World.block_lt_of_cell? w _ hw221_0)).trans hw221_0)⟩ (fun hHeld => ?_); refine with_tabW watershedlaw04_SpanCuts.tab16 watershedlaw04_SpanCuts.bits16 (fun HT_ HW_ => ?_)
                  generalize wr.drew = w76 at HO_9 BK195 BK196 BK212 HB hx220_0 hx220_1 hx221_0 hHeld ⊢
                  refine pure_ (i:=0) (N:=some 73) (v:=?_) (a' := ?_) #[true, false, false, false, false, false, false, false, false] rfl rfl (any_of HT_.out (by kernel_rfl)) (fun _ _ _ h => h) (Or.inl ⟨by rfl, ?_⟩) ?_ ?_
                  rotate_left
                  ·intro w'
                   go_simp
                   with_reducible rfl
                  rotate_left
                  ·simp only [Act.put, sa6, sz6, ss6, i64_w, i32_w]
                   rfl
                  refine pure_ (i:=1) (N:=some 74) (v:=?_) (a' := ?_) #[true, true, false, false, false, false, false, false, false] rfl rfl (any_of HT_.out (by kernel_rfl)) (fun _ _ _ h => h) (Or.inl ⟨by rfl, ?_⟩) ?_ ?_
                  rotate_left
                  ·intro w'
                   go_simp
                   with_reducible rfl
                  rotate_left
                  ·simp only [Act.put, sa6, sz6, ss6, i64_w, i32_w]
                   rfl
                  refine pure_ (i:=2) (N:=some 75) (v:=?_) (a' := ?_) #[true, true, true, false, false, false, false, false, false] rfl rfl (any_of HT_.out (by kernel_rfl)) (fun _ _ _ h => h) (Or.inl ⟨by rfl, ?_⟩) ?_ ?_
                  rotate_left
                  ·intro w'
                   go_simp
                   with_reducible rfl
                  rotate_left
                  ·simp only [Act.put, sa6, sz6, ss6, i64_w, i32_w]
                   rfl
                  refine pure_ (i:=4) (N:=some 77) (v:=?_) (a' := ?_) #[true, true, true, false, true, false, false, false, false] rfl rfl (any_of HT_.out (by kernel_rfl)) (fun _ _ _ h => h) (Or.inl ⟨by rfl, ?_⟩) ?_ ?_
                  rotate_left
                  ·intro w'
                   go_simp
                   with_reducible rfl
                  rotate_left
                  ·simp only [Act.put, sa6, sz6, ss6, i64_w, i32_w]
                   rfl
                  refine pure_ (i:=5) (N:=some 78) (v:=?_) (a' := ?_) #[true, true, true, false, true, true, false, false, false] rfl rfl (any_of HT_.out (by kernel_rfl)) (fun _ _ _ h => h) (Or.inl ⟨by rfl, ?_⟩) ?_ ?_
                  rotate_left
                  ·intro w'
                   go_simp
                   with_reducible rfl
                  rotate_left
                  ·simp only [Act.put, sa6, sz6, ss6, i64_w, i32_w]
                   rfl
                  refine pure_ (i:=6) (N:=some 79) (v:=?_) (a' := ?_) #[true, true, true, false, true, true, true, false, false] rfl rfl (any_of HT_.out (by kernel_rfl)) (fun _ _ _ h => h) (Or.inl ⟨by rfl, ?_⟩) ?_ ?_
                  rotate_left
                  ·intro w'
                   go_simp
                   with_reducible rfl
                  rotate_left
                  ·simp only [Act.put, sa6, sz6, ss6, i64_w, i32_w]
                   rfl
                  refine take_ (i:=3) (N:=some 76) (v:=?_) (a' := ?_) #[true, true, true, true, true, true, true, false, false] rfl rfl (take_ofW HT_.out HW_.out (by kernel_rfl)) (fun _ _ _ h => h) (Or.inl ⟨by rfl, ?_⟩) hHeld ?_ ?_
                  rotate_left
                  ·rintro w' ⟨s0, s1, s2⟩
                   go_simp
                   with_reducible rfl
                  rotate_left
                  ·simp only [Act.put, sa6, sz6, ss6, i64_w, i32_w]
                   rfl
                  refine take_ (i:=7) (N:=some 80) (v:=?_) (a' := ?_) #[true, true, true, true, true, true, true, true, false] rfl rfl (take_ofW HT_.out HW_.out (by kernel_rfl)) (fun _ _ _ h => h) (Or.inl ⟨by rfl, ?_⟩) hHeld ?_ ?_
                  rotate_left
                  ·rintro w' ⟨s0, s1, s2⟩
                   go_simp
                   with_reducible rfl
                  rotate_left
                  ·simp only [Act.put, sa6, sz6, ss6, i64_w, i32_w]
                   rfl
                  refine one_ (i:=8) (N:=some 81) #[true, true, true, true, true, true, true, true, true] rfl rfl (one_of HT_.out (by kernel_rfl)) (by decide) (fun K hK => ?_)
                  refine goes_ Try.func20 (by kernel_rfl) rfl #[.agg #[.string ((rd_T26 t206 x14_4).f0), .string ((rd_T26 t206 x14_4).f1)], .string (rdOf ByteArray.empty l3 x12_3)] (by rfl) rfl rfl (by (try simp only [ma6, mc6, mn6]); first | done | rfl | (simp only [ld6, lt_6]; rfl)) ?_
                  with_reducible refine (span_Has.calls k4 ((rd_T26 t206 x14_4).f0) ((rd_T26 t206 x14_4).f1) (rdOf ByteArray.empty l3 x12_3) true _ A73.out).mono ?_
                  rintro e w77 ⟨rfl, hb⟩
                  have HS0_ := (hb.cell (World.block_lt_of_cell? _ _ (hHeld.1))).trans (hHeld.1)
                  have HS1_ := (hb.cell (World.block_lt_of_cell? _ _ (hHeld.2.1))).trans (hHeld.2.1)
                  refine ⟨_, rfl, ?_⟩
                  have n0_ := Am6 (Rb6 (by (with_reducible repeat first | apply Ra6 | apply Rn6 | apply Rd6); exact HO_9.out) hb)
                  have n1_ := Am6 (kb6 (g:=gb195) (o:=.cells #[.string a0_0, .string a0_1] 26 (0, 0)) (by (with_reducible repeat first | apply kn6 | apply kd6 | apply ka6); exact BK195.out) hb)
                  have n2_ := Am6 (kb6 (g:=gb196) (o:=.cells #[.string a1_0, .string a1_1] 26 (0, 0)) (by (with_reducible repeat first | apply kn6 | apply kd6 | apply ka6); exact BK196.out) hb)
                  have n3_ := Am6 (kb6 (g:=gb212) (o:=.cells #[.string t209, .string t210] 26 (0, 0)) (by (with_reducible repeat first | apply kn6 | apply kd6 | apply ka6); exact BK212.out) hb)
                  have n4_ := Am6 (bp6 (by repeat (first | (with_reducible first | exact HB.out | apply ba6 | apply bn6 | apply bd6 | refine bs6 ?_ GE195.out | refine bs6 ?_ GE196.out | refine bs6 ?_ GE212.out) | exact HB.out)) hb)
                  clear HO_9
                  clear BK195
                  clear BK196
                  clear BK212
                  clear HB
                  have HO_9 := n0_
                  have BK195 := n1_
                  have BK196 := n2_
                  have BK212 := n3_
                  have HB := n4_
                  clear n0_ n1_ n2_ n3_ n4_
                  (try clear hb)
                  (try clear hb2)
                  (try clear hk)
                  (try clear hi)
                  refine hK.out _ _ ⟨HS0_, HS1_, ((HB.out.cell (World.block_lt_of_cell? w _ hw221_0)).trans hw221_0)⟩ (fun hHeld => ?_)
                  clear hK K
                  refine norm_ (a' := ?_) ?_ ?_
                  rotate_left
                  ·show Act.put _ (some 81) _ = _
                   simp only [Act.put, sa6, sz6, ss6, i64_w, i32_w]
                   rfl
                  refine done_ (done_of HT_.out (by kernel_rfl)) ?_
                  try go_wp2
                  go_roundg k4
                  case measure => have := HJ6.out; have := HJ31.out; have := HK3.out; have := HK4.out; omega
                  case rel => exact ⟨(wrap64 (x13_4 + 1)), (wrap64 (x14_4 + 1)), (by first | rfl | (simp; done) | (simp [*]; done)), (by first | rfl | (simp; done) | (simp [*]; done)), H', ⟨by have := HJ6.out; have := HJ31.out; have := HK3.out; have := HK4.out; omega⟩, ⟨by (with_reducible repeat first | apply Ra6 | apply Rn6 | apply Rd6); exact HO_9.out⟩, ⟨by (with_reducible repeat first | apply kn6 | apply kd6 | apply ka6); exact BK195.out⟩, ⟨by (with_reducible repeat first | apply kn6 | apply kd6 | apply ka6); exact BK196.out⟩, ⟨by (with_reducible repeat first | apply kn6 | apply kd6 | apply ka6); exact BK212.out⟩, ⟨by repeat (first | (with_reducible first | exact HB.out | apply ba6 | apply bn6 | apply bd6 | refine bs6 ?_ GE195.out | refine bs6 ?_ GE196.out | refine bs6 ?_ GE212.out) | exact HB.out)⟩⟩
                 ·replace c74 := Bool.eq_false_iff.mpr c74
                  subst c74
                  rw [if_neg (show ¬ (false = true) by decide)] at H
                  have H' := Am6 H
                  clear H
                  obtain ⟨Ao78, co78, eo78⟩ := Kd.R_slice HO_9.out
                  subst eo78
                  try go_wp2
                  have n0_ := Am6 (Rd6 HO_9.out)
                  have n1_ := Am6 (kd6 BK195.out)
                  have n2_ := Am6 (kd6 BK196.out)
                  have n3_ := Am6 (kd6 BK212.out)
                  have n4_ := Am6 (bd6 HB.out)
                  clear HO_9
                  clear BK195
                  clear BK196
                  clear BK212
                  clear HB
                  have HO_9 := n0_
                  have BK195 := n1_
                  have BK196 := n2_
                  have BK212 := n3_
                  have HB := n4_
                  clear n0_ n1_ n2_ n3_ n4_
                  have p220 : 0 ≤ (x14_4 : Int) := of_decide_eq_true (by first | (with_reducible assumption) | assumption)
                  have q220 : x14_4 < (t206.length : Int) := of_decide_eq_true (by first | (with_reducible assumption) | assumption)
                  obtain ⟨ad220, e220, hx220_0, hx220_1⟩ := at_T26 (Kd.R_reads' HO_9.out).2.2 x14_4 p220 q220
                  cases e220
                  replace p220 := eq_true p220
                  replace q220 := eq_true q220
                  have p221 : 0 ≤ (x12_3 : Int) := of_decide_eq_true (by first | (with_reducible assumption) | assumption)
                  have q221 : x12_3 < (l3.length : Int) := of_decide_eq_true (by first | (with_reducible assumption) | assumption)
                  obtain ⟨ad221, e221, hx221_0⟩ := Kd.at_string HR3.out x12_3 p221 q221
                  have hw221_0 := hx221_0
                  cases e221
                  replace hx221_0 := (HB.out.cell (World.block_lt_of_cell? w _ hx221_0)).trans hx221_0
                  replace p221 := eq_true p221
                  replace q221 := eq_true q221
                  refine start_ (n:=9) (S:=fun w' => w'.cell? (ad220.add ((x14_4).toNat * 2)) = some (.string ((rd_T26 t206 x14_4).f0)) ∧ w'.cell? ⟨(ad220.add ((x14_4).toNat * 2)).block, (ad220.add ((x14_4).toNat * 2)).off + 1, none⟩ = some (.string ((rd_T26 t206 x14_4).f1)) ∧ w'.cell? (ad221.add (x12_3).toNat) = some (.string (rdOf ByteArray.empty l3 x12_3))) (ds:=[]) #[false, false, false, false, false, false, false, false, false] (by kernel_rfl) rfl rfl ⟨hx220_0, hx220_1, ((HB.out.cell (World.block_lt_of_cell? w _ hw221_0)).trans hw221_0)⟩ (fun hHeld => ?_); refine with_tabW watershedlaw04_SpanCuts.tab16 watershedlaw04_SpanCuts.bits16 (fun HT_ HW_ => ?_)
                  generalize wr.drew = w79 at HO_9 BK195 BK196 BK212 HB hx220_0 hx220_1 hx221_0 hHeld ⊢
                  refine pure_ (i:=0) (N:=some 73) (v:=?_) (a' := ?_) #[true, false, false, false, false, false, false, false, false] rfl rfl (any_of HT_.out (by kernel_rfl)) (fun _ _ _ h => h) (Or.inl ⟨by rfl, ?_⟩) ?_ ?_
                  rotate_left
                  ·intro w'
                   go_simp
                   with_reducible rfl
                  rotate_left
                  ·simp only [Act.put, sa6, sz6, ss6, i64_w, i32_w]
                   rfl
                  refine pure_ (i:=1) (N:=some 74) (v:=?_) (a' := ?_) #[true, true, false, false, false, false, false, false, false] rfl rfl (any_of HT_.out (by kernel_rfl)) (fun _ _ _ h => h) (Or.inl ⟨by rfl, ?_⟩) ?_ ?_
                  rotate_left
                  ·intro w'
                   go_simp
                   with_reducible rfl
                  rotate_left
                  ·simp only [Act.put, sa6, sz6, ss6, i64_w, i32_w]
                   rfl
                  refine pure_ (i:=2) (N:=some 75) (v:=?_) (a' := ?_) #[true, true, true, false, false, false, false, false, false] rfl rfl (any_of HT_.out (by kernel_rfl)) (fun _ _ _ h => h) (Or.inl ⟨by rfl, ?_⟩) ?_ ?_
                  rotate_left
                  ·intro w'
                   go_simp
                   with_reducible rfl
                  rotate_left
                  ·simp only [Act.put, sa6, sz6, ss6, i64_w, i32_w]
                   rfl
                  refine pure_ (i:=4) (N:=some 77) (v:=?_) (a' := ?_) #[true, true, true, false, true, false, false, false, false] rfl rfl (any_of HT_.out (by kernel_rfl)) (fun _ _ _ h => h) (Or.inl ⟨by rfl, ?_⟩) ?_ ?_
                  rotate_left
                  ·intro w'
                   go_simp
                   with_reducible rfl
                  rotate_left
                  ·simp only [Act.put, sa6, sz6, ss6, i64_w, i32_w]
                   rfl
                  refine pure_ (i:=5) (N:=some 78) (v:=?_) (a' := ?_) #[true, true, true, false, true, true, false, false, false] rfl rfl (any_of HT_.out (by kernel_rfl)) (fun _ _ _ h => h) (Or.inl ⟨by rfl, ?_⟩) ?_ ?_
                  rotate_left
                  ·intro w'
                   go_simp
                   with_reducible rfl
                  rotate_left
                  ·simp only [Act.put, sa6, sz6, ss6, i64_w, i32_w]
                   rfl
                  refine pure_ (i:=6) (N:=some 79) (v:=?_) (a' := ?_) #[true, true, true, false, true, true, true, false, false] rfl rfl (any_of HT_.out (by kernel_rfl)) (fun _ _ _ h => h) (Or.inl ⟨by rfl, ?_⟩) ?_ ?_
                  rotate_left
                  ·intro w'
                   go_simp
                   with_reducible rfl
                  rotate_left
                  ·simp only [Act.put, sa6, sz6, ss6, i64_w, i32_w]
                   rfl
                  refine take_ (i:=3) (N:=some 76) (v:=?_) (a' := ?_) #[true, true, true, true, true, true, true, false, false] rfl rfl (take_ofW HT_.out HW_.out (by kernel_rfl)) (fun _ _ _ h => h) (Or.inl ⟨by rfl, ?_⟩) hHeld ?_ ?_
                  rotate_left
                  ·rintro w' ⟨s0, s1, s2⟩
                   go_simp
                   with_reducible rfl
                  rotate_left
                  ·simp only [Act.put, sa6, sz6, ss6, i64_w, i32_w]
                   rfl
                  refine take_ (i:=7) (N:=some 80) (v:=?_) (a' := ?_) #[true, true, true, true, true, true, true, true, false] rfl rfl (take_ofW HT_.out HW_.out (by kernel_rfl)) (fun _ _ _ h => h) (Or.inl ⟨by rfl, ?_⟩) hHeld ?_ ?_
                  rotate_left
                  ·rintro w' ⟨s0, s1, s2⟩
                   go_simp
                   with_reducible rfl
                  rotate_left
                  ·simp only [Act.put, sa6, sz6, ss6, i64_w, i32_w]
                   rfl
                  refine one_ (i:=8) (N:=some 81) #[true, true, true, true, true, true, true, true, true] rfl rfl (one_of HT_.out (by kernel_rfl)) (by decide) (fun K hK => ?_)
                  refine goes_ Try.func20 (by kernel_rfl) rfl #[.agg #[.string ((rd_T26 t206 x14_4).f0), .string ((rd_T26 t206 x14_4).f1)], .string (rdOf ByteArray.empty l3 x12_3)] (by rfl) rfl rfl (by (try simp only [ma6, mc6, mn6]); first | done | rfl | (simp only [ld6, lt_6]; rfl)) ?_
                  with_reducible refine (span_Has.calls k4 ((rd_T26 t206 x14_4).f0) ((rd_T26 t206 x14_4).f1) (rdOf ByteArray.empty l3 x12_3) false _ A73.out).mono ?_
                  rintro e w80 ⟨rfl, hb⟩
                  have HS0_ := (hb.cell (World.block_lt_of_cell? _ _ (hHeld.1))).trans (hHeld.1)
                  have HS1_ := (hb.cell (World.block_lt_of_cell? _ _ (hHeld.2.1))).trans (hHeld.2.1)
                  refine ⟨_, rfl, ?_⟩
                  have n0_ := Am6 (Rb6 (by (with_reducible repeat first | apply Ra6 | apply Rn6 | apply Rd6); exact HO_9.out) hb)
                  have n1_ := Am6 (kb6 (g:=gb195) (o:=.cells #[.string a0_0, .string a0_1] 26 (0, 0)) (by (with_reducible repeat first | apply kn6 | apply kd6 | apply ka6); exact BK195.out) hb)
                  have n2_ := Am6 (kb6 (g:=gb196) (o:=.cells #[.string a1_0, .string a1_1] 26 (0, 0)) (by (with_reducible repeat first | apply kn6 | apply kd6 | apply ka6); exact BK196.out) hb)
                  have n3_ := Am6 (kb6 (g:=gb212) (o:=.cells #[.string t209, .string t210] 26 (0, 0)) (by (with_reducible repeat first | apply kn6 | apply kd6 | apply ka6); exact BK212.out) hb)
                  have n4_ := Am6 (bp6 (by repeat (first | (with_reducible first | exact HB.out | apply ba6 | apply bn6 | apply bd6 | refine bs6 ?_ GE195.out | refine bs6 ?_ GE196.out | refine bs6 ?_ GE212.out) | exact HB.out)) hb)
                  clear HO_9
                  clear BK195
                  clear BK196
                  clear BK212
                  clear HB
                  have HO_9 := n0_
                  have BK195 := n1_
                  have BK196 := n2_
                  have BK212 := n3_
                  have HB := n4_
                  clear n0_ n1_ n2_ n3_ n4_
                  (try clear hb)
                  (try clear hb2)
                  (try clear hk)
                  (try clear hi)
                  refine hK.out _ _ ⟨HS0_, HS1_, ((HB.out.cell (World.block_lt_of_cell? w _ hw221_0)).trans hw221_0)⟩ (fun hHeld => ?_)
                  clear hK K
                  refine norm_ (a' := ?_) ?_ ?_
                  rotate_left
                  ·show Act.put _ (some 81) _ = _
                   simp only [Act.put, sa6, sz6, ss6, i64_w, i32_w]
                   rfl
                  refine done_ (done_of HT_.out (by kernel_rfl)) ?_
                  try go_wp2
                  go_roundg k4
                  case measure => have := HJ6.out; have := HJ31.out; have := HK3.out; have := HK4.out; omega
                  case rel => exact ⟨(x13_4), (wrap64 (x14_4 + 1)), (by first | rfl | (simp; done) | (simp [*]; done)), (by first | rfl | (simp; done) | (simp [*]; done)), H', ⟨by have := HJ6.out; have := HJ31.out; have := HK3.out; have := HK4.out; omega⟩, ⟨by (with_reducible repeat first | apply Ra6 | apply Rn6 | apply Rd6); exact HO_9.out⟩, ⟨by (with_reducible repeat first | apply kn6 | apply kd6 | apply ka6); exact BK195.out⟩, ⟨by (with_reducible repeat first | apply kn6 | apply kd6 | apply ka6); exact BK196.out⟩, ⟨by (with_reducible repeat first | apply kn6 | apply kd6 | apply ka6); exact BK212.out⟩, ⟨by repeat (first | (with_reducible first | exact HB.out | apply ba6 | apply bn6 | apply bd6 | refine bs6 ?_ GE195.out | refine bs6 ?_ GE196.out | refine bs6 ?_ GE212.out) | exact HB.out)⟩⟩
                ·rw [if_neg c72] at H
                 exact absurd H (by simp)
               ·rw [if_neg c71] at H
                exact absurd H (by simp)
              ·rw [if_neg c70] at H
               exact absurd H (by simp)
             ·rw [if_neg c69] at H
              have c69b0 : decide (x14_4 < (t206.length : Int)) = false := decide_eq_false c69
              clear c69
              by_cases c81 : 0 ≤ x12_3
              ·rw [if_pos c81] at H
               have c81b0 : decide (0 ≤ x12_3) = true := decide_eq_true c81
               clear c81
               by_cases c82 : x12_3 < (l3.length : Int)
               ·rw [if_pos c82] at H
                have c82b0 : decide (x12_3 < (l3.length : Int)) = true := decide_eq_true c82
                clear c82
                replace H := Option.bind_eq_some_iff.mp H
                obtain ⟨t224, A830, H⟩ := H
                try dsimp only at H
                have A83 := Am6 A830
                clear A830
                replace H := Option.bind_eq_some_iff.mp H
                obtain ⟨t226, A840, H⟩ := H
                try dsimp only at H
                have A84 := Am6 A840
                clear A840
                by_cases c85 : (t224 != (x13_4 == 1)) = true
                ·rw [if_pos c85] at H
                 have c85b0 : (t224 != (x13_4 == 1)) = true := c85
                 (try (have c85b1 : decide (t224 = (x13_4 == 1)) = false := by simpa using c85))
                 (try (have c85b2 : (t224 == (x13_4 == 1)) = false := by simpa using c85))
                 (try (have c85b3 : ¬ (t224 = (x13_4 == 1)) := by simpa using c85))
                 clear c85
                 exact absurd H (by simp)
                ·rw [if_neg c85] at H
                 have c85b0 : (t224 != (x13_4 == 1)) = false := by simpa using c85
                 (try (have c85b1 : decide (t224 = (x13_4 == 1)) = true := by simpa using c85))
                 (try (have c85b2 : (t224 == (x13_4 == 1)) = true := by simpa using c85))
                 clear c85
                 by_cases c86 : x13_4 > 1
                 ·rw [if_pos c86] at H
                  have c86b0 : decide (1 < x13_4) = true := decide_eq_true c86
                  clear c86
                  exact absurd H (by simp)
                 ·rw [if_neg c86] at H
                  have c86b0 : decide (1 < x13_4) = false := decide_eq_false c86
                  clear c86
                  by_cases c87 : t224 = true
                  ·subst c87
                   rw [if_pos rfl] at H
                   by_cases c88 : t211 = true
                   ·subst c88
                    rw [if_pos rfl] at H
                    replace H := Option.bind_eq_some_iff.mp H
                    obtain ⟨t228, A890, H⟩ := H
                    try dsimp only at H
                    have A89 := Am6 A890
                    clear A890
                    by_cases c90 : (t226 != t228) = true
                    ·rw [if_pos c90] at H
                     exact absurd H (by simp)
                    ·rw [if_neg c90] at H
                     have c90b0 : (t226 != t228) = false := by simpa using c90
                     (try (have c90b1 : decide (t226 = t228) = true := by simpa using c90))
                     (try (have c90b2 : (t226 == t228) = true := by simpa using c90))
                     clear c90
                     have H' := Am6 H
                     clear H
                     obtain ⟨Ao91, co91, eo91⟩ := Kd.R_slice HO_9.out
                     subst eo91
                     try go_wp2
                     have n0_ := Am6 (Rd6 HO_9.out)
                     have n1_ := Am6 (kd6 BK195.out)
                     have n2_ := Am6 (kd6 BK196.out)
                     have n3_ := Am6 (kd6 BK212.out)
                     have n4_ := Am6 (bd6 HB.out)
                     clear HO_9
                     clear BK195
                     clear BK196
                     clear BK212
                     clear HB
                     have HO_9 := n0_
                     have BK195 := n1_
                     have BK196 := n2_
                     have BK212 := n3_
                     have HB := n4_
                     clear n0_ n1_ n2_ n3_ n4_
                     have p223 : 0 ≤ (x12_3 : Int) := of_decide_eq_true (by first | (with_reducible assumption) | assumption)
                     have q223 : x12_3 < (l3.length : Int) := of_decide_eq_true (by first | (with_reducible assumption) | assumption)
                     obtain ⟨ad223, e223, hx223_0⟩ := Kd.at_string HR3.out x12_3 p223 q223
                     have hw223_0 := hx223_0
                     cases e223
                     replace hx223_0 := (HB.out.cell (World.block_lt_of_cell? w _ hx223_0)).trans hx223_0
                     replace p223 := eq_true p223
                     replace q223 := eq_true q223
                     have p225 : 0 ≤ (x12_3 : Int) := of_decide_eq_true (by first | (with_reducible assumption) | assumption)
                     have q225 : x12_3 < (l3.length : Int) := of_decide_eq_true (by first | (with_reducible assumption) | assumption)
                     obtain ⟨ad225, e225, hx225_0⟩ := Kd.at_string HR3.out x12_3 p225 q225
                     have hw225_0 := hx225_0
                     obtain rfl : ad223 = ad225 := (by injection e225)
                     replace hx225_0 := (HB.out.cell (World.block_lt_of_cell? w _ hx225_0)).trans hx225_0
                     replace p225 := eq_true p225
                     replace q225 := eq_true q225
                     refine start_ (n:=14) (S:=fun w' => w'.cell? ⟨gb195, 0, none⟩ = some (.string a0_0) ∧ w'.cell? ⟨gb195, 1, none⟩ = some (.string a0_1) ∧ w'.cell? ⟨gb196, 0, none⟩ = some (.string a1_0) ∧ w'.cell? ⟨gb196, 1, none⟩ = some (.string a1_1) ∧ w'.cell? (ad223.add (x12_3).toNat) = some (.string (rdOf ByteArray.empty l3 x12_3)) ∧ w'.cell? (ad223.add (x12_3).toNat) = some (.string (rdOf ByteArray.empty l3 x12_3))) (ds:=[]) #[false, false, false, false, false, false, false, false, false, false, false, false, false, false] (by kernel_rfl) rfl rfl ⟨(kc6 BK195.out 0).trans rfl, (kc6 BK195.out 1).trans rfl, (kc6 BK196.out 0).trans rfl, (kc6 BK196.out 1).trans rfl, ((HB.out.cell (World.block_lt_of_cell? w _ hw223_0)).trans hw223_0), ((HB.out.cell (World.block_lt_of_cell? w _ hw225_0)).trans hw225_0)⟩ (fun hHeld => ?_); refine with_tabW watershedlaw04_SpanCuts.tab18 watershedlaw04_SpanCuts.bits18 (fun HT_ HW_ => ?_)
                     generalize wr.drew = w92 at HO_9 BK195 BK196 BK212 HB hx223_0 hx225_0 hHeld ⊢
                     refine pure_ (i:=1) (N:=some 85) (v:=?_) (a' := ?_) #[false, true, false, false, false, false, false, false, false, false, false, false, false, false] rfl rfl (any_of HT_.out (by kernel_rfl)) (fun _ _ _ h => h) (Or.inl ⟨by rfl, ?_⟩) ?_ ?_
                     rotate_left
                     ·intro w'
                      go_simp
                      with_reducible rfl
                     rotate_left
                     ·simp only [Act.put, sa6, sz6, ss6, i64_w, i32_w]
                      rfl
                     refine pure_ (i:=2) (N:=some 86) (v:=?_) (a' := ?_) #[false, true, true, false, false, false, false, false, false, false, false, false, false, false] rfl rfl (any_of HT_.out (by kernel_rfl)) (fun _ _ _ h => h) (Or.inl ⟨by rfl, ?_⟩) ?_ ?_
                     rotate_left
                     ·intro w'
                      go_simp
                      with_reducible rfl
                     rotate_left
                     ·simp only [Act.put, sa6, sz6, ss6, i64_w, i32_w]
                      rfl
                     refine pure_ (i:=3) (N:=some 87) (v:=?_) (a' := ?_) #[false, true, true, true, false, false, false, false, false, false, false, false, false, false] rfl rfl (any_of HT_.out (by kernel_rfl)) (fun _ _ _ h => h) (Or.inl ⟨by rfl, ?_⟩) ?_ ?_
                     rotate_left
                     ·intro w'
                      go_simp
                      with_reducible rfl
                     rotate_left
                     ·simp only [Act.put, sa6, sz6, ss6, i64_w, i32_w]
                      rfl
                     refine pure_ (i:=7) (N:=some 91) (v:=?_) (a' := ?_) #[false, true, true, true, false, false, false, true, false, false, false, false, false, false] rfl rfl (any_of HT_.out (by kernel_rfl)) (fun _ _ _ h => h) (Or.inl ⟨by rfl, ?_⟩) ?_ ?_
                     rotate_left
                     ·intro w'
                      go_simp
                      with_reducible rfl
                     rotate_left
                     ·simp only [Act.put, sa6, sz6, ss6, i64_w, i32_w]
                      rfl
                     refine pure_ (i:=8) (N:=some 92) (v:=?_) (a' := ?_) #[false, true, true, true, false, false, false, true, true, false, false, false, false, false] rfl rfl (any_of HT_.out (by kernel_rfl)) (fun _ _ _ h => h) (Or.inl ⟨by rfl, ?_⟩) ?_ ?_
                     rotate_left
                     ·intro w'
                      go_simp
                      with_reducible rfl
                     rotate_left
                     ·simp only [Act.put, sa6, sz6, ss6, i64_w, i32_w]
                      rfl
                     refine pure_ (i:=9) (N:=some 93) (v:=?_) (a' := ?_) #[false, true, true, true, false, false, false, true, true, true, false, false, false, false] rfl rfl (any_of HT_.out (by kernel_rfl)) (fun _ _ _ h => h) (Or.inl ⟨by rfl, ?_⟩) ?_ ?_
                     rotate_left
                     ·intro w'
                      go_simp
                      with_reducible rfl
                     rotate_left
                     ·simp only [Act.put, sa6, sz6, ss6, i64_w, i32_w]
                      rfl
                     refine take_ (i:=0) (N:=some 84) (v:=?_) (a' := ?_) #[true, true, true, true, false, false, false, true, true, true, false, false, false, false] rfl rfl (take_ofW HT_.out HW_.out (by kernel_rfl)) (fun _ _ _ h => h) (Or.inl ⟨by rfl, ?_⟩) hHeld ?_ ?_
                     rotate_left
                     ·rintro w' ⟨s0, s1, s2, s3, s4, s5⟩
                      go_simp
                      with_reducible rfl
                     rotate_left
                     ·simp only [Act.put, sa6, sz6, ss6, i64_w, i32_w]
                      rfl
                     refine take_ (i:=4) (N:=some 88) (v:=?_) (a' := ?_) #[true, true, true, true, true, false, false, true, true, true, false, false, false, false] rfl rfl (take_ofW HT_.out HW_.out (by kernel_rfl)) (fun _ _ _ h => h) (Or.inl ⟨by rfl, ?_⟩) hHeld ?_ ?_
                     rotate_left
                     ·rintro w' ⟨s0, s1, s2, s3, s4, s5⟩
                      go_simp
                      with_reducible rfl
                     rotate_left
                     ·simp only [Act.put, sa6, sz6, ss6, i64_w, i32_w]
                      rfl
                     refine take_ (i:=6) (N:=some 90) (v:=?_) (a' := ?_) #[true, true, true, true, true, false, true, true, true, true, false, false, false, false] rfl rfl (take_ofW HT_.out HW_.out (by kernel_rfl)) (fun _ _ _ h => h) (Or.inl ⟨by rfl, ?_⟩) hHeld ?_ ?_
                     rotate_left
                     ·rintro w' ⟨s0, s1, s2, s3, s4, s5⟩
                      go_simp
                      with_reducible rfl
                     rotate_left
                     ·simp only [Act.put, sa6, sz6, ss6, i64_w, i32_w]
                      rfl
                     refine take_ (i:=10) (N:=some 94) (v:=?_) (a' := ?_) #[true, true, true, true, true, false, true, true, true, true, true, false, false, false] rfl rfl (take_ofW HT_.out HW_.out (by kernel_rfl)) (fun _ _ _ h => h) (Or.inl ⟨by rfl, ?_⟩) hHeld ?_ ?_
                     rotate_left
                     ·rintro w' ⟨s0, s1, s2, s3, s4, s5⟩
                      go_simp
                      with_reducible rfl
                     rotate_left
                     ·simp only [Act.put, sa6, sz6, ss6, i64_w, i32_w]
                      rfl
                     refine one_ (i:=5) (N:=some 89) #[true, true, true, true, true, true, true, true, true, true, true, false, false, false] rfl rfl (one_of HT_.out (by kernel_rfl)) (by decide) (fun K hK => ?_)
                     refine goes_ Try.func20 (by kernel_rfl) rfl #[.agg #[.string a0_0, .string a0_1], .string (rdOf ByteArray.empty l3 x12_3)] (by rfl) rfl rfl (by (try simp only [ma6, mc6, mn6]); first | done | rfl | (simp only [ld6, lt_6]; rfl)) ?_
                     with_reducible refine (span_Has.calls k4 a0_0 a0_1 (rdOf ByteArray.empty l3 x12_3) true _ A83.out).mono ?_
                     rintro e w93 ⟨rfl, hb⟩
                     refine ⟨_, rfl, ?_⟩
                     have n0_ := Am6 (Rb6 (by (with_reducible repeat first | apply Ra6 | apply Rn6 | apply Rd6); exact HO_9.out) hb)
                     have n1_ := Am6 (kb6 (g:=gb195) (o:=.cells #[.string a0_0, .string a0_1] 26 (0, 0)) (by (with_reducible repeat first | apply kn6 | apply kd6 | apply ka6); exact BK195.out) hb)
                     have n2_ := Am6 (kb6 (g:=gb196) (o:=.cells #[.string a1_0, .string a1_1] 26 (0, 0)) (by (with_reducible repeat first | apply kn6 | apply kd6 | apply ka6); exact BK196.out) hb)
                     have n3_ := Am6 (kb6 (g:=gb212) (o:=.cells #[.string t209, .string t210] 26 (0, 0)) (by (with_reducible repeat first | apply kn6 | apply kd6 | apply ka6); exact BK212.out) hb)
                     have n4_ := Am6 (bp6 (by repeat (first | (with_reducible first | exact HB.out | apply ba6 | apply bn6 | apply bd6 | refine bs6 ?_ GE195.out | refine bs6 ?_ GE196.out | refine bs6 ?_ GE212.out) | exact HB.out)) hb)
                     clear HO_9
                     clear BK195
                     clear BK196
                     clear BK212
                     clear HB
                     have HO_9 := n0_
                     have BK195 := n1_
                     have BK196 := n2_
                     have BK212 := n3_
                     have HB := n4_
                     clear n0_ n1_ n2_ n3_ n4_
                     (try clear hb)
                     (try clear hb2)
                     (try clear hk)
                     (try clear hi)
                     refine hK.out _ _ ⟨(kc6 BK195.out 0).trans rfl, (kc6 BK195.out 1).trans rfl, (kc6 BK196.out 0).trans rfl, (kc6 BK196.out 1).trans rfl, ((HB.out.cell (World.block_lt_of_cell? w _ hw223_0)).trans hw223_0), ((HB.out.cell (World.block_lt_of_cell? w _ hw225_0)).trans hw225_0)⟩ (fun hHeld => ?_)
                     clear hK K
                     refine norm_ (a' := ?_) ?_ ?_
                     rotate_left
                     ·show Act.put _ (some 89) _ = _
                      simp only [Act.put, sa6, sz6, ss6, i64_w, i32_w]
                      rfl
                     refine one_ (i:=11) (N:=some 95) #[true, true, true, true, true, true, true, true, true, true, true, true, false, false] rfl rfl (one_of HT_.out (by kernel_rfl)) (by decide) (fun K hK => ?_)
                     refine goes_ Try.func20 (by kernel_rfl) rfl #[.agg #[.string a1_0, .string a1_1], .string (rdOf ByteArray.empty l3 x12_3)] (by rfl) rfl rfl (by (try simp only [ma6, mc6, mn6]); first | done | rfl | (simp only [ld6, lt_6]; rfl)) ?_
                     with_reducible refine (span_Has.calls k4 a1_0 a1_1 (rdOf ByteArray.empty l3 x12_3) t226 _ A84.out).mono ?_
                     rintro e w94 ⟨rfl, hb⟩
                     refine ⟨_, rfl, ?_⟩
                     have n0_ := Am6 (Rb6 (by (with_reducible repeat first | apply Ra6 | apply Rn6 | apply Rd6); exact HO_9.out) hb)
                     have n1_ := Am6 (kb6 (g:=gb195) (o:=.cells #[.string a0_0, .string a0_1] 26 (0, 0)) (by (with_reducible repeat first | apply kn6 | apply kd6 | apply ka6); exact BK195.out) hb)
                     have n2_ := Am6 (kb6 (g:=gb196) (o:=.cells #[.string a1_0, .string a1_1] 26 (0, 0)) (by (with_reducible repeat first | apply kn6 | apply kd6 | apply ka6); exact BK196.out) hb)
                     have n3_ := Am6 (kb6 (g:=gb212) (o:=.cells #[.string t209, .string t210] 26 (0, 0)) (by (with_reducible repeat first | apply kn6 | apply kd6 | apply ka6); exact BK212.out) hb)
                     have n4_ := Am6 (bp6 (by repeat (first | (with_reducible first | exact HB.out | apply ba6 | apply bn6 | apply bd6 | refine bs6 ?_ GE195.out | refine bs6 ?_ GE196.out | refine bs6 ?_ GE212.out) | exact HB.out)) hb)
                     clear HO_9
                     clear BK195
                     clear BK196
                     clear BK212
                     clear HB
                     have HO_9 := n0_
                     have BK195 := n1_
                     have BK196 := n2_
                     have BK212 := n3_
                     have HB := n4_
                     clear n0_ n1_ n2_ n3_ n4_
                     (try clear hb)
                     (try clear hb2)
                     (try clear hk)
                     (try clear hi)
                     refine hK.out _ _ ⟨(kc6 BK195.out 0).trans rfl, (kc6 BK195.out 1).trans rfl, (kc6 BK196.out 0).trans rfl, (kc6 BK196.out 1).trans rfl, ((HB.out.cell (World.block_lt_of_cell? w _ hw223_0)).trans hw223_0), ((HB.out.cell (World.block_lt_of_cell? w _ hw225_0)).trans hw225_0)⟩ (fun hHeld => ?_)
                     clear hK K
                     refine norm_ (a' := ?_) ?_ ?_
                     rotate_left
                     ·show Act.put _ (some 95) _ = _
                      simp only [Act.put, sa6, sz6, ss6, i64_w, i32_w]
                      rfl
                     refine pure_ (i:=12) (N:=some 15) (v:=?_) (a' := ?_) #[true, true, true, true, true, true, true, true, true, true, true, true, true, false] rfl rfl (any_of HT_.out (by kernel_rfl)) (fun _ _ _ h => h) (Or.inl ⟨by rfl, ?_⟩) ?_ ?_
                     rotate_left
                     ·intro w'
                      go_simp
                      with_reducible rfl
                     rotate_left
                     ·simp only [Act.put, sa6, sz6, ss6, i64_w, i32_w]
                      rfl
                     refine pure_ (i:=13) (N:=some 16) (v:=?_) (a' := ?_) #[true, true, true, true, true, true, true, true, true, true, true, true, true, true] rfl rfl (any_of HT_.out (by kernel_rfl)) (fun _ _ _ h => h) (Or.inl ⟨by rfl, ?_⟩) ?_ ?_
                     rotate_left
                     ·intro w'
                      go_simp
                      with_reducible rfl
                     rotate_left
                     ·simp only [Act.put, sa6, sz6, ss6, i64_w, i32_w]
                      rfl
                     refine done_ (done_of HT_.out (by kernel_rfl)) ?_
                     try go_wp2
                     have n0_ := Am6 (Rd6 HO_9.out)
                     have n1_ := Am6 (kd6 BK195.out)
                     have n2_ := Am6 (kd6 BK196.out)
                     have n3_ := Am6 (kd6 BK212.out)
                     have n4_ := Am6 (bd6 HB.out)
                     clear HO_9
                     clear BK195
                     clear BK196
                     clear BK212
                     clear HB
                     have HO_9 := n0_
                     have BK195 := n1_
                     have BK196 := n2_
                     have BK212 := n3_
                     have HB := n4_
                     clear n0_ n1_ n2_ n3_ n4_
                     have p227 : 0 ≤ (x12_3 : Int) := of_decide_eq_true (by first | (with_reducible assumption) | assumption)
                     have q227 : x12_3 < (l3.length : Int) := of_decide_eq_true (by first | (with_reducible assumption) | assumption)
                     obtain ⟨ad227, e227, hx227_0⟩ := Kd.at_string HR3.out x12_3 p227 q227
                     have hw227_0 := hx227_0
                     obtain rfl : ad223 = ad227 := (by injection e227)
                     replace hx227_0 := (HB.out.cell (World.block_lt_of_cell? w _ hx227_0)).trans hx227_0
                     replace p227 := eq_true p227
                     replace q227 := eq_true q227
                     refine start_ (n:=24) (S:=fun w' => w'.cell? ⟨gb212, 0, none⟩ = some (.string t209) ∧ w'.cell? ⟨gb212, 1, none⟩ = some (.string t210) ∧ w'.cell? (ad223.add (x12_3).toNat) = some (.string (rdOf ByteArray.empty l3 x12_3))) (ds:=[]) #[false, false, false, false, false, false, false, false, false, false, false, false, false, false, false, false, false, false, false, false, false, false, false, false] (by kernel_rfl) rfl rfl ⟨(kc6 BK212.out 0).trans rfl, (kc6 BK212.out 1).trans rfl, ((HB.out.cell (World.block_lt_of_cell? w _ hw227_0)).trans hw227_0)⟩ (fun hHeld => ?_); refine with_tabW watershedlaw04_SpanCuts.tab19 watershedlaw04_SpanCuts.bits19 (fun HT_ HW_ => ?_)
                     generalize w94.drew = w95 at HO_9 BK195 BK196 BK212 HB hx227_0 hHeld ⊢
                     refine pure_ (i:=0) (N:=some 96) (v:=?_) (a' := ?_) #[true, false, false, false, false, false, false, false, false, false, false, false, false, false, false, false, false, false, false, false, false, false, false, false] rfl rfl (any_of HT_.out (by kernel_rfl)) (fun _ _ _ h => h) (Or.inl ⟨by rfl, ?_⟩) ?_ ?_
                     rotate_left
                     ·intro w'
                      go_simp
                      with_reducible rfl
                     rotate_left
                     ·simp only [Act.put, sa6, sz6, ss6, i64_w, i32_w]
                      rfl
                     refine pure_ (i:=1) (N:=some 97) (v:=?_) (a' := ?_) #[true, true, false, false, false, false, false, false, false, false, false, false, false, false, false, false, false, false, false, false, false, false, false, false] rfl rfl (any_of HT_.out (by kernel_rfl)) (fun _ _ _ h => h) (Or.inl ⟨by rfl, ?_⟩) ?_ ?_
                     rotate_left
                     ·intro w'
                      go_simp
                      with_reducible rfl
                     rotate_left
                     ·simp only [Act.put, sa6, sz6, ss6, i64_w, i32_w]
                      rfl
                     refine pure_ (i:=2) (N:=some 98) (v:=?_) (a' := ?_) #[true, true, true, false, false, false, false, false, false, false, false, false, false, false, false, false, false, false, false, false, false, false, false, false] rfl rfl (any_of HT_.out (by kernel_rfl)) (fun _ _ _ h => h) (Or.inl ⟨by rfl, ?_⟩) ?_ ?_
                     rotate_left
                     ·intro w'
                      go_simp
                      with_reducible rfl
                     rotate_left
                     ·simp only [Act.put, sa6, sz6, ss6, i64_w, i32_w]
                      rfl
                     refine pure_ (i:=3) (N:=some 99) (v:=?_) (a' := ?_) #[true, true, true, true, false, false, false, false, false, false, false, false, false, false, false, false, false, false, false, false, false, false, false, false] rfl rfl (any_of HT_.out (by kernel_rfl)) (fun _ _ _ h => h) (Or.inl ⟨by rfl, ?_⟩) ?_ ?_
                     rotate_left
                     ·intro w'
                      go_simp
                      with_reducible rfl
                     rotate_left
                     ·simp only [Act.put, sa6, sz6, ss6, i64_w, i32_w]
                      rfl
                     refine pure_ (i:=4) (N:=some 100) (v:=?_) (a' := ?_) #[true, true, true, true, true, false, false, false, false, false, false, false, false, false, false, false, false, false, false, false, false, false, false, false] rfl rfl (any_of HT_.out (by kernel_rfl)) (fun _ _ _ h => h) (Or.inl ⟨by rfl, ?_⟩) ?_ ?_
                     rotate_left
                     ·intro w'
                      go_simp
                      with_reducible rfl
                     rotate_left
                     ·simp only [Act.put, sa6, sz6, ss6, i64_w, i32_w]
                      rfl
                     refine pure_ (i:=5) (N:=some 101) (v:=?_) (a' := ?_) #[true, true, true, true, true, true, false, false, false, false, false, false, false, false, false, false, false, false, false, false, false, false, false, false] rfl rfl (any_of HT_.out (by kernel_rfl)) (fun _ _ _ h => h) (Or.inl ⟨by rfl, ?_⟩) ?_ ?_
                     rotate_left
                     ·intro w'
                      go_simp
                      with_reducible rfl
                     rotate_left
                     ·simp only [Act.put, sa6, sz6, ss6, i64_w, i32_w]
                      rfl
                     refine pure_ (i:=6) (N:=some 102) (v:=?_) (a' := ?_) #[true, true, true, true, true, true, true, false, false, false, false, false, false, false, false, false, false, false, false, false, false, false, false, false] rfl rfl (any_of HT_.out (by kernel_rfl)) (fun _ _ _ h => h) (Or.inl ⟨by rfl, ?_⟩) ?_ ?_
                     rotate_left
                     ·intro w'
                      go_simp
                      with_reducible rfl
                     rotate_left
                     ·simp only [Act.put, sa6, sz6, ss6, i64_w, i32_w]
                      rfl
                     refine pure_ (i:=7) (N:=some 103) (v:=?_) (a' := ?_) #[true, true, true, true, true, true, true, true, false, false, false, false, false, false, false, false, false, false, false, false, false, false, false, false] rfl rfl (any_of HT_.out (by kernel_rfl)) (fun _ _ _ h => h) (Or.inl ⟨by rfl, ?_⟩) ?_ ?_
                     rotate_left
                     ·intro w'
                      go_simp
                      with_reducible rfl
                     rotate_left
                     ·simp only [Act.put, sa6, sz6, ss6, i64_w, i32_w]
                      rfl
                     refine pure_ (i:=8) (N:=some 104) (v:=?_) (a' := ?_) #[true, true, true, true, true, true, true, true, true, false, false, false, false, false, false, false, false, false, false, false, false, false, false, false] rfl rfl (any_of HT_.out (by kernel_rfl)) (fun _ _ _ h => h) (Or.inl ⟨by rfl, ?_⟩) ?_ ?_
                     rotate_left
                     ·intro w'
                      go_simp
                      with_reducible rfl
                     rotate_left
                     ·simp only [Act.put, sa6, sz6, ss6, i64_w, i32_w]
                      rfl
                     refine pure_ (i:=9) (N:=some 105) (v:=?_) (a' := ?_) #[true, true, true, true, true, true, true, true, true, true, false, false, false, false, false, false, false, false, false, false, false, false, false, false] rfl rfl (any_of HT_.out (by kernel_rfl)) (fun _ _ _ h => h) (Or.inl ⟨by rfl, ?_⟩) ?_ ?_
                     rotate_left
                     ·intro w'
                      go_simp
                      with_reducible rfl
                     rotate_left
                     ·simp only [Act.put, sa6, sz6, ss6, i64_w, i32_w]
                      rfl
                     refine pure_ (i:=10) (N:=some 106) (v:=?_) (a' := ?_) #[true, true, true, true, true, true, true, true, true, true, true, false, false, false, false, false, false, false, false, false, false, false, false, false] rfl rfl (any_of HT_.out (by kernel_rfl)) (fun _ _ _ h => h) (Or.inl ⟨by rfl, ?_⟩) ?_ ?_
                     rotate_left
                     ·intro w'
                      go_simp
                      with_reducible rfl
                     rotate_left
                     ·simp only [Act.put, sa6, sz6, ss6, i64_w, i32_w]
                      rfl
                     refine pure_ (i:=11) (N:=some 107) (v:=?_) (a' := ?_) #[true, true, true, true, true, true, true, true, true, true, true, true, false, false, false, false, false, false, false, false, false, false, false, false] rfl rfl (any_of HT_.out (by kernel_rfl)) (fun _ _ _ h => h) (Or.inl ⟨by rfl, ?_⟩) ?_ ?_
                     rotate_left
                     ·intro w'
                      go_simp
                      with_reducible rfl
                     rotate_left
                     ·simp only [Act.put, sa6, sz6, ss6, i64_w, i32_w]
                      rfl
                     refine pure_ (i:=12) (N:=some 108) (v:=?_) (a' := ?_) #[true, true, true, true, true, true, true, true, true, true, true, true, true, false, false, false, false, false, false, false, false, false, false, false] rfl rfl (any_of HT_.out (by kernel_rfl)) (fun _ _ _ h => h) (Or.inl ⟨by rfl, ?_⟩) ?_ ?_
                     rotate_left
                     ·intro w'
                      go_simp
                      with_reducible rfl
                     rotate_left
                     ·simp only [Act.put, sa6, sz6, ss6, i64_w, i32_w]
                      rfl
                     refine pure_ (i:=13) (N:=some 109) (v:=?_) (a' := ?_) #[true, true, true, true, true, true, true, true, true, true, true, true, true, true, false, false, false, false, false, false, false, false, false, false] rfl rfl (any_of HT_.out (by kernel_rfl)) (fun _ _ _ h => h) (Or.inl ⟨by rfl, ?_⟩) ?_ ?_
                     rotate_left
                     ·intro w'
                      go_simp
                      with_reducible rfl
                     rotate_left
                     ·simp only [Act.put, sa6, sz6, ss6, i64_w, i32_w]
                      rfl
                     refine pure_ (i:=14) (N:=some 110) (v:=?_) (a' := ?_) #[true, true, true, true, true, true, true, true, true, true, true, true, true, true, true, false, false, false, false, false, false, false, false, false] rfl rfl (any_of HT_.out (by kernel_rfl)) (fun _ _ _ h => h) (Or.inl ⟨by rfl, ?_⟩) ?_ ?_
                     rotate_left
                     ·intro w'
                      go_simp
                      with_reducible rfl
                     rotate_left
                     ·simp only [Act.put, sa6, sz6, ss6, i64_w, i32_w]
                      rfl
                     refine pure_ (i:=16) (N:=some 112) (v:=?_) (a' := ?_) #[true, true, true, true, true, true, true, true, true, true, true, true, true, true, true, false, true, false, false, false, false, false, false, false] rfl rfl (any_of HT_.out (by kernel_rfl)) (fun _ _ _ h => h) (Or.inl ⟨by rfl, ?_⟩) ?_ ?_
                     rotate_left
                     ·intro w'
                      go_simp
                      with_reducible rfl
                     rotate_left
                     ·simp only [Act.put, sa6, sz6, ss6, i64_w, i32_w]
                      rfl
                     refine pure_ (i:=17) (N:=some 113) (v:=?_) (a' := ?_) #[true, true, true, true, true, true, true, true, true, true, true, true, true, true, true, false, true, true, false, false, false, false, false, false] rfl rfl (any_of HT_.out (by kernel_rfl)) (fun _ _ _ h => h) (Or.inl ⟨by rfl, ?_⟩) ?_ ?_
                     rotate_left
                     ·intro w'
                      go_simp
                      with_reducible rfl
                     rotate_left
                     ·simp only [Act.put, sa6, sz6, ss6, i64_w, i32_w]
                      rfl
                     refine pure_ (i:=18) (N:=some 114) (v:=?_) (a' := ?_) #[true, true, true, true, true, true, true, true, true, true, true, true, true, true, true, false, true, true, true, false, false, false, false, false] rfl rfl (any_of HT_.out (by kernel_rfl)) (fun _ _ _ h => h) (Or.inl ⟨by rfl, ?_⟩) ?_ ?_
                     rotate_left
                     ·intro w'
                      go_simp
                      with_reducible rfl
                     rotate_left
                     ·simp only [Act.put, sa6, sz6, ss6, i64_w, i32_w]
                      rfl
                     refine take_ (i:=15) (N:=some 111) (v:=?_) (a' := ?_) #[true, true, true, true, true, true, true, true, true, true, true, true, true, true, true, true, true, true, true, false, false, false, false, false] rfl rfl (take_ofW HT_.out HW_.out (by kernel_rfl)) (fun _ _ _ h => h) (Or.inl ⟨by rfl, ?_⟩) hHeld ?_ ?_
                     rotate_left
                     ·rintro w' ⟨s0, s1, s2⟩
                      go_simp
                      with_reducible rfl
                     rotate_left
                     ·simp only [Act.put, sa6, sz6, ss6, i64_w, i32_w]
                      rfl
                     refine take_ (i:=19) (N:=some 115) (v:=?_) (a' := ?_) #[true, true, true, true, true, true, true, true, true, true, true, true, true, true, true, true, true, true, true, true, false, false, false, false] rfl rfl (take_ofW HT_.out HW_.out (by kernel_rfl)) (fun _ _ _ h => h) (Or.inl ⟨by rfl, ?_⟩) hHeld ?_ ?_
                     rotate_left
                     ·rintro w' ⟨s0, s1, s2⟩
                      go_simp
                      with_reducible rfl
                     rotate_left
                     ·simp only [Act.put, sa6, sz6, ss6, i64_w, i32_w]
                      rfl
                     refine one_ (i:=20) (N:=some 116) #[true, true, true, true, true, true, true, true, true, true, true, true, true, true, true, true, true, true, true, true, true, false, false, false] rfl rfl (one_of HT_.out (by kernel_rfl)) (by decide) (fun K hK => ?_)
                     refine goes_ Try.func20 (by kernel_rfl) rfl #[.agg #[.string t209, .string t210], .string (rdOf ByteArray.empty l3 x12_3)] (by rfl) rfl rfl (by (try simp only [ma6, mc6, mn6]); first | done | rfl | (simp only [ld6, lt_6]; rfl)) ?_
                     with_reducible refine (span_Has.calls k4 t209 t210 (rdOf ByteArray.empty l3 x12_3) t228 _ A89.out).mono ?_
                     rintro e w96 ⟨rfl, hb⟩
                     refine ⟨_, rfl, ?_⟩
                     have n0_ := Am6 (Rb6 (by (with_reducible repeat first | apply Ra6 | apply Rn6 | apply Rd6); exact HO_9.out) hb)
                     have n1_ := Am6 (kb6 (g:=gb195) (o:=.cells #[.string a0_0, .string a0_1] 26 (0, 0)) (by (with_reducible repeat first | apply kn6 | apply kd6 | apply ka6); exact BK195.out) hb)
                     have n2_ := Am6 (kb6 (g:=gb196) (o:=.cells #[.string a1_0, .string a1_1] 26 (0, 0)) (by (with_reducible repeat first | apply kn6 | apply kd6 | apply ka6); exact BK196.out) hb)
                     have n3_ := Am6 (kb6 (g:=gb212) (o:=.cells #[.string t209, .string t210] 26 (0, 0)) (by (with_reducible repeat first | apply kn6 | apply kd6 | apply ka6); exact BK212.out) hb)
                     have n4_ := Am6 (bp6 (by repeat (first | (with_reducible first | exact HB.out | apply ba6 | apply bn6 | apply bd6 | refine bs6 ?_ GE195.out | refine bs6 ?_ GE196.out | refine bs6 ?_ GE212.out) | exact HB.out)) hb)
                     clear HO_9
                     clear BK195
                     clear BK196
                     clear BK212
                     clear HB
                     have HO_9 := n0_
                     have BK195 := n1_
                     have BK196 := n2_
                     have BK212 := n3_
                     have HB := n4_
                     clear n0_ n1_ n2_ n3_ n4_
                     (try clear hb)
                     (try clear hb2)
                     (try clear hk)
                     (try clear hi)
                     refine hK.out _ _ ⟨(kc6 BK212.out 0).trans rfl, (kc6 BK212.out 1).trans rfl, ((HB.out.cell (World.block_lt_of_cell? w _ hw227_0)).trans hw227_0)⟩ (fun hHeld => ?_)
                     clear hK K
                     refine norm_ (a' := ?_) ?_ ?_
                     rotate_left
                     ·show Act.put _ (some 116) _ = _
                      simp only [Act.put, sa6, sz6, ss6, i64_w, i32_w]
                      rfl
                     refine pure_ (i:=21) (N:=some 117) (v:=?_) (a' := ?_) #[true, true, true, true, true, true, true, true, true, true, true, true, true, true, true, true, true, true, true, true, true, true, false, false] rfl rfl (any_of HT_.out (by kernel_rfl)) (fun _ _ _ h => h) (Or.inl ⟨by rfl, ?_⟩) ?_ ?_
                     rotate_left
                     ·intro w'
                      go_simp
                      with_reducible rfl
                     rotate_left
                     ·simp only [Act.put, sa6, sz6, ss6, i64_w, i32_w]
                      rfl
                     refine pure_ (i:=22) (N:=some 118) (v:=?_) (a' := ?_) #[true, true, true, true, true, true, true, true, true, true, true, true, true, true, true, true, true, true, true, true, true, true, true, false] rfl rfl (any_of HT_.out (by kernel_rfl)) (fun _ _ _ h => h) (Or.inl ⟨by rfl, ?_⟩) ?_ ?_
                     rotate_left
                     ·intro w'
                      go_simp
                      with_reducible rfl
                     rotate_left
                     ·simp only [Act.put, sa6, sz6, ss6, i64_w, i32_w]
                      rfl
                     refine pure_ (i:=23) (N:=some 119) (v:=?_) (a' := ?_) #[true, true, true, true, true, true, true, true, true, true, true, true, true, true, true, true, true, true, true, true, true, true, true, true] rfl rfl (any_of HT_.out (by kernel_rfl)) (fun _ _ _ h => h) (Or.inl ⟨by rfl, ?_⟩) ?_ ?_
                     rotate_left
                     ·intro w'
                      go_simp
                      with_reducible rfl
                     rotate_left
                     ·simp only [Act.put, sa6, sz6, ss6, i64_w, i32_w]
                      rfl
                     refine done_ (done_of HT_.out (by kernel_rfl)) ?_
                     try go_wp2
                     go_roundg k4
                     case measure => have := HJ6.out; have := HJ31.out; have := HK3.out; have := HK4.out; omega
                     case rel => exact ⟨(wrap64 (x12_3 + 1)), (by first | rfl | (simp; done) | (simp [*]; done)), H', ⟨by have := HJ6.out; have := HJ31.out; have := HK3.out; have := HK4.out; omega⟩, ⟨by (with_reducible repeat first | apply Ra6 | apply Rn6 | apply Rd6); exact HO_9.out⟩, ⟨by (with_reducible repeat first | apply kn6 | apply kd6 | apply ka6); exact BK195.out⟩, ⟨by (with_reducible repeat first | apply kn6 | apply kd6 | apply ka6); exact BK196.out⟩, ⟨by (with_reducible repeat first | apply kn6 | apply kd6 | apply ka6); exact BK212.out⟩, ⟨by repeat (first | (with_reducible first | exact HB.out | apply ba6 | apply bn6 | apply bd6 | refine bs6 ?_ GE195.out | refine bs6 ?_ GE196.out | refine bs6 ?_ GE212.out) | exact HB.out)⟩⟩
                   ·replace c88 := Bool.eq_false_iff.mpr c88
                    subst c88
                    rw [if_neg (show ¬ (false = true) by decide)] at H
                    by_cases c97 : (t226 != false) = true
                    ·rw [if_pos c97] at H
                     exact absurd H (by simp)
                    ·rw [if_neg c97] at H
                     have c97b0 : (t226 != false) = false := by simpa using c97
                     (try (have c97b1 : decide (t226 = false) = true := by simpa using c97))
                     (try (have c97b2 : (t226 == false) = true := by simpa using c97))
                     clear c97
                     have H' := Am6 H
                     clear H
                     obtain ⟨Ao98, co98, eo98⟩ := Kd.R_slice HO_9.out
                     subst eo98
                     try go_wp2
                     have n0_ := Am6 (Rd6 HO_9.out)
                     have n1_ := Am6 (kd6 BK195.out)
                     have n2_ := Am6 (kd6 BK196.out)
                     have n3_ := Am6 (kd6 BK212.out)
                     have n4_ := Am6 (bd6 HB.out)
                     clear HO_9
                     clear BK195
                     clear BK196
                     clear BK212
                     clear HB
                     have HO_9 := n0_
                     have BK195 := n1_
                     have BK196 := n2_
                     have BK212 := n3_
                     have HB := n4_
                     clear n0_ n1_ n2_ n3_ n4_
                     have p223 : 0 ≤ (x12_3 : Int) := of_decide_eq_true (by first | (with_reducible assumption) | assumption)
                     have q223 : x12_3 < (l3.length : Int) := of_decide_eq_true (by first | (with_reducible assumption) | assumption)
                     obtain ⟨ad223, e223, hx223_0⟩ := Kd.at_string HR3.out x12_3 p223 q223
                     have hw223_0 := hx223_0
                     cases e223
                     replace hx223_0 := (HB.out.cell (World.block_lt_of_cell? w _ hx223_0)).trans hx223_0
                     replace p223 := eq_true p223
                     replace q223 := eq_true q223
                     have p225 : 0 ≤ (x12_3 : Int) := of_decide_eq_true (by first | (with_reducible assumption) | assumption)
                     have q225 : x12_3 < (l3.length : Int) := of_decide_eq_true (by first | (with_reducible assumption) | assumption)
                     obtain ⟨ad225, e225, hx225_0⟩ := Kd.at_string HR3.out x12_3 p225 q225
                     have hw225_0 := hx225_0
                     obtain rfl : ad223 = ad225 := (by injection e225)
                     replace hx225_0 := (HB.out.cell (World.block_lt_of_cell? w _ hx225_0)).trans hx225_0
                     replace p225 := eq_true p225
                     replace q225 := eq_true q225
                     refine start_ (n:=14) (S:=fun w' => w'.cell? ⟨gb195, 0, none⟩ = some (.string a0_0) ∧ w'.cell? ⟨gb195, 1, none⟩ = some (.string a0_1) ∧ w'.cell? ⟨gb196, 0, none⟩ = some (.string a1_0) ∧ w'.cell? ⟨gb196, 1, none⟩ = some (.string a1_1) ∧ w'.cell? (ad223.add (x12_3).toNat) = some (.string (rdOf ByteArray.empty l3 x12_3)) ∧ w'.cell? (ad223.add (x12_3).toNat) = some (.string (rdOf ByteArray.empty l3 x12_3))) (ds:=[]) #[false, false, false, false, false, false, false, false, false, false, false, false, false, false] (by kernel_rfl) rfl rfl ⟨(kc6 BK195.out 0).trans rfl, (kc6 BK195.out 1).trans rfl, (kc6 BK196.out 0).trans rfl, (kc6 BK196.out 1).trans rfl, ((HB.out.cell (World.block_lt_of_cell? w _ hw223_0)).trans hw223_0), ((HB.out.cell (World.block_lt_of_cell? w _ hw225_0)).trans hw225_0)⟩ (fun hHeld => ?_); refine with_tabW watershedlaw04_SpanCuts.tab18 watershedlaw04_SpanCuts.bits18 (fun HT_ HW_ => ?_)
                     generalize wr.drew = w99 at HO_9 BK195 BK196 BK212 HB hx223_0 hx225_0 hHeld ⊢
                     refine pure_ (i:=1) (N:=some 85) (v:=?_) (a' := ?_) #[false, true, false, false, false, false, false, false, false, false, false, false, false, false] rfl rfl (any_of HT_.out (by kernel_rfl)) (fun _ _ _ h => h) (Or.inl ⟨by rfl, ?_⟩) ?_ ?_
                     rotate_left
                     ·intro w'
                      go_simp
                      with_reducible rfl
                     rotate_left
                     ·simp only [Act.put, sa6, sz6, ss6, i64_w, i32_w]
                      rfl
                     refine pure_ (i:=2) (N:=some 86) (v:=?_) (a' := ?_) #[false, true, true, false, false, false, false, false, false, false, false, false, false, false] rfl rfl (any_of HT_.out (by kernel_rfl)) (fun _ _ _ h => h) (Or.inl ⟨by rfl, ?_⟩) ?_ ?_
                     rotate_left
                     ·intro w'
                      go_simp
                      with_reducible rfl
                     rotate_left
                     ·simp only [Act.put, sa6, sz6, ss6, i64_w, i32_w]
                      rfl
                     refine pure_ (i:=3) (N:=some 87) (v:=?_) (a' := ?_) #[false, true, true, true, false, false, false, false, false, false, false, false, false, false] rfl rfl (any_of HT_.out (by kernel_rfl)) (fun _ _ _ h => h) (Or.inl ⟨by rfl, ?_⟩) ?_ ?_
                     rotate_left
                     ·intro w'
                      go_simp
                      with_reducible rfl
                     rotate_left
                     ·simp only [Act.put, sa6, sz6, ss6, i64_w, i32_w]
                      rfl
                     refine pure_ (i:=7) (N:=some 91) (v:=?_) (a' := ?_) #[false, true, true, true, false, false, false, true, false, false, false, false, false, false] rfl rfl (any_of HT_.out (by kernel_rfl)) (fun _ _ _ h => h) (Or.inl ⟨by rfl, ?_⟩) ?_ ?_
                     rotate_left
                     ·intro w'
                      go_simp
                      with_reducible rfl
                     rotate_left
                     ·simp only [Act.put, sa6, sz6, ss6, i64_w, i32_w]
                      rfl
                     refine pure_ (i:=8) (N:=some 92) (v:=?_) (a' := ?_) #[false, true, true, true, false, false, false, true, true, false, false, false, false, false] rfl rfl (any_of HT_.out (by kernel_rfl)) (fun _ _ _ h => h) (Or.inl ⟨by rfl, ?_⟩) ?_ ?_
                     rotate_left
                     ·intro w'
                      go_simp
                      with_reducible rfl
                     rotate_left
                     ·simp only [Act.put, sa6, sz6, ss6, i64_w, i32_w]
                      rfl
                     refine pure_ (i:=9) (N:=some 93) (v:=?_) (a' := ?_) #[false, true, true, true, false, false, false, true, true, true, false, false, false, false] rfl rfl (any_of HT_.out (by kernel_rfl)) (fun _ _ _ h => h) (Or.inl ⟨by rfl, ?_⟩) ?_ ?_
                     rotate_left
                     ·intro w'
                      go_simp
                      with_reducible rfl
                     rotate_left
                     ·simp only [Act.put, sa6, sz6, ss6, i64_w, i32_w]
                      rfl
                     refine take_ (i:=0) (N:=some 84) (v:=?_) (a' := ?_) #[true, true, true, true, false, false, false, true, true, true, false, false, false, false] rfl rfl (take_ofW HT_.out HW_.out (by kernel_rfl)) (fun _ _ _ h => h) (Or.inl ⟨by rfl, ?_⟩) hHeld ?_ ?_
                     rotate_left
                     ·rintro w' ⟨s0, s1, s2, s3, s4, s5⟩
                      go_simp
                      with_reducible rfl
                     rotate_left
                     ·simp only [Act.put, sa6, sz6, ss6, i64_w, i32_w]
                      rfl
                     refine take_ (i:=4) (N:=some 88) (v:=?_) (a' := ?_) #[true, true, true, true, true, false, false, true, true, true, false, false, false, false] rfl rfl (take_ofW HT_.out HW_.out (by kernel_rfl)) (fun _ _ _ h => h) (Or.inl ⟨by rfl, ?_⟩) hHeld ?_ ?_
                     rotate_left
                     ·rintro w' ⟨s0, s1, s2, s3, s4, s5⟩
                      go_simp
                      with_reducible rfl
                     rotate_left
                     ·simp only [Act.put, sa6, sz6, ss6, i64_w, i32_w]
                      rfl
                     refine take_ (i:=6) (N:=some 90) (v:=?_) (a' := ?_) #[true, true, true, true, true, false, true, true, true, true, false, false, false, false] rfl rfl (take_ofW HT_.out HW_.out (by kernel_rfl)) (fun _ _ _ h => h) (Or.inl ⟨by rfl, ?_⟩) hHeld ?_ ?_
                     rotate_left
                     ·rintro w' ⟨s0, s1, s2, s3, s4, s5⟩
                      go_simp
                      with_reducible rfl
                     rotate_left
                     ·simp only [Act.put, sa6, sz6, ss6, i64_w, i32_w]
                      rfl
                     refine take_ (i:=10) (N:=some 94) (v:=?_) (a' := ?_) #[true, true, true, true, true, false, true, true, true, true, true, false, false, false] rfl rfl (take_ofW HT_.out HW_.out (by kernel_rfl)) (fun _ _ _ h => h) (Or.inl ⟨by rfl, ?_⟩) hHeld ?_ ?_
                     rotate_left
                     ·rintro w' ⟨s0, s1, s2, s3, s4, s5⟩
                      go_simp
                      with_reducible rfl
                     rotate_left
                     ·simp only [Act.put, sa6, sz6, ss6, i64_w, i32_w]
                      rfl
                     refine one_ (i:=5) (N:=some 89) #[true, true, true, true, true, true, true, true, true, true, true, false, false, false] rfl rfl (one_of HT_.out (by kernel_rfl)) (by decide) (fun K hK => ?_)
                     refine goes_ Try.func20 (by kernel_rfl) rfl #[.agg #[.string a0_0, .string a0_1], .string (rdOf ByteArray.empty l3 x12_3)] (by rfl) rfl rfl (by (try simp only [ma6, mc6, mn6]); first | done | rfl | (simp only [ld6, lt_6]; rfl)) ?_
                     with_reducible refine (span_Has.calls k4 a0_0 a0_1 (rdOf ByteArray.empty l3 x12_3) true _ A83.out).mono ?_
                     rintro e w100 ⟨rfl, hb⟩
                     refine ⟨_, rfl, ?_⟩
                     have n0_ := Am6 (Rb6 (by (with_reducible repeat first | apply Ra6 | apply Rn6 | apply Rd6); exact HO_9.out) hb)
                     have n1_ := Am6 (kb6 (g:=gb195) (o:=.cells #[.string a0_0, .string a0_1] 26 (0, 0)) (by (with_reducible repeat first | apply kn6 | apply kd6 | apply ka6); exact BK195.out) hb)
                     have n2_ := Am6 (kb6 (g:=gb196) (o:=.cells #[.string a1_0, .string a1_1] 26 (0, 0)) (by (with_reducible repeat first | apply kn6 | apply kd6 | apply ka6); exact BK196.out) hb)
                     have n3_ := Am6 (kb6 (g:=gb212) (o:=.cells #[.string t209, .string t210] 26 (0, 0)) (by (with_reducible repeat first | apply kn6 | apply kd6 | apply ka6); exact BK212.out) hb)
                     have n4_ := Am6 (bp6 (by repeat (first | (with_reducible first | exact HB.out | apply ba6 | apply bn6 | apply bd6 | refine bs6 ?_ GE195.out | refine bs6 ?_ GE196.out | refine bs6 ?_ GE212.out) | exact HB.out)) hb)
                     clear HO_9
                     clear BK195
                     clear BK196
                     clear BK212
                     clear HB
                     have HO_9 := n0_
                     have BK195 := n1_
                     have BK196 := n2_
                     have BK212 := n3_
                     have HB := n4_
                     clear n0_ n1_ n2_ n3_ n4_
                     (try clear hb)
                     (try clear hb2)
                     (try clear hk)
                     (try clear hi)
                     refine hK.out _ _ ⟨(kc6 BK195.out 0).trans rfl, (kc6 BK195.out 1).trans rfl, (kc6 BK196.out 0).trans rfl, (kc6 BK196.out 1).trans rfl, ((HB.out.cell (World.block_lt_of_cell? w _ hw223_0)).trans hw223_0), ((HB.out.cell (World.block_lt_of_cell? w _ hw225_0)).trans hw225_0)⟩ (fun hHeld => ?_)
                     clear hK K
                     refine norm_ (a' := ?_) ?_ ?_
                     rotate_left
                     ·show Act.put _ (some 89) _ = _
                      simp only [Act.put, sa6, sz6, ss6, i64_w, i32_w]
                      rfl
                     refine one_ (i:=11) (N:=some 95) #[true, true, true, true, true, true, true, true, true, true, true, true, false, false] rfl rfl (one_of HT_.out (by kernel_rfl)) (by decide) (fun K hK => ?_)
                     refine goes_ Try.func20 (by kernel_rfl) rfl #[.agg #[.string a1_0, .string a1_1], .string (rdOf ByteArray.empty l3 x12_3)] (by rfl) rfl rfl (by (try simp only [ma6, mc6, mn6]); first | done | rfl | (simp only [ld6, lt_6]; rfl)) ?_
                     with_reducible refine (span_Has.calls k4 a1_0 a1_1 (rdOf ByteArray.empty l3 x12_3) t226 _ A84.out).mono ?_
                     rintro e w101 ⟨rfl, hb⟩
                     refine ⟨_, rfl, ?_⟩
                     have n0_ := Am6 (Rb6 (by (with_reducible repeat first | apply Ra6 | apply Rn6 | apply Rd6); exact HO_9.out) hb)
                     have n1_ := Am6 (kb6 (g:=gb195) (o:=.cells #[.string a0_0, .string a0_1] 26 (0, 0)) (by (with_reducible repeat first | apply kn6 | apply kd6 | apply ka6); exact BK195.out) hb)
                     have n2_ := Am6 (kb6 (g:=gb196) (o:=.cells #[.string a1_0, .string a1_1] 26 (0, 0)) (by (with_reducible repeat first | apply kn6 | apply kd6 | apply ka6); exact BK196.out) hb)
                     have n3_ := Am6 (kb6 (g:=gb212) (o:=.cells #[.string t209, .string t210] 26 (0, 0)) (by (with_reducible repeat first | apply kn6 | apply kd6 | apply ka6); exact BK212.out) hb)
                     have n4_ := Am6 (bp6 (by repeat (first | (with_reducible first | exact HB.out | apply ba6 | apply bn6 | apply bd6 | refine bs6 ?_ GE195.out | refine bs6 ?_ GE196.out | refine bs6 ?_ GE212.out) | exact HB.out)) hb)
                     clear HO_9
                     clear BK195
                     clear BK196
                     clear BK212
                     clear HB
                     have HO_9 := n0_
                     have BK195 := n1_
                     have BK196 := n2_
                     have BK212 := n3_
                     have HB := n4_
                     clear n0_ n1_ n2_ n3_ n4_
                     (try clear hb)
                     (try clear hb2)
                     (try clear hk)
                     (try clear hi)
                     refine hK.out _ _ ⟨(kc6 BK195.out 0).trans rfl, (kc6 BK195.out 1).trans rfl, (kc6 BK196.out 0).trans rfl, (kc6 BK196.out 1).trans rfl, ((HB.out.cell (World.block_lt_of_cell? w _ hw223_0)).trans hw223_0), ((HB.out.cell (World.block_lt_of_cell? w _ hw225_0)).trans hw225_0)⟩ (fun hHeld => ?_)
                     clear hK K
                     refine norm_ (a' := ?_) ?_ ?_
                     rotate_left
                     ·show Act.put _ (some 95) _ = _
                      simp only [Act.put, sa6, sz6, ss6, i64_w, i32_w]
                      rfl
                     refine pure_ (i:=12) (N:=some 15) (v:=?_) (a' := ?_) #[true, true, true, true, true, true, true, true, true, true, true, true, true, false] rfl rfl (any_of HT_.out (by kernel_rfl)) (fun _ _ _ h => h) (Or.inl ⟨by rfl, ?_⟩) ?_ ?_
                     rotate_left
                     ·intro w'
                      go_simp
                      with_reducible rfl
                     rotate_left
                     ·simp only [Act.put, sa6, sz6, ss6, i64_w, i32_w]
                      rfl
                     refine pure_ (i:=13) (N:=some 16) (v:=?_) (a' := ?_) #[true, true, true, true, true, true, true, true, true, true, true, true, true, true] rfl rfl (any_of HT_.out (by kernel_rfl)) (fun _ _ _ h => h) (Or.inl ⟨by rfl, ?_⟩) ?_ ?_
                     rotate_left
                     ·intro w'
                      go_simp
                      with_reducible rfl
                     rotate_left
                     ·simp only [Act.put, sa6, sz6, ss6, i64_w, i32_w]
                      rfl
                     refine done_ (done_of HT_.out (by kernel_rfl)) ?_
                     try go_wp2
                     have n0_ := Am6 (Rd6 HO_9.out)
                     have n1_ := Am6 (kd6 BK195.out)
                     have n2_ := Am6 (kd6 BK196.out)
                     have n3_ := Am6 (kd6 BK212.out)
                     have n4_ := Am6 (bd6 HB.out)
                     clear HO_9
                     clear BK195
                     clear BK196
                     clear BK212
                     clear HB
                     have HO_9 := n0_
                     have BK195 := n1_
                     have BK196 := n2_
                     have BK212 := n3_
                     have HB := n4_
                     clear n0_ n1_ n2_ n3_ n4_
                     refine start_ (n:=24) (S:=fun w' => True) (ds:=[]) #[false, false, false, false, false, false, false, false, false, false, false, false, false, false, false, false, false, false, false, false, false, false, false, false] (by kernel_rfl) rfl rfl trivial (fun hHeld => ?_); refine with_tabW watershedlaw04_SpanCuts.tab19 watershedlaw04_SpanCuts.bits19 (fun HT_ HW_ => ?_)
                     generalize w101.drew = w102 at HO_9 BK195 BK196 BK212 HB hHeld ⊢
                     refine pure_ (i:=0) (N:=some 96) (v:=?_) (a' := ?_) #[true, false, false, false, false, false, false, false, false, false, false, false, false, false, false, false, false, false, false, false, false, false, false, false] rfl rfl (any_of HT_.out (by kernel_rfl)) (fun _ _ _ h => h) (Or.inl ⟨by rfl, ?_⟩) ?_ ?_
                     rotate_left
                     ·intro w'
                      go_simp
                      with_reducible rfl
                     rotate_left
                     ·simp only [Act.put, sa6, sz6, ss6, i64_w, i32_w]
                      rfl
                     refine pure_ (i:=1) (N:=some 97) (v:=?_) (a' := ?_) #[true, true, false, false, false, false, false, false, false, false, false, false, false, false, false, false, false, false, false, false, false, false, false, false] rfl rfl (any_of HT_.out (by kernel_rfl)) (fun _ _ _ h => h) (Or.inl ⟨by rfl, ?_⟩) ?_ ?_
                     rotate_left
                     ·intro w'
                      go_simp
                      with_reducible rfl
                     rotate_left
                     ·simp only [Act.put, sa6, sz6, ss6, i64_w, i32_w]
                      rfl
                     refine pure_ (i:=2) (N:=some 98) (v:=?_) (a' := ?_) #[true, true, true, false, false, false, false, false, false, false, false, false, false, false, false, false, false, false, false, false, false, false, false, false] rfl rfl (any_of HT_.out (by kernel_rfl)) (fun _ _ _ h => h) (Or.inl ⟨by rfl, ?_⟩) ?_ ?_
                     rotate_left
                     ·intro w'
                      go_simp
                      with_reducible rfl
                     rotate_left
                     ·simp only [Act.put, sa6, sz6, ss6, i64_w, i32_w]
                      rfl
                     refine pure_ (i:=3) (N:=some 99) (v:=?_) (a' := ?_) #[true, true, true, true, false, false, false, false, false, false, false, false, false, false, false, false, false, false, false, false, false, false, false, false] rfl rfl (any_of HT_.out (by kernel_rfl)) (fun _ _ _ h => h) (Or.inl ⟨by rfl, ?_⟩) ?_ ?_
                     rotate_left
                     ·intro w'
                      go_simp
                      with_reducible rfl
                     rotate_left
                     ·simp only [Act.put, sa6, sz6, ss6, i64_w, i32_w]
                      rfl
                     refine pure_ (i:=4) (N:=some 100) (v:=?_) (a' := ?_) #[true, true, true, true, true, false, false, false, false, false, false, false, false, false, false, false, false, false, false, false, false, false, false, false] rfl rfl (any_of HT_.out (by kernel_rfl)) (fun _ _ _ h => h) (Or.inl ⟨by rfl, ?_⟩) ?_ ?_
                     rotate_left
                     ·intro w'
                      go_simp
                      with_reducible rfl
                     rotate_left
                     ·simp only [Act.put, sa6, sz6, ss6, i64_w, i32_w]
                      rfl
                     refine pure_ (i:=5) (N:=some 101) (v:=?_) (a' := ?_) #[true, true, true, true, true, true, false, false, false, false, false, false, false, false, false, false, false, false, false, false, false, false, false, false] rfl rfl (any_of HT_.out (by kernel_rfl)) (fun _ _ _ h => h) (Or.inl ⟨by rfl, ?_⟩) ?_ ?_
                     rotate_left
                     ·intro w'
                      go_simp
                      with_reducible rfl
                     rotate_left
                     ·simp only [Act.put, sa6, sz6, ss6, i64_w, i32_w]
                      rfl
                     refine pure_ (i:=6) (N:=some 102) (v:=?_) (a' := ?_) #[true, true, true, true, true, true, true, false, false, false, false, false, false, false, false, false, false, false, false, false, false, false, false, false] rfl rfl (any_of HT_.out (by kernel_rfl)) (fun _ _ _ h => h) (Or.inl ⟨by rfl, ?_⟩) ?_ ?_
                     rotate_left
                     ·intro w'
                      go_simp
                      with_reducible rfl
                     rotate_left
                     ·simp only [Act.put, sa6, sz6, ss6, i64_w, i32_w]
                      rfl
                     refine pure_ (i:=7) (N:=some 103) (v:=?_) (a' := ?_) #[true, true, true, true, true, true, true, true, false, false, false, false, false, false, false, false, false, false, false, false, false, false, false, false] rfl rfl (any_of HT_.out (by kernel_rfl)) (fun _ _ _ h => h) (Or.inl ⟨by rfl, ?_⟩) ?_ ?_
                     rotate_left
                     ·intro w'
                      go_simp
                      with_reducible rfl
                     rotate_left
                     ·simp only [Act.put, sa6, sz6, ss6, i64_w, i32_w]
                      rfl
                     refine pure_ (i:=8) (N:=some 104) (v:=?_) (a' := ?_) #[true, true, true, true, true, true, true, true, true, false, false, false, false, false, false, false, false, false, false, false, false, false, false, false] rfl rfl (any_of HT_.out (by kernel_rfl)) (fun _ _ _ h => h) (Or.inl ⟨by rfl, ?_⟩) ?_ ?_
                     rotate_left
                     ·intro w'
                      go_simp
                      with_reducible rfl
                     rotate_left
                     ·simp only [Act.put, sa6, sz6, ss6, i64_w, i32_w]
                      rfl
                     refine pure_ (i:=9) (N:=some 105) (v:=?_) (a' := ?_) #[true, true, true, true, true, true, true, true, true, true, false, false, false, false, false, false, false, false, false, false, false, false, false, false] rfl rfl (any_of HT_.out (by kernel_rfl)) (fun _ _ _ h => h) (Or.inl ⟨by rfl, ?_⟩) ?_ ?_
                     rotate_left
                     ·intro w'
                      go_simp
                      with_reducible rfl
                     rotate_left
                     ·simp only [Act.put, sa6, sz6, ss6, i64_w, i32_w]
                      rfl
                     refine pure_ (i:=10) (N:=some 106) (v:=?_) (a' := ?_) #[true, true, true, true, true, true, true, true, true, true, true, false, false, false, false, false, false, false, false, false, false, false, false, false] rfl rfl (any_of HT_.out (by kernel_rfl)) (fun _ _ _ h => h) (Or.inl ⟨by rfl, ?_⟩) ?_ ?_
                     rotate_left
                     ·intro w'
                      go_simp
                      with_reducible rfl
                     rotate_left
                     ·simp only [Act.put, sa6, sz6, ss6, i64_w, i32_w]
                      rfl
                     refine pure_ (i:=11) (N:=some 107) (v:=?_) (a' := ?_) #[true, true, true, true, true, true, true, true, true, true, true, true, false, false, false, false, false, false, false, false, false, false, false, false] rfl rfl (any_of HT_.out (by kernel_rfl)) (fun _ _ _ h => h) (Or.inl ⟨by rfl, ?_⟩) ?_ ?_
                     rotate_left
                     ·intro w'
                      go_simp
                      with_reducible rfl
                     rotate_left
                     ·simp only [Act.put, sa6, sz6, ss6, i64_w, i32_w]
                      rfl
                     refine pure_ (i:=12) (N:=some 108) (v:=?_) (a' := ?_) #[true, true, true, true, true, true, true, true, true, true, true, true, true, false, false, false, false, false, false, false, false, false, false, false] rfl rfl (any_of HT_.out (by kernel_rfl)) (fun _ _ _ h => h) (Or.inl ⟨by rfl, ?_⟩) ?_ ?_
                     rotate_left
                     ·intro w'
                      go_simp
                      with_reducible rfl
                     rotate_left
                     ·simp only [Act.put, sa6, sz6, ss6, i64_w, i32_w]
                      rfl
                     refine pure_ (i:=13) (N:=some 109) (v:=?_) (a' := ?_) #[true, true, true, true, true, true, true, true, true, true, true, true, true, true, false, false, false, false, false, false, false, false, false, false] rfl rfl (any_of HT_.out (by kernel_rfl)) (fun _ _ _ h => h) (Or.inl ⟨by rfl, ?_⟩) ?_ ?_
                     rotate_left
                     ·intro w'
                      go_simp
                      with_reducible rfl
                     rotate_left
                     ·simp only [Act.put, sa6, sz6, ss6, i64_w, i32_w]
                      rfl
                     refine pure_ (i:=14) (N:=some 110) (v:=?_) (a' := ?_) #[true, true, true, true, true, true, true, true, true, true, true, true, true, true, true, false, false, false, false, false, false, false, false, false] rfl rfl (any_of HT_.out (by kernel_rfl)) (fun _ _ _ h => h) (Or.inl ⟨by rfl, ?_⟩) ?_ ?_
                     rotate_left
                     ·intro w'
                      go_simp
                      with_reducible rfl
                     rotate_left
                     ·simp only [Act.put, sa6, sz6, ss6, i64_w, i32_w]
                      rfl
                     refine pure_ (i:=15) (N:=some 111) (v:=undef) (a' := ?_) #[true, true, true, true, true, true, true, true, true, true, true, true, true, true, true, true, false, false, false, false, false, false, false, false] rfl rfl (any_of HT_.out (by kernel_rfl)) (fun _ _ _ h => h) (Or.inr ⟨by rfl, rfl⟩) ?_ ?_
                     rotate_left
                     ·simp only [Act.put, sa6, sz6, ss6, i64_w, i32_w]
                      rfl
                     refine pure_ (i:=16) (N:=some 112) (v:=undef) (a' := ?_) #[true, true, true, true, true, true, true, true, true, true, true, true, true, true, true, true, true, false, false, false, false, false, false, false] rfl rfl (any_of HT_.out (by kernel_rfl)) (fun _ _ _ h => h) (Or.inr ⟨by rfl, rfl⟩) ?_ ?_
                     rotate_left
                     ·simp only [Act.put, sa6, sz6, ss6, i64_w, i32_w]
                      rfl
                     refine pure_ (i:=17) (N:=some 113) (v:=undef) (a' := ?_) #[true, true, true, true, true, true, true, true, true, true, true, true, true, true, true, true, true, true, false, false, false, false, false, false] rfl rfl (any_of HT_.out (by kernel_rfl)) (fun _ _ _ h => h) (Or.inr ⟨by rfl, rfl⟩) ?_ ?_
                     rotate_left
                     ·simp only [Act.put, sa6, sz6, ss6, i64_w, i32_w]
                      rfl
                     refine pure_ (i:=18) (N:=some 114) (v:=undef) (a' := ?_) #[true, true, true, true, true, true, true, true, true, true, true, true, true, true, true, true, true, true, true, false, false, false, false, false] rfl rfl (any_of HT_.out (by kernel_rfl)) (fun _ _ _ h => h) (Or.inr ⟨by rfl, rfl⟩) ?_ ?_
                     rotate_left
                     ·simp only [Act.put, sa6, sz6, ss6, i64_w, i32_w]
                      rfl
                     refine pure_ (i:=19) (N:=some 115) (v:=undef) (a' := ?_) #[true, true, true, true, true, true, true, true, true, true, true, true, true, true, true, true, true, true, true, true, false, false, false, false] rfl rfl (any_of HT_.out (by kernel_rfl)) (fun _ _ _ h => h) (Or.inr ⟨by rfl, rfl⟩) ?_ ?_
                     rotate_left
                     ·simp only [Act.put, sa6, sz6, ss6, i64_w, i32_w]
                      rfl
                     refine pure_ (i:=20) (N:=some 116) (v:=undef) (a' := ?_) #[true, true, true, true, true, true, true, true, true, true, true, true, true, true, true, true, true, true, true, true, true, false, false, false] rfl rfl (any_of HT_.out (by kernel_rfl)) (fun _ _ _ h => h) (Or.inr ⟨by rfl, rfl⟩) ?_ ?_
                     rotate_left
                     ·simp only [Act.put, sa6, sz6, ss6, i64_w, i32_w]
                      rfl
                     refine pure_ (i:=21) (N:=some 117) (v:=?_) (a' := ?_) #[true, true, true, true, true, true, true, true, true, true, true, true, true, true, true, true, true, true, true, true, true, true, false, false] rfl rfl (any_of HT_.out (by kernel_rfl)) (fun _ _ _ h => h) (Or.inl ⟨by rfl, ?_⟩) ?_ ?_
                     rotate_left
                     ·intro w'
                      go_simp
                      with_reducible rfl
                     rotate_left
                     ·simp only [Act.put, sa6, sz6, ss6, i64_w, i32_w]
                      rfl
                     refine pure_ (i:=22) (N:=some 118) (v:=?_) (a' := ?_) #[true, true, true, true, true, true, true, true, true, true, true, true, true, true, true, true, true, true, true, true, true, true, true, false] rfl rfl (any_of HT_.out (by kernel_rfl)) (fun _ _ _ h => h) (Or.inl ⟨by rfl, ?_⟩) ?_ ?_
                     rotate_left
                     ·intro w'
                      go_simp
                      with_reducible rfl
                     rotate_left
                     ·simp only [Act.put, sa6, sz6, ss6, i64_w, i32_w]
                      rfl
                     refine pure_ (i:=23) (N:=some 119) (v:=?_) (a' := ?_) #[true, true, true, true, true, true, true, true, true, true, true, true, true, true, true, true, true, true, true, true, true, true, true, true] rfl rfl (any_of HT_.out (by kernel_rfl)) (fun _ _ _ h => h) (Or.inl ⟨by rfl, ?_⟩) ?_ ?_
                     rotate_left
                     ·intro w'
                      go_simp
                      with_reducible rfl
                     rotate_left
                     ·simp only [Act.put, sa6, sz6, ss6, i64_w, i32_w]
                      rfl
                     refine done_ (done_of HT_.out (by kernel_rfl)) ?_
                     try go_wp2
                     go_roundg k4
                     case measure => have := HJ6.out; have := HJ31.out; have := HK3.out; have := HK4.out; omega
                     case rel => exact ⟨(wrap64 (x12_3 + 1)), (by first | rfl | (simp; done) | (simp [*]; done)), H', ⟨by have := HJ6.out; have := HJ31.out; have := HK3.out; have := HK4.out; omega⟩, ⟨by (with_reducible repeat first | apply Ra6 | apply Rn6 | apply Rd6); exact HO_9.out⟩, ⟨by (with_reducible repeat first | apply kn6 | apply kd6 | apply ka6); exact BK195.out⟩, ⟨by (with_reducible repeat first | apply kn6 | apply kd6 | apply ka6); exact BK196.out⟩, ⟨by (with_reducible repeat first | apply kn6 | apply kd6 | apply ka6); exact BK212.out⟩, ⟨by repeat (first | (with_reducible first | exact HB.out | apply ba6 | apply bn6 | apply bd6 | refine bs6 ?_ GE195.out | refine bs6 ?_ GE196.out | refine bs6 ?_ GE212.out) | exact HB.out)⟩⟩
                  ·replace c87 := Bool.eq_false_iff.mpr c87
                   subst c87
                   rw [if_neg (show ¬ (false = true) by decide)] at H
                   by_cases c103 : t211 = true
                   ·subst c103
                    rw [if_pos rfl] at H
                    replace H := Option.bind_eq_some_iff.mp H
                    obtain ⟨t230, A1040, H⟩ := H
                    try dsimp only at H
                    have A104 := Am6 A1040
                    clear A1040
                    by_cases c105 : (false != t230) = true
                    ·rw [if_pos c105] at H
                     exact absurd H (by simp)
                    ·rw [if_neg c105] at H
                     have c105b0 : (false != t230) = false := by simpa using c105
                     (try (have c105b1 : decide (false = t230) = true := by simpa using c105))
                     (try (have c105b2 : (false == t230) = true := by simpa using c105))
                     clear c105
                     have H' := Am6 H
                     clear H
                     obtain ⟨Ao106, co106, eo106⟩ := Kd.R_slice HO_9.out
                     subst eo106
                     try go_wp2
                     have n0_ := Am6 (Rd6 HO_9.out)
                     have n1_ := Am6 (kd6 BK195.out)
                     have n2_ := Am6 (kd6 BK196.out)
                     have n3_ := Am6 (kd6 BK212.out)
                     have n4_ := Am6 (bd6 HB.out)
                     clear HO_9
                     clear BK195
                     clear BK196
                     clear BK212
                     clear HB
                     have HO_9 := n0_
                     have BK195 := n1_
                     have BK196 := n2_
                     have BK212 := n3_
                     have HB := n4_
                     clear n0_ n1_ n2_ n3_ n4_
                     have p223 : 0 ≤ (x12_3 : Int) := of_decide_eq_true (by first | (with_reducible assumption) | assumption)
                     have q223 : x12_3 < (l3.length : Int) := of_decide_eq_true (by first | (with_reducible assumption) | assumption)
                     obtain ⟨ad223, e223, hx223_0⟩ := Kd.at_string HR3.out x12_3 p223 q223
                     have hw223_0 := hx223_0
                     cases e223
                     replace hx223_0 := (HB.out.cell (World.block_lt_of_cell? w _ hx223_0)).trans hx223_0
                     replace p223 := eq_true p223
                     replace q223 := eq_true q223
                     have p225 : 0 ≤ (x12_3 : Int) := of_decide_eq_true (by first | (with_reducible assumption) | assumption)
                     have q225 : x12_3 < (l3.length : Int) := of_decide_eq_true (by first | (with_reducible assumption) | assumption)
                     obtain ⟨ad225, e225, hx225_0⟩ := Kd.at_string HR3.out x12_3 p225 q225
                     have hw225_0 := hx225_0
                     obtain rfl : ad223 = ad225 := (by injection e225)
                     replace hx225_0 := (HB.out.cell (World.block_lt_of_cell? w _ hx225_0)).trans hx225_0
                     replace p225 := eq_true p225
                     replace q225 := eq_true q225
                     refine start_ (n:=14) (S:=fun w' => w'.cell? ⟨gb195, 0, none⟩ = some (.string a0_0) ∧ w'.cell? ⟨gb195, 1, none⟩ = some (.string a0_1) ∧ w'.cell? ⟨gb196, 0, none⟩ = some (.string a1_0) ∧ w'.cell? ⟨gb196, 1, none⟩ = some (.string a1_1) ∧ w'.cell? (ad223.add (x12_3).toNat) = some (.string (rdOf ByteArray.empty l3 x12_3)) ∧ w'.cell? (ad223.add (x12_3).toNat) = some (.string (rdOf ByteArray.empty l3 x12_3))) (ds:=[]) #[false, false, false, false, false, false, false, false, false, false, false, false, false, false] (by kernel_rfl) rfl rfl ⟨(kc6 BK195.out 0).trans rfl, (kc6 BK195.out 1).trans rfl, (kc6 BK196.out 0).trans rfl, (kc6 BK196.out 1).trans rfl, ((HB.out.cell (World.block_lt_of_cell? w _ hw223_0)).trans hw223_0), ((HB.out.cell (World.block_lt_of_cell? w _ hw225_0)).trans hw225_0)⟩ (fun hHeld => ?_); refine with_tabW watershedlaw04_SpanCuts.tab18 watershedlaw04_SpanCuts.bits18 (fun HT_ HW_ => ?_)
                     generalize wr.drew = w107 at HO_9 BK195 BK196 BK212 HB hx223_0 hx225_0 hHeld ⊢
                     refine pure_ (i:=1) (N:=some 85) (v:=?_) (a' := ?_) #[false, true, false, false, false, false, false, false, false, false, false, false, false, false] rfl rfl (any_of HT_.out (by kernel_rfl)) (fun _ _ _ h => h) (Or.inl ⟨by rfl, ?_⟩) ?_ ?_
                     rotate_left
                     ·intro w'
                      go_simp
                      with_reducible rfl
                     rotate_left
                     ·simp only [Act.put, sa6, sz6, ss6, i64_w, i32_w]
                      rfl
                     refine pure_ (i:=2) (N:=some 86) (v:=?_) (a' := ?_) #[false, true, true, false, false, false, false, false, false, false, false, false, false, false] rfl rfl (any_of HT_.out (by kernel_rfl)) (fun _ _ _ h => h) (Or.inl ⟨by rfl, ?_⟩) ?_ ?_
                     rotate_left
                     ·intro w'
                      go_simp
                      with_reducible rfl
                     rotate_left
                     ·simp only [Act.put, sa6, sz6, ss6, i64_w, i32_w]
                      rfl
                     refine pure_ (i:=3) (N:=some 87) (v:=?_) (a' := ?_) #[false, true, true, true, false, false, false, false, false, false, false, false, false, false] rfl rfl (any_of HT_.out (by kernel_rfl)) (fun _ _ _ h => h) (Or.inl ⟨by rfl, ?_⟩) ?_ ?_
                     rotate_left
                     ·intro w'
                      go_simp
                      with_reducible rfl
                     rotate_left
                     ·simp only [Act.put, sa6, sz6, ss6, i64_w, i32_w]
                      rfl
                     refine pure_ (i:=7) (N:=some 91) (v:=?_) (a' := ?_) #[false, true, true, true, false, false, false, true, false, false, false, false, false, false] rfl rfl (any_of HT_.out (by kernel_rfl)) (fun _ _ _ h => h) (Or.inl ⟨by rfl, ?_⟩) ?_ ?_
                     rotate_left
                     ·intro w'
                      go_simp
                      with_reducible rfl
                     rotate_left
                     ·simp only [Act.put, sa6, sz6, ss6, i64_w, i32_w]
                      rfl
                     refine pure_ (i:=8) (N:=some 92) (v:=?_) (a' := ?_) #[false, true, true, true, false, false, false, true, true, false, false, false, false, false] rfl rfl (any_of HT_.out (by kernel_rfl)) (fun _ _ _ h => h) (Or.inl ⟨by rfl, ?_⟩) ?_ ?_
                     rotate_left
                     ·intro w'
                      go_simp
                      with_reducible rfl
                     rotate_left
                     ·simp only [Act.put, sa6, sz6, ss6, i64_w, i32_w]
                      rfl
                     refine pure_ (i:=9) (N:=some 93) (v:=?_) (a' := ?_) #[false, true, true, true, false, false, false, true, true, true, false, false, false, false] rfl rfl (any_of HT_.out (by kernel_rfl)) (fun _ _ _ h => h) (Or.inl ⟨by rfl, ?_⟩) ?_ ?_
                     rotate_left
                     ·intro w'
                      go_simp
                      with_reducible rfl
                     rotate_left
                     ·simp only [Act.put, sa6, sz6, ss6, i64_w, i32_w]
                      rfl
                     refine take_ (i:=0) (N:=some 84) (v:=?_) (a' := ?_) #[true, true, true, true, false, false, false, true, true, true, false, false, false, false] rfl rfl (take_ofW HT_.out HW_.out (by kernel_rfl)) (fun _ _ _ h => h) (Or.inl ⟨by rfl, ?_⟩) hHeld ?_ ?_
                     rotate_left
                     ·rintro w' ⟨s0, s1, s2, s3, s4, s5⟩
                      go_simp
                      with_reducible rfl
                     rotate_left
                     ·simp only [Act.put, sa6, sz6, ss6, i64_w, i32_w]
                      rfl
                     refine take_ (i:=4) (N:=some 88) (v:=?_) (a' := ?_) #[true, true, true, true, true, false, false, true, true, true, false, false, false, false] rfl rfl (take_ofW HT_.out HW_.out (by kernel_rfl)) (fun _ _ _ h => h) (Or.inl ⟨by rfl, ?_⟩) hHeld ?_ ?_
                     rotate_left
                     ·rintro w' ⟨s0, s1, s2, s3, s4, s5⟩
                      go_simp
                      with_reducible rfl
                     rotate_left
                     ·simp only [Act.put, sa6, sz6, ss6, i64_w, i32_w]
                      rfl
                     refine take_ (i:=6) (N:=some 90) (v:=?_) (a' := ?_) #[true, true, true, true, true, false, true, true, true, true, false, false, false, false] rfl rfl (take_ofW HT_.out HW_.out (by kernel_rfl)) (fun _ _ _ h => h) (Or.inl ⟨by rfl, ?_⟩) hHeld ?_ ?_
                     rotate_left
                     ·rintro w' ⟨s0, s1, s2, s3, s4, s5⟩
                      go_simp
                      with_reducible rfl
                     rotate_left
                     ·simp only [Act.put, sa6, sz6, ss6, i64_w, i32_w]
                      rfl
                     refine take_ (i:=10) (N:=some 94) (v:=?_) (a' := ?_) #[true, true, true, true, true, false, true, true, true, true, true, false, false, false] rfl rfl (take_ofW HT_.out HW_.out (by kernel_rfl)) (fun _ _ _ h => h) (Or.inl ⟨by rfl, ?_⟩) hHeld ?_ ?_
                     rotate_left
                     ·rintro w' ⟨s0, s1, s2, s3, s4, s5⟩
                      go_simp
                      with_reducible rfl
                     rotate_left
                     ·simp only [Act.put, sa6, sz6, ss6, i64_w, i32_w]
                      rfl
                     refine one_ (i:=5) (N:=some 89) #[true, true, true, true, true, true, true, true, true, true, true, false, false, false] rfl rfl (one_of HT_.out (by kernel_rfl)) (by decide) (fun K hK => ?_)
                     refine goes_ Try.func20 (by kernel_rfl) rfl #[.agg #[.string a0_0, .string a0_1], .string (rdOf ByteArray.empty l3 x12_3)] (by rfl) rfl rfl (by (try simp only [ma6, mc6, mn6]); first | done | rfl | (simp only [ld6, lt_6]; rfl)) ?_
                     with_reducible refine (span_Has.calls k4 a0_0 a0_1 (rdOf ByteArray.empty l3 x12_3) false _ A83.out).mono ?_
                     rintro e w108 ⟨rfl, hb⟩
                     refine ⟨_, rfl, ?_⟩
                     have n0_ := Am6 (Rb6 (by (with_reducible repeat first | apply Ra6 | apply Rn6 | apply Rd6); exact HO_9.out) hb)
                     have n1_ := Am6 (kb6 (g:=gb195) (o:=.cells #[.string a0_0, .string a0_1] 26 (0, 0)) (by (with_reducible repeat first | apply kn6 | apply kd6 | apply ka6); exact BK195.out) hb)
                     have n2_ := Am6 (kb6 (g:=gb196) (o:=.cells #[.string a1_0, .string a1_1] 26 (0, 0)) (by (with_reducible repeat first | apply kn6 | apply kd6 | apply ka6); exact BK196.out) hb)
                     have n3_ := Am6 (kb6 (g:=gb212) (o:=.cells #[.string t209, .string t210] 26 (0, 0)) (by (with_reducible repeat first | apply kn6 | apply kd6 | apply ka6); exact BK212.out) hb)
                     have n4_ := Am6 (bp6 (by repeat (first | (with_reducible first | exact HB.out | apply ba6 | apply bn6 | apply bd6 | refine bs6 ?_ GE195.out | refine bs6 ?_ GE196.out | refine bs6 ?_ GE212.out) | exact HB.out)) hb)
                     clear HO_9
                     clear BK195
                     clear BK196
                     clear BK212
                     clear HB
                     have HO_9 := n0_
                     have BK195 := n1_
                     have BK196 := n2_
                     have BK212 := n3_
                     have HB := n4_
                     clear n0_ n1_ n2_ n3_ n4_
                     (try clear hb)
                     (try clear hb2)
                     (try clear hk)
                     (try clear hi)
                     refine hK.out _ _ ⟨(kc6 BK195.out 0).trans rfl, (kc6 BK195.out 1).trans rfl, (kc6 BK196.out 0).trans rfl, (kc6 BK196.out 1).trans rfl, ((HB.out.cell (World.block_lt_of_cell? w _ hw223_0)).trans hw223_0), ((HB.out.cell (World.block_lt_of_cell? w _ hw225_0)).trans hw225_0)⟩ (fun hHeld => ?_)
                     clear hK K
                     refine norm_ (a' := ?_) ?_ ?_
                     rotate_left
                     ·show Act.put _ (some 89) _ = _
                      simp only [Act.put, sa6, sz6, ss6, i64_w, i32_w]
                      rfl
                     refine one_ (i:=11) (N:=some 95) #[true, true, true, true, true, true, true, true, true, true, true, true, false, false] rfl rfl (one_of HT_.out (by kernel_rfl)) (by decide) (fun K hK => ?_)
                     refine goes_ Try.func20 (by kernel_rfl) rfl #[.agg #[.string a1_0, .string a1_1], .string (rdOf ByteArray.empty l3 x12_3)] (by rfl) rfl rfl (by (try simp only [ma6, mc6, mn6]); first | done | rfl | (simp only [ld6, lt_6]; rfl)) ?_
                     with_reducible refine (span_Has.calls k4 a1_0 a1_1 (rdOf ByteArray.empty l3 x12_3) t226 _ A84.out).mono ?_
                     rintro e w109 ⟨rfl, hb⟩
                     refine ⟨_, rfl, ?_⟩
                     have n0_ := Am6 (Rb6 (by (with_reducible repeat first | apply Ra6 | apply Rn6 | apply Rd6); exact HO_9.out) hb)
                     have n1_ := Am6 (kb6 (g:=gb195) (o:=.cells #[.string a0_0, .string a0_1] 26 (0, 0)) (by (with_reducible repeat first | apply kn6 | apply kd6 | apply ka6); exact BK195.out) hb)
                     have n2_ := Am6 (kb6 (g:=gb196) (o:=.cells #[.string a1_0, .string a1_1] 26 (0, 0)) (by (with_reducible repeat first | apply kn6 | apply kd6 | apply ka6); exact BK196.out) hb)
                     have n3_ := Am6 (kb6 (g:=gb212) (o:=.cells #[.string t209, .string t210] 26 (0, 0)) (by (with_reducible repeat first | apply kn6 | apply kd6 | apply ka6); exact BK212.out) hb)
                     have n4_ := Am6 (bp6 (by repeat (first | (with_reducible first | exact HB.out | apply ba6 | apply bn6 | apply bd6 | refine bs6 ?_ GE195.out | refine bs6 ?_ GE196.out | refine bs6 ?_ GE212.out) | exact HB.out)) hb)
                     clear HO_9
                     clear BK195
                     clear BK196
                     clear BK212
                     clear HB
                     have HO_9 := n0_
                     have BK195 := n1_
                     have BK196 := n2_
                     have BK212 := n3_
                     have HB := n4_
                     clear n0_ n1_ n2_ n3_ n4_
                     (try clear hb)
                     (try clear hb2)
                     (try clear hk)
                     (try clear hi)
                     refine hK.out _ _ ⟨(kc6 BK195.out 0).trans rfl, (kc6 BK195.out 1).trans rfl, (kc6 BK196.out 0).trans rfl, (kc6 BK196.out 1).trans rfl, ((HB.out.cell (World.block_lt_of_cell? w _ hw223_0)).trans hw223_0), ((HB.out.cell (World.block_lt_of_cell? w _ hw225_0)).trans hw225_0)⟩ (fun hHeld => ?_)
                     clear hK K
                     refine norm_ (a' := ?_) ?_ ?_
                     rotate_left
                     ·show Act.put _ (some 95) _ = _
                      simp only [Act.put, sa6, sz6, ss6, i64_w, i32_w]
                      rfl
                     refine pure_ (i:=12) (N:=some 15) (v:=?_) (a' := ?_) #[true, true, true, true, true, true, true, true, true, true, true, true, true, false] rfl rfl (any_of HT_.out (by kernel_rfl)) (fun _ _ _ h => h) (Or.inl ⟨by rfl, ?_⟩) ?_ ?_
                     rotate_left
                     ·intro w'
                      go_simp
                      with_reducible rfl
                     rotate_left
                     ·simp only [Act.put, sa6, sz6, ss6, i64_w, i32_w]
                      rfl
                     refine pure_ (i:=13) (N:=some 16) (v:=?_) (a' := ?_) #[true, true, true, true, true, true, true, true, true, true, true, true, true, true] rfl rfl (any_of HT_.out (by kernel_rfl)) (fun _ _ _ h => h) (Or.inl ⟨by rfl, ?_⟩) ?_ ?_
                     rotate_left
                     ·intro w'
                      go_simp
                      with_reducible rfl
                     rotate_left
                     ·simp only [Act.put, sa6, sz6, ss6, i64_w, i32_w]
                      rfl
                     refine done_ (done_of HT_.out (by kernel_rfl)) ?_
                     try go_wp2
                     have n0_ := Am6 (Rd6 HO_9.out)
                     have n1_ := Am6 (kd6 BK195.out)
                     have n2_ := Am6 (kd6 BK196.out)
                     have n3_ := Am6 (kd6 BK212.out)
                     have n4_ := Am6 (bd6 HB.out)
                     clear HO_9
                     clear BK195
                     clear BK196
                     clear BK212
                     clear HB
                     have HO_9 := n0_
                     have BK195 := n1_
                     have BK196 := n2_
                     have BK212 := n3_
                     have HB := n4_
                     clear n0_ n1_ n2_ n3_ n4_
                     have p229 : 0 ≤ (x12_3 : Int) := of_decide_eq_true (by first | (with_reducible assumption) | assumption)
                     have q229 : x12_3 < (l3.length : Int) := of_decide_eq_true (by first | (with_reducible assumption) | assumption)
                     obtain ⟨ad229, e229, hx229_0⟩ := Kd.at_string HR3.out x12_3 p229 q229
                     have hw229_0 := hx229_0
                     obtain rfl : ad223 = ad229 := (by injection e229)
                     replace hx229_0 := (HB.out.cell (World.block_lt_of_cell? w _ hx229_0)).trans hx229_0
                     replace p229 := eq_true p229
                     replace q229 := eq_true q229
                     refine start_ (n:=24) (S:=fun w' => w'.cell? ⟨gb212, 0, none⟩ = some (.string t209) ∧ w'.cell? ⟨gb212, 1, none⟩ = some (.string t210) ∧ w'.cell? (ad223.add (x12_3).toNat) = some (.string (rdOf ByteArray.empty l3 x12_3))) (ds:=[]) #[false, false, false, false, false, false, false, false, false, false, false, false, false, false, false, false, false, false, false, false, false, false, false, false] (by kernel_rfl) rfl rfl ⟨(kc6 BK212.out 0).trans rfl, (kc6 BK212.out 1).trans rfl, ((HB.out.cell (World.block_lt_of_cell? w _ hw229_0)).trans hw229_0)⟩ (fun hHeld => ?_); refine with_tabW watershedlaw04_SpanCuts.tab19 watershedlaw04_SpanCuts.bits19 (fun HT_ HW_ => ?_)
                     generalize w109.drew = w110 at HO_9 BK195 BK196 BK212 HB hx229_0 hHeld ⊢
                     refine pure_ (i:=0) (N:=some 96) (v:=?_) (a' := ?_) #[true, false, false, false, false, false, false, false, false, false, false, false, false, false, false, false, false, false, false, false, false, false, false, false] rfl rfl (any_of HT_.out (by kernel_rfl)) (fun _ _ _ h => h) (Or.inl ⟨by rfl, ?_⟩) ?_ ?_
                     rotate_left
                     ·intro w'
                      go_simp
                      with_reducible rfl
                     rotate_left
                     ·simp only [Act.put, sa6, sz6, ss6, i64_w, i32_w]
                      rfl
                     refine pure_ (i:=1) (N:=some 97) (v:=?_) (a' := ?_) #[true, true, false, false, false, false, false, false, false, false, false, false, false, false, false, false, false, false, false, false, false, false, false, false] rfl rfl (any_of HT_.out (by kernel_rfl)) (fun _ _ _ h => h) (Or.inl ⟨by rfl, ?_⟩) ?_ ?_
                     rotate_left
                     ·intro w'
                      go_simp
                      with_reducible rfl
                     rotate_left
                     ·simp only [Act.put, sa6, sz6, ss6, i64_w, i32_w]
                      rfl
                     refine pure_ (i:=2) (N:=some 98) (v:=?_) (a' := ?_) #[true, true, true, false, false, false, false, false, false, false, false, false, false, false, false, false, false, false, false, false, false, false, false, false] rfl rfl (any_of HT_.out (by kernel_rfl)) (fun _ _ _ h => h) (Or.inl ⟨by rfl, ?_⟩) ?_ ?_
                     rotate_left
                     ·intro w'
                      go_simp
                      with_reducible rfl
                     rotate_left
                     ·simp only [Act.put, sa6, sz6, ss6, i64_w, i32_w]
                      rfl
                     refine pure_ (i:=3) (N:=some 99) (v:=?_) (a' := ?_) #[true, true, true, true, false, false, false, false, false, false, false, false, false, false, false, false, false, false, false, false, false, false, false, false] rfl rfl (any_of HT_.out (by kernel_rfl)) (fun _ _ _ h => h) (Or.inl ⟨by rfl, ?_⟩) ?_ ?_
                     rotate_left
                     ·intro w'
                      go_simp
                      with_reducible rfl
                     rotate_left
                     ·simp only [Act.put, sa6, sz6, ss6, i64_w, i32_w]
                      rfl
                     refine pure_ (i:=4) (N:=some 100) (v:=?_) (a' := ?_) #[true, true, true, true, true, false, false, false, false, false, false, false, false, false, false, false, false, false, false, false, false, false, false, false] rfl rfl (any_of HT_.out (by kernel_rfl)) (fun _ _ _ h => h) (Or.inl ⟨by rfl, ?_⟩) ?_ ?_
                     rotate_left
                     ·intro w'
                      go_simp
                      with_reducible rfl
                     rotate_left
                     ·simp only [Act.put, sa6, sz6, ss6, i64_w, i32_w]
                      rfl
                     refine pure_ (i:=5) (N:=some 101) (v:=?_) (a' := ?_) #[true, true, true, true, true, true, false, false, false, false, false, false, false, false, false, false, false, false, false, false, false, false, false, false] rfl rfl (any_of HT_.out (by kernel_rfl)) (fun _ _ _ h => h) (Or.inl ⟨by rfl, ?_⟩) ?_ ?_
                     rotate_left
                     ·intro w'
                      go_simp
                      with_reducible rfl
                     rotate_left
                     ·simp only [Act.put, sa6, sz6, ss6, i64_w, i32_w]
                      rfl
                     refine pure_ (i:=6) (N:=some 102) (v:=?_) (a' := ?_) #[true, true, true, true, true, true, true, false, false, false, false, false, false, false, false, false, false, false, false, false, false, false, false, false] rfl rfl (any_of HT_.out (by kernel_rfl)) (fun _ _ _ h => h) (Or.inl ⟨by rfl, ?_⟩) ?_ ?_
                     rotate_left
                     ·intro w'
                      go_simp
                      with_reducible rfl
                     rotate_left
                     ·simp only [Act.put, sa6, sz6, ss6, i64_w, i32_w]
                      rfl
                     refine pure_ (i:=7) (N:=some 103) (v:=?_) (a' := ?_) #[true, true, true, true, true, true, true, true, false, false, false, false, false, false, false, false, false, false, false, false, false, false, false, false] rfl rfl (any_of HT_.out (by kernel_rfl)) (fun _ _ _ h => h) (Or.inl ⟨by rfl, ?_⟩) ?_ ?_
                     rotate_left
                     ·intro w'
                      go_simp
                      with_reducible rfl
                     rotate_left
                     ·simp only [Act.put, sa6, sz6, ss6, i64_w, i32_w]
                      rfl
                     refine pure_ (i:=8) (N:=some 104) (v:=?_) (a' := ?_) #[true, true, true, true, true, true, true, true, true, false, false, false, false, false, false, false, false, false, false, false, false, false, false, false] rfl rfl (any_of HT_.out (by kernel_rfl)) (fun _ _ _ h => h) (Or.inl ⟨by rfl, ?_⟩) ?_ ?_
                     rotate_left
                     ·intro w'
                      go_simp
                      with_reducible rfl
                     rotate_left
                     ·simp only [Act.put, sa6, sz6, ss6, i64_w, i32_w]
                      rfl
                     refine pure_ (i:=9) (N:=some 105) (v:=?_) (a' := ?_) #[true, true, true, true, true, true, true, true, true, true, false, false, false, false, false, false, false, false, false, false, false, false, false, false] rfl rfl (any_of HT_.out (by kernel_rfl)) (fun _ _ _ h => h) (Or.inl ⟨by rfl, ?_⟩) ?_ ?_
                     rotate_left
                     ·intro w'
                      go_simp
                      with_reducible rfl
                     rotate_left
                     ·simp only [Act.put, sa6, sz6, ss6, i64_w, i32_w]
                      rfl
                     refine pure_ (i:=10) (N:=some 106) (v:=?_) (a' := ?_) #[true, true, true, true, true, true, true, true, true, true, true, false, false, false, false, false, false, false, false, false, false, false, false, false] rfl rfl (any_of HT_.out (by kernel_rfl)) (fun _ _ _ h => h) (Or.inl ⟨by rfl, ?_⟩) ?_ ?_
                     rotate_left
                     ·intro w'
                      go_simp
                      with_reducible rfl
                     rotate_left
                     ·simp only [Act.put, sa6, sz6, ss6, i64_w, i32_w]
                      rfl
                     refine pure_ (i:=11) (N:=some 107) (v:=undef) (a' := ?_) #[true, true, true, true, true, true, true, true, true, true, true, true, false, false, false, false, false, false, false, false, false, false, false, false] rfl rfl (any_of HT_.out (by kernel_rfl)) (fun _ _ _ h => h) (Or.inr ⟨by rfl, rfl⟩) ?_ ?_
                     rotate_left
                     ·simp only [Act.put, sa6, sz6, ss6, i64_w, i32_w]
                      rfl
                     refine pure_ (i:=12) (N:=some 108) (v:=?_) (a' := ?_) #[true, true, true, true, true, true, true, true, true, true, true, true, true, false, false, false, false, false, false, false, false, false, false, false] rfl rfl (any_of HT_.out (by kernel_rfl)) (fun _ _ _ h => h) (Or.inl ⟨by rfl, ?_⟩) ?_ ?_
                     rotate_left
                     ·intro w'
                      go_simp
                      with_reducible rfl
                     rotate_left
                     ·simp only [Act.put, sa6, sz6, ss6, i64_w, i32_w]
                      rfl
                     refine pure_ (i:=13) (N:=some 109) (v:=?_) (a' := ?_) #[true, true, true, true, true, true, true, true, true, true, true, true, true, true, false, false, false, false, false, false, false, false, false, false] rfl rfl (any_of HT_.out (by kernel_rfl)) (fun _ _ _ h => h) (Or.inl ⟨by rfl, ?_⟩) ?_ ?_
                     rotate_left
                     ·intro w'
                      go_simp
                      with_reducible rfl
                     rotate_left
                     ·simp only [Act.put, sa6, sz6, ss6, i64_w, i32_w]
                      rfl
                     refine pure_ (i:=14) (N:=some 110) (v:=?_) (a' := ?_) #[true, true, true, true, true, true, true, true, true, true, true, true, true, true, true, false, false, false, false, false, false, false, false, false] rfl rfl (any_of HT_.out (by kernel_rfl)) (fun _ _ _ h => h) (Or.inl ⟨by rfl, ?_⟩) ?_ ?_
                     rotate_left
                     ·intro w'
                      go_simp
                      with_reducible rfl
                     rotate_left
                     ·simp only [Act.put, sa6, sz6, ss6, i64_w, i32_w]
                      rfl
                     refine pure_ (i:=16) (N:=some 112) (v:=?_) (a' := ?_) #[true, true, true, true, true, true, true, true, true, true, true, true, true, true, true, false, true, false, false, false, false, false, false, false] rfl rfl (any_of HT_.out (by kernel_rfl)) (fun _ _ _ h => h) (Or.inl ⟨by rfl, ?_⟩) ?_ ?_
                     rotate_left
                     ·intro w'
                      go_simp
                      with_reducible rfl
                     rotate_left
                     ·simp only [Act.put, sa6, sz6, ss6, i64_w, i32_w]
                      rfl
                     refine pure_ (i:=17) (N:=some 113) (v:=?_) (a' := ?_) #[true, true, true, true, true, true, true, true, true, true, true, true, true, true, true, false, true, true, false, false, false, false, false, false] rfl rfl (any_of HT_.out (by kernel_rfl)) (fun _ _ _ h => h) (Or.inl ⟨by rfl, ?_⟩) ?_ ?_
                     rotate_left
                     ·intro w'
                      go_simp
                      with_reducible rfl
                     rotate_left
                     ·simp only [Act.put, sa6, sz6, ss6, i64_w, i32_w]
                      rfl
                     refine pure_ (i:=18) (N:=some 114) (v:=?_) (a' := ?_) #[true, true, true, true, true, true, true, true, true, true, true, true, true, true, true, false, true, true, true, false, false, false, false, false] rfl rfl (any_of HT_.out (by kernel_rfl)) (fun _ _ _ h => h) (Or.inl ⟨by rfl, ?_⟩) ?_ ?_
                     rotate_left
                     ·intro w'
                      go_simp
                      with_reducible rfl
                     rotate_left
                     ·simp only [Act.put, sa6, sz6, ss6, i64_w, i32_w]
                      rfl
                     refine take_ (i:=15) (N:=some 111) (v:=?_) (a' := ?_) #[true, true, true, true, true, true, true, true, true, true, true, true, true, true, true, true, true, true, true, false, false, false, false, false] rfl rfl (take_ofW HT_.out HW_.out (by kernel_rfl)) (fun _ _ _ h => h) (Or.inl ⟨by rfl, ?_⟩) hHeld ?_ ?_
                     rotate_left
                     ·rintro w' ⟨s0, s1, s2⟩
                      go_simp
                      with_reducible rfl
                     rotate_left
                     ·simp only [Act.put, sa6, sz6, ss6, i64_w, i32_w]
                      rfl
                     refine take_ (i:=19) (N:=some 115) (v:=?_) (a' := ?_) #[true, true, true, true, true, true, true, true, true, true, true, true, true, true, true, true, true, true, true, true, false, false, false, false] rfl rfl (take_ofW HT_.out HW_.out (by kernel_rfl)) (fun _ _ _ h => h) (Or.inl ⟨by rfl, ?_⟩) hHeld ?_ ?_
                     rotate_left
                     ·rintro w' ⟨s0, s1, s2⟩
                      go_simp
                      with_reducible rfl
                     rotate_left
                     ·simp only [Act.put, sa6, sz6, ss6, i64_w, i32_w]
                      rfl
                     refine one_ (i:=20) (N:=some 116) #[true, true, true, true, true, true, true, true, true, true, true, true, true, true, true, true, true, true, true, true, true, false, false, false] rfl rfl (one_of HT_.out (by kernel_rfl)) (by decide) (fun K hK => ?_)
                     refine goes_ Try.func20 (by kernel_rfl) rfl #[.agg #[.string t209, .string t210], .string (rdOf ByteArray.empty l3 x12_3)] (by rfl) rfl rfl (by (try simp only [ma6, mc6, mn6]); first | done | rfl | (simp only [ld6, lt_6]; rfl)) ?_
                     with_reducible refine (span_Has.calls k4 t209 t210 (rdOf ByteArray.empty l3 x12_3) t230 _ A104.out).mono ?_
                     rintro e w111 ⟨rfl, hb⟩
                     refine ⟨_, rfl, ?_⟩
                     have n0_ := Am6 (Rb6 (by (with_reducible repeat first | apply Ra6 | apply Rn6 | apply Rd6); exact HO_9.out) hb)
                     have n1_ := Am6 (kb6 (g:=gb195) (o:=.cells #[.string a0_0, .string a0_1] 26 (0, 0)) (by (with_reducible repeat first | apply kn6 | apply kd6 | apply ka6); exact BK195.out) hb)
                     have n2_ := Am6 (kb6 (g:=gb196) (o:=.cells #[.string a1_0, .string a1_1] 26 (0, 0)) (by (with_reducible repeat first | apply kn6 | apply kd6 | apply ka6); exact BK196.out) hb)
                     have n3_ := Am6 (kb6 (g:=gb212) (o:=.cells #[.string t209, .string t210] 26 (0, 0)) (by (with_reducible repeat first | apply kn6 | apply kd6 | apply ka6); exact BK212.out) hb)
                     have n4_ := Am6 (bp6 (by repeat (first | (with_reducible first | exact HB.out | apply ba6 | apply bn6 | apply bd6 | refine bs6 ?_ GE195.out | refine bs6 ?_ GE196.out | refine bs6 ?_ GE212.out) | exact HB.out)) hb)
                     clear HO_9
                     clear BK195
                     clear BK196
                     clear BK212
                     clear HB
                     have HO_9 := n0_
                     have BK195 := n1_
                     have BK196 := n2_
                     have BK212 := n3_
                     have HB := n4_
                     clear n0_ n1_ n2_ n3_ n4_
                     (try clear hb)
                     (try clear hb2)
                     (try clear hk)
                     (try clear hi)
                     refine hK.out _ _ ⟨(kc6 BK212.out 0).trans rfl, (kc6 BK212.out 1).trans rfl, ((HB.out.cell (World.block_lt_of_cell? w _ hw229_0)).trans hw229_0)⟩ (fun hHeld => ?_)
                     clear hK K
                     refine norm_ (a' := ?_) ?_ ?_
                     rotate_left
                     ·show Act.put _ (some 116) _ = _
                      simp only [Act.put, sa6, sz6, ss6, i64_w, i32_w]
                      rfl
                     refine pure_ (i:=21) (N:=some 117) (v:=?_) (a' := ?_) #[true, true, true, true, true, true, true, true, true, true, true, true, true, true, true, true, true, true, true, true, true, true, false, false] rfl rfl (any_of HT_.out (by kernel_rfl)) (fun _ _ _ h => h) (Or.inl ⟨by rfl, ?_⟩) ?_ ?_
                     rotate_left
                     ·intro w'
                      go_simp
                      with_reducible rfl
                     rotate_left
                     ·simp only [Act.put, sa6, sz6, ss6, i64_w, i32_w]
                      rfl
                     refine pure_ (i:=22) (N:=some 118) (v:=?_) (a' := ?_) #[true, true, true, true, true, true, true, true, true, true, true, true, true, true, true, true, true, true, true, true, true, true, true, false] rfl rfl (any_of HT_.out (by kernel_rfl)) (fun _ _ _ h => h) (Or.inl ⟨by rfl, ?_⟩) ?_ ?_
                     rotate_left
                     ·intro w'
                      go_simp
                      with_reducible rfl
                     rotate_left
                     ·simp only [Act.put, sa6, sz6, ss6, i64_w, i32_w]
                      rfl
                     refine pure_ (i:=23) (N:=some 119) (v:=?_) (a' := ?_) #[true, true, true, true, true, true, true, true, true, true, true, true, true, true, true, true, true, true, true, true, true, true, true, true] rfl rfl (any_of HT_.out (by kernel_rfl)) (fun _ _ _ h => h) (Or.inl ⟨by rfl, ?_⟩) ?_ ?_
                     rotate_left
                     ·intro w'
                      go_simp
                      with_reducible rfl
                     rotate_left
                     ·simp only [Act.put, sa6, sz6, ss6, i64_w, i32_w]
                      rfl
                     refine done_ (done_of HT_.out (by kernel_rfl)) ?_
                     try go_wp2
                     go_roundg k4
                     case measure => have := HJ6.out; have := HJ31.out; have := HK3.out; have := HK4.out; omega
                     case rel => exact ⟨(wrap64 (x12_3 + 1)), (by first | rfl | (simp; done) | (simp [*]; done)), H', ⟨by have := HJ6.out; have := HJ31.out; have := HK3.out; have := HK4.out; omega⟩, ⟨by (with_reducible repeat first | apply Ra6 | apply Rn6 | apply Rd6); exact HO_9.out⟩, ⟨by (with_reducible repeat first | apply kn6 | apply kd6 | apply ka6); exact BK195.out⟩, ⟨by (with_reducible repeat first | apply kn6 | apply kd6 | apply ka6); exact BK196.out⟩, ⟨by (with_reducible repeat first | apply kn6 | apply kd6 | apply ka6); exact BK212.out⟩, ⟨by repeat (first | (with_reducible first | exact HB.out | apply ba6 | apply bn6 | apply bd6 | refine bs6 ?_ GE195.out | refine bs6 ?_ GE196.out | refine bs6 ?_ GE212.out) | exact HB.out)⟩⟩
                   ·replace c103 := Bool.eq_false_iff.mpr c103
                    subst c103
                    rw [if_neg (show ¬ (false = true) by decide)] at H
                    by_cases c112 : (false != false) = true
                    ·rw [if_pos c112] at H
                     exact absurd H (by simp)
                    ·rw [if_neg c112] at H
                     have c112b0 : (false != false) = false := by first | decide | simpa using c112
                     (try (have c112b1 : decide (false = false) = true := by first | decide | simpa using c112))
                     (try (have c112b2 : (false == false) = true := by first | decide | simpa using c112))
                     clear c112
                     have H' := Am6 H
                     clear H
                     obtain ⟨Ao113, co113, eo113⟩ := Kd.R_slice HO_9.out
                     subst eo113
                     try go_wp2
                     have n0_ := Am6 (Rd6 HO_9.out)
                     have n1_ := Am6 (kd6 BK195.out)
                     have n2_ := Am6 (kd6 BK196.out)
                     have n3_ := Am6 (kd6 BK212.out)
                     have n4_ := Am6 (bd6 HB.out)
                     clear HO_9
                     clear BK195
                     clear BK196
                     clear BK212
                     clear HB
                     have HO_9 := n0_
                     have BK195 := n1_
                     have BK196 := n2_
                     have BK212 := n3_
                     have HB := n4_
                     clear n0_ n1_ n2_ n3_ n4_
                     have p223 : 0 ≤ (x12_3 : Int) := of_decide_eq_true (by first | (with_reducible assumption) | assumption)
                     have q223 : x12_3 < (l3.length : Int) := of_decide_eq_true (by first | (with_reducible assumption) | assumption)
                     obtain ⟨ad223, e223, hx223_0⟩ := Kd.at_string HR3.out x12_3 p223 q223
                     have hw223_0 := hx223_0
                     cases e223
                     replace hx223_0 := (HB.out.cell (World.block_lt_of_cell? w _ hx223_0)).trans hx223_0
                     replace p223 := eq_true p223
                     replace q223 := eq_true q223
                     have p225 : 0 ≤ (x12_3 : Int) := of_decide_eq_true (by first | (with_reducible assumption) | assumption)
                     have q225 : x12_3 < (l3.length : Int) := of_decide_eq_true (by first | (with_reducible assumption) | assumption)
                     obtain ⟨ad225, e225, hx225_0⟩ := Kd.at_string HR3.out x12_3 p225 q225
                     have hw225_0 := hx225_0
                     obtain rfl : ad223 = ad225 := (by injection e225)
                     replace hx225_0 := (HB.out.cell (World.block_lt_of_cell? w _ hx225_0)).trans hx225_0
                     replace p225 := eq_true p225
                     replace q225 := eq_true q225
                     refine start_ (n:=14) (S:=fun w' => w'.cell? ⟨gb195, 0, none⟩ = some (.string a0_0) ∧ w'.cell? ⟨gb195, 1, none⟩ = some (.string a0_1) ∧ w'.cell? ⟨gb196, 0, none⟩ = some (.string a1_0) ∧ w'.cell? ⟨gb196, 1, none⟩ = some (.string a1_1) ∧ w'.cell? (ad223.add (x12_3).toNat) = some (.string (rdOf ByteArray.empty l3 x12_3)) ∧ w'.cell? (ad223.add (x12_3).toNat) = some (.string (rdOf ByteArray.empty l3 x12_3))) (ds:=[]) #[false, false, false, false, false, false, false, false, false, false, false, false, false, false] (by kernel_rfl) rfl rfl ⟨(kc6 BK195.out 0).trans rfl, (kc6 BK195.out 1).trans rfl, (kc6 BK196.out 0).trans rfl, (kc6 BK196.out 1).trans rfl, ((HB.out.cell (World.block_lt_of_cell? w _ hw223_0)).trans hw223_0), ((HB.out.cell (World.block_lt_of_cell? w _ hw225_0)).trans hw225_0)⟩ (fun hHeld => ?_); refine with_tabW watershedlaw04_SpanCuts.tab18 watershedlaw04_SpanCuts.bits18 (fun HT_ HW_ => ?_)
                     generalize wr.drew = w114 at HO_9 BK195 BK196 BK212 HB hx223_0 hx225_0 hHeld ⊢
                     refine pure_ (i:=1) (N:=some 85) (v:=?_) (a' := ?_) #[false, true, false, false, false, false, false, false, false, false, false, false, false, false] rfl rfl (any_of HT_.out (by kernel_rfl)) (fun _ _ _ h => h) (Or.inl ⟨by rfl, ?_⟩) ?_ ?_
                     rotate_left
                     ·intro w'
                      go_simp
                      with_reducible rfl
                     rotate_left
                     ·simp only [Act.put, sa6, sz6, ss6, i64_w, i32_w]
                      rfl
                     refine pure_ (i:=2) (N:=some 86) (v:=?_) (a' := ?_) #[false, true, true, false, false, false, false, false, false, false, false, false, false, false] rfl rfl (any_of HT_.out (by kernel_rfl)) (fun _ _ _ h => h) (Or.inl ⟨by rfl, ?_⟩) ?_ ?_
                     rotate_left
                     ·intro w'
                      go_simp
                      with_reducible rfl
                     rotate_left
                     ·simp only [Act.put, sa6, sz6, ss6, i64_w, i32_w]
                      rfl
                     refine pure_ (i:=3) (N:=some 87) (v:=?_) (a' := ?_) #[false, true, true, true, false, false, false, false, false, false, false, false, false, false] rfl rfl (any_of HT_.out (by kernel_rfl)) (fun _ _ _ h => h) (Or.inl ⟨by rfl, ?_⟩) ?_ ?_
                     rotate_left
                     ·intro w'
                      go_simp
                      with_reducible rfl
                     rotate_left
                     ·simp only [Act.put, sa6, sz6, ss6, i64_w, i32_w]
                      rfl
                     refine pure_ (i:=7) (N:=some 91) (v:=?_) (a' := ?_) #[false, true, true, true, false, false, false, true, false, false, false, false, false, false] rfl rfl (any_of HT_.out (by kernel_rfl)) (fun _ _ _ h => h) (Or.inl ⟨by rfl, ?_⟩) ?_ ?_
                     rotate_left
                     ·intro w'
                      go_simp
                      with_reducible rfl
                     rotate_left
                     ·simp only [Act.put, sa6, sz6, ss6, i64_w, i32_w]
                      rfl
                     refine pure_ (i:=8) (N:=some 92) (v:=?_) (a' := ?_) #[false, true, true, true, false, false, false, true, true, false, false, false, false, false] rfl rfl (any_of HT_.out (by kernel_rfl)) (fun _ _ _ h => h) (Or.inl ⟨by rfl, ?_⟩) ?_ ?_
                     rotate_left
                     ·intro w'
                      go_simp
                      with_reducible rfl
                     rotate_left
                     ·simp only [Act.put, sa6, sz6, ss6, i64_w, i32_w]
                      rfl
                     refine pure_ (i:=9) (N:=some 93) (v:=?_) (a' := ?_) #[false, true, true, true, false, false, false, true, true, true, false, false, false, false] rfl rfl (any_of HT_.out (by kernel_rfl)) (fun _ _ _ h => h) (Or.inl ⟨by rfl, ?_⟩) ?_ ?_
                     rotate_left
                     ·intro w'
                      go_simp
                      with_reducible rfl
                     rotate_left
                     ·simp only [Act.put, sa6, sz6, ss6, i64_w, i32_w]
                      rfl
                     refine take_ (i:=0) (N:=some 84) (v:=?_) (a' := ?_) #[true, true, true, true, false, false, false, true, true, true, false, false, false, false] rfl rfl (take_ofW HT_.out HW_.out (by kernel_rfl)) (fun _ _ _ h => h) (Or.inl ⟨by rfl, ?_⟩) hHeld ?_ ?_
                     rotate_left
                     ·rintro w' ⟨s0, s1, s2, s3, s4, s5⟩
                      go_simp
                      with_reducible rfl
                     rotate_left
                     ·simp only [Act.put, sa6, sz6, ss6, i64_w, i32_w]
                      rfl
                     refine take_ (i:=4) (N:=some 88) (v:=?_) (a' := ?_) #[true, true, true, true, true, false, false, true, true, true, false, false, false, false] rfl rfl (take_ofW HT_.out HW_.out (by kernel_rfl)) (fun _ _ _ h => h) (Or.inl ⟨by rfl, ?_⟩) hHeld ?_ ?_
                     rotate_left
                     ·rintro w' ⟨s0, s1, s2, s3, s4, s5⟩
                      go_simp
                      with_reducible rfl
                     rotate_left
                     ·simp only [Act.put, sa6, sz6, ss6, i64_w, i32_w]
                      rfl
                     refine take_ (i:=6) (N:=some 90) (v:=?_) (a' := ?_) #[true, true, true, true, true, false, true, true, true, true, false, false, false, false] rfl rfl (take_ofW HT_.out HW_.out (by kernel_rfl)) (fun _ _ _ h => h) (Or.inl ⟨by rfl, ?_⟩) hHeld ?_ ?_
                     rotate_left
                     ·rintro w' ⟨s0, s1, s2, s3, s4, s5⟩
                      go_simp
                      with_reducible rfl
                     rotate_left
                     ·simp only [Act.put, sa6, sz6, ss6, i64_w, i32_w]
                      rfl
                     refine take_ (i:=10) (N:=some 94) (v:=?_) (a' := ?_) #[true, true, true, true, true, false, true, true, true, true, true, false, false, false] rfl rfl (take_ofW HT_.out HW_.out (by kernel_rfl)) (fun _ _ _ h => h) (Or.inl ⟨by rfl, ?_⟩) hHeld ?_ ?_
                     rotate_left
                     ·rintro w' ⟨s0, s1, s2, s3, s4, s5⟩
                      go_simp
                      with_reducible rfl
                     rotate_left
                     ·simp only [Act.put, sa6, sz6, ss6, i64_w, i32_w]
                      rfl
                     refine one_ (i:=5) (N:=some 89) #[true, true, true, true, true, true, true, true, true, true, true, false, false, false] rfl rfl (one_of HT_.out (by kernel_rfl)) (by decide) (fun K hK => ?_)
                     refine goes_ Try.func20 (by kernel_rfl) rfl #[.agg #[.string a0_0, .string a0_1], .string (rdOf ByteArray.empty l3 x12_3)] (by rfl) rfl rfl (by (try simp only [ma6, mc6, mn6]); first | done | rfl | (simp only [ld6, lt_6]; rfl)) ?_
                     with_reducible refine (span_Has.calls k4 a0_0 a0_1 (rdOf ByteArray.empty l3 x12_3) false _ A83.out).mono ?_
                     rintro e w115 ⟨rfl, hb⟩
                     refine ⟨_, rfl, ?_⟩
                     have n0_ := Am6 (Rb6 (by (with_reducible repeat first | apply Ra6 | apply Rn6 | apply Rd6); exact HO_9.out) hb)
                     have n1_ := Am6 (kb6 (g:=gb195) (o:=.cells #[.string a0_0, .string a0_1] 26 (0, 0)) (by (with_reducible repeat first | apply kn6 | apply kd6 | apply ka6); exact BK195.out) hb)
                     have n2_ := Am6 (kb6 (g:=gb196) (o:=.cells #[.string a1_0, .string a1_1] 26 (0, 0)) (by (with_reducible repeat first | apply kn6 | apply kd6 | apply ka6); exact BK196.out) hb)
                     have n3_ := Am6 (kb6 (g:=gb212) (o:=.cells #[.string t209, .string t210] 26 (0, 0)) (by (with_reducible repeat first | apply kn6 | apply kd6 | apply ka6); exact BK212.out) hb)
                     have n4_ := Am6 (bp6 (by repeat (first | (with_reducible first | exact HB.out | apply ba6 | apply bn6 | apply bd6 | refine bs6 ?_ GE195.out | refine bs6 ?_ GE196.out | refine bs6 ?_ GE212.out) | exact HB.out)) hb)
                     clear HO_9
                     clear BK195
                     clear BK196
                     clear BK212
                     clear HB
                     have HO_9 := n0_
                     have BK195 := n1_
                     have BK196 := n2_
                     have BK212 := n3_
                     have HB := n4_
                     clear n0_ n1_ n2_ n3_ n4_
                     (try clear hb)
                     (try clear hb2)
                     (try clear hk)
                     (try clear hi)
                     refine hK.out _ _ ⟨(kc6 BK195.out 0).trans rfl, (kc6 BK195.out 1).trans rfl, (kc6 BK196.out 0).trans rfl, (kc6 BK196.out 1).trans rfl, ((HB.out.cell (World.block_lt_of_cell? w _ hw223_0)).trans hw223_0), ((HB.out.cell (World.block_lt_of_cell? w _ hw225_0)).trans hw225_0)⟩ (fun hHeld => ?_)
                     clear hK K
                     refine norm_ (a' := ?_) ?_ ?_
                     rotate_left
                     ·show Act.put _ (some 89) _ = _
                      simp only [Act.put, sa6, sz6, ss6, i64_w, i32_w]
                      rfl
                     refine one_ (i:=11) (N:=some 95) #[true, true, true, true, true, true, true, true, true, true, true, true, false, false] rfl rfl (one_of HT_.out (by kernel_rfl)) (by decide) (fun K hK => ?_)
                     refine goes_ Try.func20 (by kernel_rfl) rfl #[.agg #[.string a1_0, .string a1_1], .string (rdOf ByteArray.empty l3 x12_3)] (by rfl) rfl rfl (by (try simp only [ma6, mc6, mn6]); first | done | rfl | (simp only [ld6, lt_6]; rfl)) ?_
                     with_reducible refine (span_Has.calls k4 a1_0 a1_1 (rdOf ByteArray.empty l3 x12_3) t226 _ A84.out).mono ?_
                     rintro e w116 ⟨rfl, hb⟩
                     refine ⟨_, rfl, ?_⟩
                     have n0_ := Am6 (Rb6 (by (with_reducible repeat first | apply Ra6 | apply Rn6 | apply Rd6); exact HO_9.out) hb)
                     have n1_ := Am6 (kb6 (g:=gb195) (o:=.cells #[.string a0_0, .string a0_1] 26 (0, 0)) (by (with_reducible repeat first | apply kn6 | apply kd6 | apply ka6); exact BK195.out) hb)
                     have n2_ := Am6 (kb6 (g:=gb196) (o:=.cells #[.string a1_0, .string a1_1] 26 (0, 0)) (by (with_reducible repeat first | apply kn6 | apply kd6 | apply ka6); exact BK196.out) hb)
                     have n3_ := Am6 (kb6 (g:=gb212) (o:=.cells #[.string t209, .string t210] 26 (0, 0)) (by (with_reducible repeat first | apply kn6 | apply kd6 | apply ka6); exact BK212.out) hb)
                     have n4_ := Am6 (bp6 (by repeat (first | (with_reducible first | exact HB.out | apply ba6 | apply bn6 | apply bd6 | refine bs6 ?_ GE195.out | refine bs6 ?_ GE196.out | refine bs6 ?_ GE212.out) | exact HB.out)) hb)
                     clear HO_9
                     clear BK195
                     clear BK196
                     clear BK212
                     clear HB
                     have HO_9 := n0_
                     have BK195 := n1_
                     have BK196 := n2_
                     have BK212 := n3_
                     have HB := n4_
                     clear n0_ n1_ n2_ n3_ n4_
                     (try clear hb)
                     (try clear hb2)
                     (try clear hk)
                     (try clear hi)
                     refine hK.out _ _ ⟨(kc6 BK195.out 0).trans rfl, (kc6 BK195.out 1).trans rfl, (kc6 BK196.out 0).trans rfl, (kc6 BK196.out 1).trans rfl, ((HB.out.cell (World.block_lt_of_cell? w _ hw223_0)).trans hw223_0), ((HB.out.cell (World.block_lt_of_cell? w _ hw225_0)).trans hw225_0)⟩ (fun hHeld => ?_)
                     clear hK K
                     refine norm_ (a' := ?_) ?_ ?_
                     rotate_left
                     ·show Act.put _ (some 95) _ = _
                      simp only [Act.put, sa6, sz6, ss6, i64_w, i32_w]
                      rfl
                     refine pure_ (i:=12) (N:=some 15) (v:=?_) (a' := ?_) #[true, true, true, true, true, true, true, true, true, true, true, true, true, false] rfl rfl (any_of HT_.out (by kernel_rfl)) (fun _ _ _ h => h) (Or.inl ⟨by rfl, ?_⟩) ?_ ?_
                     rotate_left
                     ·intro w'
                      go_simp
                      with_reducible rfl
                     rotate_left
                     ·simp only [Act.put, sa6, sz6, ss6, i64_w, i32_w]
                      rfl
                     refine pure_ (i:=13) (N:=some 16) (v:=?_) (a' := ?_) #[true, true, true, true, true, true, true, true, true, true, true, true, true, true] rfl rfl (any_of HT_.out (by kernel_rfl)) (fun _ _ _ h => h) (Or.inl ⟨by rfl, ?_⟩) ?_ ?_
                     rotate_left
                     ·intro w'
                      go_simp
                      with_reducible rfl
                     rotate_left
                     ·simp only [Act.put, sa6, sz6, ss6, i64_w, i32_w]
                      rfl
                     refine done_ (done_of HT_.out (by kernel_rfl)) ?_
                     try go_wp2
                     have n0_ := Am6 (Rd6 HO_9.out)
                     have n1_ := Am6 (kd6 BK195.out)
                     have n2_ := Am6 (kd6 BK196.out)
                     have n3_ := Am6 (kd6 BK212.out)
                     have n4_ := Am6 (bd6 HB.out)
                     clear HO_9
                     clear BK195
                     clear BK196
                     clear BK212
                     clear HB
                     have HO_9 := n0_
                     have BK195 := n1_
                     have BK196 := n2_
                     have BK212 := n3_
                     have HB := n4_
                     clear n0_ n1_ n2_ n3_ n4_
                     refine start_ (n:=24) (S:=fun w' => True) (ds:=[]) #[false, false, false, false, false, false, false, false, false, false, false, false, false, false, false, false, false, false, false, false, false, false, false, false] (by kernel_rfl) rfl rfl trivial (fun hHeld => ?_); refine with_tabW watershedlaw04_SpanCuts.tab19 watershedlaw04_SpanCuts.bits19 (fun HT_ HW_ => ?_)
                     generalize w116.drew = w117 at HO_9 BK195 BK196 BK212 HB hHeld ⊢
                     refine pure_ (i:=0) (N:=some 96) (v:=?_) (a' := ?_) #[true, false, false, false, false, false, false, false, false, false, false, false, false, false, false, false, false, false, false, false, false, false, false, false] rfl rfl (any_of HT_.out (by kernel_rfl)) (fun _ _ _ h => h) (Or.inl ⟨by rfl, ?_⟩) ?_ ?_
                     rotate_left
                     ·intro w'
                      go_simp
                      with_reducible rfl
                     rotate_left
                     ·simp only [Act.put, sa6, sz6, ss6, i64_w, i32_w]
                      rfl
                     refine pure_ (i:=1) (N:=some 97) (v:=?_) (a' := ?_) #[true, true, false, false, false, false, false, false, false, false, false, false, false, false, false, false, false, false, false, false, false, false, false, false] rfl rfl (any_of HT_.out (by kernel_rfl)) (fun _ _ _ h => h) (Or.inl ⟨by rfl, ?_⟩) ?_ ?_
                     rotate_left
                     ·intro w'
                      go_simp
                      with_reducible rfl
                     rotate_left
                     ·simp only [Act.put, sa6, sz6, ss6, i64_w, i32_w]
                      rfl
                     refine pure_ (i:=2) (N:=some 98) (v:=?_) (a' := ?_) #[true, true, true, false, false, false, false, false, false, false, false, false, false, false, false, false, false, false, false, false, false, false, false, false] rfl rfl (any_of HT_.out (by kernel_rfl)) (fun _ _ _ h => h) (Or.inl ⟨by rfl, ?_⟩) ?_ ?_
                     rotate_left
                     ·intro w'
                      go_simp
                      with_reducible rfl
                     rotate_left
                     ·simp only [Act.put, sa6, sz6, ss6, i64_w, i32_w]
                      rfl
                     refine pure_ (i:=3) (N:=some 99) (v:=?_) (a' := ?_) #[true, true, true, true, false, false, false, false, false, false, false, false, false, false, false, false, false, false, false, false, false, false, false, false] rfl rfl (any_of HT_.out (by kernel_rfl)) (fun _ _ _ h => h) (Or.inl ⟨by rfl, ?_⟩) ?_ ?_
                     rotate_left
                     ·intro w'
                      go_simp
                      with_reducible rfl
                     rotate_left
                     ·simp only [Act.put, sa6, sz6, ss6, i64_w, i32_w]
                      rfl
                     refine pure_ (i:=4) (N:=some 100) (v:=?_) (a' := ?_) #[true, true, true, true, true, false, false, false, false, false, false, false, false, false, false, false, false, false, false, false, false, false, false, false] rfl rfl (any_of HT_.out (by kernel_rfl)) (fun _ _ _ h => h) (Or.inl ⟨by rfl, ?_⟩) ?_ ?_
                     rotate_left
                     ·intro w'
                      go_simp
                      with_reducible rfl
                     rotate_left
                     ·simp only [Act.put, sa6, sz6, ss6, i64_w, i32_w]
                      rfl
                     refine pure_ (i:=5) (N:=some 101) (v:=?_) (a' := ?_) #[true, true, true, true, true, true, false, false, false, false, false, false, false, false, false, false, false, false, false, false, false, false, false, false] rfl rfl (any_of HT_.out (by kernel_rfl)) (fun _ _ _ h => h) (Or.inl ⟨by rfl, ?_⟩) ?_ ?_
                     rotate_left
                     ·intro w'
                      go_simp
                      with_reducible rfl
                     rotate_left
                     ·simp only [Act.put, sa6, sz6, ss6, i64_w, i32_w]
                      rfl
                     refine pure_ (i:=6) (N:=some 102) (v:=?_) (a' := ?_) #[true, true, true, true, true, true, true, false, false, false, false, false, false, false, false, false, false, false, false, false, false, false, false, false] rfl rfl (any_of HT_.out (by kernel_rfl)) (fun _ _ _ h => h) (Or.inl ⟨by rfl, ?_⟩) ?_ ?_
                     rotate_left
                     ·intro w'
                      go_simp
                      with_reducible rfl
                     rotate_left
                     ·simp only [Act.put, sa6, sz6, ss6, i64_w, i32_w]
                      rfl
                     refine pure_ (i:=7) (N:=some 103) (v:=?_) (a' := ?_) #[true, true, true, true, true, true, true, true, false, false, false, false, false, false, false, false, false, false, false, false, false, false, false, false] rfl rfl (any_of HT_.out (by kernel_rfl)) (fun _ _ _ h => h) (Or.inl ⟨by rfl, ?_⟩) ?_ ?_
                     rotate_left
                     ·intro w'
                      go_simp
                      with_reducible rfl
                     rotate_left
                     ·simp only [Act.put, sa6, sz6, ss6, i64_w, i32_w]
                      rfl
                     refine pure_ (i:=8) (N:=some 104) (v:=?_) (a' := ?_) #[true, true, true, true, true, true, true, true, true, false, false, false, false, false, false, false, false, false, false, false, false, false, false, false] rfl rfl (any_of HT_.out (by kernel_rfl)) (fun _ _ _ h => h) (Or.inl ⟨by rfl, ?_⟩) ?_ ?_
                     rotate_left
                     ·intro w'
                      go_simp
                      with_reducible rfl
                     rotate_left
                     ·simp only [Act.put, sa6, sz6, ss6, i64_w, i32_w]
                      rfl
                     refine pure_ (i:=9) (N:=some 105) (v:=?_) (a' := ?_) #[true, true, true, true, true, true, true, true, true, true, false, false, false, false, false, false, false, false, false, false, false, false, false, false] rfl rfl (any_of HT_.out (by kernel_rfl)) (fun _ _ _ h => h) (Or.inl ⟨by rfl, ?_⟩) ?_ ?_
                     rotate_left
                     ·intro w'
                      go_simp
                      with_reducible rfl
                     rotate_left
                     ·simp only [Act.put, sa6, sz6, ss6, i64_w, i32_w]
                      rfl
                     refine pure_ (i:=10) (N:=some 106) (v:=?_) (a' := ?_) #[true, true, true, true, true, true, true, true, true, true, true, false, false, false, false, false, false, false, false, false, false, false, false, false] rfl rfl (any_of HT_.out (by kernel_rfl)) (fun _ _ _ h => h) (Or.inl ⟨by rfl, ?_⟩) ?_ ?_
                     rotate_left
                     ·intro w'
                      go_simp
                      with_reducible rfl
                     rotate_left
                     ·simp only [Act.put, sa6, sz6, ss6, i64_w, i32_w]
                      rfl
                     refine pure_ (i:=11) (N:=some 107) (v:=undef) (a' := ?_) #[true, true, true, true, true, true, true, true, true, true, true, true, false, false, false, false, false, false, false, false, false, false, false, false] rfl rfl (any_of HT_.out (by kernel_rfl)) (fun _ _ _ h => h) (Or.inr ⟨by rfl, rfl⟩) ?_ ?_
                     rotate_left
                     ·simp only [Act.put, sa6, sz6, ss6, i64_w, i32_w]
                      rfl
                     refine pure_ (i:=12) (N:=some 108) (v:=?_) (a' := ?_) #[true, true, true, true, true, true, true, true, true, true, true, true, true, false, false, false, false, false, false, false, false, false, false, false] rfl rfl (any_of HT_.out (by kernel_rfl)) (fun _ _ _ h => h) (Or.inl ⟨by rfl, ?_⟩) ?_ ?_
                     rotate_left
                     ·intro w'
                      go_simp
                      with_reducible rfl
                     rotate_left
                     ·simp only [Act.put, sa6, sz6, ss6, i64_w, i32_w]
                      rfl
                     refine pure_ (i:=13) (N:=some 109) (v:=?_) (a' := ?_) #[true, true, true, true, true, true, true, true, true, true, true, true, true, true, false, false, false, false, false, false, false, false, false, false] rfl rfl (any_of HT_.out (by kernel_rfl)) (fun _ _ _ h => h) (Or.inl ⟨by rfl, ?_⟩) ?_ ?_
                     rotate_left
                     ·intro w'
                      go_simp
                      with_reducible rfl
                     rotate_left
                     ·simp only [Act.put, sa6, sz6, ss6, i64_w, i32_w]
                      rfl
                     refine pure_ (i:=14) (N:=some 110) (v:=?_) (a' := ?_) #[true, true, true, true, true, true, true, true, true, true, true, true, true, true, true, false, false, false, false, false, false, false, false, false] rfl rfl (any_of HT_.out (by kernel_rfl)) (fun _ _ _ h => h) (Or.inl ⟨by rfl, ?_⟩) ?_ ?_
                     rotate_left
                     ·intro w'
                      go_simp
                      with_reducible rfl
                     rotate_left
                     ·simp only [Act.put, sa6, sz6, ss6, i64_w, i32_w]
                      rfl
                     refine pure_ (i:=15) (N:=some 111) (v:=undef) (a' := ?_) #[true, true, true, true, true, true, true, true, true, true, true, true, true, true, true, true, false, false, false, false, false, false, false, false] rfl rfl (any_of HT_.out (by kernel_rfl)) (fun _ _ _ h => h) (Or.inr ⟨by rfl, rfl⟩) ?_ ?_
                     rotate_left
                     ·simp only [Act.put, sa6, sz6, ss6, i64_w, i32_w]
                      rfl
                     refine pure_ (i:=16) (N:=some 112) (v:=undef) (a' := ?_) #[true, true, true, true, true, true, true, true, true, true, true, true, true, true, true, true, true, false, false, false, false, false, false, false] rfl rfl (any_of HT_.out (by kernel_rfl)) (fun _ _ _ h => h) (Or.inr ⟨by rfl, rfl⟩) ?_ ?_
                     rotate_left
                     ·simp only [Act.put, sa6, sz6, ss6, i64_w, i32_w]
                      rfl
                     refine pure_ (i:=17) (N:=some 113) (v:=undef) (a' := ?_) #[true, true, true, true, true, true, true, true, true, true, true, true, true, true, true, true, true, true, false, false, false, false, false, false] rfl rfl (any_of HT_.out (by kernel_rfl)) (fun _ _ _ h => h) (Or.inr ⟨by rfl, rfl⟩) ?_ ?_
                     rotate_left
                     ·simp only [Act.put, sa6, sz6, ss6, i64_w, i32_w]
                      rfl
                     refine pure_ (i:=18) (N:=some 114) (v:=undef) (a' := ?_) #[true, true, true, true, true, true, true, true, true, true, true, true, true, true, true, true, true, true, true, false, false, false, false, false] rfl rfl (any_of HT_.out (by kernel_rfl)) (fun _ _ _ h => h) (Or.inr ⟨by rfl, rfl⟩) ?_ ?_
                     rotate_left
                     ·simp only [Act.put, sa6, sz6, ss6, i64_w, i32_w]
                      rfl
                     refine pure_ (i:=19) (N:=some 115) (v:=undef) (a' := ?_) #[true, true, true, true, true, true, true, true, true, true, true, true, true, true, true, true, true, true, true, true, false, false, false, false] rfl rfl (any_of HT_.out (by kernel_rfl)) (fun _ _ _ h => h) (Or.inr ⟨by rfl, rfl⟩) ?_ ?_
                     rotate_left
                     ·simp only [Act.put, sa6, sz6, ss6, i64_w, i32_w]
                      rfl
                     refine pure_ (i:=20) (N:=some 116) (v:=undef) (a' := ?_) #[true, true, true, true, true, true, true, true, true, true, true, true, true, true, true, true, true, true, true, true, true, false, false, false] rfl rfl (any_of HT_.out (by kernel_rfl)) (fun _ _ _ h => h) (Or.inr ⟨by rfl, rfl⟩) ?_ ?_
                     rotate_left
                     ·simp only [Act.put, sa6, sz6, ss6, i64_w, i32_w]
                      rfl
                     refine pure_ (i:=21) (N:=some 117) (v:=?_) (a' := ?_) #[true, true, true, true, true, true, true, true, true, true, true, true, true, true, true, true, true, true, true, true, true, true, false, false] rfl rfl (any_of HT_.out (by kernel_rfl)) (fun _ _ _ h => h) (Or.inl ⟨by rfl, ?_⟩) ?_ ?_
                     rotate_left
                     ·intro w'
                      go_simp
                      with_reducible rfl
                     rotate_left
                     ·simp only [Act.put, sa6, sz6, ss6, i64_w, i32_w]
                      rfl
                     refine pure_ (i:=22) (N:=some 118) (v:=?_) (a' := ?_) #[true, true, true, true, true, true, true, true, true, true, true, true, true, true, true, true, true, true, true, true, true, true, true, false] rfl rfl (any_of HT_.out (by kernel_rfl)) (fun _ _ _ h => h) (Or.inl ⟨by rfl, ?_⟩) ?_ ?_
                     rotate_left
                     ·intro w'
                      go_simp
                      with_reducible rfl
                     rotate_left
                     ·simp only [Act.put, sa6, sz6, ss6, i64_w, i32_w]
                      rfl
                     refine pure_ (i:=23) (N:=some 119) (v:=?_) (a' := ?_) #[true, true, true, true, true, true, true, true, true, true, true, true, true, true, true, true, true, true, true, true, true, true, true, true] rfl rfl (any_of HT_.out (by kernel_rfl)) (fun _ _ _ h => h) (Or.inl ⟨by rfl, ?_⟩) ?_ ?_
                     rotate_left
                     ·intro w'
                      go_simp
                      with_reducible rfl
                     rotate_left
                     ·simp only [Act.put, sa6, sz6, ss6, i64_w, i32_w]
                      rfl
                     refine done_ (done_of HT_.out (by kernel_rfl)) ?_
                     try go_wp2
                     go_roundg k4
                     case measure => have := HJ6.out; have := HJ31.out; have := HK3.out; have := HK4.out; omega
                     case rel => exact ⟨(wrap64 (x12_3 + 1)), (by first | rfl | (simp; done) | (simp [*]; done)), H', ⟨by have := HJ6.out; have := HJ31.out; have := HK3.out; have := HK4.out; omega⟩, ⟨by (with_reducible repeat first | apply Ra6 | apply Rn6 | apply Rd6); exact HO_9.out⟩, ⟨by (with_reducible repeat first | apply kn6 | apply kd6 | apply ka6); exact BK195.out⟩, ⟨by (with_reducible repeat first | apply kn6 | apply kd6 | apply ka6); exact BK196.out⟩, ⟨by (with_reducible repeat first | apply kn6 | apply kd6 | apply ka6); exact BK212.out⟩, ⟨by repeat (first | (with_reducible first | exact HB.out | apply ba6 | apply bn6 | apply bd6 | refine bs6 ?_ GE195.out | refine bs6 ?_ GE196.out | refine bs6 ?_ GE212.out) | exact HB.out)⟩⟩
               ·rw [if_neg c82] at H
                exact absurd H (by simp)
              ·rw [if_neg c81] at H
               exact absurd H (by simp)
          ·rw [if_neg c68] at H
           have c68b0 : decide (x12_3 < (l3.length : Int)) = false := decide_eq_false c68
           clear c68
           have H' := Am6 H
           clear H
           go_wp2
           go_loopg [17] k3 (fun kq v17 w' => ∃ (x17_4 : Int), v17 = .int .i64 x17_4 ∧ Aside0 (watershedlaw04_SpanCuts.l2 kq t206 x17_4 a0_0 a0_1 = some r) ∧ Aside0 (kq ≤ k3) ∧ Aside0 (Kd.R k26 26 w' w.heap.size (fun k_ => k_ ≠ gb195 ∧ k_ ≠ gb196 ∧ k_ ≠ gb212) v207 t206) ∧ Aside0 (w'.heap[gb195]? = some (.cells #[.string a0_0, .string a0_1] 26 (0, 0))) ∧ Aside0 (w'.heap[gb196]? = some (.cells #[.string a1_0, .string a1_1] 26 (0, 0))) ∧ Aside0 (w'.heap[gb212]? = some (.cells #[.string t209, .string t210] 26 (0, 0))) ∧ Aside0 (Below w.heap.size w w'))
           case atStart => exact ⟨(0), (by first | rfl | (simp; done) | (simp [*]; done)), H', ⟨Nat.le_refl _⟩, ⟨by (with_reducible repeat first | apply Ra6 | apply Rn6 | apply Rd6); exact HO_9.out⟩, ⟨by (with_reducible repeat first | apply kn6 | apply kd6 | apply ka6); exact BK195.out⟩, ⟨by (with_reducible repeat first | apply kn6 | apply kd6 | apply ka6); exact BK196.out⟩, ⟨by (with_reducible repeat first | apply kn6 | apply kd6 | apply ka6); exact BK212.out⟩, ⟨by repeat (first | (with_reducible first | exact HB.out | apply ba6 | apply bn6 | apply bd6 | refine bs6 ?_ GE195.out | refine bs6 ?_ GE196.out | refine bs6 ?_ GE212.out) | exact HB.out)⟩⟩
           case round =>
            clear H'
            try clear c1
            try clear c2
            try clear p2
            try clear q2
            try clear hx2
            try clear c6
            try clear p6
            try clear c8
            try clear c10
            try clear c11
            try clear c20
            try clear p22
            try clear q22
            try clear hx22
            try clear p64
            try clear c68
            try clear c68b0
            try clear c81
            try clear c82
            try clear c103
            try clear c112
            try clear c112b0
            try clear c112b1
            try clear c112b2
            try clear hx223_0
            try clear hx225_0
            try clear p223
            try clear p225
            try clear q223
            try clear q225
            obtain ⟨x17_4, rfl, HA, HK4, HO_9, BK195, BK196, BK212, HB⟩ := hrel
            cases gk with
            | zero => exact absurd HA.out (by simp [watershedlaw04_SpanCuts.l2])
            | succ k4 =>
             have H := HA.out
             clear HA
             simp only [watershedlaw04_SpanCuts.l2] at H
             by_cases c118 : x17_4 < (t206.length : Int)
             ·rw [if_pos c118] at H
              have c118b0 : decide (x17_4 < (t206.length : Int)) = true := decide_eq_true c118
              clear c118
              by_cases c119 : 0 ≤ x17_4
              ·rw [if_pos c119] at H
               have c119b0 : decide (0 ≤ x17_4) = true := decide_eq_true c119
               clear c119
               replace H := Option.bind_eq_some_iff.mp H
               obtain ⟨t232, A1200, H⟩ := H
               try dsimp only at H
               have A120 := Am6 A1200
               clear A1200
               by_cases c121 : t232 = true
               ·subst c121
                rw [if_pos rfl] at H
                replace H := Option.bind_eq_some_iff.mp H
                obtain ⟨t234, A1220, H⟩ := H
                try dsimp only at H
                have A122 := Am6 A1220
                clear A1220
                by_cases c123 : t234 = true
                ·subst c123
                 rw [if_pos rfl] at H
                 have H' := Am6 H
                 clear H
                 obtain ⟨Ao124, co124, eo124⟩ := Kd.R_slice HO_9.out
                 subst eo124
                 try go_wp2
                 have n0_ := Am6 (Rd6 HO_9.out)
                 have n1_ := Am6 (kd6 BK195.out)
                 have n2_ := Am6 (kd6 BK196.out)
                 have n3_ := Am6 (kd6 BK212.out)
                 have n4_ := Am6 (bd6 HB.out)
                 clear HO_9
                 clear BK195
                 clear BK196
                 clear BK212
                 clear HB
                 have HO_9 := n0_
                 have BK195 := n1_
                 have BK196 := n2_
                 have BK212 := n3_
                 have HB := n4_
                 clear n0_ n1_ n2_ n3_ n4_
                 have p231 : 0 ≤ (x17_4 : Int) := of_decide_eq_true (by first | (with_reducible assumption) | assumption)
                 have q231 : x17_4 < (t206.length : Int) := of_decide_eq_true (by first | (with_reducible assumption) | assumption)
                 obtain ⟨ad231, e231, hx231_0, hx231_1⟩ := at_T26 (Kd.R_reads' HO_9.out).2.2 x17_4 p231 q231
                 cases e231
                 replace p231 := eq_true p231
                 replace q231 := eq_true q231
                 have p233 : 0 ≤ (x17_4 : Int) := of_decide_eq_true (by first | (with_reducible assumption) | assumption)
                 have q233 : x17_4 < (t206.length : Int) := of_decide_eq_true (by first | (with_reducible assumption) | assumption)
                 obtain ⟨ad233, e233, hx233_0, hx233_1⟩ := at_T26 (Kd.R_reads' HO_9.out).2.2 x17_4 p233 q233
                 obtain rfl : ad231 = ad233 := (by injection e233)
                 replace p233 := eq_true p233
                 replace q233 := eq_true q233
                 refine start_ (n:=15) (S:=fun w' => w'.cell? ⟨gb195, 0, none⟩ = some (.string a0_0) ∧ w'.cell? ⟨gb195, 1, none⟩ = some (.string a0_1) ∧ w'.cell? (ad231.add ((x17_4).toNat * 2)) = some (.string ((rd_T26 t206 x17_4).f0)) ∧ w'.cell? ⟨(ad231.add ((x17_4).toNat * 2)).block, (ad231.add ((x17_4).toNat * 2)).off + 1, none⟩ = some (.string ((rd_T26 t206 x17_4).f1)) ∧ w'.cell? (ad231.add ((x17_4).toNat * 2)) = some (.string ((rd_T26 t206 x17_4).f0)) ∧ w'.cell? ⟨(ad231.add ((x17_4).toNat * 2)).block, (ad231.add ((x17_4).toNat * 2)).off + 1, none⟩ = some (.string ((rd_T26 t206 x17_4).f1))) (ds:=[]) #[false, false, false, false, false, false, false, false, false, false, false, false, false, false, false] (by kernel_rfl) rfl rfl ⟨(kc6 BK195.out 0).trans rfl, (kc6 BK195.out 1).trans rfl, hx231_0, hx231_1, hx233_0, hx233_1⟩ (fun hHeld => ?_); refine with_tabW watershedlaw04_SpanCuts.tab24 watershedlaw04_SpanCuts.bits24 (fun HT_ HW_ => ?_)
                 generalize wr.drew = w125 at HO_9 BK195 BK196 BK212 HB hx231_0 hx231_1 hx233_0 hx233_1 hHeld ⊢
                 refine pure_ (i:=0) (N:=some 126) (v:=?_) (a' := ?_) #[true, false, false, false, false, false, false, false, false, false, false, false, false, false, false] rfl rfl (any_of HT_.out (by kernel_rfl)) (fun _ _ _ h => h) (Or.inl ⟨by rfl, ?_⟩) ?_ ?_
                 rotate_left
                 ·intro w'
                  go_simp
                  with_reducible rfl
                 rotate_left
                 ·simp only [Act.put, sa6, sz6, ss6, i64_w, i32_w]
                  rfl
                 refine pure_ (i:=1) (N:=some 127) (v:=?_) (a' := ?_) #[true, true, false, false, false, false, false, false, false, false, false, false, false, false, false] rfl rfl (any_of HT_.out (by kernel_rfl)) (fun _ _ _ h => h) (Or.inl ⟨by rfl, ?_⟩) ?_ ?_
                 rotate_left
                 ·intro w'
                  go_simp
                  with_reducible rfl
                 rotate_left
                 ·simp only [Act.put, sa6, sz6, ss6, i64_w, i32_w]
                  rfl
                 refine pure_ (i:=2) (N:=some 128) (v:=?_) (a' := ?_) #[true, true, true, false, false, false, false, false, false, false, false, false, false, false, false] rfl rfl (any_of HT_.out (by kernel_rfl)) (fun _ _ _ h => h) (Or.inl ⟨by rfl, ?_⟩) ?_ ?_
                 rotate_left
                 ·intro w'
                  go_simp
                  with_reducible rfl
                 rotate_left
                 ·simp only [Act.put, sa6, sz6, ss6, i64_w, i32_w]
                  rfl
                 refine take_ (i:=3) (N:=some 129) (v:=?_) (a' := ?_) #[true, true, true, true, false, false, false, false, false, false, false, false, false, false, false] rfl rfl (take_ofW HT_.out HW_.out (by kernel_rfl)) (fun _ _ _ h => h) (Or.inl ⟨by rfl, ?_⟩) hHeld ?_ ?_
                 rotate_left
                 ·rintro w' ⟨s0, s1, s2, s3, s4, s5⟩
                  go_simp
                  with_reducible rfl
                 rotate_left
                 ·simp only [Act.put, sa6, sz6, ss6, i64_w, i32_w]
                  rfl
                 refine take_ (i:=4) (N:=some 130) (v:=?_) (a' := ?_) #[true, true, true, true, true, false, false, false, false, false, false, false, false, false, false] rfl rfl (take_ofW HT_.out HW_.out (by kernel_rfl)) (fun _ _ _ h => h) (Or.inl ⟨by rfl, ?_⟩) hHeld ?_ ?_
                 rotate_left
                 ·rintro w' ⟨s0, s1, s2, s3, s4, s5⟩
                  go_simp
                  with_reducible rfl
                 rotate_left
                 ·simp only [Act.put, sa6, sz6, ss6, i64_w, i32_w]
                  rfl
                 refine one_ (i:=5) (N:=some 131) #[true, true, true, true, true, true, false, false, false, false, false, false, false, false, false] rfl rfl (one_of HT_.out (by kernel_rfl)) (by decide) (fun K hK => ?_)
                 refine goes_ Try.func14 (by kernel_rfl) rfl #[.agg #[.string ((rd_T26 t206 x17_4).f0), .string ((rd_T26 t206 x17_4).f1)], .agg #[.string a0_0, .string a0_1]] (by rfl) rfl rfl (by (try simp only [ma6, mc6, mn6]); first | done | rfl | (simp only [ld6, lt_6]; rfl)) ?_
                 with_reducible refine (span_Within.calls k4 ((rd_T26 t206 x17_4).f0) ((rd_T26 t206 x17_4).f1) a0_0 a0_1 true _ A120.out).mono ?_
                 rintro e w126 ⟨rfl, hb⟩
                 have HS2_ := (hb.cell (World.block_lt_of_cell? _ _ (hHeld.2.2.1))).trans (hHeld.2.2.1)
                 have HS3_ := (hb.cell (World.block_lt_of_cell? _ _ (hHeld.2.2.2.1))).trans (hHeld.2.2.2.1)
                 have HS4_ := (hb.cell (World.block_lt_of_cell? _ _ (hHeld.2.2.2.2.1))).trans (hHeld.2.2.2.2.1)
                 have HS5_ := (hb.cell (World.block_lt_of_cell? _ _ (hHeld.2.2.2.2.2))).trans (hHeld.2.2.2.2.2)
                 refine ⟨_, rfl, ?_⟩
                 have n0_ := Am6 (Rb6 (by (with_reducible repeat first | apply Ra6 | apply Rn6 | apply Rd6); exact HO_9.out) hb)
                 have n1_ := Am6 (kb6 (g:=gb195) (o:=.cells #[.string a0_0, .string a0_1] 26 (0, 0)) (by (with_reducible repeat first | apply kn6 | apply kd6 | apply ka6); exact BK195.out) hb)
                 have n2_ := Am6 (kb6 (g:=gb196) (o:=.cells #[.string a1_0, .string a1_1] 26 (0, 0)) (by (with_reducible repeat first | apply kn6 | apply kd6 | apply ka6); exact BK196.out) hb)
                 have n3_ := Am6 (kb6 (g:=gb212) (o:=.cells #[.string t209, .string t210] 26 (0, 0)) (by (with_reducible repeat first | apply kn6 | apply kd6 | apply ka6); exact BK212.out) hb)
                 have n4_ := Am6 (bp6 (by repeat (first | (with_reducible first | exact HB.out | apply ba6 | apply bn6 | apply bd6 | refine bs6 ?_ GE195.out | refine bs6 ?_ GE196.out | refine bs6 ?_ GE212.out) | exact HB.out)) hb)
                 clear HO_9
                 clear BK195
                 clear BK196
                 clear BK212
                 clear HB
                 have HO_9 := n0_
                 have BK195 := n1_
                 have BK196 := n2_
                 have BK212 := n3_
                 have HB := n4_
                 clear n0_ n1_ n2_ n3_ n4_
                 (try clear hb)
                 (try clear hb2)
                 (try clear hk)
                 (try clear hi)
                 refine hK.out _ _ ⟨(kc6 BK195.out 0).trans rfl, (kc6 BK195.out 1).trans rfl, HS2_, HS3_, HS4_, HS5_⟩ (fun hHeld => ?_)
                 clear hK K
                 refine norm_ (a' := ?_) ?_ ?_
                 rotate_left
                 ·show Act.put _ (some 131) _ = _
                  simp only [Act.put, sa6, sz6, ss6, i64_w, i32_w]
                  rfl
                 refine pure_ (i:=6) (N:=some 132) (v:=?_) (a' := ?_) #[true, true, true, true, true, true, true, false, false, false, false, false, false, false, false] rfl rfl (any_of HT_.out (by kernel_rfl)) (fun _ _ _ h => h) (Or.inl ⟨by rfl, ?_⟩) ?_ ?_
                 rotate_left
                 ·intro w'
                  go_simp
                  with_reducible rfl
                 rotate_left
                 ·simp only [Act.put, sa6, sz6, ss6, i64_w, i32_w]
                  rfl
                 refine pure_ (i:=7) (N:=some 133) (v:=?_) (a' := ?_) #[true, true, true, true, true, true, true, true, false, false, false, false, false, false, false] rfl rfl (any_of HT_.out (by kernel_rfl)) (fun _ _ _ h => h) (Or.inl ⟨by rfl, ?_⟩) ?_ ?_
                 rotate_left
                 ·intro w'
                  go_simp
                  with_reducible rfl
                 rotate_left
                 ·simp only [Act.put, sa6, sz6, ss6, i64_w, i32_w]
                  rfl
                 refine pure_ (i:=8) (N:=some 134) (v:=?_) (a' := ?_) #[true, true, true, true, true, true, true, true, true, false, false, false, false, false, false] rfl rfl (any_of HT_.out (by kernel_rfl)) (fun _ _ _ h => h) (Or.inl ⟨by rfl, ?_⟩) ?_ ?_
                 rotate_left
                 ·intro w'
                  go_simp
                  with_reducible rfl
                 rotate_left
                 ·simp only [Act.put, sa6, sz6, ss6, i64_w, i32_w]
                  rfl
                 refine pure_ (i:=9) (N:=some 135) (v:=?_) (a' := ?_) #[true, true, true, true, true, true, true, true, true, true, false, false, false, false, false] rfl rfl (any_of HT_.out (by kernel_rfl)) (fun _ _ _ h => h) (Or.inl ⟨by rfl, ?_⟩) ?_ ?_
                 rotate_left
                 ·intro w'
                  go_simp
                  with_reducible rfl
                 rotate_left
                 ·simp only [Act.put, sa6, sz6, ss6, i64_w, i32_w]
                  rfl
                 refine pure_ (i:=10) (N:=some 136) (v:=?_) (a' := ?_) #[true, true, true, true, true, true, true, true, true, true, true, false, false, false, false] rfl rfl (any_of HT_.out (by kernel_rfl)) (fun _ _ _ h => h) (Or.inl ⟨by rfl, ?_⟩) ?_ ?_
                 rotate_left
                 ·intro w'
                  go_simp
                  with_reducible rfl
                 rotate_left
                 ·simp only [Act.put, sa6, sz6, ss6, i64_w, i32_w]
                  rfl
                 refine take_ (i:=11) (N:=some 137) (v:=?_) (a' := ?_) #[true, true, true, true, true, true, true, true, true, true, true, true, false, false, false] rfl rfl (take_ofW HT_.out HW_.out (by kernel_rfl)) (fun _ _ _ h => h) (Or.inl ⟨by rfl, ?_⟩) hHeld ?_ ?_
                 rotate_left
                 ·rintro w' ⟨s0, s1, s2, s3, s4, s5⟩
                  go_simp
                  with_reducible rfl
                 rotate_left
                 ·simp only [Act.put, sa6, sz6, ss6, i64_w, i32_w]
                  rfl
                 refine one_ (i:=12) (N:=some 138) #[true, true, true, true, true, true, true, true, true, true, true, true, true, false, false] rfl rfl (one_of HT_.out (by kernel_rfl)) (by decide) (fun K hK => ?_)
                 refine goes_ Try.func16 (by kernel_rfl) rfl #[.agg #[.string ((rd_T26 t206 x17_4).f0), .string ((rd_T26 t206 x17_4).f1)]] (by rfl) rfl rfl (by (try simp only [ma6, mc6, mn6]); first | done | rfl | (simp only [ld6, lt_6]; rfl)) ?_
                 with_reducible refine (span_Right.calls k4 ((rd_T26 t206 x17_4).f0) ((rd_T26 t206 x17_4).f1) true _ A122.out).mono ?_
                 rintro e w127 ⟨rfl, hb⟩
                 have HS2_ := (hb.cell (World.block_lt_of_cell? _ _ (hHeld.2.2.1))).trans (hHeld.2.2.1)
                 have HS3_ := (hb.cell (World.block_lt_of_cell? _ _ (hHeld.2.2.2.1))).trans (hHeld.2.2.2.1)
                 have HS4_ := (hb.cell (World.block_lt_of_cell? _ _ (hHeld.2.2.2.2.1))).trans (hHeld.2.2.2.2.1)
                 have HS5_ := (hb.cell (World.block_lt_of_cell? _ _ (hHeld.2.2.2.2.2))).trans (hHeld.2.2.2.2.2)
                 refine ⟨_, rfl, ?_⟩
                 have n0_ := Am6 (Rb6 (by (with_reducible repeat first | apply Ra6 | apply Rn6 | apply Rd6); exact HO_9.out) hb)
                 have n1_ := Am6 (kb6 (g:=gb195) (o:=.cells #[.string a0_0, .string a0_1] 26 (0, 0)) (by (with_reducible repeat first | apply kn6 | apply kd6 | apply ka6); exact BK195.out) hb)
                 have n2_ := Am6 (kb6 (g:=gb196) (o:=.cells #[.string a1_0, .string a1_1] 26 (0, 0)) (by (with_reducible repeat first | apply kn6 | apply kd6 | apply ka6); exact BK196.out) hb)
                 have n3_ := Am6 (kb6 (g:=gb212) (o:=.cells #[.string t209, .string t210] 26 (0, 0)) (by (with_reducible repeat first | apply kn6 | apply kd6 | apply ka6); exact BK212.out) hb)
                 have n4_ := Am6 (bp6 (by repeat (first | (with_reducible first | exact HB.out | apply ba6 | apply bn6 | apply bd6 | refine bs6 ?_ GE195.out | refine bs6 ?_ GE196.out | refine bs6 ?_ GE212.out) | exact HB.out)) hb)
                 clear HO_9
                 clear BK195
                 clear BK196
                 clear BK212
                 clear HB
                 have HO_9 := n0_
                 have BK195 := n1_
                 have BK196 := n2_
                 have BK212 := n3_
                 have HB := n4_
                 clear n0_ n1_ n2_ n3_ n4_
                 (try clear hb)
                 (try clear hb2)
                 (try clear hk)
                 (try clear hi)
                 refine hK.out _ _ ⟨(kc6 BK195.out 0).trans rfl, (kc6 BK195.out 1).trans rfl, HS2_, HS3_, HS4_, HS5_⟩ (fun hHeld => ?_)
                 clear hK K
                 refine norm_ (a' := ?_) ?_ ?_
                 rotate_left
                 ·show Act.put _ (some 138) _ = _
                  simp only [Act.put, sa6, sz6, ss6, i64_w, i32_w]
                  rfl
                 refine pure_ (i:=13) (N:=some 139) (v:=?_) (a' := ?_) #[true, true, true, true, true, true, true, true, true, true, true, true, true, true, false] rfl rfl (any_of HT_.out (by kernel_rfl)) (fun _ _ _ h => h) (Or.inl ⟨by rfl, ?_⟩) ?_ ?_
                 rotate_left
                 ·intro w'
                  go_simp
                  with_reducible rfl
                 rotate_left
                 ·simp only [Act.put, sa6, sz6, ss6, i64_w, i32_w]
                  rfl
                 refine pure_ (i:=14) (N:=some 140) (v:=?_) (a' := ?_) #[true, true, true, true, true, true, true, true, true, true, true, true, true, true, true] rfl rfl (any_of HT_.out (by kernel_rfl)) (fun _ _ _ h => h) (Or.inl ⟨by rfl, ?_⟩) ?_ ?_
                 rotate_left
                 ·intro w'
                  go_simp
                  with_reducible rfl
                 rotate_left
                 ·simp only [Act.put, sa6, sz6, ss6, i64_w, i32_w]
                  rfl
                 refine done_ (done_of HT_.out (by kernel_rfl)) ?_
                 try go_wp2
                 go_roundg k4
                 case measure => have := HJ6.out; have := HJ31.out; have := HK3.out; have := HK4.out; omega
                 case rel => exact ⟨(wrap64 (x17_4 + 1)), (by first | rfl | (simp; done) | (simp [*]; done)), H', ⟨by have := HJ6.out; have := HJ31.out; have := HK3.out; have := HK4.out; omega⟩, ⟨by (with_reducible repeat first | apply Ra6 | apply Rn6 | apply Rd6); exact HO_9.out⟩, ⟨by (with_reducible repeat first | apply kn6 | apply kd6 | apply ka6); exact BK195.out⟩, ⟨by (with_reducible repeat first | apply kn6 | apply kd6 | apply ka6); exact BK196.out⟩, ⟨by (with_reducible repeat first | apply kn6 | apply kd6 | apply ka6); exact BK212.out⟩, ⟨by repeat (first | (with_reducible first | exact HB.out | apply ba6 | apply bn6 | apply bd6 | refine bs6 ?_ GE195.out | refine bs6 ?_ GE196.out | refine bs6 ?_ GE212.out) | exact HB.out)⟩⟩
                ·replace c123 := Bool.eq_false_iff.mpr c123
                 subst c123
                 rw [if_neg (show ¬ (false = true) by decide)] at H
                 exact absurd H (by simp)
               ·replace c121 := Bool.eq_false_iff.mpr c121
                subst c121
                rw [if_neg (show ¬ (false = true) by decide)] at H
                exact absurd H (by simp)
              ·rw [if_neg c119] at H
               exact absurd H (by simp)
             ·rw [if_neg c118] at H
              have c118b0 : decide (x17_4 < (t206.length : Int)) = false := decide_eq_false c118
              clear c118
              obtain rfl := Option.some.inj H
              obtain ⟨Ao128, co128, eo128⟩ := Kd.R_slice HO_9.out
              subst eo128
              go_wp2
              go_ret
              exact ⟨by first | rfl | (simp [errW_none, errW_some] <;> rfl) | (simp [*, errW_none, errW_some] <;> rfl), by repeat (first | (with_reducible first | exact HB.out | apply ba6 | apply bn6 | apply bd6 | refine bs6 ?_ GE195.out | refine bs6 ?_ GE196.out | refine bs6 ?_ GE212.out) | exact HB.out)⟩
 ·replace c6 := Bool.eq_false_iff.mpr c6
  subst c6
  rw [if_neg (show ¬ (false = true) by decide)] at H
  exact absurd H (by simp)

end Go.Proofs.Ytbmnhpihlkljdaa.P04c
