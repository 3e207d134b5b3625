-- Written by gprint.py, a program of this session, over the kit's print; the functions of my own contracts are marked GIVEN
import Derived.Test.YtkilmclncpmjnaaZQAP06tx0
import Derived.Test.YtkilmclncpmjnaaZQAP06tx6
namespace Go.Proofs.Ytkilmclncpmjnaa.P06t
open Go.RowKit Go.Proofs.YtkilmclncpmjnaaW.PrintWords Go.Proofs.YtkilmclncpmjnaaW.PrintLast Go.Proofs.YtkilmclncpmjnaaW.PrintMore
attribute [local go_sem] max2_int min2_int max_two min_two max_three min_three max_four min_four   -- for this text's walks alone
set_option linter.unusedVariables false
set_option linter.unusedSimpArgs false

abbrev bb28 (n m : Nat) : Array Bool := ((List.range n).map fun i => m.testBit i).toArray
theorem Am28 : type_of% @Aside0.mk := @Aside0.mk
theorem Ra28 : type_of% @Kd.R_alloc := @Kd.R_alloc
theorem Rn28 : type_of% @Kd.R_drewN := @Kd.R_drewN
theorem Rd28 : type_of% @Kd.R_drew := @Kd.R_drew
theorem Ro28 : type_of% @Kd.R_mono := @Kd.R_mono
theorem ba28 : type_of% @below_alloc := @below_alloc
theorem bn28 : type_of% @pw_below_drewN := @pw_below_drewN
theorem bd28 : type_of% @below_drew1 := @below_drew1
theorem bs28 : type_of% @below_set := @below_set
theorem kn28 : type_of% @blk_drewN := @blk_drewN
theorem kd28 : type_of% @blk_drew := @blk_drew
theorem ka28 : type_of% @blk_alloc := @blk_alloc
theorem kb28 : type_of% @blk_below := @blk_below
theorem Re28 : type_of% @Kd.R_elder' := @Kd.R_elder'
theorem Rw28 : type_of% @Kd.R_new' := @Kd.R_new'
theorem Rl28 : type_of% @Kd.R_lower := @Kd.R_lower
theorem Ra_28 : type_of% @Kd.R_base := @Kd.R_base
theorem Rt28 : type_of% @Kd.R_lt := @Kd.R_lt
theorem bz28 : type_of% @below_size := @below_size
theorem bp28 : type_of% @below_step := @below_step
theorem kc28 : type_of% @blk_cell := @blk_cell
theorem sa28 : type_of% @List.setIfInBounds_toArray := @List.setIfInBounds_toArray
theorem sz28 : type_of% @List.set_cons_zero := @List.set_cons_zero
theorem ss28 : type_of% @List.set_cons_succ := @List.set_cons_succ
theorem ma28 : type_of% @List.map_toArray := @List.map_toArray
theorem mc28 : type_of% @List.map_cons := @List.map_cons
theorem mn28 : type_of% @List.map_nil := @List.map_nil
theorem ld28 : type_of% @List.length_drop := @List.length_drop
theorem lt_28 : type_of% @List.length_take := @List.length_take
/-! ### watershedref06_Nodes: function 28 -/
mutual
def watershedref06_Nodes.l0 : Nat → List Int → List Int → Option (List Int)
 | 0, _, _ => none
 | k + 1, x3, x4 => if (x3.length : Int) > 0 then (if 0 < (x3.length : Int) then (watershedref06_Nodes.l1 k x3 x4 (rd x3 0) 0) else (none)) else (some x4)
def watershedref06_Nodes.l1 : Nat → List Int → List Int → Int → Int → Option (List Int)
 | 0, _, _, _, _ => none
 | k + 1, x3, x4, x5, x6 => if x6 < (x3.length : Int) then (if 0 ≤ x6 then (watershedref06_Nodes.l1 k x3 x4 (mn x5 (rd x3 x6)) (wrap64 (x6 + 1))) else (none)) else (if x4.length < 17592186044416 then ((watershedref06_less.f k x3 (([x5] : List Int))).bind fun t282 => (watershedref06_Nodes.l0 k t282 (x4 ++ [x5]))) else (none))
end
def watershedref06_Nodes.f (k : Nat) (l0_0 : List Int) (l0_1 : List Int) (l0_2 : List Int) (l0_3 : List Int) : Option (List Int) := (some (([] : List Int) : List Int)).bind fun y262 => (if y262.length + l0_0.length < 17592186044416 then ((some (y262 ++ l0_0 : List Int)).bind fun y265 => (if y265.length + l0_1.length < 17592186044416 then ((some (y265 ++ l0_1 : List Int)).bind fun y268 => (if y268.length + l0_2.length < 17592186044416 then (watershedref06_Nodes.l0 k (y268 ++ l0_2) ([] : List Int)) else (none))) else (none))) else (none))
theorem watershedref06_Nodes.mono_l : ∀ k, (∀ y0 y1, LeO (watershedref06_Nodes.l0 k y0 y1) (watershedref06_Nodes.l0 (k + 1) y0 y1)) ∧ (∀ y0 y1 y2 y3, LeO (watershedref06_Nodes.l1 k y0 y1 y2 y3) (watershedref06_Nodes.l1 (k + 1) y0 y1 y2 y3))
 | 0 => ⟨fun _ _ r h => by simp [watershedref06_Nodes.l0] at h, fun _ _ _ _ r h => by simp [watershedref06_Nodes.l1] at h⟩
 | k + 1 => by
  obtain ⟨ih0, ih1⟩ := watershedref06_Nodes.mono_l k
  refine ⟨?_, ?_⟩
  ·intro y0 y1
   unfold watershedref06_Nodes.l0
   repeat' first
   | (with_reducible exact ih0 _ _)
   | (with_reducible exact ih1 _ _ _ _)
   | (with_reducible exact watershedref06_less.mono _ _ _)
   | (with_reducible exact LeO.refl _)
   | (with_reducible exact LeO.none _)
   | (with_reducible refine LeO.ite ?_ ?_)
   | (with_reducible refine LeO.bind ?_ (fun _ => ?_))
   | exact ih0 _ _
   | exact ih1 _ _ _ _
   | exact watershedref06_less.mono _ _ _
   | exact LeO.none _
   | refine LeO.ite ?_ ?_
   | refine LeO.bind ?_ (fun _ => ?_)
  ·intro y0 y1 y2 y3
   unfold watershedref06_Nodes.l1
   repeat' first
   | (with_reducible exact ih0 _ _)
   | (with_reducible exact ih1 _ _ _ _)
   | (with_reducible exact watershedref06_less.mono _ _ _)
   | (with_reducible exact LeO.refl _)
   | (with_reducible exact LeO.none _)
   | (with_reducible refine LeO.ite ?_ ?_)
   | (with_reducible refine LeO.bind ?_ (fun _ => ?_))
   | exact ih0 _ _
   | exact ih1 _ _ _ _
   | exact watershedref06_less.mono _ _ _
   | exact LeO.none _
   | refine LeO.ite ?_ ?_
   | refine LeO.bind ?_ (fun _ => ?_)
theorem watershedref06_Nodes.mono : ∀ a0 a1 a2 a3 k, LeO (watershedref06_Nodes.f k a0 a1 a2 a3) (watershedref06_Nodes.f (k + 1) a0 a1 a2 a3) := by
 intro a0 a1 a2 a3 k
 obtain ⟨ih0, ih1⟩ := watershedref06_Nodes.mono_l k
 unfold watershedref06_Nodes.f
 repeat' first
   | (with_reducible exact ih0 _ _)
   | (with_reducible exact ih1 _ _ _ _)
   | (with_reducible exact watershedref06_less.mono _ _ _)
   | (with_reducible exact LeO.refl _)
   | (with_reducible exact LeO.none _)
   | (with_reducible refine LeO.ite ?_ ?_)
   | (with_reducible refine LeO.bind ?_ (fun _ => ?_))
   | exact ih0 _ _
   | exact ih1 _ _ _ _
   | exact watershedref06_less.mono _ _ _
   | exact LeO.none _
   | refine LeO.ite ?_ ?_
   | refine LeO.bind ?_ (fun _ => ?_)
def watershedref06_Nodes.T1 : Bool × List (List Nat × List Nat) := (true, [([], []), ([], []), ([1], [1]), ([0, 2], [0, 2]), ([], []), ([4], [4]), ([3, 5, 3], [3, 5]), ([], []), ([7], [7]), ([6, 8, 6], [6, 8]), ([9, 9, 0, 1, 2, 3, 4, 5, 6, 7, 8, 9], [9])])
def watershedref06_Nodes.B1 : List Nat := [0, 0, 2, 7, 0, 16, 63, 0, 128, 511, 1023]
theorem watershedref06_Nodes.tab1 : rtab .any (opsOf Try.f28 1) = watershedref06_Nodes.T1 := by kernel_rfl
theorem watershedref06_Nodes.bits1 : waitsOk watershedref06_Nodes.T1.2 watershedref06_Nodes.B1 = true := by kernel_rfl
set_option maxHeartbeats 8000000 in
set_option maxRecDepth 100000 in
theorem watershedref06_Nodes.calls (k : Nat) (A0_0 : Option Addr) (c0_0 : Nat) (l0_0 : List Int) (A0_1 : Option Addr) (c0_1 : Nat) (l0_1 : List Int) (A0_2 : Option Addr) (c0_2 : Nat) (l0_2 : List Int) (A0_3 : Option Addr) (c0_3 : Nat) (l0_3 : List Int) (r : List Int) (w : World) (hr0_0 : Kd.C (Kd.int .i64) w A0_0 l0_0.length l0_0) (hc0_0 : l0_0.length ≤ c0_0) (hr0_1 : Kd.C (Kd.int .i64) w A0_1 l0_1.length l0_1) (hc0_1 : l0_1.length ≤ c0_1) (hr0_2 : Kd.C (Kd.int .i64) w A0_2 l0_2.length l0_2) (hc0_2 : l0_2.length ≤ c0_2) (hr0_3 : Kd.C (Kd.int .i64) w A0_3 l0_3.length l0_3) (hc0_3 : l0_3.length ≤ c0_3) (h : watershedref06_Nodes.f k l0_0 l0_1 l0_2 l0_3 = some r) :
  Calls Try.prog 28 #[.agg #[.slice A0_0 l0_0.length c0_0, .slice A0_1 l0_1.length c0_1, .slice A0_2 l0_2.length c0_2, .slice A0_3 l0_3.length c0_3]] w fun e w' => ∃ v0_ : Value, e = .returned (v0_) ∧ Kd.R (Kd.int .i64) 3 w' w.heap.size (fun _ => True) v0_ r ∧ Below w.heap.size w w' := by
 have hu24 := Try.underlying24
 have HR0_0 := Am28 hr0_0
 have HC0_0 := Am28 hc0_0
 clear hr0_0 hc0_0
 have HR0_1 := Am28 hr0_1
 have HC0_1 := Am28 hc0_1
 clear hr0_1 hc0_1
 have HR0_2 := Am28 hr0_2
 have HC0_2 := Am28 hc0_2
 clear hr0_2 hc0_2
 have HR0_3 := Am28 hr0_3
 have HC0_3 := Am28 hc0_3
 clear hr0_3 hc0_3
 have HB := Am28 (Below.refl w.heap.size w)
 have H : ((some (([] : List Int) : List Int)).bind fun y262 => (if y262.length + l0_0.length < 17592186044416 then ((some (y262 ++ l0_0 : List Int)).bind fun y265 => (if y265.length + l0_1.length < 17592186044416 then ((some (y265 ++ l0_1 : List Int)).bind fun y268 => (if y268.length + l0_2.length < 17592186044416 then (watershedref06_Nodes.l0 k (y268 ++ l0_2) ([] : List Int)) else (none))) else (none))) else (none))) = some r := h
 clear h
 obtain ⟨y262, hy262⟩ : ∃ y_ : List Int, y_ = (([] : List Int)) := ⟨_, rfl⟩
 replace H : (if y262.length + l0_0.length < 17592186044416 then ((some (y262 ++ l0_0 : List Int)).bind fun y265 => (if y265.length + l0_1.length < 17592186044416 then ((some (y265 ++ l0_1 : List Int)).bind fun y268 => (if y268.length + l0_2.length < 17592186044416 then (watershedref06_Nodes.l0 k (y268 ++ l0_2) ([] : List Int)) else (none))) else (none))) else (none)) = some r := by first | (rw [hy262]; with_reducible exact H) | (have H2_ := (Option.bind_some _ _).symm.trans H; rw [hy262]; with_reducible exact H2_) | (have H2_ := (Option.bind_some _ _).symm.trans H; with_reducible exact H2_) | with_reducible exact H | (rw [hy262]; exact H) | exact H
 have Ny262 := Am28 hy262
 clear hy262
 by_cases c2 : y262.length + l0_0.length < 17592186044416
 ·rw [if_pos c2] at H
  have LMc2 := Am28 c2
  clear c2
  obtain ⟨y265, hy265⟩ : ∃ y_ : List Int, y_ = (y262 ++ l0_0) := ⟨_, rfl⟩
  replace H : (if y265.length + l0_1.length < 17592186044416 then ((some (y265 ++ l0_1 : List Int)).bind fun y268 => (if y268.length + l0_2.length < 17592186044416 then (watershedref06_Nodes.l0 k (y268 ++ l0_2) ([] : List Int)) else (none))) else (none)) = some r := by first | (rw [hy265]; with_reducible exact H) | (have H2_ := (Option.bind_some _ _).symm.trans H; rw [hy265]; with_reducible exact H2_) | (have H2_ := (Option.bind_some _ _).symm.trans H; with_reducible exact H2_) | with_reducible exact H | (rw [hy265]; exact H) | exact H
  have Ny265 := Am28 hy265
  clear hy265
  by_cases c3 : y265.length + l0_1.length < 17592186044416
  ·rw [if_pos c3] at H
   have LMc3 := Am28 c3
   clear c3
   obtain ⟨y268, hy268⟩ : ∃ y_ : List Int, y_ = (y265 ++ l0_1) := ⟨_, rfl⟩
   replace H : (if y268.length + l0_2.length < 17592186044416 then (watershedref06_Nodes.l0 k (y268 ++ l0_2) ([] : List Int)) else (none)) = some r := by first | (rw [hy268]; with_reducible exact H) | (have H2_ := (Option.bind_some _ _).symm.trans H; rw [hy268]; with_reducible exact H2_) | (have H2_ := (Option.bind_some _ _).symm.trans H; with_reducible exact H2_) | with_reducible exact H | (rw [hy268]; exact H) | exact H
   have Ny268 := Am28 hy268
   clear hy268
   by_cases c4 : y268.length + l0_2.length < 17592186044416
   ·rw [if_pos c4] at H
    have LMc4 := Am28 c4
    clear c4
    obtain ⟨y271, hy271⟩ : ∃ y_ : List Int, y_ = (y268 ++ l0_2) := ⟨_, rfl⟩
    replace H : (watershedref06_Nodes.l0 k y271 ([] : List Int)) = some r := by first | (rw [hy271]; with_reducible exact H) | (have H2_ := (Option.bind_some _ _).symm.trans H; rw [hy271]; with_reducible exact H2_) | (have H2_ := (Option.bind_some _ _).symm.trans H; with_reducible exact H2_) | with_reducible exact H | (rw [hy271]; exact H) | exact H
    have Ny271 := Am28 hy271
    clear hy271
    have H' := Am28 H
    clear H
    go_enter Try.func28, Try.ntmps28
    try go_wp2_with (first | ((with_reducible refine gate_dst (N:=1) rfl ?_); refine box_event ?hg (N:=1) ?hd (cs:=#[.slice A0_0 l0_0.length c0_0, .slice A0_1 l0_1.length c0_1, .slice A0_2 l0_2.length c0_2, .slice A0_3 l0_3.length c0_3]) (t:=24) ?hr ?_; (case hd => rfl); (case hg => rfl); (case hr => first | (go_simp; done) | (go_simp; rfl)); intro gb261 hg w5 hbox hb; have BK261 := Am28 (hbox); have GW261 := Am28 ((by rw [hg]; exact (bz28 (by repeat (first | (with_reducible first | exact HB.out | apply ba28 | apply bn28 | apply bd28) | exact HB.out))) : w.heap.size ≤ gb261)); have GE261 := Am28 ((by rw [hg]; exact (bz28 (by repeat (first | (with_reducible first | exact HB.out | apply ba28 | apply bn28 | apply bd28) | exact HB.out))) : w.heap.size ≤ gb261)); replace HB := Am28 (bp28 (by repeat (first | (with_reducible first | exact HB.out | apply ba28 | apply bn28 | apply bd28) | exact HB.out)) hb); clear hb hbox hg))
    replace BK261 := Am28 (kd28 BK261.out)
    replace HB := Am28 (bd28 HB.out)
    refine start_ (n:=11) (S:=fun w' => w'.cell? ⟨gb261, 0, none⟩ = some (.slice A0_0 l0_0.length c0_0) ∧ w'.cell? ⟨gb261, 1, none⟩ = some (.slice A0_1 l0_1.length c0_1) ∧ w'.cell? ⟨gb261, 2, none⟩ = some (.slice A0_2 l0_2.length c0_2) ∧ w'.cell? ⟨gb261, 3, none⟩ = some (.slice A0_3 l0_3.length c0_3)) (ds:=[]) (bb28 11 0) (by kernel_rfl) rfl rfl ⟨(kc28 BK261.out 0).trans rfl, (kc28 BK261.out 1).trans rfl, (kc28 BK261.out 2).trans rfl, (kc28 BK261.out 3).trans rfl⟩ (fun hHeld => ?_); refine with_tabW watershedref06_Nodes.tab1 watershedref06_Nodes.bits1 (fun HT_ HW_ => ?_)
    generalize w5.drew = w6 at BK261 HB hHeld ⊢
    refine pure_ (i:=1) (N:=some 8) (v:=?_) (a' := ?_) (bb28 11 2) rfl rfl (any_of HT_.out (by kernel_rfl)) (fun _ _ _ h => h) (Or.inl ⟨by rfl, ?_⟩) ?_ ?_
    rotate_left
    ·intro w'
     go_simp
     with_reducible rfl
    rotate_left
    ·simp only [Act.put, sa28, sz28, ss28, i64_w, i32_w]
     rfl
    refine pure_ (i:=4) (N:=some 11) (v:=?_) (a' := ?_) (bb28 11 18) rfl rfl (any_of HT_.out (by kernel_rfl)) (fun _ _ _ h => h) (Or.inl ⟨by rfl, ?_⟩) ?_ ?_
    rotate_left
    ·intro w'
     go_simp
     with_reducible rfl
    rotate_left
    ·simp only [Act.put, sa28, sz28, ss28, i64_w, i32_w]
     rfl
    refine pure_ (i:=7) (N:=some 14) (v:=?_) (a' := ?_) (bb28 11 146) rfl rfl (any_of HT_.out (by kernel_rfl)) (fun _ _ _ h => h) (Or.inl ⟨by rfl, ?_⟩) ?_ ?_
    rotate_left
    ·intro w'
     go_simp
     with_reducible rfl
    rotate_left
    ·simp only [Act.put, sa28, sz28, ss28, i64_w, i32_w]
     rfl
    refine take_ (i:=2) (N:=some 9) (v:=?_) (a' := ?_) (bb28 11 150) rfl rfl (take_ofW HT_.out HW_.out (by kernel_rfl)) (fun _ _ _ h => h) (Or.inl ⟨by rfl, ?_⟩) hHeld ?_ ?_
    rotate_left
    ·rintro w' ⟨s0, s1, s2, s3⟩
     go_simp
     with_reducible rfl
    rotate_left
    ·simp only [Act.put, sa28, sz28, ss28, i64_w, i32_w]
     rfl
    refine take_ (i:=5) (N:=some 12) (v:=?_) (a' := ?_) (bb28 11 182) rfl rfl (take_ofW HT_.out HW_.out (by kernel_rfl)) (fun _ _ _ h => h) (Or.inl ⟨by rfl, ?_⟩) hHeld ?_ ?_
    rotate_left
    ·rintro w' ⟨s0, s1, s2, s3⟩
     go_simp
     with_reducible rfl
    rotate_left
    ·simp only [Act.put, sa28, sz28, ss28, i64_w, i32_w]
     rfl
    refine take_ (i:=8) (N:=some 15) (v:=?_) (a' := ?_) (bb28 11 438) rfl rfl (take_ofW HT_.out HW_.out (by kernel_rfl)) (fun _ _ _ h => h) (Or.inl ⟨by rfl, ?_⟩) hHeld ?_ ?_
    rotate_left
    ·rintro w' ⟨s0, s1, s2, s3⟩
     go_simp
     with_reducible rfl
    rotate_left
    ·simp only [Act.put, sa28, sz28, ss28, i64_w, i32_w]
     rfl
    refine one_ (i:=0) (N:=some 7) (bb28 11 439) rfl rfl (one_of HT_.out (by kernel_rfl)) (by decide) (fun K hK => ?_)
    refine Kd.R_lit_step (Kd.int .i64) _ 3 ?hg (N:=7) ?hd (xs:=([] : List Int)) (inner:=[]) (ok:=fun _ => True) (okp:=fun _ => True) ?hr ?hp (fun _ hk => hk) trivial (Below.refl _ _) (Nat.le_refl _) (by simp) ?_; (case hd => rfl); (case hg => rfl); (case hr => first | (go_simp; done) | (go_simp; rfl)); (case hp => exact (Reps.none _ _))
    intro v263 w7 ho8 hb hg_ hnew_
    clear hg_ hnew_
    (first | rw [← Ny262.out] at ho8 | (simp only [Int.reduceToNat] at ho8; rw [← Ny262.out] at ho8))
    have n0_ := Am28 (Rl28 ho8 (bz28 (by repeat (first | (with_reducible first | exact HB.out | apply ba28 | apply bn28 | apply bd28 | refine bs28 ?_ GE261.out) | exact HB.out))))
    have n1_ := Am28 (kb28 (g:=gb261) (o:=.cells #[.slice A0_0 l0_0.length c0_0, .slice A0_1 l0_1.length c0_1, .slice A0_2 l0_2.length c0_2, .slice A0_3 l0_3.length c0_3] 24 (0, 0)) (by (with_reducible repeat first | apply kn28 | apply kd28 | apply ka28); exact BK261.out) hb)
    have n2_ := Am28 (bp28 (by repeat (first | (with_reducible first | exact HB.out | apply ba28 | apply bn28 | apply bd28 | refine bs28 ?_ GE261.out) | exact HB.out)) hb)
    clear BK261
    clear HB
    have HO264 := n0_
    have BK261 := n1_
    have HB := n2_
    clear n0_ n1_ n2_
    clear hb ho8
    refine hK.out _ _ ⟨(kc28 BK261.out 0).trans rfl, (kc28 BK261.out 1).trans rfl, (kc28 BK261.out 2).trans rfl, (kc28 BK261.out 3).trans rfl⟩ (fun hHeld => ?_)
    clear hK K
    refine norm_ (a' := ?_) ?_ ?_
    rotate_left
    ·show Act.put _ (some 7) _ = _
     simp only [Act.put, sa28, sz28, ss28, i64_w, i32_w]
     rfl
    refine one_ (i:=3) (N:=some 10) (bb28 11 447) rfl rfl (one_of HT_.out (by kernel_rfl)) (by decide) (fun K hK => ?_)
    refine Kd.R_append_rows_step (Kd.int .i64) (w0:=w) w.heap.size (by rfl) (.tmp 7) (.tmp 9) 22 3 (.int .i64 0) 8 rfl Try.underlying22 info3 rfl (by decide) (by omega) v263 y262 l0_0 _ _ _ (fun _ => True) (fun _ => False) rfl rfl ?aO ?aR (fun _ _ h => h) (fun _ h => h.elim) ?aF ?aB ?aS ?aL ?_
    (case aR => repeat (first | exact (Kd.C_below HR0_0.out HB.out) | (with_reducible refine Kd.C_alloc ?_ _) | (with_reducible refine Kd.C_drewN ?_ _) | (with_reducible refine Kd.C_drew ?_)))
    (case aB => exact (by repeat (first | (with_reducible first | exact HB.out | apply ba28 | apply bn28 | apply bd28 | refine bs28 ?_ GE261.out) | exact HB.out)))
    (case aF => exact (fun _ _ => trivial))
    (case aO => exact (by (with_reducible repeat first | apply Ra28 | apply Rn28 | apply Rd28); exact HO264.out))
    (case aS => exact (bz28 (by repeat (first | (with_reducible first | exact HB.out | apply ba28 | apply bn28 | apply bd28 | refine bs28 ?_ GE261.out) | exact HB.out))))
    (case aL => have := LMc2.out; omega)
    intro v266 w9 ho hb hg hat
    rw [← Ny265.out] at ho
    have n0_ := Am28 (blk_grown (g:=gb261) (o:=.cells #[.slice A0_0 l0_0.length c0_0, .slice A0_1 l0_1.length c0_1, .slice A0_2 l0_2.length c0_2, .slice A0_3 l0_3.length c0_3] 24 (0, 0)) (by (with_reducible repeat first | apply kn28 | apply kd28 | apply ka28); exact BK261.out) hg (Kd.R_ne HO264.out BK261.out (by decide)))
    have n1_ := Am28 (hb)
    have n2_ := Am28 (ho)
    clear BK261
    clear HB
    clear HO264
    have BK261 := n0_
    have HB := n1_
    have HO267 := n2_
    clear n0_ n1_ n2_
    clear ho hb hg hat
    refine hK.out _ _ ⟨(kc28 BK261.out 0).trans rfl, (kc28 BK261.out 1).trans rfl, (kc28 BK261.out 2).trans rfl, (kc28 BK261.out 3).trans rfl⟩ (fun hHeld => ?_)
    clear hK K
    refine norm_ (a' := ?_) ?_ ?_
    rotate_left
    ·show Act.put _ (some 10) _ = _
     simp only [Act.put, sa28, sz28, ss28, i64_w, i32_w]
     rfl
    refine one_ (i:=6) (N:=some 13) (bb28 11 511) rfl rfl (one_of HT_.out (by kernel_rfl)) (by decide) (fun K hK => ?_)
    refine Kd.R_append_rows_step (Kd.int .i64) (w0:=w) w.heap.size (by rfl) (.tmp 10) (.tmp 12) 22 3 (.int .i64 0) 8 rfl Try.underlying22 info3 rfl (by decide) (by omega) v266 y265 l0_1 _ _ _ (fun _ => True) (fun _ => False) rfl rfl ?aO ?aR (fun _ _ h => h) (fun _ h => h.elim) ?aF ?aB ?aS ?aL ?_
    (case aR => repeat (first | exact (Kd.C_below HR0_1.out HB.out) | (with_reducible refine Kd.C_alloc ?_ _) | (with_reducible refine Kd.C_drewN ?_ _) | (with_reducible refine Kd.C_drew ?_)))
    (case aB => exact (by repeat (first | (with_reducible first | exact HB.out | apply ba28 | apply bn28 | apply bd28 | refine bs28 ?_ GE261.out) | exact HB.out)))
    (case aF => exact (fun _ _ => trivial))
    (case aO => exact (by (with_reducible repeat first | apply Ra28 | apply Rn28 | apply Rd28); exact HO267.out))
    (case aS => exact (bz28 (by repeat (first | (with_reducible first | exact HB.out | apply ba28 | apply bn28 | apply bd28 | refine bs28 ?_ GE261.out) | exact HB.out))))
    (case aL => have := LMc3.out; omega)
    intro v269 w10 ho hb hg hat
    rw [← Ny268.out] at ho
    have n0_ := Am28 (blk_grown (g:=gb261) (o:=.cells #[.slice A0_0 l0_0.length c0_0, .slice A0_1 l0_1.length c0_1, .slice A0_2 l0_2.length c0_2, .slice A0_3 l0_3.length c0_3] 24 (0, 0)) (by (with_reducible repeat first | apply kn28 | apply kd28 | apply ka28); exact BK261.out) hg (Kd.R_ne HO267.out BK261.out (by decide)))
    have n1_ := Am28 (hb)
    have n2_ := Am28 (ho)
    clear BK261
    clear HB
    clear HO267
    have BK261 := n0_
    have HB := n1_
    have HO270 := n2_
    clear n0_ n1_ n2_
    clear ho hb hg hat
    refine hK.out _ _ ⟨(kc28 BK261.out 0).trans rfl, (kc28 BK261.out 1).trans rfl, (kc28 BK261.out 2).trans rfl, (kc28 BK261.out 3).trans rfl⟩ (fun hHeld => ?_)
    clear hK K
    refine norm_ (a' := ?_) ?_ ?_
    rotate_left
    ·show Act.put _ (some 13) _ = _
     simp only [Act.put, sa28, sz28, ss28, i64_w, i32_w]
     rfl
    refine one_ (i:=9) (N:=some 16) (bb28 11 1023) rfl rfl (one_of HT_.out (by kernel_rfl)) (by decide) (fun K hK => ?_)
    refine Kd.R_append_rows_step (Kd.int .i64) (w0:=w) w.heap.size (by rfl) (.tmp 13) (.tmp 15) 22 3 (.int .i64 0) 8 rfl Try.underlying22 info3 rfl (by decide) (by omega) v269 y268 l0_2 _ _ _ (fun _ => True) (fun _ => False) rfl rfl ?aO ?aR (fun _ _ h => h) (fun _ h => h.elim) ?aF ?aB ?aS ?aL ?_
    (case aR => repeat (first | exact (Kd.C_below HR0_2.out HB.out) | (with_reducible refine Kd.C_alloc ?_ _) | (with_reducible refine Kd.C_drewN ?_ _) | (with_reducible refine Kd.C_drew ?_)))
    (case aB => exact (by repeat (first | (with_reducible first | exact HB.out | apply ba28 | apply bn28 | apply bd28 | refine bs28 ?_ GE261.out) | exact HB.out)))
    (case aF => exact (fun _ _ => trivial))
    (case aO => exact (by (with_reducible repeat first | apply Ra28 | apply Rn28 | apply Rd28); exact HO270.out))
    (case aS => exact (bz28 (by repeat (first | (with_reducible first | exact HB.out | apply ba28 | apply bn28 | apply bd28 | refine bs28 ?_ GE261.out) | exact HB.out))))
    (case aL => have := LMc4.out; omega)
    intro v272 w11 ho hb hg hat
    rw [← Ny271.out] at ho
    have n0_ := Am28 (blk_grown (g:=gb261) (o:=.cells #[.slice A0_0 l0_0.length c0_0, .slice A0_1 l0_1.length c0_1, .slice A0_2 l0_2.length c0_2, .slice A0_3 l0_3.length c0_3] 24 (0, 0)) (by (with_reducible repeat first | apply kn28 | apply kd28 | apply ka28); exact BK261.out) hg (Kd.R_ne HO270.out BK261.out (by decide)))
    have n1_ := Am28 (hb)
    have n2_ := Am28 (ho)
    clear BK261
    clear HB
    clear HO270
    have BK261 := n0_
    have HB := n1_
    have HO273 := n2_
    clear n0_ n1_ n2_
    clear ho hb hg hat
    refine hK.out _ _ ⟨(kc28 BK261.out 0).trans rfl, (kc28 BK261.out 1).trans rfl, (kc28 BK261.out 2).trans rfl, (kc28 BK261.out 3).trans rfl⟩ (fun hHeld => ?_)
    clear hK K
    refine norm_ (a' := ?_) ?_ ?_
    rotate_left
    ·show Act.put _ (some 16) _ = _
     simp only [Act.put, sa28, sz28, ss28, i64_w, i32_w]
     rfl
    refine pure_ (i:=10) (N:=some 3) (v:=?_) (a' := ?_) (bb28 11 2047) rfl rfl (any_of HT_.out (by kernel_rfl)) (fun _ _ _ h => h) (Or.inl ⟨by rfl, ?_⟩) ?_ ?_
    rotate_left
    ·intro w'
     go_simp
     with_reducible rfl
    rotate_left
    ·simp only [Act.put, sa28, sz28, ss28, i64_w, i32_w]
     rfl
    refine done_ (done_of HT_.out (by kernel_rfl)) ?_
    try go_wp2
    go_loopg [3, 4] k (fun kq v3 v4 w' => ∃ (x3_1 : List Int) (x4_1 : List Int), Aside0 (watershedref06_Nodes.l0 kq x3_1 x4_1 = some r) ∧ Aside0 (kq ≤ k) ∧ Aside0 (Kd.R (Kd.int .i64) 3 w' w.heap.size (fun k_ => some k_ ≠ (v4 : Value).ownBlock) v3 x3_1) ∧ Aside0 (Kd.R (Kd.int .i64) 3 w' w.heap.size (fun k_ => some k_ ≠ (v3 : Value).ownBlock) v4 x4_1) ∧ Aside0 (w'.heap[gb261]? = some (.cells #[(.slice A0_0 l0_0.length c0_0), (.slice A0_1 l0_1.length c0_1), (.slice A0_2 l0_2.length c0_2), (.slice A0_3 l0_3.length c0_3)] 24 (0, 0))) ∧ Aside0 (Below w.heap.size w w'))
    case atStart => exact ⟨(y271), (([] : List Int)), H', ⟨Nat.le_refl _⟩, ⟨by (with_reducible repeat first | apply Ra28 | apply Rn28 | apply Rd28); exact Ro28 HO273.out (fun _ hk => (by simp [Value.ownBlock]))⟩, ⟨by first | exact Kd.R_nil _ _ _ _ _ | exact Kd.N_nil _ _ _ _ _ | exact Kd.V_nil _ _ _ _ _ | exact Kd.Q_nil _ _ _ _ _ | exact Kd.S_nil _ _ _ _ _⟩, ⟨by (with_reducible repeat first | apply kn28 | apply kd28 | apply ka28); exact BK261.out⟩, ⟨by repeat (first | (with_reducible first | exact HB.out | apply ba28 | apply bn28 | apply bd28 | refine bs28 ?_ GE261.out) | exact HB.out)⟩⟩
    case round =>
     clear H'
     try clear c2
     try clear p2
     try clear c3
     try clear c4
     obtain ⟨x3_1, x4_1, HA, HK1, HO_3, HO_4, BK261, HB⟩ := hrel
     cases gk with
     | zero => exact absurd HA.out (by simp [watershedref06_Nodes.l0])
     | succ k1 =>
      have H := HA.out
      clear HA
      simp only [watershedref06_Nodes.l0] at H
      by_cases c12 : (x3_1.length : Int) > 0
      ·rw [if_pos c12] at H
       have c12b0 : decide (0 < (x3_1.length : Int)) = true := decide_eq_true c12
       have c12b1 : decide (0 < x3_1.length) = true := decide_eq_true (by omega)
       clear c12
       by_cases c13 : 0 < (x3_1.length : Int)
       ·rw [if_pos c13] at H
        have c13b0 : decide (0 < (x3_1.length : Int)) = true := decide_eq_true c13
        have c13b1 : decide (0 < x3_1.length) = true := decide_eq_true (by omega)
        clear c13
        have H' := Am28 H
        clear H
        obtain ⟨Ao14, co14, eo14⟩ := Kd.R_slice HO_3.out
        subst eo14
        have p274 : 0 ≤ (0 : Int) := (by omega)
        have q274 : 0 < (x3_1.length : Int) := of_decide_eq_true (by first | (with_reducible assumption) | assumption)
        obtain ⟨ad274, e274, hx274_0⟩ := Kd.at_int (Kd.R_reads' HO_3.out).2.2 0 p274 q274
        cases e274
        have qi274 : (0 < x3_1.length) = True := eq_true (by omega)
        (try rw [show ((0 : Int)).toNat = 0 from rfl] at hx274_0)
        (try rw [Addr.add_zero'] at hx274_0)
        replace p274 := eq_true p274
        replace q274 := eq_true q274
        go_wp2
        go_loopg [5, 6] k1 (fun kq v5 v6 w' => ∃ (x5_2 : Int) (x6_2 : Int), v5 = .int .i64 x5_2 ∧ v6 = .int .i64 x6_2 ∧ Aside0 (watershedref06_Nodes.l1 kq x3_1 x4_1 x5_2 x6_2 = some r) ∧ Aside0 (kq ≤ k1) ∧ Aside0 (Kd.R (Kd.int .i64) 3 w' w.heap.size (fun k_ => some k_ ≠ (u4 : Value).ownBlock) (.slice (some ad274) x3_1.length co14) x3_1) ∧ Aside0 (Kd.R (Kd.int .i64) 3 w' w.heap.size (fun k_ => some k_ ≠ ((.slice (some ad274) x3_1.length co14) : Value).ownBlock) u4 x4_1) ∧ Aside0 (w'.heap[gb261]? = some (.cells #[(.slice A0_0 l0_0.length c0_0), (.slice A0_1 l0_1.length c0_1), (.slice A0_2 l0_2.length c0_2), (.slice A0_3 l0_3.length c0_3)] 24 (0, 0))) ∧ Aside0 (Below w.heap.size w w'))
        case atStart => exact ⟨(rd x3_1 0), (0), (by first | rfl | (simp; done) | (simp [*]; done)), (by first | rfl | (simp; done) | (simp [*]; done)), H', ⟨Nat.le_refl _⟩, ⟨by (with_reducible repeat first | apply Ra28 | apply Rn28 | apply Rd28); exact HO_3.out⟩, ⟨by (with_reducible repeat first | apply Ra28 | apply Rn28 | apply Rd28); exact HO_4.out⟩, ⟨by (with_reducible repeat first | apply kn28 | apply kd28 | apply ka28); exact BK261.out⟩, ⟨by repeat (first | (with_reducible first | exact HB.out | apply ba28 | apply bn28 | apply bd28 | refine bs28 ?_ GE261.out) | exact HB.out)⟩⟩
        case round =>
         clear H'
         try clear c1
         try clear c2
         try clear p2
         try clear q2
         try clear hx2
         try clear qi2
         try clear c3
         try clear c4
         try clear c12
         try clear c12b0
         try clear c12b1
         try clear c13
         try clear c13b0
         try clear c13b1
         try clear hx274_0
         try clear p2
         try clear p274
         try clear q274
         obtain ⟨x5_2, x6_2, rfl, rfl, HA, HK2, HO_3, HO_4, BK261, HB⟩ := hrel
         cases gk with
         | zero => exact absurd HA.out (by simp [watershedref06_Nodes.l1])
         | succ k2 =>
          have H := HA.out
          clear HA
          simp only [watershedref06_Nodes.l1] at H
          by_cases c15 : x6_2 < (x3_1.length : Int)
          ·rw [if_pos c15] at H
           have c15b0 : decide (x6_2 < (x3_1.length : Int)) = true := decide_eq_true c15
           clear c15
           by_cases c16 : 0 ≤ x6_2
           ·rw [if_pos c16] at H
            have c16b0 : decide (0 ≤ x6_2) = true := decide_eq_true c16
            clear c16
            obtain ⟨ji17, hji17⟩ : ∃ j_ : Int, (mn x5_2 (rd x3_1 x6_2)) = j_ := ⟨_, rfl⟩
            replace H : (watershedref06_Nodes.l1 k2 x3_1 x4_1 ji17 (wrap64 (x6_2 + 1))) = some r := by first | (rw [hji17] at H; exact H) | (simp only [hji17] at H ⊢; exact H)
            have hji17_ : (if (rd x3_1 x6_2) < x5_2 then (rd x3_1 x6_2) else x5_2) = ji17 := hji17
            have H' := Am28 H
            clear H
            have p275 : 0 ≤ (x6_2 : Int) := of_decide_eq_true (by first | (with_reducible assumption) | assumption)
            have q275 : x6_2 < (x3_1.length : Int) := of_decide_eq_true (by first | (with_reducible assumption) | assumption)
            obtain ⟨ad275, e275, hx275_0⟩ := Kd.at_int (Kd.R_reads' HO_3.out).2.2 x6_2 p275 q275
            obtain rfl : ad274 = ad275 := (by injection e275)
            replace p275 := eq_true p275
            replace q275 := eq_true q275
            go_wp2
            go_roundg k2
            case measure => have := HK1.out; have := HK2.out; omega
            case rel => exact ⟨(ji17), (wrap64 (x6_2 + 1)), (by first | rfl | (simp; done) | (simp only [← hji17] <;> (first | rfl | simp)) | (simp [*]; done)), (by first | rfl | (simp; done) | (simp [*]; done)), H', ⟨by have := HK1.out; have := HK2.out; omega⟩, ⟨by (with_reducible repeat first | apply Ra28 | apply Rn28 | apply Rd28); exact HO_3.out⟩, ⟨by (with_reducible repeat first | apply Ra28 | apply Rn28 | apply Rd28); exact HO_4.out⟩, ⟨by (with_reducible repeat first | apply kn28 | apply kd28 | apply ka28); exact BK261.out⟩, ⟨by repeat (first | (with_reducible first | exact HB.out | apply ba28 | apply bn28 | apply bd28 | refine bs28 ?_ GE261.out) | exact HB.out)⟩⟩
           ·rw [if_neg c16] at H
            exact absurd H (by simp)
          ·rw [if_neg c15] at H
           have c15b0 : decide (x6_2 < (x3_1.length : Int)) = false := decide_eq_false c15
           clear c15
           by_cases c18 : x4_1.length < 17592186044416
           ·rw [if_pos c18] at H
            have LMc18 := Am28 c18
            clear c18
            obtain ⟨y276, hy276⟩ : ∃ y_ : List Int, y_ = (x4_1 ++ [x5_2]) := ⟨_, rfl⟩
            replace H : ((watershedref06_less.f k2 x3_1 (([x5_2] : List Int))).bind fun t282 => (watershedref06_Nodes.l0 k2 t282 y276)) = some r := by first | (rw [hy276]; with_reducible exact H) | (have H2_ := (Option.bind_some _ _).symm.trans H; rw [hy276]; with_reducible exact H2_) | (have H2_ := (Option.bind_some _ _).symm.trans H; with_reducible exact H2_) | with_reducible exact H | (rw [hy276]; exact H) | exact H
            have Ny276 := Am28 hy276
            clear hy276
            obtain ⟨y279, hy279⟩ : ∃ y_ : List Int, y_ = (([x5_2] : List Int)) := ⟨_, rfl⟩
            replace H : ((watershedref06_less.f k2 x3_1 y279).bind fun t282 => (watershedref06_Nodes.l0 k2 t282 y276)) = some r := by first | (rw [hy279]; with_reducible exact H) | (have H2_ := (Option.bind_some _ _).symm.trans H; rw [hy279]; with_reducible exact H2_) | (have H2_ := (Option.bind_some _ _).symm.trans H; with_reducible exact H2_) | with_reducible exact H | (rw [hy279]; exact H) | exact H
            have Ny279 := Am28 hy279
            clear hy279
            replace H := Option.bind_eq_some_iff.mp H
            obtain ⟨t282, A190, H⟩ := H
            try dsimp only at H
            have A19 := Am28 A190
            clear A190
            have H' := Am28 H
            clear H
            go_wp2_with (first | ((with_reducible refine gate_builtin (b:=.append) (xs:=#[.tmp 35, .tmp 37]) rfl ?_); at_builtin; refine Kd.R_append (Kd.int .i64) (w0:=w) w.heap.size rfl (.tmp 35) (.tmp 37) 22 3 (.int .i64 0) 8 rfl Try.underlying22 info3 rfl (by decide) (by omega) u4 x4_1 x5_2 [.int .i64 x5_2] (fun k_ => some k_ ≠ (.slice (some ad274) x3_1.length co14 : Value).ownBlock) (fun _ => False) rfl rfl ?aP (fun _ hk => hk.elim) ?aF ?aO ?aB ?aS ?aL ?_; (case aP => exact rfl); (case aB => exact (by repeat (first | (with_reducible first | exact HB.out | apply ba28 | apply bn28 | apply bd28 | refine bs28 ?_ GE261.out) | exact HB.out))); (case aF => exact (fun k_ hk => Kd.fresh' (Rt28 (by (with_reducible repeat first | apply Ra28 | apply Rn28 | apply Rd28); exact HO_3.out)) k_ hk)); (case aO => exact (by (with_reducible repeat first | apply Ra28 | apply Rn28 | apply Rd28); exact HO_4.out)); (case aS => exact (bz28 (by repeat (first | (with_reducible first | exact HB.out | apply ba28 | apply bn28 | apply bd28 | refine bs28 ?_ GE261.out) | exact HB.out)))); (case aL => have := LMc18.out; omega); intro v277 w20 ho hb hg hat; rw [← Ny276.out] at ho; have n0_ := Am28 (Kd.R_after (ok:=(fun _ => True)) (by (with_reducible repeat first | apply Ra28 | apply Rn28 | apply Rd28); exact Ro28 HO_3.out (fun _ hk => ⟨trivial, hk⟩)) hg hat); have n1_ := Am28 (blk_grown (g:=gb261) (o:=.cells #[.slice A0_0 l0_0.length c0_0, .slice A0_1 l0_1.length c0_1, .slice A0_2 l0_2.length c0_2, .slice A0_3 l0_3.length c0_3] 24 (0, 0)) (by (with_reducible repeat first | apply kn28 | apply kd28 | apply ka28); exact BK261.out) hg (Kd.R_ne HO_4.out BK261.out (by decide))); have n2_ := Am28 (hb); have n3_ := Am28 (ho); clear HO_3; clear BK261; clear HB; clear HO_4; have HO_3 := n0_; have BK261 := n1_; have HB := n2_; have HO278 := n3_; clear n0_ n1_ n2_ n3_; clear ho hb hg hat) | ((with_reducible refine gate_dst (N:=41) rfl ?_); refine Kd.R_lit (Kd.int .i64) _ 3 ?hg (N:=41) ?hd (xs:=([x5_2] : List Int)) (inner:=[.int .i64 x5_2]) (ok:=fun _ => True) (okp:=fun _ => True) ?hr ?hp (fun _ hk => hk) trivial (Below.refl _ _) (Nat.le_refl _) (by simp) ?_; (case hd => rfl); (case hg => rfl); (case hr => first | (go_simp; done) | (go_simp; rfl)); (case hp => exact (Reps.one (show Kd.M (Kd.int .i64) _ _ _ x5_2 [.int .i64 x5_2] from rfl) (Reps.none _ _))); intro v280 w21 ho22 hb hg_ hnew_; clear hg_ hnew_; (first | rw [← Ny279.out] at ho22 | (simp only [Int.reduceToNat] at ho22; rw [← Ny279.out] at ho22)); have HO281 := Am28 (Rl28 (Rw28 (Rw28 ho22 (Rt28 (by (with_reducible repeat first | apply Ra28 | apply Rn28 | apply Rd28); exact HO_3.out))) (Rt28 (by (with_reducible repeat first | apply Ra28 | apply Rn28 | apply Rd28); exact HO278.out))) (bz28 (by repeat (first | (with_reducible first | exact HB.out | apply ba28 | apply bn28 | apply bd28 | refine bs28 ?_ GE261.out) | exact HB.out)))); replace HO_3 := Am28 (Re28 (by (with_reducible repeat first | apply Ra28 | apply Rn28 | apply Rd28); exact HO_3.out) (Ra_28 ho22) hb); replace HO278 := Am28 (Re28 (by (with_reducible repeat first | apply Ra28 | apply Rn28 | apply Rd28); exact HO278.out) (Ra_28 ho22) hb); replace BK261 := Am28 (kb28 (g:=gb261) (o:=.cells #[.slice A0_0 l0_0.length c0_0, .slice A0_1 l0_1.length c0_1, .slice A0_2 l0_2.length c0_2, .slice A0_3 l0_3.length c0_3] 24 (0, 0)) (by (with_reducible repeat first | apply kn28 | apply kd28 | apply ka28); exact BK261.out) hb); replace HB := Am28 (bp28 (by repeat (first | (with_reducible first | exact HB.out | apply ba28 | apply bn28 | apply bd28 | refine bs28 ?_ GE261.out) | exact HB.out)) hb); clear hb ho22; obtain ⟨Ao23, co23, eo23⟩ := Kd.R_slice HO281.out; subst eo23) | ((with_reducible refine gate_callee (f:=45) rfl ?_); refine goesL_ (some 42) rfl rfl Try.func45 (by kernel_rfl) rfl #[.slice (some ad274) x3_1.length co14, .slice Ao23 y279.length co23] rfl (by (try simp only [ma28, mc28, mn28]); first | done | rfl | (simp only [ld28, lt_28]; rfl)) ?_; (with_reducible refine (watershedref06_less.calls k2 _ _ x3_1 _ _ y279 t282 _ ?side1 ?side2 ?side3 ?side4 A19.out).mono ?_); (case side1 => repeat (first | exact (Kd.R_reads' HO_3.out).2.2 | (with_reducible refine Kd.C_alloc ?_ _) | (with_reducible refine Kd.C_drewN ?_ _) | (with_reducible refine Kd.C_drew ?_))); (case side2 => exact (Kd.R_reads' HO_3.out).2.1); (case side3 => repeat (first | exact (Kd.R_reads' HO281.out).2.2 | (with_reducible refine Kd.C_alloc ?_ _) | (with_reducible refine Kd.C_drewN ?_ _) | (with_reducible refine Kd.C_drew ?_))); (case side4 => exact (Kd.R_reads' HO281.out).2.1); rintro e w24 ⟨v283, rfl, ho0, hb⟩; refine ⟨_, rfl, ?_⟩; have HO284 := Am28 (Rl28 (Rw28 (Rw28 (Rw28 ho0 (Rt28 (by (with_reducible repeat first | apply Ra28 | apply Rn28 | apply Rd28); exact HO_3.out))) (Rt28 (by (with_reducible repeat first | apply Ra28 | apply Rn28 | apply Rd28); exact HO278.out))) (Rt28 (by (with_reducible repeat first | apply Ra28 | apply Rn28 | apply Rd28); exact HO281.out))) (bz28 (by repeat (first | (with_reducible first | exact HB.out | apply ba28 | apply bn28 | apply bd28 | refine bs28 ?_ GE261.out) | exact HB.out)))); replace HO_3 := Am28 (Re28 (by (with_reducible repeat first | apply Ra28 | apply Rn28 | apply Rd28); exact HO_3.out) (Ra_28 ho0) hb); replace HO278 := Am28 (Re28 (by (with_reducible repeat first | apply Ra28 | apply Rn28 | apply Rd28); exact HO278.out) (Ra_28 ho0) hb); replace HO281 := Am28 (Re28 (by (with_reducible repeat first | apply Ra28 | apply Rn28 | apply Rd28); exact HO281.out) (Ra_28 ho0) hb); replace BK261 := Am28 (kb28 (g:=gb261) (o:=.cells #[.slice A0_0 l0_0.length c0_0, .slice A0_1 l0_1.length c0_1, .slice A0_2 l0_2.length c0_2, .slice A0_3 l0_3.length c0_3] 24 (0, 0)) (by (with_reducible repeat first | apply kn28 | apply kd28 | apply ka28); exact BK261.out) hb); replace HB := Am28 (bp28 (by repeat (first | (with_reducible first | exact HB.out | apply ba28 | apply bn28 | apply bd28 | refine bs28 ?_ GE261.out) | exact HB.out)) hb); (try clear hb); (try clear hb2); (try clear hk); (try clear hi); (try clear ho0)))
            go_roundg k2
            case measure => have := HK1.out; have := HK2.out; omega
            case rel => exact ⟨(t282), (y276), H', ⟨by have := HK1.out; have := HK2.out; omega⟩, ⟨by (with_reducible repeat first | apply Ra28 | apply Rn28 | apply Rd28); exact Ro28 HO284.out (fun _ hk => hk.1.2)⟩, ⟨by (with_reducible repeat first | apply Ra28 | apply Rn28 | apply Rd28); exact Ro28 HO278.out (fun _ h=>h.2)⟩, ⟨by (with_reducible repeat first | apply kn28 | apply kd28 | apply ka28); exact BK261.out⟩, ⟨by repeat (first | (with_reducible first | exact HB.out | apply ba28 | apply bn28 | apply bd28 | refine bs28 ?_ GE261.out) | exact HB.out)⟩⟩
           ·rw [if_neg c18] at H
            exact absurd H (by simp)
       ·rw [if_neg c13] at H
        exact absurd H (by simp)
      ·rw [if_neg c12] at H
       have c12b0 : decide (0 < (x3_1.length : Int)) = false := decide_eq_false c12
       have c12b1 : decide (0 < x3_1.length) = false := decide_eq_false (by omega)
       clear c12
       obtain rfl := Option.some.inj H
       obtain ⟨Ao25, co25, eo25⟩ := Kd.R_slice HO_3.out
       subst eo25
       go_wp2
       go_ret
       exact ⟨_, by first | rfl | (simp [errW_none, errW_some] <;> rfl) | (simp [*, errW_none, errW_some] <;> rfl), by (with_reducible repeat first | apply Ra28 | apply Rn28 | apply Rd28); exact Ro28 HO_4.out (fun _ hk => trivial), by repeat (first | (with_reducible first | exact HB.out | apply ba28 | apply bn28 | apply bd28 | refine bs28 ?_ GE261.out) | exact HB.out)⟩
   ·rw [if_neg c4] at H
    exact absurd H (by simp)
  ·rw [if_neg c3] at H
   exact absurd H (by simp)
 ·rw [if_neg c2] at H
  exact absurd H (by simp)

/-! ### watershedkit_OverConfig: function 29 -/
-- GIVEN
def watershedkit_OverConfig.f (l0_0 l0_1 l0_2 l0_3 : List Int) : Option Unit := some ()

/-! ### watershedkit_KeptConfig: function 30 -/
-- GIVEN
def watershedkit_KeptConfig.f (l0_0 l0_1 l0_2 l0_3 l1_0 l1_1 l1_2 l1_3 : List Int) : Option Bool := some true

/-! ### watershedkit_KeptInts: function 31 -/
-- GIVEN
def watershedkit_KeptInts.f (l0 l1 : List Int) : Option Bool := some true

-- NOT PRINTED: function 5 (watershedlaw06_QuorumTells)

end Go.Proofs.Ytkilmclncpmjnaa.P06t
