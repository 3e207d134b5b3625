-- Written by gprint.py, a program of this session, over the kit's print; the functions of my own contracts are marked GIVEN
import Derived.Test.YtbmnhpihlkljdaaZEP04ex0
import Derived.Test.YtbmnhpihlkljdaaZEP04ex5
namespace Go.Proofs.Ytbmnhpihlkljdaa.P04e
open Go.RowKit Go.Proofs.YtbmnhpihlkljdaaW.PrintWords Go.Proofs.YtbmnhpihlkljdaaW.PrintLast Go.Proofs.YtbmnhpihlkljdaaW.PrintMore
attribute [local go_sem] max2_str max2_int min2_int max_two min_two max_three min_three max_four min_four   -- for this text's walks alone
set_option linter.unusedVariables false
set_option linter.unusedSimpArgs false

abbrev bb11 (n m : Nat) : Array Bool := ((List.range n).map fun i => m.testBit i).toArray
theorem Am11 : type_of% @Aside0.mk := @Aside0.mk
theorem ba11 : type_of% @below_alloc := @below_alloc
theorem bn11 : type_of% @pw_below_drewN := @pw_below_drewN
theorem bd11 : type_of% @below_drew1 := @below_drew1
theorem bp11 : type_of% @below_step := @below_step
theorem sa11 : type_of% @List.setIfInBounds_toArray := @List.setIfInBounds_toArray
theorem sz11 : type_of% @List.set_cons_zero := @List.set_cons_zero
theorem ss11 : type_of% @List.set_cons_succ := @List.set_cons_succ
theorem ma11 : type_of% @List.map_toArray := @List.map_toArray
theorem mc11 : type_of% @List.map_cons := @List.map_cons
theorem mn11 : type_of% @List.map_nil := @List.map_nil
theorem ld11 : type_of% @List.length_drop := @List.length_drop
theorem lt_11 : type_of% @List.length_take := @List.length_take
/-! ### watershedref04_Parts: function 11 -/
mutual
def watershedref04_Parts.j0 : Nat → List (S26) → Bool → Option (Bool)
 | 0, _, _ => none
 | k + 1, x0, x23 => if x23 = true then (some false) else (watershedref04_Parts.l0 k x0 0)
def watershedref04_Parts.l0 : Nat → List (S26) → Int → Option (Bool)
 | 0, _, _ => none
 | k + 1, x0, x3 => if x3 < (x0.length : Int) then (if 0 ≤ x3 then ((watershedref04_Right.f k ((rd_T26 x0 x3).f0) ((rd_T26 x0 x3).f1)).bind fun t278 => (if t278 = true then (if x3 > 0 then (if 0 ≤ (wrap64 (x3 - 1)) then (if (wrap64 (x3 - 1)) < (x0.length : Int) then (if ((rd_T26 x0 (wrap64 (x3 - 1))).f1).toList = ([] : List UInt8) then (some false) else (if ((rd_T26 x0 (wrap64 (x3 - 1))).f1).toList = ((rd_T26 x0 x3).f0).toList then (watershedref04_Parts.l0 k x0 (wrap64 (x3 + 1))) else (some false))) else (none)) else (none)) else (watershedref04_Parts.l0 k x0 (wrap64 (x3 + 1)))) else (some false))) else (none)) else (some true)
end
def watershedref04_Parts.f (k : Nat) (l0 : List (S26)) : Option (Bool) := if (l0.length : Int) = 0 then (watershedref04_Parts.j0 k l0 true) else (if 0 < (l0.length : Int) then (if ((rd_T26 l0 0).f0).toList = ([] : List UInt8) then (if 0 ≤ (wrap64 ((l0.length : Int) - 1)) then (if (wrap64 ((l0.length : Int) - 1)) < (l0.length : Int) then (watershedref04_Parts.j0 k l0 (((rd_T26 l0 (wrap64 ((l0.length : Int) - 1))).f1).toList != ([] : List UInt8))) else (none)) else (none)) else (watershedref04_Parts.j0 k l0 true)) else (none))
theorem watershedref04_Parts.mono_l : ∀ k, (∀ y0 y1, LeO (watershedref04_Parts.j0 k y0 y1) (watershedref04_Parts.j0 (k + 1) y0 y1)) ∧ (∀ y0 y1, LeO (watershedref04_Parts.l0 k y0 y1) (watershedref04_Parts.l0 (k + 1) y0 y1))
 | 0 => ⟨fun _ _ r h => by simp [watershedref04_Parts.j0] at h, fun _ _ r h => by simp [watershedref04_Parts.l0] at h⟩
 | k + 1 => by
  obtain ⟨ih0, ih1⟩ := watershedref04_Parts.mono_l k
  refine ⟨?_, ?_⟩
  ·intro y0 y1
   unfold watershedref04_Parts.j0
   repeat' first
   | (with_reducible exact ih0 _ _)
   | (with_reducible exact ih1 _ _)
   | (with_reducible exact watershedref04_Right.mono _ _ _)
   | (with_reducible exact LeO.refl _)
   | (with_reducible exact LeO.none _)
   | (with_reducible refine LeO.ite ?_ ?_)
   | (with_reducible refine LeO.bind ?_ (fun _ => ?_))
   | exact ih0 _ _
   | exact ih1 _ _
   | exact watershedref04_Right.mono _ _ _
   | exact LeO.none _
   | refine LeO.ite ?_ ?_
   | refine LeO.bind ?_ (fun _ => ?_)
  ·intro y0 y1
   unfold watershedref04_Parts.l0
   repeat' first
   | (with_reducible exact ih0 _ _)
   | (with_reducible exact ih1 _ _)
   | (with_reducible exact watershedref04_Right.mono _ _ _)
   | (with_reducible exact LeO.refl _)
   | (with_reducible exact LeO.none _)
   | (with_reducible refine LeO.ite ?_ ?_)
   | (with_reducible refine LeO.bind ?_ (fun _ => ?_))
   | exact ih0 _ _
   | exact ih1 _ _
   | exact watershedref04_Right.mono _ _ _
   | exact LeO.none _
   | refine LeO.ite ?_ ?_
   | refine LeO.bind ?_ (fun _ => ?_)
theorem watershedref04_Parts.mono : ∀ a0 k, LeO (watershedref04_Parts.f k a0) (watershedref04_Parts.f (k + 1) a0) := by
 intro a0 k
 obtain ⟨ih0, ih1⟩ := watershedref04_Parts.mono_l k
 unfold watershedref04_Parts.f
 repeat' first
   | (with_reducible exact ih0 _ _)
   | (with_reducible exact ih1 _ _)
   | (with_reducible exact watershedref04_Right.mono _ _ _)
   | (with_reducible exact LeO.refl _)
   | (with_reducible exact LeO.none _)
   | (with_reducible refine LeO.ite ?_ ?_)
   | (with_reducible refine LeO.bind ?_ (fun _ => ?_))
   | exact ih0 _ _
   | exact ih1 _ _
   | exact watershedref04_Right.mono _ _ _
   | exact LeO.none _
   | refine LeO.ite ?_ ?_
   | refine LeO.bind ?_ (fun _ => ?_)
def watershedref04_Parts.T6 : Bool × List (List Nat × List Nat) := (true, [([], []), ([], []), ([0, 1], [0, 1]), ([2], [2]), ([3], [3]), ([4], [4]), ([5, 4], [5]), ([6], [6]), ([7, 6], [6, 7]), ([8, 6, 6], [6, 8]), ([9], [9]), ([9], [9]), ([11, 9], [9, 11]), ([10, 12, 9], [9, 10, 12]), ([13, 9], [9, 13]), ([14, 9], [9, 14]), ([15, 9], [9, 15]), ([16, 9, 9], [9, 16]), ([17], [17]), ([17], [17]), ([19, 17], [17, 19]), ([18, 20, 17], [17, 18, 20]), ([21, 17], [17, 21]), ([22, 17], [17, 22]), ([17], [17]), ([17], [17]), ([24, 25, 17], [17, 24, 25]), ([26, 17], [17, 26]), ([27, 17], [17, 27]), ([23, 28, 17], [17, 23, 28]), ([17, 29, 9], [9, 17, 29]), ([9, 30, 6], [6, 9, 30]), ([6, 31], [6, 31])])
def watershedref04_Parts.B6 : List Nat := [0, 0, 3, 7, 15, 31, 63, 127, 255, 511, 1023, 1023, 3071, 8191, 16383, 32767, 65535, 131071, 262143, 262143, 786431, 2097151, 4194303, 8388607, 262143, 262143, 50593791, 117702655, 251920383, 536870911, 1073741823, 2147483647, 4294967295]
theorem watershedref04_Parts.tab6 : rtab .any (opsOf Try.f11 6) = watershedref04_Parts.T6 := by kernel_rfl
theorem watershedref04_Parts.bits6 : waitsOk watershedref04_Parts.T6.2 watershedref04_Parts.B6 = true := by kernel_rfl
set_option maxHeartbeats 8000000 in
set_option maxRecDepth 100000 in
theorem watershedref04_Parts.calls (k : Nat) (A0 : Option Addr) (c0 : Nat) (l0 : List (S26)) (r : Bool) (w : World) (hr0 : Kd.C k26 w A0 l0.length l0) (hc0 : l0.length ≤ c0) (h : watershedref04_Parts.f k l0 = some r) :
  Calls Try.prog 11 #[.slice A0 l0.length c0] w fun e w' => e = .returned (.bool r) ∧ Below w.heap.size w w' := by
 have hu26 := Try.underlying26
 have HR0 := Am11 hr0
 have HC0 := Am11 hc0
 clear hr0 hc0
 have HB := Am11 (Below.refl w.heap.size w)
 have H : (if (l0.length : Int) = 0 then (watershedref04_Parts.j0 k l0 true) else (if 0 < (l0.length : Int) then (if ((rd_T26 l0 0).f0).toList = ([] : List UInt8) then (if 0 ≤ (wrap64 ((l0.length : Int) - 1)) then (if (wrap64 ((l0.length : Int) - 1)) < (l0.length : Int) then (watershedref04_Parts.j0 k l0 (((rd_T26 l0 (wrap64 ((l0.length : Int) - 1))).f1).toList != ([] : List UInt8))) else (none)) else (none)) else (watershedref04_Parts.j0 k l0 true)) else (none))) = some r := h
 clear h
 have HC2 := Am11 H
 clear H
 go_enter Try.func11, Try.ntmps11
 go_upto_region 1 with (fail)
 go_cut [23] (fun v23 wc => ∃ (kq : Nat) (x23_1 : Bool), v23 = .bool x23_1 ∧ Aside0 (watershedref04_Parts.j0 kq l0 x23_1 = some r) ∧ Aside0 (kq ≤ k) ∧ Aside0 (Below w.heap.size w wc))
 case first =>
  have H := HC2.out
  clear HC2
  by_cases c3 : (l0.length : Int) = 0
  ·rw [if_pos c3] at H
   have c3b0 : ((l0.length : Int) == 0) = true := beq_iff_eq.mpr c3
   have c3b1 : ((l0.length : Int) != 0) = false := bne_eq_false_iff_eq.mpr c3
   clear c3
   (first | rw [c3b0] | (simp only [i64_w, i32_w]; rw [c3b0]) | skip)
   have H' := Am11 H
   clear H
   go_wp2
   go_meet
   case rel => exact ⟨_, (true), (by first | rfl | (simp; done) | (simp [*]; done)), H', ⟨by first | omega | exact Nat.le_refl _⟩, ⟨by repeat (first | (with_reducible first | exact HB.out | apply ba11 | apply bn11 | apply bd11) | exact HB.out)⟩⟩
  ·rw [if_neg c3] at H
   have c3b0 : ((l0.length : Int) == 0) = false := beq_eq_false_iff_ne.mpr c3
   have c3b1 : ((l0.length : Int) != 0) = true := bne_iff_ne.mpr c3
   have c3b2 : ¬ (l0 = []) := fun h_ => c3 (by rw [h_]; rfl)
   (first | rw [c3b0] | (simp only [i64_w, i32_w]; rw [c3b0]) | skip)
   by_cases c4 : 0 < (l0.length : Int)
   ·rw [if_pos c4] at H
    have c4b0 : decide (0 < (l0.length : Int)) = true := decide_eq_true c4
    have c4b1 : decide (0 < l0.length) = true := decide_eq_true (by omega)
    clear c4
    by_cases c5 : ((rd_T26 l0 0).f0).toList = ([] : List UInt8)
    ·rw [if_pos c5] at H
     have c5b0 : (((rd_T26 l0 0).f0).toList == ([] : List UInt8)) = true := beq_iff_eq.mpr c5
     have c5b1 : (((rd_T26 l0 0).f0).toList != ([] : List UInt8)) = false := bne_eq_false_iff_eq.mpr c5
     clear c5
     obtain ⟨ji6, hji6⟩ : ∃ j_ : Int, (wrap64 ((l0.length : Int) - 1)) = j_ := ⟨_, rfl⟩
     replace H : (if 0 ≤ (ji6) then (if (ji6) < (l0.length : Int) then (watershedref04_Parts.j0 k l0 (((rd_T26 l0 (ji6)).f1).toList != ([] : List UInt8))) else (none)) else (none)) = some r := by first | (rw [hji6] at H; exact H) | (simp only [hji6] at H ⊢; exact H)
     have hji6w : (IntKind.i64.wrap ((l0.length : Int) - 1)) = ji6 := (i64_w _).trans hji6
     by_cases c7 : 0 ≤ (ji6)
     ·rw [if_pos c7] at H
      have c7b0 : decide (0 ≤ (ji6)) = true := decide_eq_true c7
      clear c7
      by_cases c8 : (ji6) < (l0.length : Int)
      ·rw [if_pos c8] at H
       have c8b0 : decide ((ji6) < (l0.length : Int)) = true := decide_eq_true c8
       clear c8
       have H' := Am11 H
       clear H
       have p275 : 0 ≤ (0 : Int) := (by omega)
       have q275 : 0 < (l0.length : Int) := of_decide_eq_true (by first | (with_reducible assumption) | assumption)
       obtain ⟨ad275, e275, hx275_0, hx275_1⟩ := at_T26 HR0.out 0 p275 q275
       cases e275
       have qi275 : (0 < l0.length) = True := eq_true (by omega)
       (try rw [show ((0 : Int)).toNat = 0 from rfl] at hx275_0)
       (try rw [show 0 * 2 = 0 from rfl] at hx275_0)
       (try rw [Addr.add_zero'] at hx275_0)
       (try rw [show ((0 : Int)).toNat = 0 from rfl] at hx275_1)
       (try rw [show 0 * 2 = 0 from rfl] at hx275_1)
       (try rw [Addr.add_zero'] at hx275_1)
       replace hx275_0 := (HB.out.cell (World.block_lt_of_cell? w _ hx275_0)).trans hx275_0
       replace hx275_1 := (HB.out.cell (World.block_lt_of_cell? w _ hx275_1)).trans hx275_1
       replace p275 := eq_true p275
       replace q275 := eq_true q275
       have p276 : 0 ≤ ((ji6) : Int) := of_decide_eq_true (by first | (with_reducible assumption) | assumption)
       have q276 : (ji6) < (l0.length : Int) := of_decide_eq_true (by first | (with_reducible assumption) | assumption)
       obtain ⟨ad276, e276, hx276_0, hx276_1⟩ := at_T26 HR0.out (ji6) p276 q276
       obtain rfl : ad275 = ad276 := (by injection e276)
       replace hx276_0 := (HB.out.cell (World.block_lt_of_cell? w _ hx276_0)).trans hx276_0
       replace hx276_1 := (HB.out.cell (World.block_lt_of_cell? w _ hx276_1)).trans hx276_1
       replace p276 := eq_true p276
       replace q276 := eq_true q276
       go_wp2
       go_meet
       case rel => exact ⟨_, ((((rd_T26 l0 (ji6)).f1).toList != ([] : List UInt8))), (by first | rfl | (simp; done) | (simp [ne_nil_str]; done) | (simp only [← hji6] <;> (first | rfl | simp)) | (simp [*]; done)), H', ⟨by first | omega | exact Nat.le_refl _⟩, ⟨by repeat (first | (with_reducible first | exact HB.out | apply ba11 | apply bn11 | apply bd11) | exact HB.out)⟩⟩
      ·rw [if_neg c8] at H
       exact absurd H (by simp)
     ·rw [if_neg c7] at H
      exact absurd H (by simp)
    ·rw [if_neg c5] at H
     have c5b0 : (((rd_T26 l0 0).f0).toList == ([] : List UInt8)) = false := beq_eq_false_iff_ne.mpr c5
     have c5b1 : (((rd_T26 l0 0).f0).toList != ([] : List UInt8)) = true := bne_iff_ne.mpr c5
     have H' := Am11 H
     clear H
     have p275 : 0 ≤ (0 : Int) := (by omega)
     have q275 : 0 < (l0.length : Int) := of_decide_eq_true (by first | (with_reducible assumption) | assumption)
     obtain ⟨ad275, e275, hx275_0, hx275_1⟩ := at_T26 HR0.out 0 p275 q275
     cases e275
     have qi275 : (0 < l0.length) = True := eq_true (by omega)
     (try rw [show ((0 : Int)).toNat = 0 from rfl] at hx275_0)
     (try rw [show 0 * 2 = 0 from rfl] at hx275_0)
     (try rw [Addr.add_zero'] at hx275_0)
     (try rw [show ((0 : Int)).toNat = 0 from rfl] at hx275_1)
     (try rw [show 0 * 2 = 0 from rfl] at hx275_1)
     (try rw [Addr.add_zero'] at hx275_1)
     replace hx275_0 := (HB.out.cell (World.block_lt_of_cell? w _ hx275_0)).trans hx275_0
     replace hx275_1 := (HB.out.cell (World.block_lt_of_cell? w _ hx275_1)).trans hx275_1
     replace p275 := eq_true p275
     replace q275 := eq_true q275
     go_wp2
     go_meet
     case rel => exact ⟨_, (true), (by first | rfl | (simp; done) | (simp [*]; done)), H', ⟨by first | omega | exact Nat.le_refl _⟩, ⟨by repeat (first | (with_reducible first | exact HB.out | apply ba11 | apply bn11 | apply bd11) | exact HB.out)⟩⟩
   ·rw [if_neg c4] at H
    exact absurd H (by simp)
 case rest =>
  clear HC2
  try clear c1
  try clear p2
  try clear q2
  try clear hx2
  try clear qi2
  try clear c3
  try clear c3b0
  try clear c3b1
  try clear c3b2
  try clear c4
  try clear c4b0
  try clear c4b1
  try clear c5
  try clear c5b0
  try clear c5b1
  try clear p6
  try clear c7
  try clear c7b0
  try clear c8
  try clear c8b0
  try clear hx275_0
  try clear hx275_1
  try clear hx276_0
  try clear hx276_1
  try clear p275
  try clear p276
  try clear q275
  try clear q276
  obtain ⟨kq, x23_1, rfl, HA, HJ1, HB⟩ := hcut
  cases kq with
  | zero => exact absurd HA.out (by simp [watershedref04_Parts.j0])
  | succ kj1 =>
   have H := HA.out
   clear HA
   simp only [watershedref04_Parts.j0] at H
   by_cases c9 : x23_1 = true
   ·subst c9
    rw [if_pos rfl] at H
    obtain rfl := Option.some.inj H
    go_wp2
    go_ret
    exact ⟨by first | rfl | (simp [errW_none, errW_some] <;> rfl) | (simp [*, errW_none, errW_some] <;> rfl), by repeat (first | (with_reducible first | exact HB.out | apply ba11 | apply bn11 | apply bd11) | exact HB.out)⟩
   ·replace c9 := Bool.eq_false_iff.mpr c9
    subst c9
    rw [if_neg (show ¬ (false = true) by decide)] at H
    have H' := Am11 H
    clear H
    go_wp2
    go_loopg [3] kj1 (fun kq v3 w' => ∃ (x3_2 : Int), v3 = .int .i64 x3_2 ∧ Aside0 (watershedref04_Parts.l0 kq l0 x3_2 = some r) ∧ Aside0 (kq ≤ kj1) ∧ Aside0 (Below w.heap.size w w'))
    case atStart => exact ⟨(0), (by first | rfl | (simp; done) | (simp [*]; done)), H', ⟨Nat.le_refl _⟩, ⟨by repeat (first | (with_reducible first | exact HB.out | apply ba11 | apply bn11 | apply bd11) | exact HB.out)⟩⟩
    case round =>
     clear H'
     try clear c1
     try clear p2
     try clear q2
     try clear hx2
     try clear qi2
     try clear c3
     try clear c3b0
     try clear c3b1
     try clear c3b2
     try clear c4
     try clear c4b0
     try clear c4b1
     try clear c5
     try clear c5b0
     try clear c5b1
     try clear p6
     try clear c7
     try clear c7b0
     try clear c8
     try clear c8b0
     try clear c9
     try clear hx275_0
     try clear hx275_1
     try clear hx276_0
     try clear hx276_1
     try clear p2
     try clear p275
     try clear p276
     try clear p6
     try clear q2
     try clear q275
     try clear q276
     obtain ⟨x3_2, rfl, HA, HK2, HB⟩ := hrel
     cases gk with
     | zero => exact absurd HA.out (by simp [watershedref04_Parts.l0])
     | succ k2 =>
      have H := HA.out
      clear HA
      simp only [watershedref04_Parts.l0] at H
      by_cases c10 : x3_2 < (l0.length : Int)
      ·rw [if_pos c10] at H
       have c10b0 : decide (x3_2 < (l0.length : Int)) = true := decide_eq_true c10
       clear c10
       by_cases c11 : 0 ≤ x3_2
       ·rw [if_pos c11] at H
        have c11b0 : decide (0 ≤ x3_2) = true := decide_eq_true c11
        clear c11
        replace H := Option.bind_eq_some_iff.mp H
        obtain ⟨t278, A120, H⟩ := H
        try dsimp only at H
        have A12 := Am11 A120
        clear A120
        by_cases c13 : t278 = true
        ·subst c13
         rw [if_pos rfl] at H
         by_cases c14 : x3_2 > 0
         ·rw [if_pos c14] at H
          have c14b0 : decide (0 < x3_2) = true := decide_eq_true c14
          clear c14
          obtain ⟨ji15, hji15⟩ : ∃ j_ : Int, (wrap64 (x3_2 - 1)) = j_ := ⟨_, rfl⟩
          replace H : (if 0 ≤ (ji15) then (if (ji15) < (l0.length : Int) then (if ((rd_T26 l0 (ji15)).f1).toList = ([] : List UInt8) then (some false) else (if ((rd_T26 l0 (ji15)).f1).toList = ((rd_T26 l0 x3_2).f0).toList then (watershedref04_Parts.l0 k2 l0 (wrap64 (x3_2 + 1))) else (some false))) else (none)) else (none)) = some r := by first | (rw [hji15] at H; exact H) | (simp only [hji15] at H ⊢; exact H)
          (try rw [hji15] at A12)
          have hji15w : (IntKind.i64.wrap (x3_2 - 1)) = ji15 := (i64_w _).trans hji15
          by_cases c16 : 0 ≤ (ji15)
          ·rw [if_pos c16] at H
           have c16b0 : decide (0 ≤ (ji15)) = true := decide_eq_true c16
           clear c16
           by_cases c17 : (ji15) < (l0.length : Int)
           ·rw [if_pos c17] at H
            have c17b0 : decide ((ji15) < (l0.length : Int)) = true := decide_eq_true c17
            clear c17
            by_cases c18 : ((rd_T26 l0 (ji15)).f1).toList = ([] : List UInt8)
            ·rw [if_pos c18] at H
             have c18b0 : (((rd_T26 l0 (ji15)).f1).toList == ([] : List UInt8)) = true := beq_iff_eq.mpr c18
             have c18b1 : (((rd_T26 l0 (ji15)).f1).toList != ([] : List UInt8)) = false := bne_eq_false_iff_eq.mpr c18
             clear c18
             obtain rfl := Option.some.inj H
             try go_wp2
             replace HB := Am11 (bd11 HB.out)
             have p277 : 0 ≤ (x3_2 : Int) := of_decide_eq_true (by first | (with_reducible assumption) | assumption)
             have q277 : x3_2 < (l0.length : Int) := of_decide_eq_true (by first | (with_reducible assumption) | assumption)
             obtain ⟨ad277, e277, hx277_0, hx277_1⟩ := at_T26 HR0.out x3_2 p277 q277
             have hw277_1 := hx277_1
             have hw277_0 := hx277_0
             cases e277
             replace hx277_0 := (HB.out.cell (World.block_lt_of_cell? w _ hx277_0)).trans hx277_0
             replace hx277_1 := (HB.out.cell (World.block_lt_of_cell? w _ hx277_1)).trans hx277_1
             replace p277 := eq_true p277
             replace q277 := eq_true q277
             have p279 : 0 ≤ ((ji15) : Int) := of_decide_eq_true (by first | (with_reducible assumption) | assumption)
             have q279 : (ji15) < (l0.length : Int) := of_decide_eq_true (by first | (with_reducible assumption) | assumption)
             obtain ⟨ad279, e279, hx279_0, hx279_1⟩ := at_T26 HR0.out (ji15) p279 q279
             have hw279_1 := hx279_1
             have hw279_0 := hx279_0
             obtain rfl : ad277 = ad279 := (by injection e279)
             replace hx279_0 := (HB.out.cell (World.block_lt_of_cell? w _ hx279_0)).trans hx279_0
             replace hx279_1 := (HB.out.cell (World.block_lt_of_cell? w _ hx279_1)).trans hx279_1
             replace p279 := eq_true p279
             replace q279 := eq_true q279
             refine start_ (n:=33) (S:=fun w' => w'.cell? (ad277.add ((x3_2).toNat * 2)) = some (.string ((rd_T26 l0 x3_2).f0)) ∧ w'.cell? ⟨(ad277.add ((x3_2).toNat * 2)).block, (ad277.add ((x3_2).toNat * 2)).off + 1, none⟩ = some (.string ((rd_T26 l0 x3_2).f1)) ∧ w'.cell? (ad277.add (((ji15)).toNat * 2)) = some (.string ((rd_T26 l0 (ji15)).f0)) ∧ w'.cell? ⟨(ad277.add (((ji15)).toNat * 2)).block, (ad277.add (((ji15)).toNat * 2)).off + 1, none⟩ = some (.string ((rd_T26 l0 (ji15)).f1))) (ds:=[]) (bb11 33 0) (by kernel_rfl) rfl rfl ⟨((HB.out.cell (World.block_lt_of_cell? w _ hw277_0)).trans hw277_0), ((HB.out.cell (World.block_lt_of_cell? w _ hw277_1)).trans hw277_1), ((HB.out.cell (World.block_lt_of_cell? w _ hw279_0)).trans hw279_0), ((HB.out.cell (World.block_lt_of_cell? w _ hw279_1)).trans hw279_1)⟩ (fun hHeld => ?_); refine with_tabW watershedref04_Parts.tab6 watershedref04_Parts.bits6 (fun HT_ HW_ => ?_)
             generalize wr.drew = w19 at HB hx277_0 hx277_1 hx279_0 hx279_1 hHeld ⊢
             refine pure_ (i:=0) (N:=some 30) (v:=?_) (a' := ?_) (bb11 33 1) rfl rfl (any_of HT_.out (by kernel_rfl)) (fun _ _ _ h => h) (Or.inl ⟨by rfl, ?_⟩) ?_ ?_
             rotate_left
             ·intro w'
              go_simp
              with_reducible rfl
             rotate_left
             ·simp only [Act.put, sa11, sz11, ss11, i64_w, i32_w]
              rfl
             refine pure_ (i:=1) (N:=some 31) (v:=?_) (a' := ?_) (bb11 33 3) rfl rfl (any_of HT_.out (by kernel_rfl)) (fun _ _ _ h => h) (Or.inl ⟨by rfl, ?_⟩) ?_ ?_
             rotate_left
             ·intro w'
              go_simp
              with_reducible rfl
             rotate_left
             ·simp only [Act.put, sa11, sz11, ss11, i64_w, i32_w]
              rfl
             refine pure_ (i:=2) (N:=some 32) (v:=?_) (a' := ?_) (bb11 33 7) rfl rfl (any_of HT_.out (by kernel_rfl)) (fun _ _ _ h => h) (Or.inl ⟨by rfl, ?_⟩) ?_ ?_
             rotate_left
             ·intro w'
              go_simp
              with_reducible rfl
             rotate_left
             ·simp only [Act.put, sa11, sz11, ss11, i64_w, i32_w]
              rfl
             refine take_ (i:=3) (N:=some 33) (v:=?_) (a' := ?_) (bb11 33 15) rfl rfl (take_ofW HT_.out HW_.out (by kernel_rfl)) (fun _ _ _ h => h) (Or.inl ⟨by rfl, ?_⟩) hHeld ?_ ?_
             rotate_left
             ·rintro w' ⟨s0, s1, s2, s3⟩
              go_simp
              with_reducible rfl
             rotate_left
             ·simp only [Act.put, sa11, sz11, ss11, i64_w, i32_w]
              rfl
             refine one_ (i:=4) (N:=some 34) (bb11 33 31) rfl rfl (one_of HT_.out (by kernel_rfl)) (by decide) (fun K hK => ?_)
             refine goes_ Try.func17 (by kernel_rfl) rfl #[.agg #[.string ((rd_T26 l0 x3_2).f0), .string ((rd_T26 l0 x3_2).f1)]] (by rfl) rfl rfl (by (try simp only [ma11, mc11, mn11]); first | done | rfl | (simp only [ld11, lt_11]; rfl)) ?_
             with_reducible refine (watershedref04_Right.calls k2 ((rd_T26 l0 x3_2).f0) ((rd_T26 l0 x3_2).f1) true _ A12.out).mono ?_
             rintro e w20 ⟨rfl, hb⟩
             refine ⟨_, rfl, ?_⟩
             have n0_ := Am11 (bp11 (by repeat (first | (with_reducible first | exact HB.out | apply ba11 | apply bn11 | apply bd11) | exact HB.out)) hb)
             clear HB
             have HB := n0_
             clear n0_
             (try clear hb)
             (try clear hb2)
             (try clear hk)
             (try clear hi)
             refine hK.out _ _ ⟨((HB.out.cell (World.block_lt_of_cell? w _ hw277_0)).trans hw277_0), ((HB.out.cell (World.block_lt_of_cell? w _ hw277_1)).trans hw277_1), ((HB.out.cell (World.block_lt_of_cell? w _ hw279_0)).trans hw279_0), ((HB.out.cell (World.block_lt_of_cell? w _ hw279_1)).trans hw279_1)⟩ (fun hHeld => ?_)
             clear hK K
             refine norm_ (a' := ?_) ?_ ?_
             rotate_left
             ·show Act.put _ (some 34) _ = _
              simp only [Act.put, sa11, sz11, ss11, i64_w, i32_w]
              rfl
             refine pure_ (i:=5) (N:=some 35) (v:=?_) (a' := ?_) (bb11 33 63) rfl rfl (any_of HT_.out (by kernel_rfl)) (fun _ _ _ h => h) (Or.inl ⟨by rfl, ?_⟩) ?_ ?_
             rotate_left
             ·intro w'
              go_simp
              with_reducible rfl
             rotate_left
             ·simp only [Act.put, sa11, sz11, ss11, i64_w, i32_w]
              rfl
             refine pure_ (i:=6) (N:=some 36) (v:=?_) (a' := ?_) (bb11 33 127) rfl rfl (any_of HT_.out (by kernel_rfl)) (fun _ _ _ h => h) (Or.inl ⟨by rfl, ?_⟩) ?_ ?_
             rotate_left
             ·intro w'
              go_simp
              with_reducible rfl
             rotate_left
             ·simp only [Act.put, sa11, sz11, ss11, i64_w, i32_w]
              rfl
             refine pure_ (i:=7) (N:=some 37) (v:=?_) (a' := ?_) (bb11 33 255) rfl rfl (any_of HT_.out (by kernel_rfl)) (fun _ _ _ h => h) (Or.inl ⟨by rfl, ?_⟩) ?_ ?_
             rotate_left
             ·intro w'
              go_simp
              with_reducible rfl
             rotate_left
             ·simp only [Act.put, sa11, sz11, ss11, i64_w, i32_w]
              rfl
             refine pure_ (i:=8) (N:=some 38) (v:=?_) (a' := ?_) (bb11 33 511) rfl rfl (any_of HT_.out (by kernel_rfl)) (fun _ _ _ h => h) (Or.inl ⟨by rfl, ?_⟩) ?_ ?_
             rotate_left
             ·intro w'
              go_simp
              with_reducible rfl
             rotate_left
             ·simp only [Act.put, sa11, sz11, ss11, i64_w, i32_w]
              rfl
             refine pure_ (i:=9) (N:=some 39) (v:=?_) (a' := ?_) (bb11 33 1023) rfl rfl (any_of HT_.out (by kernel_rfl)) (fun _ _ _ h => h) (Or.inl ⟨by rfl, ?_⟩) ?_ ?_
             rotate_left
             ·intro w'
              go_simp
              with_reducible rfl
             rotate_left
             ·simp only [Act.put, sa11, sz11, ss11, i64_w, i32_w]
              rfl
             refine pure_ (i:=10) (N:=some 40) (v:=?_) (a' := ?_) (bb11 33 2047) rfl rfl (any_of HT_.out (by kernel_rfl)) (fun _ _ _ h => h) (Or.inl ⟨by rfl, ?_⟩) ?_ ?_
             rotate_left
             ·intro w'
              go_simp
              with_reducible rfl
             rotate_left
             ·simp only [Act.put, sa11, sz11, ss11, i64_w, i32_w]
              rfl
             refine pure_ (i:=11) (N:=some 41) (v:=?_) (a' := ?_) (bb11 33 4095) rfl rfl (any_of HT_.out (by kernel_rfl)) (fun _ _ _ h => h) (Or.inl ⟨by rfl, ?_⟩) ?_ ?_
             rotate_left
             ·intro w'
              go_simp
              with_reducible rfl
             rotate_left
             ·simp only [Act.put, sa11, sz11, ss11, i64_w, i32_w]
              rfl
             refine pure_ (i:=12) (N:=some 42) (v:=?_) (a' := ?_) (bb11 33 8191) rfl rfl (any_of HT_.out (by kernel_rfl)) (fun _ _ _ h => h) (Or.inl ⟨by rfl, ?_⟩) ?_ ?_
             rotate_left
             ·intro w'
              go_simp
              with_reducible rfl
             rotate_left
             ·simp only [Act.put, sa11, sz11, ss11, i64_w, i32_w]
              rfl
             refine pure_ (i:=13) (N:=some 43) (v:=?_) (a' := ?_) (bb11 33 16383) rfl rfl (any_of HT_.out (by kernel_rfl)) (fun _ _ _ h => h) (Or.inl ⟨by rfl, ?_⟩) ?_ ?_
             rotate_left
             ·intro w'
              go_simp
              with_reducible rfl
             rotate_left
             ·simp only [Act.put, sa11, sz11, ss11, i64_w, i32_w]
              rfl
             refine pure_ (i:=14) (N:=some 44) (v:=?_) (a' := ?_) (bb11 33 32767) rfl rfl (any_of HT_.out (by kernel_rfl)) (fun _ _ _ h => h) (Or.inl ⟨by rfl, ?_⟩) ?_ ?_
             rotate_left
             ·intro w'
              go_simp
              with_reducible rfl
             rotate_left
             ·simp only [Act.put, sa11, sz11, ss11, i64_w, i32_w]
              rfl
             refine take_ (i:=15) (N:=some 45) (v:=?_) (a' := ?_) (bb11 33 65535) rfl rfl (take_ofW HT_.out HW_.out (by kernel_rfl)) (fun _ _ _ h => h) (Or.inl ⟨by rfl, ?_⟩) hHeld ?_ ?_
             rotate_left
             ·rintro w' ⟨s0, s1, s2, s3⟩
              go_simp
              with_reducible rfl
             rotate_left
             ·simp only [Act.put, sa11, sz11, ss11, i64_w, i32_w]
              rfl
             refine pure_ (i:=16) (N:=some 46) (v:=?_) (a' := ?_) (bb11 33 131071) rfl rfl (any_of HT_.out (by kernel_rfl)) (fun _ _ _ h => h) (Or.inl ⟨by rfl, ?_⟩) ?_ ?_
             rotate_left
             ·intro w'
              go_simp
              with_reducible rfl
             rotate_left
             ·simp only [Act.put, sa11, sz11, ss11, i64_w, i32_w]
              rfl
             refine pure_ (i:=17) (N:=some 47) (v:=?_) (a' := ?_) (bb11 33 262143) rfl rfl (any_of HT_.out (by kernel_rfl)) (fun _ _ _ h => h) (Or.inl ⟨by rfl, ?_⟩) ?_ ?_
             rotate_left
             ·intro w'
              go_simp
              with_reducible rfl
             rotate_left
             ·simp only [Act.put, sa11, sz11, ss11, i64_w, i32_w]
              rfl
             refine pure_ (i:=18) (N:=some 48) (v:=undef) (a' := ?_) (bb11 33 524287) rfl rfl (any_of HT_.out (by kernel_rfl)) (fun _ _ _ h => h) (Or.inr ⟨by rfl, rfl⟩) ?_ ?_
             rotate_left
             ·simp only [Act.put, sa11, sz11, ss11, i64_w, i32_w]
              rfl
             refine pure_ (i:=19) (N:=some 49) (v:=undef) (a' := ?_) (bb11 33 1048575) rfl rfl (any_of HT_.out (by kernel_rfl)) (fun _ _ _ h => h) (Or.inr ⟨by rfl, rfl⟩) ?_ ?_
             rotate_left
             ·simp only [Act.put, sa11, sz11, ss11, i64_w, i32_w]
              rfl
             refine pure_ (i:=20) (N:=some 50) (v:=undef) (a' := ?_) (bb11 33 2097151) rfl rfl (any_of HT_.out (by kernel_rfl)) (fun _ _ _ h => h) (Or.inr ⟨by rfl, rfl⟩) ?_ ?_
             rotate_left
             ·simp only [Act.put, sa11, sz11, ss11, i64_w, i32_w]
              rfl
             refine pure_ (i:=21) (N:=some 51) (v:=undef) (a' := ?_) (bb11 33 4194303) rfl rfl (any_of HT_.out (by kernel_rfl)) (fun _ _ _ h => h) (Or.inr ⟨by rfl, rfl⟩) ?_ ?_
             rotate_left
             ·simp only [Act.put, sa11, sz11, ss11, i64_w, i32_w]
              rfl
             refine pure_ (i:=22) (N:=some 52) (v:=undef) (a' := ?_) (bb11 33 8388607) rfl rfl (any_of HT_.out (by kernel_rfl)) (fun _ _ _ h => h) (Or.inr ⟨by rfl, rfl⟩) ?_ ?_
             rotate_left
             ·simp only [Act.put, sa11, sz11, ss11, i64_w, i32_w]
              rfl
             refine pure_ (i:=23) (N:=some 53) (v:=undef) (a' := ?_) (bb11 33 16777215) rfl rfl (any_of HT_.out (by kernel_rfl)) (fun _ _ _ h => h) (Or.inr ⟨by rfl, rfl⟩) ?_ ?_
             rotate_left
             ·simp only [Act.put, sa11, sz11, ss11, i64_w, i32_w]
              rfl
             refine pure_ (i:=24) (N:=some 54) (v:=undef) (a' := ?_) (bb11 33 33554431) rfl rfl (any_of HT_.out (by kernel_rfl)) (fun _ _ _ h => h) (Or.inr ⟨by rfl, rfl⟩) ?_ ?_
             rotate_left
             ·simp only [Act.put, sa11, sz11, ss11, i64_w, i32_w]
              rfl
             refine pure_ (i:=25) (N:=some 55) (v:=undef) (a' := ?_) (bb11 33 67108863) rfl rfl (any_of HT_.out (by kernel_rfl)) (fun _ _ _ h => h) (Or.inr ⟨by rfl, rfl⟩) ?_ ?_
             rotate_left
             ·simp only [Act.put, sa11, sz11, ss11, i64_w, i32_w]
              rfl
             refine pure_ (i:=26) (N:=some 56) (v:=undef) (a' := ?_) (bb11 33 134217727) rfl rfl (any_of HT_.out (by kernel_rfl)) (fun _ _ _ h => h) (Or.inr ⟨by rfl, rfl⟩) ?_ ?_
             rotate_left
             ·simp only [Act.put, sa11, sz11, ss11, i64_w, i32_w]
              rfl
             refine pure_ (i:=27) (N:=some 57) (v:=undef) (a' := ?_) (bb11 33 268435455) rfl rfl (any_of HT_.out (by kernel_rfl)) (fun _ _ _ h => h) (Or.inr ⟨by rfl, rfl⟩) ?_ ?_
             rotate_left
             ·simp only [Act.put, sa11, sz11, ss11, i64_w, i32_w]
              rfl
             refine pure_ (i:=28) (N:=some 58) (v:=undef) (a' := ?_) (bb11 33 536870911) rfl rfl (any_of HT_.out (by kernel_rfl)) (fun _ _ _ h => h) (Or.inr ⟨by rfl, rfl⟩) ?_ ?_
             rotate_left
             ·simp only [Act.put, sa11, sz11, ss11, i64_w, i32_w]
              rfl
             refine pure_ (i:=29) (N:=some 59) (v:=undef) (a' := ?_) (bb11 33 1073741823) rfl rfl (any_of HT_.out (by kernel_rfl)) (fun _ _ _ h => h) (Or.inr ⟨by rfl, rfl⟩) ?_ ?_
             rotate_left
             ·simp only [Act.put, sa11, sz11, ss11, i64_w, i32_w]
              rfl
             refine pure_ (i:=30) (N:=some 60) (v:=?_) (a' := ?_) (bb11 33 2147483647) rfl rfl (any_of HT_.out (by kernel_rfl)) (fun _ _ _ h => h) (Or.inl ⟨by rfl, ?_⟩) ?_ ?_
             rotate_left
             ·intro w'
              go_simp
              with_reducible rfl
             rotate_left
             ·simp only [Act.put, sa11, sz11, ss11, i64_w, i32_w]
              rfl
             refine pure_ (i:=31) (N:=some 61) (v:=?_) (a' := ?_) (bb11 33 4294967295) rfl rfl (any_of HT_.out (by kernel_rfl)) (fun _ _ _ h => h) (Or.inl ⟨by rfl, ?_⟩) ?_ ?_
             rotate_left
             ·intro w'
              go_simp
              with_reducible rfl
             rotate_left
             ·simp only [Act.put, sa11, sz11, ss11, i64_w, i32_w]
              rfl
             refine pure_ (i:=32) (N:=some 62) (v:=?_) (a' := ?_) (bb11 33 8589934591) rfl rfl (any_of HT_.out (by kernel_rfl)) (fun _ _ _ h => h) (Or.inl ⟨by rfl, ?_⟩) ?_ ?_
             rotate_left
             ·intro w'
              go_simp
              with_reducible rfl
             rotate_left
             ·simp only [Act.put, sa11, sz11, ss11, i64_w, i32_w]
              rfl
             refine done_ (done_of HT_.out (by kernel_rfl)) ?_
             try go_wp2
             go_ret
             exact ⟨by first | rfl | (simp [errW_none, errW_some] <;> rfl) | (simp only [← hji15]; first | rfl | (simp [errW_none, errW_some] <;> rfl)) | (simp [*, errW_none, errW_some] <;> rfl), by repeat (first | (with_reducible first | exact HB.out | apply ba11 | apply bn11 | apply bd11) | exact HB.out)⟩
            ·rw [if_neg c18] at H
             have c18b0 : (((rd_T26 l0 (ji15)).f1).toList == ([] : List UInt8)) = false := beq_eq_false_iff_ne.mpr c18
             have c18b1 : (((rd_T26 l0 (ji15)).f1).toList != ([] : List UInt8)) = true := bne_iff_ne.mpr c18
             by_cases c21 : ((rd_T26 l0 (ji15)).f1).toList = ((rd_T26 l0 x3_2).f0).toList
             ·rw [if_pos c21] at H
              have c21b0 : (((rd_T26 l0 (ji15)).f1).toList == ((rd_T26 l0 x3_2).f0).toList) = true := beq_iff_eq.mpr c21
              have c21b1 : (((rd_T26 l0 (ji15)).f1).toList != ((rd_T26 l0 x3_2).f0).toList) = false := bne_eq_false_iff_eq.mpr c21
              clear c21
              have H' := Am11 H
              clear H
              try go_wp2
              replace HB := Am11 (bd11 HB.out)
              have p277 : 0 ≤ (x3_2 : Int) := of_decide_eq_true (by first | (with_reducible assumption) | assumption)
              have q277 : x3_2 < (l0.length : Int) := of_decide_eq_true (by first | (with_reducible assumption) | assumption)
              obtain ⟨ad277, e277, hx277_0, hx277_1⟩ := at_T26 HR0.out x3_2 p277 q277
              have hw277_1 := hx277_1
              have hw277_0 := hx277_0
              cases e277
              replace hx277_0 := (HB.out.cell (World.block_lt_of_cell? w _ hx277_0)).trans hx277_0
              replace hx277_1 := (HB.out.cell (World.block_lt_of_cell? w _ hx277_1)).trans hx277_1
              replace p277 := eq_true p277
              replace q277 := eq_true q277
              have p279 : 0 ≤ ((ji15) : Int) := of_decide_eq_true (by first | (with_reducible assumption) | assumption)
              have q279 : (ji15) < (l0.length : Int) := of_decide_eq_true (by first | (with_reducible assumption) | assumption)
              obtain ⟨ad279, e279, hx279_0, hx279_1⟩ := at_T26 HR0.out (ji15) p279 q279
              have hw279_1 := hx279_1
              have hw279_0 := hx279_0
              obtain rfl : ad277 = ad279 := (by injection e279)
              replace hx279_0 := (HB.out.cell (World.block_lt_of_cell? w _ hx279_0)).trans hx279_0
              replace hx279_1 := (HB.out.cell (World.block_lt_of_cell? w _ hx279_1)).trans hx279_1
              replace p279 := eq_true p279
              replace q279 := eq_true q279
              have p280 : 0 ≤ ((ji15) : Int) := of_decide_eq_true (by first | (with_reducible assumption) | assumption)
              have q280 : (ji15) < (l0.length : Int) := of_decide_eq_true (by first | (with_reducible assumption) | assumption)
              obtain ⟨ad280, e280, hx280_0, hx280_1⟩ := at_T26 HR0.out (ji15) p280 q280
              have hw280_1 := hx280_1
              have hw280_0 := hx280_0
              obtain rfl : ad277 = ad280 := (by injection e280)
              replace hx280_0 := (HB.out.cell (World.block_lt_of_cell? w _ hx280_0)).trans hx280_0
              replace hx280_1 := (HB.out.cell (World.block_lt_of_cell? w _ hx280_1)).trans hx280_1
              replace p280 := eq_true p280
              replace q280 := eq_true q280
              have p281 : 0 ≤ (x3_2 : Int) := of_decide_eq_true (by first | (with_reducible assumption) | assumption)
              have q281 : x3_2 < (l0.length : Int) := of_decide_eq_true (by first | (with_reducible assumption) | assumption)
              obtain ⟨ad281, e281, hx281_0, hx281_1⟩ := at_T26 HR0.out x3_2 p281 q281
              have hw281_1 := hx281_1
              have hw281_0 := hx281_0
              obtain rfl : ad277 = ad281 := (by injection e281)
              replace hx281_0 := (HB.out.cell (World.block_lt_of_cell? w _ hx281_0)).trans hx281_0
              replace hx281_1 := (HB.out.cell (World.block_lt_of_cell? w _ hx281_1)).trans hx281_1
              replace p281 := eq_true p281
              replace q281 := eq_true q281
              refine start_ (n:=33) (S:=fun w' => w'.cell? (ad277.add ((x3_2).toNat * 2)) = some (.string ((rd_T26 l0 x3_2).f0)) ∧ w'.cell? ⟨(ad277.add ((x3_2).toNat * 2)).block, (ad277.add ((x3_2).toNat * 2)).off + 1, none⟩ = some (.string ((rd_T26 l0 x3_2).f1)) ∧ w'.cell? (ad277.add (((ji15)).toNat * 2)) = some (.string ((rd_T26 l0 (ji15)).f0)) ∧ w'.cell? ⟨(ad277.add (((ji15)).toNat * 2)).block, (ad277.add (((ji15)).toNat * 2)).off + 1, none⟩ = some (.string ((rd_T26 l0 (ji15)).f1)) ∧ w'.cell? (ad277.add (((ji15)).toNat * 2)) = some (.string ((rd_T26 l0 (ji15)).f0)) ∧ w'.cell? ⟨(ad277.add (((ji15)).toNat * 2)).block, (ad277.add (((ji15)).toNat * 2)).off + 1, none⟩ = some (.string ((rd_T26 l0 (ji15)).f1)) ∧ w'.cell? (ad277.add ((x3_2).toNat * 2)) = some (.string ((rd_T26 l0 x3_2).f0)) ∧ w'.cell? ⟨(ad277.add ((x3_2).toNat * 2)).block, (ad277.add ((x3_2).toNat * 2)).off + 1, none⟩ = some (.string ((rd_T26 l0 x3_2).f1))) (ds:=[]) (bb11 33 0) (by kernel_rfl) rfl rfl ⟨((HB.out.cell (World.block_lt_of_cell? w _ hw277_0)).trans hw277_0), ((HB.out.cell (World.block_lt_of_cell? w _ hw277_1)).trans hw277_1), ((HB.out.cell (World.block_lt_of_cell? w _ hw279_0)).trans hw279_0), ((HB.out.cell (World.block_lt_of_cell? w _ hw279_1)).trans hw279_1), ((HB.out.cell (World.block_lt_of_cell? w _ hw280_0)).trans hw280_0), ((HB.out.cell (World.block_lt_of_cell? w _ hw280_1)).trans hw280_1), ((HB.out.cell (World.block_lt_of_cell? w _ hw281_0)).trans hw281_0), ((HB.out.cell (World.block_lt_of_cell? w _ hw281_1)).trans hw281_1)⟩ (fun hHeld => ?_); refine with_tabW watershedref04_Parts.tab6 watershedref04_Parts.bits6 (fun HT_ HW_ => ?_)
              generalize wr.drew = w22 at HB hx277_0 hx277_1 hx279_0 hx279_1 hx280_0 hx280_1 hx281_0 hx281_1 hHeld ⊢
              refine pure_ (i:=0) (N:=some 30) (v:=?_) (a' := ?_) (bb11 33 1) rfl rfl (any_of HT_.out (by kernel_rfl)) (fun _ _ _ h => h) (Or.inl ⟨by rfl, ?_⟩) ?_ ?_
              rotate_left
              ·intro w'
               go_simp
               with_reducible rfl
              rotate_left
              ·simp only [Act.put, sa11, sz11, ss11, i64_w, i32_w]
               rfl
              refine pure_ (i:=1) (N:=some 31) (v:=?_) (a' := ?_) (bb11 33 3) rfl rfl (any_of HT_.out (by kernel_rfl)) (fun _ _ _ h => h) (Or.inl ⟨by rfl, ?_⟩) ?_ ?_
              rotate_left
              ·intro w'
               go_simp
               with_reducible rfl
              rotate_left
              ·simp only [Act.put, sa11, sz11, ss11, i64_w, i32_w]
               rfl
              refine pure_ (i:=2) (N:=some 32) (v:=?_) (a' := ?_) (bb11 33 7) rfl rfl (any_of HT_.out (by kernel_rfl)) (fun _ _ _ h => h) (Or.inl ⟨by rfl, ?_⟩) ?_ ?_
              rotate_left
              ·intro w'
               go_simp
               with_reducible rfl
              rotate_left
              ·simp only [Act.put, sa11, sz11, ss11, i64_w, i32_w]
               rfl
              refine take_ (i:=3) (N:=some 33) (v:=?_) (a' := ?_) (bb11 33 15) rfl rfl (take_ofW HT_.out HW_.out (by kernel_rfl)) (fun _ _ _ h => h) (Or.inl ⟨by rfl, ?_⟩) hHeld ?_ ?_
              rotate_left
              ·rintro w' ⟨s0, s1, s2, s3, s4, s5, s6, s7⟩
               go_simp
               with_reducible rfl
              rotate_left
              ·simp only [Act.put, sa11, sz11, ss11, i64_w, i32_w]
               rfl
              refine one_ (i:=4) (N:=some 34) (bb11 33 31) rfl rfl (one_of HT_.out (by kernel_rfl)) (by decide) (fun K hK => ?_)
              refine goes_ Try.func17 (by kernel_rfl) rfl #[.agg #[.string ((rd_T26 l0 x3_2).f0), .string ((rd_T26 l0 x3_2).f1)]] (by rfl) rfl rfl (by (try simp only [ma11, mc11, mn11]); first | done | rfl | (simp only [ld11, lt_11]; rfl)) ?_
              with_reducible refine (watershedref04_Right.calls k2 ((rd_T26 l0 x3_2).f0) ((rd_T26 l0 x3_2).f1) true _ A12.out).mono ?_
              rintro e w23 ⟨rfl, hb⟩
              refine ⟨_, rfl, ?_⟩
              have n0_ := Am11 (bp11 (by repeat (first | (with_reducible first | exact HB.out | apply ba11 | apply bn11 | apply bd11) | exact HB.out)) hb)
              clear HB
              have HB := n0_
              clear n0_
              (try clear hb)
              (try clear hb2)
              (try clear hk)
              (try clear hi)
              refine hK.out _ _ ⟨((HB.out.cell (World.block_lt_of_cell? w _ hw277_0)).trans hw277_0), ((HB.out.cell (World.block_lt_of_cell? w _ hw277_1)).trans hw277_1), ((HB.out.cell (World.block_lt_of_cell? w _ hw279_0)).trans hw279_0), ((HB.out.cell (World.block_lt_of_cell? w _ hw279_1)).trans hw279_1), ((HB.out.cell (World.block_lt_of_cell? w _ hw280_0)).trans hw280_0), ((HB.out.cell (World.block_lt_of_cell? w _ hw280_1)).trans hw280_1), ((HB.out.cell (World.block_lt_of_cell? w _ hw281_0)).trans hw281_0), ((HB.out.cell (World.block_lt_of_cell? w _ hw281_1)).trans hw281_1)⟩ (fun hHeld => ?_)
              clear hK K
              refine norm_ (a' := ?_) ?_ ?_
              rotate_left
              ·show Act.put _ (some 34) _ = _
               simp only [Act.put, sa11, sz11, ss11, i64_w, i32_w]
               rfl
              refine pure_ (i:=5) (N:=some 35) (v:=?_) (a' := ?_) (bb11 33 63) rfl rfl (any_of HT_.out (by kernel_rfl)) (fun _ _ _ h => h) (Or.inl ⟨by rfl, ?_⟩) ?_ ?_
              rotate_left
              ·intro w'
               go_simp
               with_reducible rfl
              rotate_left
              ·simp only [Act.put, sa11, sz11, ss11, i64_w, i32_w]
               rfl
              refine pure_ (i:=6) (N:=some 36) (v:=?_) (a' := ?_) (bb11 33 127) rfl rfl (any_of HT_.out (by kernel_rfl)) (fun _ _ _ h => h) (Or.inl ⟨by rfl, ?_⟩) ?_ ?_
              rotate_left
              ·intro w'
               go_simp
               with_reducible rfl
              rotate_left
              ·simp only [Act.put, sa11, sz11, ss11, i64_w, i32_w]
               rfl
              refine pure_ (i:=7) (N:=some 37) (v:=?_) (a' := ?_) (bb11 33 255) rfl rfl (any_of HT_.out (by kernel_rfl)) (fun _ _ _ h => h) (Or.inl ⟨by rfl, ?_⟩) ?_ ?_
              rotate_left
              ·intro w'
               go_simp
               with_reducible rfl
              rotate_left
              ·simp only [Act.put, sa11, sz11, ss11, i64_w, i32_w]
               rfl
              refine pure_ (i:=8) (N:=some 38) (v:=?_) (a' := ?_) (bb11 33 511) rfl rfl (any_of HT_.out (by kernel_rfl)) (fun _ _ _ h => h) (Or.inl ⟨by rfl, ?_⟩) ?_ ?_
              rotate_left
              ·intro w'
               go_simp
               with_reducible rfl
              rotate_left
              ·simp only [Act.put, sa11, sz11, ss11, i64_w, i32_w]
               rfl
              refine pure_ (i:=9) (N:=some 39) (v:=?_) (a' := ?_) (bb11 33 1023) rfl rfl (any_of HT_.out (by kernel_rfl)) (fun _ _ _ h => h) (Or.inl ⟨by rfl, ?_⟩) ?_ ?_
              rotate_left
              ·intro w'
               go_simp
               with_reducible rfl
              rotate_left
              ·simp only [Act.put, sa11, sz11, ss11, i64_w, i32_w]
               rfl
              refine pure_ (i:=10) (N:=some 40) (v:=?_) (a' := ?_) (bb11 33 2047) rfl rfl (any_of HT_.out (by kernel_rfl)) (fun _ _ _ h => h) (Or.inl ⟨by rfl, ?_⟩) ?_ ?_
              rotate_left
              ·intro w'
               go_simp
               with_reducible rfl
              rotate_left
              ·simp only [Act.put, sa11, sz11, ss11, i64_w, i32_w]
               rfl
              refine pure_ (i:=11) (N:=some 41) (v:=?_) (a' := ?_) (bb11 33 4095) rfl rfl (any_of HT_.out (by kernel_rfl)) (fun _ _ _ h => h) (Or.inl ⟨by rfl, ?_⟩) ?_ ?_
              rotate_left
              ·intro w'
               go_simp
               with_reducible rfl
              rotate_left
              ·simp only [Act.put, sa11, sz11, ss11, i64_w, i32_w]
               rfl
              refine pure_ (i:=12) (N:=some 42) (v:=?_) (a' := ?_) (bb11 33 8191) rfl rfl (any_of HT_.out (by kernel_rfl)) (fun _ _ _ h => h) (Or.inl ⟨by rfl, ?_⟩) ?_ ?_
              rotate_left
              ·intro w'
               go_simp
               with_reducible rfl
              rotate_left
              ·simp only [Act.put, sa11, sz11, ss11, i64_w, i32_w]
               rfl
              refine pure_ (i:=13) (N:=some 43) (v:=?_) (a' := ?_) (bb11 33 16383) rfl rfl (any_of HT_.out (by kernel_rfl)) (fun _ _ _ h => h) (Or.inl ⟨by rfl, ?_⟩) ?_ ?_
              rotate_left
              ·intro w'
               go_simp
               with_reducible rfl
              rotate_left
              ·simp only [Act.put, sa11, sz11, ss11, i64_w, i32_w]
               rfl
              refine pure_ (i:=14) (N:=some 44) (v:=?_) (a' := ?_) (bb11 33 32767) rfl rfl (any_of HT_.out (by kernel_rfl)) (fun _ _ _ h => h) (Or.inl ⟨by rfl, ?_⟩) ?_ ?_
              rotate_left
              ·intro w'
               go_simp
               with_reducible rfl
              rotate_left
              ·simp only [Act.put, sa11, sz11, ss11, i64_w, i32_w]
               rfl
              refine take_ (i:=15) (N:=some 45) (v:=?_) (a' := ?_) (bb11 33 65535) rfl rfl (take_ofW HT_.out HW_.out (by kernel_rfl)) (fun _ _ _ h => h) (Or.inl ⟨by rfl, ?_⟩) hHeld ?_ ?_
              rotate_left
              ·rintro w' ⟨s0, s1, s2, s3, s4, s5, s6, s7⟩
               go_simp
               with_reducible rfl
              rotate_left
              ·simp only [Act.put, sa11, sz11, ss11, i64_w, i32_w]
               rfl
              refine pure_ (i:=16) (N:=some 46) (v:=?_) (a' := ?_) (bb11 33 131071) rfl rfl (any_of HT_.out (by kernel_rfl)) (fun _ _ _ h => h) (Or.inl ⟨by rfl, ?_⟩) ?_ ?_
              rotate_left
              ·intro w'
               go_simp
               with_reducible rfl
              rotate_left
              ·simp only [Act.put, sa11, sz11, ss11, i64_w, i32_w]
               rfl
              refine pure_ (i:=17) (N:=some 47) (v:=?_) (a' := ?_) (bb11 33 262143) rfl rfl (any_of HT_.out (by kernel_rfl)) (fun _ _ _ h => h) (Or.inl ⟨by rfl, ?_⟩) ?_ ?_
              rotate_left
              ·intro w'
               go_simp
               with_reducible rfl
              rotate_left
              ·simp only [Act.put, sa11, sz11, ss11, i64_w, i32_w]
               rfl
              refine pure_ (i:=18) (N:=some 48) (v:=?_) (a' := ?_) (bb11 33 524287) rfl rfl (any_of HT_.out (by kernel_rfl)) (fun _ _ _ h => h) (Or.inl ⟨by rfl, ?_⟩) ?_ ?_
              rotate_left
              ·intro w'
               go_simp
               with_reducible rfl
              rotate_left
              ·simp only [Act.put, sa11, sz11, ss11, i64_w, i32_w]
               rfl
              refine pure_ (i:=19) (N:=some 49) (v:=?_) (a' := ?_) (bb11 33 1048575) rfl rfl (any_of HT_.out (by kernel_rfl)) (fun _ _ _ h => h) (Or.inl ⟨by rfl, ?_⟩) ?_ ?_
              rotate_left
              ·intro w'
               go_simp
               with_reducible rfl
              rotate_left
              ·simp only [Act.put, sa11, sz11, ss11, i64_w, i32_w]
               rfl
              refine pure_ (i:=20) (N:=some 50) (v:=?_) (a' := ?_) (bb11 33 2097151) rfl rfl (any_of HT_.out (by kernel_rfl)) (fun _ _ _ h => h) (Or.inl ⟨by rfl, ?_⟩) ?_ ?_
              rotate_left
              ·intro w'
               go_simp
               with_reducible rfl
              rotate_left
              ·simp only [Act.put, sa11, sz11, ss11, i64_w, i32_w]
               rfl
              refine pure_ (i:=21) (N:=some 51) (v:=?_) (a' := ?_) (bb11 33 4194303) rfl rfl (any_of HT_.out (by kernel_rfl)) (fun _ _ _ h => h) (Or.inl ⟨by rfl, ?_⟩) ?_ ?_
              rotate_left
              ·intro w'
               go_simp
               with_reducible rfl
              rotate_left
              ·simp only [Act.put, sa11, sz11, ss11, i64_w, i32_w]
               rfl
              refine pure_ (i:=22) (N:=some 52) (v:=?_) (a' := ?_) (bb11 33 8388607) rfl rfl (any_of HT_.out (by kernel_rfl)) (fun _ _ _ h => h) (Or.inl ⟨by rfl, ?_⟩) ?_ ?_
              rotate_left
              ·intro w'
               go_simp
               with_reducible rfl
              rotate_left
              ·simp only [Act.put, sa11, sz11, ss11, i64_w, i32_w]
               rfl
              refine pure_ (i:=24) (N:=some 54) (v:=?_) (a' := ?_) (bb11 33 25165823) rfl rfl (any_of HT_.out (by kernel_rfl)) (fun _ _ _ h => h) (Or.inl ⟨by rfl, ?_⟩) ?_ ?_
              rotate_left
              ·intro w'
               go_simp
               with_reducible rfl
              rotate_left
              ·simp only [Act.put, sa11, sz11, ss11, i64_w, i32_w]
               rfl
              refine pure_ (i:=25) (N:=some 55) (v:=?_) (a' := ?_) (bb11 33 58720255) rfl rfl (any_of HT_.out (by kernel_rfl)) (fun _ _ _ h => h) (Or.inl ⟨by rfl, ?_⟩) ?_ ?_
              rotate_left
              ·intro w'
               go_simp
               with_reducible rfl
              rotate_left
              ·simp only [Act.put, sa11, sz11, ss11, i64_w, i32_w]
               rfl
              refine pure_ (i:=26) (N:=some 56) (v:=?_) (a' := ?_) (bb11 33 125829119) rfl rfl (any_of HT_.out (by kernel_rfl)) (fun _ _ _ h => h) (Or.inl ⟨by rfl, ?_⟩) ?_ ?_
              rotate_left
              ·intro w'
               go_simp
               with_reducible rfl
              rotate_left
              ·simp only [Act.put, sa11, sz11, ss11, i64_w, i32_w]
               rfl
              refine pure_ (i:=27) (N:=some 57) (v:=?_) (a' := ?_) (bb11 33 260046847) rfl rfl (any_of HT_.out (by kernel_rfl)) (fun _ _ _ h => h) (Or.inl ⟨by rfl, ?_⟩) ?_ ?_
              rotate_left
              ·intro w'
               go_simp
               with_reducible rfl
              rotate_left
              ·simp only [Act.put, sa11, sz11, ss11, i64_w, i32_w]
               rfl
              refine take_ (i:=23) (N:=some 53) (v:=?_) (a' := ?_) (bb11 33 268435455) rfl rfl (take_ofW HT_.out HW_.out (by kernel_rfl)) (fun _ _ _ h => h) (Or.inl ⟨by rfl, ?_⟩) hHeld ?_ ?_
              rotate_left
              ·rintro w' ⟨s0, s1, s2, s3, s4, s5, s6, s7⟩
               go_simp
               with_reducible rfl
              rotate_left
              ·simp only [Act.put, sa11, sz11, ss11, i64_w, i32_w]
               rfl
              refine take_ (i:=28) (N:=some 58) (v:=?_) (a' := ?_) (bb11 33 536870911) rfl rfl (take_ofW HT_.out HW_.out (by kernel_rfl)) (fun _ _ _ h => h) (Or.inl ⟨by rfl, ?_⟩) hHeld ?_ ?_
              rotate_left
              ·rintro w' ⟨s0, s1, s2, s3, s4, s5, s6, s7⟩
               go_simp
               with_reducible rfl
              rotate_left
              ·simp only [Act.put, sa11, sz11, ss11, i64_w, i32_w]
               rfl
              refine pure_ (i:=29) (N:=some 59) (v:=?_) (a' := ?_) (bb11 33 1073741823) rfl rfl (any_of HT_.out (by kernel_rfl)) (fun _ _ _ h => h) (Or.inl ⟨by rfl, ?_⟩) ?_ ?_
              rotate_left
              ·intro w'
               go_simp
               with_reducible rfl
              rotate_left
              ·simp only [Act.put, sa11, sz11, ss11, i64_w, i32_w]
               rfl
              refine pure_ (i:=30) (N:=some 60) (v:=?_) (a' := ?_) (bb11 33 2147483647) rfl rfl (any_of HT_.out (by kernel_rfl)) (fun _ _ _ h => h) (Or.inl ⟨by rfl, ?_⟩) ?_ ?_
              rotate_left
              ·intro w'
               go_simp
               with_reducible rfl
              rotate_left
              ·simp only [Act.put, sa11, sz11, ss11, i64_w, i32_w]
               rfl
              refine pure_ (i:=31) (N:=some 61) (v:=?_) (a' := ?_) (bb11 33 4294967295) rfl rfl (any_of HT_.out (by kernel_rfl)) (fun _ _ _ h => h) (Or.inl ⟨by rfl, ?_⟩) ?_ ?_
              rotate_left
              ·intro w'
               go_simp
               with_reducible rfl
              rotate_left
              ·simp only [Act.put, sa11, sz11, ss11, i64_w, i32_w]
               rfl
              refine pure_ (i:=32) (N:=some 62) (v:=?_) (a' := ?_) (bb11 33 8589934591) rfl rfl (any_of HT_.out (by kernel_rfl)) (fun _ _ _ h => h) (Or.inl ⟨by rfl, ?_⟩) ?_ ?_
              rotate_left
              ·intro w'
               go_simp
               with_reducible rfl
              rotate_left
              ·simp only [Act.put, sa11, sz11, ss11, i64_w, i32_w]
               rfl
              refine done_ (done_of HT_.out (by kernel_rfl)) ?_
              try go_wp2
              go_roundg k2
              case measure => have := HJ1.out; have := HK2.out; omega
              case rel => exact ⟨(wrap64 (x3_2 + 1)), (by first | rfl | (simp; done) | (simp [*]; done)), H', ⟨by have := HJ1.out; have := HK2.out; omega⟩, ⟨by repeat (first | (with_reducible first | exact HB.out | apply ba11 | apply bn11 | apply bd11) | exact HB.out)⟩⟩
             ·rw [if_neg c21] at H
              have c21b0 : (((rd_T26 l0 (ji15)).f1).toList == ((rd_T26 l0 x3_2).f0).toList) = false := beq_eq_false_iff_ne.mpr c21
              have c21b1 : (((rd_T26 l0 (ji15)).f1).toList != ((rd_T26 l0 x3_2).f0).toList) = true := bne_iff_ne.mpr c21
              obtain rfl := Option.some.inj H
              try go_wp2
              replace HB := Am11 (bd11 HB.out)
              have p277 : 0 ≤ (x3_2 : Int) := of_decide_eq_true (by first | (with_reducible assumption) | assumption)
              have q277 : x3_2 < (l0.length : Int) := of_decide_eq_true (by first | (with_reducible assumption) | assumption)
              obtain ⟨ad277, e277, hx277_0, hx277_1⟩ := at_T26 HR0.out x3_2 p277 q277
              have hw277_1 := hx277_1
              have hw277_0 := hx277_0
              cases e277
              replace hx277_0 := (HB.out.cell (World.block_lt_of_cell? w _ hx277_0)).trans hx277_0
              replace hx277_1 := (HB.out.cell (World.block_lt_of_cell? w _ hx277_1)).trans hx277_1
              replace p277 := eq_true p277
              replace q277 := eq_true q277
              have p279 : 0 ≤ ((ji15) : Int) := of_decide_eq_true (by first | (with_reducible assumption) | assumption)
              have q279 : (ji15) < (l0.length : Int) := of_decide_eq_true (by first | (with_reducible assumption) | assumption)
              obtain ⟨ad279, e279, hx279_0, hx279_1⟩ := at_T26 HR0.out (ji15) p279 q279
              have hw279_1 := hx279_1
              have hw279_0 := hx279_0
              obtain rfl : ad277 = ad279 := (by injection e279)
              replace hx279_0 := (HB.out.cell (World.block_lt_of_cell? w _ hx279_0)).trans hx279_0
              replace hx279_1 := (HB.out.cell (World.block_lt_of_cell? w _ hx279_1)).trans hx279_1
              replace p279 := eq_true p279
              replace q279 := eq_true q279
              have p280 : 0 ≤ ((ji15) : Int) := of_decide_eq_true (by first | (with_reducible assumption) | assumption)
              have q280 : (ji15) < (l0.length : Int) := of_decide_eq_true (by first | (with_reducible assumption) | assumption)
              obtain ⟨ad280, e280, hx280_0, hx280_1⟩ := at_T26 HR0.out (ji15) p280 q280
              have hw280_1 := hx280_1
              have hw280_0 := hx280_0
              obtain rfl : ad277 = ad280 := (by injection e280)
              replace hx280_0 := (HB.out.cell (World.block_lt_of_cell? w _ hx280_0)).trans hx280_0
              replace hx280_1 := (HB.out.cell (World.block_lt_of_cell? w _ hx280_1)).trans hx280_1
              replace p280 := eq_true p280
              replace q280 := eq_true q280
              have p281 : 0 ≤ (x3_2 : Int) := of_decide_eq_true (by first | (with_reducible assumption) | assumption)
              have q281 : x3_2 < (l0.length : Int) := of_decide_eq_true (by first | (with_reducible assumption) | assumption)
              obtain ⟨ad281, e281, hx281_0, hx281_1⟩ := at_T26 HR0.out x3_2 p281 q281
              have hw281_1 := hx281_1
              have hw281_0 := hx281_0
              obtain rfl : ad277 = ad281 := (by injection e281)
              replace hx281_0 := (HB.out.cell (World.block_lt_of_cell? w _ hx281_0)).trans hx281_0
              replace hx281_1 := (HB.out.cell (World.block_lt_of_cell? w _ hx281_1)).trans hx281_1
              replace p281 := eq_true p281
              replace q281 := eq_true q281
              refine start_ (n:=33) (S:=fun w' => w'.cell? (ad277.add ((x3_2).toNat * 2)) = some (.string ((rd_T26 l0 x3_2).f0)) ∧ w'.cell? ⟨(ad277.add ((x3_2).toNat * 2)).block, (ad277.add ((x3_2).toNat * 2)).off + 1, none⟩ = some (.string ((rd_T26 l0 x3_2).f1)) ∧ w'.cell? (ad277.add (((ji15)).toNat * 2)) = some (.string ((rd_T26 l0 (ji15)).f0)) ∧ w'.cell? ⟨(ad277.add (((ji15)).toNat * 2)).block, (ad277.add (((ji15)).toNat * 2)).off + 1, none⟩ = some (.string ((rd_T26 l0 (ji15)).f1)) ∧ w'.cell? (ad277.add (((ji15)).toNat * 2)) = some (.string ((rd_T26 l0 (ji15)).f0)) ∧ w'.cell? ⟨(ad277.add (((ji15)).toNat * 2)).block, (ad277.add (((ji15)).toNat * 2)).off + 1, none⟩ = some (.string ((rd_T26 l0 (ji15)).f1)) ∧ w'.cell? (ad277.add ((x3_2).toNat * 2)) = some (.string ((rd_T26 l0 x3_2).f0)) ∧ w'.cell? ⟨(ad277.add ((x3_2).toNat * 2)).block, (ad277.add ((x3_2).toNat * 2)).off + 1, none⟩ = some (.string ((rd_T26 l0 x3_2).f1))) (ds:=[]) (bb11 33 0) (by kernel_rfl) rfl rfl ⟨((HB.out.cell (World.block_lt_of_cell? w _ hw277_0)).trans hw277_0), ((HB.out.cell (World.block_lt_of_cell? w _ hw277_1)).trans hw277_1), ((HB.out.cell (World.block_lt_of_cell? w _ hw279_0)).trans hw279_0), ((HB.out.cell (World.block_lt_of_cell? w _ hw279_1)).trans hw279_1), ((HB.out.cell (World.block_lt_of_cell? w _ hw280_0)).trans hw280_0), ((HB.out.cell (World.block_lt_of_cell? w _ hw280_1)).trans hw280_1), ((HB.out.cell (World.block_lt_of_cell? w _ hw281_0)).trans hw281_0), ((HB.out.cell (World.block_lt_of_cell? w _ hw281_1)).trans hw281_1)⟩ (fun hHeld => ?_); refine with_tabW watershedref04_Parts.tab6 watershedref04_Parts.bits6 (fun HT_ HW_ => ?_)
              generalize wr.drew = w24 at HB hx277_0 hx277_1 hx279_0 hx279_1 hx280_0 hx280_1 hx281_0 hx281_1 hHeld ⊢
              refine pure_ (i:=0) (N:=some 30) (v:=?_) (a' := ?_) (bb11 33 1) rfl rfl (any_of HT_.out (by kernel_rfl)) (fun _ _ _ h => h) (Or.inl ⟨by rfl, ?_⟩) ?_ ?_
              rotate_left
              ·intro w'
               go_simp
               with_reducible rfl
              rotate_left
              ·simp only [Act.put, sa11, sz11, ss11, i64_w, i32_w]
               rfl
              refine pure_ (i:=1) (N:=some 31) (v:=?_) (a' := ?_) (bb11 33 3) rfl rfl (any_of HT_.out (by kernel_rfl)) (fun _ _ _ h => h) (Or.inl ⟨by rfl, ?_⟩) ?_ ?_
              rotate_left
              ·intro w'
               go_simp
               with_reducible rfl
              rotate_left
              ·simp only [Act.put, sa11, sz11, ss11, i64_w, i32_w]
               rfl
              refine pure_ (i:=2) (N:=some 32) (v:=?_) (a' := ?_) (bb11 33 7) rfl rfl (any_of HT_.out (by kernel_rfl)) (fun _ _ _ h => h) (Or.inl ⟨by rfl, ?_⟩) ?_ ?_
              rotate_left
              ·intro w'
               go_simp
               with_reducible rfl
              rotate_left
              ·simp only [Act.put, sa11, sz11, ss11, i64_w, i32_w]
               rfl
              refine take_ (i:=3) (N:=some 33) (v:=?_) (a' := ?_) (bb11 33 15) rfl rfl (take_ofW HT_.out HW_.out (by kernel_rfl)) (fun _ _ _ h => h) (Or.inl ⟨by rfl, ?_⟩) hHeld ?_ ?_
              rotate_left
              ·rintro w' ⟨s0, s1, s2, s3, s4, s5, s6, s7⟩
               go_simp
               with_reducible rfl
              rotate_left
              ·simp only [Act.put, sa11, sz11, ss11, i64_w, i32_w]
               rfl
              refine one_ (i:=4) (N:=some 34) (bb11 33 31) rfl rfl (one_of HT_.out (by kernel_rfl)) (by decide) (fun K hK => ?_)
              refine goes_ Try.func17 (by kernel_rfl) rfl #[.agg #[.string ((rd_T26 l0 x3_2).f0), .string ((rd_T26 l0 x3_2).f1)]] (by rfl) rfl rfl (by (try simp only [ma11, mc11, mn11]); first | done | rfl | (simp only [ld11, lt_11]; rfl)) ?_
              with_reducible refine (watershedref04_Right.calls k2 ((rd_T26 l0 x3_2).f0) ((rd_T26 l0 x3_2).f1) true _ A12.out).mono ?_
              rintro e w25 ⟨rfl, hb⟩
              refine ⟨_, rfl, ?_⟩
              have n0_ := Am11 (bp11 (by repeat (first | (with_reducible first | exact HB.out | apply ba11 | apply bn11 | apply bd11) | exact HB.out)) hb)
              clear HB
              have HB := n0_
              clear n0_
              (try clear hb)
              (try clear hb2)
              (try clear hk)
              (try clear hi)
              refine hK.out _ _ ⟨((HB.out.cell (World.block_lt_of_cell? w _ hw277_0)).trans hw277_0), ((HB.out.cell (World.block_lt_of_cell? w _ hw277_1)).trans hw277_1), ((HB.out.cell (World.block_lt_of_cell? w _ hw279_0)).trans hw279_0), ((HB.out.cell (World.block_lt_of_cell? w _ hw279_1)).trans hw279_1), ((HB.out.cell (World.block_lt_of_cell? w _ hw280_0)).trans hw280_0), ((HB.out.cell (World.block_lt_of_cell? w _ hw280_1)).trans hw280_1), ((HB.out.cell (World.block_lt_of_cell? w _ hw281_0)).trans hw281_0), ((HB.out.cell (World.block_lt_of_cell? w _ hw281_1)).trans hw281_1)⟩ (fun hHeld => ?_)
              clear hK K
              refine norm_ (a' := ?_) ?_ ?_
              rotate_left
              ·show Act.put _ (some 34) _ = _
               simp only [Act.put, sa11, sz11, ss11, i64_w, i32_w]
               rfl
              refine pure_ (i:=5) (N:=some 35) (v:=?_) (a' := ?_) (bb11 33 63) rfl rfl (any_of HT_.out (by kernel_rfl)) (fun _ _ _ h => h) (Or.inl ⟨by rfl, ?_⟩) ?_ ?_
              rotate_left
              ·intro w'
               go_simp
               with_reducible rfl
              rotate_left
              ·simp only [Act.put, sa11, sz11, ss11, i64_w, i32_w]
               rfl
              refine pure_ (i:=6) (N:=some 36) (v:=?_) (a' := ?_) (bb11 33 127) rfl rfl (any_of HT_.out (by kernel_rfl)) (fun _ _ _ h => h) (Or.inl ⟨by rfl, ?_⟩) ?_ ?_
              rotate_left
              ·intro w'
               go_simp
               with_reducible rfl
              rotate_left
              ·simp only [Act.put, sa11, sz11, ss11, i64_w, i32_w]
               rfl
              refine pure_ (i:=7) (N:=some 37) (v:=?_) (a' := ?_) (bb11 33 255) rfl rfl (any_of HT_.out (by kernel_rfl)) (fun _ _ _ h => h) (Or.inl ⟨by rfl, ?_⟩) ?_ ?_
              rotate_left
              ·intro w'
               go_simp
               with_reducible rfl
              rotate_left
              ·simp only [Act.put, sa11, sz11, ss11, i64_w, i32_w]
               rfl
              refine pure_ (i:=8) (N:=some 38) (v:=?_) (a' := ?_) (bb11 33 511) rfl rfl (any_of HT_.out (by kernel_rfl)) (fun _ _ _ h => h) (Or.inl ⟨by rfl, ?_⟩) ?_ ?_
              rotate_left
              ·intro w'
               go_simp
               with_reducible rfl
              rotate_left
              ·simp only [Act.put, sa11, sz11, ss11, i64_w, i32_w]
               rfl
              refine pure_ (i:=9) (N:=some 39) (v:=?_) (a' := ?_) (bb11 33 1023) rfl rfl (any_of HT_.out (by kernel_rfl)) (fun _ _ _ h => h) (Or.inl ⟨by rfl, ?_⟩) ?_ ?_
              rotate_left
              ·intro w'
               go_simp
               with_reducible rfl
              rotate_left
              ·simp only [Act.put, sa11, sz11, ss11, i64_w, i32_w]
               rfl
              refine pure_ (i:=10) (N:=some 40) (v:=?_) (a' := ?_) (bb11 33 2047) rfl rfl (any_of HT_.out (by kernel_rfl)) (fun _ _ _ h => h) (Or.inl ⟨by rfl, ?_⟩) ?_ ?_
              rotate_left
              ·intro w'
               go_simp
               with_reducible rfl
              rotate_left
              ·simp only [Act.put, sa11, sz11, ss11, i64_w, i32_w]
               rfl
              refine pure_ (i:=11) (N:=some 41) (v:=?_) (a' := ?_) (bb11 33 4095) rfl rfl (any_of HT_.out (by kernel_rfl)) (fun _ _ _ h => h) (Or.inl ⟨by rfl, ?_⟩) ?_ ?_
              rotate_left
              ·intro w'
               go_simp
               with_reducible rfl
              rotate_left
              ·simp only [Act.put, sa11, sz11, ss11, i64_w, i32_w]
               rfl
              refine pure_ (i:=12) (N:=some 42) (v:=?_) (a' := ?_) (bb11 33 8191) rfl rfl (any_of HT_.out (by kernel_rfl)) (fun _ _ _ h => h) (Or.inl ⟨by rfl, ?_⟩) ?_ ?_
              rotate_left
              ·intro w'
               go_simp
               with_reducible rfl
              rotate_left
              ·simp only [Act.put, sa11, sz11, ss11, i64_w, i32_w]
               rfl
              refine pure_ (i:=13) (N:=some 43) (v:=?_) (a' := ?_) (bb11 33 16383) rfl rfl (any_of HT_.out (by kernel_rfl)) (fun _ _ _ h => h) (Or.inl ⟨by rfl, ?_⟩) ?_ ?_
              rotate_left
              ·intro w'
               go_simp
               with_reducible rfl
              rotate_left
              ·simp only [Act.put, sa11, sz11, ss11, i64_w, i32_w]
               rfl
              refine pure_ (i:=14) (N:=some 44) (v:=?_) (a' := ?_) (bb11 33 32767) rfl rfl (any_of HT_.out (by kernel_rfl)) (fun _ _ _ h => h) (Or.inl ⟨by rfl, ?_⟩) ?_ ?_
              rotate_left
              ·intro w'
               go_simp
               with_reducible rfl
              rotate_left
              ·simp only [Act.put, sa11, sz11, ss11, i64_w, i32_w]
               rfl
              refine take_ (i:=15) (N:=some 45) (v:=?_) (a' := ?_) (bb11 33 65535) rfl rfl (take_ofW HT_.out HW_.out (by kernel_rfl)) (fun _ _ _ h => h) (Or.inl ⟨by rfl, ?_⟩) hHeld ?_ ?_
              rotate_left
              ·rintro w' ⟨s0, s1, s2, s3, s4, s5, s6, s7⟩
               go_simp
               with_reducible rfl
              rotate_left
              ·simp only [Act.put, sa11, sz11, ss11, i64_w, i32_w]
               rfl
              refine pure_ (i:=16) (N:=some 46) (v:=?_) (a' := ?_) (bb11 33 131071) rfl rfl (any_of HT_.out (by kernel_rfl)) (fun _ _ _ h => h) (Or.inl ⟨by rfl, ?_⟩) ?_ ?_
              rotate_left
              ·intro w'
               go_simp
               with_reducible rfl
              rotate_left
              ·simp only [Act.put, sa11, sz11, ss11, i64_w, i32_w]
               rfl
              refine pure_ (i:=17) (N:=some 47) (v:=?_) (a' := ?_) (bb11 33 262143) rfl rfl (any_of HT_.out (by kernel_rfl)) (fun _ _ _ h => h) (Or.inl ⟨by rfl, ?_⟩) ?_ ?_
              rotate_left
              ·intro w'
               go_simp
               with_reducible rfl
              rotate_left
              ·simp only [Act.put, sa11, sz11, ss11, i64_w, i32_w]
               rfl
              refine pure_ (i:=18) (N:=some 48) (v:=?_) (a' := ?_) (bb11 33 524287) rfl rfl (any_of HT_.out (by kernel_rfl)) (fun _ _ _ h => h) (Or.inl ⟨by rfl, ?_⟩) ?_ ?_
              rotate_left
              ·intro w'
               go_simp
               with_reducible rfl
              rotate_left
              ·simp only [Act.put, sa11, sz11, ss11, i64_w, i32_w]
               rfl
              refine pure_ (i:=19) (N:=some 49) (v:=?_) (a' := ?_) (bb11 33 1048575) rfl rfl (any_of HT_.out (by kernel_rfl)) (fun _ _ _ h => h) (Or.inl ⟨by rfl, ?_⟩) ?_ ?_
              rotate_left
              ·intro w'
               go_simp
               with_reducible rfl
              rotate_left
              ·simp only [Act.put, sa11, sz11, ss11, i64_w, i32_w]
               rfl
              refine pure_ (i:=20) (N:=some 50) (v:=?_) (a' := ?_) (bb11 33 2097151) rfl rfl (any_of HT_.out (by kernel_rfl)) (fun _ _ _ h => h) (Or.inl ⟨by rfl, ?_⟩) ?_ ?_
              rotate_left
              ·intro w'
               go_simp
               with_reducible rfl
              rotate_left
              ·simp only [Act.put, sa11, sz11, ss11, i64_w, i32_w]
               rfl
              refine pure_ (i:=21) (N:=some 51) (v:=?_) (a' := ?_) (bb11 33 4194303) rfl rfl (any_of HT_.out (by kernel_rfl)) (fun _ _ _ h => h) (Or.inl ⟨by rfl, ?_⟩) ?_ ?_
              rotate_left
              ·intro w'
               go_simp
               with_reducible rfl
              rotate_left
              ·simp only [Act.put, sa11, sz11, ss11, i64_w, i32_w]
               rfl
              refine pure_ (i:=22) (N:=some 52) (v:=?_) (a' := ?_) (bb11 33 8388607) rfl rfl (any_of HT_.out (by kernel_rfl)) (fun _ _ _ h => h) (Or.inl ⟨by rfl, ?_⟩) ?_ ?_
              rotate_left
              ·intro w'
               go_simp
               with_reducible rfl
              rotate_left
              ·simp only [Act.put, sa11, sz11, ss11, i64_w, i32_w]
               rfl
              refine pure_ (i:=24) (N:=some 54) (v:=?_) (a' := ?_) (bb11 33 25165823) rfl rfl (any_of HT_.out (by kernel_rfl)) (fun _ _ _ h => h) (Or.inl ⟨by rfl, ?_⟩) ?_ ?_
              rotate_left
              ·intro w'
               go_simp
               with_reducible rfl
              rotate_left
              ·simp only [Act.put, sa11, sz11, ss11, i64_w, i32_w]
               rfl
              refine pure_ (i:=25) (N:=some 55) (v:=?_) (a' := ?_) (bb11 33 58720255) rfl rfl (any_of HT_.out (by kernel_rfl)) (fun _ _ _ h => h) (Or.inl ⟨by rfl, ?_⟩) ?_ ?_
              rotate_left
              ·intro w'
               go_simp
               with_reducible rfl
              rotate_left
              ·simp only [Act.put, sa11, sz11, ss11, i64_w, i32_w]
               rfl
              refine pure_ (i:=26) (N:=some 56) (v:=?_) (a' := ?_) (bb11 33 125829119) rfl rfl (any_of HT_.out (by kernel_rfl)) (fun _ _ _ h => h) (Or.inl ⟨by rfl, ?_⟩) ?_ ?_
              rotate_left
              ·intro w'
               go_simp
               with_reducible rfl
              rotate_left
              ·simp only [Act.put, sa11, sz11, ss11, i64_w, i32_w]
               rfl
              refine pure_ (i:=27) (N:=some 57) (v:=?_) (a' := ?_) (bb11 33 260046847) rfl rfl (any_of HT_.out (by kernel_rfl)) (fun _ _ _ h => h) (Or.inl ⟨by rfl, ?_⟩) ?_ ?_
              rotate_left
              ·intro w'
               go_simp
               with_reducible rfl
              rotate_left
              ·simp only [Act.put, sa11, sz11, ss11, i64_w, i32_w]
               rfl
              refine take_ (i:=23) (N:=some 53) (v:=?_) (a' := ?_) (bb11 33 268435455) rfl rfl (take_ofW HT_.out HW_.out (by kernel_rfl)) (fun _ _ _ h => h) (Or.inl ⟨by rfl, ?_⟩) hHeld ?_ ?_
              rotate_left
              ·rintro w' ⟨s0, s1, s2, s3, s4, s5, s6, s7⟩
               go_simp
               with_reducible rfl
              rotate_left
              ·simp only [Act.put, sa11, sz11, ss11, i64_w, i32_w]
               rfl
              refine take_ (i:=28) (N:=some 58) (v:=?_) (a' := ?_) (bb11 33 536870911) rfl rfl (take_ofW HT_.out HW_.out (by kernel_rfl)) (fun _ _ _ h => h) (Or.inl ⟨by rfl, ?_⟩) hHeld ?_ ?_
              rotate_left
              ·rintro w' ⟨s0, s1, s2, s3, s4, s5, s6, s7⟩
               go_simp
               with_reducible rfl
              rotate_left
              ·simp only [Act.put, sa11, sz11, ss11, i64_w, i32_w]
               rfl
              refine pure_ (i:=29) (N:=some 59) (v:=?_) (a' := ?_) (bb11 33 1073741823) rfl rfl (any_of HT_.out (by kernel_rfl)) (fun _ _ _ h => h) (Or.inl ⟨by rfl, ?_⟩) ?_ ?_
              rotate_left
              ·intro w'
               go_simp
               with_reducible rfl
              rotate_left
              ·simp only [Act.put, sa11, sz11, ss11, i64_w, i32_w]
               rfl
              refine pure_ (i:=30) (N:=some 60) (v:=?_) (a' := ?_) (bb11 33 2147483647) rfl rfl (any_of HT_.out (by kernel_rfl)) (fun _ _ _ h => h) (Or.inl ⟨by rfl, ?_⟩) ?_ ?_
              rotate_left
              ·intro w'
               go_simp
               with_reducible rfl
              rotate_left
              ·simp only [Act.put, sa11, sz11, ss11, i64_w, i32_w]
               rfl
              refine pure_ (i:=31) (N:=some 61) (v:=?_) (a' := ?_) (bb11 33 4294967295) rfl rfl (any_of HT_.out (by kernel_rfl)) (fun _ _ _ h => h) (Or.inl ⟨by rfl, ?_⟩) ?_ ?_
              rotate_left
              ·intro w'
               go_simp
               with_reducible rfl
              rotate_left
              ·simp only [Act.put, sa11, sz11, ss11, i64_w, i32_w]
               rfl
              refine pure_ (i:=32) (N:=some 62) (v:=?_) (a' := ?_) (bb11 33 8589934591) rfl rfl (any_of HT_.out (by kernel_rfl)) (fun _ _ _ h => h) (Or.inl ⟨by rfl, ?_⟩) ?_ ?_
              rotate_left
              ·intro w'
               go_simp
               with_reducible rfl
              rotate_left
              ·simp only [Act.put, sa11, sz11, ss11, i64_w, i32_w]
               rfl
              refine done_ (done_of HT_.out (by kernel_rfl)) ?_
              try go_wp2
              go_ret
              exact ⟨by first | rfl | (simp [errW_none, errW_some] <;> rfl) | (simp only [← hji15]; first | rfl | (simp [errW_none, errW_some] <;> rfl)) | (simp [*, errW_none, errW_some] <;> rfl), by repeat (first | (with_reducible first | exact HB.out | apply ba11 | apply bn11 | apply bd11) | exact HB.out)⟩
           ·rw [if_neg c17] at H
            exact absurd H (by simp)
          ·rw [if_neg c16] at H
           exact absurd H (by simp)
         ·rw [if_neg c14] at H
          have c14b0 : decide (0 < x3_2) = false := decide_eq_false c14
          clear c14
          have H' := Am11 H
          clear H
          try go_wp2
          replace HB := Am11 (bd11 HB.out)
          have p277 : 0 ≤ (x3_2 : Int) := of_decide_eq_true (by first | (with_reducible assumption) | assumption)
          have q277 : x3_2 < (l0.length : Int) := of_decide_eq_true (by first | (with_reducible assumption) | assumption)
          obtain ⟨ad277, e277, hx277_0, hx277_1⟩ := at_T26 HR0.out x3_2 p277 q277
          have hw277_1 := hx277_1
          have hw277_0 := hx277_0
          cases e277
          replace hx277_0 := (HB.out.cell (World.block_lt_of_cell? w _ hx277_0)).trans hx277_0
          replace hx277_1 := (HB.out.cell (World.block_lt_of_cell? w _ hx277_1)).trans hx277_1
          replace p277 := eq_true p277
          replace q277 := eq_true q277
          refine start_ (n:=33) (S:=fun w' => w'.cell? (ad277.add ((x3_2).toNat * 2)) = some (.string ((rd_T26 l0 x3_2).f0)) ∧ w'.cell? ⟨(ad277.add ((x3_2).toNat * 2)).block, (ad277.add ((x3_2).toNat * 2)).off + 1, none⟩ = some (.string ((rd_T26 l0 x3_2).f1))) (ds:=[]) (bb11 33 0) (by kernel_rfl) rfl rfl ⟨((HB.out.cell (World.block_lt_of_cell? w _ hw277_0)).trans hw277_0), ((HB.out.cell (World.block_lt_of_cell? w _ hw277_1)).trans hw277_1)⟩ (fun hHeld => ?_); refine with_tabW watershedref04_Parts.tab6 watershedref04_Parts.bits6 (fun HT_ HW_ => ?_)
          generalize wr.drew = w26 at HB hx277_0 hx277_1 hHeld ⊢
          refine pure_ (i:=0) (N:=some 30) (v:=?_) (a' := ?_) (bb11 33 1) rfl rfl (any_of HT_.out (by kernel_rfl)) (fun _ _ _ h => h) (Or.inl ⟨by rfl, ?_⟩) ?_ ?_
          rotate_left
          ·intro w'
           go_simp
           with_reducible rfl
          rotate_left
          ·simp only [Act.put, sa11, sz11, ss11, i64_w, i32_w]
           rfl
          refine pure_ (i:=1) (N:=some 31) (v:=?_) (a' := ?_) (bb11 33 3) rfl rfl (any_of HT_.out (by kernel_rfl)) (fun _ _ _ h => h) (Or.inl ⟨by rfl, ?_⟩) ?_ ?_
          rotate_left
          ·intro w'
           go_simp
           with_reducible rfl
          rotate_left
          ·simp only [Act.put, sa11, sz11, ss11, i64_w, i32_w]
           rfl
          refine pure_ (i:=2) (N:=some 32) (v:=?_) (a' := ?_) (bb11 33 7) rfl rfl (any_of HT_.out (by kernel_rfl)) (fun _ _ _ h => h) (Or.inl ⟨by rfl, ?_⟩) ?_ ?_
          rotate_left
          ·intro w'
           go_simp
           with_reducible rfl
          rotate_left
          ·simp only [Act.put, sa11, sz11, ss11, i64_w, i32_w]
           rfl
          refine take_ (i:=3) (N:=some 33) (v:=?_) (a' := ?_) (bb11 33 15) rfl rfl (take_ofW HT_.out HW_.out (by kernel_rfl)) (fun _ _ _ h => h) (Or.inl ⟨by rfl, ?_⟩) hHeld ?_ ?_
          rotate_left
          ·rintro w' ⟨s0, s1⟩
           go_simp
           with_reducible rfl
          rotate_left
          ·simp only [Act.put, sa11, sz11, ss11, i64_w, i32_w]
           rfl
          refine one_ (i:=4) (N:=some 34) (bb11 33 31) rfl rfl (one_of HT_.out (by kernel_rfl)) (by decide) (fun K hK => ?_)
          refine goes_ Try.func17 (by kernel_rfl) rfl #[.agg #[.string ((rd_T26 l0 x3_2).f0), .string ((rd_T26 l0 x3_2).f1)]] (by rfl) rfl rfl (by (try simp only [ma11, mc11, mn11]); first | done | rfl | (simp only [ld11, lt_11]; rfl)) ?_
          with_reducible refine (watershedref04_Right.calls k2 ((rd_T26 l0 x3_2).f0) ((rd_T26 l0 x3_2).f1) true _ A12.out).mono ?_
          rintro e w27 ⟨rfl, hb⟩
          refine ⟨_, rfl, ?_⟩
          have n0_ := Am11 (bp11 (by repeat (first | (with_reducible first | exact HB.out | apply ba11 | apply bn11 | apply bd11) | exact HB.out)) hb)
          clear HB
          have HB := n0_
          clear n0_
          (try clear hb)
          (try clear hb2)
          (try clear hk)
          (try clear hi)
          refine hK.out _ _ ⟨((HB.out.cell (World.block_lt_of_cell? w _ hw277_0)).trans hw277_0), ((HB.out.cell (World.block_lt_of_cell? w _ hw277_1)).trans hw277_1)⟩ (fun hHeld => ?_)
          clear hK K
          refine norm_ (a' := ?_) ?_ ?_
          rotate_left
          ·show Act.put _ (some 34) _ = _
           simp only [Act.put, sa11, sz11, ss11, i64_w, i32_w]
           rfl
          refine pure_ (i:=5) (N:=some 35) (v:=?_) (a' := ?_) (bb11 33 63) rfl rfl (any_of HT_.out (by kernel_rfl)) (fun _ _ _ h => h) (Or.inl ⟨by rfl, ?_⟩) ?_ ?_
          rotate_left
          ·intro w'
           go_simp
           with_reducible rfl
          rotate_left
          ·simp only [Act.put, sa11, sz11, ss11, i64_w, i32_w]
           rfl
          refine pure_ (i:=6) (N:=some 36) (v:=?_) (a' := ?_) (bb11 33 127) rfl rfl (any_of HT_.out (by kernel_rfl)) (fun _ _ _ h => h) (Or.inl ⟨by rfl, ?_⟩) ?_ ?_
          rotate_left
          ·intro w'
           go_simp
           with_reducible rfl
          rotate_left
          ·simp only [Act.put, sa11, sz11, ss11, i64_w, i32_w]
           rfl
          refine pure_ (i:=7) (N:=some 37) (v:=?_) (a' := ?_) (bb11 33 255) rfl rfl (any_of HT_.out (by kernel_rfl)) (fun _ _ _ h => h) (Or.inl ⟨by rfl, ?_⟩) ?_ ?_
          rotate_left
          ·intro w'
           go_simp
           with_reducible rfl
          rotate_left
          ·simp only [Act.put, sa11, sz11, ss11, i64_w, i32_w]
           rfl
          refine pure_ (i:=8) (N:=some 38) (v:=?_) (a' := ?_) (bb11 33 511) rfl rfl (any_of HT_.out (by kernel_rfl)) (fun _ _ _ h => h) (Or.inl ⟨by rfl, ?_⟩) ?_ ?_
          rotate_left
          ·intro w'
           go_simp
           with_reducible rfl
          rotate_left
          ·simp only [Act.put, sa11, sz11, ss11, i64_w, i32_w]
           rfl
          refine pure_ (i:=9) (N:=some 39) (v:=?_) (a' := ?_) (bb11 33 1023) rfl rfl (any_of HT_.out (by kernel_rfl)) (fun _ _ _ h => h) (Or.inl ⟨by rfl, ?_⟩) ?_ ?_
          rotate_left
          ·intro w'
           go_simp
           with_reducible rfl
          rotate_left
          ·simp only [Act.put, sa11, sz11, ss11, i64_w, i32_w]
           rfl
          refine pure_ (i:=10) (N:=some 40) (v:=undef) (a' := ?_) (bb11 33 2047) rfl rfl (any_of HT_.out (by kernel_rfl)) (fun _ _ _ h => h) (Or.inr ⟨by rfl, rfl⟩) ?_ ?_
          rotate_left
          ·simp only [Act.put, sa11, sz11, ss11, i64_w, i32_w]
           rfl
          refine pure_ (i:=11) (N:=some 41) (v:=undef) (a' := ?_) (bb11 33 4095) rfl rfl (any_of HT_.out (by kernel_rfl)) (fun _ _ _ h => h) (Or.inr ⟨by rfl, rfl⟩) ?_ ?_
          rotate_left
          ·simp only [Act.put, sa11, sz11, ss11, i64_w, i32_w]
           rfl
          refine pure_ (i:=12) (N:=some 42) (v:=undef) (a' := ?_) (bb11 33 8191) rfl rfl (any_of HT_.out (by kernel_rfl)) (fun _ _ _ h => h) (Or.inr ⟨by rfl, rfl⟩) ?_ ?_
          rotate_left
          ·simp only [Act.put, sa11, sz11, ss11, i64_w, i32_w]
           rfl
          refine pure_ (i:=13) (N:=some 43) (v:=undef) (a' := ?_) (bb11 33 16383) rfl rfl (any_of HT_.out (by kernel_rfl)) (fun _ _ _ h => h) (Or.inr ⟨by rfl, rfl⟩) ?_ ?_
          rotate_left
          ·simp only [Act.put, sa11, sz11, ss11, i64_w, i32_w]
           rfl
          refine pure_ (i:=14) (N:=some 44) (v:=undef) (a' := ?_) (bb11 33 32767) rfl rfl (any_of HT_.out (by kernel_rfl)) (fun _ _ _ h => h) (Or.inr ⟨by rfl, rfl⟩) ?_ ?_
          rotate_left
          ·simp only [Act.put, sa11, sz11, ss11, i64_w, i32_w]
           rfl
          refine pure_ (i:=15) (N:=some 45) (v:=undef) (a' := ?_) (bb11 33 65535) rfl rfl (any_of HT_.out (by kernel_rfl)) (fun _ _ _ h => h) (Or.inr ⟨by rfl, rfl⟩) ?_ ?_
          rotate_left
          ·simp only [Act.put, sa11, sz11, ss11, i64_w, i32_w]
           rfl
          refine pure_ (i:=16) (N:=some 46) (v:=undef) (a' := ?_) (bb11 33 131071) rfl rfl (any_of HT_.out (by kernel_rfl)) (fun _ _ _ h => h) (Or.inr ⟨by rfl, rfl⟩) ?_ ?_
          rotate_left
          ·simp only [Act.put, sa11, sz11, ss11, i64_w, i32_w]
           rfl
          refine pure_ (i:=17) (N:=some 47) (v:=undef) (a' := ?_) (bb11 33 262143) rfl rfl (any_of HT_.out (by kernel_rfl)) (fun _ _ _ h => h) (Or.inr ⟨by rfl, rfl⟩) ?_ ?_
          rotate_left
          ·simp only [Act.put, sa11, sz11, ss11, i64_w, i32_w]
           rfl
          refine pure_ (i:=18) (N:=some 48) (v:=undef) (a' := ?_) (bb11 33 524287) rfl rfl (any_of HT_.out (by kernel_rfl)) (fun _ _ _ h => h) (Or.inr ⟨by rfl, rfl⟩) ?_ ?_
          rotate_left
          ·simp only [Act.put, sa11, sz11, ss11, i64_w, i32_w]
           rfl
          refine pure_ (i:=19) (N:=some 49) (v:=undef) (a' := ?_) (bb11 33 1048575) rfl rfl (any_of HT_.out (by kernel_rfl)) (fun _ _ _ h => h) (Or.inr ⟨by rfl, rfl⟩) ?_ ?_
          rotate_left
          ·simp only [Act.put, sa11, sz11, ss11, i64_w, i32_w]
           rfl
          refine pure_ (i:=20) (N:=some 50) (v:=undef) (a' := ?_) (bb11 33 2097151) rfl rfl (any_of HT_.out (by kernel_rfl)) (fun _ _ _ h => h) (Or.inr ⟨by rfl, rfl⟩) ?_ ?_
          rotate_left
          ·simp only [Act.put, sa11, sz11, ss11, i64_w, i32_w]
           rfl
          refine pure_ (i:=21) (N:=some 51) (v:=undef) (a' := ?_) (bb11 33 4194303) rfl rfl (any_of HT_.out (by kernel_rfl)) (fun _ _ _ h => h) (Or.inr ⟨by rfl, rfl⟩) ?_ ?_
          rotate_left
          ·simp only [Act.put, sa11, sz11, ss11, i64_w, i32_w]
           rfl
          refine pure_ (i:=22) (N:=some 52) (v:=undef) (a' := ?_) (bb11 33 8388607) rfl rfl (any_of HT_.out (by kernel_rfl)) (fun _ _ _ h => h) (Or.inr ⟨by rfl, rfl⟩) ?_ ?_
          rotate_left
          ·simp only [Act.put, sa11, sz11, ss11, i64_w, i32_w]
           rfl
          refine pure_ (i:=23) (N:=some 53) (v:=undef) (a' := ?_) (bb11 33 16777215) rfl rfl (any_of HT_.out (by kernel_rfl)) (fun _ _ _ h => h) (Or.inr ⟨by rfl, rfl⟩) ?_ ?_
          rotate_left
          ·simp only [Act.put, sa11, sz11, ss11, i64_w, i32_w]
           rfl
          refine pure_ (i:=24) (N:=some 54) (v:=undef) (a' := ?_) (bb11 33 33554431) rfl rfl (any_of HT_.out (by kernel_rfl)) (fun _ _ _ h => h) (Or.inr ⟨by rfl, rfl⟩) ?_ ?_
          rotate_left
          ·simp only [Act.put, sa11, sz11, ss11, i64_w, i32_w]
           rfl
          refine pure_ (i:=25) (N:=some 55) (v:=undef) (a' := ?_) (bb11 33 67108863) rfl rfl (any_of HT_.out (by kernel_rfl)) (fun _ _ _ h => h) (Or.inr ⟨by rfl, rfl⟩) ?_ ?_
          rotate_left
          ·simp only [Act.put, sa11, sz11, ss11, i64_w, i32_w]
           rfl
          refine pure_ (i:=26) (N:=some 56) (v:=undef) (a' := ?_) (bb11 33 134217727) rfl rfl (any_of HT_.out (by kernel_rfl)) (fun _ _ _ h => h) (Or.inr ⟨by rfl, rfl⟩) ?_ ?_
          rotate_left
          ·simp only [Act.put, sa11, sz11, ss11, i64_w, i32_w]
           rfl
          refine pure_ (i:=27) (N:=some 57) (v:=undef) (a' := ?_) (bb11 33 268435455) rfl rfl (any_of HT_.out (by kernel_rfl)) (fun _ _ _ h => h) (Or.inr ⟨by rfl, rfl⟩) ?_ ?_
          rotate_left
          ·simp only [Act.put, sa11, sz11, ss11, i64_w, i32_w]
           rfl
          refine pure_ (i:=28) (N:=some 58) (v:=undef) (a' := ?_) (bb11 33 536870911) rfl rfl (any_of HT_.out (by kernel_rfl)) (fun _ _ _ h => h) (Or.inr ⟨by rfl, rfl⟩) ?_ ?_
          rotate_left
          ·simp only [Act.put, sa11, sz11, ss11, i64_w, i32_w]
           rfl
          refine pure_ (i:=29) (N:=some 59) (v:=undef) (a' := ?_) (bb11 33 1073741823) rfl rfl (any_of HT_.out (by kernel_rfl)) (fun _ _ _ h => h) (Or.inr ⟨by rfl, rfl⟩) ?_ ?_
          rotate_left
          ·simp only [Act.put, sa11, sz11, ss11, i64_w, i32_w]
           rfl
          refine pure_ (i:=30) (N:=some 60) (v:=undef) (a' := ?_) (bb11 33 2147483647) rfl rfl (any_of HT_.out (by kernel_rfl)) (fun _ _ _ h => h) (Or.inr ⟨by rfl, rfl⟩) ?_ ?_
          rotate_left
          ·simp only [Act.put, sa11, sz11, ss11, i64_w, i32_w]
           rfl
          refine pure_ (i:=31) (N:=some 61) (v:=?_) (a' := ?_) (bb11 33 4294967295) rfl rfl (any_of HT_.out (by kernel_rfl)) (fun _ _ _ h => h) (Or.inl ⟨by rfl, ?_⟩) ?_ ?_
          rotate_left
          ·intro w'
           go_simp
           with_reducible rfl
          rotate_left
          ·simp only [Act.put, sa11, sz11, ss11, i64_w, i32_w]
           rfl
          refine pure_ (i:=32) (N:=some 62) (v:=?_) (a' := ?_) (bb11 33 8589934591) rfl rfl (any_of HT_.out (by kernel_rfl)) (fun _ _ _ h => h) (Or.inl ⟨by rfl, ?_⟩) ?_ ?_
          rotate_left
          ·intro w'
           go_simp
           with_reducible rfl
          rotate_left
          ·simp only [Act.put, sa11, sz11, ss11, i64_w, i32_w]
           rfl
          refine done_ (done_of HT_.out (by kernel_rfl)) ?_
          try go_wp2
          go_roundg k2
          case measure => have := HJ1.out; have := HK2.out; omega
          case rel => exact ⟨(wrap64 (x3_2 + 1)), (by first | rfl | (simp; done) | (simp [*]; done)), H', ⟨by have := HJ1.out; have := HK2.out; omega⟩, ⟨by repeat (first | (with_reducible first | exact HB.out | apply ba11 | apply bn11 | apply bd11) | exact HB.out)⟩⟩
        ·replace c13 := Bool.eq_false_iff.mpr c13
         subst c13
         rw [if_neg (show ¬ (false = true) by decide)] at H
         obtain rfl := Option.some.inj H
         try go_wp2
         replace HB := Am11 (bd11 HB.out)
         have p277 : 0 ≤ (x3_2 : Int) := of_decide_eq_true (by first | (with_reducible assumption) | assumption)
         have q277 : x3_2 < (l0.length : Int) := of_decide_eq_true (by first | (with_reducible assumption) | assumption)
         obtain ⟨ad277, e277, hx277_0, hx277_1⟩ := at_T26 HR0.out x3_2 p277 q277
         have hw277_1 := hx277_1
         have hw277_0 := hx277_0
         cases e277
         replace hx277_0 := (HB.out.cell (World.block_lt_of_cell? w _ hx277_0)).trans hx277_0
         replace hx277_1 := (HB.out.cell (World.block_lt_of_cell? w _ hx277_1)).trans hx277_1
         replace p277 := eq_true p277
         replace q277 := eq_true q277
         refine start_ (n:=33) (S:=fun w' => w'.cell? (ad277.add ((x3_2).toNat * 2)) = some (.string ((rd_T26 l0 x3_2).f0)) ∧ w'.cell? ⟨(ad277.add ((x3_2).toNat * 2)).block, (ad277.add ((x3_2).toNat * 2)).off + 1, none⟩ = some (.string ((rd_T26 l0 x3_2).f1))) (ds:=[]) (bb11 33 0) (by kernel_rfl) rfl rfl ⟨((HB.out.cell (World.block_lt_of_cell? w _ hw277_0)).trans hw277_0), ((HB.out.cell (World.block_lt_of_cell? w _ hw277_1)).trans hw277_1)⟩ (fun hHeld => ?_); refine with_tabW watershedref04_Parts.tab6 watershedref04_Parts.bits6 (fun HT_ HW_ => ?_)
         generalize wr.drew = w28 at HB hx277_0 hx277_1 hHeld ⊢
         refine pure_ (i:=0) (N:=some 30) (v:=?_) (a' := ?_) (bb11 33 1) rfl rfl (any_of HT_.out (by kernel_rfl)) (fun _ _ _ h => h) (Or.inl ⟨by rfl, ?_⟩) ?_ ?_
         rotate_left
         ·intro w'
          go_simp
          with_reducible rfl
         rotate_left
         ·simp only [Act.put, sa11, sz11, ss11, i64_w, i32_w]
          rfl
         refine pure_ (i:=1) (N:=some 31) (v:=?_) (a' := ?_) (bb11 33 3) rfl rfl (any_of HT_.out (by kernel_rfl)) (fun _ _ _ h => h) (Or.inl ⟨by rfl, ?_⟩) ?_ ?_
         rotate_left
         ·intro w'
          go_simp
          with_reducible rfl
         rotate_left
         ·simp only [Act.put, sa11, sz11, ss11, i64_w, i32_w]
          rfl
         refine pure_ (i:=2) (N:=some 32) (v:=?_) (a' := ?_) (bb11 33 7) rfl rfl (any_of HT_.out (by kernel_rfl)) (fun _ _ _ h => h) (Or.inl ⟨by rfl, ?_⟩) ?_ ?_
         rotate_left
         ·intro w'
          go_simp
          with_reducible rfl
         rotate_left
         ·simp only [Act.put, sa11, sz11, ss11, i64_w, i32_w]
          rfl
         refine take_ (i:=3) (N:=some 33) (v:=?_) (a' := ?_) (bb11 33 15) rfl rfl (take_ofW HT_.out HW_.out (by kernel_rfl)) (fun _ _ _ h => h) (Or.inl ⟨by rfl, ?_⟩) hHeld ?_ ?_
         rotate_left
         ·rintro w' ⟨s0, s1⟩
          go_simp
          with_reducible rfl
         rotate_left
         ·simp only [Act.put, sa11, sz11, ss11, i64_w, i32_w]
          rfl
         refine one_ (i:=4) (N:=some 34) (bb11 33 31) rfl rfl (one_of HT_.out (by kernel_rfl)) (by decide) (fun K hK => ?_)
         refine goes_ Try.func17 (by kernel_rfl) rfl #[.agg #[.string ((rd_T26 l0 x3_2).f0), .string ((rd_T26 l0 x3_2).f1)]] (by rfl) rfl rfl (by (try simp only [ma11, mc11, mn11]); first | done | rfl | (simp only [ld11, lt_11]; rfl)) ?_
         with_reducible refine (watershedref04_Right.calls k2 ((rd_T26 l0 x3_2).f0) ((rd_T26 l0 x3_2).f1) false _ A12.out).mono ?_
         rintro e w29 ⟨rfl, hb⟩
         refine ⟨_, rfl, ?_⟩
         have n0_ := Am11 (bp11 (by repeat (first | (with_reducible first | exact HB.out | apply ba11 | apply bn11 | apply bd11) | exact HB.out)) hb)
         clear HB
         have HB := n0_
         clear n0_
         (try clear hb)
         (try clear hb2)
         (try clear hk)
         (try clear hi)
         refine hK.out _ _ ⟨((HB.out.cell (World.block_lt_of_cell? w _ hw277_0)).trans hw277_0), ((HB.out.cell (World.block_lt_of_cell? w _ hw277_1)).trans hw277_1)⟩ (fun hHeld => ?_)
         clear hK K
         refine norm_ (a' := ?_) ?_ ?_
         rotate_left
         ·show Act.put _ (some 34) _ = _
          simp only [Act.put, sa11, sz11, ss11, i64_w, i32_w]
          rfl
         refine pure_ (i:=5) (N:=some 35) (v:=?_) (a' := ?_) (bb11 33 63) rfl rfl (any_of HT_.out (by kernel_rfl)) (fun _ _ _ h => h) (Or.inl ⟨by rfl, ?_⟩) ?_ ?_
         rotate_left
         ·intro w'
          go_simp
          with_reducible rfl
         rotate_left
         ·simp only [Act.put, sa11, sz11, ss11, i64_w, i32_w]
          rfl
         refine pure_ (i:=6) (N:=some 36) (v:=?_) (a' := ?_) (bb11 33 127) rfl rfl (any_of HT_.out (by kernel_rfl)) (fun _ _ _ h => h) (Or.inl ⟨by rfl, ?_⟩) ?_ ?_
         rotate_left
         ·intro w'
          go_simp
          with_reducible rfl
         rotate_left
         ·simp only [Act.put, sa11, sz11, ss11, i64_w, i32_w]
          rfl
         refine pure_ (i:=7) (N:=some 37) (v:=undef) (a' := ?_) (bb11 33 255) rfl rfl (any_of HT_.out (by kernel_rfl)) (fun _ _ _ h => h) (Or.inr ⟨by rfl, rfl⟩) ?_ ?_
         rotate_left
         ·simp only [Act.put, sa11, sz11, ss11, i64_w, i32_w]
          rfl
         refine pure_ (i:=8) (N:=some 38) (v:=undef) (a' := ?_) (bb11 33 511) rfl rfl (any_of HT_.out (by kernel_rfl)) (fun _ _ _ h => h) (Or.inr ⟨by rfl, rfl⟩) ?_ ?_
         rotate_left
         ·simp only [Act.put, sa11, sz11, ss11, i64_w, i32_w]
          rfl
         refine pure_ (i:=9) (N:=some 39) (v:=undef) (a' := ?_) (bb11 33 1023) rfl rfl (any_of HT_.out (by kernel_rfl)) (fun _ _ _ h => h) (Or.inr ⟨by rfl, rfl⟩) ?_ ?_
         rotate_left
         ·simp only [Act.put, sa11, sz11, ss11, i64_w, i32_w]
          rfl
         refine pure_ (i:=10) (N:=some 40) (v:=undef) (a' := ?_) (bb11 33 2047) rfl rfl (any_of HT_.out (by kernel_rfl)) (fun _ _ _ h => h) (Or.inr ⟨by rfl, rfl⟩) ?_ ?_
         rotate_left
         ·simp only [Act.put, sa11, sz11, ss11, i64_w, i32_w]
          rfl
         refine pure_ (i:=11) (N:=some 41) (v:=undef) (a' := ?_) (bb11 33 4095) rfl rfl (any_of HT_.out (by kernel_rfl)) (fun _ _ _ h => h) (Or.inr ⟨by rfl, rfl⟩) ?_ ?_
         rotate_left
         ·simp only [Act.put, sa11, sz11, ss11, i64_w, i32_w]
          rfl
         refine pure_ (i:=12) (N:=some 42) (v:=undef) (a' := ?_) (bb11 33 8191) rfl rfl (any_of HT_.out (by kernel_rfl)) (fun _ _ _ h => h) (Or.inr ⟨by rfl, rfl⟩) ?_ ?_
         rotate_left
         ·simp only [Act.put, sa11, sz11, ss11, i64_w, i32_w]
          rfl
         refine pure_ (i:=13) (N:=some 43) (v:=undef) (a' := ?_) (bb11 33 16383) rfl rfl (any_of HT_.out (by kernel_rfl)) (fun _ _ _ h => h) (Or.inr ⟨by rfl, rfl⟩) ?_ ?_
         rotate_left
         ·simp only [Act.put, sa11, sz11, ss11, i64_w, i32_w]
          rfl
         refine pure_ (i:=14) (N:=some 44) (v:=undef) (a' := ?_) (bb11 33 32767) rfl rfl (any_of HT_.out (by kernel_rfl)) (fun _ _ _ h => h) (Or.inr ⟨by rfl, rfl⟩) ?_ ?_
         rotate_left
         ·simp only [Act.put, sa11, sz11, ss11, i64_w, i32_w]
          rfl
         refine pure_ (i:=15) (N:=some 45) (v:=undef) (a' := ?_) (bb11 33 65535) rfl rfl (any_of HT_.out (by kernel_rfl)) (fun _ _ _ h => h) (Or.inr ⟨by rfl, rfl⟩) ?_ ?_
         rotate_left
         ·simp only [Act.put, sa11, sz11, ss11, i64_w, i32_w]
          rfl
         refine pure_ (i:=16) (N:=some 46) (v:=undef) (a' := ?_) (bb11 33 131071) rfl rfl (any_of HT_.out (by kernel_rfl)) (fun _ _ _ h => h) (Or.inr ⟨by rfl, rfl⟩) ?_ ?_
         rotate_left
         ·simp only [Act.put, sa11, sz11, ss11, i64_w, i32_w]
          rfl
         refine pure_ (i:=17) (N:=some 47) (v:=undef) (a' := ?_) (bb11 33 262143) rfl rfl (any_of HT_.out (by kernel_rfl)) (fun _ _ _ h => h) (Or.inr ⟨by rfl, rfl⟩) ?_ ?_
         rotate_left
         ·simp only [Act.put, sa11, sz11, ss11, i64_w, i32_w]
          rfl
         refine pure_ (i:=18) (N:=some 48) (v:=undef) (a' := ?_) (bb11 33 524287) rfl rfl (any_of HT_.out (by kernel_rfl)) (fun _ _ _ h => h) (Or.inr ⟨by rfl, rfl⟩) ?_ ?_
         rotate_left
         ·simp only [Act.put, sa11, sz11, ss11, i64_w, i32_w]
          rfl
         refine pure_ (i:=19) (N:=some 49) (v:=undef) (a' := ?_) (bb11 33 1048575) rfl rfl (any_of HT_.out (by kernel_rfl)) (fun _ _ _ h => h) (Or.inr ⟨by rfl, rfl⟩) ?_ ?_
         rotate_left
         ·simp only [Act.put, sa11, sz11, ss11, i64_w, i32_w]
          rfl
         refine pure_ (i:=20) (N:=some 50) (v:=undef) (a' := ?_) (bb11 33 2097151) rfl rfl (any_of HT_.out (by kernel_rfl)) (fun _ _ _ h => h) (Or.inr ⟨by rfl, rfl⟩) ?_ ?_
         rotate_left
         ·simp only [Act.put, sa11, sz11, ss11, i64_w, i32_w]
          rfl
         refine pure_ (i:=21) (N:=some 51) (v:=undef) (a' := ?_) (bb11 33 4194303) rfl rfl (any_of HT_.out (by kernel_rfl)) (fun _ _ _ h => h) (Or.inr ⟨by rfl, rfl⟩) ?_ ?_
         rotate_left
         ·simp only [Act.put, sa11, sz11, ss11, i64_w, i32_w]
          rfl
         refine pure_ (i:=22) (N:=some 52) (v:=undef) (a' := ?_) (bb11 33 8388607) rfl rfl (any_of HT_.out (by kernel_rfl)) (fun _ _ _ h => h) (Or.inr ⟨by rfl, rfl⟩) ?_ ?_
         rotate_left
         ·simp only [Act.put, sa11, sz11, ss11, i64_w, i32_w]
          rfl
         refine pure_ (i:=23) (N:=some 53) (v:=undef) (a' := ?_) (bb11 33 16777215) rfl rfl (any_of HT_.out (by kernel_rfl)) (fun _ _ _ h => h) (Or.inr ⟨by rfl, rfl⟩) ?_ ?_
         rotate_left
         ·simp only [Act.put, sa11, sz11, ss11, i64_w, i32_w]
          rfl
         refine pure_ (i:=24) (N:=some 54) (v:=undef) (a' := ?_) (bb11 33 33554431) rfl rfl (any_of HT_.out (by kernel_rfl)) (fun _ _ _ h => h) (Or.inr ⟨by rfl, rfl⟩) ?_ ?_
         rotate_left
         ·simp only [Act.put, sa11, sz11, ss11, i64_w, i32_w]
          rfl
         refine pure_ (i:=25) (N:=some 55) (v:=undef) (a' := ?_) (bb11 33 67108863) rfl rfl (any_of HT_.out (by kernel_rfl)) (fun _ _ _ h => h) (Or.inr ⟨by rfl, rfl⟩) ?_ ?_
         rotate_left
         ·simp only [Act.put, sa11, sz11, ss11, i64_w, i32_w]
          rfl
         refine pure_ (i:=26) (N:=some 56) (v:=undef) (a' := ?_) (bb11 33 134217727) rfl rfl (any_of HT_.out (by kernel_rfl)) (fun _ _ _ h => h) (Or.inr ⟨by rfl, rfl⟩) ?_ ?_
         rotate_left
         ·simp only [Act.put, sa11, sz11, ss11, i64_w, i32_w]
          rfl
         refine pure_ (i:=27) (N:=some 57) (v:=undef) (a' := ?_) (bb11 33 268435455) rfl rfl (any_of HT_.out (by kernel_rfl)) (fun _ _ _ h => h) (Or.inr ⟨by rfl, rfl⟩) ?_ ?_
         rotate_left
         ·simp only [Act.put, sa11, sz11, ss11, i64_w, i32_w]
          rfl
         refine pure_ (i:=28) (N:=some 58) (v:=undef) (a' := ?_) (bb11 33 536870911) rfl rfl (any_of HT_.out (by kernel_rfl)) (fun _ _ _ h => h) (Or.inr ⟨by rfl, rfl⟩) ?_ ?_
         rotate_left
         ·simp only [Act.put, sa11, sz11, ss11, i64_w, i32_w]
          rfl
         refine pure_ (i:=29) (N:=some 59) (v:=undef) (a' := ?_) (bb11 33 1073741823) rfl rfl (any_of HT_.out (by kernel_rfl)) (fun _ _ _ h => h) (Or.inr ⟨by rfl, rfl⟩) ?_ ?_
         rotate_left
         ·simp only [Act.put, sa11, sz11, ss11, i64_w, i32_w]
          rfl
         refine pure_ (i:=30) (N:=some 60) (v:=undef) (a' := ?_) (bb11 33 2147483647) rfl rfl (any_of HT_.out (by kernel_rfl)) (fun _ _ _ h => h) (Or.inr ⟨by rfl, rfl⟩) ?_ ?_
         rotate_left
         ·simp only [Act.put, sa11, sz11, ss11, i64_w, i32_w]
          rfl
         refine pure_ (i:=31) (N:=some 61) (v:=undef) (a' := ?_) (bb11 33 4294967295) rfl rfl (any_of HT_.out (by kernel_rfl)) (fun _ _ _ h => h) (Or.inr ⟨by rfl, rfl⟩) ?_ ?_
         rotate_left
         ·simp only [Act.put, sa11, sz11, ss11, i64_w, i32_w]
          rfl
         refine pure_ (i:=32) (N:=some 62) (v:=?_) (a' := ?_) (bb11 33 8589934591) rfl rfl (any_of HT_.out (by kernel_rfl)) (fun _ _ _ h => h) (Or.inl ⟨by rfl, ?_⟩) ?_ ?_
         rotate_left
         ·intro w'
          go_simp
          with_reducible rfl
         rotate_left
         ·simp only [Act.put, sa11, sz11, ss11, i64_w, i32_w]
          rfl
         refine done_ (done_of HT_.out (by kernel_rfl)) ?_
         try go_wp2
         go_ret
         exact ⟨by first | rfl | (simp [errW_none, errW_some] <;> rfl) | (simp [*, errW_none, errW_some] <;> rfl), by repeat (first | (with_reducible first | exact HB.out | apply ba11 | apply bn11 | apply bd11) | exact HB.out)⟩
       ·rw [if_neg c11] at H
        exact absurd H (by simp)
      ·rw [if_neg c10] at H
       have c10b0 : decide (x3_2 < (l0.length : Int)) = false := decide_eq_false c10
       clear c10
       obtain rfl := Option.some.inj H
       go_wp2
       go_ret
       exact ⟨by first | rfl | (simp [errW_none, errW_some] <;> rfl) | (simp [*, errW_none, errW_some] <;> rfl), by repeat (first | (with_reducible first | exact HB.out | apply ba11 | apply bn11 | apply bd11) | exact HB.out)⟩

end Go.Proofs.Ytbmnhpihlkljdaa.P04e
