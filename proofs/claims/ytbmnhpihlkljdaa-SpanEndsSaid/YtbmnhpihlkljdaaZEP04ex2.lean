-- Written by gprint.py, a program of this session, over the kit's print; the functions of my own contracts are marked GIVEN
import Derived.Test.YtbmnhpihlkljdaaZEP04ex0
namespace Go.Proofs.Ytbmnhpihlkljdaa.P04e
open Go.RowKit Go.Proofs.YtbmnhpihlkljdaaW.PrintWords Go.Proofs.YtbmnhpihlkljdaaW.PrintLast Go.Proofs.YtbmnhpihlkljdaaW.PrintMore
attribute [local go_sem] max2_str max2_int min2_int max_two min_two max_three min_three max_four min_four   -- for this text's walks alone
set_option linter.unusedVariables false
set_option linter.unusedSimpArgs false

theorem Am18 : type_of% @Aside0.mk := @Aside0.mk
/-! ### span_Key: function 18 -/
mutual
def span_Key.j0 : Nat → ByteArray → Bool → Option (Bool)
 | 0, _, _ => none
 | k + 1, x0, x11 => if x11 = true then (some false) else (span_Key.l0 k x0 (x0.size : Int) 0)
def span_Key.l0 : Nat → ByteArray → Int → Int → Option (Bool)
 | 0, _, _, _ => none
 | k + 1, x0, x13, x14 => if x14 < x13 then (if 0 ≤ x14 then (if x14 < (x0.size : Int) then (if (bt x0 x14) ≥ 97 then (if (bt x0 x14) ≤ 122 then (span_Key.l0 k x0 x13 (wrap64 (x14 + 1))) else (if (bt x0 x14) ≥ 48 then (if ((bt x0 x14) ≤ 57) then (span_Key.l0 k x0 x13 (wrap64 (x14 + 1))) else (some false)) else (some false))) else (if (bt x0 x14) ≥ 48 then (if ((bt x0 x14) ≤ 57) then (span_Key.l0 k x0 x13 (wrap64 (x14 + 1))) else (some false)) else (some false))) else (none)) else (none)) else (some true)
end
def span_Key.f (k : Nat) (a0 : ByteArray) : Option (Bool) := if a0.toList = ([] : List UInt8) then (span_Key.j0 k a0 true) else (span_Key.j0 k a0 (decide ((a0.size : Int) > 20)))
theorem span_Key.mono_l : ∀ k, (∀ y0 y1, LeO (span_Key.j0 k y0 y1) (span_Key.j0 (k + 1) y0 y1)) ∧ (∀ y0 y1 y2, LeO (span_Key.l0 k y0 y1 y2) (span_Key.l0 (k + 1) y0 y1 y2))
 | 0 => ⟨fun _ _ r h => by simp [span_Key.j0] at h, fun _ _ _ r h => by simp [span_Key.l0] at h⟩
 | k + 1 => by
  obtain ⟨ih0, ih1⟩ := span_Key.mono_l k
  refine ⟨?_, ?_⟩
  ·intro y0 y1
   unfold span_Key.j0
   repeat' first
   | (with_reducible exact ih0 _ _)
   | (with_reducible exact ih1 _ _ _)
   | (with_reducible exact LeO.refl _)
   | (with_reducible exact LeO.none _)
   | (with_reducible refine LeO.ite ?_ ?_)
   | (with_reducible refine LeO.bind ?_ (fun _ => ?_))
   | exact ih0 _ _
   | exact ih1 _ _ _
   | exact LeO.none _
   | refine LeO.ite ?_ ?_
   | refine LeO.bind ?_ (fun _ => ?_)
  ·intro y0 y1 y2
   unfold span_Key.l0
   repeat' first
   | (with_reducible exact ih0 _ _)
   | (with_reducible exact ih1 _ _ _)
   | (with_reducible exact LeO.refl _)
   | (with_reducible exact LeO.none _)
   | (with_reducible refine LeO.ite ?_ ?_)
   | (with_reducible refine LeO.bind ?_ (fun _ => ?_))
   | exact ih0 _ _
   | exact ih1 _ _ _
   | exact LeO.none _
   | refine LeO.ite ?_ ?_
   | refine LeO.bind ?_ (fun _ => ?_)
theorem span_Key.mono : ∀ a0 k, LeO (span_Key.f k a0) (span_Key.f (k + 1) a0) := by
 intro a0 k
 obtain ⟨ih0, ih1⟩ := span_Key.mono_l k
 unfold span_Key.f
 repeat' first
   | (with_reducible exact ih0 _ _)
   | (with_reducible exact ih1 _ _ _)
   | (with_reducible exact LeO.refl _)
   | (with_reducible exact LeO.none _)
   | (with_reducible refine LeO.ite ?_ ?_)
   | (with_reducible refine LeO.bind ?_ (fun _ => ?_))
   | exact ih0 _ _
   | exact ih1 _ _ _
   | exact LeO.none _
   | refine LeO.ite ?_ ?_
   | refine LeO.bind ?_ (fun _ => ?_)
set_option maxHeartbeats 8000000 in
set_option maxRecDepth 100000 in
theorem span_Key.calls (k : Nat) (a0 : ByteArray) (r : Bool) (w : World) (h : span_Key.f k a0 = some r) :
  Calls Try.prog 18 #[.string a0] w fun e w' => e = .returned (.bool r) ∧ Drawn0 w w' := by
 have H : (if a0.toList = ([] : List UInt8) then (span_Key.j0 k a0 true) else (span_Key.j0 k a0 (decide ((a0.size : Int) > 20)))) = some r := h
 clear h
 have HC2 := Am18 H
 clear H
 go_enter Try.func18, Try.ntmps18
 go_upto_region 1 with (fail)
 go_cut [11] (fun v11 wc => ∃ (kq : Nat) (x11_1 : Bool), v11 = .bool x11_1 ∧ Aside0 (span_Key.j0 kq a0 x11_1 = some r) ∧ Aside0 (kq ≤ k) ∧ Drawn0 w wc)
 case first =>
  have H := HC2.out
  clear HC2
  by_cases c3 : a0.toList = ([] : List UInt8)
  ·rw [if_pos c3] at H
   have c3b0 : (a0.toList == ([] : List UInt8)) = true := beq_iff_eq.mpr c3
   have c3b1 : (a0.toList != ([] : List UInt8)) = false := bne_eq_false_iff_eq.mpr c3
   clear c3
   (first | rw [c3b0] | (simp only [i64_w, i32_w]; rw [c3b0]) | skip)
   have H' := Am18 H
   clear H
   go_wp2
   go_meet
   case rel => exact ⟨_, (true), (by first | rfl | (simp; done) | (simp [*]; done)), H', ⟨by first | omega | exact Nat.le_refl _⟩, by repeat (first | exact Drawn0.refl _ | apply Drawn0.step)⟩
  ·rw [if_neg c3] at H
   have c3b0 : (a0.toList == ([] : List UInt8)) = false := beq_eq_false_iff_ne.mpr c3
   have c3b1 : (a0.toList != ([] : List UInt8)) = true := bne_iff_ne.mpr c3
   (first | rw [c3b0] | (simp only [i64_w, i32_w]; rw [c3b0]) | skip)
   have H' := Am18 H
   clear H
   go_wp2
   go_meet
   case rel => exact ⟨_, (decide ((a0.size : Int) > 20)), (by first | rfl | (simp; done) | (simp [*]; done)), H', ⟨by first | omega | exact Nat.le_refl _⟩, by repeat (first | exact Drawn0.refl _ | apply Drawn0.step)⟩
 case rest =>
  clear HC2
  try clear c1
  try clear p2
  try clear c3
  try clear c3b0
  try clear c3b1
  obtain ⟨kq, x11_1, rfl, HA, HJ1, ⟨mc1, rfl⟩⟩ := hcut
  cases kq with
  | zero => exact absurd HA.out (by simp [span_Key.j0])
  | succ kj1 =>
   have H := HA.out
   clear HA
   simp only [span_Key.j0] at H
   by_cases c4 : x11_1 = true
   ·subst c4
    rw [if_pos rfl] at H
    obtain rfl := Option.some.inj H
    go_wp2
    go_ret
    exact ⟨by first | rfl | (simp; done) | (simp [*]; done), by repeat (first | exact Drawn0.refl _ | apply Drawn0.step)⟩
   ·replace c4 := Bool.eq_false_iff.mpr c4
    subst c4
    rw [if_neg (show ¬ (false = true) by decide)] at H
    have H' := Am18 H
    clear H
    go_wp2
    go_loopg [14] kj1 (fun kq v14 w' => ∃ (x14_2 : Int), v14 = .int .i64 x14_2 ∧ Aside0 (span_Key.l0 kq a0 (a0.size : Int) x14_2 = some r) ∧ Aside0 (kq ≤ kj1) ∧ Drawn0 w w')
    case atStart => exact ⟨(0), (by first | rfl | (simp; done) | (simp [*]; done)), H', ⟨Nat.le_refl _⟩, by repeat (first | exact Drawn0.refl _ | apply Drawn0.step)⟩
    case round =>
     clear H'
     try clear c1
     try clear p2
     try clear c3
     try clear c3b0
     try clear c3b1
     try clear c4
     try clear p2
     obtain ⟨x14_2, rfl, HA, HK2, ⟨m2, rfl⟩⟩ := hrel
     cases gk with
     | zero => exact absurd HA.out (by simp [span_Key.l0])
     | succ k2 =>
      have H := HA.out
      clear HA
      simp only [span_Key.l0] at H
      by_cases c5 : x14_2 < (a0.size : Int)
      ·rw [if_pos c5] at H
       have c5b0 : decide (x14_2 < (a0.size : Int)) = true := decide_eq_true c5
       clear c5
       by_cases c6 : 0 ≤ x14_2
       ·rw [if_pos c6] at H
        have c6b0 : decide (0 ≤ x14_2) = true := decide_eq_true c6
        clear c6
        by_cases c7 : x14_2 < (a0.size : Int)
        ·rw [if_pos c7] at H
         have c7b0 : decide (x14_2 < (a0.size : Int)) = true := decide_eq_true c7
         clear c7
         by_cases c9 : (bt a0 x14_2) ≥ 97
         ·rw [if_pos c9] at H
          have c9b0 : decide (97 ≤ (bt a0 x14_2)) = true := decide_eq_true c9
          clear c9
          by_cases c10 : (bt a0 x14_2) ≤ 122
          ·rw [if_pos c10] at H
           have c10b0 : decide ((bt a0 x14_2) ≤ 122) = true := decide_eq_true c10
           clear c10
           have H' := Am18 H
           clear H
           have p8 : 0 ≤ (x14_2 : Int) := of_decide_eq_true (by first | (with_reducible assumption) | assumption)
           have q8 : x14_2 < (a0.size : Int) := of_decide_eq_true (by first | (with_reducible assumption) | assumption)
           have hx8 := bt_at a0 x14_2
           replace p8 := eq_true p8
           replace q8 := eq_true q8
           go_wp2
           go_roundg k2
           case measure => have := HJ1.out; have := HK2.out; omega
           case rel => exact ⟨(wrap64 (x14_2 + 1)), (by first | rfl | (simp; done) | (simp [*]; done)), H', ⟨by have := HJ1.out; have := HK2.out; omega⟩, by repeat (first | exact Drawn0.refl _ | apply Drawn0.step)⟩
          ·rw [if_neg c10] at H
           have c10b0 : decide ((bt a0 x14_2) ≤ 122) = false := decide_eq_false c10
           clear c10
           by_cases c11 : (bt a0 x14_2) ≥ 48
           ·rw [if_pos c11] at H
            have c11b0 : decide (48 ≤ (bt a0 x14_2)) = true := decide_eq_true c11
            clear c11
            by_cases c12 : ((bt a0 x14_2) ≤ 57)
            ·rw [if_pos c12] at H
             have c12b0 : decide ((bt a0 x14_2) ≤ 57) = true := decide_eq_true c12
             clear c12
             have H' := Am18 H
             clear H
             have p8 : 0 ≤ (x14_2 : Int) := of_decide_eq_true (by first | (with_reducible assumption) | assumption)
             have q8 : x14_2 < (a0.size : Int) := of_decide_eq_true (by first | (with_reducible assumption) | assumption)
             have hx8 := bt_at a0 x14_2
             replace p8 := eq_true p8
             replace q8 := eq_true q8
             go_wp2
             go_roundg k2
             case measure => have := HJ1.out; have := HK2.out; omega
             case rel => exact ⟨(wrap64 (x14_2 + 1)), (by first | rfl | (simp; done) | (simp [*]; done)), H', ⟨by have := HJ1.out; have := HK2.out; omega⟩, by repeat (first | exact Drawn0.refl _ | apply Drawn0.step)⟩
            ·rw [if_neg c12] at H
             have c12b0 : decide ((bt a0 x14_2) ≤ 57) = false := decide_eq_false c12
             clear c12
             obtain rfl := Option.some.inj H
             have p8 : 0 ≤ (x14_2 : Int) := of_decide_eq_true (by first | (with_reducible assumption) | assumption)
             have q8 : x14_2 < (a0.size : Int) := of_decide_eq_true (by first | (with_reducible assumption) | assumption)
             have hx8 := bt_at a0 x14_2
             replace p8 := eq_true p8
             replace q8 := eq_true q8
             go_wp2
             go_ret
             exact ⟨by first | rfl | (simp; done) | (simp [*]; done), by repeat (first | exact Drawn0.refl _ | apply Drawn0.step)⟩
           ·rw [if_neg c11] at H
            have c11b0 : decide (48 ≤ (bt a0 x14_2)) = false := decide_eq_false c11
            clear c11
            obtain rfl := Option.some.inj H
            have p8 : 0 ≤ (x14_2 : Int) := of_decide_eq_true (by first | (with_reducible assumption) | assumption)
            have q8 : x14_2 < (a0.size : Int) := of_decide_eq_true (by first | (with_reducible assumption) | assumption)
            have hx8 := bt_at a0 x14_2
            replace p8 := eq_true p8
            replace q8 := eq_true q8
            go_wp2
            go_ret
            exact ⟨by first | rfl | (simp; done) | (simp [*]; done), by repeat (first | exact Drawn0.refl _ | apply Drawn0.step)⟩
         ·rw [if_neg c9] at H
          have c9b0 : decide (97 ≤ (bt a0 x14_2)) = false := decide_eq_false c9
          clear c9
          by_cases c13 : (bt a0 x14_2) ≥ 48
          ·rw [if_pos c13] at H
           have c13b0 : decide (48 ≤ (bt a0 x14_2)) = true := decide_eq_true c13
           clear c13
           by_cases c14 : ((bt a0 x14_2) ≤ 57)
           ·rw [if_pos c14] at H
            have c14b0 : decide ((bt a0 x14_2) ≤ 57) = true := decide_eq_true c14
            clear c14
            have H' := Am18 H
            clear H
            have p8 : 0 ≤ (x14_2 : Int) := of_decide_eq_true (by first | (with_reducible assumption) | assumption)
            have q8 : x14_2 < (a0.size : Int) := of_decide_eq_true (by first | (with_reducible assumption) | assumption)
            have hx8 := bt_at a0 x14_2
            replace p8 := eq_true p8
            replace q8 := eq_true q8
            go_wp2
            go_roundg k2
            case measure => have := HJ1.out; have := HK2.out; omega
            case rel => exact ⟨(wrap64 (x14_2 + 1)), (by first | rfl | (simp; done) | (simp [*]; done)), H', ⟨by have := HJ1.out; have := HK2.out; omega⟩, by repeat (first | exact Drawn0.refl _ | apply Drawn0.step)⟩
           ·rw [if_neg c14] at H
            have c14b0 : decide ((bt a0 x14_2) ≤ 57) = false := decide_eq_false c14
            clear c14
            obtain rfl := Option.some.inj H
            have p8 : 0 ≤ (x14_2 : Int) := of_decide_eq_true (by first | (with_reducible assumption) | assumption)
            have q8 : x14_2 < (a0.size : Int) := of_decide_eq_true (by first | (with_reducible assumption) | assumption)
            have hx8 := bt_at a0 x14_2
            replace p8 := eq_true p8
            replace q8 := eq_true q8
            go_wp2
            go_ret
            exact ⟨by first | rfl | (simp; done) | (simp [*]; done), by repeat (first | exact Drawn0.refl _ | apply Drawn0.step)⟩
          ·rw [if_neg c13] at H
           have c13b0 : decide (48 ≤ (bt a0 x14_2)) = false := decide_eq_false c13
           clear c13
           obtain rfl := Option.some.inj H
           have p8 : 0 ≤ (x14_2 : Int) := of_decide_eq_true (by first | (with_reducible assumption) | assumption)
           have q8 : x14_2 < (a0.size : Int) := of_decide_eq_true (by first | (with_reducible assumption) | assumption)
           have hx8 := bt_at a0 x14_2
           replace p8 := eq_true p8
           replace q8 := eq_true q8
           go_wp2
           go_ret
           exact ⟨by first | rfl | (simp; done) | (simp [*]; done), by repeat (first | exact Drawn0.refl _ | apply Drawn0.step)⟩
        ·rw [if_neg c7] at H
         exact absurd H (by simp)
       ·rw [if_neg c6] at H
        exact absurd H (by simp)
      ·rw [if_neg c5] at H
       have c5b0 : decide (x14_2 < (a0.size : Int)) = false := decide_eq_false c5
       clear c5
       obtain rfl := Option.some.inj H
       go_wp2
       go_ret
       exact ⟨by first | rfl | (simp; done) | (simp [*]; done), by repeat (first | exact Drawn0.refl _ | apply Drawn0.step)⟩

abbrev bb28 (n m : Nat) : Array Bool := ((List.range n).map fun i => m.testBit i).toArray
theorem Am28 : type_of% @Aside0.mk := @Aside0.mk
theorem ba28 : type_of% @below_alloc := @below_alloc
theorem bn28 : type_of% @pw_below_drewN := @pw_below_drewN
theorem bd28 : type_of% @below_drew1 := @below_drew1
theorem bs28 : type_of% @below_set := @below_set
theorem kn28 : type_of% @blk_drewN := @blk_drewN
theorem kd28 : type_of% @blk_drew := @blk_drew
theorem ka28 : type_of% @blk_alloc := @blk_alloc
theorem kf28 : type_of% @blk_far := @blk_far
theorem kb28 : type_of% @blk_below := @blk_below
theorem bz28 : type_of% @below_size := @below_size
theorem bp28 : type_of% @below_step := @below_step
theorem kc28 : type_of% @blk_cell := @blk_cell
theorem kz28 : type_of% @blk_frozen := @blk_frozen
theorem sa28 : type_of% @List.setIfInBounds_toArray := @List.setIfInBounds_toArray
theorem sz28 : type_of% @List.set_cons_zero := @List.set_cons_zero
theorem ss28 : type_of% @List.set_cons_succ := @List.set_cons_succ
/-! ### span_ends: function 28 -/
def span_ends.f (a0_0 : ByteArray) (a0_1 : ByteArray) : Option (ByteArray × ByteArray) := some (a0_0, a0_1)
def span_ends.T1 : Bool × List (List Nat × List Nat) := (true, [([], []), ([0], [0]), ([1], [1]), ([2], [2]), ([], []), ([4], [4]), ([5], [5]), ([6], [6]), ([3, 0, 1, 2, 3], [3]), ([7, 8, 0, 1, 2, 3, 4, 5, 6, 7, 8], [7])])
def span_ends.B1 : List Nat := [0, 1, 3, 7, 0, 16, 48, 112, 15, 511]
theorem span_ends.tab1 : rtab .any (opsOf Try.f28 1) = span_ends.T1 := by kernel_rfl
theorem span_ends.bits1 : waitsOk span_ends.T1.2 span_ends.B1 = true := by kernel_rfl
set_option maxHeartbeats 8000000 in
set_option maxRecDepth 100000 in
theorem span_ends.calls (a0_0 : ByteArray) (a0_1 : ByteArray) (r1 : ByteArray) (r2 : ByteArray) (w : World) (h : span_ends.f a0_0 a0_1 = some (r1, r2)) :
  Calls Try.prog 28 #[.agg #[.string a0_0, .string a0_1]] w fun e w' => e = .returned (.tuple #[.agg #[.string r1], .agg #[.string r2]]) ∧ Below w.heap.size w w' := by
 have hu26 := Try.underlying26
 have hu48 := Try.underlying48
 have hu49 := Try.underlying49
 have hu46 := Try.underlying46
 have HB := Am28 (Below.refl w.heap.size w)
 have H : (some (a0_0, a0_1)) = some (r1, r2) := h
 clear h
 simp only [Option.some.injEq, Prod.mk.injEq] at H
 obtain ⟨rfl, rfl⟩ := H
 go_enter Try.func28, Try.ntmps28
 try go_wp2_with (first | ((with_reducible refine gate_dst (N:=1) rfl ?_); refine box_event ?hg (N:=1) ?hd (cs:=#[.string a0_0, .string a0_1]) (t:=26) ?hr ?_; (case hd => rfl); (case hg => rfl); (case hr => first | (go_simp; done) | (go_simp; rfl)); intro gb101 hg w2 hbox hb; have BK101 := Am28 (hbox); have GW101 := Am28 ((by rw [hg]; exact (bz28 (by repeat (first | (with_reducible first | exact HB.out | apply ba28 | apply bn28 | apply bd28) | exact HB.out))) : w.heap.size ≤ gb101)); have GE101 := Am28 ((by rw [hg]; exact (bz28 (by repeat (first | (with_reducible first | exact HB.out | apply ba28 | apply bn28 | apply bd28) | exact HB.out))) : w.heap.size ≤ gb101)); replace HB := Am28 (bp28 (by repeat (first | (with_reducible first | exact HB.out | apply ba28 | apply bn28 | apply bd28) | exact HB.out)) hb); clear hb hbox hg) | ((with_reducible refine gate_dst (N:=2) rfl ?_); refine box_event ?hg (N:=2) ?hd (cs:=#[.string (⟨#[]⟩ : ByteArray)]) (t:=48) ?hr ?_; (case hd => rfl); (case hg => rfl); (case hr => first | (go_simp; done) | (go_simp; rfl)); intro gb102 hg w3 hbox hb; have BK102 := Am28 (hbox); have GW102 := Am28 ((by rw [hg]; exact (bz28 (by repeat (first | (with_reducible first | exact HB.out | apply ba28 | apply bn28 | apply bd28 | refine bs28 ?_ GE101.out) | exact HB.out))) : w.heap.size ≤ gb102)); have GE102 := Am28 ((by rw [hg]; exact (bz28 (by repeat (first | (with_reducible first | exact HB.out | apply ba28 | apply bn28 | apply bd28 | refine bs28 ?_ GE101.out) | exact HB.out))) : w.heap.size ≤ gb102)); replace HB := Am28 (bp28 (by repeat (first | (with_reducible first | exact HB.out | apply ba28 | apply bn28 | apply bd28 | refine bs28 ?_ GE101.out) | exact HB.out)) hb); have NB101_102 := Am28 ((by rw [hg]; exact Nat.ne_of_lt (blk_lt (g:=gb101) (o:=.cells #[.string a0_0, .string a0_1] 26 (0, 0)) (by (with_reducible repeat first | apply kn28 | apply kd28 | apply ka28); exact BK101.out)) : gb101 ≠ gb102)); have NB102_101 := Am28 ((by rw [hg]; exact Nat.ne_of_gt (blk_lt (g:=gb101) (o:=.cells #[.string a0_0, .string a0_1] 26 (0, 0)) (by (with_reducible repeat first | apply kn28 | apply kd28 | apply ka28); exact BK101.out)) : gb102 ≠ gb101)); replace BK101 := Am28 (kb28 (g:=gb101) (o:=.cells #[.string a0_0, .string a0_1] 26 (0, 0)) (by (with_reducible repeat first | apply kn28 | apply kd28 | apply ka28); exact BK101.out) hb); clear hb hbox hg) | ((with_reducible refine gate_dst (N:=3) rfl ?_); refine box_event ?hg (N:=3) ?hd (cs:=#[.string (⟨#[]⟩ : ByteArray)]) (t:=49) ?hr ?_; (case hd => rfl); (case hg => rfl); (case hr => first | (go_simp; done) | (go_simp; rfl)); intro gb103 hg w4 hbox hb; have BK103 := Am28 (hbox); have GW103 := Am28 ((by rw [hg]; exact (bz28 (by repeat (first | (with_reducible first | exact HB.out | apply ba28 | apply bn28 | apply bd28 | refine bs28 ?_ GE101.out | refine bs28 ?_ GE102.out) | exact HB.out))) : w.heap.size ≤ gb103)); have GE103 := Am28 ((by rw [hg]; exact (bz28 (by repeat (first | (with_reducible first | exact HB.out | apply ba28 | apply bn28 | apply bd28 | refine bs28 ?_ GE101.out | refine bs28 ?_ GE102.out) | exact HB.out))) : w.heap.size ≤ gb103)); replace HB := Am28 (bp28 (by repeat (first | (with_reducible first | exact HB.out | apply ba28 | apply bn28 | apply bd28 | refine bs28 ?_ GE101.out | refine bs28 ?_ GE102.out) | exact HB.out)) hb); have NB101_103 := Am28 ((by rw [hg]; exact Nat.ne_of_lt (blk_lt (g:=gb101) (o:=.cells #[.string a0_0, .string a0_1] 26 (0, 0)) (by (with_reducible repeat first | apply kn28 | apply kd28 | apply ka28); exact BK101.out)) : gb101 ≠ gb103)); have NB103_101 := Am28 ((by rw [hg]; exact Nat.ne_of_gt (blk_lt (g:=gb101) (o:=.cells #[.string a0_0, .string a0_1] 26 (0, 0)) (by (with_reducible repeat first | apply kn28 | apply kd28 | apply ka28); exact BK101.out)) : gb103 ≠ gb101)); replace BK101 := Am28 (kb28 (g:=gb101) (o:=.cells #[.string a0_0, .string a0_1] 26 (0, 0)) (by (with_reducible repeat first | apply kn28 | apply kd28 | apply ka28); exact BK101.out) hb); have NB102_103 := Am28 ((by rw [hg]; exact Nat.ne_of_lt (blk_lt (g:=gb102) (o:=.cells #[.string (⟨#[]⟩ : ByteArray)] 48 (0, 0)) (by (with_reducible repeat first | apply kn28 | apply kd28 | apply ka28); exact BK102.out)) : gb102 ≠ gb103)); have NB103_102 := Am28 ((by rw [hg]; exact Nat.ne_of_gt (blk_lt (g:=gb102) (o:=.cells #[.string (⟨#[]⟩ : ByteArray)] 48 (0, 0)) (by (with_reducible repeat first | apply kn28 | apply kd28 | apply ka28); exact BK102.out)) : gb103 ≠ gb102)); replace BK102 := Am28 (kb28 (g:=gb102) (o:=.cells #[.string (⟨#[]⟩ : ByteArray)] 48 (0, 0)) (by (with_reducible repeat first | apply kn28 | apply kd28 | apply ka28); exact BK102.out) hb); clear hb hbox hg))
 replace BK101 := Am28 (kd28 BK101.out)
 replace BK102 := Am28 (kd28 BK102.out)
 replace BK103 := Am28 (kd28 BK103.out)
 replace HB := Am28 (bd28 HB.out)
 refine start_ (n:=10) (S:=fun w' => w'.cell? ⟨gb101, 0, none⟩ = some (.string a0_0) ∧ w'.cell? ⟨gb101, 1, none⟩ = some (.string a0_1)) (ds:=[]) (bb28 10 0) (by kernel_rfl) rfl rfl ⟨(kc28 BK101.out 0).trans rfl, (kc28 BK101.out 1).trans rfl⟩ (fun hHeld => ?_); refine with_tabW span_ends.tab1 span_ends.bits1 (fun HT_ HW_ => ?_)
 generalize w4.drew = w5 at BK101 BK102 BK103 HB hHeld ⊢
 refine pure_ (i:=0) (N:=some 4) (v:=?_) (a' := ?_) (bb28 10 1) rfl rfl (any_of HT_.out (by kernel_rfl)) (fun _ _ _ h => h) (Or.inl ⟨by rfl, ?_⟩) ?_ ?_
 rotate_left
 ·intro w'
  go_simp
  with_reducible rfl
 rotate_left
 ·simp only [Act.put, sa28, sz28, ss28, i64_w, i32_w]
  rfl
 refine pure_ (i:=4) (N:=some 8) (v:=?_) (a' := ?_) (bb28 10 17) rfl rfl (any_of HT_.out (by kernel_rfl)) (fun _ _ _ h => h) (Or.inl ⟨by rfl, ?_⟩) ?_ ?_
 rotate_left
 ·intro w'
  go_simp
  with_reducible rfl
 rotate_left
 ·simp only [Act.put, sa28, sz28, ss28, i64_w, i32_w]
  rfl
 refine take_ (i:=1) (N:=some 5) (v:=?_) (a' := ?_) (bb28 10 19) rfl rfl (take_ofW HT_.out HW_.out (by kernel_rfl)) (fun _ _ _ h => h) (Or.inl ⟨by rfl, ?_⟩) hHeld ?_ ?_
 rotate_left
 ·rintro w' ⟨s0, s1⟩
  go_simp
  with_reducible rfl
 rotate_left
 ·simp only [Act.put, sa28, sz28, ss28, i64_w, i32_w]
  rfl
 refine pure_ (i:=2) (N:=some 6) (v:=?_) (a' := ?_) (bb28 10 23) rfl rfl (any_of HT_.out (by kernel_rfl)) (fun _ _ _ h => h) (Or.inl ⟨by rfl, ?_⟩) ?_ ?_
 rotate_left
 ·intro w'
  go_simp
  with_reducible rfl
 rotate_left
 ·simp only [Act.put, sa28, sz28, ss28, i64_w, i32_w]
  rfl
 refine pure_ (i:=3) (N:=some 7) (v:=?_) (a' := ?_) (bb28 10 31) rfl rfl (any_of HT_.out (by kernel_rfl)) (fun _ _ _ h => h) (Or.inl ⟨by rfl, ?_⟩) ?_ ?_
 rotate_left
 ·intro w'
  go_simp
  with_reducible rfl
 rotate_left
 ·simp only [Act.put, sa28, sz28, ss28, i64_w, i32_w]
  rfl
 refine take_ (i:=5) (N:=some 9) (v:=?_) (a' := ?_) (bb28 10 63) rfl rfl (take_ofW HT_.out HW_.out (by kernel_rfl)) (fun _ _ _ h => h) (Or.inl ⟨by rfl, ?_⟩) hHeld ?_ ?_
 rotate_left
 ·rintro w' ⟨s0, s1⟩
  go_simp
  with_reducible rfl
 rotate_left
 ·simp only [Act.put, sa28, sz28, ss28, i64_w, i32_w]
  rfl
 refine pure_ (i:=6) (N:=some 10) (v:=?_) (a' := ?_) (bb28 10 127) rfl rfl (any_of HT_.out (by kernel_rfl)) (fun _ _ _ h => h) (Or.inl ⟨by rfl, ?_⟩) ?_ ?_
 rotate_left
 ·intro w'
  go_simp
  with_reducible rfl
 rotate_left
 ·simp only [Act.put, sa28, sz28, ss28, i64_w, i32_w]
  rfl
 refine pure_ (i:=7) (N:=some 11) (v:=?_) (a' := ?_) (bb28 10 255) rfl rfl (any_of HT_.out (by kernel_rfl)) (fun _ _ _ h => h) (Or.inl ⟨by rfl, ?_⟩) ?_ ?_
 rotate_left
 ·intro w'
  go_simp
  with_reducible rfl
 rotate_left
 ·simp only [Act.put, sa28, sz28, ss28, i64_w, i32_w]
  rfl
 refine one_ (i:=8) (N:=none) (bb28 10 511) rfl rfl (one_of HT_.out (by kernel_rfl)) (by decide) (fun K hK => ?_)
 have hs6 : w5.cell? ⟨gb102, 0, none⟩ = some (.string (⟨#[]⟩ : ByteArray)) := (kc28 BK102.out 0).trans rfl
 have hfs6 := kz28 BK102.out 0
 have hns6_0 := NB101_102.out
 have hns6_2 := NB103_102.out
 have hms6_0 := NB102_101.out
 have hms6_2 := NB102_103.out
 refine skip_ (w1:=?_) (by rfl) rfl ?_ ?_
 rotate_left
 ·go_simp
  rfl
 refine hK.out _ _ ⟨((cell_far (p:=⟨gb102, _, none⟩) NB101_102.out _).trans (hHeld.1)), ((cell_far (p:=⟨gb102, _, none⟩) NB101_102.out _).trans (hHeld.2))⟩ (fun hHeld => ?_)
 clear hK K
 refine one_ (i:=9) (N:=none) (bb28 10 1023) rfl rfl (one_of HT_.out (by kernel_rfl)) (by decide) (fun K hK => ?_)
 have hs7 : w5.cell? ⟨gb103, 0, none⟩ = some (.string (⟨#[]⟩ : ByteArray)) := (kc28 BK103.out 0).trans rfl
 have hfs7 := kz28 BK103.out 0
 have hns7_0 := NB101_103.out
 have hns7_1 := NB102_103.out
 have hms7_0 := NB103_101.out
 have hms7_1 := NB103_102.out
 refine skip_ (w1:=?_) (by rfl) rfl ?_ ?_
 rotate_left
 ·go_simp
  rfl
 refine hK.out _ _ ⟨((cell_far (p:=⟨gb103, _, none⟩) NB101_103.out _).trans (hHeld.1)), ((cell_far (p:=⟨gb103, _, none⟩) NB101_103.out _).trans (hHeld.2))⟩ (fun hHeld => ?_)
 clear hK K
 refine done_ (done_of HT_.out (by kernel_rfl)) ?_
 try go_wp2
 refine bodyPost_ret (results_cc rfl _ _ gb102 gb103 48 49 #[.string a0_0] #[.string a0_1] (0, 0) (0, 0) _ _ rfl (by (with_reducible repeat first | apply kn28 | apply kd28 | apply ka28); refine kf28 ?_ NB102_103.out _; (with_reducible repeat first | apply kn28 | apply kd28 | apply ka28); refine blk_put (cs:=#[.string (⟨#[]⟩ : ByteArray)]) ?_ 0 _ rfl; (with_reducible repeat first | apply kn28 | apply kd28 | apply ka28); exact BK102.out) Try.underlying48 rfl (by kernel_rfl) rfl (by (with_reducible repeat first | apply kn28 | apply kd28 | apply ka28); refine blk_put (cs:=#[.string (⟨#[]⟩ : ByteArray)]) ?_ 0 _ rfl; (with_reducible repeat first | apply kn28 | apply kd28 | apply ka28); refine kf28 ?_ NB103_102.out _; (with_reducible repeat first | apply kn28 | apply kd28 | apply ka28); exact BK103.out) Try.underlying49 rfl (by kernel_rfl)) rfl ?_
 exact ⟨by first | rfl | (simp [errW_none, errW_some] <;> rfl) | (simp [*, errW_none, errW_some] <;> rfl), by repeat (first | (with_reducible first | exact HB.out | apply ba28 | apply bn28 | apply bd28 | refine bs28 ?_ GE101.out | refine bs28 ?_ GE102.out | refine bs28 ?_ GE103.out) | exact HB.out)⟩

theorem Am31 : type_of% @Aside0.mk := @Aside0.mk
theorem ba31 : type_of% @below_alloc := @below_alloc
theorem bn31 : type_of% @pw_below_drewN := @pw_below_drewN
theorem bd31 : type_of% @below_drew1 := @below_drew1
theorem bs31 : type_of% @below_set := @below_set
theorem bz31 : type_of% @below_size := @below_size
theorem bp31 : type_of% @below_step := @below_step
theorem kc31 : type_of% @blk_cell := @blk_cell
theorem kz31 : type_of% @blk_frozen := @blk_frozen
/-! ### span_text_none: function 31 -/
def span_text_none.f (a0_0 : ByteArray) : Option (Bool) := some (a0_0.toList == ([] : List UInt8))
set_option maxHeartbeats 8000000 in
set_option maxRecDepth 100000 in
theorem span_text_none.calls (a0_0 : ByteArray) (r : Bool) (w : World) (h : span_text_none.f a0_0 = some r) :
  Calls Try.prog 31 #[.agg #[.string a0_0]] w fun e w' => e = .returned (.bool r) ∧ Below w.heap.size w w' := by
 have hu46 := Try.underlying46
 have HB := Am31 (Below.refl w.heap.size w)
 have H : (some (a0_0.toList == ([] : List UInt8))) = some r := h
 clear h
 obtain rfl := Option.some.inj H
 go_enter Try.func31, Try.ntmps31
 go_wp2_with (first | ((with_reducible refine gate_dst (N:=1) rfl ?_); refine box_event ?hg (N:=1) ?hd (cs:=#[.string a0_0]) (t:=46) ?hr ?_; (case hd => rfl); (case hg => rfl); (case hr => first | (go_simp; done) | (go_simp; rfl)); intro gb104 hg w2 hbox hb; have BK104 := Am31 (hbox); have GW104 := Am31 ((by rw [hg]; exact (bz31 (by repeat (first | (with_reducible first | exact HB.out | apply ba31 | apply bn31 | apply bd31) | exact HB.out))) : w.heap.size ≤ gb104)); have GE104 := Am31 ((by rw [hg]; exact (bz31 (by repeat (first | (with_reducible first | exact HB.out | apply ba31 | apply bn31 | apply bd31) | exact HB.out))) : w.heap.size ≤ gb104)); replace HB := Am31 (bp31 (by repeat (first | (with_reducible first | exact HB.out | apply ba31 | apply bn31 | apply bd31) | exact HB.out)) hb); clear hb hbox hg; have hcz3_0 : w2.cell? ⟨gb104, 0, none⟩ = some (.string a0_0) := (kc31 BK104.out 0).trans rfl; have hfz3_0 := kz31 BK104.out 0))
 go_ret
 exact ⟨by first | rfl | (simp [errW_none, errW_some] <;> rfl) | (simp [*, errW_none, errW_some] <;> rfl), by repeat (first | (with_reducible first | exact HB.out | apply ba31 | apply bn31 | apply bd31 | refine bs31 ?_ GE104.out) | exact HB.out)⟩

/-! ### cmp_isNaN_string: function 41 -/
def cmp_isNaN_string.f (a0 : ByteArray) : Option (Bool) := some (a0.toList != a0.toList)
set_option maxHeartbeats 8000000 in
set_option maxRecDepth 100000 in
theorem cmp_isNaN_string.calls (a0 : ByteArray) (r : Bool) (w : World) (h : cmp_isNaN_string.f a0 = some r) :
    Calls Try.prog 41 #[.string a0] w fun e w' => e = .returned (.bool r) ∧ Drawn0 w w' := by
  have H : (some (a0.toList != a0.toList)) = some r := h
  clear h
  obtain rfl := Option.some.inj H
  go_enter Try.func41, Try.ntmps41
  go_wp2
  go_ret
  exact ⟨by first | rfl | (simp; done) | (simp [*]; done), by repeat (first | exact Drawn0.refl _ | apply Drawn0.step)⟩

theorem Am37 : type_of% @Aside0.mk := @Aside0.mk
theorem ma37 : type_of% @List.map_toArray := @List.map_toArray
theorem mc37 : type_of% @List.map_cons := @List.map_cons
theorem mn37 : type_of% @List.map_nil := @List.map_nil
theorem ld37 : type_of% @List.length_drop := @List.length_drop
theorem lt_37 : type_of% @List.length_take := @List.length_take
/-! ### cmp_Compare_string: function 37 -/
def cmp_Compare_string.f (a0 : ByteArray) (a1 : ByteArray) : Option (Int) := (cmp_isNaN_string.f a0).bind fun t105 => ((cmp_isNaN_string.f a1).bind fun t106 => (if t105 = true then (if t106 = true then (some 0) else (some (-1))) else (if t106 = true then (some 1) else (if (Op.bytesLess a0.toList a1.toList) = true then (some (-1)) else (if a0.toList = a1.toList then (some 0) else (some 1))))))
set_option maxHeartbeats 8000000 in
set_option maxRecDepth 100000 in
theorem cmp_Compare_string.calls (a0 : ByteArray) (a1 : ByteArray) (r : Int) (w : World) (h : cmp_Compare_string.f a0 a1 = some r) :
  Calls Try.prog 37 #[.string a0, .string a1] w fun e w' => e = .returned (.int .i64 r) ∧ Drawn0 w w' := by
 have H : ((cmp_isNaN_string.f a0).bind fun t105 => ((cmp_isNaN_string.f a1).bind fun t106 => (if t105 = true then (if t106 = true then (some 0) else (some (-1))) else (if t106 = true then (some 1) else (if (Op.bytesLess a0.toList a1.toList) = true then (some (-1)) else (if a0.toList = a1.toList then (some 0) else (some 1))))))) = some r := h
 clear h
 replace H := Option.bind_eq_some_iff.mp H
 obtain ⟨t105, A30, H⟩ := H
 try dsimp only at H
 have A3 := Am37 A30
 clear A30
 replace H := Option.bind_eq_some_iff.mp H
 obtain ⟨t106, A40, H⟩ := H
 try dsimp only at H
 have A4 := Am37 A40
 clear A40
 by_cases c5 : t105 = true
 ·subst c5
  rw [if_pos rfl] at H
  by_cases c6 : t106 = true
  ·subst c6
   rw [if_pos rfl] at H
   obtain rfl := Option.some.inj H
   go_enter Try.func37, Try.ntmps37
   go_wp2_with (first | ((with_reducible refine gate_callee (f:=41) rfl ?_); refine goesL_ (some 8) rfl rfl Try.func41 (by kernel_rfl) rfl #[.string a0] rfl (by (try simp only [ma37, mc37, mn37]); first | done | rfl | (simp only [ld37, lt_37]; rfl)) ?_; (with_reducible refine (cmp_isNaN_string.calls a0 true _ A3.out).mono ?_); rintro e w' ⟨rfl, ⟨nd, rfl⟩⟩; refine ⟨_, rfl, ?_⟩) | ((with_reducible refine gate_callee (f:=41) rfl ?_); refine goesL_ (some 10) rfl rfl Try.func41 (by kernel_rfl) rfl #[.string a1] rfl (by (try simp only [ma37, mc37, mn37]); first | done | rfl | (simp only [ld37, lt_37]; rfl)) ?_; (with_reducible refine (cmp_isNaN_string.calls a1 true _ A4.out).mono ?_); rintro e w' ⟨rfl, ⟨nd, rfl⟩⟩; refine ⟨_, rfl, ?_⟩))
   go_ret
   exact ⟨by first | rfl | (simp; done) | (simp [*]; done), by repeat (first | exact Drawn0.refl _ | apply Drawn0.step)⟩
  ·replace c6 := Bool.eq_false_iff.mpr c6
   subst c6
   rw [if_neg (show ¬ (false = true) by decide)] at H
   obtain rfl := Option.some.inj H
   go_enter Try.func37, Try.ntmps37
   go_wp2_with (first | ((with_reducible refine gate_callee (f:=41) rfl ?_); refine goesL_ (some 8) rfl rfl Try.func41 (by kernel_rfl) rfl #[.string a0] rfl (by (try simp only [ma37, mc37, mn37]); first | done | rfl | (simp only [ld37, lt_37]; rfl)) ?_; (with_reducible refine (cmp_isNaN_string.calls a0 true _ A3.out).mono ?_); rintro e w' ⟨rfl, ⟨nd, rfl⟩⟩; refine ⟨_, rfl, ?_⟩) | ((with_reducible refine gate_callee (f:=41) rfl ?_); refine goesL_ (some 10) rfl rfl Try.func41 (by kernel_rfl) rfl #[.string a1] rfl (by (try simp only [ma37, mc37, mn37]); first | done | rfl | (simp only [ld37, lt_37]; rfl)) ?_; (with_reducible refine (cmp_isNaN_string.calls a1 false _ A4.out).mono ?_); rintro e w' ⟨rfl, ⟨nd, rfl⟩⟩; refine ⟨_, rfl, ?_⟩))
   go_ret
   exact ⟨by first | rfl | (simp; done) | (simp [*]; done), by repeat (first | exact Drawn0.refl _ | apply Drawn0.step)⟩
 ·replace c5 := Bool.eq_false_iff.mpr c5
  subst c5
  rw [if_neg (show ¬ (false = true) by decide)] at H
  by_cases c7 : t106 = true
  ·subst c7
   rw [if_pos rfl] at H
   obtain rfl := Option.some.inj H
   go_enter Try.func37, Try.ntmps37
   go_wp2_with (first | ((with_reducible refine gate_callee (f:=41) rfl ?_); refine goesL_ (some 8) rfl rfl Try.func41 (by kernel_rfl) rfl #[.string a0] rfl (by (try simp only [ma37, mc37, mn37]); first | done | rfl | (simp only [ld37, lt_37]; rfl)) ?_; (with_reducible refine (cmp_isNaN_string.calls a0 false _ A3.out).mono ?_); rintro e w' ⟨rfl, ⟨nd, rfl⟩⟩; refine ⟨_, rfl, ?_⟩) | ((with_reducible refine gate_callee (f:=41) rfl ?_); refine goesL_ (some 10) rfl rfl Try.func41 (by kernel_rfl) rfl #[.string a1] rfl (by (try simp only [ma37, mc37, mn37]); first | done | rfl | (simp only [ld37, lt_37]; rfl)) ?_; (with_reducible refine (cmp_isNaN_string.calls a1 true _ A4.out).mono ?_); rintro e w' ⟨rfl, ⟨nd, rfl⟩⟩; refine ⟨_, rfl, ?_⟩))
   go_ret
   exact ⟨by first | rfl | (simp; done) | (simp [*]; done), by repeat (first | exact Drawn0.refl _ | apply Drawn0.step)⟩
  ·replace c7 := Bool.eq_false_iff.mpr c7
   subst c7
   rw [if_neg (show ¬ (false = true) by decide)] at H
   by_cases c8 : (Op.bytesLess a0.toList a1.toList) = true
   ·rw [if_pos c8] at H
    have c8b0 : (Op.bytesLess a0.toList a1.toList) = true := c8
    clear c8
    obtain rfl := Option.some.inj H
    go_enter Try.func37, Try.ntmps37
    go_wp2_with (first | ((with_reducible refine gate_callee (f:=41) rfl ?_); refine goesL_ (some 8) rfl rfl Try.func41 (by kernel_rfl) rfl #[.string a0] rfl (by (try simp only [ma37, mc37, mn37]); first | done | rfl | (simp only [ld37, lt_37]; rfl)) ?_; (with_reducible refine (cmp_isNaN_string.calls a0 false _ A3.out).mono ?_); rintro e w' ⟨rfl, ⟨nd, rfl⟩⟩; refine ⟨_, rfl, ?_⟩) | ((with_reducible refine gate_callee (f:=41) rfl ?_); refine goesL_ (some 10) rfl rfl Try.func41 (by kernel_rfl) rfl #[.string a1] rfl (by (try simp only [ma37, mc37, mn37]); first | done | rfl | (simp only [ld37, lt_37]; rfl)) ?_; (with_reducible refine (cmp_isNaN_string.calls a1 false _ A4.out).mono ?_); rintro e w' ⟨rfl, ⟨nd, rfl⟩⟩; refine ⟨_, rfl, ?_⟩))
    go_ret
    exact ⟨by first | rfl | (simp; done) | (simp [*]; done), by repeat (first | exact Drawn0.refl _ | apply Drawn0.step)⟩
   ·rw [if_neg c8] at H
    have c8b0 : (Op.bytesLess a0.toList a1.toList) = false := by simpa using c8
    clear c8
    by_cases c9 : a0.toList = a1.toList
    ·rw [if_pos c9] at H
     have c9b0 : (a0.toList == a1.toList) = true := beq_iff_eq.mpr c9
     have c9b1 : (a0.toList != a1.toList) = false := bne_eq_false_iff_eq.mpr c9
     clear c9
     obtain rfl := Option.some.inj H
     go_enter Try.func37, Try.ntmps37
     go_wp2_with (first | ((with_reducible refine gate_callee (f:=41) rfl ?_); refine goesL_ (some 8) rfl rfl Try.func41 (by kernel_rfl) rfl #[.string a0] rfl (by (try simp only [ma37, mc37, mn37]); first | done | rfl | (simp only [ld37, lt_37]; rfl)) ?_; (with_reducible refine (cmp_isNaN_string.calls a0 false _ A3.out).mono ?_); rintro e w' ⟨rfl, ⟨nd, rfl⟩⟩; refine ⟨_, rfl, ?_⟩) | ((with_reducible refine gate_callee (f:=41) rfl ?_); refine goesL_ (some 10) rfl rfl Try.func41 (by kernel_rfl) rfl #[.string a1] rfl (by (try simp only [ma37, mc37, mn37]); first | done | rfl | (simp only [ld37, lt_37]; rfl)) ?_; (with_reducible refine (cmp_isNaN_string.calls a1 false _ A4.out).mono ?_); rintro e w' ⟨rfl, ⟨nd, rfl⟩⟩; refine ⟨_, rfl, ?_⟩))
     go_ret
     exact ⟨by first | rfl | (simp; done) | (simp [*]; done), by repeat (first | exact Drawn0.refl _ | apply Drawn0.step)⟩
    ·rw [if_neg c9] at H
     have c9b0 : (a0.toList == a1.toList) = false := beq_eq_false_iff_ne.mpr c9
     have c9b1 : (a0.toList != a1.toList) = true := bne_iff_ne.mpr c9
     obtain rfl := Option.some.inj H
     go_enter Try.func37, Try.ntmps37
     go_wp2_with (first | ((with_reducible refine gate_callee (f:=41) rfl ?_); refine goesL_ (some 8) rfl rfl Try.func41 (by kernel_rfl) rfl #[.string a0] rfl (by (try simp only [ma37, mc37, mn37]); first | done | rfl | (simp only [ld37, lt_37]; rfl)) ?_; (with_reducible refine (cmp_isNaN_string.calls a0 false _ A3.out).mono ?_); rintro e w' ⟨rfl, ⟨nd, rfl⟩⟩; refine ⟨_, rfl, ?_⟩) | ((with_reducible refine gate_callee (f:=41) rfl ?_); refine goesL_ (some 10) rfl rfl Try.func41 (by kernel_rfl) rfl #[.string a1] rfl (by (try simp only [ma37, mc37, mn37]); first | done | rfl | (simp only [ld37, lt_37]; rfl)) ?_; (with_reducible refine (cmp_isNaN_string.calls a1 false _ A4.out).mono ?_); rintro e w' ⟨rfl, ⟨nd, rfl⟩⟩; refine ⟨_, rfl, ?_⟩))
     go_ret
     exact ⟨by first | rfl | (simp; done) | (simp [*]; done), by repeat (first | exact Drawn0.refl _ | apply Drawn0.step)⟩

theorem Am30 : type_of% @Aside0.mk := @Aside0.mk
theorem ba30 : type_of% @below_alloc := @below_alloc
theorem bn30 : type_of% @pw_below_drewN := @pw_below_drewN
theorem bd30 : type_of% @below_drew1 := @below_drew1
theorem bs30 : type_of% @below_set := @below_set
theorem kn30 : type_of% @blk_drewN := @blk_drewN
theorem kd30 : type_of% @blk_drew := @blk_drew
theorem ka30 : type_of% @blk_alloc := @blk_alloc
theorem kb30 : type_of% @blk_below := @blk_below
theorem bz30 : type_of% @below_size := @below_size
theorem bp30 : type_of% @below_step := @below_step
theorem kc30 : type_of% @blk_cell := @blk_cell
theorem kz30 : type_of% @blk_frozen := @blk_frozen
theorem ma30 : type_of% @List.map_toArray := @List.map_toArray
theorem mc30 : type_of% @List.map_cons := @List.map_cons
theorem mn30 : type_of% @List.map_nil := @List.map_nil
theorem ld30 : type_of% @List.length_drop := @List.length_drop
theorem lt_30 : type_of% @List.length_take := @List.length_take
/-! ### span_text_compare: function 30 -/
def span_text_compare.f (a0_0 : ByteArray) (a1_0 : ByteArray) : Option (Int) := (cmp_Compare_string.f a0_0 a1_0).bind fun t109 => (some t109)
set_option maxHeartbeats 8000000 in
set_option maxRecDepth 100000 in
theorem span_text_compare.calls (a0_0 : ByteArray) (a1_0 : ByteArray) (r : Int) (w : World) (h : span_text_compare.f a0_0 a1_0 = some r) :
  Calls Try.prog 30 #[.agg #[.string a0_0], .agg #[.string a1_0]] w fun e w' => e = .returned (.int .i64 r) ∧ Below w.heap.size w w' := by
 have hu46 := Try.underlying46
 have HB := Am30 (Below.refl w.heap.size w)
 have H : ((cmp_Compare_string.f a0_0 a1_0).bind fun t109 => (some t109)) = some r := h
 clear h
 replace H := Option.bind_eq_some_iff.mp H
 obtain ⟨t109, A30, H⟩ := H
 try dsimp only at H
 have A3 := Am30 A30
 clear A30
 obtain rfl := Option.some.inj H
 go_enter Try.func30, Try.ntmps30
 go_wp2_with (first | ((with_reducible refine gate_dst (N:=2) rfl ?_); refine box_event ?hg (N:=2) ?hd (cs:=#[.string a0_0]) (t:=46) ?hr ?_; (case hd => rfl); (case hg => rfl); (case hr => first | (go_simp; done) | (go_simp; rfl)); intro gb107 hg w4 hbox hb; have BK107 := Am30 (hbox); have GW107 := Am30 ((by rw [hg]; exact (bz30 (by repeat (first | (with_reducible first | exact HB.out | apply ba30 | apply bn30 | apply bd30) | exact HB.out))) : w.heap.size ≤ gb107)); have GE107 := Am30 ((by rw [hg]; exact (bz30 (by repeat (first | (with_reducible first | exact HB.out | apply ba30 | apply bn30 | apply bd30) | exact HB.out))) : w.heap.size ≤ gb107)); replace HB := Am30 (bp30 (by repeat (first | (with_reducible first | exact HB.out | apply ba30 | apply bn30 | apply bd30) | exact HB.out)) hb); clear hb hbox hg) | ((with_reducible refine gate_dst (N:=3) rfl ?_); refine box_event ?hg (N:=3) ?hd (cs:=#[.string a1_0]) (t:=46) ?hr ?_; (case hd => rfl); (case hg => rfl); (case hr => first | (go_simp; done) | (go_simp; rfl)); intro gb108 hg w5 hbox hb; have BK108 := Am30 (hbox); have GW108 := Am30 ((by rw [hg]; exact (bz30 (by repeat (first | (with_reducible first | exact HB.out | apply ba30 | apply bn30 | apply bd30 | refine bs30 ?_ GE107.out) | exact HB.out))) : w.heap.size ≤ gb108)); have GE108 := Am30 ((by rw [hg]; exact (bz30 (by repeat (first | (with_reducible first | exact HB.out | apply ba30 | apply bn30 | apply bd30 | refine bs30 ?_ GE107.out) | exact HB.out))) : w.heap.size ≤ gb108)); replace HB := Am30 (bp30 (by repeat (first | (with_reducible first | exact HB.out | apply ba30 | apply bn30 | apply bd30 | refine bs30 ?_ GE107.out) | exact HB.out)) hb); have NB107_108 := Am30 ((by rw [hg]; exact Nat.ne_of_lt (blk_lt (g:=gb107) (o:=.cells #[.string a0_0] 46 (0, 0)) (by (with_reducible repeat first | apply kn30 | apply kd30 | apply ka30); exact BK107.out)) : gb107 ≠ gb108)); have NB108_107 := Am30 ((by rw [hg]; exact Nat.ne_of_gt (blk_lt (g:=gb107) (o:=.cells #[.string a0_0] 46 (0, 0)) (by (with_reducible repeat first | apply kn30 | apply kd30 | apply ka30); exact BK107.out)) : gb108 ≠ gb107)); replace BK107 := Am30 (kb30 (g:=gb107) (o:=.cells #[.string a0_0] 46 (0, 0)) (by (with_reducible repeat first | apply kn30 | apply kd30 | apply ka30); exact BK107.out) hb); clear hb hbox hg; have hnb6 := NB107_108.out; have hnc6 := NB108_107.out; have hcz7_0 : w5.cell? ⟨gb107, 0, none⟩ = some (.string a0_0) := (kc30 BK107.out 0).trans rfl; have hfz7_0 := kz30 BK107.out 0; have hcz8_0 : w5.cell? ⟨gb108, 0, none⟩ = some (.string a1_0) := (kc30 BK108.out 0).trans rfl; have hfz8_0 := kz30 BK108.out 0) | ((with_reducible refine gate_callee (f:=37) rfl ?_); refine goesL_ (some 9) rfl rfl Try.func37 (by kernel_rfl) rfl #[.string a0_0, .string a1_0] rfl (by (try simp only [ma30, mc30, mn30]); first | done | rfl | (simp only [ld30, lt_30]; rfl)) ?_; (with_reducible refine (cmp_Compare_string.calls a0_0 a1_0 t109 _ A3.out).mono ?_); rintro e w' ⟨rfl, ⟨nd, rfl⟩⟩; refine ⟨_, rfl, ?_⟩))
 go_ret
 exact ⟨by first | rfl | (simp [errW_none, errW_some] <;> rfl) | (simp [*, errW_none, errW_some] <;> rfl), by repeat (first | (with_reducible first | exact HB.out | apply ba30 | apply bn30 | apply bd30 | refine bs30 ?_ GE107.out | refine bs30 ?_ GE108.out) | exact HB.out)⟩

theorem Am32 : type_of% @Aside0.mk := @Aside0.mk
theorem ba32 : type_of% @below_alloc := @below_alloc
theorem bn32 : type_of% @pw_below_drewN := @pw_below_drewN
theorem bd32 : type_of% @below_drew1 := @below_drew1
theorem bs32 : type_of% @below_set := @below_set
theorem kn32 : type_of% @blk_drewN := @blk_drewN
theorem kd32 : type_of% @blk_drew := @blk_drew
theorem ka32 : type_of% @blk_alloc := @blk_alloc
theorem kb32 : type_of% @blk_below := @blk_below
theorem bz32 : type_of% @below_size := @below_size
theorem bp32 : type_of% @below_step := @below_step
theorem kc32 : type_of% @blk_cell := @blk_cell
theorem kz32 : type_of% @blk_frozen := @blk_frozen
theorem ma32 : type_of% @List.map_toArray := @List.map_toArray
theorem mc32 : type_of% @List.map_cons := @List.map_cons
theorem mn32 : type_of% @List.map_nil := @List.map_nil
theorem ld32 : type_of% @List.length_drop := @List.length_drop
theorem lt_32 : type_of% @List.length_take := @List.length_take
/-! ### span_high_above: function 32 -/
def span_high_above.f (a0_0 : ByteArray) (a1_0 : ByteArray) : Option (Bool) := (span_text_none.f a0_0).bind fun t112 => (if t112 = true then (some true) else ((span_text_compare.f a0_0 a1_0).bind fun t113 => (some (decide (t113 > 0)))))
set_option maxHeartbeats 8000000 in
set_option maxRecDepth 100000 in
theorem span_high_above.calls (a0_0 : ByteArray) (a1_0 : ByteArray) (r : Bool) (w : World) (h : span_high_above.f a0_0 a1_0 = some r) :
  Calls Try.prog 32 #[.agg #[.string a0_0], .agg #[.string a1_0]] w fun e w' => e = .returned (.bool r) ∧ Below w.heap.size w w' := by
 have hu49 := Try.underlying49
 have hu46 := Try.underlying46
 have HB := Am32 (Below.refl w.heap.size w)
 have H : ((span_text_none.f a0_0).bind fun t112 => (if t112 = true then (some true) else ((span_text_compare.f a0_0 a1_0).bind fun t113 => (some (decide (t113 > 0)))))) = some r := h
 clear h
 replace H := Option.bind_eq_some_iff.mp H
 obtain ⟨t112, A30, H⟩ := H
 try dsimp only at H
 have A3 := Am32 A30
 clear A30
 by_cases c4 : t112 = true
 ·subst c4
  rw [if_pos rfl] at H
  obtain rfl := Option.some.inj H
  go_enter Try.func32, Try.ntmps32
  go_wp2_with (first | ((with_reducible refine gate_dst (N:=2) rfl ?_); refine box_event ?hg (N:=2) ?hd (cs:=#[.string a0_0]) (t:=49) ?hr ?_; (case hd => rfl); (case hg => rfl); (case hr => first | (go_simp; done) | (go_simp; rfl)); intro gb110 hg w5 hbox hb; have BK110 := Am32 (hbox); have GW110 := Am32 ((by rw [hg]; exact (bz32 (by repeat (first | (with_reducible first | exact HB.out | apply ba32 | apply bn32 | apply bd32) | exact HB.out))) : w.heap.size ≤ gb110)); have GE110 := Am32 ((by rw [hg]; exact (bz32 (by repeat (first | (with_reducible first | exact HB.out | apply ba32 | apply bn32 | apply bd32) | exact HB.out))) : w.heap.size ≤ gb110)); replace HB := Am32 (bp32 (by repeat (first | (with_reducible first | exact HB.out | apply ba32 | apply bn32 | apply bd32) | exact HB.out)) hb); clear hb hbox hg) | ((with_reducible refine gate_dst (N:=3) rfl ?_); refine box_event ?hg (N:=3) ?hd (cs:=#[.string a1_0]) (t:=46) ?hr ?_; (case hd => rfl); (case hg => rfl); (case hr => first | (go_simp; done) | (go_simp; rfl)); intro gb111 hg w6 hbox hb; have BK111 := Am32 (hbox); have GW111 := Am32 ((by rw [hg]; exact (bz32 (by repeat (first | (with_reducible first | exact HB.out | apply ba32 | apply bn32 | apply bd32 | refine bs32 ?_ GE110.out) | exact HB.out))) : w.heap.size ≤ gb111)); have GE111 := Am32 ((by rw [hg]; exact (bz32 (by repeat (first | (with_reducible first | exact HB.out | apply ba32 | apply bn32 | apply bd32 | refine bs32 ?_ GE110.out) | exact HB.out))) : w.heap.size ≤ gb111)); replace HB := Am32 (bp32 (by repeat (first | (with_reducible first | exact HB.out | apply ba32 | apply bn32 | apply bd32 | refine bs32 ?_ GE110.out) | exact HB.out)) hb); have NB110_111 := Am32 ((by rw [hg]; exact Nat.ne_of_lt (blk_lt (g:=gb110) (o:=.cells #[.string a0_0] 49 (0, 0)) (by (with_reducible repeat first | apply kn32 | apply kd32 | apply ka32); exact BK110.out)) : gb110 ≠ gb111)); have NB111_110 := Am32 ((by rw [hg]; exact Nat.ne_of_gt (blk_lt (g:=gb110) (o:=.cells #[.string a0_0] 49 (0, 0)) (by (with_reducible repeat first | apply kn32 | apply kd32 | apply ka32); exact BK110.out)) : gb111 ≠ gb110)); replace BK110 := Am32 (kb32 (g:=gb110) (o:=.cells #[.string a0_0] 49 (0, 0)) (by (with_reducible repeat first | apply kn32 | apply kd32 | apply ka32); exact BK110.out) hb); clear hb hbox hg; have hnb7 := NB110_111.out; have hnc7 := NB111_110.out; have hcz8_0 : w6.cell? ⟨gb110, 0, none⟩ = some (.string a0_0) := (kc32 BK110.out 0).trans rfl; have hfz8_0 := kz32 BK110.out 0) | ((with_reducible refine gate_callee (f:=31) rfl ?_); refine goesL_ (some 7) rfl rfl Try.func31 (by kernel_rfl) rfl #[.agg #[.string a0_0]] rfl (by (try simp only [ma32, mc32, mn32]); first | done | rfl | (simp only [ld32, lt_32]; rfl)) ?_; (with_reducible refine (span_text_none.calls a0_0 true _ A3.out).mono ?_); rintro e w9 ⟨rfl, hb⟩; refine ⟨_, rfl, ?_⟩; replace BK110 := Am32 (kb32 (g:=gb110) (o:=.cells #[.string a0_0] 49 (0, 0)) (by (with_reducible repeat first | apply kn32 | apply kd32 | apply ka32); exact BK110.out) hb); replace BK111 := Am32 (kb32 (g:=gb111) (o:=.cells #[.string a1_0] 46 (0, 0)) (by (with_reducible repeat first | apply kn32 | apply kd32 | apply ka32); exact BK111.out) hb); replace HB := Am32 (bp32 (by repeat (first | (with_reducible first | exact HB.out | apply ba32 | apply bn32 | apply bd32 | refine bs32 ?_ GE110.out | refine bs32 ?_ GE111.out) | exact HB.out)) hb); (try clear hb); (try clear hb2); (try clear hk); (try clear hi)))
  go_ret
  exact ⟨by first | rfl | (simp [errW_none, errW_some] <;> rfl) | (simp [*, errW_none, errW_some] <;> rfl), by repeat (first | (with_reducible first | exact HB.out | apply ba32 | apply bn32 | apply bd32 | refine bs32 ?_ GE110.out | refine bs32 ?_ GE111.out) | exact HB.out)⟩
 ·replace c4 := Bool.eq_false_iff.mpr c4
  subst c4
  rw [if_neg (show ¬ (false = true) by decide)] at H
  replace H := Option.bind_eq_some_iff.mp H
  obtain ⟨t113, A100, H⟩ := H
  try dsimp only at H
  have A10 := Am32 A100
  clear A100
  obtain rfl := Option.some.inj H
  go_enter Try.func32, Try.ntmps32
  go_wp2_with (first | ((with_reducible refine gate_dst (N:=2) rfl ?_); refine box_event ?hg (N:=2) ?hd (cs:=#[.string a0_0]) (t:=49) ?hr ?_; (case hd => rfl); (case hg => rfl); (case hr => first | (go_simp; done) | (go_simp; rfl)); intro gb110 hg w11 hbox hb; have BK110 := Am32 (hbox); have GW110 := Am32 ((by rw [hg]; exact (bz32 (by repeat (first | (with_reducible first | exact HB.out | apply ba32 | apply bn32 | apply bd32) | exact HB.out))) : w.heap.size ≤ gb110)); have GE110 := Am32 ((by rw [hg]; exact (bz32 (by repeat (first | (with_reducible first | exact HB.out | apply ba32 | apply bn32 | apply bd32) | exact HB.out))) : w.heap.size ≤ gb110)); replace HB := Am32 (bp32 (by repeat (first | (with_reducible first | exact HB.out | apply ba32 | apply bn32 | apply bd32) | exact HB.out)) hb); clear hb hbox hg) | ((with_reducible refine gate_dst (N:=3) rfl ?_); refine box_event ?hg (N:=3) ?hd (cs:=#[.string a1_0]) (t:=46) ?hr ?_; (case hd => rfl); (case hg => rfl); (case hr => first | (go_simp; done) | (go_simp; rfl)); intro gb111 hg w12 hbox hb; have BK111 := Am32 (hbox); have GW111 := Am32 ((by rw [hg]; exact (bz32 (by repeat (first | (with_reducible first | exact HB.out | apply ba32 | apply bn32 | apply bd32 | refine bs32 ?_ GE110.out) | exact HB.out))) : w.heap.size ≤ gb111)); have GE111 := Am32 ((by rw [hg]; exact (bz32 (by repeat (first | (with_reducible first | exact HB.out | apply ba32 | apply bn32 | apply bd32 | refine bs32 ?_ GE110.out) | exact HB.out))) : w.heap.size ≤ gb111)); replace HB := Am32 (bp32 (by repeat (first | (with_reducible first | exact HB.out | apply ba32 | apply bn32 | apply bd32 | refine bs32 ?_ GE110.out) | exact HB.out)) hb); have NB110_111 := Am32 ((by rw [hg]; exact Nat.ne_of_lt (blk_lt (g:=gb110) (o:=.cells #[.string a0_0] 49 (0, 0)) (by (with_reducible repeat first | apply kn32 | apply kd32 | apply ka32); exact BK110.out)) : gb110 ≠ gb111)); have NB111_110 := Am32 ((by rw [hg]; exact Nat.ne_of_gt (blk_lt (g:=gb110) (o:=.cells #[.string a0_0] 49 (0, 0)) (by (with_reducible repeat first | apply kn32 | apply kd32 | apply ka32); exact BK110.out)) : gb111 ≠ gb110)); replace BK110 := Am32 (kb32 (g:=gb110) (o:=.cells #[.string a0_0] 49 (0, 0)) (by (with_reducible repeat first | apply kn32 | apply kd32 | apply ka32); exact BK110.out) hb); clear hb hbox hg; have hnb13 := NB110_111.out; have hnc13 := NB111_110.out; have hcz14_0 : w12.cell? ⟨gb110, 0, none⟩ = some (.string a0_0) := (kc32 BK110.out 0).trans rfl; have hfz14_0 := kz32 BK110.out 0) | ((with_reducible refine gate_callee (f:=31) rfl ?_); refine goesL_ (some 7) rfl rfl Try.func31 (by kernel_rfl) rfl #[.agg #[.string a0_0]] rfl (by (try simp only [ma32, mc32, mn32]); first | done | rfl | (simp only [ld32, lt_32]; rfl)) ?_; (with_reducible refine (span_text_none.calls a0_0 false _ A3.out).mono ?_); rintro e w15 ⟨rfl, hb⟩; refine ⟨_, rfl, ?_⟩; replace BK110 := Am32 (kb32 (g:=gb110) (o:=.cells #[.string a0_0] 49 (0, 0)) (by (with_reducible repeat first | apply kn32 | apply kd32 | apply ka32); exact BK110.out) hb); replace BK111 := Am32 (kb32 (g:=gb111) (o:=.cells #[.string a1_0] 46 (0, 0)) (by (with_reducible repeat first | apply kn32 | apply kd32 | apply ka32); exact BK111.out) hb); replace HB := Am32 (bp32 (by repeat (first | (with_reducible first | exact HB.out | apply ba32 | apply bn32 | apply bd32 | refine bs32 ?_ GE110.out | refine bs32 ?_ GE111.out) | exact HB.out)) hb); (try clear hb); (try clear hb2); (try clear hk); (try clear hi); have hcz16_0 : w15.cell? ⟨gb110, 0, none⟩ = some (.string a0_0) := (kc32 BK110.out 0).trans rfl; have hfz16_0 := kz32 BK110.out 0; have hcz17_0 : w15.cell? ⟨gb111, 0, none⟩ = some (.string a1_0) := (kc32 BK111.out 0).trans rfl; have hfz17_0 := kz32 BK111.out 0) | (go_at_call 30; (with_reducible refine (span_text_compare.calls a0_0 a1_0 t113 _ A10.out).mono ?_); rintro e w18 ⟨rfl, hb⟩; replace BK110 := Am32 (kb32 (g:=gb110) (o:=.cells #[.string a0_0] 49 (0, 0)) (by (with_reducible repeat first | apply kn32 | apply kd32 | apply ka32); exact BK110.out) hb); replace BK111 := Am32 (kb32 (g:=gb111) (o:=.cells #[.string a1_0] 46 (0, 0)) (by (with_reducible repeat first | apply kn32 | apply kd32 | apply ka32); exact BK111.out) hb); replace HB := Am32 (bp32 (by repeat (first | (with_reducible first | exact HB.out | apply ba32 | apply bn32 | apply bd32 | refine bs32 ?_ GE110.out | refine bs32 ?_ GE111.out) | exact HB.out)) hb); (try clear hb); (try clear hb2); (try clear hk); (try clear hi)))
  go_ret
  exact ⟨by first | rfl | (simp [errW_none, errW_some] <;> rfl) | (simp [*, errW_none, errW_some] <;> rfl), by repeat (first | (with_reducible first | exact HB.out | apply ba32 | apply bn32 | apply bd32 | refine bs32 ?_ GE110.out | refine bs32 ?_ GE111.out) | exact HB.out)⟩

theorem Am16 : type_of% @Aside0.mk := @Aside0.mk
theorem ba16 : type_of% @below_alloc := @below_alloc
theorem bn16 : type_of% @pw_below_drewN := @pw_below_drewN
theorem bd16 : type_of% @below_drew1 := @below_drew1
theorem bs16 : type_of% @below_set := @below_set
theorem kn16 : type_of% @blk_drewN := @blk_drewN
theorem kd16 : type_of% @blk_drew := @blk_drew
theorem ka16 : type_of% @blk_alloc := @blk_alloc
theorem kf16 : type_of% @blk_far := @blk_far
theorem kb16 : type_of% @blk_below := @blk_below
theorem bz16 : type_of% @below_size := @below_size
theorem bp16 : type_of% @below_step := @below_step
theorem kc16 : type_of% @blk_cell := @blk_cell
theorem kz16 : type_of% @blk_frozen := @blk_frozen
theorem ma16 : type_of% @List.map_toArray := @List.map_toArray
theorem mc16 : type_of% @List.map_cons := @List.map_cons
theorem mn16 : type_of% @List.map_nil := @List.map_nil
theorem ld16 : type_of% @List.length_drop := @List.length_drop
theorem lt_16 : type_of% @List.length_take := @List.length_take
/-! ### span_Right: function 16 -/
def span_Right.f (k : Nat) (a0_0 : ByteArray) (a0_1 : ByteArray) : Option (Bool) := (span_ends.f a0_0 a0_1).bind fun bt115 => ((span_text_none.f bt115.1).bind fun t119 => (if t119 = true then ((span_text_none.f bt115.2).bind fun t120 => (if t120 = true then ((span_high_above.f bt115.2 bt115.1).bind fun t121 => (some t121)) else ((span_Key.f k a0_1).bind fun t122 => (if t122 = true then ((span_high_above.f bt115.2 bt115.1).bind fun t123 => (some t123)) else (some false))))) else ((span_Key.f k a0_0).bind fun t124 => (if t124 = true then ((span_text_none.f bt115.2).bind fun t125 => (if t125 = true then ((span_high_above.f bt115.2 bt115.1).bind fun t126 => (some t126)) else ((span_Key.f k a0_1).bind fun t127 => (if t127 = true then ((span_high_above.f bt115.2 bt115.1).bind fun t128 => (some t128)) else (some false))))) else (some false)))))
theorem span_Right.mono : ∀ a0 a1 k, LeO (span_Right.f k a0 a1) (span_Right.f (k + 1) a0 a1) := by
 intro a0 a1 k
 unfold span_Right.f
 repeat' first
   | (with_reducible exact span_Key.mono _ _)
   | (with_reducible exact LeO.refl _)
   | (with_reducible exact LeO.none _)
   | (with_reducible refine LeO.ite ?_ ?_)
   | (with_reducible refine LeO.bind ?_ (fun _ => ?_))
   | exact span_Key.mono _ _
   | exact LeO.none _
   | refine LeO.ite ?_ ?_
   | refine LeO.bind ?_ (fun _ => ?_)
set_option maxHeartbeats 8000000 in
set_option maxRecDepth 100000 in
theorem span_Right.calls (k : Nat) (a0_0 : ByteArray) (a0_1 : ByteArray) (r : Bool) (w : World) (h : span_Right.f k a0_0 a0_1 = some r) :
  Calls Try.prog 16 #[.agg #[.string a0_0, .string a0_1]] w fun e w' => e = .returned (.bool r) ∧ Below w.heap.size w w' := by
 have hu26 := Try.underlying26
 have hu48 := Try.underlying48
 have hu49 := Try.underlying49
 have hu46 := Try.underlying46
 have HB := Am16 (Below.refl w.heap.size w)
 have H : ((span_ends.f a0_0 a0_1).bind fun bt115 => ((span_text_none.f bt115.1).bind fun t119 => (if t119 = true then ((span_text_none.f bt115.2).bind fun t120 => (if t120 = true then ((span_high_above.f bt115.2 bt115.1).bind fun t121 => (some t121)) else ((span_Key.f k a0_1).bind fun t122 => (if t122 = true then ((span_high_above.f bt115.2 bt115.1).bind fun t123 => (some t123)) else (some false))))) else ((span_Key.f k a0_0).bind fun t124 => (if t124 = true then ((span_text_none.f bt115.2).bind fun t125 => (if t125 = true then ((span_high_above.f bt115.2 bt115.1).bind fun t126 => (some t126)) else ((span_Key.f k a0_1).bind fun t127 => (if t127 = true then ((span_high_above.f bt115.2 bt115.1).bind fun t128 => (some t128)) else (some false))))) else (some false)))))) = some r := h
 clear h
 replace H := Option.bind_eq_some_iff.mp H
 obtain ⟨⟨t115, t116⟩, A20, H⟩ := H
 try dsimp only at H
 have A2 := Am16 A20
 clear A20
 replace H := Option.bind_eq_some_iff.mp H
 obtain ⟨t119, A30, H⟩ := H
 try dsimp only at H
 have A3 := Am16 A30
 clear A30
 by_cases c4 : t119 = true
 ·subst c4
  rw [if_pos rfl] at H
  replace H := Option.bind_eq_some_iff.mp H
  obtain ⟨t120, A50, H⟩ := H
  try dsimp only at H
  have A5 := Am16 A50
  clear A50
  by_cases c6 : t120 = true
  ·subst c6
   rw [if_pos rfl] at H
   replace H := Option.bind_eq_some_iff.mp H
   obtain ⟨t121, A70, H⟩ := H
   try dsimp only at H
   have A7 := Am16 A70
   clear A70
   obtain rfl := Option.some.inj H
   go_enter Try.func16, Try.ntmps16
   go_wp2_with (first | ((with_reducible refine gate_dst (N:=1) rfl ?_); refine box_event ?hg (N:=1) ?hd (cs:=#[.string a0_0, .string a0_1]) (t:=26) ?hr ?_; (case hd => rfl); (case hg => rfl); (case hr => first | (go_simp; done) | (go_simp; rfl)); intro gb114 hg w8 hbox hb; have BK114 := Am16 (hbox); have GW114 := Am16 ((by rw [hg]; exact (bz16 (by repeat (first | (with_reducible first | exact HB.out | apply ba16 | apply bn16 | apply bd16) | exact HB.out))) : w.heap.size ≤ gb114)); have GE114 := Am16 ((by rw [hg]; exact (bz16 (by repeat (first | (with_reducible first | exact HB.out | apply ba16 | apply bn16 | apply bd16) | exact HB.out))) : w.heap.size ≤ gb114)); replace HB := Am16 (bp16 (by repeat (first | (with_reducible first | exact HB.out | apply ba16 | apply bn16 | apply bd16) | exact HB.out)) hb); clear hb hbox hg; have hcz9_0 : w8.cell? ⟨gb114, 0, none⟩ = some (.string a0_0) := (kc16 BK114.out 0).trans rfl; have hcz9_1 : w8.cell? ⟨gb114, 1, none⟩ = some (.string a0_1) := (kc16 BK114.out 1).trans rfl; have hfz9_0 := kz16 BK114.out 0; have hfz9_1 := kz16 BK114.out 1) | ((with_reducible refine gate_callee (f:=28) rfl ?_); refine goesL_ (some 7) rfl rfl Try.func28 (by kernel_rfl) rfl #[.agg #[.string a0_0, .string a0_1]] rfl (by (try simp only [ma16, mc16, mn16]); first | done | rfl | (simp only [ld16, lt_16]; rfl)) ?_; (with_reducible refine (span_ends.calls a0_0 a0_1 t115 t116 _ A2.out).mono ?_); rintro e w10 ⟨rfl, hb⟩; refine ⟨_, rfl, ?_⟩; replace BK114 := Am16 (kb16 (g:=gb114) (o:=.cells #[.string a0_0, .string a0_1] 26 (0, 0)) (by (with_reducible repeat first | apply kn16 | apply kd16 | apply ka16); exact BK114.out) hb); replace HB := Am16 (bp16 (by repeat (first | (with_reducible first | exact HB.out | apply ba16 | apply bn16 | apply bd16 | refine bs16 ?_ GE114.out) | exact HB.out)) hb); (try clear hb); (try clear hb2); (try clear hk); (try clear hi)) | ((with_reducible refine gate_dst (N:=3) rfl ?_); refine box_event ?hg (N:=3) ?hd (cs:=#[.string (⟨#[]⟩ : ByteArray)]) (t:=48) ?hr ?_; (case hd => rfl); (case hg => rfl); (case hr => first | (go_simp; done) | (go_simp; rfl)); intro gb117 hg w11 hbox hb; have BK117 := Am16 (hbox); have GW117 := Am16 ((by rw [hg]; exact (bz16 (by repeat (first | (with_reducible first | exact HB.out | apply ba16 | apply bn16 | apply bd16 | refine bs16 ?_ GE114.out) | exact HB.out))) : w.heap.size ≤ gb117)); have GE117 := Am16 ((by rw [hg]; exact (bz16 (by repeat (first | (with_reducible first | exact HB.out | apply ba16 | apply bn16 | apply bd16 | refine bs16 ?_ GE114.out) | exact HB.out))) : w.heap.size ≤ gb117)); replace HB := Am16 (bp16 (by repeat (first | (with_reducible first | exact HB.out | apply ba16 | apply bn16 | apply bd16 | refine bs16 ?_ GE114.out) | exact HB.out)) hb); have NB114_117 := Am16 ((by rw [hg]; exact Nat.ne_of_lt (blk_lt (g:=gb114) (o:=.cells #[.string a0_0, .string a0_1] 26 (0, 0)) (by (with_reducible repeat first | apply kn16 | apply kd16 | apply ka16); exact BK114.out)) : gb114 ≠ gb117)); have NB117_114 := Am16 ((by rw [hg]; exact Nat.ne_of_gt (blk_lt (g:=gb114) (o:=.cells #[.string a0_0, .string a0_1] 26 (0, 0)) (by (with_reducible repeat first | apply kn16 | apply kd16 | apply ka16); exact BK114.out)) : gb117 ≠ gb114)); replace BK114 := Am16 (kb16 (g:=gb114) (o:=.cells #[.string a0_0, .string a0_1] 26 (0, 0)) (by (with_reducible repeat first | apply kn16 | apply kd16 | apply ka16); exact BK114.out) hb); clear hb hbox hg) | ((with_reducible refine gate_dst (N:=4) rfl ?_); refine box_event ?hg (N:=4) ?hd (cs:=#[.string (⟨#[]⟩ : ByteArray)]) (t:=49) ?hr ?_; (case hd => rfl); (case hg => rfl); (case hr => first | (go_simp; done) | (go_simp; rfl)); intro gb118 hg w12 hbox hb; have BK118 := Am16 (hbox); have GW118 := Am16 ((by rw [hg]; exact (bz16 (by repeat (first | (with_reducible first | exact HB.out | apply ba16 | apply bn16 | apply bd16 | refine bs16 ?_ GE114.out | refine bs16 ?_ GE117.out) | exact HB.out))) : w.heap.size ≤ gb118)); have GE118 := Am16 ((by rw [hg]; exact (bz16 (by repeat (first | (with_reducible first | exact HB.out | apply ba16 | apply bn16 | apply bd16 | refine bs16 ?_ GE114.out | refine bs16 ?_ GE117.out) | exact HB.out))) : w.heap.size ≤ gb118)); replace HB := Am16 (bp16 (by repeat (first | (with_reducible first | exact HB.out | apply ba16 | apply bn16 | apply bd16 | refine bs16 ?_ GE114.out | refine bs16 ?_ GE117.out) | exact HB.out)) hb); have NB114_118 := Am16 ((by rw [hg]; exact Nat.ne_of_lt (blk_lt (g:=gb114) (o:=.cells #[.string a0_0, .string a0_1] 26 (0, 0)) (by (with_reducible repeat first | apply kn16 | apply kd16 | apply ka16); exact BK114.out)) : gb114 ≠ gb118)); have NB118_114 := Am16 ((by rw [hg]; exact Nat.ne_of_gt (blk_lt (g:=gb114) (o:=.cells #[.string a0_0, .string a0_1] 26 (0, 0)) (by (with_reducible repeat first | apply kn16 | apply kd16 | apply ka16); exact BK114.out)) : gb118 ≠ gb114)); replace BK114 := Am16 (kb16 (g:=gb114) (o:=.cells #[.string a0_0, .string a0_1] 26 (0, 0)) (by (with_reducible repeat first | apply kn16 | apply kd16 | apply ka16); exact BK114.out) hb); have NB117_118 := Am16 ((by rw [hg]; exact Nat.ne_of_lt (blk_lt (g:=gb117) (o:=.cells #[.string (⟨#[]⟩ : ByteArray)] 48 (0, 0)) (by (with_reducible repeat first | apply kn16 | apply kd16 | apply ka16); exact BK117.out)) : gb117 ≠ gb118)); have NB118_117 := Am16 ((by rw [hg]; exact Nat.ne_of_gt (blk_lt (g:=gb117) (o:=.cells #[.string (⟨#[]⟩ : ByteArray)] 48 (0, 0)) (by (with_reducible repeat first | apply kn16 | apply kd16 | apply ka16); exact BK117.out)) : gb118 ≠ gb117)); replace BK117 := Am16 (kb16 (g:=gb117) (o:=.cells #[.string (⟨#[]⟩ : ByteArray)] 48 (0, 0)) (by (with_reducible repeat first | apply kn16 | apply kd16 | apply ka16); exact BK117.out) hb); clear hb hbox hg; have hnb13 := NB117_114.out; have hnc13 := NB114_117.out; have hnb14 := NB117_118.out; have hnc14 := NB118_117.out; have hcz15_0 : w12.cell? ⟨gb117, 0, none⟩ = some (.string (⟨#[]⟩ : ByteArray)) := (kc16 BK117.out 0).trans rfl; have hfz15_0 := kz16 BK117.out 0; have hnb16 := NB118_114.out; have hnc16 := NB114_118.out; have hcz17_0 : w12.cell? ⟨gb118, 0, none⟩ = some (.string (⟨#[]⟩ : ByteArray)) := (kc16 BK118.out 0).trans rfl; have hfz17_0 := kz16 BK118.out 0) | ((with_reducible refine gate_callee (f:=31) rfl ?_); refine goesL_ (some 12) rfl rfl Try.func31 (by kernel_rfl) rfl #[.agg #[.string t115]] rfl (by (try simp only [ma16, mc16, mn16]); first | done | rfl | (simp only [ld16, lt_16]; rfl)) ?_; (with_reducible refine (span_text_none.calls t115 true _ A3.out).mono ?_); rintro e w18 ⟨rfl, hb⟩; refine ⟨_, rfl, ?_⟩; replace BK114 := Am16 (kb16 (g:=gb114) (o:=.cells #[.string a0_0, .string a0_1] 26 (0, 0)) (by (with_reducible repeat first | apply kn16 | apply kd16 | apply ka16); refine kf16 ?_ NB114_118.out _; (with_reducible repeat first | apply kn16 | apply kd16 | apply ka16); refine kf16 ?_ NB114_117.out _; (with_reducible repeat first | apply kn16 | apply kd16 | apply ka16); exact BK114.out) hb); replace BK117 := Am16 (kb16 (g:=gb117) (o:=.cells #[.string t115] 48 (0, 0)) (by (with_reducible repeat first | apply kn16 | apply kd16 | apply ka16); refine kf16 ?_ NB117_118.out _; (with_reducible repeat first | apply kn16 | apply kd16 | apply ka16); refine blk_put (cs:=#[.string (⟨#[]⟩ : ByteArray)]) ?_ 0 _ rfl; (with_reducible repeat first | apply kn16 | apply kd16 | apply ka16); exact BK117.out) hb); replace BK118 := Am16 (kb16 (g:=gb118) (o:=.cells #[.string t116] 49 (0, 0)) (by (with_reducible repeat first | apply kn16 | apply kd16 | apply ka16); refine blk_put (cs:=#[.string (⟨#[]⟩ : ByteArray)]) ?_ 0 _ rfl; (with_reducible repeat first | apply kn16 | apply kd16 | apply ka16); refine kf16 ?_ NB118_117.out _; (with_reducible repeat first | apply kn16 | apply kd16 | apply ka16); exact BK118.out) hb); replace HB := Am16 (bp16 (by repeat (first | (with_reducible first | exact HB.out | apply ba16 | apply bn16 | apply bd16 | refine bs16 ?_ GE114.out | refine bs16 ?_ GE117.out | refine bs16 ?_ GE118.out) | exact HB.out)) hb); (try clear hb); (try clear hb2); (try clear hk); (try clear hi); have hcz19_0 : w18.cell? ⟨gb118, 0, none⟩ = some (.string t116) := (kc16 BK118.out 0).trans rfl; have hfz19_0 := kz16 BK118.out 0) | (go_at_call 31; (with_reducible refine (span_text_none.calls t116 true _ A5.out).mono ?_); rintro e w20 ⟨rfl, hb⟩; replace BK114 := Am16 (kb16 (g:=gb114) (o:=.cells #[.string a0_0, .string a0_1] 26 (0, 0)) (by (with_reducible repeat first | apply kn16 | apply kd16 | apply ka16); exact BK114.out) hb); replace BK117 := Am16 (kb16 (g:=gb117) (o:=.cells #[.string t115] 48 (0, 0)) (by (with_reducible repeat first | apply kn16 | apply kd16 | apply ka16); exact BK117.out) hb); replace BK118 := Am16 (kb16 (g:=gb118) (o:=.cells #[.string t116] 49 (0, 0)) (by (with_reducible repeat first | apply kn16 | apply kd16 | apply ka16); exact BK118.out) hb); replace HB := Am16 (bp16 (by repeat (first | (with_reducible first | exact HB.out | apply ba16 | apply bn16 | apply bd16 | refine bs16 ?_ GE114.out | refine bs16 ?_ GE117.out | refine bs16 ?_ GE118.out) | exact HB.out)) hb); (try clear hb); (try clear hb2); (try clear hk); (try clear hi); have hcz21_0 : w20.cell? ⟨gb118, 0, none⟩ = some (.string t116) := (kc16 BK118.out 0).trans rfl; have hfz21_0 := kz16 BK118.out 0; have hcz22_0 : w20.cell? ⟨gb117, 0, none⟩ = some (.string t115) := (kc16 BK117.out 0).trans rfl; have hfz22_0 := kz16 BK117.out 0) | (go_at_call 32; (with_reducible refine (span_high_above.calls t116 t115 t121 _ A7.out).mono ?_); rintro e w23 ⟨rfl, hb⟩; replace BK114 := Am16 (kb16 (g:=gb114) (o:=.cells #[.string a0_0, .string a0_1] 26 (0, 0)) (by (with_reducible repeat first | apply kn16 | apply kd16 | apply ka16); exact BK114.out) hb); replace BK117 := Am16 (kb16 (g:=gb117) (o:=.cells #[.string t115] 48 (0, 0)) (by (with_reducible repeat first | apply kn16 | apply kd16 | apply ka16); exact BK117.out) hb); replace BK118 := Am16 (kb16 (g:=gb118) (o:=.cells #[.string t116] 49 (0, 0)) (by (with_reducible repeat first | apply kn16 | apply kd16 | apply ka16); exact BK118.out) hb); replace HB := Am16 (bp16 (by repeat (first | (with_reducible first | exact HB.out | apply ba16 | apply bn16 | apply bd16 | refine bs16 ?_ GE114.out | refine bs16 ?_ GE117.out | refine bs16 ?_ GE118.out) | exact HB.out)) hb); (try clear hb); (try clear hb2); (try clear hk); (try clear hi)))
   go_ret
   exact ⟨by first | rfl | (simp [errW_none, errW_some] <;> rfl) | (simp [*, errW_none, errW_some] <;> rfl), by repeat (first | (with_reducible first | exact HB.out | apply ba16 | apply bn16 | apply bd16 | refine bs16 ?_ GE114.out | refine bs16 ?_ GE117.out | refine bs16 ?_ GE118.out) | exact HB.out)⟩
  ·replace c6 := Bool.eq_false_iff.mpr c6
   subst c6
   rw [if_neg (show ¬ (false = true) by decide)] at H
   replace H := Option.bind_eq_some_iff.mp H
   obtain ⟨t122, A240, H⟩ := H
   try dsimp only at H
   have A24 := Am16 A240
   clear A240
   by_cases c25 : t122 = true
   ·subst c25
    rw [if_pos rfl] at H
    replace H := Option.bind_eq_some_iff.mp H
    obtain ⟨t123, A260, H⟩ := H
    try dsimp only at H
    have A26 := Am16 A260
    clear A260
    obtain rfl := Option.some.inj H
    go_enter Try.func16, Try.ntmps16
    go_wp2_with (first | ((with_reducible refine gate_dst (N:=1) rfl ?_); refine box_event ?hg (N:=1) ?hd (cs:=#[.string a0_0, .string a0_1]) (t:=26) ?hr ?_; (case hd => rfl); (case hg => rfl); (case hr => first | (go_simp; done) | (go_simp; rfl)); intro gb114 hg w27 hbox hb; have BK114 := Am16 (hbox); have GW114 := Am16 ((by rw [hg]; exact (bz16 (by repeat (first | (with_reducible first | exact HB.out | apply ba16 | apply bn16 | apply bd16) | exact HB.out))) : w.heap.size ≤ gb114)); have GE114 := Am16 ((by rw [hg]; exact (bz16 (by repeat (first | (with_reducible first | exact HB.out | apply ba16 | apply bn16 | apply bd16) | exact HB.out))) : w.heap.size ≤ gb114)); replace HB := Am16 (bp16 (by repeat (first | (with_reducible first | exact HB.out | apply ba16 | apply bn16 | apply bd16) | exact HB.out)) hb); clear hb hbox hg; have hcz28_0 : w27.cell? ⟨gb114, 0, none⟩ = some (.string a0_0) := (kc16 BK114.out 0).trans rfl; have hcz28_1 : w27.cell? ⟨gb114, 1, none⟩ = some (.string a0_1) := (kc16 BK114.out 1).trans rfl; have hfz28_0 := kz16 BK114.out 0; have hfz28_1 := kz16 BK114.out 1) | ((with_reducible refine gate_callee (f:=28) rfl ?_); refine goesL_ (some 7) rfl rfl Try.func28 (by kernel_rfl) rfl #[.agg #[.string a0_0, .string a0_1]] rfl (by (try simp only [ma16, mc16, mn16]); first | done | rfl | (simp only [ld16, lt_16]; rfl)) ?_; (with_reducible refine (span_ends.calls a0_0 a0_1 t115 t116 _ A2.out).mono ?_); rintro e w29 ⟨rfl, hb⟩; refine ⟨_, rfl, ?_⟩; replace BK114 := Am16 (kb16 (g:=gb114) (o:=.cells #[.string a0_0, .string a0_1] 26 (0, 0)) (by (with_reducible repeat first | apply kn16 | apply kd16 | apply ka16); exact BK114.out) hb); replace HB := Am16 (bp16 (by repeat (first | (with_reducible first | exact HB.out | apply ba16 | apply bn16 | apply bd16 | refine bs16 ?_ GE114.out) | exact HB.out)) hb); (try clear hb); (try clear hb2); (try clear hk); (try clear hi)) | ((with_reducible refine gate_dst (N:=3) rfl ?_); refine box_event ?hg (N:=3) ?hd (cs:=#[.string (⟨#[]⟩ : ByteArray)]) (t:=48) ?hr ?_; (case hd => rfl); (case hg => rfl); (case hr => first | (go_simp; done) | (go_simp; rfl)); intro gb117 hg w30 hbox hb; have BK117 := Am16 (hbox); have GW117 := Am16 ((by rw [hg]; exact (bz16 (by repeat (first | (with_reducible first | exact HB.out | apply ba16 | apply bn16 | apply bd16 | refine bs16 ?_ GE114.out) | exact HB.out))) : w.heap.size ≤ gb117)); have GE117 := Am16 ((by rw [hg]; exact (bz16 (by repeat (first | (with_reducible first | exact HB.out | apply ba16 | apply bn16 | apply bd16 | refine bs16 ?_ GE114.out) | exact HB.out))) : w.heap.size ≤ gb117)); replace HB := Am16 (bp16 (by repeat (first | (with_reducible first | exact HB.out | apply ba16 | apply bn16 | apply bd16 | refine bs16 ?_ GE114.out) | exact HB.out)) hb); have NB114_117 := Am16 ((by rw [hg]; exact Nat.ne_of_lt (blk_lt (g:=gb114) (o:=.cells #[.string a0_0, .string a0_1] 26 (0, 0)) (by (with_reducible repeat first | apply kn16 | apply kd16 | apply ka16); exact BK114.out)) : gb114 ≠ gb117)); have NB117_114 := Am16 ((by rw [hg]; exact Nat.ne_of_gt (blk_lt (g:=gb114) (o:=.cells #[.string a0_0, .string a0_1] 26 (0, 0)) (by (with_reducible repeat first | apply kn16 | apply kd16 | apply ka16); exact BK114.out)) : gb117 ≠ gb114)); replace BK114 := Am16 (kb16 (g:=gb114) (o:=.cells #[.string a0_0, .string a0_1] 26 (0, 0)) (by (with_reducible repeat first | apply kn16 | apply kd16 | apply ka16); exact BK114.out) hb); clear hb hbox hg) | ((with_reducible refine gate_dst (N:=4) rfl ?_); refine box_event ?hg (N:=4) ?hd (cs:=#[.string (⟨#[]⟩ : ByteArray)]) (t:=49) ?hr ?_; (case hd => rfl); (case hg => rfl); (case hr => first | (go_simp; done) | (go_simp; rfl)); intro gb118 hg w31 hbox hb; have BK118 := Am16 (hbox); have GW118 := Am16 ((by rw [hg]; exact (bz16 (by repeat (first | (with_reducible first | exact HB.out | apply ba16 | apply bn16 | apply bd16 | refine bs16 ?_ GE114.out | refine bs16 ?_ GE117.out) | exact HB.out))) : w.heap.size ≤ gb118)); have GE118 := Am16 ((by rw [hg]; exact (bz16 (by repeat (first | (with_reducible first | exact HB.out | apply ba16 | apply bn16 | apply bd16 | refine bs16 ?_ GE114.out | refine bs16 ?_ GE117.out) | exact HB.out))) : w.heap.size ≤ gb118)); replace HB := Am16 (bp16 (by repeat (first | (with_reducible first | exact HB.out | apply ba16 | apply bn16 | apply bd16 | refine bs16 ?_ GE114.out | refine bs16 ?_ GE117.out) | exact HB.out)) hb); have NB114_118 := Am16 ((by rw [hg]; exact Nat.ne_of_lt (blk_lt (g:=gb114) (o:=.cells #[.string a0_0, .string a0_1] 26 (0, 0)) (by (with_reducible repeat first | apply kn16 | apply kd16 | apply ka16); exact BK114.out)) : gb114 ≠ gb118)); have NB118_114 := Am16 ((by rw [hg]; exact Nat.ne_of_gt (blk_lt (g:=gb114) (o:=.cells #[.string a0_0, .string a0_1] 26 (0, 0)) (by (with_reducible repeat first | apply kn16 | apply kd16 | apply ka16); exact BK114.out)) : gb118 ≠ gb114)); replace BK114 := Am16 (kb16 (g:=gb114) (o:=.cells #[.string a0_0, .string a0_1] 26 (0, 0)) (by (with_reducible repeat first | apply kn16 | apply kd16 | apply ka16); exact BK114.out) hb); have NB117_118 := Am16 ((by rw [hg]; exact Nat.ne_of_lt (blk_lt (g:=gb117) (o:=.cells #[.string (⟨#[]⟩ : ByteArray)] 48 (0, 0)) (by (with_reducible repeat first | apply kn16 | apply kd16 | apply ka16); exact BK117.out)) : gb117 ≠ gb118)); have NB118_117 := Am16 ((by rw [hg]; exact Nat.ne_of_gt (blk_lt (g:=gb117) (o:=.cells #[.string (⟨#[]⟩ : ByteArray)] 48 (0, 0)) (by (with_reducible repeat first | apply kn16 | apply kd16 | apply ka16); exact BK117.out)) : gb118 ≠ gb117)); replace BK117 := Am16 (kb16 (g:=gb117) (o:=.cells #[.string (⟨#[]⟩ : ByteArray)] 48 (0, 0)) (by (with_reducible repeat first | apply kn16 | apply kd16 | apply ka16); exact BK117.out) hb); clear hb hbox hg; have hnb32 := NB117_114.out; have hnc32 := NB114_117.out; have hnb33 := NB117_118.out; have hnc33 := NB118_117.out; have hcz34_0 : w31.cell? ⟨gb117, 0, none⟩ = some (.string (⟨#[]⟩ : ByteArray)) := (kc16 BK117.out 0).trans rfl; have hfz34_0 := kz16 BK117.out 0; have hnb35 := NB118_114.out; have hnc35 := NB114_118.out; have hcz36_0 : w31.cell? ⟨gb118, 0, none⟩ = some (.string (⟨#[]⟩ : ByteArray)) := (kc16 BK118.out 0).trans rfl; have hfz36_0 := kz16 BK118.out 0) | ((with_reducible refine gate_callee (f:=31) rfl ?_); refine goesL_ (some 12) rfl rfl Try.func31 (by kernel_rfl) rfl #[.agg #[.string t115]] rfl (by (try simp only [ma16, mc16, mn16]); first | done | rfl | (simp only [ld16, lt_16]; rfl)) ?_; (with_reducible refine (span_text_none.calls t115 true _ A3.out).mono ?_); rintro e w37 ⟨rfl, hb⟩; refine ⟨_, rfl, ?_⟩; replace BK114 := Am16 (kb16 (g:=gb114) (o:=.cells #[.string a0_0, .string a0_1] 26 (0, 0)) (by (with_reducible repeat first | apply kn16 | apply kd16 | apply ka16); refine kf16 ?_ NB114_118.out _; (with_reducible repeat first | apply kn16 | apply kd16 | apply ka16); refine kf16 ?_ NB114_117.out _; (with_reducible repeat first | apply kn16 | apply kd16 | apply ka16); exact BK114.out) hb); replace BK117 := Am16 (kb16 (g:=gb117) (o:=.cells #[.string t115] 48 (0, 0)) (by (with_reducible repeat first | apply kn16 | apply kd16 | apply ka16); refine kf16 ?_ NB117_118.out _; (with_reducible repeat first | apply kn16 | apply kd16 | apply ka16); refine blk_put (cs:=#[.string (⟨#[]⟩ : ByteArray)]) ?_ 0 _ rfl; (with_reducible repeat first | apply kn16 | apply kd16 | apply ka16); exact BK117.out) hb); replace BK118 := Am16 (kb16 (g:=gb118) (o:=.cells #[.string t116] 49 (0, 0)) (by (with_reducible repeat first | apply kn16 | apply kd16 | apply ka16); refine blk_put (cs:=#[.string (⟨#[]⟩ : ByteArray)]) ?_ 0 _ rfl; (with_reducible repeat first | apply kn16 | apply kd16 | apply ka16); refine kf16 ?_ NB118_117.out _; (with_reducible repeat first | apply kn16 | apply kd16 | apply ka16); exact BK118.out) hb); replace HB := Am16 (bp16 (by repeat (first | (with_reducible first | exact HB.out | apply ba16 | apply bn16 | apply bd16 | refine bs16 ?_ GE114.out | refine bs16 ?_ GE117.out | refine bs16 ?_ GE118.out) | exact HB.out)) hb); (try clear hb); (try clear hb2); (try clear hk); (try clear hi); have hcz38_0 : w37.cell? ⟨gb118, 0, none⟩ = some (.string t116) := (kc16 BK118.out 0).trans rfl; have hfz38_0 := kz16 BK118.out 0) | (go_at_call 31; (with_reducible refine (span_text_none.calls t116 false _ A5.out).mono ?_); rintro e w39 ⟨rfl, hb⟩; replace BK114 := Am16 (kb16 (g:=gb114) (o:=.cells #[.string a0_0, .string a0_1] 26 (0, 0)) (by (with_reducible repeat first | apply kn16 | apply kd16 | apply ka16); exact BK114.out) hb); replace BK117 := Am16 (kb16 (g:=gb117) (o:=.cells #[.string t115] 48 (0, 0)) (by (with_reducible repeat first | apply kn16 | apply kd16 | apply ka16); exact BK117.out) hb); replace BK118 := Am16 (kb16 (g:=gb118) (o:=.cells #[.string t116] 49 (0, 0)) (by (with_reducible repeat first | apply kn16 | apply kd16 | apply ka16); exact BK118.out) hb); replace HB := Am16 (bp16 (by repeat (first | (with_reducible first | exact HB.out | apply ba16 | apply bn16 | apply bd16 | refine bs16 ?_ GE114.out | refine bs16 ?_ GE117.out | refine bs16 ?_ GE118.out) | exact HB.out)) hb); (try clear hb); (try clear hb2); (try clear hk); (try clear hi); have hcz40_0 : w39.cell? ⟨gb114, 0, none⟩ = some (.string a0_0) := (kc16 BK114.out 0).trans rfl; have hcz40_1 : w39.cell? ⟨gb114, 1, none⟩ = some (.string a0_1) := (kc16 BK114.out 1).trans rfl; have hfz40_0 := kz16 BK114.out 0; have hfz40_1 := kz16 BK114.out 1) | (go_at_call 18; (with_reducible refine (span_Key.calls k a0_1 true _ A24.out).mono ?_); rintro e w' ⟨rfl, ⟨nd, rfl⟩⟩; have hcz41_0 : w39.cell? ⟨gb118, 0, none⟩ = some (.string t116) := (kc16 BK118.out 0).trans rfl; have hfz41_0 := kz16 BK118.out 0; have hcz42_0 : w39.cell? ⟨gb117, 0, none⟩ = some (.string t115) := (kc16 BK117.out 0).trans rfl; have hfz42_0 := kz16 BK117.out 0) | (go_at_call 32; (with_reducible refine (span_high_above.calls t116 t115 t123 _ A26.out).mono ?_); rintro e w43 ⟨rfl, hb⟩; replace BK114 := Am16 (kb16 (g:=gb114) (o:=.cells #[.string a0_0, .string a0_1] 26 (0, 0)) (by (with_reducible repeat first | apply kn16 | apply kd16 | apply ka16); exact BK114.out) hb); replace BK117 := Am16 (kb16 (g:=gb117) (o:=.cells #[.string t115] 48 (0, 0)) (by (with_reducible repeat first | apply kn16 | apply kd16 | apply ka16); exact BK117.out) hb); replace BK118 := Am16 (kb16 (g:=gb118) (o:=.cells #[.string t116] 49 (0, 0)) (by (with_reducible repeat first | apply kn16 | apply kd16 | apply ka16); exact BK118.out) hb); replace HB := Am16 (bp16 (by repeat (first | (with_reducible first | exact HB.out | apply ba16 | apply bn16 | apply bd16 | refine bs16 ?_ GE114.out | refine bs16 ?_ GE117.out | refine bs16 ?_ GE118.out) | exact HB.out)) hb); (try clear hb); (try clear hb2); (try clear hk); (try clear hi)))
    go_ret
    exact ⟨by first | rfl | (simp [errW_none, errW_some] <;> rfl) | (simp [*, errW_none, errW_some] <;> rfl), by repeat (first | (with_reducible first | exact HB.out | apply ba16 | apply bn16 | apply bd16 | refine bs16 ?_ GE114.out | refine bs16 ?_ GE117.out | refine bs16 ?_ GE118.out) | exact HB.out)⟩
   ·replace c25 := Bool.eq_false_iff.mpr c25
    subst c25
    rw [if_neg (show ¬ (false = true) by decide)] at H
    obtain rfl := Option.some.inj H
    go_enter Try.func16, Try.ntmps16
    go_wp2_with (first | ((with_reducible refine gate_dst (N:=1) rfl ?_); refine box_event ?hg (N:=1) ?hd (cs:=#[.string a0_0, .string a0_1]) (t:=26) ?hr ?_; (case hd => rfl); (case hg => rfl); (case hr => first | (go_simp; done) | (go_simp; rfl)); intro gb114 hg w44 hbox hb; have BK114 := Am16 (hbox); have GW114 := Am16 ((by rw [hg]; exact (bz16 (by repeat (first | (with_reducible first | exact HB.out | apply ba16 | apply bn16 | apply bd16) | exact HB.out))) : w.heap.size ≤ gb114)); have GE114 := Am16 ((by rw [hg]; exact (bz16 (by repeat (first | (with_reducible first | exact HB.out | apply ba16 | apply bn16 | apply bd16) | exact HB.out))) : w.heap.size ≤ gb114)); replace HB := Am16 (bp16 (by repeat (first | (with_reducible first | exact HB.out | apply ba16 | apply bn16 | apply bd16) | exact HB.out)) hb); clear hb hbox hg; have hcz45_0 : w44.cell? ⟨gb114, 0, none⟩ = some (.string a0_0) := (kc16 BK114.out 0).trans rfl; have hcz45_1 : w44.cell? ⟨gb114, 1, none⟩ = some (.string a0_1) := (kc16 BK114.out 1).trans rfl; have hfz45_0 := kz16 BK114.out 0; have hfz45_1 := kz16 BK114.out 1) | ((with_reducible refine gate_callee (f:=28) rfl ?_); refine goesL_ (some 7) rfl rfl Try.func28 (by kernel_rfl) rfl #[.agg #[.string a0_0, .string a0_1]] rfl (by (try simp only [ma16, mc16, mn16]); first | done | rfl | (simp only [ld16, lt_16]; rfl)) ?_; (with_reducible refine (span_ends.calls a0_0 a0_1 t115 t116 _ A2.out).mono ?_); rintro e w46 ⟨rfl, hb⟩; refine ⟨_, rfl, ?_⟩; replace BK114 := Am16 (kb16 (g:=gb114) (o:=.cells #[.string a0_0, .string a0_1] 26 (0, 0)) (by (with_reducible repeat first | apply kn16 | apply kd16 | apply ka16); exact BK114.out) hb); replace HB := Am16 (bp16 (by repeat (first | (with_reducible first | exact HB.out | apply ba16 | apply bn16 | apply bd16 | refine bs16 ?_ GE114.out) | exact HB.out)) hb); (try clear hb); (try clear hb2); (try clear hk); (try clear hi)) | ((with_reducible refine gate_dst (N:=3) rfl ?_); refine box_event ?hg (N:=3) ?hd (cs:=#[.string (⟨#[]⟩ : ByteArray)]) (t:=48) ?hr ?_; (case hd => rfl); (case hg => rfl); (case hr => first | (go_simp; done) | (go_simp; rfl)); intro gb117 hg w47 hbox hb; have BK117 := Am16 (hbox); have GW117 := Am16 ((by rw [hg]; exact (bz16 (by repeat (first | (with_reducible first | exact HB.out | apply ba16 | apply bn16 | apply bd16 | refine bs16 ?_ GE114.out) | exact HB.out))) : w.heap.size ≤ gb117)); have GE117 := Am16 ((by rw [hg]; exact (bz16 (by repeat (first | (with_reducible first | exact HB.out | apply ba16 | apply bn16 | apply bd16 | refine bs16 ?_ GE114.out) | exact HB.out))) : w.heap.size ≤ gb117)); replace HB := Am16 (bp16 (by repeat (first | (with_reducible first | exact HB.out | apply ba16 | apply bn16 | apply bd16 | refine bs16 ?_ GE114.out) | exact HB.out)) hb); have NB114_117 := Am16 ((by rw [hg]; exact Nat.ne_of_lt (blk_lt (g:=gb114) (o:=.cells #[.string a0_0, .string a0_1] 26 (0, 0)) (by (with_reducible repeat first | apply kn16 | apply kd16 | apply ka16); exact BK114.out)) : gb114 ≠ gb117)); have NB117_114 := Am16 ((by rw [hg]; exact Nat.ne_of_gt (blk_lt (g:=gb114) (o:=.cells #[.string a0_0, .string a0_1] 26 (0, 0)) (by (with_reducible repeat first | apply kn16 | apply kd16 | apply ka16); exact BK114.out)) : gb117 ≠ gb114)); replace BK114 := Am16 (kb16 (g:=gb114) (o:=.cells #[.string a0_0, .string a0_1] 26 (0, 0)) (by (with_reducible repeat first | apply kn16 | apply kd16 | apply ka16); exact BK114.out) hb); clear hb hbox hg) | ((with_reducible refine gate_dst (N:=4) rfl ?_); refine box_event ?hg (N:=4) ?hd (cs:=#[.string (⟨#[]⟩ : ByteArray)]) (t:=49) ?hr ?_; (case hd => rfl); (case hg => rfl); (case hr => first | (go_simp; done) | (go_simp; rfl)); intro gb118 hg w48 hbox hb; have BK118 := Am16 (hbox); have GW118 := Am16 ((by rw [hg]; exact (bz16 (by repeat (first | (with_reducible first | exact HB.out | apply ba16 | apply bn16 | apply bd16 | refine bs16 ?_ GE114.out | refine bs16 ?_ GE117.out) | exact HB.out))) : w.heap.size ≤ gb118)); have GE118 := Am16 ((by rw [hg]; exact (bz16 (by repeat (first | (with_reducible first | exact HB.out | apply ba16 | apply bn16 | apply bd16 | refine bs16 ?_ GE114.out | refine bs16 ?_ GE117.out) | exact HB.out))) : w.heap.size ≤ gb118)); replace HB := Am16 (bp16 (by repeat (first | (with_reducible first | exact HB.out | apply ba16 | apply bn16 | apply bd16 | refine bs16 ?_ GE114.out | refine bs16 ?_ GE117.out) | exact HB.out)) hb); have NB114_118 := Am16 ((by rw [hg]; exact Nat.ne_of_lt (blk_lt (g:=gb114) (o:=.cells #[.string a0_0, .string a0_1] 26 (0, 0)) (by (with_reducible repeat first | apply kn16 | apply kd16 | apply ka16); exact BK114.out)) : gb114 ≠ gb118)); have NB118_114 := Am16 ((by rw [hg]; exact Nat.ne_of_gt (blk_lt (g:=gb114) (o:=.cells #[.string a0_0, .string a0_1] 26 (0, 0)) (by (with_reducible repeat first | apply kn16 | apply kd16 | apply ka16); exact BK114.out)) : gb118 ≠ gb114)); replace BK114 := Am16 (kb16 (g:=gb114) (o:=.cells #[.string a0_0, .string a0_1] 26 (0, 0)) (by (with_reducible repeat first | apply kn16 | apply kd16 | apply ka16); exact BK114.out) hb); have NB117_118 := Am16 ((by rw [hg]; exact Nat.ne_of_lt (blk_lt (g:=gb117) (o:=.cells #[.string (⟨#[]⟩ : ByteArray)] 48 (0, 0)) (by (with_reducible repeat first | apply kn16 | apply kd16 | apply ka16); exact BK117.out)) : gb117 ≠ gb118)); have NB118_117 := Am16 ((by rw [hg]; exact Nat.ne_of_gt (blk_lt (g:=gb117) (o:=.cells #[.string (⟨#[]⟩ : ByteArray)] 48 (0, 0)) (by (with_reducible repeat first | apply kn16 | apply kd16 | apply ka16); exact BK117.out)) : gb118 ≠ gb117)); replace BK117 := Am16 (kb16 (g:=gb117) (o:=.cells #[.string (⟨#[]⟩ : ByteArray)] 48 (0, 0)) (by (with_reducible repeat first | apply kn16 | apply kd16 | apply ka16); exact BK117.out) hb); clear hb hbox hg; have hnb49 := NB117_114.out; have hnc49 := NB114_117.out; have hnb50 := NB117_118.out; have hnc50 := NB118_117.out; have hcz51_0 : w48.cell? ⟨gb117, 0, none⟩ = some (.string (⟨#[]⟩ : ByteArray)) := (kc16 BK117.out 0).trans rfl; have hfz51_0 := kz16 BK117.out 0; have hnb52 := NB118_114.out; have hnc52 := NB114_118.out; have hcz53_0 : w48.cell? ⟨gb118, 0, none⟩ = some (.string (⟨#[]⟩ : ByteArray)) := (kc16 BK118.out 0).trans rfl; have hfz53_0 := kz16 BK118.out 0) | ((with_reducible refine gate_callee (f:=31) rfl ?_); refine goesL_ (some 12) rfl rfl Try.func31 (by kernel_rfl) rfl #[.agg #[.string t115]] rfl (by (try simp only [ma16, mc16, mn16]); first | done | rfl | (simp only [ld16, lt_16]; rfl)) ?_; (with_reducible refine (span_text_none.calls t115 true _ A3.out).mono ?_); rintro e w54 ⟨rfl, hb⟩; refine ⟨_, rfl, ?_⟩; replace BK114 := Am16 (kb16 (g:=gb114) (o:=.cells #[.string a0_0, .string a0_1] 26 (0, 0)) (by (with_reducible repeat first | apply kn16 | apply kd16 | apply ka16); refine kf16 ?_ NB114_118.out _; (with_reducible repeat first | apply kn16 | apply kd16 | apply ka16); refine kf16 ?_ NB114_117.out _; (with_reducible repeat first | apply kn16 | apply kd16 | apply ka16); exact BK114.out) hb); replace BK117 := Am16 (kb16 (g:=gb117) (o:=.cells #[.string t115] 48 (0, 0)) (by (with_reducible repeat first | apply kn16 | apply kd16 | apply ka16); refine kf16 ?_ NB117_118.out _; (with_reducible repeat first | apply kn16 | apply kd16 | apply ka16); refine blk_put (cs:=#[.string (⟨#[]⟩ : ByteArray)]) ?_ 0 _ rfl; (with_reducible repeat first | apply kn16 | apply kd16 | apply ka16); exact BK117.out) hb); replace BK118 := Am16 (kb16 (g:=gb118) (o:=.cells #[.string t116] 49 (0, 0)) (by (with_reducible repeat first | apply kn16 | apply kd16 | apply ka16); refine blk_put (cs:=#[.string (⟨#[]⟩ : ByteArray)]) ?_ 0 _ rfl; (with_reducible repeat first | apply kn16 | apply kd16 | apply ka16); refine kf16 ?_ NB118_117.out _; (with_reducible repeat first | apply kn16 | apply kd16 | apply ka16); exact BK118.out) hb); replace HB := Am16 (bp16 (by repeat (first | (with_reducible first | exact HB.out | apply ba16 | apply bn16 | apply bd16 | refine bs16 ?_ GE114.out | refine bs16 ?_ GE117.out | refine bs16 ?_ GE118.out) | exact HB.out)) hb); (try clear hb); (try clear hb2); (try clear hk); (try clear hi); have hcz55_0 : w54.cell? ⟨gb118, 0, none⟩ = some (.string t116) := (kc16 BK118.out 0).trans rfl; have hfz55_0 := kz16 BK118.out 0) | (go_at_call 31; (with_reducible refine (span_text_none.calls t116 false _ A5.out).mono ?_); rintro e w56 ⟨rfl, hb⟩; replace BK114 := Am16 (kb16 (g:=gb114) (o:=.cells #[.string a0_0, .string a0_1] 26 (0, 0)) (by (with_reducible repeat first | apply kn16 | apply kd16 | apply ka16); exact BK114.out) hb); replace BK117 := Am16 (kb16 (g:=gb117) (o:=.cells #[.string t115] 48 (0, 0)) (by (with_reducible repeat first | apply kn16 | apply kd16 | apply ka16); exact BK117.out) hb); replace BK118 := Am16 (kb16 (g:=gb118) (o:=.cells #[.string t116] 49 (0, 0)) (by (with_reducible repeat first | apply kn16 | apply kd16 | apply ka16); exact BK118.out) hb); replace HB := Am16 (bp16 (by repeat (first | (with_reducible first | exact HB.out | apply ba16 | apply bn16 | apply bd16 | refine bs16 ?_ GE114.out | refine bs16 ?_ GE117.out | refine bs16 ?_ GE118.out) | exact HB.out)) hb); (try clear hb); (try clear hb2); (try clear hk); (try clear hi); have hcz57_0 : w56.cell? ⟨gb114, 0, none⟩ = some (.string a0_0) := (kc16 BK114.out 0).trans rfl; have hcz57_1 : w56.cell? ⟨gb114, 1, none⟩ = some (.string a0_1) := (kc16 BK114.out 1).trans rfl; have hfz57_0 := kz16 BK114.out 0; have hfz57_1 := kz16 BK114.out 1) | (go_at_call 18; (with_reducible refine (span_Key.calls k a0_1 false _ A24.out).mono ?_); rintro e w' ⟨rfl, ⟨nd, rfl⟩⟩))
    go_ret
    exact ⟨by first | rfl | (simp [errW_none, errW_some] <;> rfl) | (simp [*, errW_none, errW_some] <;> rfl), by repeat (first | (with_reducible first | exact HB.out | apply ba16 | apply bn16 | apply bd16 | refine bs16 ?_ GE114.out | refine bs16 ?_ GE117.out | refine bs16 ?_ GE118.out) | exact HB.out)⟩
 ·replace c4 := Bool.eq_false_iff.mpr c4
  subst c4
  rw [if_neg (show ¬ (false = true) by decide)] at H
  replace H := Option.bind_eq_some_iff.mp H
  obtain ⟨t124, A580, H⟩ := H
  try dsimp only at H
  have A58 := Am16 A580
  clear A580
  by_cases c59 : t124 = true
  ·subst c59
   rw [if_pos rfl] at H
   replace H := Option.bind_eq_some_iff.mp H
   obtain ⟨t125, A600, H⟩ := H
   try dsimp only at H
   have A60 := Am16 A600
   clear A600
   by_cases c61 : t125 = true
   ·subst c61
    rw [if_pos rfl] at H
    replace H := Option.bind_eq_some_iff.mp H
    obtain ⟨t126, A620, H⟩ := H
    try dsimp only at H
    have A62 := Am16 A620
    clear A620
    obtain rfl := Option.some.inj H
    go_enter Try.func16, Try.ntmps16
    go_wp2_with (first | ((with_reducible refine gate_dst (N:=1) rfl ?_); refine box_event ?hg (N:=1) ?hd (cs:=#[.string a0_0, .string a0_1]) (t:=26) ?hr ?_; (case hd => rfl); (case hg => rfl); (case hr => first | (go_simp; done) | (go_simp; rfl)); intro gb114 hg w63 hbox hb; have BK114 := Am16 (hbox); have GW114 := Am16 ((by rw [hg]; exact (bz16 (by repeat (first | (with_reducible first | exact HB.out | apply ba16 | apply bn16 | apply bd16) | exact HB.out))) : w.heap.size ≤ gb114)); have GE114 := Am16 ((by rw [hg]; exact (bz16 (by repeat (first | (with_reducible first | exact HB.out | apply ba16 | apply bn16 | apply bd16) | exact HB.out))) : w.heap.size ≤ gb114)); replace HB := Am16 (bp16 (by repeat (first | (with_reducible first | exact HB.out | apply ba16 | apply bn16 | apply bd16) | exact HB.out)) hb); clear hb hbox hg; have hcz64_0 : w63.cell? ⟨gb114, 0, none⟩ = some (.string a0_0) := (kc16 BK114.out 0).trans rfl; have hcz64_1 : w63.cell? ⟨gb114, 1, none⟩ = some (.string a0_1) := (kc16 BK114.out 1).trans rfl; have hfz64_0 := kz16 BK114.out 0; have hfz64_1 := kz16 BK114.out 1) | ((with_reducible refine gate_callee (f:=28) rfl ?_); refine goesL_ (some 7) rfl rfl Try.func28 (by kernel_rfl) rfl #[.agg #[.string a0_0, .string a0_1]] rfl (by (try simp only [ma16, mc16, mn16]); first | done | rfl | (simp only [ld16, lt_16]; rfl)) ?_; (with_reducible refine (span_ends.calls a0_0 a0_1 t115 t116 _ A2.out).mono ?_); rintro e w65 ⟨rfl, hb⟩; refine ⟨_, rfl, ?_⟩; replace BK114 := Am16 (kb16 (g:=gb114) (o:=.cells #[.string a0_0, .string a0_1] 26 (0, 0)) (by (with_reducible repeat first | apply kn16 | apply kd16 | apply ka16); exact BK114.out) hb); replace HB := Am16 (bp16 (by repeat (first | (with_reducible first | exact HB.out | apply ba16 | apply bn16 | apply bd16 | refine bs16 ?_ GE114.out) | exact HB.out)) hb); (try clear hb); (try clear hb2); (try clear hk); (try clear hi)) | ((with_reducible refine gate_dst (N:=3) rfl ?_); refine box_event ?hg (N:=3) ?hd (cs:=#[.string (⟨#[]⟩ : ByteArray)]) (t:=48) ?hr ?_; (case hd => rfl); (case hg => rfl); (case hr => first | (go_simp; done) | (go_simp; rfl)); intro gb117 hg w66 hbox hb; have BK117 := Am16 (hbox); have GW117 := Am16 ((by rw [hg]; exact (bz16 (by repeat (first | (with_reducible first | exact HB.out | apply ba16 | apply bn16 | apply bd16 | refine bs16 ?_ GE114.out) | exact HB.out))) : w.heap.size ≤ gb117)); have GE117 := Am16 ((by rw [hg]; exact (bz16 (by repeat (first | (with_reducible first | exact HB.out | apply ba16 | apply bn16 | apply bd16 | refine bs16 ?_ GE114.out) | exact HB.out))) : w.heap.size ≤ gb117)); replace HB := Am16 (bp16 (by repeat (first | (with_reducible first | exact HB.out | apply ba16 | apply bn16 | apply bd16 | refine bs16 ?_ GE114.out) | exact HB.out)) hb); have NB114_117 := Am16 ((by rw [hg]; exact Nat.ne_of_lt (blk_lt (g:=gb114) (o:=.cells #[.string a0_0, .string a0_1] 26 (0, 0)) (by (with_reducible repeat first | apply kn16 | apply kd16 | apply ka16); exact BK114.out)) : gb114 ≠ gb117)); have NB117_114 := Am16 ((by rw [hg]; exact Nat.ne_of_gt (blk_lt (g:=gb114) (o:=.cells #[.string a0_0, .string a0_1] 26 (0, 0)) (by (with_reducible repeat first | apply kn16 | apply kd16 | apply ka16); exact BK114.out)) : gb117 ≠ gb114)); replace BK114 := Am16 (kb16 (g:=gb114) (o:=.cells #[.string a0_0, .string a0_1] 26 (0, 0)) (by (with_reducible repeat first | apply kn16 | apply kd16 | apply ka16); exact BK114.out) hb); clear hb hbox hg) | ((with_reducible refine gate_dst (N:=4) rfl ?_); refine box_event ?hg (N:=4) ?hd (cs:=#[.string (⟨#[]⟩ : ByteArray)]) (t:=49) ?hr ?_; (case hd => rfl); (case hg => rfl); (case hr => first | (go_simp; done) | (go_simp; rfl)); intro gb118 hg w67 hbox hb; have BK118 := Am16 (hbox); have GW118 := Am16 ((by rw [hg]; exact (bz16 (by repeat (first | (with_reducible first | exact HB.out | apply ba16 | apply bn16 | apply bd16 | refine bs16 ?_ GE114.out | refine bs16 ?_ GE117.out) | exact HB.out))) : w.heap.size ≤ gb118)); have GE118 := Am16 ((by rw [hg]; exact (bz16 (by repeat (first | (with_reducible first | exact HB.out | apply ba16 | apply bn16 | apply bd16 | refine bs16 ?_ GE114.out | refine bs16 ?_ GE117.out) | exact HB.out))) : w.heap.size ≤ gb118)); replace HB := Am16 (bp16 (by repeat (first | (with_reducible first | exact HB.out | apply ba16 | apply bn16 | apply bd16 | refine bs16 ?_ GE114.out | refine bs16 ?_ GE117.out) | exact HB.out)) hb); have NB114_118 := Am16 ((by rw [hg]; exact Nat.ne_of_lt (blk_lt (g:=gb114) (o:=.cells #[.string a0_0, .string a0_1] 26 (0, 0)) (by (with_reducible repeat first | apply kn16 | apply kd16 | apply ka16); exact BK114.out)) : gb114 ≠ gb118)); have NB118_114 := Am16 ((by rw [hg]; exact Nat.ne_of_gt (blk_lt (g:=gb114) (o:=.cells #[.string a0_0, .string a0_1] 26 (0, 0)) (by (with_reducible repeat first | apply kn16 | apply kd16 | apply ka16); exact BK114.out)) : gb118 ≠ gb114)); replace BK114 := Am16 (kb16 (g:=gb114) (o:=.cells #[.string a0_0, .string a0_1] 26 (0, 0)) (by (with_reducible repeat first | apply kn16 | apply kd16 | apply ka16); exact BK114.out) hb); have NB117_118 := Am16 ((by rw [hg]; exact Nat.ne_of_lt (blk_lt (g:=gb117) (o:=.cells #[.string (⟨#[]⟩ : ByteArray)] 48 (0, 0)) (by (with_reducible repeat first | apply kn16 | apply kd16 | apply ka16); exact BK117.out)) : gb117 ≠ gb118)); have NB118_117 := Am16 ((by rw [hg]; exact Nat.ne_of_gt (blk_lt (g:=gb117) (o:=.cells #[.string (⟨#[]⟩ : ByteArray)] 48 (0, 0)) (by (with_reducible repeat first | apply kn16 | apply kd16 | apply ka16); exact BK117.out)) : gb118 ≠ gb117)); replace BK117 := Am16 (kb16 (g:=gb117) (o:=.cells #[.string (⟨#[]⟩ : ByteArray)] 48 (0, 0)) (by (with_reducible repeat first | apply kn16 | apply kd16 | apply ka16); exact BK117.out) hb); clear hb hbox hg; have hnb68 := NB117_114.out; have hnc68 := NB114_117.out; have hnb69 := NB117_118.out; have hnc69 := NB118_117.out; have hcz70_0 : w67.cell? ⟨gb117, 0, none⟩ = some (.string (⟨#[]⟩ : ByteArray)) := (kc16 BK117.out 0).trans rfl; have hfz70_0 := kz16 BK117.out 0; have hnb71 := NB118_114.out; have hnc71 := NB114_118.out; have hcz72_0 : w67.cell? ⟨gb118, 0, none⟩ = some (.string (⟨#[]⟩ : ByteArray)) := (kc16 BK118.out 0).trans rfl; have hfz72_0 := kz16 BK118.out 0) | ((with_reducible refine gate_callee (f:=31) rfl ?_); refine goesL_ (some 12) rfl rfl Try.func31 (by kernel_rfl) rfl #[.agg #[.string t115]] rfl (by (try simp only [ma16, mc16, mn16]); first | done | rfl | (simp only [ld16, lt_16]; rfl)) ?_; (with_reducible refine (span_text_none.calls t115 false _ A3.out).mono ?_); rintro e w73 ⟨rfl, hb⟩; refine ⟨_, rfl, ?_⟩; replace BK114 := Am16 (kb16 (g:=gb114) (o:=.cells #[.string a0_0, .string a0_1] 26 (0, 0)) (by (with_reducible repeat first | apply kn16 | apply kd16 | apply ka16); refine kf16 ?_ NB114_118.out _; (with_reducible repeat first | apply kn16 | apply kd16 | apply ka16); refine kf16 ?_ NB114_117.out _; (with_reducible repeat first | apply kn16 | apply kd16 | apply ka16); exact BK114.out) hb); replace BK117 := Am16 (kb16 (g:=gb117) (o:=.cells #[.string t115] 48 (0, 0)) (by (with_reducible repeat first | apply kn16 | apply kd16 | apply ka16); refine kf16 ?_ NB117_118.out _; (with_reducible repeat first | apply kn16 | apply kd16 | apply ka16); refine blk_put (cs:=#[.string (⟨#[]⟩ : ByteArray)]) ?_ 0 _ rfl; (with_reducible repeat first | apply kn16 | apply kd16 | apply ka16); exact BK117.out) hb); replace BK118 := Am16 (kb16 (g:=gb118) (o:=.cells #[.string t116] 49 (0, 0)) (by (with_reducible repeat first | apply kn16 | apply kd16 | apply ka16); refine blk_put (cs:=#[.string (⟨#[]⟩ : ByteArray)]) ?_ 0 _ rfl; (with_reducible repeat first | apply kn16 | apply kd16 | apply ka16); refine kf16 ?_ NB118_117.out _; (with_reducible repeat first | apply kn16 | apply kd16 | apply ka16); exact BK118.out) hb); replace HB := Am16 (bp16 (by repeat (first | (with_reducible first | exact HB.out | apply ba16 | apply bn16 | apply bd16 | refine bs16 ?_ GE114.out | refine bs16 ?_ GE117.out | refine bs16 ?_ GE118.out) | exact HB.out)) hb); (try clear hb); (try clear hb2); (try clear hk); (try clear hi); have hcz74_0 : w73.cell? ⟨gb114, 0, none⟩ = some (.string a0_0) := (kc16 BK114.out 0).trans rfl; have hcz74_1 : w73.cell? ⟨gb114, 1, none⟩ = some (.string a0_1) := (kc16 BK114.out 1).trans rfl; have hfz74_0 := kz16 BK114.out 0; have hfz74_1 := kz16 BK114.out 1) | (go_at_call 18; (with_reducible refine (span_Key.calls k a0_0 true _ A58.out).mono ?_); rintro e w' ⟨rfl, ⟨nd, rfl⟩⟩; have hcz75_0 : w73.cell? ⟨gb118, 0, none⟩ = some (.string t116) := (kc16 BK118.out 0).trans rfl; have hfz75_0 := kz16 BK118.out 0) | (go_at_call 31; (with_reducible refine (span_text_none.calls t116 true _ A60.out).mono ?_); rintro e w76 ⟨rfl, hb⟩; replace BK114 := Am16 (kb16 (g:=gb114) (o:=.cells #[.string a0_0, .string a0_1] 26 (0, 0)) (by (with_reducible repeat first | apply kn16 | apply kd16 | apply ka16); exact BK114.out) hb); replace BK117 := Am16 (kb16 (g:=gb117) (o:=.cells #[.string t115] 48 (0, 0)) (by (with_reducible repeat first | apply kn16 | apply kd16 | apply ka16); exact BK117.out) hb); replace BK118 := Am16 (kb16 (g:=gb118) (o:=.cells #[.string t116] 49 (0, 0)) (by (with_reducible repeat first | apply kn16 | apply kd16 | apply ka16); exact BK118.out) hb); replace HB := Am16 (bp16 (by repeat (first | (with_reducible first | exact HB.out | apply ba16 | apply bn16 | apply bd16 | refine bs16 ?_ GE114.out | refine bs16 ?_ GE117.out | refine bs16 ?_ GE118.out) | exact HB.out)) hb); (try clear hb); (try clear hb2); (try clear hk); (try clear hi); have hcz77_0 : w76.cell? ⟨gb118, 0, none⟩ = some (.string t116) := (kc16 BK118.out 0).trans rfl; have hfz77_0 := kz16 BK118.out 0; have hcz78_0 : w76.cell? ⟨gb117, 0, none⟩ = some (.string t115) := (kc16 BK117.out 0).trans rfl; have hfz78_0 := kz16 BK117.out 0) | (go_at_call 32; (with_reducible refine (span_high_above.calls t116 t115 t126 _ A62.out).mono ?_); rintro e w79 ⟨rfl, hb⟩; replace BK114 := Am16 (kb16 (g:=gb114) (o:=.cells #[.string a0_0, .string a0_1] 26 (0, 0)) (by (with_reducible repeat first | apply kn16 | apply kd16 | apply ka16); exact BK114.out) hb); replace BK117 := Am16 (kb16 (g:=gb117) (o:=.cells #[.string t115] 48 (0, 0)) (by (with_reducible repeat first | apply kn16 | apply kd16 | apply ka16); exact BK117.out) hb); replace BK118 := Am16 (kb16 (g:=gb118) (o:=.cells #[.string t116] 49 (0, 0)) (by (with_reducible repeat first | apply kn16 | apply kd16 | apply ka16); exact BK118.out) hb); replace HB := Am16 (bp16 (by repeat (first | (with_reducible first | exact HB.out | apply ba16 | apply bn16 | apply bd16 | refine bs16 ?_ GE114.out | refine bs16 ?_ GE117.out | refine bs16 ?_ GE118.out) | exact HB.out)) hb); (try clear hb); (try clear hb2); (try clear hk); (try clear hi)))
    go_ret
    exact ⟨by first | rfl | (simp [errW_none, errW_some] <;> rfl) | (simp [*, errW_none, errW_some] <;> rfl), by repeat (first | (with_reducible first | exact HB.out | apply ba16 | apply bn16 | apply bd16 | refine bs16 ?_ GE114.out | refine bs16 ?_ GE117.out | refine bs16 ?_ GE118.out) | exact HB.out)⟩
   ·replace c61 := Bool.eq_false_iff.mpr c61
    subst c61
    rw [if_neg (show ¬ (false = true) by decide)] at H
    replace H := Option.bind_eq_some_iff.mp H
    obtain ⟨t127, A800, H⟩ := H
    try dsimp only at H
    have A80 := Am16 A800
    clear A800
    by_cases c81 : t127 = true
    ·subst c81
     rw [if_pos rfl] at H
     replace H := Option.bind_eq_some_iff.mp H
     obtain ⟨t128, A820, H⟩ := H
     try dsimp only at H
     have A82 := Am16 A820
     clear A820
     obtain rfl := Option.some.inj H
     go_enter Try.func16, Try.ntmps16
     go_wp2_with (first | ((with_reducible refine gate_dst (N:=1) rfl ?_); refine box_event ?hg (N:=1) ?hd (cs:=#[.string a0_0, .string a0_1]) (t:=26) ?hr ?_; (case hd => rfl); (case hg => rfl); (case hr => first | (go_simp; done) | (go_simp; rfl)); intro gb114 hg w83 hbox hb; have BK114 := Am16 (hbox); have GW114 := Am16 ((by rw [hg]; exact (bz16 (by repeat (first | (with_reducible first | exact HB.out | apply ba16 | apply bn16 | apply bd16) | exact HB.out))) : w.heap.size ≤ gb114)); have GE114 := Am16 ((by rw [hg]; exact (bz16 (by repeat (first | (with_reducible first | exact HB.out | apply ba16 | apply bn16 | apply bd16) | exact HB.out))) : w.heap.size ≤ gb114)); replace HB := Am16 (bp16 (by repeat (first | (with_reducible first | exact HB.out | apply ba16 | apply bn16 | apply bd16) | exact HB.out)) hb); clear hb hbox hg; have hcz84_0 : w83.cell? ⟨gb114, 0, none⟩ = some (.string a0_0) := (kc16 BK114.out 0).trans rfl; have hcz84_1 : w83.cell? ⟨gb114, 1, none⟩ = some (.string a0_1) := (kc16 BK114.out 1).trans rfl; have hfz84_0 := kz16 BK114.out 0; have hfz84_1 := kz16 BK114.out 1) | ((with_reducible refine gate_callee (f:=28) rfl ?_); refine goesL_ (some 7) rfl rfl Try.func28 (by kernel_rfl) rfl #[.agg #[.string a0_0, .string a0_1]] rfl (by (try simp only [ma16, mc16, mn16]); first | done | rfl | (simp only [ld16, lt_16]; rfl)) ?_; (with_reducible refine (span_ends.calls a0_0 a0_1 t115 t116 _ A2.out).mono ?_); rintro e w85 ⟨rfl, hb⟩; refine ⟨_, rfl, ?_⟩; replace BK114 := Am16 (kb16 (g:=gb114) (o:=.cells #[.string a0_0, .string a0_1] 26 (0, 0)) (by (with_reducible repeat first | apply kn16 | apply kd16 | apply ka16); exact BK114.out) hb); replace HB := Am16 (bp16 (by repeat (first | (with_reducible first | exact HB.out | apply ba16 | apply bn16 | apply bd16 | refine bs16 ?_ GE114.out) | exact HB.out)) hb); (try clear hb); (try clear hb2); (try clear hk); (try clear hi)) | ((with_reducible refine gate_dst (N:=3) rfl ?_); refine box_event ?hg (N:=3) ?hd (cs:=#[.string (⟨#[]⟩ : ByteArray)]) (t:=48) ?hr ?_; (case hd => rfl); (case hg => rfl); (case hr => first | (go_simp; done) | (go_simp; rfl)); intro gb117 hg w86 hbox hb; have BK117 := Am16 (hbox); have GW117 := Am16 ((by rw [hg]; exact (bz16 (by repeat (first | (with_reducible first | exact HB.out | apply ba16 | apply bn16 | apply bd16 | refine bs16 ?_ GE114.out) | exact HB.out))) : w.heap.size ≤ gb117)); have GE117 := Am16 ((by rw [hg]; exact (bz16 (by repeat (first | (with_reducible first | exact HB.out | apply ba16 | apply bn16 | apply bd16 | refine bs16 ?_ GE114.out) | exact HB.out))) : w.heap.size ≤ gb117)); replace HB := Am16 (bp16 (by repeat (first | (with_reducible first | exact HB.out | apply ba16 | apply bn16 | apply bd16 | refine bs16 ?_ GE114.out) | exact HB.out)) hb); have NB114_117 := Am16 ((by rw [hg]; exact Nat.ne_of_lt (blk_lt (g:=gb114) (o:=.cells #[.string a0_0, .string a0_1] 26 (0, 0)) (by (with_reducible repeat first | apply kn16 | apply kd16 | apply ka16); exact BK114.out)) : gb114 ≠ gb117)); have NB117_114 := Am16 ((by rw [hg]; exact Nat.ne_of_gt (blk_lt (g:=gb114) (o:=.cells #[.string a0_0, .string a0_1] 26 (0, 0)) (by (with_reducible repeat first | apply kn16 | apply kd16 | apply ka16); exact BK114.out)) : gb117 ≠ gb114)); replace BK114 := Am16 (kb16 (g:=gb114) (o:=.cells #[.string a0_0, .string a0_1] 26 (0, 0)) (by (with_reducible repeat first | apply kn16 | apply kd16 | apply ka16); exact BK114.out) hb); clear hb hbox hg) | ((with_reducible refine gate_dst (N:=4) rfl ?_); refine box_event ?hg (N:=4) ?hd (cs:=#[.string (⟨#[]⟩ : ByteArray)]) (t:=49) ?hr ?_; (case hd => rfl); (case hg => rfl); (case hr => first | (go_simp; done) | (go_simp; rfl)); intro gb118 hg w87 hbox hb; have BK118 := Am16 (hbox); have GW118 := Am16 ((by rw [hg]; exact (bz16 (by repeat (first | (with_reducible first | exact HB.out | apply ba16 | apply bn16 | apply bd16 | refine bs16 ?_ GE114.out | refine bs16 ?_ GE117.out) | exact HB.out))) : w.heap.size ≤ gb118)); have GE118 := Am16 ((by rw [hg]; exact (bz16 (by repeat (first | (with_reducible first | exact HB.out | apply ba16 | apply bn16 | apply bd16 | refine bs16 ?_ GE114.out | refine bs16 ?_ GE117.out) | exact HB.out))) : w.heap.size ≤ gb118)); replace HB := Am16 (bp16 (by repeat (first | (with_reducible first | exact HB.out | apply ba16 | apply bn16 | apply bd16 | refine bs16 ?_ GE114.out | refine bs16 ?_ GE117.out) | exact HB.out)) hb); have NB114_118 := Am16 ((by rw [hg]; exact Nat.ne_of_lt (blk_lt (g:=gb114) (o:=.cells #[.string a0_0, .string a0_1] 26 (0, 0)) (by (with_reducible repeat first | apply kn16 | apply kd16 | apply ka16); exact BK114.out)) : gb114 ≠ gb118)); have NB118_114 := Am16 ((by rw [hg]; exact Nat.ne_of_gt (blk_lt (g:=gb114) (o:=.cells #[.string a0_0, .string a0_1] 26 (0, 0)) (by (with_reducible repeat first | apply kn16 | apply kd16 | apply ka16); exact BK114.out)) : gb118 ≠ gb114)); replace BK114 := Am16 (kb16 (g:=gb114) (o:=.cells #[.string a0_0, .string a0_1] 26 (0, 0)) (by (with_reducible repeat first | apply kn16 | apply kd16 | apply ka16); exact BK114.out) hb); have NB117_118 := Am16 ((by rw [hg]; exact Nat.ne_of_lt (blk_lt (g:=gb117) (o:=.cells #[.string (⟨#[]⟩ : ByteArray)] 48 (0, 0)) (by (with_reducible repeat first | apply kn16 | apply kd16 | apply ka16); exact BK117.out)) : gb117 ≠ gb118)); have NB118_117 := Am16 ((by rw [hg]; exact Nat.ne_of_gt (blk_lt (g:=gb117) (o:=.cells #[.string (⟨#[]⟩ : ByteArray)] 48 (0, 0)) (by (with_reducible repeat first | apply kn16 | apply kd16 | apply ka16); exact BK117.out)) : gb118 ≠ gb117)); replace BK117 := Am16 (kb16 (g:=gb117) (o:=.cells #[.string (⟨#[]⟩ : ByteArray)] 48 (0, 0)) (by (with_reducible repeat first | apply kn16 | apply kd16 | apply ka16); exact BK117.out) hb); clear hb hbox hg; have hnb88 := NB117_114.out; have hnc88 := NB114_117.out; have hnb89 := NB117_118.out; have hnc89 := NB118_117.out; have hcz90_0 : w87.cell? ⟨gb117, 0, none⟩ = some (.string (⟨#[]⟩ : ByteArray)) := (kc16 BK117.out 0).trans rfl; have hfz90_0 := kz16 BK117.out 0; have hnb91 := NB118_114.out; have hnc91 := NB114_118.out; have hcz92_0 : w87.cell? ⟨gb118, 0, none⟩ = some (.string (⟨#[]⟩ : ByteArray)) := (kc16 BK118.out 0).trans rfl; have hfz92_0 := kz16 BK118.out 0) | ((with_reducible refine gate_callee (f:=31) rfl ?_); refine goesL_ (some 12) rfl rfl Try.func31 (by kernel_rfl) rfl #[.agg #[.string t115]] rfl (by (try simp only [ma16, mc16, mn16]); first | done | rfl | (simp only [ld16, lt_16]; rfl)) ?_; (with_reducible refine (span_text_none.calls t115 false _ A3.out).mono ?_); rintro e w93 ⟨rfl, hb⟩; refine ⟨_, rfl, ?_⟩; replace BK114 := Am16 (kb16 (g:=gb114) (o:=.cells #[.string a0_0, .string a0_1] 26 (0, 0)) (by (with_reducible repeat first | apply kn16 | apply kd16 | apply ka16); refine kf16 ?_ NB114_118.out _; (with_reducible repeat first | apply kn16 | apply kd16 | apply ka16); refine kf16 ?_ NB114_117.out _; (with_reducible repeat first | apply kn16 | apply kd16 | apply ka16); exact BK114.out) hb); replace BK117 := Am16 (kb16 (g:=gb117) (o:=.cells #[.string t115] 48 (0, 0)) (by (with_reducible repeat first | apply kn16 | apply kd16 | apply ka16); refine kf16 ?_ NB117_118.out _; (with_reducible repeat first | apply kn16 | apply kd16 | apply ka16); refine blk_put (cs:=#[.string (⟨#[]⟩ : ByteArray)]) ?_ 0 _ rfl; (with_reducible repeat first | apply kn16 | apply kd16 | apply ka16); exact BK117.out) hb); replace BK118 := Am16 (kb16 (g:=gb118) (o:=.cells #[.string t116] 49 (0, 0)) (by (with_reducible repeat first | apply kn16 | apply kd16 | apply ka16); refine blk_put (cs:=#[.string (⟨#[]⟩ : ByteArray)]) ?_ 0 _ rfl; (with_reducible repeat first | apply kn16 | apply kd16 | apply ka16); refine kf16 ?_ NB118_117.out _; (with_reducible repeat first | apply kn16 | apply kd16 | apply ka16); exact BK118.out) hb); replace HB := Am16 (bp16 (by repeat (first | (with_reducible first | exact HB.out | apply ba16 | apply bn16 | apply bd16 | refine bs16 ?_ GE114.out | refine bs16 ?_ GE117.out | refine bs16 ?_ GE118.out) | exact HB.out)) hb); (try clear hb); (try clear hb2); (try clear hk); (try clear hi); have hcz94_0 : w93.cell? ⟨gb114, 0, none⟩ = some (.string a0_0) := (kc16 BK114.out 0).trans rfl; have hcz94_1 : w93.cell? ⟨gb114, 1, none⟩ = some (.string a0_1) := (kc16 BK114.out 1).trans rfl; have hfz94_0 := kz16 BK114.out 0; have hfz94_1 := kz16 BK114.out 1) | (go_at_call 18; (with_reducible refine (span_Key.calls k a0_0 true _ A58.out).mono ?_); rintro e w' ⟨rfl, ⟨nd, rfl⟩⟩; have hcz95_0 : w93.cell? ⟨gb118, 0, none⟩ = some (.string t116) := (kc16 BK118.out 0).trans rfl; have hfz95_0 := kz16 BK118.out 0) | (go_at_call 31; (with_reducible refine (span_text_none.calls t116 false _ A60.out).mono ?_); rintro e w96 ⟨rfl, hb⟩; replace BK114 := Am16 (kb16 (g:=gb114) (o:=.cells #[.string a0_0, .string a0_1] 26 (0, 0)) (by (with_reducible repeat first | apply kn16 | apply kd16 | apply ka16); exact BK114.out) hb); replace BK117 := Am16 (kb16 (g:=gb117) (o:=.cells #[.string t115] 48 (0, 0)) (by (with_reducible repeat first | apply kn16 | apply kd16 | apply ka16); exact BK117.out) hb); replace BK118 := Am16 (kb16 (g:=gb118) (o:=.cells #[.string t116] 49 (0, 0)) (by (with_reducible repeat first | apply kn16 | apply kd16 | apply ka16); exact BK118.out) hb); replace HB := Am16 (bp16 (by repeat (first | (with_reducible first | exact HB.out | apply ba16 | apply bn16 | apply bd16 | refine bs16 ?_ GE114.out | refine bs16 ?_ GE117.out | refine bs16 ?_ GE118.out) | exact HB.out)) hb); (try clear hb); (try clear hb2); (try clear hk); (try clear hi); have hcz97_0 : w96.cell? ⟨gb114, 0, none⟩ = some (.string a0_0) := (kc16 BK114.out 0).trans rfl; have hcz97_1 : w96.cell? ⟨gb114, 1, none⟩ = some (.string a0_1) := (kc16 BK114.out 1).trans rfl; have hfz97_0 := kz16 BK114.out 0; have hfz97_1 := kz16 BK114.out 1) | (go_at_call 18; (with_reducible refine (span_Key.calls k a0_1 true _ A80.out).mono ?_); rintro e w' ⟨rfl, ⟨nd, rfl⟩⟩; have hcz98_0 : w96.cell? ⟨gb118, 0, none⟩ = some (.string t116) := (kc16 BK118.out 0).trans rfl; have hfz98_0 := kz16 BK118.out 0; have hcz99_0 : w96.cell? ⟨gb117, 0, none⟩ = some (.string t115) := (kc16 BK117.out 0).trans rfl; have hfz99_0 := kz16 BK117.out 0) | (go_at_call 32; (with_reducible refine (span_high_above.calls t116 t115 t128 _ A82.out).mono ?_); rintro e w100 ⟨rfl, hb⟩; replace BK114 := Am16 (kb16 (g:=gb114) (o:=.cells #[.string a0_0, .string a0_1] 26 (0, 0)) (by (with_reducible repeat first | apply kn16 | apply kd16 | apply ka16); exact BK114.out) hb); replace BK117 := Am16 (kb16 (g:=gb117) (o:=.cells #[.string t115] 48 (0, 0)) (by (with_reducible repeat first | apply kn16 | apply kd16 | apply ka16); exact BK117.out) hb); replace BK118 := Am16 (kb16 (g:=gb118) (o:=.cells #[.string t116] 49 (0, 0)) (by (with_reducible repeat first | apply kn16 | apply kd16 | apply ka16); exact BK118.out) hb); replace HB := Am16 (bp16 (by repeat (first | (with_reducible first | exact HB.out | apply ba16 | apply bn16 | apply bd16 | refine bs16 ?_ GE114.out | refine bs16 ?_ GE117.out | refine bs16 ?_ GE118.out) | exact HB.out)) hb); (try clear hb); (try clear hb2); (try clear hk); (try clear hi)))
     go_ret
     exact ⟨by first | rfl | (simp [errW_none, errW_some] <;> rfl) | (simp [*, errW_none, errW_some] <;> rfl), by repeat (first | (with_reducible first | exact HB.out | apply ba16 | apply bn16 | apply bd16 | refine bs16 ?_ GE114.out | refine bs16 ?_ GE117.out | refine bs16 ?_ GE118.out) | exact HB.out)⟩
    ·replace c81 := Bool.eq_false_iff.mpr c81
     subst c81
     rw [if_neg (show ¬ (false = true) by decide)] at H
     obtain rfl := Option.some.inj H
     go_enter Try.func16, Try.ntmps16
     go_wp2_with (first | ((with_reducible refine gate_dst (N:=1) rfl ?_); refine box_event ?hg (N:=1) ?hd (cs:=#[.string a0_0, .string a0_1]) (t:=26) ?hr ?_; (case hd => rfl); (case hg => rfl); (case hr => first | (go_simp; done) | (go_simp; rfl)); intro gb114 hg w101 hbox hb; have BK114 := Am16 (hbox); have GW114 := Am16 ((by rw [hg]; exact (bz16 (by repeat (first | (with_reducible first | exact HB.out | apply ba16 | apply bn16 | apply bd16) | exact HB.out))) : w.heap.size ≤ gb114)); have GE114 := Am16 ((by rw [hg]; exact (bz16 (by repeat (first | (with_reducible first | exact HB.out | apply ba16 | apply bn16 | apply bd16) | exact HB.out))) : w.heap.size ≤ gb114)); replace HB := Am16 (bp16 (by repeat (first | (with_reducible first | exact HB.out | apply ba16 | apply bn16 | apply bd16) | exact HB.out)) hb); clear hb hbox hg; have hcz102_0 : w101.cell? ⟨gb114, 0, none⟩ = some (.string a0_0) := (kc16 BK114.out 0).trans rfl; have hcz102_1 : w101.cell? ⟨gb114, 1, none⟩ = some (.string a0_1) := (kc16 BK114.out 1).trans rfl; have hfz102_0 := kz16 BK114.out 0; have hfz102_1 := kz16 BK114.out 1) | ((with_reducible refine gate_callee (f:=28) rfl ?_); refine goesL_ (some 7) rfl rfl Try.func28 (by kernel_rfl) rfl #[.agg #[.string a0_0, .string a0_1]] rfl (by (try simp only [ma16, mc16, mn16]); first | done | rfl | (simp only [ld16, lt_16]; rfl)) ?_; (with_reducible refine (span_ends.calls a0_0 a0_1 t115 t116 _ A2.out).mono ?_); rintro e w103 ⟨rfl, hb⟩; refine ⟨_, rfl, ?_⟩; replace BK114 := Am16 (kb16 (g:=gb114) (o:=.cells #[.string a0_0, .string a0_1] 26 (0, 0)) (by (with_reducible repeat first | apply kn16 | apply kd16 | apply ka16); exact BK114.out) hb); replace HB := Am16 (bp16 (by repeat (first | (with_reducible first | exact HB.out | apply ba16 | apply bn16 | apply bd16 | refine bs16 ?_ GE114.out) | exact HB.out)) hb); (try clear hb); (try clear hb2); (try clear hk); (try clear hi)) | ((with_reducible refine gate_dst (N:=3) rfl ?_); refine box_event ?hg (N:=3) ?hd (cs:=#[.string (⟨#[]⟩ : ByteArray)]) (t:=48) ?hr ?_; (case hd => rfl); (case hg => rfl); (case hr => first | (go_simp; done) | (go_simp; rfl)); intro gb117 hg w104 hbox hb; have BK117 := Am16 (hbox); have GW117 := Am16 ((by rw [hg]; exact (bz16 (by repeat (first | (with_reducible first | exact HB.out | apply ba16 | apply bn16 | apply bd16 | refine bs16 ?_ GE114.out) | exact HB.out))) : w.heap.size ≤ gb117)); have GE117 := Am16 ((by rw [hg]; exact (bz16 (by repeat (first | (with_reducible first | exact HB.out | apply ba16 | apply bn16 | apply bd16 | refine bs16 ?_ GE114.out) | exact HB.out))) : w.heap.size ≤ gb117)); replace HB := Am16 (bp16 (by repeat (first | (with_reducible first | exact HB.out | apply ba16 | apply bn16 | apply bd16 | refine bs16 ?_ GE114.out) | exact HB.out)) hb); have NB114_117 := Am16 ((by rw [hg]; exact Nat.ne_of_lt (blk_lt (g:=gb114) (o:=.cells #[.string a0_0, .string a0_1] 26 (0, 0)) (by (with_reducible repeat first | apply kn16 | apply kd16 | apply ka16); exact BK114.out)) : gb114 ≠ gb117)); have NB117_114 := Am16 ((by rw [hg]; exact Nat.ne_of_gt (blk_lt (g:=gb114) (o:=.cells #[.string a0_0, .string a0_1] 26 (0, 0)) (by (with_reducible repeat first | apply kn16 | apply kd16 | apply ka16); exact BK114.out)) : gb117 ≠ gb114)); replace BK114 := Am16 (kb16 (g:=gb114) (o:=.cells #[.string a0_0, .string a0_1] 26 (0, 0)) (by (with_reducible repeat first | apply kn16 | apply kd16 | apply ka16); exact BK114.out) hb); clear hb hbox hg) | ((with_reducible refine gate_dst (N:=4) rfl ?_); refine box_event ?hg (N:=4) ?hd (cs:=#[.string (⟨#[]⟩ : ByteArray)]) (t:=49) ?hr ?_; (case hd => rfl); (case hg => rfl); (case hr => first | (go_simp; done) | (go_simp; rfl)); intro gb118 hg w105 hbox hb; have BK118 := Am16 (hbox); have GW118 := Am16 ((by rw [hg]; exact (bz16 (by repeat (first | (with_reducible first | exact HB.out | apply ba16 | apply bn16 | apply bd16 | refine bs16 ?_ GE114.out | refine bs16 ?_ GE117.out) | exact HB.out))) : w.heap.size ≤ gb118)); have GE118 := Am16 ((by rw [hg]; exact (bz16 (by repeat (first | (with_reducible first | exact HB.out | apply ba16 | apply bn16 | apply bd16 | refine bs16 ?_ GE114.out | refine bs16 ?_ GE117.out) | exact HB.out))) : w.heap.size ≤ gb118)); replace HB := Am16 (bp16 (by repeat (first | (with_reducible first | exact HB.out | apply ba16 | apply bn16 | apply bd16 | refine bs16 ?_ GE114.out | refine bs16 ?_ GE117.out) | exact HB.out)) hb); have NB114_118 := Am16 ((by rw [hg]; exact Nat.ne_of_lt (blk_lt (g:=gb114) (o:=.cells #[.string a0_0, .string a0_1] 26 (0, 0)) (by (with_reducible repeat first | apply kn16 | apply kd16 | apply ka16); exact BK114.out)) : gb114 ≠ gb118)); have NB118_114 := Am16 ((by rw [hg]; exact Nat.ne_of_gt (blk_lt (g:=gb114) (o:=.cells #[.string a0_0, .string a0_1] 26 (0, 0)) (by (with_reducible repeat first | apply kn16 | apply kd16 | apply ka16); exact BK114.out)) : gb118 ≠ gb114)); replace BK114 := Am16 (kb16 (g:=gb114) (o:=.cells #[.string a0_0, .string a0_1] 26 (0, 0)) (by (with_reducible repeat first | apply kn16 | apply kd16 | apply ka16); exact BK114.out) hb); have NB117_118 := Am16 ((by rw [hg]; exact Nat.ne_of_lt (blk_lt (g:=gb117) (o:=.cells #[.string (⟨#[]⟩ : ByteArray)] 48 (0, 0)) (by (with_reducible repeat first | apply kn16 | apply kd16 | apply ka16); exact BK117.out)) : gb117 ≠ gb118)); have NB118_117 := Am16 ((by rw [hg]; exact Nat.ne_of_gt (blk_lt (g:=gb117) (o:=.cells #[.string (⟨#[]⟩ : ByteArray)] 48 (0, 0)) (by (with_reducible repeat first | apply kn16 | apply kd16 | apply ka16); exact BK117.out)) : gb118 ≠ gb117)); replace BK117 := Am16 (kb16 (g:=gb117) (o:=.cells #[.string (⟨#[]⟩ : ByteArray)] 48 (0, 0)) (by (with_reducible repeat first | apply kn16 | apply kd16 | apply ka16); exact BK117.out) hb); clear hb hbox hg; have hnb106 := NB117_114.out; have hnc106 := NB114_117.out; have hnb107 := NB117_118.out; have hnc107 := NB118_117.out; have hcz108_0 : w105.cell? ⟨gb117, 0, none⟩ = some (.string (⟨#[]⟩ : ByteArray)) := (kc16 BK117.out 0).trans rfl; have hfz108_0 := kz16 BK117.out 0; have hnb109 := NB118_114.out; have hnc109 := NB114_118.out; have hcz110_0 : w105.cell? ⟨gb118, 0, none⟩ = some (.string (⟨#[]⟩ : ByteArray)) := (kc16 BK118.out 0).trans rfl; have hfz110_0 := kz16 BK118.out 0) | ((with_reducible refine gate_callee (f:=31) rfl ?_); refine goesL_ (some 12) rfl rfl Try.func31 (by kernel_rfl) rfl #[.agg #[.string t115]] rfl (by (try simp only [ma16, mc16, mn16]); first | done | rfl | (simp only [ld16, lt_16]; rfl)) ?_; (with_reducible refine (span_text_none.calls t115 false _ A3.out).mono ?_); rintro e w111 ⟨rfl, hb⟩; refine ⟨_, rfl, ?_⟩; replace BK114 := Am16 (kb16 (g:=gb114) (o:=.cells #[.string a0_0, .string a0_1] 26 (0, 0)) (by (with_reducible repeat first | apply kn16 | apply kd16 | apply ka16); refine kf16 ?_ NB114_118.out _; (with_reducible repeat first | apply kn16 | apply kd16 | apply ka16); refine kf16 ?_ NB114_117.out _; (with_reducible repeat first | apply kn16 | apply kd16 | apply ka16); exact BK114.out) hb); replace BK117 := Am16 (kb16 (g:=gb117) (o:=.cells #[.string t115] 48 (0, 0)) (by (with_reducible repeat first | apply kn16 | apply kd16 | apply ka16); refine kf16 ?_ NB117_118.out _; (with_reducible repeat first | apply kn16 | apply kd16 | apply ka16); refine blk_put (cs:=#[.string (⟨#[]⟩ : ByteArray)]) ?_ 0 _ rfl; (with_reducible repeat first | apply kn16 | apply kd16 | apply ka16); exact BK117.out) hb); replace BK118 := Am16 (kb16 (g:=gb118) (o:=.cells #[.string t116] 49 (0, 0)) (by (with_reducible repeat first | apply kn16 | apply kd16 | apply ka16); refine blk_put (cs:=#[.string (⟨#[]⟩ : ByteArray)]) ?_ 0 _ rfl; (with_reducible repeat first | apply kn16 | apply kd16 | apply ka16); refine kf16 ?_ NB118_117.out _; (with_reducible repeat first | apply kn16 | apply kd16 | apply ka16); exact BK118.out) hb); replace HB := Am16 (bp16 (by repeat (first | (with_reducible first | exact HB.out | apply ba16 | apply bn16 | apply bd16 | refine bs16 ?_ GE114.out | refine bs16 ?_ GE117.out | refine bs16 ?_ GE118.out) | exact HB.out)) hb); (try clear hb); (try clear hb2); (try clear hk); (try clear hi); have hcz112_0 : w111.cell? ⟨gb114, 0, none⟩ = some (.string a0_0) := (kc16 BK114.out 0).trans rfl; have hcz112_1 : w111.cell? ⟨gb114, 1, none⟩ = some (.string a0_1) := (kc16 BK114.out 1).trans rfl; have hfz112_0 := kz16 BK114.out 0; have hfz112_1 := kz16 BK114.out 1) | (go_at_call 18; (with_reducible refine (span_Key.calls k a0_0 true _ A58.out).mono ?_); rintro e w' ⟨rfl, ⟨nd, rfl⟩⟩; have hcz113_0 : w111.cell? ⟨gb118, 0, none⟩ = some (.string t116) := (kc16 BK118.out 0).trans rfl; have hfz113_0 := kz16 BK118.out 0) | (go_at_call 31; (with_reducible refine (span_text_none.calls t116 false _ A60.out).mono ?_); rintro e w114 ⟨rfl, hb⟩; replace BK114 := Am16 (kb16 (g:=gb114) (o:=.cells #[.string a0_0, .string a0_1] 26 (0, 0)) (by (with_reducible repeat first | apply kn16 | apply kd16 | apply ka16); exact BK114.out) hb); replace BK117 := Am16 (kb16 (g:=gb117) (o:=.cells #[.string t115] 48 (0, 0)) (by (with_reducible repeat first | apply kn16 | apply kd16 | apply ka16); exact BK117.out) hb); replace BK118 := Am16 (kb16 (g:=gb118) (o:=.cells #[.string t116] 49 (0, 0)) (by (with_reducible repeat first | apply kn16 | apply kd16 | apply ka16); exact BK118.out) hb); replace HB := Am16 (bp16 (by repeat (first | (with_reducible first | exact HB.out | apply ba16 | apply bn16 | apply bd16 | refine bs16 ?_ GE114.out | refine bs16 ?_ GE117.out | refine bs16 ?_ GE118.out) | exact HB.out)) hb); (try clear hb); (try clear hb2); (try clear hk); (try clear hi); have hcz115_0 : w114.cell? ⟨gb114, 0, none⟩ = some (.string a0_0) := (kc16 BK114.out 0).trans rfl; have hcz115_1 : w114.cell? ⟨gb114, 1, none⟩ = some (.string a0_1) := (kc16 BK114.out 1).trans rfl; have hfz115_0 := kz16 BK114.out 0; have hfz115_1 := kz16 BK114.out 1) | (go_at_call 18; (with_reducible refine (span_Key.calls k a0_1 false _ A80.out).mono ?_); rintro e w' ⟨rfl, ⟨nd, rfl⟩⟩))
     go_ret
     exact ⟨by first | rfl | (simp [errW_none, errW_some] <;> rfl) | (simp [*, errW_none, errW_some] <;> rfl), by repeat (first | (with_reducible first | exact HB.out | apply ba16 | apply bn16 | apply bd16 | refine bs16 ?_ GE114.out | refine bs16 ?_ GE117.out | refine bs16 ?_ GE118.out) | exact HB.out)⟩
  ·replace c59 := Bool.eq_false_iff.mpr c59
   subst c59
   rw [if_neg (show ¬ (false = true) by decide)] at H
   obtain rfl := Option.some.inj H
   go_enter Try.func16, Try.ntmps16
   go_wp2_with (first | ((with_reducible refine gate_dst (N:=1) rfl ?_); refine box_event ?hg (N:=1) ?hd (cs:=#[.string a0_0, .string a0_1]) (t:=26) ?hr ?_; (case hd => rfl); (case hg => rfl); (case hr => first | (go_simp; done) | (go_simp; rfl)); intro gb114 hg w116 hbox hb; have BK114 := Am16 (hbox); have GW114 := Am16 ((by rw [hg]; exact (bz16 (by repeat (first | (with_reducible first | exact HB.out | apply ba16 | apply bn16 | apply bd16) | exact HB.out))) : w.heap.size ≤ gb114)); have GE114 := Am16 ((by rw [hg]; exact (bz16 (by repeat (first | (with_reducible first | exact HB.out | apply ba16 | apply bn16 | apply bd16) | exact HB.out))) : w.heap.size ≤ gb114)); replace HB := Am16 (bp16 (by repeat (first | (with_reducible first | exact HB.out | apply ba16 | apply bn16 | apply bd16) | exact HB.out)) hb); clear hb hbox hg; have hcz117_0 : w116.cell? ⟨gb114, 0, none⟩ = some (.string a0_0) := (kc16 BK114.out 0).trans rfl; have hcz117_1 : w116.cell? ⟨gb114, 1, none⟩ = some (.string a0_1) := (kc16 BK114.out 1).trans rfl; have hfz117_0 := kz16 BK114.out 0; have hfz117_1 := kz16 BK114.out 1) | ((with_reducible refine gate_callee (f:=28) rfl ?_); refine goesL_ (some 7) rfl rfl Try.func28 (by kernel_rfl) rfl #[.agg #[.string a0_0, .string a0_1]] rfl (by (try simp only [ma16, mc16, mn16]); first | done | rfl | (simp only [ld16, lt_16]; rfl)) ?_; (with_reducible refine (span_ends.calls a0_0 a0_1 t115 t116 _ A2.out).mono ?_); rintro e w118 ⟨rfl, hb⟩; refine ⟨_, rfl, ?_⟩; replace BK114 := Am16 (kb16 (g:=gb114) (o:=.cells #[.string a0_0, .string a0_1] 26 (0, 0)) (by (with_reducible repeat first | apply kn16 | apply kd16 | apply ka16); exact BK114.out) hb); replace HB := Am16 (bp16 (by repeat (first | (with_reducible first | exact HB.out | apply ba16 | apply bn16 | apply bd16 | refine bs16 ?_ GE114.out) | exact HB.out)) hb); (try clear hb); (try clear hb2); (try clear hk); (try clear hi)) | ((with_reducible refine gate_dst (N:=3) rfl ?_); refine box_event ?hg (N:=3) ?hd (cs:=#[.string (⟨#[]⟩ : ByteArray)]) (t:=48) ?hr ?_; (case hd => rfl); (case hg => rfl); (case hr => first | (go_simp; done) | (go_simp; rfl)); intro gb117 hg w119 hbox hb; have BK117 := Am16 (hbox); have GW117 := Am16 ((by rw [hg]; exact (bz16 (by repeat (first | (with_reducible first | exact HB.out | apply ba16 | apply bn16 | apply bd16 | refine bs16 ?_ GE114.out) | exact HB.out))) : w.heap.size ≤ gb117)); have GE117 := Am16 ((by rw [hg]; exact (bz16 (by repeat (first | (with_reducible first | exact HB.out | apply ba16 | apply bn16 | apply bd16 | refine bs16 ?_ GE114.out) | exact HB.out))) : w.heap.size ≤ gb117)); replace HB := Am16 (bp16 (by repeat (first | (with_reducible first | exact HB.out | apply ba16 | apply bn16 | apply bd16 | refine bs16 ?_ GE114.out) | exact HB.out)) hb); have NB114_117 := Am16 ((by rw [hg]; exact Nat.ne_of_lt (blk_lt (g:=gb114) (o:=.cells #[.string a0_0, .string a0_1] 26 (0, 0)) (by (with_reducible repeat first | apply kn16 | apply kd16 | apply ka16); exact BK114.out)) : gb114 ≠ gb117)); have NB117_114 := Am16 ((by rw [hg]; exact Nat.ne_of_gt (blk_lt (g:=gb114) (o:=.cells #[.string a0_0, .string a0_1] 26 (0, 0)) (by (with_reducible repeat first | apply kn16 | apply kd16 | apply ka16); exact BK114.out)) : gb117 ≠ gb114)); replace BK114 := Am16 (kb16 (g:=gb114) (o:=.cells #[.string a0_0, .string a0_1] 26 (0, 0)) (by (with_reducible repeat first | apply kn16 | apply kd16 | apply ka16); exact BK114.out) hb); clear hb hbox hg) | ((with_reducible refine gate_dst (N:=4) rfl ?_); refine box_event ?hg (N:=4) ?hd (cs:=#[.string (⟨#[]⟩ : ByteArray)]) (t:=49) ?hr ?_; (case hd => rfl); (case hg => rfl); (case hr => first | (go_simp; done) | (go_simp; rfl)); intro gb118 hg w120 hbox hb; have BK118 := Am16 (hbox); have GW118 := Am16 ((by rw [hg]; exact (bz16 (by repeat (first | (with_reducible first | exact HB.out | apply ba16 | apply bn16 | apply bd16 | refine bs16 ?_ GE114.out | refine bs16 ?_ GE117.out) | exact HB.out))) : w.heap.size ≤ gb118)); have GE118 := Am16 ((by rw [hg]; exact (bz16 (by repeat (first | (with_reducible first | exact HB.out | apply ba16 | apply bn16 | apply bd16 | refine bs16 ?_ GE114.out | refine bs16 ?_ GE117.out) | exact HB.out))) : w.heap.size ≤ gb118)); replace HB := Am16 (bp16 (by repeat (first | (with_reducible first | exact HB.out | apply ba16 | apply bn16 | apply bd16 | refine bs16 ?_ GE114.out | refine bs16 ?_ GE117.out) | exact HB.out)) hb); have NB114_118 := Am16 ((by rw [hg]; exact Nat.ne_of_lt (blk_lt (g:=gb114) (o:=.cells #[.string a0_0, .string a0_1] 26 (0, 0)) (by (with_reducible repeat first | apply kn16 | apply kd16 | apply ka16); exact BK114.out)) : gb114 ≠ gb118)); have NB118_114 := Am16 ((by rw [hg]; exact Nat.ne_of_gt (blk_lt (g:=gb114) (o:=.cells #[.string a0_0, .string a0_1] 26 (0, 0)) (by (with_reducible repeat first | apply kn16 | apply kd16 | apply ka16); exact BK114.out)) : gb118 ≠ gb114)); replace BK114 := Am16 (kb16 (g:=gb114) (o:=.cells #[.string a0_0, .string a0_1] 26 (0, 0)) (by (with_reducible repeat first | apply kn16 | apply kd16 | apply ka16); exact BK114.out) hb); have NB117_118 := Am16 ((by rw [hg]; exact Nat.ne_of_lt (blk_lt (g:=gb117) (o:=.cells #[.string (⟨#[]⟩ : ByteArray)] 48 (0, 0)) (by (with_reducible repeat first | apply kn16 | apply kd16 | apply ka16); exact BK117.out)) : gb117 ≠ gb118)); have NB118_117 := Am16 ((by rw [hg]; exact Nat.ne_of_gt (blk_lt (g:=gb117) (o:=.cells #[.string (⟨#[]⟩ : ByteArray)] 48 (0, 0)) (by (with_reducible repeat first | apply kn16 | apply kd16 | apply ka16); exact BK117.out)) : gb118 ≠ gb117)); replace BK117 := Am16 (kb16 (g:=gb117) (o:=.cells #[.string (⟨#[]⟩ : ByteArray)] 48 (0, 0)) (by (with_reducible repeat first | apply kn16 | apply kd16 | apply ka16); exact BK117.out) hb); clear hb hbox hg; have hnb121 := NB117_114.out; have hnc121 := NB114_117.out; have hnb122 := NB117_118.out; have hnc122 := NB118_117.out; have hcz123_0 : w120.cell? ⟨gb117, 0, none⟩ = some (.string (⟨#[]⟩ : ByteArray)) := (kc16 BK117.out 0).trans rfl; have hfz123_0 := kz16 BK117.out 0; have hnb124 := NB118_114.out; have hnc124 := NB114_118.out; have hcz125_0 : w120.cell? ⟨gb118, 0, none⟩ = some (.string (⟨#[]⟩ : ByteArray)) := (kc16 BK118.out 0).trans rfl; have hfz125_0 := kz16 BK118.out 0) | ((with_reducible refine gate_callee (f:=31) rfl ?_); refine goesL_ (some 12) rfl rfl Try.func31 (by kernel_rfl) rfl #[.agg #[.string t115]] rfl (by (try simp only [ma16, mc16, mn16]); first | done | rfl | (simp only [ld16, lt_16]; rfl)) ?_; (with_reducible refine (span_text_none.calls t115 false _ A3.out).mono ?_); rintro e w126 ⟨rfl, hb⟩; refine ⟨_, rfl, ?_⟩; replace BK114 := Am16 (kb16 (g:=gb114) (o:=.cells #[.string a0_0, .string a0_1] 26 (0, 0)) (by (with_reducible repeat first | apply kn16 | apply kd16 | apply ka16); refine kf16 ?_ NB114_118.out _; (with_reducible repeat first | apply kn16 | apply kd16 | apply ka16); refine kf16 ?_ NB114_117.out _; (with_reducible repeat first | apply kn16 | apply kd16 | apply ka16); exact BK114.out) hb); replace BK117 := Am16 (kb16 (g:=gb117) (o:=.cells #[.string t115] 48 (0, 0)) (by (with_reducible repeat first | apply kn16 | apply kd16 | apply ka16); refine kf16 ?_ NB117_118.out _; (with_reducible repeat first | apply kn16 | apply kd16 | apply ka16); refine blk_put (cs:=#[.string (⟨#[]⟩ : ByteArray)]) ?_ 0 _ rfl; (with_reducible repeat first | apply kn16 | apply kd16 | apply ka16); exact BK117.out) hb); replace BK118 := Am16 (kb16 (g:=gb118) (o:=.cells #[.string t116] 49 (0, 0)) (by (with_reducible repeat first | apply kn16 | apply kd16 | apply ka16); refine blk_put (cs:=#[.string (⟨#[]⟩ : ByteArray)]) ?_ 0 _ rfl; (with_reducible repeat first | apply kn16 | apply kd16 | apply ka16); refine kf16 ?_ NB118_117.out _; (with_reducible repeat first | apply kn16 | apply kd16 | apply ka16); exact BK118.out) hb); replace HB := Am16 (bp16 (by repeat (first | (with_reducible first | exact HB.out | apply ba16 | apply bn16 | apply bd16 | refine bs16 ?_ GE114.out | refine bs16 ?_ GE117.out | refine bs16 ?_ GE118.out) | exact HB.out)) hb); (try clear hb); (try clear hb2); (try clear hk); (try clear hi); have hcz127_0 : w126.cell? ⟨gb114, 0, none⟩ = some (.string a0_0) := (kc16 BK114.out 0).trans rfl; have hcz127_1 : w126.cell? ⟨gb114, 1, none⟩ = some (.string a0_1) := (kc16 BK114.out 1).trans rfl; have hfz127_0 := kz16 BK114.out 0; have hfz127_1 := kz16 BK114.out 1) | (go_at_call 18; (with_reducible refine (span_Key.calls k a0_0 false _ A58.out).mono ?_); rintro e w' ⟨rfl, ⟨nd, rfl⟩⟩))
   go_ret
   exact ⟨by first | rfl | (simp [errW_none, errW_some] <;> rfl) | (simp [*, errW_none, errW_some] <;> rfl), by repeat (first | (with_reducible first | exact HB.out | apply ba16 | apply bn16 | apply bd16 | refine bs16 ?_ GE114.out | refine bs16 ?_ GE117.out | refine bs16 ?_ GE118.out) | exact HB.out)⟩

end Go.Proofs.Ytbmnhpihlkljdaa.P04e
