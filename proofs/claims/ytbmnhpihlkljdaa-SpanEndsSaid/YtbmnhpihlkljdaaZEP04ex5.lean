-- Written by gprint.py, a program of this session, over the kit's print; the functions of my own contracts are marked GIVEN
import Derived.Test.YtbmnhpihlkljdaaZEP04ex0
namespace Go.Proofs.Ytbmnhpihlkljdaa.P04e
open Go.RowKit Go.Proofs.YtbmnhpihlkljdaaW.PrintWords Go.Proofs.YtbmnhpihlkljdaaW.PrintLast Go.Proofs.YtbmnhpihlkljdaaW.PrintMore
attribute [local go_sem] max2_str max2_int min2_int max_two min_two max_three min_three max_four min_four   -- for this text's walks alone
set_option linter.unusedVariables false
set_option linter.unusedSimpArgs false

theorem Am19 : type_of% @Aside0.mk := @Aside0.mk
/-! ### watershedref04_Key: function 19 -/
mutual
def watershedref04_Key.j0 : Nat → ByteArray → Bool → Option (Bool)
 | 0, _, _ => none
 | k + 1, x0, x11 => if x11 = true then (some false) else (watershedref04_Key.l0 k x0 0)
def watershedref04_Key.l0 : Nat → ByteArray → Int → Option (Bool)
 | 0, _, _ => none
 | k + 1, x0, x3 => if x3 < (x0.size : Int) then (if 0 ≤ x3 then (if (bt x0 x3) ≥ 97 then (if (bt x0 x3) ≤ 122 then (watershedref04_Key.l0 k x0 (wrap64 (x3 + 1))) else (if (bt x0 x3) ≥ 48 then (if ((bt x0 x3) ≤ 57) then (watershedref04_Key.l0 k x0 (wrap64 (x3 + 1))) else (some false)) else (some false))) else (if (bt x0 x3) ≥ 48 then (if ((bt x0 x3) ≤ 57) then (watershedref04_Key.l0 k x0 (wrap64 (x3 + 1))) else (some false)) else (some false))) else (none)) else (some true)
end
def watershedref04_Key.f (k : Nat) (a0 : ByteArray) : Option (Bool) := if (a0.size : Int) < 1 then (watershedref04_Key.j0 k a0 true) else (watershedref04_Key.j0 k a0 (decide ((a0.size : Int) > 20)))
theorem watershedref04_Key.mono_l : ∀ k, (∀ y0 y1, LeO (watershedref04_Key.j0 k y0 y1) (watershedref04_Key.j0 (k + 1) y0 y1)) ∧ (∀ y0 y1, LeO (watershedref04_Key.l0 k y0 y1) (watershedref04_Key.l0 (k + 1) y0 y1))
 | 0 => ⟨fun _ _ r h => by simp [watershedref04_Key.j0] at h, fun _ _ r h => by simp [watershedref04_Key.l0] at h⟩
 | k + 1 => by
  obtain ⟨ih0, ih1⟩ := watershedref04_Key.mono_l k
  refine ⟨?_, ?_⟩
  ·intro y0 y1
   unfold watershedref04_Key.j0
   repeat' first
   | (with_reducible exact ih0 _ _)
   | (with_reducible exact ih1 _ _)
   | (with_reducible exact LeO.refl _)
   | (with_reducible exact LeO.none _)
   | (with_reducible refine LeO.ite ?_ ?_)
   | (with_reducible refine LeO.bind ?_ (fun _ => ?_))
   | exact ih0 _ _
   | exact ih1 _ _
   | exact LeO.none _
   | refine LeO.ite ?_ ?_
   | refine LeO.bind ?_ (fun _ => ?_)
  ·intro y0 y1
   unfold watershedref04_Key.l0
   repeat' first
   | (with_reducible exact ih0 _ _)
   | (with_reducible exact ih1 _ _)
   | (with_reducible exact LeO.refl _)
   | (with_reducible exact LeO.none _)
   | (with_reducible refine LeO.ite ?_ ?_)
   | (with_reducible refine LeO.bind ?_ (fun _ => ?_))
   | exact ih0 _ _
   | exact ih1 _ _
   | exact LeO.none _
   | refine LeO.ite ?_ ?_
   | refine LeO.bind ?_ (fun _ => ?_)
theorem watershedref04_Key.mono : ∀ a0 k, LeO (watershedref04_Key.f k a0) (watershedref04_Key.f (k + 1) a0) := by
 intro a0 k
 obtain ⟨ih0, ih1⟩ := watershedref04_Key.mono_l k
 unfold watershedref04_Key.f
 repeat' first
   | (with_reducible exact ih0 _ _)
   | (with_reducible exact ih1 _ _)
   | (with_reducible exact LeO.refl _)
   | (with_reducible exact LeO.none _)
   | (with_reducible refine LeO.ite ?_ ?_)
   | (with_reducible refine LeO.bind ?_ (fun _ => ?_))
   | exact ih0 _ _
   | exact ih1 _ _
   | exact LeO.none _
   | refine LeO.ite ?_ ?_
   | refine LeO.bind ?_ (fun _ => ?_)
set_option maxHeartbeats 8000000 in
set_option maxRecDepth 100000 in
theorem watershedref04_Key.calls (k : Nat) (a0 : ByteArray) (r : Bool) (w : World) (h : watershedref04_Key.f k a0 = some r) :
  Calls Try.prog 19 #[.string a0] w fun e w' => e = .returned (.bool r) ∧ Drawn0 w w' := by
 have H : (if (a0.size : Int) < 1 then (watershedref04_Key.j0 k a0 true) else (watershedref04_Key.j0 k a0 (decide ((a0.size : Int) > 20)))) = some r := h
 clear h
 have HC2 := Am19 H
 clear H
 go_enter Try.func19, Try.ntmps19
 go_upto_region 1 with (fail)
 go_cut [11] (fun v11 wc => ∃ (kq : Nat) (x11_1 : Bool), v11 = .bool x11_1 ∧ Aside0 (watershedref04_Key.j0 kq a0 x11_1 = some r) ∧ Aside0 (kq ≤ k) ∧ Drawn0 w wc)
 case first =>
  have H := HC2.out
  clear HC2
  by_cases c3 : (a0.size : Int) < 1
  ·rw [if_pos c3] at H
   have c3b0 : decide ((a0.size : Int) < 1) = true := decide_eq_true c3
   have c3b1 : decide (a0.size < 1) = true := decide_eq_true (by omega)
   clear c3
   (first | rw [c3b0] | (simp only [i64_w, i32_w]; rw [c3b0]) | skip)
   have H' := Am19 H
   clear H
   go_wp2
   go_meet
   case rel => exact ⟨_, (true), (by first | rfl | (simp; done) | (simp [*]; done)), H', ⟨by first | omega | exact Nat.le_refl _⟩, by repeat (first | exact Drawn0.refl _ | apply Drawn0.step)⟩
  ·rw [if_neg c3] at H
   have c3b0 : decide ((a0.size : Int) < 1) = false := decide_eq_false c3
   have c3b1 : decide (a0.size < 1) = false := decide_eq_false (by omega)
   clear c3
   (first | rw [c3b0] | (simp only [i64_w, i32_w]; rw [c3b0]) | skip)
   have H' := Am19 H
   clear H
   go_wp2
   go_meet
   case rel => exact ⟨_, (decide ((a0.size : Int) > 20)), (by first | rfl | (simp; done) | (simp [*]; done)), H', ⟨by first | omega | exact Nat.le_refl _⟩, by repeat (first | exact Drawn0.refl _ | apply Drawn0.step)⟩
 case rest =>
  clear HC2
  try clear c1
  try clear p2
  try clear c3
  try clear c3b0
  try clear c3b1
  obtain ⟨kq, x11_1, rfl, HA, HJ1, ⟨mc1, rfl⟩⟩ := hcut
  cases kq with
  | zero => exact absurd HA.out (by simp [watershedref04_Key.j0])
  | succ kj1 =>
   have H := HA.out
   clear HA
   simp only [watershedref04_Key.j0] at H
   by_cases c4 : x11_1 = true
   ·subst c4
    rw [if_pos rfl] at H
    obtain rfl := Option.some.inj H
    go_wp2
    go_ret
    exact ⟨by first | rfl | (simp; done) | (simp [*]; done), by repeat (first | exact Drawn0.refl _ | apply Drawn0.step)⟩
   ·replace c4 := Bool.eq_false_iff.mpr c4
    subst c4
    rw [if_neg (show ¬ (false = true) by decide)] at H
    have H' := Am19 H
    clear H
    go_wp2
    go_loopg [3] kj1 (fun kq v3 w' => ∃ (x3_2 : Int), v3 = .int .i64 x3_2 ∧ Aside0 (watershedref04_Key.l0 kq a0 x3_2 = some r) ∧ Aside0 (kq ≤ kj1) ∧ Drawn0 w w')
    case atStart => exact ⟨(0), (by first | rfl | (simp; done) | (simp [*]; done)), H', ⟨Nat.le_refl _⟩, by repeat (first | exact Drawn0.refl _ | apply Drawn0.step)⟩
    case round =>
     clear H'
     try clear c1
     try clear p2
     try clear c3
     try clear c3b0
     try clear c3b1
     try clear c4
     try clear p2
     obtain ⟨x3_2, rfl, HA, HK2, ⟨m2, rfl⟩⟩ := hrel
     cases gk with
     | zero => exact absurd HA.out (by simp [watershedref04_Key.l0])
     | succ k2 =>
      have H := HA.out
      clear HA
      simp only [watershedref04_Key.l0] at H
      by_cases c5 : x3_2 < (a0.size : Int)
      ·rw [if_pos c5] at H
       have c5b0 : decide (x3_2 < (a0.size : Int)) = true := decide_eq_true c5
       clear c5
       by_cases c6 : 0 ≤ x3_2
       ·rw [if_pos c6] at H
        have c6b0 : decide (0 ≤ x3_2) = true := decide_eq_true c6
        clear c6
        by_cases c8 : (bt a0 x3_2) ≥ 97
        ·rw [if_pos c8] at H
         have c8b0 : decide (97 ≤ (bt a0 x3_2)) = true := decide_eq_true c8
         clear c8
         by_cases c10 : (bt a0 x3_2) ≤ 122
         ·rw [if_pos c10] at H
          have c10b0 : decide ((bt a0 x3_2) ≤ 122) = true := decide_eq_true c10
          clear c10
          have H' := Am19 H
          clear H
          have p7 : 0 ≤ (x3_2 : Int) := of_decide_eq_true (by first | (with_reducible assumption) | assumption)
          have q7 : x3_2 < (a0.size : Int) := of_decide_eq_true (by first | (with_reducible assumption) | assumption)
          have hx7 := bt_at a0 x3_2
          replace p7 := eq_true p7
          replace q7 := eq_true q7
          have p9 : 0 ≤ (x3_2 : Int) := of_decide_eq_true (by first | (with_reducible assumption) | assumption)
          have q9 : x3_2 < (a0.size : Int) := of_decide_eq_true (by first | (with_reducible assumption) | assumption)
          have hx9 := bt_at a0 x3_2
          replace p9 := eq_true p9
          replace q9 := eq_true q9
          go_wp2
          go_roundg k2
          case measure => have := HJ1.out; have := HK2.out; omega
          case rel => exact ⟨(wrap64 (x3_2 + 1)), (by first | rfl | (simp; done) | (simp [*]; done)), H', ⟨by have := HJ1.out; have := HK2.out; omega⟩, by repeat (first | exact Drawn0.refl _ | apply Drawn0.step)⟩
         ·rw [if_neg c10] at H
          have c10b0 : decide ((bt a0 x3_2) ≤ 122) = false := decide_eq_false c10
          clear c10
          by_cases c12 : (bt a0 x3_2) ≥ 48
          ·rw [if_pos c12] at H
           have c12b0 : decide (48 ≤ (bt a0 x3_2)) = true := decide_eq_true c12
           clear c12
           by_cases c14 : ((bt a0 x3_2) ≤ 57)
           ·rw [if_pos c14] at H
            have c14b0 : decide ((bt a0 x3_2) ≤ 57) = true := decide_eq_true c14
            clear c14
            have H' := Am19 H
            clear H
            have p7 : 0 ≤ (x3_2 : Int) := of_decide_eq_true (by first | (with_reducible assumption) | assumption)
            have q7 : x3_2 < (a0.size : Int) := of_decide_eq_true (by first | (with_reducible assumption) | assumption)
            have hx7 := bt_at a0 x3_2
            replace p7 := eq_true p7
            replace q7 := eq_true q7
            have p9 : 0 ≤ (x3_2 : Int) := of_decide_eq_true (by first | (with_reducible assumption) | assumption)
            have q9 : x3_2 < (a0.size : Int) := of_decide_eq_true (by first | (with_reducible assumption) | assumption)
            have hx9 := bt_at a0 x3_2
            replace p9 := eq_true p9
            replace q9 := eq_true q9
            have p11 : 0 ≤ (x3_2 : Int) := of_decide_eq_true (by first | (with_reducible assumption) | assumption)
            have q11 : x3_2 < (a0.size : Int) := of_decide_eq_true (by first | (with_reducible assumption) | assumption)
            have hx11 := bt_at a0 x3_2
            replace p11 := eq_true p11
            replace q11 := eq_true q11
            have p13 : 0 ≤ (x3_2 : Int) := of_decide_eq_true (by first | (with_reducible assumption) | assumption)
            have q13 : x3_2 < (a0.size : Int) := of_decide_eq_true (by first | (with_reducible assumption) | assumption)
            have hx13 := bt_at a0 x3_2
            replace p13 := eq_true p13
            replace q13 := eq_true q13
            go_wp2
            go_roundg k2
            case measure => have := HJ1.out; have := HK2.out; omega
            case rel => exact ⟨(wrap64 (x3_2 + 1)), (by first | rfl | (simp; done) | (simp [*]; done)), H', ⟨by have := HJ1.out; have := HK2.out; omega⟩, by repeat (first | exact Drawn0.refl _ | apply Drawn0.step)⟩
           ·rw [if_neg c14] at H
            have c14b0 : decide ((bt a0 x3_2) ≤ 57) = false := decide_eq_false c14
            clear c14
            obtain rfl := Option.some.inj H
            have p7 : 0 ≤ (x3_2 : Int) := of_decide_eq_true (by first | (with_reducible assumption) | assumption)
            have q7 : x3_2 < (a0.size : Int) := of_decide_eq_true (by first | (with_reducible assumption) | assumption)
            have hx7 := bt_at a0 x3_2
            replace p7 := eq_true p7
            replace q7 := eq_true q7
            have p9 : 0 ≤ (x3_2 : Int) := of_decide_eq_true (by first | (with_reducible assumption) | assumption)
            have q9 : x3_2 < (a0.size : Int) := of_decide_eq_true (by first | (with_reducible assumption) | assumption)
            have hx9 := bt_at a0 x3_2
            replace p9 := eq_true p9
            replace q9 := eq_true q9
            have p11 : 0 ≤ (x3_2 : Int) := of_decide_eq_true (by first | (with_reducible assumption) | assumption)
            have q11 : x3_2 < (a0.size : Int) := of_decide_eq_true (by first | (with_reducible assumption) | assumption)
            have hx11 := bt_at a0 x3_2
            replace p11 := eq_true p11
            replace q11 := eq_true q11
            have p13 : 0 ≤ (x3_2 : Int) := of_decide_eq_true (by first | (with_reducible assumption) | assumption)
            have q13 : x3_2 < (a0.size : Int) := of_decide_eq_true (by first | (with_reducible assumption) | assumption)
            have hx13 := bt_at a0 x3_2
            replace p13 := eq_true p13
            replace q13 := eq_true q13
            go_wp2
            go_ret
            exact ⟨by first | rfl | (simp; done) | (simp [*]; done), by repeat (first | exact Drawn0.refl _ | apply Drawn0.step)⟩
          ·rw [if_neg c12] at H
           have c12b0 : decide (48 ≤ (bt a0 x3_2)) = false := decide_eq_false c12
           clear c12
           obtain rfl := Option.some.inj H
           have p7 : 0 ≤ (x3_2 : Int) := of_decide_eq_true (by first | (with_reducible assumption) | assumption)
           have q7 : x3_2 < (a0.size : Int) := of_decide_eq_true (by first | (with_reducible assumption) | assumption)
           have hx7 := bt_at a0 x3_2
           replace p7 := eq_true p7
           replace q7 := eq_true q7
           have p9 : 0 ≤ (x3_2 : Int) := of_decide_eq_true (by first | (with_reducible assumption) | assumption)
           have q9 : x3_2 < (a0.size : Int) := of_decide_eq_true (by first | (with_reducible assumption) | assumption)
           have hx9 := bt_at a0 x3_2
           replace p9 := eq_true p9
           replace q9 := eq_true q9
           have p11 : 0 ≤ (x3_2 : Int) := of_decide_eq_true (by first | (with_reducible assumption) | assumption)
           have q11 : x3_2 < (a0.size : Int) := of_decide_eq_true (by first | (with_reducible assumption) | assumption)
           have hx11 := bt_at a0 x3_2
           replace p11 := eq_true p11
           replace q11 := eq_true q11
           go_wp2
           go_ret
           exact ⟨by first | rfl | (simp; done) | (simp [*]; done), by repeat (first | exact Drawn0.refl _ | apply Drawn0.step)⟩
        ·rw [if_neg c8] at H
         have c8b0 : decide (97 ≤ (bt a0 x3_2)) = false := decide_eq_false c8
         clear c8
         by_cases c16 : (bt a0 x3_2) ≥ 48
         ·rw [if_pos c16] at H
          have c16b0 : decide (48 ≤ (bt a0 x3_2)) = true := decide_eq_true c16
          clear c16
          by_cases c18 : ((bt a0 x3_2) ≤ 57)
          ·rw [if_pos c18] at H
           have c18b0 : decide ((bt a0 x3_2) ≤ 57) = true := decide_eq_true c18
           clear c18
           have H' := Am19 H
           clear H
           have p7 : 0 ≤ (x3_2 : Int) := of_decide_eq_true (by first | (with_reducible assumption) | assumption)
           have q7 : x3_2 < (a0.size : Int) := of_decide_eq_true (by first | (with_reducible assumption) | assumption)
           have hx7 := bt_at a0 x3_2
           replace p7 := eq_true p7
           replace q7 := eq_true q7
           have p15 : 0 ≤ (x3_2 : Int) := of_decide_eq_true (by first | (with_reducible assumption) | assumption)
           have q15 : x3_2 < (a0.size : Int) := of_decide_eq_true (by first | (with_reducible assumption) | assumption)
           have hx15 := bt_at a0 x3_2
           replace p15 := eq_true p15
           replace q15 := eq_true q15
           have p17 : 0 ≤ (x3_2 : Int) := of_decide_eq_true (by first | (with_reducible assumption) | assumption)
           have q17 : x3_2 < (a0.size : Int) := of_decide_eq_true (by first | (with_reducible assumption) | assumption)
           have hx17 := bt_at a0 x3_2
           replace p17 := eq_true p17
           replace q17 := eq_true q17
           go_wp2
           go_roundg k2
           case measure => have := HJ1.out; have := HK2.out; omega
           case rel => exact ⟨(wrap64 (x3_2 + 1)), (by first | rfl | (simp; done) | (simp [*]; done)), H', ⟨by have := HJ1.out; have := HK2.out; omega⟩, by repeat (first | exact Drawn0.refl _ | apply Drawn0.step)⟩
          ·rw [if_neg c18] at H
           have c18b0 : decide ((bt a0 x3_2) ≤ 57) = false := decide_eq_false c18
           clear c18
           obtain rfl := Option.some.inj H
           have p7 : 0 ≤ (x3_2 : Int) := of_decide_eq_true (by first | (with_reducible assumption) | assumption)
           have q7 : x3_2 < (a0.size : Int) := of_decide_eq_true (by first | (with_reducible assumption) | assumption)
           have hx7 := bt_at a0 x3_2
           replace p7 := eq_true p7
           replace q7 := eq_true q7
           have p15 : 0 ≤ (x3_2 : Int) := of_decide_eq_true (by first | (with_reducible assumption) | assumption)
           have q15 : x3_2 < (a0.size : Int) := of_decide_eq_true (by first | (with_reducible assumption) | assumption)
           have hx15 := bt_at a0 x3_2
           replace p15 := eq_true p15
           replace q15 := eq_true q15
           have p17 : 0 ≤ (x3_2 : Int) := of_decide_eq_true (by first | (with_reducible assumption) | assumption)
           have q17 : x3_2 < (a0.size : Int) := of_decide_eq_true (by first | (with_reducible assumption) | assumption)
           have hx17 := bt_at a0 x3_2
           replace p17 := eq_true p17
           replace q17 := eq_true q17
           go_wp2
           go_ret
           exact ⟨by first | rfl | (simp; done) | (simp [*]; done), by repeat (first | exact Drawn0.refl _ | apply Drawn0.step)⟩
         ·rw [if_neg c16] at H
          have c16b0 : decide (48 ≤ (bt a0 x3_2)) = false := decide_eq_false c16
          clear c16
          obtain rfl := Option.some.inj H
          have p7 : 0 ≤ (x3_2 : Int) := of_decide_eq_true (by first | (with_reducible assumption) | assumption)
          have q7 : x3_2 < (a0.size : Int) := of_decide_eq_true (by first | (with_reducible assumption) | assumption)
          have hx7 := bt_at a0 x3_2
          replace p7 := eq_true p7
          replace q7 := eq_true q7
          have p15 : 0 ≤ (x3_2 : Int) := of_decide_eq_true (by first | (with_reducible assumption) | assumption)
          have q15 : x3_2 < (a0.size : Int) := of_decide_eq_true (by first | (with_reducible assumption) | assumption)
          have hx15 := bt_at a0 x3_2
          replace p15 := eq_true p15
          replace q15 := eq_true q15
          go_wp2
          go_ret
          exact ⟨by first | rfl | (simp; done) | (simp [*]; done), by repeat (first | exact Drawn0.refl _ | apply Drawn0.step)⟩
       ·rw [if_neg c6] at H
        exact absurd H (by simp)
      ·rw [if_neg c5] at H
       have c5b0 : decide (x3_2 < (a0.size : Int)) = false := decide_eq_false c5
       clear c5
       obtain rfl := Option.some.inj H
       go_wp2
       go_ret
       exact ⟨by first | rfl | (simp; done) | (simp [*]; done), by repeat (first | exact Drawn0.refl _ | apply Drawn0.step)⟩

theorem Am17 : type_of% @Aside0.mk := @Aside0.mk
theorem ba17 : type_of% @below_alloc := @below_alloc
theorem bn17 : type_of% @pw_below_drewN := @pw_below_drewN
theorem bd17 : type_of% @below_drew1 := @below_drew1
theorem bs17 : type_of% @below_set := @below_set
theorem bz17 : type_of% @below_size := @below_size
theorem bp17 : type_of% @below_step := @below_step
theorem kc17 : type_of% @blk_cell := @blk_cell
theorem kz17 : type_of% @blk_frozen := @blk_frozen
/-! ### watershedref04_Right: function 17 -/
def watershedref04_Right.f (k : Nat) (a0_0 : ByteArray) (a0_1 : ByteArray) : Option (Bool) := if a0_0.toList = ([] : List UInt8) then (if a0_1.toList = ([] : List UInt8) then (some true) else ((watershedref04_Key.f k a0_1).bind fun t182 => (if t182 = true then (some (Op.bytesLess a0_0.toList a0_1.toList)) else (some false)))) else ((watershedref04_Key.f k a0_0).bind fun t183 => (if t183 = true then (if a0_1.toList = ([] : List UInt8) then (some true) else ((watershedref04_Key.f k a0_1).bind fun t184 => (if t184 = true then (some (Op.bytesLess a0_0.toList a0_1.toList)) else (some false)))) else (some false)))
theorem watershedref04_Right.mono : ∀ a0 a1 k, LeO (watershedref04_Right.f k a0 a1) (watershedref04_Right.f (k + 1) a0 a1) := by
 intro a0 a1 k
 unfold watershedref04_Right.f
 repeat' first
   | (with_reducible exact watershedref04_Key.mono _ _)
   | (with_reducible exact LeO.refl _)
   | (with_reducible exact LeO.none _)
   | (with_reducible refine LeO.ite ?_ ?_)
   | (with_reducible refine LeO.bind ?_ (fun _ => ?_))
   | exact watershedref04_Key.mono _ _
   | exact LeO.none _
   | refine LeO.ite ?_ ?_
   | refine LeO.bind ?_ (fun _ => ?_)
set_option maxHeartbeats 8000000 in
set_option maxRecDepth 100000 in
theorem watershedref04_Right.calls (k : Nat) (a0_0 : ByteArray) (a0_1 : ByteArray) (r : Bool) (w : World) (h : watershedref04_Right.f k a0_0 a0_1 = some r) :
  Calls Try.prog 17 #[.agg #[.string a0_0, .string a0_1]] w fun e w' => e = .returned (.bool r) ∧ Below w.heap.size w w' := by
 have hu26 := Try.underlying26
 have HB := Am17 (Below.refl w.heap.size w)
 have H : (if a0_0.toList = ([] : List UInt8) then (if a0_1.toList = ([] : List UInt8) then (some true) else ((watershedref04_Key.f k a0_1).bind fun t182 => (if t182 = true then (some (Op.bytesLess a0_0.toList a0_1.toList)) else (some false)))) else ((watershedref04_Key.f k a0_0).bind fun t183 => (if t183 = true then (if a0_1.toList = ([] : List UInt8) then (some true) else ((watershedref04_Key.f k a0_1).bind fun t184 => (if t184 = true then (some (Op.bytesLess a0_0.toList a0_1.toList)) else (some false)))) else (some false)))) = some r := h
 clear h
 by_cases c2 : a0_0.toList = ([] : List UInt8)
 ·rw [if_pos c2] at H
  have c2b0 : (a0_0.toList == ([] : List UInt8)) = true := beq_iff_eq.mpr c2
  have c2b1 : (a0_0.toList != ([] : List UInt8)) = false := bne_eq_false_iff_eq.mpr c2
  clear c2
  by_cases c3 : a0_1.toList = ([] : List UInt8)
  ·rw [if_pos c3] at H
   have c3b0 : (a0_1.toList == ([] : List UInt8)) = true := beq_iff_eq.mpr c3
   have c3b1 : (a0_1.toList != ([] : List UInt8)) = false := bne_eq_false_iff_eq.mpr c3
   clear c3
   obtain rfl := Option.some.inj H
   go_enter Try.func17, Try.ntmps17
   go_wp2_with (first | ((with_reducible refine gate_dst (N:=1) rfl ?_); refine box_event ?hg (N:=1) ?hd (cs:=#[.string a0_0, .string a0_1]) (t:=26) ?hr ?_; (case hd => rfl); (case hg => rfl); (case hr => first | (go_simp; done) | (go_simp; rfl)); intro gb181 hg w4 hbox hb; have BK181 := Am17 (hbox); have GW181 := Am17 ((by rw [hg]; exact (bz17 (by repeat (first | (with_reducible first | exact HB.out | apply ba17 | apply bn17 | apply bd17) | exact HB.out))) : w.heap.size ≤ gb181)); have GE181 := Am17 ((by rw [hg]; exact (bz17 (by repeat (first | (with_reducible first | exact HB.out | apply ba17 | apply bn17 | apply bd17) | exact HB.out))) : w.heap.size ≤ gb181)); replace HB := Am17 (bp17 (by repeat (first | (with_reducible first | exact HB.out | apply ba17 | apply bn17 | apply bd17) | exact HB.out)) hb); clear hb hbox hg; have hcz5_0 : w4.cell? ⟨gb181, 0, none⟩ = some (.string a0_0) := (kc17 BK181.out 0).trans rfl; have hcz5_1 : w4.cell? ⟨gb181, 1, none⟩ = some (.string a0_1) := (kc17 BK181.out 1).trans rfl; have hfz5_0 := kz17 BK181.out 0; have hfz5_1 := kz17 BK181.out 1))
   go_ret
   exact ⟨by first | rfl | (simp [errW_none, errW_some] <;> rfl) | (simp [*, errW_none, errW_some] <;> rfl), by repeat (first | (with_reducible first | exact HB.out | apply ba17 | apply bn17 | apply bd17 | refine bs17 ?_ GE181.out) | exact HB.out)⟩
  ·rw [if_neg c3] at H
   have c3b0 : (a0_1.toList == ([] : List UInt8)) = false := beq_eq_false_iff_ne.mpr c3
   have c3b1 : (a0_1.toList != ([] : List UInt8)) = true := bne_iff_ne.mpr c3
   replace H := Option.bind_eq_some_iff.mp H
   obtain ⟨t182, A60, H⟩ := H
   try dsimp only at H
   have A6 := Am17 A60
   clear A60
   by_cases c7 : t182 = true
   ·subst c7
    rw [if_pos rfl] at H
    obtain rfl := Option.some.inj H
    go_enter Try.func17, Try.ntmps17
    go_wp2_with (first | ((with_reducible refine gate_dst (N:=1) rfl ?_); refine box_event ?hg (N:=1) ?hd (cs:=#[.string a0_0, .string a0_1]) (t:=26) ?hr ?_; (case hd => rfl); (case hg => rfl); (case hr => first | (go_simp; done) | (go_simp; rfl)); intro gb181 hg w8 hbox hb; have BK181 := Am17 (hbox); have GW181 := Am17 ((by rw [hg]; exact (bz17 (by repeat (first | (with_reducible first | exact HB.out | apply ba17 | apply bn17 | apply bd17) | exact HB.out))) : w.heap.size ≤ gb181)); have GE181 := Am17 ((by rw [hg]; exact (bz17 (by repeat (first | (with_reducible first | exact HB.out | apply ba17 | apply bn17 | apply bd17) | exact HB.out))) : w.heap.size ≤ gb181)); replace HB := Am17 (bp17 (by repeat (first | (with_reducible first | exact HB.out | apply ba17 | apply bn17 | apply bd17) | exact HB.out)) hb); clear hb hbox hg; have hcz9_0 : w8.cell? ⟨gb181, 0, none⟩ = some (.string a0_0) := (kc17 BK181.out 0).trans rfl; have hcz9_1 : w8.cell? ⟨gb181, 1, none⟩ = some (.string a0_1) := (kc17 BK181.out 1).trans rfl; have hfz9_0 := kz17 BK181.out 0; have hfz9_1 := kz17 BK181.out 1) | (go_at_call 19; (with_reducible refine (watershedref04_Key.calls k a0_1 true _ A6.out).mono ?_); rintro e w' ⟨rfl, ⟨nd, rfl⟩⟩))
    go_ret
    exact ⟨by first | rfl | (simp [errW_none, errW_some] <;> rfl) | (simp [*, errW_none, errW_some] <;> rfl), by repeat (first | (with_reducible first | exact HB.out | apply ba17 | apply bn17 | apply bd17 | refine bs17 ?_ GE181.out) | exact HB.out)⟩
   ·replace c7 := Bool.eq_false_iff.mpr c7
    subst c7
    rw [if_neg (show ¬ (false = true) by decide)] at H
    obtain rfl := Option.some.inj H
    go_enter Try.func17, Try.ntmps17
    go_wp2_with (first | ((with_reducible refine gate_dst (N:=1) rfl ?_); refine box_event ?hg (N:=1) ?hd (cs:=#[.string a0_0, .string a0_1]) (t:=26) ?hr ?_; (case hd => rfl); (case hg => rfl); (case hr => first | (go_simp; done) | (go_simp; rfl)); intro gb181 hg w10 hbox hb; have BK181 := Am17 (hbox); have GW181 := Am17 ((by rw [hg]; exact (bz17 (by repeat (first | (with_reducible first | exact HB.out | apply ba17 | apply bn17 | apply bd17) | exact HB.out))) : w.heap.size ≤ gb181)); have GE181 := Am17 ((by rw [hg]; exact (bz17 (by repeat (first | (with_reducible first | exact HB.out | apply ba17 | apply bn17 | apply bd17) | exact HB.out))) : w.heap.size ≤ gb181)); replace HB := Am17 (bp17 (by repeat (first | (with_reducible first | exact HB.out | apply ba17 | apply bn17 | apply bd17) | exact HB.out)) hb); clear hb hbox hg; have hcz11_0 : w10.cell? ⟨gb181, 0, none⟩ = some (.string a0_0) := (kc17 BK181.out 0).trans rfl; have hcz11_1 : w10.cell? ⟨gb181, 1, none⟩ = some (.string a0_1) := (kc17 BK181.out 1).trans rfl; have hfz11_0 := kz17 BK181.out 0; have hfz11_1 := kz17 BK181.out 1) | (go_at_call 19; (with_reducible refine (watershedref04_Key.calls k a0_1 false _ A6.out).mono ?_); rintro e w' ⟨rfl, ⟨nd, rfl⟩⟩))
    go_ret
    exact ⟨by first | rfl | (simp [errW_none, errW_some] <;> rfl) | (simp [*, errW_none, errW_some] <;> rfl), by repeat (first | (with_reducible first | exact HB.out | apply ba17 | apply bn17 | apply bd17 | refine bs17 ?_ GE181.out) | exact HB.out)⟩
 ·rw [if_neg c2] at H
  have c2b0 : (a0_0.toList == ([] : List UInt8)) = false := beq_eq_false_iff_ne.mpr c2
  have c2b1 : (a0_0.toList != ([] : List UInt8)) = true := bne_iff_ne.mpr c2
  replace H := Option.bind_eq_some_iff.mp H
  obtain ⟨t183, A120, H⟩ := H
  try dsimp only at H
  have A12 := Am17 A120
  clear A120
  by_cases c13 : t183 = true
  ·subst c13
   rw [if_pos rfl] at H
   by_cases c14 : a0_1.toList = ([] : List UInt8)
   ·rw [if_pos c14] at H
    have c14b0 : (a0_1.toList == ([] : List UInt8)) = true := beq_iff_eq.mpr c14
    have c14b1 : (a0_1.toList != ([] : List UInt8)) = false := bne_eq_false_iff_eq.mpr c14
    clear c14
    obtain rfl := Option.some.inj H
    go_enter Try.func17, Try.ntmps17
    go_wp2_with (first | ((with_reducible refine gate_dst (N:=1) rfl ?_); refine box_event ?hg (N:=1) ?hd (cs:=#[.string a0_0, .string a0_1]) (t:=26) ?hr ?_; (case hd => rfl); (case hg => rfl); (case hr => first | (go_simp; done) | (go_simp; rfl)); intro gb181 hg w15 hbox hb; have BK181 := Am17 (hbox); have GW181 := Am17 ((by rw [hg]; exact (bz17 (by repeat (first | (with_reducible first | exact HB.out | apply ba17 | apply bn17 | apply bd17) | exact HB.out))) : w.heap.size ≤ gb181)); have GE181 := Am17 ((by rw [hg]; exact (bz17 (by repeat (first | (with_reducible first | exact HB.out | apply ba17 | apply bn17 | apply bd17) | exact HB.out))) : w.heap.size ≤ gb181)); replace HB := Am17 (bp17 (by repeat (first | (with_reducible first | exact HB.out | apply ba17 | apply bn17 | apply bd17) | exact HB.out)) hb); clear hb hbox hg; have hcz16_0 : w15.cell? ⟨gb181, 0, none⟩ = some (.string a0_0) := (kc17 BK181.out 0).trans rfl; have hcz16_1 : w15.cell? ⟨gb181, 1, none⟩ = some (.string a0_1) := (kc17 BK181.out 1).trans rfl; have hfz16_0 := kz17 BK181.out 0; have hfz16_1 := kz17 BK181.out 1) | (go_at_call 19; (with_reducible refine (watershedref04_Key.calls k a0_0 true _ A12.out).mono ?_); rintro e w' ⟨rfl, ⟨nd, rfl⟩⟩))
    go_ret
    exact ⟨by first | rfl | (simp [errW_none, errW_some] <;> rfl) | (simp [*, errW_none, errW_some] <;> rfl), by repeat (first | (with_reducible first | exact HB.out | apply ba17 | apply bn17 | apply bd17 | refine bs17 ?_ GE181.out) | exact HB.out)⟩
   ·rw [if_neg c14] at H
    have c14b0 : (a0_1.toList == ([] : List UInt8)) = false := beq_eq_false_iff_ne.mpr c14
    have c14b1 : (a0_1.toList != ([] : List UInt8)) = true := bne_iff_ne.mpr c14
    replace H := Option.bind_eq_some_iff.mp H
    obtain ⟨t184, A170, H⟩ := H
    try dsimp only at H
    have A17 := Am17 A170
    clear A170
    by_cases c18 : t184 = true
    ·subst c18
     rw [if_pos rfl] at H
     obtain rfl := Option.some.inj H
     go_enter Try.func17, Try.ntmps17
     go_wp2_with (first | ((with_reducible refine gate_dst (N:=1) rfl ?_); refine box_event ?hg (N:=1) ?hd (cs:=#[.string a0_0, .string a0_1]) (t:=26) ?hr ?_; (case hd => rfl); (case hg => rfl); (case hr => first | (go_simp; done) | (go_simp; rfl)); intro gb181 hg w19 hbox hb; have BK181 := Am17 (hbox); have GW181 := Am17 ((by rw [hg]; exact (bz17 (by repeat (first | (with_reducible first | exact HB.out | apply ba17 | apply bn17 | apply bd17) | exact HB.out))) : w.heap.size ≤ gb181)); have GE181 := Am17 ((by rw [hg]; exact (bz17 (by repeat (first | (with_reducible first | exact HB.out | apply ba17 | apply bn17 | apply bd17) | exact HB.out))) : w.heap.size ≤ gb181)); replace HB := Am17 (bp17 (by repeat (first | (with_reducible first | exact HB.out | apply ba17 | apply bn17 | apply bd17) | exact HB.out)) hb); clear hb hbox hg; have hcz20_0 : w19.cell? ⟨gb181, 0, none⟩ = some (.string a0_0) := (kc17 BK181.out 0).trans rfl; have hcz20_1 : w19.cell? ⟨gb181, 1, none⟩ = some (.string a0_1) := (kc17 BK181.out 1).trans rfl; have hfz20_0 := kz17 BK181.out 0; have hfz20_1 := kz17 BK181.out 1) | (go_at_call 19; (with_reducible refine (watershedref04_Key.calls k a0_0 true _ A12.out).mono ?_); rintro e w' ⟨rfl, ⟨nd, rfl⟩⟩) | (go_at_call 19; (with_reducible refine (watershedref04_Key.calls k a0_1 true _ A17.out).mono ?_); rintro e w' ⟨rfl, ⟨nd, rfl⟩⟩))
     go_ret
     exact ⟨by first | rfl | (simp [errW_none, errW_some] <;> rfl) | (simp [*, errW_none, errW_some] <;> rfl), by repeat (first | (with_reducible first | exact HB.out | apply ba17 | apply bn17 | apply bd17 | refine bs17 ?_ GE181.out) | exact HB.out)⟩
    ·replace c18 := Bool.eq_false_iff.mpr c18
     subst c18
     rw [if_neg (show ¬ (false = true) by decide)] at H
     obtain rfl := Option.some.inj H
     go_enter Try.func17, Try.ntmps17
     go_wp2_with (first | ((with_reducible refine gate_dst (N:=1) rfl ?_); refine box_event ?hg (N:=1) ?hd (cs:=#[.string a0_0, .string a0_1]) (t:=26) ?hr ?_; (case hd => rfl); (case hg => rfl); (case hr => first | (go_simp; done) | (go_simp; rfl)); intro gb181 hg w21 hbox hb; have BK181 := Am17 (hbox); have GW181 := Am17 ((by rw [hg]; exact (bz17 (by repeat (first | (with_reducible first | exact HB.out | apply ba17 | apply bn17 | apply bd17) | exact HB.out))) : w.heap.size ≤ gb181)); have GE181 := Am17 ((by rw [hg]; exact (bz17 (by repeat (first | (with_reducible first | exact HB.out | apply ba17 | apply bn17 | apply bd17) | exact HB.out))) : w.heap.size ≤ gb181)); replace HB := Am17 (bp17 (by repeat (first | (with_reducible first | exact HB.out | apply ba17 | apply bn17 | apply bd17) | exact HB.out)) hb); clear hb hbox hg; have hcz22_0 : w21.cell? ⟨gb181, 0, none⟩ = some (.string a0_0) := (kc17 BK181.out 0).trans rfl; have hcz22_1 : w21.cell? ⟨gb181, 1, none⟩ = some (.string a0_1) := (kc17 BK181.out 1).trans rfl; have hfz22_0 := kz17 BK181.out 0; have hfz22_1 := kz17 BK181.out 1) | (go_at_call 19; (with_reducible refine (watershedref04_Key.calls k a0_0 true _ A12.out).mono ?_); rintro e w' ⟨rfl, ⟨nd, rfl⟩⟩) | (go_at_call 19; (with_reducible refine (watershedref04_Key.calls k a0_1 false _ A17.out).mono ?_); rintro e w' ⟨rfl, ⟨nd, rfl⟩⟩))
     go_ret
     exact ⟨by first | rfl | (simp [errW_none, errW_some] <;> rfl) | (simp [*, errW_none, errW_some] <;> rfl), by repeat (first | (with_reducible first | exact HB.out | apply ba17 | apply bn17 | apply bd17 | refine bs17 ?_ GE181.out) | exact HB.out)⟩
  ·replace c13 := Bool.eq_false_iff.mpr c13
   subst c13
   rw [if_neg (show ¬ (false = true) by decide)] at H
   obtain rfl := Option.some.inj H
   go_enter Try.func17, Try.ntmps17
   go_wp2_with (first | ((with_reducible refine gate_dst (N:=1) rfl ?_); refine box_event ?hg (N:=1) ?hd (cs:=#[.string a0_0, .string a0_1]) (t:=26) ?hr ?_; (case hd => rfl); (case hg => rfl); (case hr => first | (go_simp; done) | (go_simp; rfl)); intro gb181 hg w23 hbox hb; have BK181 := Am17 (hbox); have GW181 := Am17 ((by rw [hg]; exact (bz17 (by repeat (first | (with_reducible first | exact HB.out | apply ba17 | apply bn17 | apply bd17) | exact HB.out))) : w.heap.size ≤ gb181)); have GE181 := Am17 ((by rw [hg]; exact (bz17 (by repeat (first | (with_reducible first | exact HB.out | apply ba17 | apply bn17 | apply bd17) | exact HB.out))) : w.heap.size ≤ gb181)); replace HB := Am17 (bp17 (by repeat (first | (with_reducible first | exact HB.out | apply ba17 | apply bn17 | apply bd17) | exact HB.out)) hb); clear hb hbox hg; have hcz24_0 : w23.cell? ⟨gb181, 0, none⟩ = some (.string a0_0) := (kc17 BK181.out 0).trans rfl; have hcz24_1 : w23.cell? ⟨gb181, 1, none⟩ = some (.string a0_1) := (kc17 BK181.out 1).trans rfl; have hfz24_0 := kz17 BK181.out 0; have hfz24_1 := kz17 BK181.out 1) | (go_at_call 19; (with_reducible refine (watershedref04_Key.calls k a0_0 false _ A12.out).mono ?_); rintro e w' ⟨rfl, ⟨nd, rfl⟩⟩))
   go_ret
   exact ⟨by first | rfl | (simp [errW_none, errW_some] <;> rfl) | (simp [*, errW_none, errW_some] <;> rfl), by repeat (first | (with_reducible first | exact HB.out | apply ba17 | apply bn17 | apply bd17 | refine bs17 ?_ GE181.out) | exact HB.out)⟩

end Go.Proofs.Ytbmnhpihlkljdaa.P04e
