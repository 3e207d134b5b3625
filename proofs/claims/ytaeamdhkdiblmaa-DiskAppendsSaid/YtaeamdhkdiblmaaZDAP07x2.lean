-- Written by gprint.py, a program of this session, over the kit's print; the functions of my own contracts are marked GIVEN
import Derived.Test.YtaeamdhkdiblmaaZDAP07x0
import Derived.Test.YtaeamdhkdiblmaaZDAP07x1
namespace Go.Proofs.Ytaeamdhkdiblmaa.P07
open Go.RowKit Go.Proofs.YtaeamdhkdiblmaaW.PrintWords Go.Proofs.YtaeamdhkdiblmaaW.PrintLast Go.Proofs.YtaeamdhkdiblmaaW.PrintMore
attribute [local go_sem] max2_int min2_int max_two min_two max_three min_three max_four min_four   -- for this text's walks alone
set_option linter.unusedVariables false
set_option linter.unusedSimpArgs false

/-! ### watershedlaw07_light: function 8 -/
mutual
def watershedlaw07_light.l0 : Nat → List (S28) → Int → Int → Option (Bool)
  | 0, _, _, _ => none
  | k + 1, x0, x3, x4 => if x4 < (x0.length : Int) then (watershedlaw07_light.j1 k x0 x3 x4 (decide (x3 ≤ 20000))) else (watershedlaw07_light.j1 k x0 x3 x4 false)
def watershedlaw07_light.j1 : Nat → List (S28) → Int → Int → Bool → Option (Bool)
  | 0, _, _, _, _ => none
  | k + 1, x0, x3, x4, x17 => if x17 = true then (if 0 ≤ x4 then (if x4 < (x0.length : Int) then (watershedlaw07_light.l1 k x0 (wrap64 ((wrap64 ((wrap64 (x3 + (((rd_T28 x0 x4).f1).size : Int))) + (((rd_T28 x0 x4).f2).length : Int))) + (((rd_T28 x0 x4).f4).length : Int))) x4 0) else (none)) else (none)) else (some (decide (x3 ≤ 20000)))
def watershedlaw07_light.j3 : Nat → List (S28) → Int → Int → Option (Bool)
  | 0, _, _, _ => none
  | k + 1, x0, x3, x4 => watershedlaw07_light.l2 k x0 x3 x4 0
def watershedlaw07_light.l2 : Nat → List (S28) → Int → Int → Int → Option (Bool)
  | 0, _, _, _, _ => none
  | k + 1, x0, x3, x4, x6 => if 0 ≤ x4 then (if x4 < (x0.length : Int) then (if x6 < (((rd_T28 x0 x4).f2).length : Int) then (if x3 ≤ 20000 then (if 0 ≤ x6 then (watershedlaw07_light.l2 k x0 (wrap64 (x3 + ((rdOf ByteArray.empty ((rd_T28 x0 x4).f2) x6).size : Int))) x4 (wrap64 (x6 + 1))) else (none)) else (watershedlaw07_light.l0 k x0 x3 (wrap64 (x4 + 1)))) else (watershedlaw07_light.l0 k x0 x3 (wrap64 (x4 + 1)))) else (none)) else (none)
def watershedlaw07_light.l1 : Nat → List (S28) → Int → Int → Int → Option (Bool)
  | 0, _, _, _, _ => none
  | k + 1, x0, x3, x4, x5 => if 0 ≤ x4 then (if x4 < (x0.length : Int) then (if x5 < (((rd_T28 x0 x4).f4).length : Int) then (if x3 ≤ 20000 then (if 0 ≤ x5 then (watershedlaw07_light.l1 k x0 (wrap64 (x3 + ((rd_L1 ((rd_T28 x0 x4).f4) x5).length : Int))) x4 (wrap64 (x5 + 1))) else (none)) else (watershedlaw07_light.j3 k x0 x3 x4)) else (watershedlaw07_light.j3 k x0 x3 x4)) else (none)) else (none)
end
def watershedlaw07_light.f (k : Nat) (l0 : List (S28)) : Option (Bool) := if (l0.length : Int) > 300 then (some false) else (watershedlaw07_light.l0 k l0 0 0)
theorem watershedlaw07_light.mono_l : ∀ k, (∀ y0 y1 y2, LeO (watershedlaw07_light.l0 k y0 y1 y2) (watershedlaw07_light.l0 (k + 1) y0 y1 y2)) ∧ (∀ y0 y1 y2 y3, LeO (watershedlaw07_light.j1 k y0 y1 y2 y3) (watershedlaw07_light.j1 (k + 1) y0 y1 y2 y3)) ∧ (∀ y0 y1 y2, LeO (watershedlaw07_light.j3 k y0 y1 y2) (watershedlaw07_light.j3 (k + 1) y0 y1 y2)) ∧ (∀ y0 y1 y2 y3, LeO (watershedlaw07_light.l2 k y0 y1 y2 y3) (watershedlaw07_light.l2 (k + 1) y0 y1 y2 y3)) ∧ (∀ y0 y1 y2 y3, LeO (watershedlaw07_light.l1 k y0 y1 y2 y3) (watershedlaw07_light.l1 (k + 1) y0 y1 y2 y3))
  | 0 => ⟨fun _ _ _ r h => by simp [watershedlaw07_light.l0] at h, fun _ _ _ _ r h => by simp [watershedlaw07_light.j1] at h, fun _ _ _ r h => by simp [watershedlaw07_light.j3] at h, fun _ _ _ _ r h => by simp [watershedlaw07_light.l2] at h, fun _ _ _ _ r h => by simp [watershedlaw07_light.l1] at h⟩
  | k + 1 => by
    obtain ⟨ih0, ih1, ih2, ih3, ih4⟩ := watershedlaw07_light.mono_l k
    refine ⟨?_, ?_, ?_, ?_, ?_⟩
    · intro y0 y1 y2
      unfold watershedlaw07_light.l0
      repeat' first
      | (with_reducible exact ih0 _ _ _)
      | (with_reducible exact ih1 _ _ _ _)
      | (with_reducible exact ih2 _ _ _)
      | (with_reducible exact ih3 _ _ _ _)
      | (with_reducible exact ih4 _ _ _ _)
      | (with_reducible exact LeO.refl _)
      | (with_reducible exact LeO.none _)
      | (with_reducible refine LeO.ite ?_ ?_)
      | (with_reducible refine LeO.bind ?_ (fun _ => ?_))
      | exact ih0 _ _ _
      | exact ih1 _ _ _ _
      | exact ih2 _ _ _
      | exact ih3 _ _ _ _
      | exact ih4 _ _ _ _
      | exact LeO.none _
      | refine LeO.ite ?_ ?_
      | refine LeO.bind ?_ (fun _ => ?_)
    · intro y0 y1 y2 y3
      unfold watershedlaw07_light.j1
      repeat' first
      | (with_reducible exact ih0 _ _ _)
      | (with_reducible exact ih1 _ _ _ _)
      | (with_reducible exact ih2 _ _ _)
      | (with_reducible exact ih3 _ _ _ _)
      | (with_reducible exact ih4 _ _ _ _)
      | (with_reducible exact LeO.refl _)
      | (with_reducible exact LeO.none _)
      | (with_reducible refine LeO.ite ?_ ?_)
      | (with_reducible refine LeO.bind ?_ (fun _ => ?_))
      | exact ih0 _ _ _
      | exact ih1 _ _ _ _
      | exact ih2 _ _ _
      | exact ih3 _ _ _ _
      | exact ih4 _ _ _ _
      | exact LeO.none _
      | refine LeO.ite ?_ ?_
      | refine LeO.bind ?_ (fun _ => ?_)
    · intro y0 y1 y2
      unfold watershedlaw07_light.j3
      repeat' first
      | (with_reducible exact ih0 _ _ _)
      | (with_reducible exact ih1 _ _ _ _)
      | (with_reducible exact ih2 _ _ _)
      | (with_reducible exact ih3 _ _ _ _)
      | (with_reducible exact ih4 _ _ _ _)
      | (with_reducible exact LeO.refl _)
      | (with_reducible exact LeO.none _)
      | (with_reducible refine LeO.ite ?_ ?_)
      | (with_reducible refine LeO.bind ?_ (fun _ => ?_))
      | exact ih0 _ _ _
      | exact ih1 _ _ _ _
      | exact ih2 _ _ _
      | exact ih3 _ _ _ _
      | exact ih4 _ _ _ _
      | exact LeO.none _
      | refine LeO.ite ?_ ?_
      | refine LeO.bind ?_ (fun _ => ?_)
    · intro y0 y1 y2 y3
      unfold watershedlaw07_light.l2
      repeat' first
      | (with_reducible exact ih0 _ _ _)
      | (with_reducible exact ih1 _ _ _ _)
      | (with_reducible exact ih2 _ _ _)
      | (with_reducible exact ih3 _ _ _ _)
      | (with_reducible exact ih4 _ _ _ _)
      | (with_reducible exact LeO.refl _)
      | (with_reducible exact LeO.none _)
      | (with_reducible refine LeO.ite ?_ ?_)
      | (with_reducible refine LeO.bind ?_ (fun _ => ?_))
      | exact ih0 _ _ _
      | exact ih1 _ _ _ _
      | exact ih2 _ _ _
      | exact ih3 _ _ _ _
      | exact ih4 _ _ _ _
      | exact LeO.none _
      | refine LeO.ite ?_ ?_
      | refine LeO.bind ?_ (fun _ => ?_)
    · intro y0 y1 y2 y3
      unfold watershedlaw07_light.l1
      repeat' first
      | (with_reducible exact ih0 _ _ _)
      | (with_reducible exact ih1 _ _ _ _)
      | (with_reducible exact ih2 _ _ _)
      | (with_reducible exact ih3 _ _ _ _)
      | (with_reducible exact ih4 _ _ _ _)
      | (with_reducible exact LeO.refl _)
      | (with_reducible exact LeO.none _)
      | (with_reducible refine LeO.ite ?_ ?_)
      | (with_reducible refine LeO.bind ?_ (fun _ => ?_))
      | exact ih0 _ _ _
      | exact ih1 _ _ _ _
      | exact ih2 _ _ _
      | exact ih3 _ _ _ _
      | exact ih4 _ _ _ _
      | exact LeO.none _
      | refine LeO.ite ?_ ?_
      | refine LeO.bind ?_ (fun _ => ?_)
theorem watershedlaw07_light.mono : ∀ a0 k, LeO (watershedlaw07_light.f k a0) (watershedlaw07_light.f (k + 1) a0) := by
  intro a0 k
  obtain ⟨ih0, ih1, ih2, ih3, ih4⟩ := watershedlaw07_light.mono_l k
  unfold watershedlaw07_light.f
  repeat' first
      | (with_reducible exact ih0 _ _ _)
      | (with_reducible exact ih1 _ _ _ _)
      | (with_reducible exact ih2 _ _ _)
      | (with_reducible exact ih3 _ _ _ _)
      | (with_reducible exact ih4 _ _ _ _)
      | (with_reducible exact LeO.refl _)
      | (with_reducible exact LeO.none _)
      | (with_reducible refine LeO.ite ?_ ?_)
      | (with_reducible refine LeO.bind ?_ (fun _ => ?_))
      | exact ih0 _ _ _
      | exact ih1 _ _ _ _
      | exact ih2 _ _ _
      | exact ih3 _ _ _ _
      | exact ih4 _ _ _ _
      | exact LeO.none _
      | refine LeO.ite ?_ ?_
      | refine LeO.bind ?_ (fun _ => ?_)
set_option maxHeartbeats 8000000 in
set_option maxRecDepth 100000 in
theorem watershedlaw07_light.calls (k : Nat) (A0 : Option Addr) (c0 : Nat) (l0 : List (S28)) (r : Bool) (w : World) (hr0 : Kd.C k28 w A0 l0.length l0) (hc0 : l0.length ≤ c0) (h : watershedlaw07_light.f k l0 = some r) :
    Calls Try.prog 8 #[.slice A0 l0.length c0] w fun e w' => e = .returned (.bool r) ∧ Drawn0 w w' := by
  have HR0 := Aside0.mk hr0
  have HC0 := Aside0.mk hc0
  clear hr0 hc0
  have H : (if (l0.length : Int) > 300 then (some false) else (watershedlaw07_light.l0 k l0 0 0)) = some r := h
  clear h
  by_cases c2 : (l0.length : Int) > 300
  · rw [if_pos c2] at H
    have c2b0 : decide (300 < (l0.length : Int)) = true := decide_eq_true c2
    have c2b1 : decide (300 < l0.length) = true := decide_eq_true (by omega)
    clear c2
    obtain rfl := Option.some.inj H
    go_enter Try.func8, Try.ntmps8
    go_wp2
    repeat (go_quiet (fail); try go_wp2)
    go_ret
    exact ⟨by first | rfl | (simp; done) | (simp [*]; done), by repeat (first | exact Drawn0.refl _ | apply Drawn0.step)⟩
  · rw [if_neg c2] at H
    have c2b0 : decide (300 < (l0.length : Int)) = false := decide_eq_false c2
    have c2b1 : decide (300 < l0.length) = false := decide_eq_false (by omega)
    clear c2
    have H' := Aside0.mk H
    clear H
    go_enter Try.func8, Try.ntmps8
    go_wp2
    repeat (go_quiet (fail); try go_wp2)
    go_loopg [3, 4] k (fun kq v3 v4 w' => ∃ (x3_1 : Int) (x4_1 : Int), v3 = .int .i64 x3_1 ∧ v4 = .int .i64 x4_1 ∧ Aside0 (watershedlaw07_light.l0 kq l0 x3_1 x4_1 = some r) ∧ Aside0 (kq ≤ k) ∧ Drawn0 w w')
    case atStart => exact ⟨(0), (0), (by first | rfl | (simp; done) | (simp [*]; done)), (by first | rfl | (simp; done) | (simp [*]; done)), H', ⟨Nat.le_refl _⟩, by repeat (first | exact Drawn0.refl _ | apply Drawn0.step)⟩
    case round =>
      clear H'
      try clear c2
      try clear c2b0
      try clear c2b1
      try clear p2
      obtain ⟨x3_1, x4_1, rfl, rfl, HA, HK1, ⟨m1, rfl⟩⟩ := hrel
      cases gk with
      | zero => exact absurd HA.out (by simp [watershedlaw07_light.l0])
      | succ k1 =>
        have H := HA.out
        clear HA
        simp only [watershedlaw07_light.l0] at H
        have HC3 := Aside0.mk H
        clear H
        go_upto_region 5 with (fail)
        repeat (go_quiet (fail); go_upto_region 5 with (fail))
        go_cut [17] (fun v17 wc => ∃ (kq : Nat) (x17_2 : Bool), v17 = .bool x17_2 ∧ Aside0 (watershedlaw07_light.j1 kq l0 x3_1 x4_1 x17_2 = some r) ∧ Aside0 (kq ≤ k1) ∧ Drawn0 w wc)
        case first =>
          have H := HC3.out
          clear HC3
          by_cases c4 : x4_1 < (l0.length : Int)
          · rw [if_pos c4] at H
            have c4b0 : decide (x4_1 < (l0.length : Int)) = true := decide_eq_true c4
            clear c4
            (first | rw [c4b0] | (simp only [i64_w, i32_w]; rw [c4b0]) | skip)
            have H' := Aside0.mk H
            clear H
            go_wp2
            repeat (go_quiet (fail); try go_wp2)
            go_meet
            case rel => exact ⟨_, (decide (x3_1 ≤ 20000)), (by first | rfl | (simp; done) | (simp [*]; done)), H', ⟨by have := HK1.out; first | omega | exact Nat.le_refl _⟩, by repeat (first | exact Drawn0.refl _ | apply Drawn0.step)⟩
          · rw [if_neg c4] at H
            have c4b0 : decide (x4_1 < (l0.length : Int)) = false := decide_eq_false c4
            clear c4
            (first | rw [c4b0] | (simp only [i64_w, i32_w]; rw [c4b0]) | skip)
            have H' := Aside0.mk H
            clear H
            go_wp2
            repeat (go_quiet (fail); try go_wp2)
            go_meet
            case rel => exact ⟨_, (false), (by first | rfl | (simp; done) | (simp [*]; done)), H', ⟨by have := HK1.out; first | omega | exact Nat.le_refl _⟩, by repeat (first | exact Drawn0.refl _ | apply Drawn0.step)⟩
        case rest =>
          clear HC3
          try clear c2
          try clear c2b0
          try clear c2b1
          try clear p2
          try clear c4
          try clear c4b0
          try clear p2
          obtain ⟨kq, x17_2, rfl, HA, HJ2, ⟨mc2, rfl⟩⟩ := hcut
          cases kq with
          | zero => exact absurd HA.out (by simp [watershedlaw07_light.j1])
          | succ kj2 =>
            have H := HA.out
            clear HA
            simp only [watershedlaw07_light.j1] at H
            by_cases c5 : x17_2 = true
            · subst c5
              have H1 : (if 0 ≤ x4_1 then (if x4_1 < (l0.length : Int) then (watershedlaw07_light.l1 kj2 l0 (wrap64 ((wrap64 ((wrap64 (x3_1 + (((rd_T28 l0 x4_1).f1).size : Int))) + (((rd_T28 l0 x4_1).f2).length : Int))) + (((rd_T28 l0 x4_1).f4).length : Int))) x4_1 0) else (none)) else (none)) = some r := by rw [if_pos rfl] at H; exact H
              clear H
              have H := H1
              clear H1
              by_cases c6 : 0 ≤ x4_1
              · rw [if_pos c6] at H
                have c6b0 : decide (0 ≤ x4_1) = true := decide_eq_true c6
                clear c6
                by_cases c7 : x4_1 < (l0.length : Int)
                · rw [if_pos c7] at H
                  have c7b0 : decide (x4_1 < (l0.length : Int)) = true := decide_eq_true c7
                  clear c7
                  have HC8 := Aside0.mk H
                  clear H
                  have p104 : 0 ≤ (x4_1 : Int) := of_decide_eq_true (by first | (with_reducible assumption) | assumption)
                  have q104 : x4_1 < (l0.length : Int) := of_decide_eq_true (by first | (with_reducible assumption) | assumption)
                  obtain ⟨ad104, A104_2, c104_2, A104_4, c104_4, e104, hx104_0, hx104_1, hx104_2, hx104_3, hx104_4, hl104_2, hi104_2, hl104_4, hi104_4⟩ := at_T28 HR0.out x4_1 p104 q104
                  cases e104
                  have HR104_2 := Aside0.mk hi104_2
                  have HC104_2 := Aside0.mk hl104_2
                  clear hi104_2 hl104_2
                  have HR104_4 := Aside0.mk hi104_4
                  have HC104_4 := Aside0.mk hl104_4
                  clear hi104_4 hl104_4
                  replace p104 := eq_true p104
                  replace q104 := eq_true q104
                  have p105 : 0 ≤ (x4_1 : Int) := of_decide_eq_true (by first | (with_reducible assumption) | assumption)
                  have q105 : x4_1 < (l0.length : Int) := of_decide_eq_true (by first | (with_reducible assumption) | assumption)
                  obtain ⟨ad105, A105_2, c105_2, A105_4, c105_4, e105, hx105_0, hx105_1, hx105_2, hx105_3, hx105_4, hl105_2, hi105_2, hl105_4, hi105_4⟩ := at_T28 HR0.out x4_1 p105 q105
                  obtain rfl : ad104 = ad105 := (by injection e105)
                  have HR105_2 := Aside0.mk hi105_2
                  have HC105_2 := Aside0.mk hl105_2
                  clear hi105_2 hl105_2
                  have HR105_4 := Aside0.mk hi105_4
                  have HC105_4 := Aside0.mk hl105_4
                  clear hi105_4 hl105_4
                  replace p105 := eq_true p105
                  replace q105 := eq_true q105
                  have ea_ := Option.some.inj (hx104_2.symm.trans hx105_2)
                  injection ea_ with ea_ en_ ec_
                  subst ea_
                  subst ec_
                  clear en_
                  have ea_ := Option.some.inj (hx104_4.symm.trans hx105_4)
                  injection ea_ with ea_ en_ ec_
                  subst ea_
                  subst ec_
                  clear en_
                  have p106 : 0 ≤ (x4_1 : Int) := of_decide_eq_true (by first | (with_reducible assumption) | assumption)
                  have q106 : x4_1 < (l0.length : Int) := of_decide_eq_true (by first | (with_reducible assumption) | assumption)
                  obtain ⟨ad106, A106_2, c106_2, A106_4, c106_4, e106, hx106_0, hx106_1, hx106_2, hx106_3, hx106_4, hl106_2, hi106_2, hl106_4, hi106_4⟩ := at_T28 HR0.out x4_1 p106 q106
                  obtain rfl : ad104 = ad106 := (by injection e106)
                  have HR106_2 := Aside0.mk hi106_2
                  have HC106_2 := Aside0.mk hl106_2
                  clear hi106_2 hl106_2
                  have HR106_4 := Aside0.mk hi106_4
                  have HC106_4 := Aside0.mk hl106_4
                  clear hi106_4 hl106_4
                  replace p106 := eq_true p106
                  replace q106 := eq_true q106
                  have ea_ := Option.some.inj (hx104_2.symm.trans hx106_2)
                  injection ea_ with ea_ en_ ec_
                  subst ea_
                  subst ec_
                  clear en_
                  have ea_ := Option.some.inj (hx104_4.symm.trans hx106_4)
                  injection ea_ with ea_ en_ ec_
                  subst ea_
                  subst ec_
                  clear en_
                  go_upto_block 2 with (fail)
                  repeat (go_quiet (fail); go_upto_block 2 with (fail))
                  go_cut [3] (fun v3 wc => ∃ (kq : Nat) (x3_7 : Int), v3 = .int .i64 x3_7 ∧ Aside0 (watershedlaw07_light.j3 kq l0 x3_7 x4_1 = some r) ∧ Aside0 (kq ≤ kj2) ∧ Drawn0 w wc)
                  case first =>
                    have H := HC8.out
                    clear HC8
                    have H' := Aside0.mk H
                    clear H
                    go_wp2
                    repeat (go_quiet (fail); try go_wp2)
                    go_loopg [3, 5] kj2 (fun kq v3 v5 w' => ∃ (x3_3 : Int) (x5_3 : Int), v3 = .int .i64 x3_3 ∧ v5 = .int .i64 x5_3 ∧ Aside0 (watershedlaw07_light.l1 kq l0 x3_3 x4_1 x5_3 = some r) ∧ Aside0 (kq ≤ kj2) ∧ Drawn0 w w')
                    case atStart => exact ⟨(wrap64 ((wrap64 ((wrap64 (x3_1 + (((rd_T28 l0 x4_1).f1).size : Int))) + (((rd_T28 l0 x4_1).f2).length : Int))) + (((rd_T28 l0 x4_1).f4).length : Int))), (0), (by first | rfl | (simp; done) | (simp [*]; done)), (by first | rfl | (simp; done) | (simp [*]; done)), H', ⟨Nat.le_refl _⟩, by repeat (first | exact Drawn0.refl _ | apply Drawn0.step)⟩
                    case round =>
                      clear H'
                      try clear c1
                      try clear p1
                      try clear q1
                      try clear hx1
                      try clear c2
                      try clear c2b0
                      try clear c2b1
                      try clear p2
                      try clear c4
                      try clear c4b0
                      try clear c5
                      try clear c6
                      try clear c6b0
                      try clear p6
                      try clear c7
                      try clear c7b0
                      try clear c8
                      try clear hx104_0
                      try clear hx104_1
                      try clear hx104_2
                      try clear hx104_3
                      try clear hx104_4
                      try clear hx105_0
                      try clear hx105_1
                      try clear hx105_2
                      try clear hx105_3
                      try clear hx105_4
                      try clear hx106_0
                      try clear hx106_1
                      try clear hx106_2
                      try clear hx106_3
                      try clear hx106_4
                      try clear p104
                      try clear p105
                      try clear p106
                      try clear p2
                      try clear q104
                      try clear q105
                      try clear q106
                      obtain ⟨x3_3, x5_3, rfl, rfl, HA, HK3, ⟨m3, rfl⟩⟩ := hrel
                      cases gk with
                      | zero => exact absurd HA.out (by simp [watershedlaw07_light.l1])
                      | succ k3 =>
                        have H := HA.out
                        clear HA
                        simp only [watershedlaw07_light.l1] at H
                        by_cases c9 : 0 ≤ x4_1
                        · rw [if_pos c9] at H
                          have c9b0 : decide (0 ≤ x4_1) = true := decide_eq_true c9
                          clear c9
                          (first | rw [c9b0] | (simp only [i64_w, i32_w]; rw [c9b0]) | skip)
                          by_cases c10 : x4_1 < (l0.length : Int)
                          · rw [if_pos c10] at H
                            have c10b0 : decide (x4_1 < (l0.length : Int)) = true := decide_eq_true c10
                            clear c10
                            by_cases c11 : x5_3 < (((rd_T28 l0 x4_1).f4).length : Int)
                            · rw [if_pos c11] at H
                              have c11b0 : decide (x5_3 < (((rd_T28 l0 x4_1).f4).length : Int)) = true := decide_eq_true c11
                              clear c11
                              by_cases c12 : x3_3 ≤ 20000
                              · rw [if_pos c12] at H
                                have c12b0 : decide (x3_3 ≤ 20000) = true := decide_eq_true c12
                                clear c12
                                by_cases c13 : 0 ≤ x5_3
                                · rw [if_pos c13] at H
                                  have c13b0 : decide (0 ≤ x5_3) = true := decide_eq_true c13
                                  clear c13
                                  have H' := Aside0.mk H
                                  clear H
                                  have p107 : 0 ≤ (x4_1 : Int) := of_decide_eq_true (by first | (with_reducible assumption) | assumption)
                                  have q107 : x4_1 < (l0.length : Int) := of_decide_eq_true (by first | (with_reducible assumption) | assumption)
                                  obtain ⟨ad107, A107_2, c107_2, A107_4, c107_4, e107, hx107_0, hx107_1, hx107_2, hx107_3, hx107_4, hl107_2, hi107_2, hl107_4, hi107_4⟩ := at_T28 HR0.out x4_1 p107 q107
                                  obtain rfl : ad104 = ad107 := (by injection e107)
                                  have HR107_2 := Aside0.mk hi107_2
                                  have HC107_2 := Aside0.mk hl107_2
                                  clear hi107_2 hl107_2
                                  have HR107_4 := Aside0.mk hi107_4
                                  have HC107_4 := Aside0.mk hl107_4
                                  clear hi107_4 hl107_4
                                  replace p107 := eq_true p107
                                  replace q107 := eq_true q107
                                  have p108 : 0 ≤ (x4_1 : Int) := of_decide_eq_true (by first | (with_reducible assumption) | assumption)
                                  have q108 : x4_1 < (l0.length : Int) := of_decide_eq_true (by first | (with_reducible assumption) | assumption)
                                  obtain ⟨ad108, A108_2, c108_2, A108_4, c108_4, e108, hx108_0, hx108_1, hx108_2, hx108_3, hx108_4, hl108_2, hi108_2, hl108_4, hi108_4⟩ := at_T28 HR0.out x4_1 p108 q108
                                  obtain rfl : ad104 = ad108 := (by injection e108)
                                  have HR108_2 := Aside0.mk hi108_2
                                  have HC108_2 := Aside0.mk hl108_2
                                  clear hi108_2 hl108_2
                                  have HR108_4 := Aside0.mk hi108_4
                                  have HC108_4 := Aside0.mk hl108_4
                                  clear hi108_4 hl108_4
                                  replace p108 := eq_true p108
                                  replace q108 := eq_true q108
                                  have ea_ := Option.some.inj (hx107_2.symm.trans hx108_2)
                                  injection ea_ with ea_ en_ ec_
                                  subst ea_
                                  subst ec_
                                  clear en_
                                  have ea_ := Option.some.inj (hx107_4.symm.trans hx108_4)
                                  injection ea_ with ea_ en_ ec_
                                  subst ea_
                                  subst ec_
                                  clear en_
                                  have p109 : 0 ≤ (x5_3 : Int) := of_decide_eq_true (by first | (with_reducible assumption) | assumption)
                                  have q109 : x5_3 < (((rd_T28 l0 x4_1).f4).length : Int) := of_decide_eq_true (by first | (with_reducible assumption) | assumption)
                                  obtain ⟨ad109, A109_0, c109_0, e109, hx109_0, hl109_0, hi109_0⟩ := at_L1 HR108_4.out x5_3 p109 q109
                                  cases e109
                                  have HR109_0 := Aside0.mk hi109_0
                                  have HC109_0 := Aside0.mk hl109_0
                                  clear hi109_0 hl109_0
                                  replace p109 := eq_true p109
                                  replace q109 := eq_true q109
                                  go_wp2
                                  repeat (go_quiet (fail); try go_wp2)
                                  go_roundg k3
                                  case measure => have := HK1.out; have := HJ2.out; have := HK3.out; omega
                                  case rel => exact ⟨(wrap64 (x3_3 + ((rd_L1 ((rd_T28 l0 x4_1).f4) x5_3).length : Int))), (wrap64 (x5_3 + 1)), (by first | rfl | (simp; done) | (simp [*]; done)), (by first | rfl | (simp; done) | (simp [*]; done)), H', ⟨by have := HK1.out; have := HJ2.out; have := HK3.out; omega⟩, by repeat (first | exact Drawn0.refl _ | apply Drawn0.step)⟩
                                · rw [if_neg c13] at H
                                  exact absurd H (by simp)
                              · rw [if_neg c12] at H
                                have c12b0 : decide (x3_3 ≤ 20000) = false := decide_eq_false c12
                                clear c12
                                have H' := Aside0.mk H
                                clear H
                                have p107 : 0 ≤ (x4_1 : Int) := of_decide_eq_true (by first | (with_reducible assumption) | assumption)
                                have q107 : x4_1 < (l0.length : Int) := of_decide_eq_true (by first | (with_reducible assumption) | assumption)
                                obtain ⟨ad107, A107_2, c107_2, A107_4, c107_4, e107, hx107_0, hx107_1, hx107_2, hx107_3, hx107_4, hl107_2, hi107_2, hl107_4, hi107_4⟩ := at_T28 HR0.out x4_1 p107 q107
                                obtain rfl : ad104 = ad107 := (by injection e107)
                                have HR107_2 := Aside0.mk hi107_2
                                have HC107_2 := Aside0.mk hl107_2
                                clear hi107_2 hl107_2
                                have HR107_4 := Aside0.mk hi107_4
                                have HC107_4 := Aside0.mk hl107_4
                                clear hi107_4 hl107_4
                                replace p107 := eq_true p107
                                replace q107 := eq_true q107
                                go_wp2
                                repeat (go_quiet (fail); try go_wp2)
                                go_meet
                                case rel => exact ⟨_, (x3_3), (by first | rfl | (simp; done) | (simp [*]; done)), H', ⟨by have := HK1.out; have := HJ2.out; have := HK3.out; first | omega | exact Nat.le_refl _⟩, by repeat (first | exact Drawn0.refl _ | apply Drawn0.step)⟩
                            · rw [if_neg c11] at H
                              have c11b0 : decide (x5_3 < (((rd_T28 l0 x4_1).f4).length : Int)) = false := decide_eq_false c11
                              clear c11
                              have H' := Aside0.mk H
                              clear H
                              have p107 : 0 ≤ (x4_1 : Int) := of_decide_eq_true (by first | (with_reducible assumption) | assumption)
                              have q107 : x4_1 < (l0.length : Int) := of_decide_eq_true (by first | (with_reducible assumption) | assumption)
                              obtain ⟨ad107, A107_2, c107_2, A107_4, c107_4, e107, hx107_0, hx107_1, hx107_2, hx107_3, hx107_4, hl107_2, hi107_2, hl107_4, hi107_4⟩ := at_T28 HR0.out x4_1 p107 q107
                              obtain rfl : ad104 = ad107 := (by injection e107)
                              have HR107_2 := Aside0.mk hi107_2
                              have HC107_2 := Aside0.mk hl107_2
                              clear hi107_2 hl107_2
                              have HR107_4 := Aside0.mk hi107_4
                              have HC107_4 := Aside0.mk hl107_4
                              clear hi107_4 hl107_4
                              replace p107 := eq_true p107
                              replace q107 := eq_true q107
                              go_wp2
                              repeat (go_quiet (fail); try go_wp2)
                              go_meet
                              case rel => exact ⟨_, (x3_3), (by first | rfl | (simp; done) | (simp [*]; done)), H', ⟨by have := HK1.out; have := HJ2.out; have := HK3.out; first | omega | exact Nat.le_refl _⟩, by repeat (first | exact Drawn0.refl _ | apply Drawn0.step)⟩
                          · rw [if_neg c10] at H
                            exact absurd H (by simp)
                        · rw [if_neg c9] at H
                          exact absurd H (by simp)
                  case rest =>
                    clear HC8
                    try clear c1
                    try clear p1
                    try clear q1
                    try clear hx1
                    try clear c2
                    try clear c2b0
                    try clear c2b1
                    try clear p2
                    try clear c4
                    try clear c4b0
                    try clear c5
                    try clear c6
                    try clear c6b0
                    try clear p6
                    try clear c7
                    try clear c7b0
                    try clear c8
                    try clear c9
                    try clear c9b0
                    try clear c10
                    try clear c10b0
                    try clear p10
                    try clear q10
                    try clear hx10
                    try clear c11
                    try clear c11b0
                    try clear c12
                    try clear c12b0
                    try clear c13
                    try clear c13b0
                    try clear hx104_0
                    try clear hx104_1
                    try clear hx104_2
                    try clear hx104_3
                    try clear hx104_4
                    try clear hx105_0
                    try clear hx105_1
                    try clear hx105_2
                    try clear hx105_3
                    try clear hx105_4
                    try clear hx106_0
                    try clear hx106_1
                    try clear hx106_2
                    try clear hx106_3
                    try clear hx106_4
                    try clear hx107_0
                    try clear hx107_1
                    try clear hx107_2
                    try clear hx107_3
                    try clear hx107_4
                    try clear hx108_0
                    try clear hx108_1
                    try clear hx108_2
                    try clear hx108_3
                    try clear hx108_4
                    try clear hx109_0
                    try clear p1
                    try clear p104
                    try clear p105
                    try clear p106
                    try clear p107
                    try clear p108
                    try clear p109
                    try clear p2
                    try clear p6
                    try clear q1
                    try clear q104
                    try clear q105
                    try clear q106
                    try clear q107
                    try clear q108
                    try clear q109
                    obtain ⟨kq, x3_7, rfl, HA, HJ7, ⟨mc7, rfl⟩⟩ := hcut
                    cases kq with
                    | zero => exact absurd HA.out (by simp [watershedlaw07_light.j3])
                    | succ kj7 =>
                      have H := HA.out
                      clear HA
                      simp only [watershedlaw07_light.j3] at H
                      have H' := Aside0.mk H
                      clear H
                      go_wp2
                      repeat (go_quiet (fail); try go_wp2)
                      go_loopg [3, 6] kj7 (fun kq v3 v6 w' => ∃ (x3_4 : Int) (x6_4 : Int), v3 = .int .i64 x3_4 ∧ v6 = .int .i64 x6_4 ∧ Aside0 (watershedlaw07_light.l2 kq l0 x3_4 x4_1 x6_4 = some r) ∧ Aside0 (kq ≤ kj7) ∧ Drawn0 w w')
                      case atStart => exact ⟨(x3_7), (0), (by first | rfl | (simp; done) | (simp [*]; done)), (by first | rfl | (simp; done) | (simp [*]; done)), H', ⟨Nat.le_refl _⟩, by repeat (first | exact Drawn0.refl _ | apply Drawn0.step)⟩
                      case round =>
                        clear H'
                        try clear c1
                        try clear p1
                        try clear q1
                        try clear hx1
                        try clear c2
                        try clear c2b0
                        try clear c2b1
                        try clear p2
                        try clear c4
                        try clear c4b0
                        try clear c5
                        try clear c6
                        try clear c6b0
                        try clear p6
                        try clear c7
                        try clear c7b0
                        try clear c8
                        try clear c9
                        try clear c9b0
                        try clear c10
                        try clear c10b0
                        try clear p10
                        try clear q10
                        try clear hx10
                        try clear c11
                        try clear c11b0
                        try clear c12
                        try clear c12b0
                        try clear c13
                        try clear c13b0
                        try clear hx104_0
                        try clear hx104_1
                        try clear hx104_2
                        try clear hx104_3
                        try clear hx104_4
                        try clear hx105_0
                        try clear hx105_1
                        try clear hx105_2
                        try clear hx105_3
                        try clear hx105_4
                        try clear hx106_0
                        try clear hx106_1
                        try clear hx106_2
                        try clear hx106_3
                        try clear hx106_4
                        try clear hx107_0
                        try clear hx107_1
                        try clear hx107_2
                        try clear hx107_3
                        try clear hx107_4
                        try clear hx108_0
                        try clear hx108_1
                        try clear hx108_2
                        try clear hx108_3
                        try clear hx108_4
                        try clear hx109_0
                        try clear p1
                        try clear p10
                        try clear p104
                        try clear p105
                        try clear p106
                        try clear p107
                        try clear p108
                        try clear p109
                        try clear p2
                        try clear p6
                        try clear q1
                        try clear q10
                        try clear q104
                        try clear q105
                        try clear q106
                        try clear q107
                        try clear q108
                        try clear q109
                        obtain ⟨x3_4, x6_4, rfl, rfl, HA, HK4, ⟨m4, rfl⟩⟩ := hrel
                        cases gk with
                        | zero => exact absurd HA.out (by simp [watershedlaw07_light.l2])
                        | succ k4 =>
                          have H := HA.out
                          clear HA
                          simp only [watershedlaw07_light.l2] at H
                          by_cases c14 : 0 ≤ x4_1
                          · rw [if_pos c14] at H
                            have c14b0 : decide (0 ≤ x4_1) = true := decide_eq_true c14
                            clear c14
                            by_cases c15 : x4_1 < (l0.length : Int)
                            · rw [if_pos c15] at H
                              have c15b0 : decide (x4_1 < (l0.length : Int)) = true := decide_eq_true c15
                              clear c15
                              by_cases c16 : x6_4 < (((rd_T28 l0 x4_1).f2).length : Int)
                              · rw [if_pos c16] at H
                                have c16b0 : decide (x6_4 < (((rd_T28 l0 x4_1).f2).length : Int)) = true := decide_eq_true c16
                                clear c16
                                by_cases c17 : x3_4 ≤ 20000
                                · rw [if_pos c17] at H
                                  have c17b0 : decide (x3_4 ≤ 20000) = true := decide_eq_true c17
                                  clear c17
                                  by_cases c18 : 0 ≤ x6_4
                                  · rw [if_pos c18] at H
                                    have c18b0 : decide (0 ≤ x6_4) = true := decide_eq_true c18
                                    clear c18
                                    have H' := Aside0.mk H
                                    clear H
                                    have p110 : 0 ≤ (x4_1 : Int) := of_decide_eq_true (by first | (with_reducible assumption) | assumption)
                                    have q110 : x4_1 < (l0.length : Int) := of_decide_eq_true (by first | (with_reducible assumption) | assumption)
                                    obtain ⟨ad110, A110_2, c110_2, A110_4, c110_4, e110, hx110_0, hx110_1, hx110_2, hx110_3, hx110_4, hl110_2, hi110_2, hl110_4, hi110_4⟩ := at_T28 HR0.out x4_1 p110 q110
                                    obtain rfl : ad104 = ad110 := (by injection e110)
                                    have HR110_2 := Aside0.mk hi110_2
                                    have HC110_2 := Aside0.mk hl110_2
                                    clear hi110_2 hl110_2
                                    have HR110_4 := Aside0.mk hi110_4
                                    have HC110_4 := Aside0.mk hl110_4
                                    clear hi110_4 hl110_4
                                    replace p110 := eq_true p110
                                    replace q110 := eq_true q110
                                    have p111 : 0 ≤ (x4_1 : Int) := of_decide_eq_true (by first | (with_reducible assumption) | assumption)
                                    have q111 : x4_1 < (l0.length : Int) := of_decide_eq_true (by first | (with_reducible assumption) | assumption)
                                    obtain ⟨ad111, A111_2, c111_2, A111_4, c111_4, e111, hx111_0, hx111_1, hx111_2, hx111_3, hx111_4, hl111_2, hi111_2, hl111_4, hi111_4⟩ := at_T28 HR0.out x4_1 p111 q111
                                    obtain rfl : ad104 = ad111 := (by injection e111)
                                    have HR111_2 := Aside0.mk hi111_2
                                    have HC111_2 := Aside0.mk hl111_2
                                    clear hi111_2 hl111_2
                                    have HR111_4 := Aside0.mk hi111_4
                                    have HC111_4 := Aside0.mk hl111_4
                                    clear hi111_4 hl111_4
                                    replace p111 := eq_true p111
                                    replace q111 := eq_true q111
                                    have ea_ := Option.some.inj (hx110_2.symm.trans hx111_2)
                                    injection ea_ with ea_ en_ ec_
                                    subst ea_
                                    subst ec_
                                    clear en_
                                    have ea_ := Option.some.inj (hx110_4.symm.trans hx111_4)
                                    injection ea_ with ea_ en_ ec_
                                    subst ea_
                                    subst ec_
                                    clear en_
                                    have p112 : 0 ≤ (x6_4 : Int) := of_decide_eq_true (by first | (with_reducible assumption) | assumption)
                                    have q112 : x6_4 < (((rd_T28 l0 x4_1).f2).length : Int) := of_decide_eq_true (by first | (with_reducible assumption) | assumption)
                                    obtain ⟨ad112, e112, hx112_0⟩ := Kd.at_string HR111_2.out x6_4 p112 q112
                                    cases e112
                                    replace p112 := eq_true p112
                                    replace q112 := eq_true q112
                                    go_wp2
                                    repeat (go_quiet (fail); try go_wp2)
                                    go_roundg k4
                                    case measure => have := HK1.out; have := HJ2.out; have := HJ7.out; have := HK4.out; omega
                                    case rel => exact ⟨(wrap64 (x3_4 + ((rdOf ByteArray.empty ((rd_T28 l0 x4_1).f2) x6_4).size : Int))), (wrap64 (x6_4 + 1)), (by first | rfl | (simp; done) | (simp [*]; done)), (by first | rfl | (simp; done) | (simp [*]; done)), H', ⟨by have := HK1.out; have := HJ2.out; have := HJ7.out; have := HK4.out; omega⟩, by repeat (first | exact Drawn0.refl _ | apply Drawn0.step)⟩
                                  · rw [if_neg c18] at H
                                    exact absurd H (by simp)
                                · rw [if_neg c17] at H
                                  have c17b0 : decide (x3_4 ≤ 20000) = false := decide_eq_false c17
                                  clear c17
                                  have H' := Aside0.mk H
                                  clear H
                                  have p110 : 0 ≤ (x4_1 : Int) := of_decide_eq_true (by first | (with_reducible assumption) | assumption)
                                  have q110 : x4_1 < (l0.length : Int) := of_decide_eq_true (by first | (with_reducible assumption) | assumption)
                                  obtain ⟨ad110, A110_2, c110_2, A110_4, c110_4, e110, hx110_0, hx110_1, hx110_2, hx110_3, hx110_4, hl110_2, hi110_2, hl110_4, hi110_4⟩ := at_T28 HR0.out x4_1 p110 q110
                                  obtain rfl : ad104 = ad110 := (by injection e110)
                                  have HR110_2 := Aside0.mk hi110_2
                                  have HC110_2 := Aside0.mk hl110_2
                                  clear hi110_2 hl110_2
                                  have HR110_4 := Aside0.mk hi110_4
                                  have HC110_4 := Aside0.mk hl110_4
                                  clear hi110_4 hl110_4
                                  replace p110 := eq_true p110
                                  replace q110 := eq_true q110
                                  go_wp2
                                  repeat (go_quiet (fail); try go_wp2)
                                  go_roundg k4
                                  case measure => have := HK1.out; have := HJ2.out; have := HJ7.out; have := HK4.out; omega
                                  case rel => exact ⟨(x3_4), (wrap64 (x4_1 + 1)), (by first | rfl | (simp; done) | (simp [*]; done)), (by first | rfl | (simp; done) | (simp [*]; done)), H', ⟨by have := HK1.out; have := HJ2.out; have := HJ7.out; have := HK4.out; omega⟩, by repeat (first | exact Drawn0.refl _ | apply Drawn0.step)⟩
                              · rw [if_neg c16] at H
                                have c16b0 : decide (x6_4 < (((rd_T28 l0 x4_1).f2).length : Int)) = false := decide_eq_false c16
                                clear c16
                                have H' := Aside0.mk H
                                clear H
                                have p110 : 0 ≤ (x4_1 : Int) := of_decide_eq_true (by first | (with_reducible assumption) | assumption)
                                have q110 : x4_1 < (l0.length : Int) := of_decide_eq_true (by first | (with_reducible assumption) | assumption)
                                obtain ⟨ad110, A110_2, c110_2, A110_4, c110_4, e110, hx110_0, hx110_1, hx110_2, hx110_3, hx110_4, hl110_2, hi110_2, hl110_4, hi110_4⟩ := at_T28 HR0.out x4_1 p110 q110
                                obtain rfl : ad104 = ad110 := (by injection e110)
                                have HR110_2 := Aside0.mk hi110_2
                                have HC110_2 := Aside0.mk hl110_2
                                clear hi110_2 hl110_2
                                have HR110_4 := Aside0.mk hi110_4
                                have HC110_4 := Aside0.mk hl110_4
                                clear hi110_4 hl110_4
                                replace p110 := eq_true p110
                                replace q110 := eq_true q110
                                go_wp2
                                repeat (go_quiet (fail); try go_wp2)
                                go_roundg k4
                                case measure => have := HK1.out; have := HJ2.out; have := HJ7.out; have := HK4.out; omega
                                case rel => exact ⟨(x3_4), (wrap64 (x4_1 + 1)), (by first | rfl | (simp; done) | (simp [*]; done)), (by first | rfl | (simp; done) | (simp [*]; done)), H', ⟨by have := HK1.out; have := HJ2.out; have := HJ7.out; have := HK4.out; omega⟩, by repeat (first | exact Drawn0.refl _ | apply Drawn0.step)⟩
                            · rw [if_neg c15] at H
                              exact absurd H (by simp)
                          · rw [if_neg c14] at H
                            exact absurd H (by simp)
                · rw [if_neg c7] at H
                  exact absurd H (by simp)
              · rw [if_neg c6] at H
                exact absurd H (by simp)
            · replace c5 := Bool.eq_false_iff.mpr c5
              subst c5
              have H1 : (some (decide (x3_1 ≤ 20000))) = some r := by rw [if_neg (show ¬ (false = true) by decide)] at H; exact H
              clear H
              have H := H1
              clear H1
              obtain rfl := Option.some.inj H
              go_wp2
              repeat (go_quiet (fail); try go_wp2)
              go_ret
              exact ⟨by first | rfl | (simp; done) | (simp [*]; done), by repeat (first | exact Drawn0.refl _ | apply Drawn0.step)⟩

-- NOT PRINTED: function 38 (disk_Disk_each)

-- NOT PRINTED: function 11 (disk_Disk_Sync)

/-! ### watershedlaw07_begins: function 16 -/
end Go.Proofs.Ytaeamdhkdiblmaa.P07
