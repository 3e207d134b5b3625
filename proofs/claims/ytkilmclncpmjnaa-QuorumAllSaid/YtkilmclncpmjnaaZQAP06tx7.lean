-- Written by gprint.py, a program of this session, over the kit's print; the functions of my own contracts are marked GIVEN
import Derived.Test.YtkilmclncpmjnaaZQAP06tx0
import Derived.Test.YtkilmclncpmjnaaZQAP06tx4
import Derived.Test.YtkilmclncpmjnaaZQAP06tx6
namespace Go.Proofs.Ytkilmclncpmjnaa.P06t
open Go.RowKit Go.Proofs.YtkilmclncpmjnaaW.PrintWords Go.Proofs.YtkilmclncpmjnaaW.PrintLast Go.Proofs.YtkilmclncpmjnaaW.PrintMore
attribute [local go_sem] max2_int min2_int max_two min_two max_three min_three max_four min_four   -- for this text's walks alone
set_option linter.unusedVariables false
set_option linter.unusedSimpArgs false

abbrev bb23 (n m : Nat) : Array Bool := ((List.range n).map fun i => m.testBit i).toArray
theorem Am23 : type_of% @Aside0.mk := @Aside0.mk
theorem ba23 : type_of% @below_alloc := @below_alloc
theorem bn23 : type_of% @pw_below_drewN := @pw_below_drewN
theorem bd23 : type_of% @below_drew1 := @below_drew1
theorem bs23 : type_of% @below_set := @below_set
theorem kn23 : type_of% @blk_drewN := @blk_drewN
theorem kd23 : type_of% @blk_drew := @blk_drew
theorem ka23 : type_of% @blk_alloc := @blk_alloc
theorem kb23 : type_of% @blk_below := @blk_below
theorem Rl23 : type_of% @Kd.R_lower := @Kd.R_lower
theorem bz23 : type_of% @below_size := @below_size
theorem bp23 : type_of% @below_step := @below_step
theorem kc23 : type_of% @blk_cell := @blk_cell
theorem kz23 : type_of% @blk_frozen := @blk_frozen
theorem sa23 : type_of% @List.setIfInBounds_toArray := @List.setIfInBounds_toArray
theorem sz23 : type_of% @List.set_cons_zero := @List.set_cons_zero
theorem ss23 : type_of% @List.set_cons_succ := @List.set_cons_succ
theorem ma23 : type_of% @List.map_toArray := @List.map_toArray
theorem mc23 : type_of% @List.map_cons := @List.map_cons
theorem mn23 : type_of% @List.map_nil := @List.map_nil
theorem ld23 : type_of% @List.length_drop := @List.length_drop
theorem lt_23 : type_of% @List.length_take := @List.length_take
/-! ### watershedref06_Right: function 23 -/
mutual
def watershedref06_Right.j0 : Nat → Bool → List Int → List Int → List Int → List Int → Option (Bool)
 | 0, _, _, _, _, _ => none
 | k + 1, x25, x205000, x205001, x205002, x205003 => if x25 = true then (some false) else (if (x205000.length : Int) = 0 then (some ((wrap64 ((wrap64 ((x205001.length : Int) + (x205002.length : Int))) + (x205003.length : Int))) == 0)) else (watershedref06_Right.l0 k 0 x205000 x205001 x205002 x205003))
def watershedref06_Right.l0 : Nat → Int → List Int → List Int → List Int → List Int → Option (Bool)
 | 0, _, _, _, _, _ => none
 | k + 1, x3, x205000, x205001, x205002, x205003 => if x3 < (x205002.length : Int) then (if 0 ≤ x3 then ((watershedref06_in.f k x205000 (rd x205002 x3)).bind fun t210 => (if t210 = true then (some false) else (watershedref06_Right.l0 k (wrap64 (x3 + 1)) x205000 x205001 x205002 x205003))) else (none)) else (if (x205001.length : Int) > 0 then ((watershedkit_SameInts.f k x205003 x205000).bind fun t211 => (if t211 = true then (some ((x205002.length : Int) == 0)) else (some false))) else (if (x205003.length : Int) = 0 then (some ((x205002.length : Int) == 0)) else ((watershedkit_SameInts.f k x205003 x205000).bind fun t212 => (if t212 = true then (some false) else ((watershedref06_less.f k x205003 x205000).bind fun t213 => ((watershedkit_SameInts.f k x205002 t213).bind fun t216 => (some t216)))))))
end
def watershedref06_Right.f (k : Nat) (l0_0 : List Int) (l0_1 : List Int) (l0_2 : List Int) (l0_3 : List Int) : Option (Bool) := (watershedref06_row.f k l0_0).bind fun t205 => (if t205 = true then ((watershedref06_row.f k l0_1).bind fun t206 => (if t206 = true then ((watershedref06_row.f k l0_2).bind fun t207 => (if t207 = true then ((watershedref06_row.f k l0_3).bind fun t208 => (watershedref06_Right.j0 k (!t208) l0_0 l0_1 l0_2 l0_3)) else (watershedref06_Right.j0 k true l0_0 l0_1 l0_2 l0_3))) else (watershedref06_Right.j0 k true l0_0 l0_1 l0_2 l0_3))) else (watershedref06_Right.j0 k true l0_0 l0_1 l0_2 l0_3))
theorem watershedref06_Right.mono_l : ∀ k, (∀ y0 y1 y2 y3 y4, LeO (watershedref06_Right.j0 k y0 y1 y2 y3 y4) (watershedref06_Right.j0 (k + 1) y0 y1 y2 y3 y4)) ∧ (∀ y0 y1 y2 y3 y4, LeO (watershedref06_Right.l0 k y0 y1 y2 y3 y4) (watershedref06_Right.l0 (k + 1) y0 y1 y2 y3 y4))
 | 0 => ⟨fun _ _ _ _ _ r h => by simp [watershedref06_Right.j0] at h, fun _ _ _ _ _ r h => by simp [watershedref06_Right.l0] at h⟩
 | k + 1 => by
  obtain ⟨ih0, ih1⟩ := watershedref06_Right.mono_l k
  refine ⟨?_, ?_⟩
  ·intro y0 y1 y2 y3 y4
   unfold watershedref06_Right.j0
   repeat' first
   | (with_reducible exact ih0 _ _ _ _ _)
   | (with_reducible exact ih1 _ _ _ _ _)
   | (with_reducible exact watershedkit_SameInts.mono _ _ _)
   | (with_reducible exact watershedref06_in.mono _ _ _)
   | (with_reducible exact watershedref06_less.mono _ _ _)
   | (with_reducible exact watershedref06_row.mono _ _)
   | (with_reducible exact LeO.refl _)
   | (with_reducible exact LeO.none _)
   | (with_reducible refine LeO.ite ?_ ?_)
   | (with_reducible refine LeO.bind ?_ (fun _ => ?_))
   | exact ih0 _ _ _ _ _
   | exact ih1 _ _ _ _ _
   | exact watershedkit_SameInts.mono _ _ _
   | exact watershedref06_in.mono _ _ _
   | exact watershedref06_less.mono _ _ _
   | exact watershedref06_row.mono _ _
   | exact LeO.none _
   | refine LeO.ite ?_ ?_
   | refine LeO.bind ?_ (fun _ => ?_)
  ·intro y0 y1 y2 y3 y4
   unfold watershedref06_Right.l0
   repeat' first
   | (with_reducible exact ih0 _ _ _ _ _)
   | (with_reducible exact ih1 _ _ _ _ _)
   | (with_reducible exact watershedkit_SameInts.mono _ _ _)
   | (with_reducible exact watershedref06_in.mono _ _ _)
   | (with_reducible exact watershedref06_less.mono _ _ _)
   | (with_reducible exact watershedref06_row.mono _ _)
   | (with_reducible exact LeO.refl _)
   | (with_reducible exact LeO.none _)
   | (with_reducible refine LeO.ite ?_ ?_)
   | (with_reducible refine LeO.bind ?_ (fun _ => ?_))
   | exact ih0 _ _ _ _ _
   | exact ih1 _ _ _ _ _
   | exact watershedkit_SameInts.mono _ _ _
   | exact watershedref06_in.mono _ _ _
   | exact watershedref06_less.mono _ _ _
   | exact watershedref06_row.mono _ _
   | exact LeO.none _
   | refine LeO.ite ?_ ?_
   | refine LeO.bind ?_ (fun _ => ?_)
theorem watershedref06_Right.mono : ∀ a0 a1 a2 a3 k, LeO (watershedref06_Right.f k a0 a1 a2 a3) (watershedref06_Right.f (k + 1) a0 a1 a2 a3) := by
 intro a0 a1 a2 a3 k
 obtain ⟨ih0, ih1⟩ := watershedref06_Right.mono_l k
 unfold watershedref06_Right.f
 repeat' first
   | (with_reducible exact ih0 _ _ _ _ _)
   | (with_reducible exact ih1 _ _ _ _ _)
   | (with_reducible exact watershedkit_SameInts.mono _ _ _)
   | (with_reducible exact watershedref06_in.mono _ _ _)
   | (with_reducible exact watershedref06_less.mono _ _ _)
   | (with_reducible exact watershedref06_row.mono _ _)
   | (with_reducible exact LeO.refl _)
   | (with_reducible exact LeO.none _)
   | (with_reducible refine LeO.ite ?_ ?_)
   | (with_reducible refine LeO.bind ?_ (fun _ => ?_))
   | exact ih0 _ _ _ _ _
   | exact ih1 _ _ _ _ _
   | exact watershedkit_SameInts.mono _ _ _
   | exact watershedref06_in.mono _ _ _
   | exact watershedref06_less.mono _ _ _
   | exact watershedref06_row.mono _ _
   | exact LeO.none _
   | refine LeO.ite ?_ ?_
   | refine LeO.bind ?_ (fun _ => ?_)
def watershedref06_Right.T8 : Bool × List (List Nat × List Nat) := (true, [([], []), ([0], [0]), ([], []), ([2], [2]), ([], []), ([3, 4], [3, 4]), ([5], [5]), ([1, 6], [1, 6])])
def watershedref06_Right.B8 : List Nat := [0, 1, 0, 4, 0, 28, 60, 127]
theorem watershedref06_Right.tab8 : rtab .any (opsOf Try.f23 8) = watershedref06_Right.T8 := by kernel_rfl
theorem watershedref06_Right.bits8 : waitsOk watershedref06_Right.T8.2 watershedref06_Right.B8 = true := by kernel_rfl
def watershedref06_Right.T14 : Bool × List (List Nat × List Nat) := (true, [([], []), ([0], [0]), ([], []), ([2], [2]), ([1, 3], [1, 3]), ([4], [4]), ([5, 4], [5]), ([6], [6]), ([7, 6], [6, 7]), ([6], [6]), ([9, 6], [6, 9]), ([6], [6]), ([11, 6], [6, 11]), ([10, 12, 6, 6], [6, 10, 12]), ([8, 13, 13, 6], [6, 8, 13]), ([6, 14], [6, 14]), ([15, 14, 0, 1, 2, 3, 4, 5, 6, 7, 8, 9, 10, 11, 12, 13, 14, 15], [15])])
def watershedref06_Right.B14 : List Nat := [0, 1, 0, 4, 15, 31, 63, 127, 255, 127, 639, 127, 2175, 7807, 16383, 32767, 65535]
theorem watershedref06_Right.tab14 : rtab .any (opsOf Try.f23 14) = watershedref06_Right.T14 := by kernel_rfl
theorem watershedref06_Right.bits14 : waitsOk watershedref06_Right.T14.2 watershedref06_Right.B14 = true := by kernel_rfl
set_option maxHeartbeats 8000000 in
set_option maxRecDepth 100000 in
theorem watershedref06_Right.calls (k : Nat) (A0_0 : Option Addr) (c0_0 : Nat) (l0_0 : List Int) (A0_1 : Option Addr) (c0_1 : Nat) (l0_1 : List Int) (A0_2 : Option Addr) (c0_2 : Nat) (l0_2 : List Int) (A0_3 : Option Addr) (c0_3 : Nat) (l0_3 : List Int) (r : Bool) (w : World) (hr0_0 : Kd.C (Kd.int .i64) w A0_0 l0_0.length l0_0) (hc0_0 : l0_0.length ≤ c0_0) (hr0_1 : Kd.C (Kd.int .i64) w A0_1 l0_1.length l0_1) (hc0_1 : l0_1.length ≤ c0_1) (hr0_2 : Kd.C (Kd.int .i64) w A0_2 l0_2.length l0_2) (hc0_2 : l0_2.length ≤ c0_2) (hr0_3 : Kd.C (Kd.int .i64) w A0_3 l0_3.length l0_3) (hc0_3 : l0_3.length ≤ c0_3) (h : watershedref06_Right.f k l0_0 l0_1 l0_2 l0_3 = some r) :
  Calls Try.prog 23 #[.agg #[.slice A0_0 l0_0.length c0_0, .slice A0_1 l0_1.length c0_1, .slice A0_2 l0_2.length c0_2, .slice A0_3 l0_3.length c0_3]] w fun e w' => e = .returned (.bool r) ∧ Below w.heap.size w w' := by
 have hu24 := Try.underlying24
 have HR0_0 := Am23 hr0_0
 have HC0_0 := Am23 hc0_0
 clear hr0_0 hc0_0
 have HR0_1 := Am23 hr0_1
 have HC0_1 := Am23 hc0_1
 clear hr0_1 hc0_1
 have HR0_2 := Am23 hr0_2
 have HC0_2 := Am23 hc0_2
 clear hr0_2 hc0_2
 have HR0_3 := Am23 hr0_3
 have HC0_3 := Am23 hc0_3
 clear hr0_3 hc0_3
 have HB := Am23 (Below.refl w.heap.size w)
 have H : ((watershedref06_row.f k l0_0).bind fun t205 => (if t205 = true then ((watershedref06_row.f k l0_1).bind fun t206 => (if t206 = true then ((watershedref06_row.f k l0_2).bind fun t207 => (if t207 = true then ((watershedref06_row.f k l0_3).bind fun t208 => (watershedref06_Right.j0 k (!t208) l0_0 l0_1 l0_2 l0_3)) else (watershedref06_Right.j0 k true l0_0 l0_1 l0_2 l0_3))) else (watershedref06_Right.j0 k true l0_0 l0_1 l0_2 l0_3))) else (watershedref06_Right.j0 k true l0_0 l0_1 l0_2 l0_3))) = some r := h
 clear h
 have HC2 := Am23 H
 clear H
 go_enter Try.func23, Try.ntmps23
 go_upto_region 1 with (first | ((with_reducible refine gate_dst (N:=1) rfl ?_); (try (refine gate_guard (by rfl) ?_; dsimp only)); refine box_event ?hg (N:=1) ?hd (cs:=#[.slice A0_0 l0_0.length c0_0, .slice A0_1 l0_1.length c0_1, .slice A0_2 l0_2.length c0_2, .slice A0_3 l0_3.length c0_3]) (t:=24) ?hr ?_; (case hd => rfl); (case hg => rfl); (case hr => first | (go_simp; done) | (go_simp; rfl)); intro gb204 hg w3 hbox hb; have BK204 := Am23 (hbox); have GW204 := Am23 ((by rw [hg]; exact (bz23 (by repeat (first | (with_reducible first | exact HB.out | apply ba23 | apply bn23 | apply bd23) | exact HB.out))) : w.heap.size ≤ gb204)); have GE204 := Am23 ((by rw [hg]; exact (bz23 (by repeat (first | (with_reducible first | exact HB.out | apply ba23 | apply bn23 | apply bd23) | exact HB.out))) : w.heap.size ≤ gb204)); replace HB := Am23 (bp23 (by repeat (first | (with_reducible first | exact HB.out | apply ba23 | apply bn23 | apply bd23) | exact HB.out)) hb); clear hb hbox hg))
 (try simp only [Act.put, sa23, sz23, ss23])
 go_cut [25] (fun v25 wc => ∃ (kq : Nat) (x25_1 : Bool), v25 = .bool x25_1 ∧ Aside0 (watershedref06_Right.j0 kq x25_1 l0_0 l0_1 l0_2 l0_3 = some r) ∧ Aside0 (kq ≤ k) ∧ Aside0 (wc.heap[gb204]? = some (.cells #[(.slice A0_0 l0_0.length c0_0), (.slice A0_1 l0_1.length c0_1), (.slice A0_2 l0_2.length c0_2), (.slice A0_3 l0_3.length c0_3)] 24 (0, 0))) ∧ Aside0 (Below w.heap.size w wc))
 case first =>
  have H := HC2.out
  clear HC2
  replace H := Option.bind_eq_some_iff.mp H
  obtain ⟨t205, A40, H⟩ := H
  try dsimp only at H
  have A4 := Am23 A40
  clear A40
  by_cases c5 : t205 = true
  ·subst c5
   rw [if_pos rfl] at H
   replace H := Option.bind_eq_some_iff.mp H
   obtain ⟨t206, A60, H⟩ := H
   try dsimp only at H
   have A6 := Am23 A60
   clear A60
   by_cases c7 : t206 = true
   ·subst c7
    rw [if_pos rfl] at H
    replace H := Option.bind_eq_some_iff.mp H
    obtain ⟨t207, A80, H⟩ := H
    try dsimp only at H
    have A8 := Am23 A80
    clear A80
    by_cases c9 : t207 = true
    ·subst c9
     rw [if_pos rfl] at H
     replace H := Option.bind_eq_some_iff.mp H
     obtain ⟨t208, A100, H⟩ := H
     try dsimp only at H
     have A10 := Am23 A100
     clear A100
     have H' := Am23 H
     clear H
     have hcz11_0 : w3.cell? ⟨gb204, 0, none⟩ = some (.slice A0_0 l0_0.length c0_0) := (kc23 BK204.out 0).trans rfl
     have hcz11_1 : w3.cell? ⟨gb204, 1, none⟩ = some (.slice A0_1 l0_1.length c0_1) := (kc23 BK204.out 1).trans rfl
     have hcz11_2 : w3.cell? ⟨gb204, 2, none⟩ = some (.slice A0_2 l0_2.length c0_2) := (kc23 BK204.out 2).trans rfl
     have hcz11_3 : w3.cell? ⟨gb204, 3, none⟩ = some (.slice A0_3 l0_3.length c0_3) := (kc23 BK204.out 3).trans rfl
     have hfz11_0 := kz23 BK204.out 0
     have hfz11_1 := kz23 BK204.out 1
     have hfz11_2 := kz23 BK204.out 2
     have hfz11_3 := kz23 BK204.out 3
     go_wp2_with (first | ((with_reducible refine gate_callee (f:=43) rfl ?_); refine goesL_ (some 6) rfl rfl Try.func43 (by kernel_rfl) rfl #[.slice A0_0 l0_0.length c0_0] rfl (by (try simp only [ma23, mc23, mn23]); first | done | rfl | (simp only [ld23, lt_23]; rfl)) ?_; (with_reducible refine (watershedref06_row.calls k _ _ l0_0 true _ ?side1 ?side2 A4.out).mono ?_); (case side1 => repeat (first | exact (Kd.C_below HR0_0.out HB.out) | (with_reducible refine Kd.C_alloc ?_ _) | (with_reducible refine Kd.C_drewN ?_ _) | (with_reducible refine Kd.C_drew ?_))); (case side2 => exact HC0_0.out); rintro e w' ⟨rfl, ⟨nd, rfl⟩⟩; refine ⟨_, rfl, ?_⟩) | (go_at_call 43; (with_reducible refine (watershedref06_row.calls k _ _ l0_1 true _ ?side1 ?side2 A6.out).mono ?_); (case side1 => repeat (first | exact (Kd.C_below HR0_1.out (by repeat (first | (with_reducible first | exact HB.out | apply ba23 | apply bn23 | apply bd23 | refine bs23 ?_ GE204.out) | exact HB.out))) | (with_reducible refine Kd.C_alloc ?_ _) | (with_reducible refine Kd.C_drewN ?_ _) | (with_reducible refine Kd.C_drew ?_))); (case side2 => exact HC0_1.out); rintro e w' ⟨rfl, ⟨nd, rfl⟩⟩) | (go_at_call 43; (with_reducible refine (watershedref06_row.calls k _ _ l0_2 true _ ?side1 ?side2 A8.out).mono ?_); (case side1 => repeat (first | exact (Kd.C_below HR0_2.out (by repeat (first | (with_reducible first | exact HB.out | apply ba23 | apply bn23 | apply bd23 | refine bs23 ?_ GE204.out) | exact HB.out))) | (with_reducible refine Kd.C_alloc ?_ _) | (with_reducible refine Kd.C_drewN ?_ _) | (with_reducible refine Kd.C_drew ?_))); (case side2 => exact HC0_2.out); rintro e w' ⟨rfl, ⟨nd, rfl⟩⟩) | (go_at_call 43; (with_reducible refine (watershedref06_row.calls k _ _ l0_3 t208 _ ?side1 ?side2 A10.out).mono ?_); (case side1 => repeat (first | exact (Kd.C_below HR0_3.out (by repeat (first | (with_reducible first | exact HB.out | apply ba23 | apply bn23 | apply bd23 | refine bs23 ?_ GE204.out) | exact HB.out))) | (with_reducible refine Kd.C_alloc ?_ _) | (with_reducible refine Kd.C_drewN ?_ _) | (with_reducible refine Kd.C_drew ?_))); (case side2 => exact HC0_3.out); rintro e w' ⟨rfl, ⟨nd, rfl⟩⟩))
     go_meet
     case rel => exact ⟨_, (!t208), (by first | rfl | (simp; done) | (simp [*]; done)), H', ⟨by first | omega | exact Nat.le_refl _⟩, ⟨by (with_reducible repeat first | apply kn23 | apply kd23 | apply ka23); exact BK204.out⟩, ⟨by repeat (first | (with_reducible first | exact HB.out | apply ba23 | apply bn23 | apply bd23 | refine bs23 ?_ GE204.out) | exact HB.out)⟩⟩
    ·replace c9 := Bool.eq_false_iff.mpr c9
     subst c9
     rw [if_neg (show ¬ (false = true) by decide)] at H
     have H' := Am23 H
     clear H
     have hcz12_0 : w3.cell? ⟨gb204, 0, none⟩ = some (.slice A0_0 l0_0.length c0_0) := (kc23 BK204.out 0).trans rfl
     have hcz12_1 : w3.cell? ⟨gb204, 1, none⟩ = some (.slice A0_1 l0_1.length c0_1) := (kc23 BK204.out 1).trans rfl
     have hcz12_2 : w3.cell? ⟨gb204, 2, none⟩ = some (.slice A0_2 l0_2.length c0_2) := (kc23 BK204.out 2).trans rfl
     have hcz12_3 : w3.cell? ⟨gb204, 3, none⟩ = some (.slice A0_3 l0_3.length c0_3) := (kc23 BK204.out 3).trans rfl
     have hfz12_0 := kz23 BK204.out 0
     have hfz12_1 := kz23 BK204.out 1
     have hfz12_2 := kz23 BK204.out 2
     have hfz12_3 := kz23 BK204.out 3
     go_wp2_with (first | ((with_reducible refine gate_callee (f:=43) rfl ?_); refine goesL_ (some 6) rfl rfl Try.func43 (by kernel_rfl) rfl #[.slice A0_0 l0_0.length c0_0] rfl (by (try simp only [ma23, mc23, mn23]); first | done | rfl | (simp only [ld23, lt_23]; rfl)) ?_; (with_reducible refine (watershedref06_row.calls k _ _ l0_0 true _ ?side1 ?side2 A4.out).mono ?_); (case side1 => repeat (first | exact (Kd.C_below HR0_0.out HB.out) | (with_reducible refine Kd.C_alloc ?_ _) | (with_reducible refine Kd.C_drewN ?_ _) | (with_reducible refine Kd.C_drew ?_))); (case side2 => exact HC0_0.out); rintro e w' ⟨rfl, ⟨nd, rfl⟩⟩; refine ⟨_, rfl, ?_⟩) | (go_at_call 43; (with_reducible refine (watershedref06_row.calls k _ _ l0_1 true _ ?side1 ?side2 A6.out).mono ?_); (case side1 => repeat (first | exact (Kd.C_below HR0_1.out (by repeat (first | (with_reducible first | exact HB.out | apply ba23 | apply bn23 | apply bd23 | refine bs23 ?_ GE204.out) | exact HB.out))) | (with_reducible refine Kd.C_alloc ?_ _) | (with_reducible refine Kd.C_drewN ?_ _) | (with_reducible refine Kd.C_drew ?_))); (case side2 => exact HC0_1.out); rintro e w' ⟨rfl, ⟨nd, rfl⟩⟩) | (go_at_call 43; (with_reducible refine (watershedref06_row.calls k _ _ l0_2 false _ ?side1 ?side2 A8.out).mono ?_); (case side1 => repeat (first | exact (Kd.C_below HR0_2.out (by repeat (first | (with_reducible first | exact HB.out | apply ba23 | apply bn23 | apply bd23 | refine bs23 ?_ GE204.out) | exact HB.out))) | (with_reducible refine Kd.C_alloc ?_ _) | (with_reducible refine Kd.C_drewN ?_ _) | (with_reducible refine Kd.C_drew ?_))); (case side2 => exact HC0_2.out); rintro e w' ⟨rfl, ⟨nd, rfl⟩⟩))
     go_meet
     case rel => exact ⟨_, (true), (by first | rfl | (simp; done) | (simp [*]; done)), H', ⟨by first | omega | exact Nat.le_refl _⟩, ⟨by (with_reducible repeat first | apply kn23 | apply kd23 | apply ka23); exact BK204.out⟩, ⟨by repeat (first | (with_reducible first | exact HB.out | apply ba23 | apply bn23 | apply bd23 | refine bs23 ?_ GE204.out) | exact HB.out)⟩⟩
   ·replace c7 := Bool.eq_false_iff.mpr c7
    subst c7
    rw [if_neg (show ¬ (false = true) by decide)] at H
    have H' := Am23 H
    clear H
    have hcz13_0 : w3.cell? ⟨gb204, 0, none⟩ = some (.slice A0_0 l0_0.length c0_0) := (kc23 BK204.out 0).trans rfl
    have hcz13_1 : w3.cell? ⟨gb204, 1, none⟩ = some (.slice A0_1 l0_1.length c0_1) := (kc23 BK204.out 1).trans rfl
    have hcz13_2 : w3.cell? ⟨gb204, 2, none⟩ = some (.slice A0_2 l0_2.length c0_2) := (kc23 BK204.out 2).trans rfl
    have hcz13_3 : w3.cell? ⟨gb204, 3, none⟩ = some (.slice A0_3 l0_3.length c0_3) := (kc23 BK204.out 3).trans rfl
    have hfz13_0 := kz23 BK204.out 0
    have hfz13_1 := kz23 BK204.out 1
    have hfz13_2 := kz23 BK204.out 2
    have hfz13_3 := kz23 BK204.out 3
    go_wp2_with (first | ((with_reducible refine gate_callee (f:=43) rfl ?_); refine goesL_ (some 6) rfl rfl Try.func43 (by kernel_rfl) rfl #[.slice A0_0 l0_0.length c0_0] rfl (by (try simp only [ma23, mc23, mn23]); first | done | rfl | (simp only [ld23, lt_23]; rfl)) ?_; (with_reducible refine (watershedref06_row.calls k _ _ l0_0 true _ ?side1 ?side2 A4.out).mono ?_); (case side1 => repeat (first | exact (Kd.C_below HR0_0.out HB.out) | (with_reducible refine Kd.C_alloc ?_ _) | (with_reducible refine Kd.C_drewN ?_ _) | (with_reducible refine Kd.C_drew ?_))); (case side2 => exact HC0_0.out); rintro e w' ⟨rfl, ⟨nd, rfl⟩⟩; refine ⟨_, rfl, ?_⟩) | (go_at_call 43; (with_reducible refine (watershedref06_row.calls k _ _ l0_1 false _ ?side1 ?side2 A6.out).mono ?_); (case side1 => repeat (first | exact (Kd.C_below HR0_1.out (by repeat (first | (with_reducible first | exact HB.out | apply ba23 | apply bn23 | apply bd23 | refine bs23 ?_ GE204.out) | exact HB.out))) | (with_reducible refine Kd.C_alloc ?_ _) | (with_reducible refine Kd.C_drewN ?_ _) | (with_reducible refine Kd.C_drew ?_))); (case side2 => exact HC0_1.out); rintro e w' ⟨rfl, ⟨nd, rfl⟩⟩))
    go_meet
    case rel => exact ⟨_, (true), (by first | rfl | (simp; done) | (simp [*]; done)), H', ⟨by first | omega | exact Nat.le_refl _⟩, ⟨by (with_reducible repeat first | apply kn23 | apply kd23 | apply ka23); exact BK204.out⟩, ⟨by repeat (first | (with_reducible first | exact HB.out | apply ba23 | apply bn23 | apply bd23 | refine bs23 ?_ GE204.out) | exact HB.out)⟩⟩
  ·replace c5 := Bool.eq_false_iff.mpr c5
   subst c5
   rw [if_neg (show ¬ (false = true) by decide)] at H
   have H' := Am23 H
   clear H
   have hcz14_0 : w3.cell? ⟨gb204, 0, none⟩ = some (.slice A0_0 l0_0.length c0_0) := (kc23 BK204.out 0).trans rfl
   have hcz14_1 : w3.cell? ⟨gb204, 1, none⟩ = some (.slice A0_1 l0_1.length c0_1) := (kc23 BK204.out 1).trans rfl
   have hcz14_2 : w3.cell? ⟨gb204, 2, none⟩ = some (.slice A0_2 l0_2.length c0_2) := (kc23 BK204.out 2).trans rfl
   have hcz14_3 : w3.cell? ⟨gb204, 3, none⟩ = some (.slice A0_3 l0_3.length c0_3) := (kc23 BK204.out 3).trans rfl
   have hfz14_0 := kz23 BK204.out 0
   have hfz14_1 := kz23 BK204.out 1
   have hfz14_2 := kz23 BK204.out 2
   have hfz14_3 := kz23 BK204.out 3
   go_wp2_with (first | ((with_reducible refine gate_callee (f:=43) rfl ?_); refine goesL_ (some 6) rfl rfl Try.func43 (by kernel_rfl) rfl #[.slice A0_0 l0_0.length c0_0] rfl (by (try simp only [ma23, mc23, mn23]); first | done | rfl | (simp only [ld23, lt_23]; rfl)) ?_; (with_reducible refine (watershedref06_row.calls k _ _ l0_0 false _ ?side1 ?side2 A4.out).mono ?_); (case side1 => repeat (first | exact (Kd.C_below HR0_0.out HB.out) | (with_reducible refine Kd.C_alloc ?_ _) | (with_reducible refine Kd.C_drewN ?_ _) | (with_reducible refine Kd.C_drew ?_))); (case side2 => exact HC0_0.out); rintro e w' ⟨rfl, ⟨nd, rfl⟩⟩; refine ⟨_, rfl, ?_⟩))
   go_meet
   case rel => exact ⟨_, (true), (by first | rfl | (simp; done) | (simp [*]; done)), H', ⟨by first | omega | exact Nat.le_refl _⟩, ⟨by (with_reducible repeat first | apply kn23 | apply kd23 | apply ka23); exact BK204.out⟩, ⟨by repeat (first | (with_reducible first | exact HB.out | apply ba23 | apply bn23 | apply bd23 | refine bs23 ?_ GE204.out) | exact HB.out)⟩⟩
 case rest =>
  clear HC2
  try clear c2
  try clear p2
  try clear c4
  try clear c5
  try clear c7
  try clear c9
  try clear hcz11_0
  try clear hcz11_1
  try clear hcz11_2
  try clear hcz11_3
  try clear hcz12_0
  try clear hcz12_1
  try clear hcz12_2
  try clear hcz12_3
  try clear hcz13_0
  try clear hcz13_1
  try clear hcz13_2
  try clear hcz13_3
  try clear hcz14_0
  try clear hcz14_1
  try clear hcz14_2
  try clear hcz14_3
  try clear hfz11_0
  try clear hfz11_1
  try clear hfz11_2
  try clear hfz11_3
  try clear hfz12_0
  try clear hfz12_1
  try clear hfz12_2
  try clear hfz12_3
  try clear hfz13_0
  try clear hfz13_1
  try clear hfz13_2
  try clear hfz13_3
  try clear hfz14_0
  try clear hfz14_1
  try clear hfz14_2
  try clear hfz14_3
  obtain ⟨kq, x25_1, rfl, HA, HJ1, BK204, HB⟩ := hcut
  cases kq with
  | zero => exact absurd HA.out (by simp [watershedref06_Right.j0])
  | succ kj1 =>
   have H := HA.out
   clear HA
   simp only [watershedref06_Right.j0] at H
   by_cases c15 : x25_1 = true
   ·subst c15
    rw [if_pos rfl] at H
    obtain rfl := Option.some.inj H
    go_wp2
    go_ret
    exact ⟨by first | rfl | (simp [errW_none, errW_some] <;> rfl) | (simp [*, errW_none, errW_some] <;> rfl), by repeat (first | (with_reducible first | exact HB.out | apply ba23 | apply bn23 | apply bd23 | refine bs23 ?_ GE204.out) | exact HB.out)⟩
   ·replace c15 := Bool.eq_false_iff.mpr c15
    subst c15
    rw [if_neg (show ¬ (false = true) by decide)] at H
    by_cases c16 : (l0_0.length : Int) = 0
    ·rw [if_pos c16] at H
     have c16b0 : ((l0_0.length : Int) == 0) = true := beq_iff_eq.mpr c16
     have c16b1 : ((l0_0.length : Int) != 0) = false := bne_eq_false_iff_eq.mpr c16
     clear c16
     obtain rfl := Option.some.inj H
     have hcz17_0 : wc.cell? ⟨gb204, 0, none⟩ = some (.slice A0_0 l0_0.length c0_0) := (kc23 BK204.out 0).trans rfl
     have hcz17_1 : wc.cell? ⟨gb204, 1, none⟩ = some (.slice A0_1 l0_1.length c0_1) := (kc23 BK204.out 1).trans rfl
     have hcz17_2 : wc.cell? ⟨gb204, 2, none⟩ = some (.slice A0_2 l0_2.length c0_2) := (kc23 BK204.out 2).trans rfl
     have hcz17_3 : wc.cell? ⟨gb204, 3, none⟩ = some (.slice A0_3 l0_3.length c0_3) := (kc23 BK204.out 3).trans rfl
     have hfz17_0 := kz23 BK204.out 0
     have hfz17_1 := kz23 BK204.out 1
     have hfz17_2 := kz23 BK204.out 2
     have hfz17_3 := kz23 BK204.out 3
     go_wp2
     go_ret
     exact ⟨by first | rfl | (simp [errW_none, errW_some] <;> rfl) | (simp [*, errW_none, errW_some] <;> rfl), by repeat (first | (with_reducible first | exact HB.out | apply ba23 | apply bn23 | apply bd23 | refine bs23 ?_ GE204.out) | exact HB.out)⟩
    ·rw [if_neg c16] at H
     have c16b0 : ((l0_0.length : Int) == 0) = false := beq_eq_false_iff_ne.mpr c16
     have c16b1 : ((l0_0.length : Int) != 0) = true := bne_iff_ne.mpr c16
     have c16b2 : ¬ (l0_0 = []) := fun h_ => c16 (by rw [h_]; rfl)
     have H' := Am23 H
     clear H
     have hcz18_0 : wc.cell? ⟨gb204, 0, none⟩ = some (.slice A0_0 l0_0.length c0_0) := (kc23 BK204.out 0).trans rfl
     have hcz18_1 : wc.cell? ⟨gb204, 1, none⟩ = some (.slice A0_1 l0_1.length c0_1) := (kc23 BK204.out 1).trans rfl
     have hcz18_2 : wc.cell? ⟨gb204, 2, none⟩ = some (.slice A0_2 l0_2.length c0_2) := (kc23 BK204.out 2).trans rfl
     have hcz18_3 : wc.cell? ⟨gb204, 3, none⟩ = some (.slice A0_3 l0_3.length c0_3) := (kc23 BK204.out 3).trans rfl
     have hfz18_0 := kz23 BK204.out 0
     have hfz18_1 := kz23 BK204.out 1
     have hfz18_2 := kz23 BK204.out 2
     have hfz18_3 := kz23 BK204.out 3
     go_wp2
     go_loopg [3] kj1 (fun kq v3 w' => ∃ (x3_2 : Int), v3 = .int .i64 x3_2 ∧ Aside0 (watershedref06_Right.l0 kq x3_2 l0_0 l0_1 l0_2 l0_3 = some r) ∧ Aside0 (kq ≤ kj1) ∧ Aside0 (w'.heap[gb204]? = some (.cells #[(.slice A0_0 l0_0.length c0_0), (.slice A0_1 l0_1.length c0_1), (.slice A0_2 l0_2.length c0_2), (.slice A0_3 l0_3.length c0_3)] 24 (0, 0))) ∧ Aside0 (Below w.heap.size w w'))
     case atStart => exact ⟨(0), (by first | rfl | (simp; done) | (simp [*]; done)), H', ⟨Nat.le_refl _⟩, ⟨by (with_reducible repeat first | apply kn23 | apply kd23 | apply ka23); exact BK204.out⟩, ⟨by repeat (first | (with_reducible first | exact HB.out | apply ba23 | apply bn23 | apply bd23 | refine bs23 ?_ GE204.out) | exact HB.out)⟩⟩
     case round =>
      clear H'
      try clear c1
      try clear c2
      try clear p2
      try clear c4
      try clear c5
      try clear p6
      try clear c7
      try clear c9
      try clear c15
      try clear c16
      try clear c16b0
      try clear c16b1
      try clear c16b2
      try clear hcz11_0
      try clear hcz11_1
      try clear hcz11_2
      try clear hcz11_3
      try clear hcz12_0
      try clear hcz12_1
      try clear hcz12_2
      try clear hcz12_3
      try clear hcz13_0
      try clear hcz13_1
      try clear hcz13_2
      try clear hcz13_3
      try clear hcz14_0
      try clear hcz14_1
      try clear hcz14_2
      try clear hcz14_3
      try clear hcz17_0
      try clear hcz17_1
      try clear hcz17_2
      try clear hcz17_3
      try clear hcz18_0
      try clear hcz18_1
      try clear hcz18_2
      try clear hcz18_3
      try clear hfz11_0
      try clear hfz11_1
      try clear hfz11_2
      try clear hfz11_3
      try clear hfz12_0
      try clear hfz12_1
      try clear hfz12_2
      try clear hfz12_3
      try clear hfz13_0
      try clear hfz13_1
      try clear hfz13_2
      try clear hfz13_3
      try clear hfz14_0
      try clear hfz14_1
      try clear hfz14_2
      try clear hfz14_3
      try clear hfz17_0
      try clear hfz17_1
      try clear hfz17_2
      try clear hfz17_3
      try clear hfz18_0
      try clear hfz18_1
      try clear hfz18_2
      try clear hfz18_3
      try clear p2
      obtain ⟨x3_2, rfl, HA, HK2, BK204, HB⟩ := hrel
      cases gk with
      | zero => exact absurd HA.out (by simp [watershedref06_Right.l0])
      | succ k2 =>
       have H := HA.out
       clear HA
       simp only [watershedref06_Right.l0] at H
       by_cases c19 : x3_2 < (l0_2.length : Int)
       ·rw [if_pos c19] at H
        have c19b0 : decide (x3_2 < (l0_2.length : Int)) = true := decide_eq_true c19
        clear c19
        by_cases c20 : 0 ≤ x3_2
        ·rw [if_pos c20] at H
         have c20b0 : decide (0 ≤ x3_2) = true := decide_eq_true c20
         clear c20
         replace H := Option.bind_eq_some_iff.mp H
         obtain ⟨t210, A210, H⟩ := H
         try dsimp only at H
         have A21 := Am23 A210
         clear A210
         by_cases c22 : t210 = true
         ·subst c22
          rw [if_pos rfl] at H
          obtain rfl := Option.some.inj H
          have hcz23_0 : wr.cell? ⟨gb204, 0, none⟩ = some (.slice A0_0 l0_0.length c0_0) := (kc23 BK204.out 0).trans rfl
          have hcz23_1 : wr.cell? ⟨gb204, 1, none⟩ = some (.slice A0_1 l0_1.length c0_1) := (kc23 BK204.out 1).trans rfl
          have hcz23_2 : wr.cell? ⟨gb204, 2, none⟩ = some (.slice A0_2 l0_2.length c0_2) := (kc23 BK204.out 2).trans rfl
          have hcz23_3 : wr.cell? ⟨gb204, 3, none⟩ = some (.slice A0_3 l0_3.length c0_3) := (kc23 BK204.out 3).trans rfl
          have hfz23_0 := kz23 BK204.out 0
          have hfz23_1 := kz23 BK204.out 1
          have hfz23_2 := kz23 BK204.out 2
          have hfz23_3 := kz23 BK204.out 3
          try go_wp2
          replace BK204 := Am23 (kd23 BK204.out)
          replace HB := Am23 (bd23 HB.out)
          have p209 : 0 ≤ (x3_2 : Int) := of_decide_eq_true (by first | (with_reducible assumption) | assumption)
          have q209 : x3_2 < (l0_2.length : Int) := of_decide_eq_true (by first | (with_reducible assumption) | assumption)
          obtain ⟨ad209, e209, hx209_0⟩ := Kd.at_int HR0_2.out x3_2 p209 q209
          have hw209_0 := hx209_0
          cases e209
          replace hx209_0 := (HB.out.cell (World.block_lt_of_cell? w _ hx209_0)).trans hx209_0
          replace p209 := eq_true p209
          replace q209 := eq_true q209
          refine start_ (n:=8) (S:=fun w' => w'.cell? ⟨gb204, 0, none⟩ = some (.slice A0_0 l0_0.length c0_0) ∧ w'.cell? ⟨gb204, 1, none⟩ = some (.slice A0_1 l0_1.length c0_1) ∧ w'.cell? ⟨gb204, 2, none⟩ = some (.slice (some ad209) l0_2.length c0_2) ∧ w'.cell? ⟨gb204, 3, none⟩ = some (.slice A0_3 l0_3.length c0_3) ∧ w'.cell? (ad209.add (x3_2).toNat) = some (.int .i64 (rd l0_2 x3_2))) (ds:=[]) (bb23 8 0) (by kernel_rfl) rfl rfl ⟨(kc23 BK204.out 0).trans rfl, (kc23 BK204.out 1).trans rfl, (kc23 BK204.out 2).trans rfl, (kc23 BK204.out 3).trans rfl, ((HB.out.cell (World.block_lt_of_cell? w _ hw209_0)).trans hw209_0)⟩ (fun hHeld => ?_); refine with_tabW watershedref06_Right.tab8 watershedref06_Right.bits8 (fun HT_ HW_ => ?_)
          generalize wr.drew = w24 at BK204 HB hx209_0 hHeld ⊢
          refine pure_ (i:=0) (N:=some 49) (v:=?_) (a' := ?_) (bb23 8 1) rfl rfl (any_of HT_.out (by kernel_rfl)) (fun _ _ _ h => h) (Or.inl ⟨by rfl, ?_⟩) ?_ ?_
          rotate_left
          ·intro w'
           go_simp
           with_reducible rfl
          rotate_left
          ·simp only [Act.put, sa23, sz23, ss23, i64_w, i32_w]
           rfl
          refine pure_ (i:=2) (N:=some 51) (v:=?_) (a' := ?_) (bb23 8 5) rfl rfl (any_of HT_.out (by kernel_rfl)) (fun _ _ _ h => h) (Or.inl ⟨by rfl, ?_⟩) ?_ ?_
          rotate_left
          ·intro w'
           go_simp
           with_reducible rfl
          rotate_left
          ·simp only [Act.put, sa23, sz23, ss23, i64_w, i32_w]
           rfl
          refine pure_ (i:=4) (N:=some 53) (v:=?_) (a' := ?_) (bb23 8 21) rfl rfl (any_of HT_.out (by kernel_rfl)) (fun _ _ _ h => h) (Or.inl ⟨by rfl, ?_⟩) ?_ ?_
          rotate_left
          ·intro w'
           go_simp
           with_reducible rfl
          rotate_left
          ·simp only [Act.put, sa23, sz23, ss23, i64_w, i32_w]
           rfl
          refine take_ (i:=1) (N:=some 50) (v:=?_) (a' := ?_) (bb23 8 23) rfl rfl (take_ofW HT_.out HW_.out (by kernel_rfl)) (fun _ _ _ h => h) (Or.inl ⟨by rfl, ?_⟩) hHeld ?_ ?_
          rotate_left
          ·rintro w' ⟨s0, s1, s2, s3, s4⟩
           go_simp
           with_reducible rfl
          rotate_left
          ·simp only [Act.put, sa23, sz23, ss23, i64_w, i32_w]
           rfl
          refine take_ (i:=3) (N:=some 52) (v:=?_) (a' := ?_) (bb23 8 31) rfl rfl (take_ofW HT_.out HW_.out (by kernel_rfl)) (fun _ _ _ h => h) (Or.inl ⟨by rfl, ?_⟩) hHeld ?_ ?_
          rotate_left
          ·rintro w' ⟨s0, s1, s2, s3, s4⟩
           go_simp
           with_reducible rfl
          rotate_left
          ·simp only [Act.put, sa23, sz23, ss23, i64_w, i32_w]
           rfl
          refine pure_ (i:=5) (N:=some 54) (v:=?_) (a' := ?_) (bb23 8 63) rfl rfl (any_of HT_.out (by kernel_rfl)) (fun _ _ _ h => h) (Or.inl ⟨by rfl, ?_⟩) ?_ ?_
          rotate_left
          ·intro w'
           go_simp
           with_reducible rfl
          rotate_left
          ·simp only [Act.put, sa23, sz23, ss23, i64_w, i32_w]
           rfl
          refine take_ (i:=6) (N:=some 55) (v:=?_) (a' := ?_) (bb23 8 127) rfl rfl (take_ofW HT_.out HW_.out (by kernel_rfl)) (fun _ _ _ h => h) (Or.inl ⟨by rfl, ?_⟩) hHeld ?_ ?_
          rotate_left
          ·rintro w' ⟨s0, s1, s2, s3, s4⟩
           go_simp
           with_reducible rfl
          rotate_left
          ·simp only [Act.put, sa23, sz23, ss23, i64_w, i32_w]
           rfl
          refine one_ (i:=7) (N:=some 56) (bb23 8 255) rfl rfl (one_of HT_.out (by kernel_rfl)) (by decide) (fun K hK => ?_)
          refine goes_ Try.func46 (by kernel_rfl) rfl #[.slice A0_0 l0_0.length c0_0, .int .i64 (rd l0_2 x3_2)] (by rfl) rfl rfl (by (try simp only [ma23, mc23, mn23]); first | done | rfl | (simp only [ld23, lt_23]; rfl)) ?_
          with_reducible refine (watershedref06_in.calls k2 _ _ l0_0 (rd l0_2 x3_2) true _ ?side1 ?side2 A21.out).mono ?_
          (case side1 => repeat (first | exact (Kd.C_below HR0_0.out HB.out) | (with_reducible refine Kd.C_alloc ?_ _) | (with_reducible refine Kd.C_drewN ?_ _) | (with_reducible refine Kd.C_drew ?_)))
          (case side2 => exact HC0_0.out)
          rintro e w' ⟨rfl, ⟨nd, rfl⟩⟩
          refine ⟨_, rfl, ?_⟩
          refine hK.out _ _ ⟨(kc23 BK204.out 0).trans rfl, (kc23 BK204.out 1).trans rfl, (kc23 BK204.out 2).trans rfl, (kc23 BK204.out 3).trans rfl, ((HB.out.cell (World.block_lt_of_cell? w _ hw209_0)).trans hw209_0)⟩ (fun hHeld => ?_)
          clear hK K
          refine norm_ (a' := ?_) ?_ ?_
          rotate_left
          ·show Act.put _ (some 56) _ = _
           simp only [Act.put, sa23, sz23, ss23, i64_w, i32_w]
           rfl
          refine done_ (done_of HT_.out (by kernel_rfl)) ?_
          try go_wp2
          go_ret
          exact ⟨by first | rfl | (simp [errW_none, errW_some] <;> rfl) | (simp [*, errW_none, errW_some] <;> rfl), by repeat (first | (with_reducible first | exact HB.out | apply ba23 | apply bn23 | apply bd23 | refine bs23 ?_ GE204.out) | exact HB.out)⟩
         ·replace c22 := Bool.eq_false_iff.mpr c22
          subst c22
          rw [if_neg (show ¬ (false = true) by decide)] at H
          have H' := Am23 H
          clear H
          have hcz25_0 : wr.cell? ⟨gb204, 0, none⟩ = some (.slice A0_0 l0_0.length c0_0) := (kc23 BK204.out 0).trans rfl
          have hcz25_1 : wr.cell? ⟨gb204, 1, none⟩ = some (.slice A0_1 l0_1.length c0_1) := (kc23 BK204.out 1).trans rfl
          have hcz25_2 : wr.cell? ⟨gb204, 2, none⟩ = some (.slice A0_2 l0_2.length c0_2) := (kc23 BK204.out 2).trans rfl
          have hcz25_3 : wr.cell? ⟨gb204, 3, none⟩ = some (.slice A0_3 l0_3.length c0_3) := (kc23 BK204.out 3).trans rfl
          have hfz25_0 := kz23 BK204.out 0
          have hfz25_1 := kz23 BK204.out 1
          have hfz25_2 := kz23 BK204.out 2
          have hfz25_3 := kz23 BK204.out 3
          try go_wp2
          replace BK204 := Am23 (kd23 BK204.out)
          replace HB := Am23 (bd23 HB.out)
          have p209 : 0 ≤ (x3_2 : Int) := of_decide_eq_true (by first | (with_reducible assumption) | assumption)
          have q209 : x3_2 < (l0_2.length : Int) := of_decide_eq_true (by first | (with_reducible assumption) | assumption)
          obtain ⟨ad209, e209, hx209_0⟩ := Kd.at_int HR0_2.out x3_2 p209 q209
          have hw209_0 := hx209_0
          cases e209
          replace hx209_0 := (HB.out.cell (World.block_lt_of_cell? w _ hx209_0)).trans hx209_0
          replace p209 := eq_true p209
          replace q209 := eq_true q209
          refine start_ (n:=8) (S:=fun w' => w'.cell? ⟨gb204, 0, none⟩ = some (.slice A0_0 l0_0.length c0_0) ∧ w'.cell? ⟨gb204, 1, none⟩ = some (.slice A0_1 l0_1.length c0_1) ∧ w'.cell? ⟨gb204, 2, none⟩ = some (.slice (some ad209) l0_2.length c0_2) ∧ w'.cell? ⟨gb204, 3, none⟩ = some (.slice A0_3 l0_3.length c0_3) ∧ w'.cell? (ad209.add (x3_2).toNat) = some (.int .i64 (rd l0_2 x3_2))) (ds:=[]) (bb23 8 0) (by kernel_rfl) rfl rfl ⟨(kc23 BK204.out 0).trans rfl, (kc23 BK204.out 1).trans rfl, (kc23 BK204.out 2).trans rfl, (kc23 BK204.out 3).trans rfl, ((HB.out.cell (World.block_lt_of_cell? w _ hw209_0)).trans hw209_0)⟩ (fun hHeld => ?_); refine with_tabW watershedref06_Right.tab8 watershedref06_Right.bits8 (fun HT_ HW_ => ?_)
          generalize wr.drew = w26 at BK204 HB hx209_0 hHeld ⊢
          refine pure_ (i:=0) (N:=some 49) (v:=?_) (a' := ?_) (bb23 8 1) rfl rfl (any_of HT_.out (by kernel_rfl)) (fun _ _ _ h => h) (Or.inl ⟨by rfl, ?_⟩) ?_ ?_
          rotate_left
          ·intro w'
           go_simp
           with_reducible rfl
          rotate_left
          ·simp only [Act.put, sa23, sz23, ss23, i64_w, i32_w]
           rfl
          refine pure_ (i:=2) (N:=some 51) (v:=?_) (a' := ?_) (bb23 8 5) rfl rfl (any_of HT_.out (by kernel_rfl)) (fun _ _ _ h => h) (Or.inl ⟨by rfl, ?_⟩) ?_ ?_
          rotate_left
          ·intro w'
           go_simp
           with_reducible rfl
          rotate_left
          ·simp only [Act.put, sa23, sz23, ss23, i64_w, i32_w]
           rfl
          refine pure_ (i:=4) (N:=some 53) (v:=?_) (a' := ?_) (bb23 8 21) rfl rfl (any_of HT_.out (by kernel_rfl)) (fun _ _ _ h => h) (Or.inl ⟨by rfl, ?_⟩) ?_ ?_
          rotate_left
          ·intro w'
           go_simp
           with_reducible rfl
          rotate_left
          ·simp only [Act.put, sa23, sz23, ss23, i64_w, i32_w]
           rfl
          refine take_ (i:=1) (N:=some 50) (v:=?_) (a' := ?_) (bb23 8 23) rfl rfl (take_ofW HT_.out HW_.out (by kernel_rfl)) (fun _ _ _ h => h) (Or.inl ⟨by rfl, ?_⟩) hHeld ?_ ?_
          rotate_left
          ·rintro w' ⟨s0, s1, s2, s3, s4⟩
           go_simp
           with_reducible rfl
          rotate_left
          ·simp only [Act.put, sa23, sz23, ss23, i64_w, i32_w]
           rfl
          refine take_ (i:=3) (N:=some 52) (v:=?_) (a' := ?_) (bb23 8 31) rfl rfl (take_ofW HT_.out HW_.out (by kernel_rfl)) (fun _ _ _ h => h) (Or.inl ⟨by rfl, ?_⟩) hHeld ?_ ?_
          rotate_left
          ·rintro w' ⟨s0, s1, s2, s3, s4⟩
           go_simp
           with_reducible rfl
          rotate_left
          ·simp only [Act.put, sa23, sz23, ss23, i64_w, i32_w]
           rfl
          refine pure_ (i:=5) (N:=some 54) (v:=?_) (a' := ?_) (bb23 8 63) rfl rfl (any_of HT_.out (by kernel_rfl)) (fun _ _ _ h => h) (Or.inl ⟨by rfl, ?_⟩) ?_ ?_
          rotate_left
          ·intro w'
           go_simp
           with_reducible rfl
          rotate_left
          ·simp only [Act.put, sa23, sz23, ss23, i64_w, i32_w]
           rfl
          refine take_ (i:=6) (N:=some 55) (v:=?_) (a' := ?_) (bb23 8 127) rfl rfl (take_ofW HT_.out HW_.out (by kernel_rfl)) (fun _ _ _ h => h) (Or.inl ⟨by rfl, ?_⟩) hHeld ?_ ?_
          rotate_left
          ·rintro w' ⟨s0, s1, s2, s3, s4⟩
           go_simp
           with_reducible rfl
          rotate_left
          ·simp only [Act.put, sa23, sz23, ss23, i64_w, i32_w]
           rfl
          refine one_ (i:=7) (N:=some 56) (bb23 8 255) rfl rfl (one_of HT_.out (by kernel_rfl)) (by decide) (fun K hK => ?_)
          refine goes_ Try.func46 (by kernel_rfl) rfl #[.slice A0_0 l0_0.length c0_0, .int .i64 (rd l0_2 x3_2)] (by rfl) rfl rfl (by (try simp only [ma23, mc23, mn23]); first | done | rfl | (simp only [ld23, lt_23]; rfl)) ?_
          with_reducible refine (watershedref06_in.calls k2 _ _ l0_0 (rd l0_2 x3_2) false _ ?side1 ?side2 A21.out).mono ?_
          (case side1 => repeat (first | exact (Kd.C_below HR0_0.out HB.out) | (with_reducible refine Kd.C_alloc ?_ _) | (with_reducible refine Kd.C_drewN ?_ _) | (with_reducible refine Kd.C_drew ?_)))
          (case side2 => exact HC0_0.out)
          rintro e w' ⟨rfl, ⟨nd, rfl⟩⟩
          refine ⟨_, rfl, ?_⟩
          refine hK.out _ _ ⟨(kc23 BK204.out 0).trans rfl, (kc23 BK204.out 1).trans rfl, (kc23 BK204.out 2).trans rfl, (kc23 BK204.out 3).trans rfl, ((HB.out.cell (World.block_lt_of_cell? w _ hw209_0)).trans hw209_0)⟩ (fun hHeld => ?_)
          clear hK K
          refine norm_ (a' := ?_) ?_ ?_
          rotate_left
          ·show Act.put _ (some 56) _ = _
           simp only [Act.put, sa23, sz23, ss23, i64_w, i32_w]
           rfl
          refine done_ (done_of HT_.out (by kernel_rfl)) ?_
          try go_wp2
          go_roundg k2
          case measure => have := HJ1.out; have := HK2.out; omega
          case rel => exact ⟨(wrap64 (x3_2 + 1)), (by first | rfl | (simp; done) | (simp [*]; done)), H', ⟨by have := HJ1.out; have := HK2.out; omega⟩, ⟨by (with_reducible repeat first | apply kn23 | apply kd23 | apply ka23); exact BK204.out⟩, ⟨by repeat (first | (with_reducible first | exact HB.out | apply ba23 | apply bn23 | apply bd23 | refine bs23 ?_ GE204.out) | exact HB.out)⟩⟩
        ·rw [if_neg c20] at H
         exact absurd H (by simp)
       ·rw [if_neg c19] at H
        have c19b0 : decide (x3_2 < (l0_2.length : Int)) = false := decide_eq_false c19
        clear c19
        by_cases c27 : (l0_1.length : Int) > 0
        ·rw [if_pos c27] at H
         have c27b0 : decide (0 < (l0_1.length : Int)) = true := decide_eq_true c27
         have c27b1 : decide (0 < l0_1.length) = true := decide_eq_true (by omega)
         clear c27
         replace H := Option.bind_eq_some_iff.mp H
         obtain ⟨t211, A280, H⟩ := H
         try dsimp only at H
         have A28 := Am23 A280
         clear A280
         by_cases c29 : t211 = true
         ·subst c29
          rw [if_pos rfl] at H
          obtain rfl := Option.some.inj H
          have hcz30_0 : wr.cell? ⟨gb204, 0, none⟩ = some (.slice A0_0 l0_0.length c0_0) := (kc23 BK204.out 0).trans rfl
          have hcz30_1 : wr.cell? ⟨gb204, 1, none⟩ = some (.slice A0_1 l0_1.length c0_1) := (kc23 BK204.out 1).trans rfl
          have hcz30_2 : wr.cell? ⟨gb204, 2, none⟩ = some (.slice A0_2 l0_2.length c0_2) := (kc23 BK204.out 2).trans rfl
          have hcz30_3 : wr.cell? ⟨gb204, 3, none⟩ = some (.slice A0_3 l0_3.length c0_3) := (kc23 BK204.out 3).trans rfl
          have hfz30_0 := kz23 BK204.out 0
          have hfz30_1 := kz23 BK204.out 1
          have hfz30_2 := kz23 BK204.out 2
          have hfz30_3 := kz23 BK204.out 3
          go_wp2_with (first | ((with_reducible refine gate_callee (f:=15) rfl ?_); refine goesL_ (some 65) rfl rfl Try.func15 (by kernel_rfl) rfl #[.slice A0_3 l0_3.length c0_3, .slice A0_0 l0_0.length c0_0] rfl (by (try simp only [ma23, mc23, mn23]); first | done | rfl | (simp only [ld23, lt_23]; rfl)) ?_; (with_reducible refine (watershedkit_SameInts.calls k2 _ _ l0_3 _ _ l0_0 true _ ?side1 ?side2 ?side3 ?side4 A28.out).mono ?_); (case side1 => repeat (first | exact (Kd.C_below HR0_3.out HB.out) | (with_reducible refine Kd.C_alloc ?_ _) | (with_reducible refine Kd.C_drewN ?_ _) | (with_reducible refine Kd.C_drew ?_))); (case side2 => exact HC0_3.out); (case side3 => repeat (first | exact (Kd.C_below HR0_0.out HB.out) | (with_reducible refine Kd.C_alloc ?_ _) | (with_reducible refine Kd.C_drewN ?_ _) | (with_reducible refine Kd.C_drew ?_))); (case side4 => exact HC0_0.out); rintro e w' ⟨rfl, ⟨nd, rfl⟩⟩; refine ⟨_, rfl, ?_⟩))
          go_ret
          exact ⟨by first | rfl | (simp [errW_none, errW_some] <;> rfl) | (simp [*, errW_none, errW_some] <;> rfl), by repeat (first | (with_reducible first | exact HB.out | apply ba23 | apply bn23 | apply bd23 | refine bs23 ?_ GE204.out) | exact HB.out)⟩
         ·replace c29 := Bool.eq_false_iff.mpr c29
          subst c29
          rw [if_neg (show ¬ (false = true) by decide)] at H
          obtain rfl := Option.some.inj H
          have hcz31_0 : wr.cell? ⟨gb204, 0, none⟩ = some (.slice A0_0 l0_0.length c0_0) := (kc23 BK204.out 0).trans rfl
          have hcz31_1 : wr.cell? ⟨gb204, 1, none⟩ = some (.slice A0_1 l0_1.length c0_1) := (kc23 BK204.out 1).trans rfl
          have hcz31_2 : wr.cell? ⟨gb204, 2, none⟩ = some (.slice A0_2 l0_2.length c0_2) := (kc23 BK204.out 2).trans rfl
          have hcz31_3 : wr.cell? ⟨gb204, 3, none⟩ = some (.slice A0_3 l0_3.length c0_3) := (kc23 BK204.out 3).trans rfl
          have hfz31_0 := kz23 BK204.out 0
          have hfz31_1 := kz23 BK204.out 1
          have hfz31_2 := kz23 BK204.out 2
          have hfz31_3 := kz23 BK204.out 3
          go_wp2_with (first | ((with_reducible refine gate_callee (f:=15) rfl ?_); refine goesL_ (some 65) rfl rfl Try.func15 (by kernel_rfl) rfl #[.slice A0_3 l0_3.length c0_3, .slice A0_0 l0_0.length c0_0] rfl (by (try simp only [ma23, mc23, mn23]); first | done | rfl | (simp only [ld23, lt_23]; rfl)) ?_; (with_reducible refine (watershedkit_SameInts.calls k2 _ _ l0_3 _ _ l0_0 false _ ?side1 ?side2 ?side3 ?side4 A28.out).mono ?_); (case side1 => repeat (first | exact (Kd.C_below HR0_3.out HB.out) | (with_reducible refine Kd.C_alloc ?_ _) | (with_reducible refine Kd.C_drewN ?_ _) | (with_reducible refine Kd.C_drew ?_))); (case side2 => exact HC0_3.out); (case side3 => repeat (first | exact (Kd.C_below HR0_0.out HB.out) | (with_reducible refine Kd.C_alloc ?_ _) | (with_reducible refine Kd.C_drewN ?_ _) | (with_reducible refine Kd.C_drew ?_))); (case side4 => exact HC0_0.out); rintro e w' ⟨rfl, ⟨nd, rfl⟩⟩; refine ⟨_, rfl, ?_⟩))
          go_ret
          exact ⟨by first | rfl | (simp [errW_none, errW_some] <;> rfl) | (simp [*, errW_none, errW_some] <;> rfl), by repeat (first | (with_reducible first | exact HB.out | apply ba23 | apply bn23 | apply bd23 | refine bs23 ?_ GE204.out) | exact HB.out)⟩
        ·rw [if_neg c27] at H
         have c27b0 : decide (0 < (l0_1.length : Int)) = false := decide_eq_false c27
         have c27b1 : decide (0 < l0_1.length) = false := decide_eq_false (by omega)
         clear c27
         by_cases c32 : (l0_3.length : Int) = 0
         ·rw [if_pos c32] at H
          have c32b0 : ((l0_3.length : Int) == 0) = true := beq_iff_eq.mpr c32
          have c32b1 : ((l0_3.length : Int) != 0) = false := bne_eq_false_iff_eq.mpr c32
          clear c32
          obtain rfl := Option.some.inj H
          have hcz33_0 : wr.cell? ⟨gb204, 0, none⟩ = some (.slice A0_0 l0_0.length c0_0) := (kc23 BK204.out 0).trans rfl
          have hcz33_1 : wr.cell? ⟨gb204, 1, none⟩ = some (.slice A0_1 l0_1.length c0_1) := (kc23 BK204.out 1).trans rfl
          have hcz33_2 : wr.cell? ⟨gb204, 2, none⟩ = some (.slice A0_2 l0_2.length c0_2) := (kc23 BK204.out 2).trans rfl
          have hcz33_3 : wr.cell? ⟨gb204, 3, none⟩ = some (.slice A0_3 l0_3.length c0_3) := (kc23 BK204.out 3).trans rfl
          have hfz33_0 := kz23 BK204.out 0
          have hfz33_1 := kz23 BK204.out 1
          have hfz33_2 := kz23 BK204.out 2
          have hfz33_3 := kz23 BK204.out 3
          go_wp2
          go_ret
          exact ⟨by first | rfl | (simp [errW_none, errW_some] <;> rfl) | (simp [*, errW_none, errW_some] <;> rfl), by repeat (first | (with_reducible first | exact HB.out | apply ba23 | apply bn23 | apply bd23 | refine bs23 ?_ GE204.out) | exact HB.out)⟩
         ·rw [if_neg c32] at H
          have c32b0 : ((l0_3.length : Int) == 0) = false := beq_eq_false_iff_ne.mpr c32
          have c32b1 : ((l0_3.length : Int) != 0) = true := bne_iff_ne.mpr c32
          have c32b2 : ¬ (l0_3 = []) := fun h_ => c32 (by rw [h_]; rfl)
          replace H := Option.bind_eq_some_iff.mp H
          obtain ⟨t212, A340, H⟩ := H
          try dsimp only at H
          have A34 := Am23 A340
          clear A340
          by_cases c35 : t212 = true
          ·subst c35
           rw [if_pos rfl] at H
           obtain rfl := Option.some.inj H
           have hcz36_0 : wr.cell? ⟨gb204, 0, none⟩ = some (.slice A0_0 l0_0.length c0_0) := (kc23 BK204.out 0).trans rfl
           have hcz36_1 : wr.cell? ⟨gb204, 1, none⟩ = some (.slice A0_1 l0_1.length c0_1) := (kc23 BK204.out 1).trans rfl
           have hcz36_2 : wr.cell? ⟨gb204, 2, none⟩ = some (.slice A0_2 l0_2.length c0_2) := (kc23 BK204.out 2).trans rfl
           have hcz36_3 : wr.cell? ⟨gb204, 3, none⟩ = some (.slice A0_3 l0_3.length c0_3) := (kc23 BK204.out 3).trans rfl
           have hfz36_0 := kz23 BK204.out 0
           have hfz36_1 := kz23 BK204.out 1
           have hfz36_2 := kz23 BK204.out 2
           have hfz36_3 := kz23 BK204.out 3
           try go_wp2
           replace BK204 := Am23 (kd23 BK204.out)
           replace HB := Am23 (bd23 HB.out)
           refine start_ (n:=17) (S:=fun w' => w'.cell? ⟨gb204, 0, none⟩ = some (.slice A0_0 l0_0.length c0_0) ∧ w'.cell? ⟨gb204, 1, none⟩ = some (.slice A0_1 l0_1.length c0_1) ∧ w'.cell? ⟨gb204, 2, none⟩ = some (.slice A0_2 l0_2.length c0_2) ∧ w'.cell? ⟨gb204, 3, none⟩ = some (.slice A0_3 l0_3.length c0_3)) (ds:=[]) (bb23 17 0) (by kernel_rfl) rfl rfl ⟨(kc23 BK204.out 0).trans rfl, (kc23 BK204.out 1).trans rfl, (kc23 BK204.out 2).trans rfl, (kc23 BK204.out 3).trans rfl⟩ (fun hHeld => ?_); refine with_tabW watershedref06_Right.tab14 watershedref06_Right.bits14 (fun HT_ HW_ => ?_)
           generalize wr.drew = w37 at BK204 HB hHeld ⊢
           refine pure_ (i:=0) (N:=some 80) (v:=?_) (a' := ?_) (bb23 17 1) rfl rfl (any_of HT_.out (by kernel_rfl)) (fun _ _ _ h => h) (Or.inl ⟨by rfl, ?_⟩) ?_ ?_
           rotate_left
           ·intro w'
            go_simp
            with_reducible rfl
           rotate_left
           ·simp only [Act.put, sa23, sz23, ss23, i64_w, i32_w]
            rfl
           refine pure_ (i:=2) (N:=some 82) (v:=?_) (a' := ?_) (bb23 17 5) rfl rfl (any_of HT_.out (by kernel_rfl)) (fun _ _ _ h => h) (Or.inl ⟨by rfl, ?_⟩) ?_ ?_
           rotate_left
           ·intro w'
            go_simp
            with_reducible rfl
           rotate_left
           ·simp only [Act.put, sa23, sz23, ss23, i64_w, i32_w]
            rfl
           refine take_ (i:=1) (N:=some 81) (v:=?_) (a' := ?_) (bb23 17 7) rfl rfl (take_ofW HT_.out HW_.out (by kernel_rfl)) (fun _ _ _ h => h) (Or.inl ⟨by rfl, ?_⟩) hHeld ?_ ?_
           rotate_left
           ·rintro w' ⟨s0, s1, s2, s3⟩
            go_simp
            with_reducible rfl
           rotate_left
           ·simp only [Act.put, sa23, sz23, ss23, i64_w, i32_w]
            rfl
           refine take_ (i:=3) (N:=some 83) (v:=?_) (a' := ?_) (bb23 17 15) rfl rfl (take_ofW HT_.out HW_.out (by kernel_rfl)) (fun _ _ _ h => h) (Or.inl ⟨by rfl, ?_⟩) hHeld ?_ ?_
           rotate_left
           ·rintro w' ⟨s0, s1, s2, s3⟩
            go_simp
            with_reducible rfl
           rotate_left
           ·simp only [Act.put, sa23, sz23, ss23, i64_w, i32_w]
            rfl
           refine one_ (i:=4) (N:=some 84) (bb23 17 31) rfl rfl (one_of HT_.out (by kernel_rfl)) (by decide) (fun K hK => ?_)
           refine goes_ Try.func15 (by kernel_rfl) rfl #[.slice A0_3 l0_3.length c0_3, .slice A0_0 l0_0.length c0_0] (by rfl) rfl rfl (by (try simp only [ma23, mc23, mn23]); first | done | rfl | (simp only [ld23, lt_23]; rfl)) ?_
           with_reducible refine (watershedkit_SameInts.calls k2 _ _ l0_3 _ _ l0_0 true _ ?side1 ?side2 ?side3 ?side4 A34.out).mono ?_
           (case side1 => repeat (first | exact (Kd.C_below HR0_3.out HB.out) | (with_reducible refine Kd.C_alloc ?_ _) | (with_reducible refine Kd.C_drewN ?_ _) | (with_reducible refine Kd.C_drew ?_)))
           (case side2 => exact HC0_3.out)
           (case side3 => repeat (first | exact (Kd.C_below HR0_0.out HB.out) | (with_reducible refine Kd.C_alloc ?_ _) | (with_reducible refine Kd.C_drewN ?_ _) | (with_reducible refine Kd.C_drew ?_)))
           (case side4 => exact HC0_0.out)
           rintro e w' ⟨rfl, ⟨nd, rfl⟩⟩
           refine ⟨_, rfl, ?_⟩
           refine hK.out _ _ ⟨(kc23 BK204.out 0).trans rfl, (kc23 BK204.out 1).trans rfl, (kc23 BK204.out 2).trans rfl, (kc23 BK204.out 3).trans rfl⟩ (fun hHeld => ?_)
           clear hK K
           refine norm_ (a' := ?_) ?_ ?_
           rotate_left
           ·show Act.put _ (some 84) _ = _
            simp only [Act.put, sa23, sz23, ss23, i64_w, i32_w]
            rfl
           refine pure_ (i:=5) (N:=some 85) (v:=?_) (a' := ?_) (bb23 17 63) rfl rfl (any_of HT_.out (by kernel_rfl)) (fun _ _ _ h => h) (Or.inl ⟨by rfl, ?_⟩) ?_ ?_
           rotate_left
           ·intro w'
            go_simp
            with_reducible rfl
           rotate_left
           ·simp only [Act.put, sa23, sz23, ss23, i64_w, i32_w]
            rfl
           refine pure_ (i:=6) (N:=some 86) (v:=?_) (a' := ?_) (bb23 17 127) rfl rfl (any_of HT_.out (by kernel_rfl)) (fun _ _ _ h => h) (Or.inl ⟨by rfl, ?_⟩) ?_ ?_
           rotate_left
           ·intro w'
            go_simp
            with_reducible rfl
           rotate_left
           ·simp only [Act.put, sa23, sz23, ss23, i64_w, i32_w]
            rfl
           refine pure_ (i:=7) (N:=some 87) (v:=undef) (a' := ?_) (bb23 17 255) rfl rfl (any_of HT_.out (by kernel_rfl)) (fun _ _ _ h => h) (Or.inr ⟨by rfl, rfl⟩) ?_ ?_
           rotate_left
           ·simp only [Act.put, sa23, sz23, ss23, i64_w, i32_w]
            rfl
           refine pure_ (i:=8) (N:=some 88) (v:=undef) (a' := ?_) (bb23 17 511) rfl rfl (any_of HT_.out (by kernel_rfl)) (fun _ _ _ h => h) (Or.inr ⟨by rfl, rfl⟩) ?_ ?_
           rotate_left
           ·simp only [Act.put, sa23, sz23, ss23, i64_w, i32_w]
            rfl
           refine pure_ (i:=9) (N:=some 89) (v:=undef) (a' := ?_) (bb23 17 1023) rfl rfl (any_of HT_.out (by kernel_rfl)) (fun _ _ _ h => h) (Or.inr ⟨by rfl, rfl⟩) ?_ ?_
           rotate_left
           ·simp only [Act.put, sa23, sz23, ss23, i64_w, i32_w]
            rfl
           refine pure_ (i:=10) (N:=some 90) (v:=undef) (a' := ?_) (bb23 17 2047) rfl rfl (any_of HT_.out (by kernel_rfl)) (fun _ _ _ h => h) (Or.inr ⟨by rfl, rfl⟩) ?_ ?_
           rotate_left
           ·simp only [Act.put, sa23, sz23, ss23, i64_w, i32_w]
            rfl
           refine pure_ (i:=11) (N:=some 91) (v:=undef) (a' := ?_) (bb23 17 4095) rfl rfl (any_of HT_.out (by kernel_rfl)) (fun _ _ _ h => h) (Or.inr ⟨by rfl, rfl⟩) ?_ ?_
           rotate_left
           ·simp only [Act.put, sa23, sz23, ss23, i64_w, i32_w]
            rfl
           refine pure_ (i:=12) (N:=some 92) (v:=undef) (a' := ?_) (bb23 17 8191) rfl rfl (any_of HT_.out (by kernel_rfl)) (fun _ _ _ h => h) (Or.inr ⟨by rfl, rfl⟩) ?_ ?_
           rotate_left
           ·simp only [Act.put, sa23, sz23, ss23, i64_w, i32_w]
            rfl
           refine pure_ (i:=13) (N:=some 93) (v:=undef) (a' := ?_) (bb23 17 16383) rfl rfl (any_of HT_.out (by kernel_rfl)) (fun _ _ _ h => h) (Or.inr ⟨by rfl, rfl⟩) ?_ ?_
           rotate_left
           ·simp only [Act.put, sa23, sz23, ss23, i64_w, i32_w]
            rfl
           refine pure_ (i:=14) (N:=some 94) (v:=undef) (a' := ?_) (bb23 17 32767) rfl rfl (any_of HT_.out (by kernel_rfl)) (fun _ _ _ h => h) (Or.inr ⟨by rfl, rfl⟩) ?_ ?_
           rotate_left
           ·simp only [Act.put, sa23, sz23, ss23, i64_w, i32_w]
            rfl
           refine pure_ (i:=15) (N:=some 95) (v:=?_) (a' := ?_) (bb23 17 65535) rfl rfl (any_of HT_.out (by kernel_rfl)) (fun _ _ _ h => h) (Or.inl ⟨by rfl, ?_⟩) ?_ ?_
           rotate_left
           ·intro w'
            go_simp
            with_reducible rfl
           rotate_left
           ·simp only [Act.put, sa23, sz23, ss23, i64_w, i32_w]
            rfl
           refine pure_ (i:=16) (N:=some 2) (v:=?_) (a' := ?_) (bb23 17 131071) rfl rfl (any_of HT_.out (by kernel_rfl)) (fun _ _ _ h => h) (Or.inl ⟨by rfl, ?_⟩) ?_ ?_
           rotate_left
           ·intro w'
            go_simp
            with_reducible rfl
           rotate_left
           ·simp only [Act.put, sa23, sz23, ss23, i64_w, i32_w]
            rfl
           refine done_ (done_of HT_.out (by kernel_rfl)) ?_
           try go_wp2
           go_ret
           exact ⟨by first | rfl | (simp [errW_none, errW_some] <;> rfl) | (simp [*, errW_none, errW_some] <;> rfl), by repeat (first | (with_reducible first | exact HB.out | apply ba23 | apply bn23 | apply bd23 | refine bs23 ?_ GE204.out) | exact HB.out)⟩
          ·replace c35 := Bool.eq_false_iff.mpr c35
           subst c35
           rw [if_neg (show ¬ (false = true) by decide)] at H
           replace H := Option.bind_eq_some_iff.mp H
           obtain ⟨t213, A380, H⟩ := H
           try dsimp only at H
           have A38 := Am23 A380
           clear A380
           replace H := Option.bind_eq_some_iff.mp H
           obtain ⟨t216, A390, H⟩ := H
           try dsimp only at H
           have A39 := Am23 A390
           clear A390
           obtain rfl := Option.some.inj H
           have hcz40_0 : wr.cell? ⟨gb204, 0, none⟩ = some (.slice A0_0 l0_0.length c0_0) := (kc23 BK204.out 0).trans rfl
           have hcz40_1 : wr.cell? ⟨gb204, 1, none⟩ = some (.slice A0_1 l0_1.length c0_1) := (kc23 BK204.out 1).trans rfl
           have hcz40_2 : wr.cell? ⟨gb204, 2, none⟩ = some (.slice A0_2 l0_2.length c0_2) := (kc23 BK204.out 2).trans rfl
           have hcz40_3 : wr.cell? ⟨gb204, 3, none⟩ = some (.slice A0_3 l0_3.length c0_3) := (kc23 BK204.out 3).trans rfl
           have hfz40_0 := kz23 BK204.out 0
           have hfz40_1 := kz23 BK204.out 1
           have hfz40_2 := kz23 BK204.out 2
           have hfz40_3 := kz23 BK204.out 3
           try go_wp2
           replace BK204 := Am23 (kd23 BK204.out)
           replace HB := Am23 (bd23 HB.out)
           refine start_ (n:=17) (S:=fun w' => w'.cell? ⟨gb204, 0, none⟩ = some (.slice A0_0 l0_0.length c0_0) ∧ w'.cell? ⟨gb204, 1, none⟩ = some (.slice A0_1 l0_1.length c0_1) ∧ w'.cell? ⟨gb204, 2, none⟩ = some (.slice A0_2 l0_2.length c0_2) ∧ w'.cell? ⟨gb204, 3, none⟩ = some (.slice A0_3 l0_3.length c0_3)) (ds:=[]) (bb23 17 0) (by kernel_rfl) rfl rfl ⟨(kc23 BK204.out 0).trans rfl, (kc23 BK204.out 1).trans rfl, (kc23 BK204.out 2).trans rfl, (kc23 BK204.out 3).trans rfl⟩ (fun hHeld => ?_); refine with_tabW watershedref06_Right.tab14 watershedref06_Right.bits14 (fun HT_ HW_ => ?_)
           generalize wr.drew = w41 at BK204 HB hHeld ⊢
           refine pure_ (i:=0) (N:=some 80) (v:=?_) (a' := ?_) (bb23 17 1) rfl rfl (any_of HT_.out (by kernel_rfl)) (fun _ _ _ h => h) (Or.inl ⟨by rfl, ?_⟩) ?_ ?_
           rotate_left
           ·intro w'
            go_simp
            with_reducible rfl
           rotate_left
           ·simp only [Act.put, sa23, sz23, ss23, i64_w, i32_w]
            rfl
           refine pure_ (i:=2) (N:=some 82) (v:=?_) (a' := ?_) (bb23 17 5) rfl rfl (any_of HT_.out (by kernel_rfl)) (fun _ _ _ h => h) (Or.inl ⟨by rfl, ?_⟩) ?_ ?_
           rotate_left
           ·intro w'
            go_simp
            with_reducible rfl
           rotate_left
           ·simp only [Act.put, sa23, sz23, ss23, i64_w, i32_w]
            rfl
           refine take_ (i:=1) (N:=some 81) (v:=?_) (a' := ?_) (bb23 17 7) rfl rfl (take_ofW HT_.out HW_.out (by kernel_rfl)) (fun _ _ _ h => h) (Or.inl ⟨by rfl, ?_⟩) hHeld ?_ ?_
           rotate_left
           ·rintro w' ⟨s0, s1, s2, s3⟩
            go_simp
            with_reducible rfl
           rotate_left
           ·simp only [Act.put, sa23, sz23, ss23, i64_w, i32_w]
            rfl
           refine take_ (i:=3) (N:=some 83) (v:=?_) (a' := ?_) (bb23 17 15) rfl rfl (take_ofW HT_.out HW_.out (by kernel_rfl)) (fun _ _ _ h => h) (Or.inl ⟨by rfl, ?_⟩) hHeld ?_ ?_
           rotate_left
           ·rintro w' ⟨s0, s1, s2, s3⟩
            go_simp
            with_reducible rfl
           rotate_left
           ·simp only [Act.put, sa23, sz23, ss23, i64_w, i32_w]
            rfl
           refine one_ (i:=4) (N:=some 84) (bb23 17 31) rfl rfl (one_of HT_.out (by kernel_rfl)) (by decide) (fun K hK => ?_)
           refine goes_ Try.func15 (by kernel_rfl) rfl #[.slice A0_3 l0_3.length c0_3, .slice A0_0 l0_0.length c0_0] (by rfl) rfl rfl (by (try simp only [ma23, mc23, mn23]); first | done | rfl | (simp only [ld23, lt_23]; rfl)) ?_
           with_reducible refine (watershedkit_SameInts.calls k2 _ _ l0_3 _ _ l0_0 false _ ?side1 ?side2 ?side3 ?side4 A34.out).mono ?_
           (case side1 => repeat (first | exact (Kd.C_below HR0_3.out HB.out) | (with_reducible refine Kd.C_alloc ?_ _) | (with_reducible refine Kd.C_drewN ?_ _) | (with_reducible refine Kd.C_drew ?_)))
           (case side2 => exact HC0_3.out)
           (case side3 => repeat (first | exact (Kd.C_below HR0_0.out HB.out) | (with_reducible refine Kd.C_alloc ?_ _) | (with_reducible refine Kd.C_drewN ?_ _) | (with_reducible refine Kd.C_drew ?_)))
           (case side4 => exact HC0_0.out)
           rintro e w' ⟨rfl, ⟨nd, rfl⟩⟩
           refine ⟨_, rfl, ?_⟩
           refine hK.out _ _ ⟨(kc23 BK204.out 0).trans rfl, (kc23 BK204.out 1).trans rfl, (kc23 BK204.out 2).trans rfl, (kc23 BK204.out 3).trans rfl⟩ (fun hHeld => ?_)
           clear hK K
           refine norm_ (a' := ?_) ?_ ?_
           rotate_left
           ·show Act.put _ (some 84) _ = _
            simp only [Act.put, sa23, sz23, ss23, i64_w, i32_w]
            rfl
           refine pure_ (i:=5) (N:=some 85) (v:=?_) (a' := ?_) (bb23 17 63) rfl rfl (any_of HT_.out (by kernel_rfl)) (fun _ _ _ h => h) (Or.inl ⟨by rfl, ?_⟩) ?_ ?_
           rotate_left
           ·intro w'
            go_simp
            with_reducible rfl
           rotate_left
           ·simp only [Act.put, sa23, sz23, ss23, i64_w, i32_w]
            rfl
           refine pure_ (i:=6) (N:=some 86) (v:=?_) (a' := ?_) (bb23 17 127) rfl rfl (any_of HT_.out (by kernel_rfl)) (fun _ _ _ h => h) (Or.inl ⟨by rfl, ?_⟩) ?_ ?_
           rotate_left
           ·intro w'
            go_simp
            with_reducible rfl
           rotate_left
           ·simp only [Act.put, sa23, sz23, ss23, i64_w, i32_w]
            rfl
           refine pure_ (i:=7) (N:=some 87) (v:=?_) (a' := ?_) (bb23 17 255) rfl rfl (any_of HT_.out (by kernel_rfl)) (fun _ _ _ h => h) (Or.inl ⟨by rfl, ?_⟩) ?_ ?_
           rotate_left
           ·intro w'
            go_simp
            with_reducible rfl
           rotate_left
           ·simp only [Act.put, sa23, sz23, ss23, i64_w, i32_w]
            rfl
           refine pure_ (i:=9) (N:=some 89) (v:=?_) (a' := ?_) (bb23 17 767) rfl rfl (any_of HT_.out (by kernel_rfl)) (fun _ _ _ h => h) (Or.inl ⟨by rfl, ?_⟩) ?_ ?_
           rotate_left
           ·intro w'
            go_simp
            with_reducible rfl
           rotate_left
           ·simp only [Act.put, sa23, sz23, ss23, i64_w, i32_w]
            rfl
           refine pure_ (i:=11) (N:=some 91) (v:=?_) (a' := ?_) (bb23 17 2815) rfl rfl (any_of HT_.out (by kernel_rfl)) (fun _ _ _ h => h) (Or.inl ⟨by rfl, ?_⟩) ?_ ?_
           rotate_left
           ·intro w'
            go_simp
            with_reducible rfl
           rotate_left
           ·simp only [Act.put, sa23, sz23, ss23, i64_w, i32_w]
            rfl
           refine take_ (i:=8) (N:=some 88) (v:=?_) (a' := ?_) (bb23 17 3071) rfl rfl (take_ofW HT_.out HW_.out (by kernel_rfl)) (fun _ _ _ h => h) (Or.inl ⟨by rfl, ?_⟩) hHeld ?_ ?_
           rotate_left
           ·rintro w' ⟨s0, s1, s2, s3⟩
            go_simp
            with_reducible rfl
           rotate_left
           ·simp only [Act.put, sa23, sz23, ss23, i64_w, i32_w]
            rfl
           refine take_ (i:=10) (N:=some 90) (v:=?_) (a' := ?_) (bb23 17 4095) rfl rfl (take_ofW HT_.out HW_.out (by kernel_rfl)) (fun _ _ _ h => h) (Or.inl ⟨by rfl, ?_⟩) hHeld ?_ ?_
           rotate_left
           ·rintro w' ⟨s0, s1, s2, s3⟩
            go_simp
            with_reducible rfl
           rotate_left
           ·simp only [Act.put, sa23, sz23, ss23, i64_w, i32_w]
            rfl
           refine take_ (i:=12) (N:=some 92) (v:=?_) (a' := ?_) (bb23 17 8191) rfl rfl (take_ofW HT_.out HW_.out (by kernel_rfl)) (fun _ _ _ h => h) (Or.inl ⟨by rfl, ?_⟩) hHeld ?_ ?_
           rotate_left
           ·rintro w' ⟨s0, s1, s2, s3⟩
            go_simp
            with_reducible rfl
           rotate_left
           ·simp only [Act.put, sa23, sz23, ss23, i64_w, i32_w]
            rfl
           refine one_ (i:=13) (N:=some 93) (bb23 17 16383) rfl rfl (one_of HT_.out (by kernel_rfl)) (by decide) (fun K hK => ?_)
           refine goes_ Try.func45 (by kernel_rfl) rfl #[.slice A0_3 l0_3.length c0_3, .slice A0_0 l0_0.length c0_0] (by rfl) rfl rfl (by (try simp only [ma23, mc23, mn23]); first | done | rfl | (simp only [ld23, lt_23]; rfl)) ?_
           with_reducible refine (watershedref06_less.calls k2 _ _ l0_3 _ _ l0_0 t213 _ ?side1 ?side2 ?side3 ?side4 A38.out).mono ?_
           (case side1 => repeat (first | exact (Kd.C_below HR0_3.out (by repeat (first | (with_reducible first | exact HB.out | apply ba23 | apply bn23 | apply bd23 | refine bs23 ?_ GE204.out) | exact HB.out))) | (with_reducible refine Kd.C_alloc ?_ _) | (with_reducible refine Kd.C_drewN ?_ _) | (with_reducible refine Kd.C_drew ?_)))
           (case side2 => exact HC0_3.out)
           (case side3 => repeat (first | exact (Kd.C_below HR0_0.out (by repeat (first | (with_reducible first | exact HB.out | apply ba23 | apply bn23 | apply bd23 | refine bs23 ?_ GE204.out) | exact HB.out))) | (with_reducible refine Kd.C_alloc ?_ _) | (with_reducible refine Kd.C_drewN ?_ _) | (with_reducible refine Kd.C_drew ?_)))
           (case side4 => exact HC0_0.out)
           rintro e w42 ⟨v214, rfl, ho0, hb⟩
           refine ⟨_, rfl, ?_⟩
           have n0_ := Am23 (Rl23 ho0 (bz23 (by repeat (first | (with_reducible first | exact HB.out | apply ba23 | apply bn23 | apply bd23 | refine bs23 ?_ GE204.out) | exact HB.out))))
           have n1_ := Am23 (kb23 (g:=gb204) (o:=.cells #[.slice A0_0 l0_0.length c0_0, .slice A0_1 l0_1.length c0_1, .slice A0_2 l0_2.length c0_2, .slice A0_3 l0_3.length c0_3] 24 (0, 0)) (by (with_reducible repeat first | apply kn23 | apply kd23 | apply ka23); exact BK204.out) hb)
           have n2_ := Am23 (bp23 (by repeat (first | (with_reducible first | exact HB.out | apply ba23 | apply bn23 | apply bd23 | refine bs23 ?_ GE204.out) | exact HB.out)) hb)
           clear BK204
           clear HB
           have HO215 := n0_
           have BK204 := n1_
           have HB := n2_
           clear n0_ n1_ n2_
           (try clear hb)
           (try clear hb2)
           (try clear hk)
           (try clear hi)
           (try clear ho0)
           obtain ⟨Ao43, co43, eo43⟩ := Kd.R_slice HO215.out
           (first | subst eo43 | (injection eo43 with f1_ f2_ f3_; have f4_ := f1_.symm; have f5_ := f3_.symm; clear f1_ f2_ f3_; subst f4_; subst f5_))
           refine hK.out _ _ ⟨(kc23 BK204.out 0).trans rfl, (kc23 BK204.out 1).trans rfl, (kc23 BK204.out 2).trans rfl, (kc23 BK204.out 3).trans rfl⟩ (fun hHeld => ?_)
           clear hK K
           refine norm_ (a' := ?_) ?_ ?_
           rotate_left
           ·show Act.put _ (some 93) _ = _
            simp only [Act.put, sa23, sz23, ss23, i64_w, i32_w]
            rfl
           refine one_ (i:=14) (N:=some 94) (bb23 17 32767) rfl rfl (one_of HT_.out (by kernel_rfl)) (by decide) (fun K hK => ?_)
           refine goes_ Try.func15 (by kernel_rfl) rfl #[.slice A0_2 l0_2.length c0_2, .slice Ao43 t213.length co43] (by rfl) rfl rfl (by (try simp only [ma23, mc23, mn23]); first | done | rfl | (simp only [ld23, lt_23]; rfl)) ?_
           with_reducible refine (watershedkit_SameInts.calls k2 _ _ l0_2 _ _ t213 t216 _ ?side1 ?side2 ?side3 ?side4 A39.out).mono ?_
           (case side1 => repeat (first | exact (Kd.C_below HR0_2.out HB.out) | (with_reducible refine Kd.C_alloc ?_ _) | (with_reducible refine Kd.C_drewN ?_ _) | (with_reducible refine Kd.C_drew ?_)))
           (case side2 => exact HC0_2.out)
           (case side3 => repeat (first | exact (Kd.R_reads' HO215.out).2.2 | (with_reducible refine Kd.C_alloc ?_ _) | (with_reducible refine Kd.C_drewN ?_ _) | (with_reducible refine Kd.C_drew ?_)))
           (case side4 => exact (Kd.R_reads' HO215.out).2.1)
           rintro e w' ⟨rfl, ⟨nd, rfl⟩⟩
           refine ⟨_, rfl, ?_⟩
           refine hK.out _ _ ⟨(kc23 BK204.out 0).trans rfl, (kc23 BK204.out 1).trans rfl, (kc23 BK204.out 2).trans rfl, (kc23 BK204.out 3).trans rfl⟩ (fun hHeld => ?_)
           clear hK K
           refine norm_ (a' := ?_) ?_ ?_
           rotate_left
           ·show Act.put _ (some 94) _ = _
            simp only [Act.put, sa23, sz23, ss23, i64_w, i32_w]
            rfl
           refine pure_ (i:=15) (N:=some 95) (v:=?_) (a' := ?_) (bb23 17 65535) rfl rfl (any_of HT_.out (by kernel_rfl)) (fun _ _ _ h => h) (Or.inl ⟨by rfl, ?_⟩) ?_ ?_
           rotate_left
           ·intro w'
            go_simp
            with_reducible rfl
           rotate_left
           ·simp only [Act.put, sa23, sz23, ss23, i64_w, i32_w]
            rfl
           refine pure_ (i:=16) (N:=some 2) (v:=?_) (a' := ?_) (bb23 17 131071) rfl rfl (any_of HT_.out (by kernel_rfl)) (fun _ _ _ h => h) (Or.inl ⟨by rfl, ?_⟩) ?_ ?_
           rotate_left
           ·intro w'
            go_simp
            with_reducible rfl
           rotate_left
           ·simp only [Act.put, sa23, sz23, ss23, i64_w, i32_w]
            rfl
           refine done_ (done_of HT_.out (by kernel_rfl)) ?_
           try go_wp2
           go_ret
           exact ⟨by first | rfl | (simp [errW_none, errW_some] <;> rfl) | (simp [*, errW_none, errW_some] <;> rfl), by repeat (first | (with_reducible first | exact HB.out | apply ba23 | apply bn23 | apply bd23 | refine bs23 ?_ GE204.out) | exact HB.out)⟩

end Go.Proofs.Ytkilmclncpmjnaa.P06t
