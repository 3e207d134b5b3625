-- Written by gprint.py, a program of this session, over the kit's print; the functions of my own contracts are marked GIVEN
import Derived.Test.YtbmnhpihlkljdaaZEP04ex0
import Derived.Test.YtbmnhpihlkljdaaZEP04ex3
import Derived.Test.YtbmnhpihlkljdaaZEP04ex4
import Derived.Test.YtbmnhpihlkljdaaZEP04ex11
namespace Go.Proofs.Ytbmnhpihlkljdaa.P04e
open Go.RowKit Go.Proofs.YtbmnhpihlkljdaaW.PrintWords Go.Proofs.YtbmnhpihlkljdaaW.PrintLast Go.Proofs.YtbmnhpihlkljdaaW.PrintMore
attribute [local go_sem] max2_str max2_int min2_int max_two min_two max_three min_three max_four min_four   -- for this text's walks alone
set_option linter.unusedVariables false
set_option linter.unusedSimpArgs false

abbrev bb3 (n m : Nat) : Array Bool := ((List.range n).map fun i => m.testBit i).toArray
theorem Am3 : type_of% @Aside0.mk := @Aside0.mk
theorem Ra3 : type_of% @Kd.R_alloc := @Kd.R_alloc
theorem Rn3 : type_of% @Kd.R_drewN := @Kd.R_drewN
theorem Rd3 : type_of% @Kd.R_drew := @Kd.R_drew
theorem Ro3 : type_of% @Kd.R_mono := @Kd.R_mono
theorem Rb3 : type_of% @Kd.R_below := @Kd.R_below
theorem ba3 : type_of% @below_alloc := @below_alloc
theorem bn3 : type_of% @pw_below_drewN := @pw_below_drewN
theorem bd3 : type_of% @below_drew1 := @below_drew1
theorem Re3 : type_of% @Kd.R_elder' := @Kd.R_elder'
theorem Rw3 : type_of% @Kd.R_new' := @Kd.R_new'
theorem Rl3 : type_of% @Kd.R_lower := @Kd.R_lower
theorem Ra_3 : type_of% @Kd.R_base := @Kd.R_base
theorem Rt3 : type_of% @Kd.R_lt := @Kd.R_lt
theorem bz3 : type_of% @below_size := @below_size
theorem bp3 : type_of% @below_step := @below_step
theorem sa3 : type_of% @List.setIfInBounds_toArray := @List.setIfInBounds_toArray
theorem sz3 : type_of% @List.set_cons_zero := @List.set_cons_zero
theorem ss3 : type_of% @List.set_cons_succ := @List.set_cons_succ
theorem ma3 : type_of% @List.map_toArray := @List.map_toArray
theorem mc3 : type_of% @List.map_cons := @List.map_cons
theorem mn3 : type_of% @List.map_nil := @List.map_nil
theorem ld3 : type_of% @List.length_drop := @List.length_drop
theorem lt_3 : type_of% @List.length_take := @List.length_take
/-! ### watershedlaw04_SpanParts: function 3 -/
def watershedlaw04_SpanParts.l0 : Nat → List (S26) → List ByteArray → Int → Option (Bool)
 | 0, _, _, _ => none
 | k + 1, x0, x3, x4 => if x4 < (x0.length : Int) then (if x4 < 31 then (if 0 ≤ x4 then ((some (([(rd_T26 x0 x4).f0, (rd_T26 x0 x4).f1] : List ByteArray) : List ByteArray)).bind fun y285 => (if x3.length + y285.length < 8796093022208 then (watershedlaw04_SpanParts.l0 k x0 (x3 ++ y285) (wrap64 (x4 + 1))) else (none))) else (none)) else ((watershedlaw04_few.f k x3).bind fun t291 => (if t291 = true then (if (x0.length : Int) > 30 then (some true) else ((span_Parts.f k x0).bind fun t292 => ((watershedref04_Parts.f k x0).bind fun t293 => (some (t292 == t293))))) else (some true)))) else ((watershedlaw04_few.f k x3).bind fun t294 => (if t294 = true then (if (x0.length : Int) > 30 then (some true) else ((span_Parts.f k x0).bind fun t295 => ((watershedref04_Parts.f k x0).bind fun t296 => (some (t295 == t296))))) else (some true)))
def watershedlaw04_SpanParts.f (k : Nat) (l0 : List (S26)) : Option (Bool) := (watershedlaw04_awake.f k).bind fun t282 => (if t282 = true then (watershedlaw04_SpanParts.l0 k l0 ([] : List ByteArray) 0) else (none))
theorem watershedlaw04_SpanParts.mono_l : ∀ k, (∀ y0 y1 y2, LeO (watershedlaw04_SpanParts.l0 k y0 y1 y2) (watershedlaw04_SpanParts.l0 (k + 1) y0 y1 y2))
 | 0 => fun _ _ _ r h => by simp [watershedlaw04_SpanParts.l0] at h
 | k + 1 => by
  have ih0 := watershedlaw04_SpanParts.mono_l k
  ·intro y0 y1 y2
   unfold watershedlaw04_SpanParts.l0
   repeat' first
   | (with_reducible exact ih0 _ _ _)
   | (with_reducible exact span_Parts.mono _ _)
   | (with_reducible exact watershedlaw04_awake.mono _)
   | (with_reducible exact watershedlaw04_few.mono _ _)
   | (with_reducible exact watershedref04_Parts.mono _ _)
   | (with_reducible exact LeO.refl _)
   | (with_reducible exact LeO.none _)
   | (with_reducible refine LeO.ite ?_ ?_)
   | (with_reducible refine LeO.bind ?_ (fun _ => ?_))
   | exact ih0 _ _ _
   | exact span_Parts.mono _ _
   | exact watershedlaw04_awake.mono _
   | exact watershedlaw04_few.mono _ _
   | exact watershedref04_Parts.mono _ _
   | exact LeO.none _
   | refine LeO.ite ?_ ?_
   | refine LeO.bind ?_ (fun _ => ?_)
theorem watershedlaw04_SpanParts.mono : ∀ a0 k, LeO (watershedlaw04_SpanParts.f k a0) (watershedlaw04_SpanParts.f (k + 1) a0) := by
 intro a0 k
 have ih0 := watershedlaw04_SpanParts.mono_l k
 unfold watershedlaw04_SpanParts.f
 repeat' first
   | (with_reducible exact ih0 _ _ _)
   | (with_reducible exact span_Parts.mono _ _)
   | (with_reducible exact watershedlaw04_awake.mono _)
   | (with_reducible exact watershedlaw04_few.mono _ _)
   | (with_reducible exact watershedref04_Parts.mono _ _)
   | (with_reducible exact LeO.refl _)
   | (with_reducible exact LeO.none _)
   | (with_reducible refine LeO.ite ?_ ?_)
   | (with_reducible refine LeO.bind ?_ (fun _ => ?_))
   | exact ih0 _ _ _
   | exact span_Parts.mono _ _
   | exact watershedlaw04_awake.mono _
   | exact watershedlaw04_few.mono _ _
   | exact watershedref04_Parts.mono _ _
   | exact LeO.none _
   | refine LeO.ite ?_ ?_
   | refine LeO.bind ?_ (fun _ => ?_)
def watershedlaw04_SpanParts.T7 : Bool × List (List Nat × List Nat) := (true, [([], []), ([], []), ([], []), ([1, 2], [1, 2]), ([3], [3]), ([4], [4]), ([], []), ([], []), ([6, 7], [6, 7]), ([8], [8]), ([9], [9]), ([5, 10], [5, 10]), ([0, 11], [0, 11]), ([12, 12, 0, 1, 2, 3, 4, 5, 6, 7, 8, 9, 10, 11, 12], [0, 12])])
def watershedlaw04_SpanParts.B7 : List Nat := [0, 0, 0, 6, 14, 30, 0, 0, 192, 448, 960, 2046, 4095, 8191]
theorem watershedlaw04_SpanParts.tab7 : rtab .any (opsOf Try.f3 7) = watershedlaw04_SpanParts.T7 := by kernel_rfl
theorem watershedlaw04_SpanParts.bits7 : waitsOk watershedlaw04_SpanParts.T7.2 watershedlaw04_SpanParts.B7 = true := by kernel_rfl
set_option maxHeartbeats 8000000 in
set_option maxRecDepth 100000 in
theorem watershedlaw04_SpanParts.calls (k : Nat) (A0 : Option Addr) (c0 : Nat) (l0 : List (S26)) (r : Bool) (w : World) (hr0 : Kd.C k26 w A0 l0.length l0) (hc0 : l0.length ≤ c0) (h : watershedlaw04_SpanParts.f k l0 = some r) :
  Calls Try.prog 3 #[.slice A0 l0.length c0] w fun e w' => e = .returned (.bool r) ∧ Below w.heap.size w w' := by
 have HR0 := Am3 hr0
 have HC0 := Am3 hc0
 clear hr0 hc0
 have HB := Am3 (Below.refl w.heap.size w)
 have H : ((watershedlaw04_awake.f k).bind fun t282 => (if t282 = true then (watershedlaw04_SpanParts.l0 k l0 ([] : List ByteArray) 0) else (none))) = some r := h
 clear h
 replace H := Option.bind_eq_some_iff.mp H
 obtain ⟨t282, A20, H⟩ := H
 try dsimp only at H
 have A2 := Am3 A20
 clear A20
 by_cases c3 : t282 = true
 ·subst c3
  rw [if_pos rfl] at H
  have H' := Am3 H
  clear H
  go_enter Try.func3, Try.ntmps3
  go_wp2_with (first | ((with_reducible refine gate_callee (f:=8) rfl ?_); refine goesL_ (some 5) rfl rfl Try.func8 (by kernel_rfl) rfl #[] rfl (by (try simp only [ma3, mc3, mn3]); first | done | rfl | (simp only [ld3, lt_3]; rfl)) ?_; (with_reducible refine (watershedlaw04_awake.calls k  true _ A2.out).mono ?_); rintro e w4 ⟨rfl, hb⟩; refine ⟨_, rfl, ?_⟩; replace HB := Am3 (bp3 (by repeat (first | (with_reducible first | exact HB.out | apply ba3 | apply bn3 | apply bd3) | exact HB.out)) hb); (try clear hb); (try clear hb2); (try clear hk); (try clear hi)))
  go_loopg [3, 4] k (fun kq v3 v4 w' => ∃ (x3_1 : List ByteArray) (x4_1 : Int), v4 = .int .i64 x4_1 ∧ Aside0 (watershedlaw04_SpanParts.l0 kq l0 x3_1 x4_1 = some r) ∧ Aside0 (kq ≤ k) ∧ Aside0 (Kd.R Kd.string 9 w' w.heap.size (fun _ => True) v3 x3_1) ∧ Aside0 (Below w.heap.size w w'))
  case atStart => exact ⟨(([] : List ByteArray)), (0), (by first | rfl | (simp; done) | (simp [*]; done)), H', ⟨Nat.le_refl _⟩, ⟨by first | exact Kd.R_nil _ _ _ _ _ | exact Kd.N_nil _ _ _ _ _ | exact Kd.V_nil _ _ _ _ _ | exact Kd.Q_nil _ _ _ _ _ | exact Kd.S_nil _ _ _ _ _⟩, ⟨by repeat (first | (with_reducible first | exact HB.out | apply ba3 | apply bn3 | apply bd3) | exact HB.out)⟩⟩
  case round =>
   clear H'
   try clear p2
   try clear c3
   obtain ⟨x3_1, x4_1, rfl, HA, HK1, HO_3, HB⟩ := hrel
   cases gk with
   | zero => exact absurd HA.out (by simp [watershedlaw04_SpanParts.l0])
   | succ k1 =>
    have H := HA.out
    clear HA
    simp only [watershedlaw04_SpanParts.l0] at H
    by_cases c5 : x4_1 < (l0.length : Int)
    ·rw [if_pos c5] at H
     have c5b0 : decide (x4_1 < (l0.length : Int)) = true := decide_eq_true c5
     clear c5
     by_cases c6 : x4_1 < 31
     ·rw [if_pos c6] at H
      have c6b0 : decide (x4_1 < 31) = true := decide_eq_true c6
      clear c6
      by_cases c7 : 0 ≤ x4_1
      ·rw [if_pos c7] at H
       have c7b0 : decide (0 ≤ x4_1) = true := decide_eq_true c7
       clear c7
       obtain ⟨y285, hy285⟩ : ∃ y_ : List ByteArray, y_ = (([(rd_T26 l0 x4_1).f0, (rd_T26 l0 x4_1).f1] : List ByteArray)) := ⟨_, rfl⟩
       replace H : (if x3_1.length + y285.length < 8796093022208 then (watershedlaw04_SpanParts.l0 k1 l0 (x3_1 ++ y285) (wrap64 (x4_1 + 1))) else (none)) = some r := by first | (rw [hy285]; with_reducible exact H) | (have H2_ := (Option.bind_some _ _).symm.trans H; rw [hy285]; with_reducible exact H2_) | (have H2_ := (Option.bind_some _ _).symm.trans H; with_reducible exact H2_) | with_reducible exact H | (rw [hy285]; exact H) | exact H
       have Ny285 := Am3 hy285
       clear hy285
       by_cases c8 : x3_1.length + y285.length < 8796093022208
       ·rw [if_pos c8] at H
        have LMc8 := Am3 c8
        clear c8
        obtain ⟨y288, hy288⟩ : ∃ y_ : List ByteArray, y_ = (x3_1 ++ y285) := ⟨_, rfl⟩
        replace H : (watershedlaw04_SpanParts.l0 k1 l0 y288 (wrap64 (x4_1 + 1))) = some r := by first | (rw [hy288]; with_reducible exact H) | (have H2_ := (Option.bind_some _ _).symm.trans H; rw [hy288]; with_reducible exact H2_) | (have H2_ := (Option.bind_some _ _).symm.trans H; with_reducible exact H2_) | with_reducible exact H | (rw [hy288]; exact H) | exact H
        have Ny288 := Am3 hy288
        clear hy288
        have H' := Am3 H
        clear H
        try go_wp2
        replace HO_3 := Am3 (Rd3 HO_3.out)
        replace HB := Am3 (bd3 HB.out)
        have p283 : 0 ≤ (x4_1 : Int) := of_decide_eq_true (by first | (with_reducible assumption) | assumption)
        have q283 : x4_1 < (l0.length : Int) := of_decide_eq_true (by first | (with_reducible assumption) | assumption)
        obtain ⟨ad283, e283, hx283_0, hx283_1⟩ := at_T26 HR0.out x4_1 p283 q283
        have hw283_1 := hx283_1
        have hw283_0 := hx283_0
        cases e283
        replace hx283_0 := (HB.out.cell (World.block_lt_of_cell? w _ hx283_0)).trans hx283_0
        replace hx283_1 := (HB.out.cell (World.block_lt_of_cell? w _ hx283_1)).trans hx283_1
        replace p283 := eq_true p283
        replace q283 := eq_true q283
        have p284 : 0 ≤ (x4_1 : Int) := of_decide_eq_true (by first | (with_reducible assumption) | assumption)
        have q284 : x4_1 < (l0.length : Int) := of_decide_eq_true (by first | (with_reducible assumption) | assumption)
        obtain ⟨ad284, e284, hx284_0, hx284_1⟩ := at_T26 HR0.out x4_1 p284 q284
        have hw284_1 := hx284_1
        have hw284_0 := hx284_0
        obtain rfl : ad283 = ad284 := (by injection e284)
        replace hx284_0 := (HB.out.cell (World.block_lt_of_cell? w _ hx284_0)).trans hx284_0
        replace hx284_1 := (HB.out.cell (World.block_lt_of_cell? w _ hx284_1)).trans hx284_1
        replace p284 := eq_true p284
        replace q284 := eq_true q284
        refine start_ (n:=14) (S:=fun w' => w'.cell? (ad283.add ((x4_1).toNat * 2)) = some (.string ((rd_T26 l0 x4_1).f0)) ∧ w'.cell? ⟨(ad283.add ((x4_1).toNat * 2)).block, (ad283.add ((x4_1).toNat * 2)).off + 1, none⟩ = some (.string ((rd_T26 l0 x4_1).f1)) ∧ w'.cell? (ad283.add ((x4_1).toNat * 2)) = some (.string ((rd_T26 l0 x4_1).f0)) ∧ w'.cell? ⟨(ad283.add ((x4_1).toNat * 2)).block, (ad283.add ((x4_1).toNat * 2)).off + 1, none⟩ = some (.string ((rd_T26 l0 x4_1).f1))) (ds:=[]) (bb3 14 0) (by kernel_rfl) rfl rfl ⟨((HB.out.cell (World.block_lt_of_cell? w _ hw283_0)).trans hw283_0), ((HB.out.cell (World.block_lt_of_cell? w _ hw283_1)).trans hw283_1), ((HB.out.cell (World.block_lt_of_cell? w _ hw284_0)).trans hw284_0), ((HB.out.cell (World.block_lt_of_cell? w _ hw284_1)).trans hw284_1)⟩ (fun hHeld => ?_); refine with_tabW watershedlaw04_SpanParts.tab7 watershedlaw04_SpanParts.bits7 (fun HT_ HW_ => ?_)
        generalize wr.drew = w9 at HO_3 HB hx283_0 hx283_1 hx284_0 hx284_1 hHeld ⊢
        refine pure_ (i:=0) (N:=some 17) (v:=?_) (a' := ?_) (bb3 14 1) rfl rfl (any_of HT_.out (by kernel_rfl)) (fun _ _ _ h => h) (Or.inl ⟨by rfl, ?_⟩) ?_ ?_
        rotate_left
        ·intro w'
         go_simp
         with_reducible rfl
        rotate_left
        ·simp only [Act.put, sa3, sz3, ss3, i64_w, i32_w]
         rfl
        refine pure_ (i:=1) (N:=some 18) (v:=?_) (a' := ?_) (bb3 14 3) rfl rfl (any_of HT_.out (by kernel_rfl)) (fun _ _ _ h => h) (Or.inl ⟨by rfl, ?_⟩) ?_ ?_
        rotate_left
        ·intro w'
         go_simp
         with_reducible rfl
        rotate_left
        ·simp only [Act.put, sa3, sz3, ss3, i64_w, i32_w]
         rfl
        refine pure_ (i:=2) (N:=some 19) (v:=?_) (a' := ?_) (bb3 14 7) rfl rfl (any_of HT_.out (by kernel_rfl)) (fun _ _ _ h => h) (Or.inl ⟨by rfl, ?_⟩) ?_ ?_
        rotate_left
        ·intro w'
         go_simp
         with_reducible rfl
        rotate_left
        ·simp only [Act.put, sa3, sz3, ss3, i64_w, i32_w]
         rfl
        refine pure_ (i:=3) (N:=some 20) (v:=?_) (a' := ?_) (bb3 14 15) rfl rfl (any_of HT_.out (by kernel_rfl)) (fun _ _ _ h => h) (Or.inl ⟨by rfl, ?_⟩) ?_ ?_
        rotate_left
        ·intro w'
         go_simp
         with_reducible rfl
        rotate_left
        ·simp only [Act.put, sa3, sz3, ss3, i64_w, i32_w]
         rfl
        refine pure_ (i:=4) (N:=some 21) (v:=?_) (a' := ?_) (bb3 14 31) rfl rfl (any_of HT_.out (by kernel_rfl)) (fun _ _ _ h => h) (Or.inl ⟨by rfl, ?_⟩) ?_ ?_
        rotate_left
        ·intro w'
         go_simp
         with_reducible rfl
        rotate_left
        ·simp only [Act.put, sa3, sz3, ss3, i64_w, i32_w]
         rfl
        refine pure_ (i:=6) (N:=some 23) (v:=?_) (a' := ?_) (bb3 14 95) rfl rfl (any_of HT_.out (by kernel_rfl)) (fun _ _ _ h => h) (Or.inl ⟨by rfl, ?_⟩) ?_ ?_
        rotate_left
        ·intro w'
         go_simp
         with_reducible rfl
        rotate_left
        ·simp only [Act.put, sa3, sz3, ss3, i64_w, i32_w]
         rfl
        refine pure_ (i:=7) (N:=some 24) (v:=?_) (a' := ?_) (bb3 14 223) rfl rfl (any_of HT_.out (by kernel_rfl)) (fun _ _ _ h => h) (Or.inl ⟨by rfl, ?_⟩) ?_ ?_
        rotate_left
        ·intro w'
         go_simp
         with_reducible rfl
        rotate_left
        ·simp only [Act.put, sa3, sz3, ss3, i64_w, i32_w]
         rfl
        refine pure_ (i:=8) (N:=some 25) (v:=?_) (a' := ?_) (bb3 14 479) rfl rfl (any_of HT_.out (by kernel_rfl)) (fun _ _ _ h => h) (Or.inl ⟨by rfl, ?_⟩) ?_ ?_
        rotate_left
        ·intro w'
         go_simp
         with_reducible rfl
        rotate_left
        ·simp only [Act.put, sa3, sz3, ss3, i64_w, i32_w]
         rfl
        refine pure_ (i:=9) (N:=some 26) (v:=?_) (a' := ?_) (bb3 14 991) rfl rfl (any_of HT_.out (by kernel_rfl)) (fun _ _ _ h => h) (Or.inl ⟨by rfl, ?_⟩) ?_ ?_
        rotate_left
        ·intro w'
         go_simp
         with_reducible rfl
        rotate_left
        ·simp only [Act.put, sa3, sz3, ss3, i64_w, i32_w]
         rfl
        refine take_ (i:=5) (N:=some 22) (v:=?_) (a' := ?_) (bb3 14 1023) rfl rfl (take_ofW HT_.out HW_.out (by kernel_rfl)) (fun _ _ _ h => h) (Or.inl ⟨by rfl, ?_⟩) hHeld ?_ ?_
        rotate_left
        ·rintro w' ⟨s0, s1, s2, s3⟩
         go_simp
         with_reducible rfl
        rotate_left
        ·simp only [Act.put, sa3, sz3, ss3, i64_w, i32_w]
         rfl
        refine take_ (i:=10) (N:=some 27) (v:=?_) (a' := ?_) (bb3 14 2047) rfl rfl (take_ofW HT_.out HW_.out (by kernel_rfl)) (fun _ _ _ h => h) (Or.inl ⟨by rfl, ?_⟩) hHeld ?_ ?_
        rotate_left
        ·rintro w' ⟨s0, s1, s2, s3⟩
         go_simp
         with_reducible rfl
        rotate_left
        ·simp only [Act.put, sa3, sz3, ss3, i64_w, i32_w]
         rfl
        refine one_ (i:=11) (N:=some 28) (bb3 14 4095) rfl rfl (one_of HT_.out (by kernel_rfl)) (by decide) (fun K hK => ?_)
        refine Kd.R_lit_step Kd.string _ 9 ?hg (N:=28) ?hd (xs:=([(rd_T26 l0 x4_1).f0, (rd_T26 l0 x4_1).f1] : List ByteArray)) (inner:=[.string ((rd_T26 l0 x4_1).f0), .string ((rd_T26 l0 x4_1).f1)]) (ok:=fun _ => True) (okp:=fun _ => True) ?hr ?hp (fun _ hk => hk) trivial (Below.refl _ _) (Nat.le_refl _) (by simp) ?_; (case hd => rfl); (case hg => rfl); (case hr => first | (go_simp; done) | (go_simp; rfl)); (case hp => exact (Reps.one (show Kd.M Kd.string _ _ _ ((rd_T26 l0 x4_1).f0) [.string ((rd_T26 l0 x4_1).f0)] from rfl) (Reps.one (show Kd.M Kd.string _ _ _ ((rd_T26 l0 x4_1).f1) [.string ((rd_T26 l0 x4_1).f1)] from rfl) (Reps.none _ _))))
        intro v286 w10 ho11 hb hg_ hnew_
        clear hg_ hnew_
        (first | rw [← Ny285.out] at ho11 | (simp only [Int.reduceToNat] at ho11; rw [← Ny285.out] at ho11))
        have HO287 := Am3 (Rl3 (Rw3 ho11 (Rt3 (by (with_reducible repeat first | apply Ra3 | apply Rn3 | apply Rd3); exact HO_3.out))) (bz3 (by repeat (first | (with_reducible first | exact HB.out | apply ba3 | apply bn3 | apply bd3) | exact HB.out))))
        replace HO_3 := Am3 (Re3 (by (with_reducible repeat first | apply Ra3 | apply Rn3 | apply Rd3); exact HO_3.out) (Ra_3 ho11) hb)
        replace HB := Am3 (bp3 (by repeat (first | (with_reducible first | exact HB.out | apply ba3 | apply bn3 | apply bd3) | exact HB.out)) hb)
        clear hb ho11
        obtain ⟨Ao13, co13, eo13⟩ := Kd.R_slice HO287.out
        (first | subst eo13 | (injection eo13 with f1_ f2_ f3_; have f4_ := f1_.symm; have f5_ := f3_.symm; clear f1_ f2_ f3_; subst f4_; subst f5_))
        refine hK.out _ _ ⟨((HB.out.cell (World.block_lt_of_cell? w _ hw283_0)).trans hw283_0), ((HB.out.cell (World.block_lt_of_cell? w _ hw283_1)).trans hw283_1), ((HB.out.cell (World.block_lt_of_cell? w _ hw284_0)).trans hw284_0), ((HB.out.cell (World.block_lt_of_cell? w _ hw284_1)).trans hw284_1)⟩ (fun hHeld => ?_)
        clear hK K
        refine norm_ (a' := ?_) ?_ ?_
        rotate_left
        ·show Act.put _ (some 28) _ = _
         simp only [Act.put, sa3, sz3, ss3, i64_w, i32_w]
         rfl
        refine one_ (i:=12) (N:=some 29) (bb3 14 8191) rfl rfl (one_of HT_.out (by kernel_rfl)) (by decide) (fun K hK => ?_)
        refine Kd.R_append_rows_step Kd.string (w0:=w) w.heap.size (by rfl) (.tmp 17) (.tmp 28) 24 9 (.string ⟨#[]⟩) 16 rfl Try.underlying24 info9 rfl (by decide) (by omega) u3 x3_1 y285 _ _ _ (fun k_ => some k_ ≠ (.slice Ao13 y285.length co13 : Value).ownBlock) (fun _ => False) rfl rfl ?aO ?aR (fun _ _ h => h) (fun _ h => h.elim) ?aF ?aB ?aS ?aL ?_
        (case aR => repeat (first | exact (Kd.R_reads' HO287.out).2.2 | (with_reducible refine Kd.C_alloc ?_ _) | (with_reducible refine Kd.C_drewN ?_ _) | (with_reducible refine Kd.C_drew ?_)))
        (case aB => exact (by repeat (first | (with_reducible first | exact HB.out | apply ba3 | apply bn3 | apply bd3) | exact HB.out)))
        (case aF => exact (fun k_ hk => Kd.fresh' (Rt3 (by (with_reducible repeat first | apply Ra3 | apply Rn3 | apply Rd3); exact HO287.out)) k_ hk))
        (case aO => exact (by (with_reducible repeat first | apply Ra3 | apply Rn3 | apply Rd3); exact Ro3 HO_3.out (fun _ h=>h.2)))
        (case aS => exact (bz3 (by repeat (first | (with_reducible first | exact HB.out | apply ba3 | apply bn3 | apply bd3) | exact HB.out))))
        (case aL => have := LMc8.out; omega)
        intro v289 w12 ho hb hg hat
        rw [← Ny288.out] at ho
        have n0_ := Am3 (Kd.R_after (ok:=(fun _ => True)) (by (with_reducible repeat first | apply Ra3 | apply Rn3 | apply Rd3); exact HO287.out) hg hat)
        have n1_ := Am3 (hb)
        have n2_ := Am3 (ho)
        clear HO287
        clear HB
        clear HO_3
        have HO287 := n0_
        have HB := n1_
        have HO290 := n2_
        clear n0_ n1_ n2_
        clear ho hb hg hat
        refine hK.out _ _ ⟨((HB.out.cell (World.block_lt_of_cell? w _ hw283_0)).trans hw283_0), ((HB.out.cell (World.block_lt_of_cell? w _ hw283_1)).trans hw283_1), ((HB.out.cell (World.block_lt_of_cell? w _ hw284_0)).trans hw284_0), ((HB.out.cell (World.block_lt_of_cell? w _ hw284_1)).trans hw284_1)⟩ (fun hHeld => ?_)
        clear hK K
        refine norm_ (a' := ?_) ?_ ?_
        rotate_left
        ·show Act.put _ (some 29) _ = _
         simp only [Act.put, sa3, sz3, ss3, i64_w, i32_w]
         rfl
        refine pure_ (i:=13) (N:=some 3) (v:=?_) (a' := ?_) (bb3 14 16383) rfl rfl (any_of HT_.out (by kernel_rfl)) (fun _ _ _ h => h) (Or.inl ⟨by rfl, ?_⟩) ?_ ?_
        rotate_left
        ·intro w'
         go_simp
         with_reducible rfl
        rotate_left
        ·simp only [Act.put, sa3, sz3, ss3, i64_w, i32_w]
         rfl
        refine done_ (done_of HT_.out (by kernel_rfl)) ?_
        try go_wp2
        go_roundg k1
        case measure => have := HK1.out; omega
        case rel => exact ⟨(y288), (wrap64 (x4_1 + 1)), (by first | rfl | (simp; done) | (simp [*]; done)), H', ⟨by have := HK1.out; omega⟩, ⟨by (with_reducible repeat first | apply Ra3 | apply Rn3 | apply Rd3); exact Ro3 HO290.out (fun _ hk => trivial)⟩, ⟨by repeat (first | (with_reducible first | exact HB.out | apply ba3 | apply bn3 | apply bd3) | exact HB.out)⟩⟩
       ·rw [if_neg c8] at H
        exact absurd H (by simp)
      ·rw [if_neg c7] at H
       exact absurd H (by simp)
     ·rw [if_neg c6] at H
      have c6b0 : decide (x4_1 < 31) = false := decide_eq_false c6
      clear c6
      replace H := Option.bind_eq_some_iff.mp H
      obtain ⟨t291, A140, H⟩ := H
      try dsimp only at H
      have A14 := Am3 A140
      clear A140
      by_cases c15 : t291 = true
      ·subst c15
       rw [if_pos rfl] at H
       by_cases c16 : (l0.length : Int) > 30
       ·rw [if_pos c16] at H
        have c16b0 : decide (30 < (l0.length : Int)) = true := decide_eq_true c16
        have c16b1 : decide (30 < l0.length) = true := decide_eq_true (by omega)
        clear c16
        obtain rfl := Option.some.inj H
        obtain ⟨Ao17, co17, eo17⟩ := Kd.R_slice HO_3.out
        subst eo17
        go_wp2_with (first | ((with_reducible refine gate_callee (f:=9) rfl ?_); refine goesL_ (some 31) rfl rfl Try.func9 (by kernel_rfl) rfl #[.slice Ao17 x3_1.length co17] rfl (by (try simp only [ma3, mc3, mn3]); first | done | rfl | (simp only [ld3, lt_3]; rfl)) ?_; (with_reducible refine (watershedlaw04_few.calls k1 _ _ x3_1 true _ ?side1 ?side2 A14.out).mono ?_); (case side1 => repeat (first | exact (Kd.R_reads' HO_3.out).2.2 | (with_reducible refine Kd.C_alloc ?_ _) | (with_reducible refine Kd.C_drewN ?_ _) | (with_reducible refine Kd.C_drew ?_))); (case side2 => exact (Kd.R_reads' HO_3.out).2.1); rintro e w' ⟨rfl, ⟨nd, rfl⟩⟩; refine ⟨_, rfl, ?_⟩))
        go_ret
        exact ⟨by first | rfl | (simp [errW_none, errW_some] <;> rfl) | (simp [*, errW_none, errW_some] <;> rfl), by repeat (first | (with_reducible first | exact HB.out | apply ba3 | apply bn3 | apply bd3) | exact HB.out)⟩
       ·rw [if_neg c16] at H
        have c16b0 : decide (30 < (l0.length : Int)) = false := decide_eq_false c16
        have c16b1 : decide (30 < l0.length) = false := decide_eq_false (by omega)
        clear c16
        replace H := Option.bind_eq_some_iff.mp H
        obtain ⟨t292, A180, H⟩ := H
        try dsimp only at H
        have A18 := Am3 A180
        clear A180
        replace H := Option.bind_eq_some_iff.mp H
        obtain ⟨t293, A190, H⟩ := H
        try dsimp only at H
        have A19 := Am3 A190
        clear A190
        obtain rfl := Option.some.inj H
        obtain ⟨Ao20, co20, eo20⟩ := Kd.R_slice HO_3.out
        subst eo20
        go_wp2_with (first | ((with_reducible refine gate_callee (f:=9) rfl ?_); refine goesL_ (some 31) rfl rfl Try.func9 (by kernel_rfl) rfl #[.slice Ao20 x3_1.length co20] rfl (by (try simp only [ma3, mc3, mn3]); first | done | rfl | (simp only [ld3, lt_3]; rfl)) ?_; (with_reducible refine (watershedlaw04_few.calls k1 _ _ x3_1 true _ ?side1 ?side2 A14.out).mono ?_); (case side1 => repeat (first | exact (Kd.R_reads' HO_3.out).2.2 | (with_reducible refine Kd.C_alloc ?_ _) | (with_reducible refine Kd.C_drewN ?_ _) | (with_reducible refine Kd.C_drew ?_))); (case side2 => exact (Kd.R_reads' HO_3.out).2.1); rintro e w' ⟨rfl, ⟨nd, rfl⟩⟩; refine ⟨_, rfl, ?_⟩) | (go_at_call 10; (with_reducible refine (span_Parts.calls k1 _ _ l0 t292 _ ?side1 ?side2 A18.out).mono ?_); (case side1 => repeat (first | exact (Kd.C_below HR0.out (by repeat (first | (with_reducible first | exact HB.out | apply ba3 | apply bn3 | apply bd3) | exact HB.out))) | (with_reducible refine Kd.C_alloc ?_ _) | (with_reducible refine Kd.C_drewN ?_ _) | (with_reducible refine Kd.C_drew ?_))); (case side2 => exact HC0.out); rintro e w21 ⟨rfl, hb⟩; replace HO_3 := Am3 (Rb3 (by (with_reducible repeat first | apply Ra3 | apply Rn3 | apply Rd3); exact HO_3.out) hb); replace HB := Am3 (bp3 (by repeat (first | (with_reducible first | exact HB.out | apply ba3 | apply bn3 | apply bd3) | exact HB.out)) hb); (try clear hb); (try clear hb2); (try clear hk); (try clear hi)) | (go_at_call 11; (with_reducible refine (watershedref04_Parts.calls k1 _ _ l0 t293 _ ?side1 ?side2 A19.out).mono ?_); (case side1 => repeat (first | exact (Kd.C_below HR0.out HB.out) | (with_reducible refine Kd.C_alloc ?_ _) | (with_reducible refine Kd.C_drewN ?_ _) | (with_reducible refine Kd.C_drew ?_))); (case side2 => exact HC0.out); rintro e w22 ⟨rfl, hb⟩; replace HO_3 := Am3 (Rb3 (by (with_reducible repeat first | apply Ra3 | apply Rn3 | apply Rd3); exact HO_3.out) hb); replace HB := Am3 (bp3 (by repeat (first | (with_reducible first | exact HB.out | apply ba3 | apply bn3 | apply bd3) | exact HB.out)) hb); (try clear hb); (try clear hb2); (try clear hk); (try clear hi)))
        go_ret
        exact ⟨by first | rfl | (simp [errW_none, errW_some] <;> rfl) | (simp [*, errW_none, errW_some] <;> rfl), by repeat (first | (with_reducible first | exact HB.out | apply ba3 | apply bn3 | apply bd3) | exact HB.out)⟩
      ·replace c15 := Bool.eq_false_iff.mpr c15
       subst c15
       rw [if_neg (show ¬ (false = true) by decide)] at H
       obtain rfl := Option.some.inj H
       obtain ⟨Ao23, co23, eo23⟩ := Kd.R_slice HO_3.out
       subst eo23
       go_wp2_with (first | ((with_reducible refine gate_callee (f:=9) rfl ?_); refine goesL_ (some 31) rfl rfl Try.func9 (by kernel_rfl) rfl #[.slice Ao23 x3_1.length co23] rfl (by (try simp only [ma3, mc3, mn3]); first | done | rfl | (simp only [ld3, lt_3]; rfl)) ?_; (with_reducible refine (watershedlaw04_few.calls k1 _ _ x3_1 false _ ?side1 ?side2 A14.out).mono ?_); (case side1 => repeat (first | exact (Kd.R_reads' HO_3.out).2.2 | (with_reducible refine Kd.C_alloc ?_ _) | (with_reducible refine Kd.C_drewN ?_ _) | (with_reducible refine Kd.C_drew ?_))); (case side2 => exact (Kd.R_reads' HO_3.out).2.1); rintro e w' ⟨rfl, ⟨nd, rfl⟩⟩; refine ⟨_, rfl, ?_⟩))
       go_ret
       exact ⟨by first | rfl | (simp [errW_none, errW_some] <;> rfl) | (simp [*, errW_none, errW_some] <;> rfl), by repeat (first | (with_reducible first | exact HB.out | apply ba3 | apply bn3 | apply bd3) | exact HB.out)⟩
    ·rw [if_neg c5] at H
     have c5b0 : decide (x4_1 < (l0.length : Int)) = false := decide_eq_false c5
     clear c5
     replace H := Option.bind_eq_some_iff.mp H
     obtain ⟨t294, A240, H⟩ := H
     try dsimp only at H
     have A24 := Am3 A240
     clear A240
     by_cases c25 : t294 = true
     ·subst c25
      rw [if_pos rfl] at H
      by_cases c26 : (l0.length : Int) > 30
      ·rw [if_pos c26] at H
       have c26b0 : decide (30 < (l0.length : Int)) = true := decide_eq_true c26
       have c26b1 : decide (30 < l0.length) = true := decide_eq_true (by omega)
       clear c26
       obtain rfl := Option.some.inj H
       obtain ⟨Ao27, co27, eo27⟩ := Kd.R_slice HO_3.out
       subst eo27
       go_wp2_with (first | ((with_reducible refine gate_callee (f:=9) rfl ?_); refine goesL_ (some 31) rfl rfl Try.func9 (by kernel_rfl) rfl #[.slice Ao27 x3_1.length co27] rfl (by (try simp only [ma3, mc3, mn3]); first | done | rfl | (simp only [ld3, lt_3]; rfl)) ?_; (with_reducible refine (watershedlaw04_few.calls k1 _ _ x3_1 true _ ?side1 ?side2 A24.out).mono ?_); (case side1 => repeat (first | exact (Kd.R_reads' HO_3.out).2.2 | (with_reducible refine Kd.C_alloc ?_ _) | (with_reducible refine Kd.C_drewN ?_ _) | (with_reducible refine Kd.C_drew ?_))); (case side2 => exact (Kd.R_reads' HO_3.out).2.1); rintro e w' ⟨rfl, ⟨nd, rfl⟩⟩; refine ⟨_, rfl, ?_⟩))
       go_ret
       exact ⟨by first | rfl | (simp [errW_none, errW_some] <;> rfl) | (simp [*, errW_none, errW_some] <;> rfl), by repeat (first | (with_reducible first | exact HB.out | apply ba3 | apply bn3 | apply bd3) | exact HB.out)⟩
      ·rw [if_neg c26] at H
       have c26b0 : decide (30 < (l0.length : Int)) = false := decide_eq_false c26
       have c26b1 : decide (30 < l0.length) = false := decide_eq_false (by omega)
       clear c26
       replace H := Option.bind_eq_some_iff.mp H
       obtain ⟨t295, A280, H⟩ := H
       try dsimp only at H
       have A28 := Am3 A280
       clear A280
       replace H := Option.bind_eq_some_iff.mp H
       obtain ⟨t296, A290, H⟩ := H
       try dsimp only at H
       have A29 := Am3 A290
       clear A290
       obtain rfl := Option.some.inj H
       obtain ⟨Ao30, co30, eo30⟩ := Kd.R_slice HO_3.out
       subst eo30
       go_wp2_with (first | ((with_reducible refine gate_callee (f:=9) rfl ?_); refine goesL_ (some 31) rfl rfl Try.func9 (by kernel_rfl) rfl #[.slice Ao30 x3_1.length co30] rfl (by (try simp only [ma3, mc3, mn3]); first | done | rfl | (simp only [ld3, lt_3]; rfl)) ?_; (with_reducible refine (watershedlaw04_few.calls k1 _ _ x3_1 true _ ?side1 ?side2 A24.out).mono ?_); (case side1 => repeat (first | exact (Kd.R_reads' HO_3.out).2.2 | (with_reducible refine Kd.C_alloc ?_ _) | (with_reducible refine Kd.C_drewN ?_ _) | (with_reducible refine Kd.C_drew ?_))); (case side2 => exact (Kd.R_reads' HO_3.out).2.1); rintro e w' ⟨rfl, ⟨nd, rfl⟩⟩; refine ⟨_, rfl, ?_⟩) | (go_at_call 10; (with_reducible refine (span_Parts.calls k1 _ _ l0 t295 _ ?side1 ?side2 A28.out).mono ?_); (case side1 => repeat (first | exact (Kd.C_below HR0.out (by repeat (first | (with_reducible first | exact HB.out | apply ba3 | apply bn3 | apply bd3) | exact HB.out))) | (with_reducible refine Kd.C_alloc ?_ _) | (with_reducible refine Kd.C_drewN ?_ _) | (with_reducible refine Kd.C_drew ?_))); (case side2 => exact HC0.out); rintro e w31 ⟨rfl, hb⟩; replace HO_3 := Am3 (Rb3 (by (with_reducible repeat first | apply Ra3 | apply Rn3 | apply Rd3); exact HO_3.out) hb); replace HB := Am3 (bp3 (by repeat (first | (with_reducible first | exact HB.out | apply ba3 | apply bn3 | apply bd3) | exact HB.out)) hb); (try clear hb); (try clear hb2); (try clear hk); (try clear hi)) | (go_at_call 11; (with_reducible refine (watershedref04_Parts.calls k1 _ _ l0 t296 _ ?side1 ?side2 A29.out).mono ?_); (case side1 => repeat (first | exact (Kd.C_below HR0.out HB.out) | (with_reducible refine Kd.C_alloc ?_ _) | (with_reducible refine Kd.C_drewN ?_ _) | (with_reducible refine Kd.C_drew ?_))); (case side2 => exact HC0.out); rintro e w32 ⟨rfl, hb⟩; replace HO_3 := Am3 (Rb3 (by (with_reducible repeat first | apply Ra3 | apply Rn3 | apply Rd3); exact HO_3.out) hb); replace HB := Am3 (bp3 (by repeat (first | (with_reducible first | exact HB.out | apply ba3 | apply bn3 | apply bd3) | exact HB.out)) hb); (try clear hb); (try clear hb2); (try clear hk); (try clear hi)))
       go_ret
       exact ⟨by first | rfl | (simp [errW_none, errW_some] <;> rfl) | (simp [*, errW_none, errW_some] <;> rfl), by repeat (first | (with_reducible first | exact HB.out | apply ba3 | apply bn3 | apply bd3) | exact HB.out)⟩
     ·replace c25 := Bool.eq_false_iff.mpr c25
      subst c25
      rw [if_neg (show ¬ (false = true) by decide)] at H
      obtain rfl := Option.some.inj H
      obtain ⟨Ao33, co33, eo33⟩ := Kd.R_slice HO_3.out
      subst eo33
      go_wp2_with (first | ((with_reducible refine gate_callee (f:=9) rfl ?_); refine goesL_ (some 31) rfl rfl Try.func9 (by kernel_rfl) rfl #[.slice Ao33 x3_1.length co33] rfl (by (try simp only [ma3, mc3, mn3]); first | done | rfl | (simp only [ld3, lt_3]; rfl)) ?_; (with_reducible refine (watershedlaw04_few.calls k1 _ _ x3_1 false _ ?side1 ?side2 A24.out).mono ?_); (case side1 => repeat (first | exact (Kd.R_reads' HO_3.out).2.2 | (with_reducible refine Kd.C_alloc ?_ _) | (with_reducible refine Kd.C_drewN ?_ _) | (with_reducible refine Kd.C_drew ?_))); (case side2 => exact (Kd.R_reads' HO_3.out).2.1); rintro e w' ⟨rfl, ⟨nd, rfl⟩⟩; refine ⟨_, rfl, ?_⟩))
      go_ret
      exact ⟨by first | rfl | (simp [errW_none, errW_some] <;> rfl) | (simp [*, errW_none, errW_some] <;> rfl), by repeat (first | (with_reducible first | exact HB.out | apply ba3 | apply bn3 | apply bd3) | exact HB.out)⟩
 ·replace c3 := Bool.eq_false_iff.mpr c3
  subst c3
  rw [if_neg (show ¬ (false = true) by decide)] at H
  exact absurd H (by simp)

end Go.Proofs.Ytbmnhpihlkljdaa.P04e
