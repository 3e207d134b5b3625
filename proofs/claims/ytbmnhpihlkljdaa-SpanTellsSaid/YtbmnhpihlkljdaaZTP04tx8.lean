-- Written by gprint.py, a program of this session, over the kit's print; the functions of my own contracts are marked GIVEN
import Derived.Test.YtbmnhpihlkljdaaZTP04tx0
import Derived.Test.YtbmnhpihlkljdaaZTP04tx5
import Derived.Test.YtbmnhpihlkljdaaZTP04tx7
namespace Go.Proofs.Ytbmnhpihlkljdaa.P04t
open Go.RowKit Go.Proofs.YtbmnhpihlkljdaaW.PrintWords Go.Proofs.YtbmnhpihlkljdaaW.PrintLast Go.Proofs.YtbmnhpihlkljdaaW.PrintMore
attribute [local go_sem] max2_str max2_int min2_int max_two min_two max_three min_three max_four min_four   -- for this text's walks alone
set_option linter.unusedVariables false
set_option linter.unusedSimpArgs false

theorem Am25 : type_of% @Aside0.mk := @Aside0.mk
theorem Ra25 : type_of% @Kd.R_alloc := @Kd.R_alloc
theorem Rn25 : type_of% @Kd.R_drewN := @Kd.R_drewN
theorem Rd25 : type_of% @Kd.R_drew := @Kd.R_drew
theorem Rf25 : type_of% @Kd.R_far := @Kd.R_far
theorem Ro25 : type_of% @Kd.R_mono := @Kd.R_mono
theorem Rb25 : type_of% @Kd.R_below := @Kd.R_below
theorem ba25 : type_of% @below_alloc := @below_alloc
theorem bn25 : type_of% @pw_below_drewN := @pw_below_drewN
theorem bd25 : type_of% @below_drew1 := @below_drew1
theorem bs25 : type_of% @below_set := @below_set
theorem kn25 : type_of% @blk_drewN := @blk_drewN
theorem kd25 : type_of% @blk_drew := @blk_drew
theorem ka25 : type_of% @blk_alloc := @blk_alloc
theorem kf25 : type_of% @blk_far := @blk_far
theorem kb25 : type_of% @blk_below := @blk_below
theorem Re25 : type_of% @Kd.R_elder' := @Kd.R_elder'
theorem Rw25 : type_of% @Kd.R_new' := @Kd.R_new'
theorem Rl25 : type_of% @Kd.R_lower := @Kd.R_lower
theorem Ra_25 : type_of% @Kd.R_base := @Kd.R_base
theorem Rt25 : type_of% @Kd.R_lt := @Kd.R_lt
theorem bz25 : type_of% @below_size := @below_size
theorem bp25 : type_of% @below_step := @below_step
theorem kc25 : type_of% @blk_cell := @blk_cell
theorem kz25 : type_of% @blk_frozen := @blk_frozen
theorem sa25 : type_of% @List.setIfInBounds_toArray := @List.setIfInBounds_toArray
theorem sz25 : type_of% @List.set_cons_zero := @List.set_cons_zero
theorem ss25 : type_of% @List.set_cons_succ := @List.set_cons_succ
theorem ma25 : type_of% @List.map_toArray := @List.map_toArray
theorem mc25 : type_of% @List.map_cons := @List.map_cons
theorem mn25 : type_of% @List.map_nil := @List.map_nil
theorem ld25 : type_of% @List.length_drop := @List.length_drop
theorem lt_25 : type_of% @List.length_take := @List.length_take
/-! ### watershedref04_Cut: function 25 -/
mutual
def watershedref04_Cut.l0 : Nat → List ByteArray → List (S26) → Int → Option ((List (S26)))
 | 0, _, _, _ => none
 | k + 1, x1, x5, x6 => if x6 < (x1.length : Int) then (watershedref04_Cut.l1 k x1 x5 x6 0) else (some x5)
def watershedref04_Cut.l1 : Nat → List ByteArray → List (S26) → Int → Int → Option ((List (S26)))
 | 0, _, _, _, _ => none
 | k + 1, x1, x5, x6, x7 => if x7 < (x5.length : Int) then (if 0 ≤ x7 then (if 0 ≤ x6 then (if x6 < (x1.length : Int) then ((watershedref04_Has.f k ((rd_T26 x5 x7).f0) ((rd_T26 x5 x7).f1) (rdOf ByteArray.empty x1 x6)).bind fun t226 => (if t226 = true then (if (rdOf ByteArray.empty x1 x6).toList = ((rd_T26 x5 x7).f0).toList then (watershedref04_Cut.l1 k x1 x5 x6 (wrap64 (x7 + 1))) else ((some (([] : List (S26)) : List (S26))).bind fun y228 => (if 0 ≤ (wrap64 (x7 + 1)) then (if (wrap64 (x7 + 1)) ≤ (x5.length : Int) then ((some (x5.drop ((wrap64 (x7 + 1)) : Int).toNat : List (S26))).bind fun y231 => (if y228.length + y231.length < 4398046511104 then ((some (y228 ++ y231 : List (S26))).bind fun y235 => (if x7 ≤ (x5.length : Int) then ((some (x5.take (x7 : Int).toNat : List (S26))).bind fun y238 => ((some (([(⟨(rd_T26 x5 x7).f0, rdOf ByteArray.empty x1 x6⟩ : S26), (⟨rdOf ByteArray.empty x1 x6, (rd_T26 x5 x7).f1⟩ : S26)] : List (S26)) : List (S26))).bind fun y243 => (if y238.length + y243.length < 4398046511104 then ((some (y238 ++ y243 : List (S26))).bind fun y246 => (if y246.length + y235.length < 4398046511104 then (watershedref04_Cut.l0 k x1 (y246 ++ y235) (wrap64 (x6 + 1))) else (none))) else (none)))) else (none))) else (none))) else (none)) else (none)))) else (watershedref04_Cut.l1 k x1 x5 x6 (wrap64 (x7 + 1))))) else (none)) else (none)) else (none)) else (watershedref04_Cut.l0 k x1 x5 (wrap64 (x6 + 1)))
end
def watershedref04_Cut.f (k : Nat) (a0_0 : ByteArray) (a0_1 : ByteArray) (l1 : List ByteArray) : Option ((List (S26))) := (watershedref04_Right.f k a0_0 a0_1).bind fun t219 => (if t219 = true then (watershedref04_Cut.l0 k l1 (([(⟨a0_0, a0_1⟩ : S26)] : List (S26))) 0) else (some ([] : List (S26))))
theorem watershedref04_Cut.mono_l : ∀ k, (∀ y0 y1 y2, LeO (watershedref04_Cut.l0 k y0 y1 y2) (watershedref04_Cut.l0 (k + 1) y0 y1 y2)) ∧ (∀ y0 y1 y2 y3, LeO (watershedref04_Cut.l1 k y0 y1 y2 y3) (watershedref04_Cut.l1 (k + 1) y0 y1 y2 y3))
 | 0 => ⟨fun _ _ _ r h => by simp [watershedref04_Cut.l0] at h, fun _ _ _ _ r h => by simp [watershedref04_Cut.l1] at h⟩
 | k + 1 => by
  obtain ⟨ih0, ih1⟩ := watershedref04_Cut.mono_l k
  refine ⟨?_, ?_⟩
  ·intro y0 y1 y2
   unfold watershedref04_Cut.l0
   repeat' first
   | (with_reducible exact ih0 _ _ _)
   | (with_reducible exact ih1 _ _ _ _)
   | (with_reducible exact watershedref04_Has.mono _ _ _ _)
   | (with_reducible exact watershedref04_Right.mono _ _ _)
   | (with_reducible exact LeO.refl _)
   | (with_reducible exact LeO.none _)
   | (with_reducible refine LeO.ite ?_ ?_)
   | (with_reducible refine LeO.bind ?_ (fun _ => ?_))
   | exact ih0 _ _ _
   | exact ih1 _ _ _ _
   | exact watershedref04_Has.mono _ _ _ _
   | exact watershedref04_Right.mono _ _ _
   | exact LeO.none _
   | refine LeO.ite ?_ ?_
   | refine LeO.bind ?_ (fun _ => ?_)
  ·intro y0 y1 y2 y3
   unfold watershedref04_Cut.l1
   repeat' first
   | (with_reducible exact ih0 _ _ _)
   | (with_reducible exact ih1 _ _ _ _)
   | (with_reducible exact watershedref04_Has.mono _ _ _ _)
   | (with_reducible exact watershedref04_Right.mono _ _ _)
   | (with_reducible exact LeO.refl _)
   | (with_reducible exact LeO.none _)
   | (with_reducible refine LeO.ite ?_ ?_)
   | (with_reducible refine LeO.bind ?_ (fun _ => ?_))
   | exact ih0 _ _ _
   | exact ih1 _ _ _ _
   | exact watershedref04_Has.mono _ _ _ _
   | exact watershedref04_Right.mono _ _ _
   | exact LeO.none _
   | refine LeO.ite ?_ ?_
   | refine LeO.bind ?_ (fun _ => ?_)
theorem watershedref04_Cut.mono : ∀ a0 a1 a2 k, LeO (watershedref04_Cut.f k a0 a1 a2) (watershedref04_Cut.f (k + 1) a0 a1 a2) := by
 intro a0 a1 a2 k
 obtain ⟨ih0, ih1⟩ := watershedref04_Cut.mono_l k
 unfold watershedref04_Cut.f
 repeat' first
   | (with_reducible exact ih0 _ _ _)
   | (with_reducible exact ih1 _ _ _ _)
   | (with_reducible exact watershedref04_Has.mono _ _ _ _)
   | (with_reducible exact watershedref04_Right.mono _ _ _)
   | (with_reducible exact LeO.refl _)
   | (with_reducible exact LeO.none _)
   | (with_reducible refine LeO.ite ?_ ?_)
   | (with_reducible refine LeO.bind ?_ (fun _ => ?_))
   | exact ih0 _ _ _
   | exact ih1 _ _ _ _
   | exact watershedref04_Has.mono _ _ _ _
   | exact watershedref04_Right.mono _ _ _
   | exact LeO.none _
   | refine LeO.ite ?_ ?_
   | refine LeO.bind ?_ (fun _ => ?_)
def watershedref04_Cut.T11 : Bool × List (List Nat × List Nat) := (true, [([], []), ([], []), ([], []), ([1, 2], [1, 2]), ([3], [3]), ([0, 4], [0, 4]), ([5], [5]), ([6, 5], [6]), ([7], [7]), ([7], [7]), ([8, 9, 7], [7, 8, 9]), ([10, 7], [7, 10]), ([7], [7]), ([12, 7], [7, 12]), ([11, 13, 7], [7, 11, 13]), ([7, 14], [7, 14])])
def watershedref04_Cut.B11 : List Nat := [0, 0, 0, 6, 14, 31, 63, 127, 255, 255, 1023, 2047, 255, 4351, 16383, 32767]
theorem watershedref04_Cut.tab11 : rtab .any (opsOf Try.f25 11) = watershedref04_Cut.T11 := by kernel_rfl
theorem watershedref04_Cut.bits11 : waitsOk watershedref04_Cut.T11.2 watershedref04_Cut.B11 = true := by kernel_rfl
def watershedref04_Cut.T13 : Bool × List (List Nat × List Nat) := (true, [([], []), ([], []), ([0, 1], [0, 1]), ([], []), ([3], [3]), ([], []), ([], []), ([5, 6], [5, 6]), ([7], [7]), ([4, 8], [4, 8]), ([], []), ([], []), ([10, 11], [10, 11]), ([12], [12]), ([], []), ([14], [14]), ([13, 15], [13, 15]), ([9, 16], [9, 16]), ([2, 17], [2, 17]), ([], []), ([18, 19, 18], [18, 19]), ([20, 20, 0, 1, 2, 3, 4, 5, 6, 7, 8, 9, 10, 11, 12, 13, 14, 15, 16, 17, 18, 19, 20], [0, 20])])
def watershedref04_Cut.B13 : List Nat := [0, 0, 3, 0, 8, 0, 0, 96, 224, 504, 0, 0, 3072, 7168, 0, 16384, 64512, 131064, 262143, 0, 1048575, 2097151]
theorem watershedref04_Cut.tab13 : rtab .any (opsOf Try.f25 13) = watershedref04_Cut.T13 := by kernel_rfl
theorem watershedref04_Cut.bits13 : waitsOk watershedref04_Cut.T13.2 watershedref04_Cut.B13 = true := by kernel_rfl
set_option maxHeartbeats 8000000 in
set_option maxRecDepth 100000 in
theorem watershedref04_Cut.calls (k : Nat) (a0_0 : ByteArray) (a0_1 : ByteArray) (A1 : Option Addr) (c1 : Nat) (l1 : List ByteArray) (r : List (S26)) (w : World) (hr1 : Kd.C Kd.string w A1 l1.length l1) (hc1 : l1.length ≤ c1) (h : watershedref04_Cut.f k a0_0 a0_1 l1 = some r) :
  Calls Try.prog 25 #[.agg #[.string a0_0, .string a0_1], .slice A1 l1.length c1] w fun e w' => ∃ v0_ : Value, e = .returned (v0_) ∧ Kd.R k26 26 w' w.heap.size (fun _ => True) v0_ r ∧ Below w.heap.size w w' := by
 have hu26 := Try.underlying26
 have HR1 := Am25 hr1
 have HC1 := Am25 hc1
 clear hr1 hc1
 have HB := Am25 (Below.refl w.heap.size w)
 have H : ((watershedref04_Right.f k a0_0 a0_1).bind fun t219 => (if t219 = true then (watershedref04_Cut.l0 k l1 (([(⟨a0_0, a0_1⟩ : S26)] : List (S26))) 0) else (some ([] : List (S26))))) = some r := h
 clear h
 replace H := Option.bind_eq_some_iff.mp H
 obtain ⟨t219, A30, H⟩ := H
 try dsimp only at H
 have A3 := Am25 A30
 clear A30
 by_cases c4 : t219 = true
 ·subst c4
  rw [if_pos rfl] at H
  obtain ⟨y220, hy220⟩ : ∃ y_ : List (S26), y_ = (([(⟨a0_0, a0_1⟩ : S26)] : List (S26))) := ⟨_, rfl⟩
  replace H : (watershedref04_Cut.l0 k l1 y220 0) = some r := by first | (rw [hy220]; with_reducible exact H) | (have H2_ := (Option.bind_some _ _).symm.trans H; rw [hy220]; with_reducible exact H2_) | (have H2_ := (Option.bind_some _ _).symm.trans H; with_reducible exact H2_) | with_reducible exact H | (rw [hy220]; exact H) | exact H
  have Ny220 := Am25 hy220
  clear hy220
  have H' := Am25 H
  clear H
  go_enter Try.func25, Try.ntmps25
  go_wp2_with (first | ((with_reducible refine gate_dst (N:=2) rfl ?_); refine box_event ?hg (N:=2) ?hd (cs:=#[.string a0_0, .string a0_1]) (t:=26) ?hr ?_; (case hd => rfl); (case hg => rfl); (case hr => first | (go_simp; done) | (go_simp; rfl)); intro gb218 hg w5 hbox hb; have n0_ := Am25 (bp25 (by repeat (first | (with_reducible first | exact HB.out | apply ba25 | apply bn25 | apply bd25) | exact HB.out)) hb); have n1_ := Am25 (hbox); have n2_ := Am25 ((by rw [hg]; exact (bz25 (by repeat (first | (with_reducible first | exact HB.out | apply ba25 | apply bn25 | apply bd25) | exact HB.out))) : w.heap.size ≤ gb218)); have n3_ := Am25 ((by rw [hg]; exact (bz25 (by repeat (first | (with_reducible first | exact HB.out | apply ba25 | apply bn25 | apply bd25) | exact HB.out))) : w.heap.size ≤ gb218)); clear HB; have HB := n0_; have BK218 := n1_; have GW218 := n2_; have GE218 := n3_; clear n0_ n1_ n2_ n3_; clear hb hbox hg; have hcz6_0 : w5.cell? ⟨gb218, 0, none⟩ = some (.string a0_0) := (kc25 BK218.out 0).trans rfl; have hcz6_1 : w5.cell? ⟨gb218, 1, none⟩ = some (.string a0_1) := (kc25 BK218.out 1).trans rfl; have hfz6_0 := kz25 BK218.out 0; have hfz6_1 := kz25 BK218.out 1) | ((with_reducible refine gate_callee (f:=17) rfl ?_); refine goesL_ (some 11) rfl rfl Try.func17 (by kernel_rfl) rfl #[.agg #[.string a0_0, .string a0_1]] rfl (by (try simp only [ma25, mc25, mn25]); first | done | rfl | (simp only [ld25, lt_25]; rfl)) ?_; (with_reducible refine (watershedref04_Right.calls k a0_0 a0_1 true _ A3.out).mono ?_); rintro e w7 ⟨rfl, hb⟩; refine ⟨_, rfl, ?_⟩; have n0_ := Am25 (kb25 (g:=gb218) (o:=.cells #[.string a0_0, .string a0_1] 26 (0, 0)) (by (with_reducible repeat first | apply kn25 | apply kd25 | apply ka25); exact BK218.out) hb); have n1_ := Am25 (bp25 (by repeat (first | (with_reducible first | exact HB.out | apply ba25 | apply bn25 | apply bd25 | refine bs25 ?_ GE218.out) | exact HB.out)) hb); clear BK218; clear HB; have BK218 := n0_; have HB := n1_; clear n0_ n1_; (try clear hb); (try clear hb2); (try clear hk); (try clear hi); have hcz8_0 : w7.cell? ⟨gb218, 0, none⟩ = some (.string a0_0) := (kc25 BK218.out 0).trans rfl; have hcz8_1 : w7.cell? ⟨gb218, 1, none⟩ = some (.string a0_1) := (kc25 BK218.out 1).trans rfl; have hfz8_0 := kz25 BK218.out 0; have hfz8_1 := kz25 BK218.out 1) | ((with_reducible refine gate_dst (N:=14) rfl ?_); refine Kd.R_lit k26 _ 26 ?hg (N:=14) ?hd (xs:=([(⟨a0_0, a0_1⟩ : S26)] : List (S26))) (inner:=[.string a0_0, .string a0_1]) (ok:=fun _ => True) (okp:=fun _ => True) ?hr ?hp (fun _ hk => hk) trivial (Below.refl _ _) (Nat.le_refl _) (by simp) ?_; (case hd => rfl); (case hg => rfl); (case hr => first | (go_simp; done) | (go_simp; rfl)); (case hp => exact (Reps.c2 (show Kd.M k26 _ _ _ (⟨a0_0, a0_1⟩ : S26) [.string a0_0, .string a0_1] from (k26_mkM _ _ _ (⟨a0_0, a0_1⟩ : S26) )) (Reps.none _ _))); intro v221 w9 ho10 hb hg_ hnew_; clear hg_ hnew_; (first | rw [← Ny220.out] at ho10 | (simp only [Int.reduceToNat] at ho10; rw [← Ny220.out] at ho10)); have n0_ := Am25 (Rl25 (Kd.R_newB ho10 (g:=gb218) (o:=.cells #[.string a0_0, .string a0_1] 26 (0, 0)) (by (with_reducible repeat first | apply kn25 | apply kd25 | apply ka25); exact BK218.out)) (bz25 (by repeat (first | (with_reducible first | exact HB.out | apply ba25 | apply bn25 | apply bd25 | refine bs25 ?_ GE218.out) | exact HB.out)))); have n1_ := Am25 (kb25 (g:=gb218) (o:=.cells #[.string a0_0, .string a0_1] 26 (0, 0)) (by (with_reducible repeat first | apply kn25 | apply kd25 | apply ka25); exact BK218.out) hb); have n2_ := Am25 (bp25 (by repeat (first | (with_reducible first | exact HB.out | apply ba25 | apply bn25 | apply bd25 | refine bs25 ?_ GE218.out) | exact HB.out)) hb); clear BK218; clear HB; have HO222 := n0_; have BK218 := n1_; have HB := n2_; clear n0_ n1_ n2_; clear hb ho10))
  go_loopg [5, 6] k (fun kq v5 v6 w' => ∃ (x5_1 : List (S26)) (x6_1 : Int), v6 = .int .i64 x6_1 ∧ Aside0 (watershedref04_Cut.l0 kq l1 x5_1 x6_1 = some r) ∧ Aside0 (kq ≤ k) ∧ Aside0 (Kd.R k26 26 w' w.heap.size (fun k_ => k_ ≠ gb218) v5 x5_1) ∧ Aside0 (w'.heap[gb218]? = some (.cells #[.string a0_0, .string a0_1] 26 (0, 0))) ∧ Aside0 (Below w.heap.size w w'))
  case atStart => exact ⟨(y220), (0), (by first | rfl | (simp; done) | (simp [*]; done)), H', ⟨Nat.le_refl _⟩, ⟨by (with_reducible repeat first | apply Ra25 | apply Rn25 | apply Rd25); exact Ro25 HO222.out (fun _ h=>h.2)⟩, ⟨by (with_reducible repeat first | apply kn25 | apply kd25 | apply ka25); exact BK218.out⟩, ⟨by repeat (first | (with_reducible first | exact HB.out | apply ba25 | apply bn25 | apply bd25 | refine bs25 ?_ GE218.out) | exact HB.out)⟩⟩
  case round =>
   clear H'
   try clear c1
   try clear c2
   try clear p2
   try clear c4
   try clear hcz6_0
   try clear hcz6_1
   try clear hcz8_0
   try clear hcz8_1
   try clear hfz6_0
   try clear hfz6_1
   try clear hfz8_0
   try clear hfz8_1
   obtain ⟨x5_1, x6_1, rfl, HA, HK1, HO_5, BK218, HB⟩ := hrel
   cases gk with
   | zero => exact absurd HA.out (by simp [watershedref04_Cut.l0])
   | succ k1 =>
    have H := HA.out
    clear HA
    simp only [watershedref04_Cut.l0] at H
    by_cases c11 : x6_1 < (l1.length : Int)
    ·rw [if_pos c11] at H
     have c11b0 : decide (x6_1 < (l1.length : Int)) = true := decide_eq_true c11
     clear c11
     have H' := Am25 H
     clear H
     go_wp2
     go_loopg [5, 7] k1 (fun kq v5 v7 w' => ∃ (x5_2 : List (S26)) (x7_2 : Int), v7 = .int .i64 x7_2 ∧ Aside0 (watershedref04_Cut.l1 kq l1 x5_2 x6_1 x7_2 = some r) ∧ Aside0 (kq ≤ k1) ∧ Aside0 (Kd.R k26 26 w' w.heap.size (fun k_ => k_ ≠ gb218) v5 x5_2) ∧ Aside0 (w'.heap[gb218]? = some (.cells #[.string a0_0, .string a0_1] 26 (0, 0))) ∧ Aside0 (Below w.heap.size w w'))
     case atStart => exact ⟨(x5_1), (0), (by first | rfl | (simp; done) | (simp [*]; done)), H', ⟨Nat.le_refl _⟩, ⟨by (with_reducible repeat first | apply Ra25 | apply Rn25 | apply Rd25); exact HO_5.out⟩, ⟨by (with_reducible repeat first | apply kn25 | apply kd25 | apply ka25); exact BK218.out⟩, ⟨by repeat (first | (with_reducible first | exact HB.out | apply ba25 | apply bn25 | apply bd25 | refine bs25 ?_ GE218.out) | exact HB.out)⟩⟩
     case round =>
      clear H'
      try clear c1
      try clear c2
      try clear p2
      try clear c4
      try clear c11
      try clear c11b0
      try clear hcz6_0
      try clear hcz6_1
      try clear hcz8_0
      try clear hcz8_1
      try clear hfz6_0
      try clear hfz6_1
      try clear hfz8_0
      try clear hfz8_1
      try clear p2
      obtain ⟨x5_2, x7_2, rfl, HA, HK2, HO_5, BK218, HB⟩ := hrel
      cases gk with
      | zero => exact absurd HA.out (by simp [watershedref04_Cut.l1])
      | succ k2 =>
       have H := HA.out
       clear HA
       simp only [watershedref04_Cut.l1] at H
       by_cases c12 : x7_2 < (x5_2.length : Int)
       ·rw [if_pos c12] at H
        have c12b0 : decide (x7_2 < (x5_2.length : Int)) = true := decide_eq_true c12
        clear c12
        by_cases c13 : 0 ≤ x7_2
        ·rw [if_pos c13] at H
         have c13b0 : decide (0 ≤ x7_2) = true := decide_eq_true c13
         clear c13
         by_cases c14 : 0 ≤ x6_1
         ·rw [if_pos c14] at H
          have c14b0 : decide (0 ≤ x6_1) = true := decide_eq_true c14
          clear c14
          by_cases c15 : x6_1 < (l1.length : Int)
          ·rw [if_pos c15] at H
           have c15b0 : decide (x6_1 < (l1.length : Int)) = true := decide_eq_true c15
           clear c15
           replace H := Option.bind_eq_some_iff.mp H
           obtain ⟨t226, A160, H⟩ := H
           try dsimp only at H
           have A16 := Am25 A160
           clear A160
           by_cases c17 : t226 = true
           ·subst c17
            rw [if_pos rfl] at H
            by_cases c18 : (rdOf ByteArray.empty l1 x6_1).toList = ((rd_T26 x5_2 x7_2).f0).toList
            ·rw [if_pos c18] at H
             have c18b0 : ((rdOf ByteArray.empty l1 x6_1).toList == ((rd_T26 x5_2 x7_2).f0).toList) = true := beq_iff_eq.mpr c18
             have c18b1 : ((rdOf ByteArray.empty l1 x6_1).toList != ((rd_T26 x5_2 x7_2).f0).toList) = false := bne_eq_false_iff_eq.mpr c18
             clear c18
             have H' := Am25 H
             clear H
             obtain ⟨Ao19, co19, eo19⟩ := Kd.R_slice HO_5.out
             subst eo19
             have p223 : 0 ≤ (x7_2 : Int) := of_decide_eq_true (by first | (with_reducible assumption) | assumption)
             have q223 : x7_2 < (x5_2.length : Int) := of_decide_eq_true (by first | (with_reducible assumption) | assumption)
             obtain ⟨ad223, e223, hx223_0, hx223_1⟩ := at_T26 (Kd.R_reads' HO_5.out).2.2 x7_2 p223 q223
             cases e223
             replace p223 := eq_true p223
             replace q223 := eq_true q223
             try go_wp2_with (first | ((with_reducible refine gate_dst (N:=8) rfl ?_); refine box_event ?hg (N:=8) ?hd (cs:=#[.string (⟨#[]⟩ : ByteArray), .string (⟨#[]⟩ : ByteArray)]) (t:=26) ?hr ?_; (case hd => rfl); (case hg => rfl); (case hr => first | (go_simp; done) | (go_simp; rfl)); intro gb224 hg w20 hbox hb; have n0_ := Am25 (Rb25 (Kd.R_elderB (by (with_reducible repeat first | apply Ra25 | apply Rn25 | apply Rd25); exact HO_5.out) gb224 (Nat.le_of_eq hg.symm)) hb); have n1_ := Am25 (kb25 (g:=gb218) (o:=.cells #[.string a0_0, .string a0_1] 26 (0, 0)) (by (with_reducible repeat first | apply kn25 | apply kd25 | apply ka25); exact BK218.out) hb); have n2_ := Am25 (bp25 (by repeat (first | (with_reducible first | exact HB.out | apply ba25 | apply bn25 | apply bd25 | refine bs25 ?_ GE218.out) | exact HB.out)) hb); have n3_ := Am25 (hbox); have n4_ := Am25 ((by rw [hg]; exact (bz25 (by repeat (first | (with_reducible first | exact HB.out | apply ba25 | apply bn25 | apply bd25 | refine bs25 ?_ GE218.out) | exact HB.out))) : w.heap.size ≤ gb224)); have n5_ := Am25 ((by rw [hg]; exact (bz25 (by repeat (first | (with_reducible first | exact HB.out | apply ba25 | apply bn25 | apply bd25 | refine bs25 ?_ GE218.out) | exact HB.out))) : w.heap.size ≤ gb224)); have n6_ := Am25 ((by rw [hg]; exact Nat.ne_of_lt (blk_lt (g:=gb218) (o:=.cells #[.string a0_0, .string a0_1] 26 (0, 0)) (by (with_reducible repeat first | apply kn25 | apply kd25 | apply ka25); exact BK218.out)) : gb218 ≠ gb224)); have n7_ := Am25 ((by rw [hg]; exact Nat.ne_of_gt (blk_lt (g:=gb218) (o:=.cells #[.string a0_0, .string a0_1] 26 (0, 0)) (by (with_reducible repeat first | apply kn25 | apply kd25 | apply ka25); exact BK218.out)) : gb224 ≠ gb218)); clear HO_5; clear BK218; clear HB; have HO_5 := n0_; have BK218 := n1_; have HB := n2_; have BK224 := n3_; have GW224 := n4_; have GE224 := n5_; have NB218_224 := n6_; have NB224_218 := n7_; clear n0_ n1_ n2_ n3_ n4_ n5_ n6_ n7_; clear hb hbox hg; have hnb21 := NB224_218.out; have hnc21 := NB218_224.out; have hcz22_0 : w20.cell? ⟨gb224, 0, none⟩ = some (.string (⟨#[]⟩ : ByteArray)) := (kc25 BK224.out 0).trans rfl; have hcz22_1 : w20.cell? ⟨gb224, 1, none⟩ = some (.string (⟨#[]⟩ : ByteArray)) := (kc25 BK224.out 1).trans rfl; have hfz22_0 := kz25 BK224.out 0; have hfz22_1 := kz25 BK224.out 1))
             have n0_ : Aside0 (Kd.R k26 26 ((w20.setCell ⟨gb224, 0, none⟩ (.string ((rd_T26 x5_2 x7_2).f0))).setCell ⟨gb224, 1, none⟩ (.string ((rd_T26 x5_2 x7_2).f1))) w.heap.size (fun k_ => k_ ≠ gb218 ∧ k_ ≠ gb224) (.slice (some ad223) x5_2.length co19) x5_2) := ⟨by (with_reducible repeat first | apply Ra25 | apply Rn25 | apply Rd25); exact Ro25 (Rf25 (p:=⟨gb224, 1, none⟩) (Rf25 (p:=⟨gb224, 0, none⟩) (Ro25 HO_5.out (fun k_ hk => (⟨hk, hk.2⟩ : _ ∧ k_ ≠ gb224))) (fun _ h=>h.2) (.string ((rd_T26 x5_2 x7_2).f0))) (fun _ h=>h.2) (.string ((rd_T26 x5_2 x7_2).f1))) (fun _ hk => ⟨hk.1.1, hk.1.2⟩)⟩
             have n1_ : Aside0 (((w20.setCell ⟨gb224, 0, none⟩ (.string ((rd_T26 x5_2 x7_2).f0))).setCell ⟨gb224, 1, none⟩ (.string ((rd_T26 x5_2 x7_2).f1))).heap[gb218]? = some (.cells #[.string a0_0, .string a0_1] 26 (0, 0))) := ⟨by (with_reducible repeat first | apply kn25 | apply kd25 | apply ka25); refine kf25 ?_ NB218_224.out _; (with_reducible repeat first | apply kn25 | apply kd25 | apply ka25); refine kf25 ?_ NB218_224.out _; (with_reducible repeat first | apply kn25 | apply kd25 | apply ka25); exact BK218.out⟩
             have n2_ : Aside0 (((w20.setCell ⟨gb224, 0, none⟩ (.string ((rd_T26 x5_2 x7_2).f0))).setCell ⟨gb224, 1, none⟩ (.string ((rd_T26 x5_2 x7_2).f1))).heap[gb224]? = some (.cells #[.string ((rd_T26 x5_2 x7_2).f0), .string ((rd_T26 x5_2 x7_2).f1)] 26 (0, 0))) := ⟨by (with_reducible repeat first | apply kn25 | apply kd25 | apply ka25); refine blk_put (cs:=#[.string ((rd_T26 x5_2 x7_2).f0), .string (⟨#[]⟩ : ByteArray)]) ?_ 1 _ rfl; (with_reducible repeat first | apply kn25 | apply kd25 | apply ka25); refine blk_put (cs:=#[.string (⟨#[]⟩ : ByteArray), .string (⟨#[]⟩ : ByteArray)]) ?_ 0 _ rfl; (with_reducible repeat first | apply kn25 | apply kd25 | apply ka25); exact BK224.out⟩
             have n3_ : Aside0 (Below w.heap.size w ((w20.setCell ⟨gb224, 0, none⟩ (.string ((rd_T26 x5_2 x7_2).f0))).setCell ⟨gb224, 1, none⟩ (.string ((rd_T26 x5_2 x7_2).f1)))) := ⟨by repeat (first | (with_reducible first | exact HB.out | apply ba25 | apply bn25 | apply bd25 | refine bs25 ?_ GE218.out | refine bs25 ?_ GE224.out) | exact HB.out)⟩
             (try clear HO_5)
             (try clear BK218)
             (try clear BK224)
             (try clear HB)
             generalize ((w20.setCell ⟨gb224, 0, none⟩ (.string ((rd_T26 x5_2 x7_2).f0))).setCell ⟨gb224, 1, none⟩ (.string ((rd_T26 x5_2 x7_2).f1))) = w23 at n0_ n1_ n2_ n3_ ⊢
             have HO_5 := n0_
             have BK218 := n1_
             have BK224 := n2_
             have HB := n3_
             clear n0_ n1_ n2_ n3_
             have n0_ := Am25 (Rd25 HO_5.out)
             have n1_ := Am25 (kd25 BK218.out)
             have n2_ := Am25 (kd25 BK224.out)
             have n3_ := Am25 (bd25 HB.out)
             clear HO_5
             clear BK218
             clear BK224
             clear HB
             have HO_5 := n0_
             have BK218 := n1_
             have BK224 := n2_
             have HB := n3_
             clear n0_ n1_ n2_ n3_
             have p225 : 0 ≤ (x6_1 : Int) := of_decide_eq_true (by first | (with_reducible assumption) | assumption)
             have q225 : x6_1 < (l1.length : Int) := of_decide_eq_true (by first | (with_reducible assumption) | assumption)
             obtain ⟨ad225, e225, hx225_0⟩ := Kd.at_string HR1.out x6_1 p225 q225
             have hw225_0 := hx225_0
             cases e225
             replace hx225_0 := (HB.out.cell (World.block_lt_of_cell? w _ hx225_0)).trans hx225_0
             replace p225 := eq_true p225
             replace q225 := eq_true q225
             have p227 : 0 ≤ (x6_1 : Int) := of_decide_eq_true (by first | (with_reducible assumption) | assumption)
             have q227 : x6_1 < (l1.length : Int) := of_decide_eq_true (by first | (with_reducible assumption) | assumption)
             obtain ⟨ad227, e227, hx227_0⟩ := Kd.at_string HR1.out x6_1 p227 q227
             have hw227_0 := hx227_0
             obtain rfl : ad225 = ad227 := (by injection e227)
             replace hx227_0 := (HB.out.cell (World.block_lt_of_cell? w _ hx227_0)).trans hx227_0
             replace p227 := eq_true p227
             replace q227 := eq_true q227
             refine start_ (n:=16) (S:=fun w' => w'.cell? ⟨gb224, 0, none⟩ = some (.string ((rd_T26 x5_2 x7_2).f0)) ∧ w'.cell? ⟨gb224, 1, none⟩ = some (.string ((rd_T26 x5_2 x7_2).f1)) ∧ w'.cell? (ad225.add (x6_1).toNat) = some (.string (rdOf ByteArray.empty l1 x6_1)) ∧ w'.cell? (ad225.add (x6_1).toNat) = some (.string (rdOf ByteArray.empty l1 x6_1))) (ds:=[]) #[false, false, false, false, false, false, false, false, false, false, false, false, false, false, false, false] (by kernel_rfl) rfl rfl ⟨(kc25 BK224.out 0).trans rfl, (kc25 BK224.out 1).trans rfl, ((HB.out.cell (World.block_lt_of_cell? w _ hw225_0)).trans hw225_0), ((HB.out.cell (World.block_lt_of_cell? w _ hw227_0)).trans hw227_0)⟩ (fun hHeld => ?_); refine with_tabW watershedref04_Cut.tab11 watershedref04_Cut.bits11 (fun HT_ HW_ => ?_)
             generalize w23.drew = w24 at HO_5 BK218 BK224 HB hx225_0 hx227_0 hHeld ⊢
             refine pure_ (i:=1) (N:=some 32) (v:=?_) (a' := ?_) #[false, true, false, false, false, false, false, false, false, false, false, false, false, false, false, false] rfl rfl (any_of HT_.out (by kernel_rfl)) (fun _ _ _ h => h) (Or.inl ⟨by rfl, ?_⟩) ?_ ?_
             rotate_left
             ·intro w'
              go_simp
              with_reducible rfl
             rotate_left
             ·simp only [Act.put, sa25, sz25, ss25, i64_w, i32_w]
              rfl
             refine pure_ (i:=2) (N:=some 33) (v:=?_) (a' := ?_) #[false, true, true, false, false, false, false, false, false, false, false, false, false, false, false, false] rfl rfl (any_of HT_.out (by kernel_rfl)) (fun _ _ _ h => h) (Or.inl ⟨by rfl, ?_⟩) ?_ ?_
             rotate_left
             ·intro w'
              go_simp
              with_reducible rfl
             rotate_left
             ·simp only [Act.put, sa25, sz25, ss25, i64_w, i32_w]
              rfl
             refine pure_ (i:=3) (N:=some 34) (v:=?_) (a' := ?_) #[false, true, true, true, false, false, false, false, false, false, false, false, false, false, false, false] rfl rfl (any_of HT_.out (by kernel_rfl)) (fun _ _ _ h => h) (Or.inl ⟨by rfl, ?_⟩) ?_ ?_
             rotate_left
             ·intro w'
              go_simp
              with_reducible rfl
             rotate_left
             ·simp only [Act.put, sa25, sz25, ss25, i64_w, i32_w]
              rfl
             refine take_ (i:=0) (N:=some 31) (v:=?_) (a' := ?_) #[true, true, true, true, false, false, false, false, false, false, false, false, false, false, false, false] rfl rfl (take_ofW HT_.out HW_.out (by kernel_rfl)) (fun _ _ _ h => h) (Or.inl ⟨by rfl, ?_⟩) hHeld ?_ ?_
             rotate_left
             ·rintro w' ⟨s0, s1, s2, s3⟩
              go_simp
              with_reducible rfl
             rotate_left
             ·simp only [Act.put, sa25, sz25, ss25, i64_w, i32_w]
              rfl
             refine take_ (i:=4) (N:=some 35) (v:=?_) (a' := ?_) #[true, true, true, true, true, false, false, false, false, false, false, false, false, false, false, false] rfl rfl (take_ofW HT_.out HW_.out (by kernel_rfl)) (fun _ _ _ h => h) (Or.inl ⟨by rfl, ?_⟩) hHeld ?_ ?_
             rotate_left
             ·rintro w' ⟨s0, s1, s2, s3⟩
              go_simp
              with_reducible rfl
             rotate_left
             ·simp only [Act.put, sa25, sz25, ss25, i64_w, i32_w]
              rfl
             refine one_ (i:=5) (N:=some 36) #[true, true, true, true, true, true, false, false, false, false, false, false, false, false, false, false] rfl rfl (one_of HT_.out (by kernel_rfl)) (by decide) (fun K hK => ?_)
             refine goes_ Try.func21 (by kernel_rfl) rfl #[.agg #[.string ((rd_T26 x5_2 x7_2).f0), .string ((rd_T26 x5_2 x7_2).f1)], .string (rdOf ByteArray.empty l1 x6_1)] (by rfl) rfl rfl (by (try simp only [ma25, mc25, mn25]); first | done | rfl | (simp only [ld25, lt_25]; rfl)) ?_
             with_reducible refine (watershedref04_Has.calls k2 ((rd_T26 x5_2 x7_2).f0) ((rd_T26 x5_2 x7_2).f1) (rdOf ByteArray.empty l1 x6_1) true _ A16.out).mono ?_
             rintro e w25 ⟨rfl, hb⟩
             refine ⟨_, rfl, ?_⟩
             have n0_ := Am25 (Rb25 (by (with_reducible repeat first | apply Ra25 | apply Rn25 | apply Rd25); exact HO_5.out) hb)
             have n1_ := Am25 (kb25 (g:=gb218) (o:=.cells #[.string a0_0, .string a0_1] 26 (0, 0)) (by (with_reducible repeat first | apply kn25 | apply kd25 | apply ka25); exact BK218.out) hb)
             have n2_ := Am25 (kb25 (g:=gb224) (o:=.cells #[.string ((rd_T26 x5_2 x7_2).f0), .string ((rd_T26 x5_2 x7_2).f1)] 26 (0, 0)) (by (with_reducible repeat first | apply kn25 | apply kd25 | apply ka25); exact BK224.out) hb)
             have n3_ := Am25 (bp25 (by repeat (first | (with_reducible first | exact HB.out | apply ba25 | apply bn25 | apply bd25 | refine bs25 ?_ GE218.out | refine bs25 ?_ GE224.out) | exact HB.out)) hb)
             clear HO_5
             clear BK218
             clear BK224
             clear HB
             have HO_5 := n0_
             have BK218 := n1_
             have BK224 := n2_
             have HB := n3_
             clear n0_ n1_ n2_ n3_
             (try clear hb)
             (try clear hb2)
             (try clear hk)
             (try clear hi)
             refine hK.out _ _ ⟨(kc25 BK224.out 0).trans rfl, (kc25 BK224.out 1).trans rfl, ((HB.out.cell (World.block_lt_of_cell? w _ hw225_0)).trans hw225_0), ((HB.out.cell (World.block_lt_of_cell? w _ hw227_0)).trans hw227_0)⟩ (fun hHeld => ?_)
             clear hK K
             refine norm_ (a' := ?_) ?_ ?_
             rotate_left
             ·show Act.put _ (some 36) _ = _
              simp only [Act.put, sa25, sz25, ss25, i64_w, i32_w]
              rfl
             refine pure_ (i:=6) (N:=some 37) (v:=?_) (a' := ?_) #[true, true, true, true, true, true, true, false, false, false, false, false, false, false, false, false] rfl rfl (any_of HT_.out (by kernel_rfl)) (fun _ _ _ h => h) (Or.inl ⟨by rfl, ?_⟩) ?_ ?_
             rotate_left
             ·intro w'
              go_simp
              with_reducible rfl
             rotate_left
             ·simp only [Act.put, sa25, sz25, ss25, i64_w, i32_w]
              rfl
             refine pure_ (i:=7) (N:=some 38) (v:=?_) (a' := ?_) #[true, true, true, true, true, true, true, true, false, false, false, false, false, false, false, false] rfl rfl (any_of HT_.out (by kernel_rfl)) (fun _ _ _ h => h) (Or.inl ⟨by rfl, ?_⟩) ?_ ?_
             rotate_left
             ·intro w'
              go_simp
              with_reducible rfl
             rotate_left
             ·simp only [Act.put, sa25, sz25, ss25, i64_w, i32_w]
              rfl
             refine pure_ (i:=8) (N:=some 39) (v:=?_) (a' := ?_) #[true, true, true, true, true, true, true, true, true, false, false, false, false, false, false, false] rfl rfl (any_of HT_.out (by kernel_rfl)) (fun _ _ _ h => h) (Or.inl ⟨by rfl, ?_⟩) ?_ ?_
             rotate_left
             ·intro w'
              go_simp
              with_reducible rfl
             rotate_left
             ·simp only [Act.put, sa25, sz25, ss25, i64_w, i32_w]
              rfl
             refine pure_ (i:=9) (N:=some 40) (v:=?_) (a' := ?_) #[true, true, true, true, true, true, true, true, true, true, false, false, false, false, false, false] rfl rfl (any_of HT_.out (by kernel_rfl)) (fun _ _ _ h => h) (Or.inl ⟨by rfl, ?_⟩) ?_ ?_
             rotate_left
             ·intro w'
              go_simp
              with_reducible rfl
             rotate_left
             ·simp only [Act.put, sa25, sz25, ss25, i64_w, i32_w]
              rfl
             refine pure_ (i:=10) (N:=some 41) (v:=?_) (a' := ?_) #[true, true, true, true, true, true, true, true, true, true, true, false, false, false, false, false] rfl rfl (any_of HT_.out (by kernel_rfl)) (fun _ _ _ h => h) (Or.inl ⟨by rfl, ?_⟩) ?_ ?_
             rotate_left
             ·intro w'
              go_simp
              with_reducible rfl
             rotate_left
             ·simp only [Act.put, sa25, sz25, ss25, i64_w, i32_w]
              rfl
             refine pure_ (i:=12) (N:=some 43) (v:=?_) (a' := ?_) #[true, true, true, true, true, true, true, true, true, true, true, false, true, false, false, false] rfl rfl (any_of HT_.out (by kernel_rfl)) (fun _ _ _ h => h) (Or.inl ⟨by rfl, ?_⟩) ?_ ?_
             rotate_left
             ·intro w'
              go_simp
              with_reducible rfl
             rotate_left
             ·simp only [Act.put, sa25, sz25, ss25, i64_w, i32_w]
              rfl
             refine take_ (i:=11) (N:=some 42) (v:=?_) (a' := ?_) #[true, true, true, true, true, true, true, true, true, true, true, true, true, false, false, false] rfl rfl (take_ofW HT_.out HW_.out (by kernel_rfl)) (fun _ _ _ h => h) (Or.inl ⟨by rfl, ?_⟩) hHeld ?_ ?_
             rotate_left
             ·rintro w' ⟨s0, s1, s2, s3⟩
              go_simp
              with_reducible rfl
             rotate_left
             ·simp only [Act.put, sa25, sz25, ss25, i64_w, i32_w]
              rfl
             refine take_ (i:=13) (N:=some 44) (v:=?_) (a' := ?_) #[true, true, true, true, true, true, true, true, true, true, true, true, true, true, false, false] rfl rfl (take_ofW HT_.out HW_.out (by kernel_rfl)) (fun _ _ _ h => h) (Or.inl ⟨by rfl, ?_⟩) hHeld ?_ ?_
             rotate_left
             ·rintro w' ⟨s0, s1, s2, s3⟩
              go_simp
              with_reducible rfl
             rotate_left
             ·simp only [Act.put, sa25, sz25, ss25, i64_w, i32_w]
              rfl
             refine pure_ (i:=14) (N:=some 45) (v:=?_) (a' := ?_) #[true, true, true, true, true, true, true, true, true, true, true, true, true, true, true, false] rfl rfl (any_of HT_.out (by kernel_rfl)) (fun _ _ _ h => h) (Or.inl ⟨by rfl, ?_⟩) ?_ ?_
             rotate_left
             ·intro w'
              go_simp
              with_reducible rfl
             rotate_left
             ·simp only [Act.put, sa25, sz25, ss25, i64_w, i32_w]
              rfl
             refine pure_ (i:=15) (N:=some 46) (v:=?_) (a' := ?_) #[true, true, true, true, true, true, true, true, true, true, true, true, true, true, true, true] rfl rfl (any_of HT_.out (by kernel_rfl)) (fun _ _ _ h => h) (Or.inl ⟨by rfl, ?_⟩) ?_ ?_
             rotate_left
             ·intro w'
              go_simp
              with_reducible rfl
             rotate_left
             ·simp only [Act.put, sa25, sz25, ss25, i64_w, i32_w]
              rfl
             refine done_ (done_of HT_.out (by kernel_rfl)) ?_
             try go_wp2
             go_roundg k2
             case measure => have := HK1.out; have := HK2.out; omega
             case rel => exact ⟨(x5_2), (wrap64 (x7_2 + 1)), (by first | rfl | (simp; done) | (simp [*]; done)), H', ⟨by have := HK1.out; have := HK2.out; omega⟩, ⟨by (with_reducible repeat first | apply Ra25 | apply Rn25 | apply Rd25); exact Ro25 HO_5.out (fun _ hk => hk.1)⟩, ⟨by (with_reducible repeat first | apply kn25 | apply kd25 | apply ka25); exact BK218.out⟩, ⟨by repeat (first | (with_reducible first | exact HB.out | apply ba25 | apply bn25 | apply bd25 | refine bs25 ?_ GE218.out | refine bs25 ?_ GE224.out) | exact HB.out)⟩⟩
            ·rw [if_neg c18] at H
             have c18b0 : ((rdOf ByteArray.empty l1 x6_1).toList == ((rd_T26 x5_2 x7_2).f0).toList) = false := beq_eq_false_iff_ne.mpr c18
             have c18b1 : ((rdOf ByteArray.empty l1 x6_1).toList != ((rd_T26 x5_2 x7_2).f0).toList) = true := bne_iff_ne.mpr c18
             obtain ⟨y228, hy228⟩ : ∃ y_ : List (S26), y_ = (([] : List (S26))) := ⟨_, rfl⟩
             replace H : (if 0 ≤ (wrap64 (x7_2 + 1)) then (if (wrap64 (x7_2 + 1)) ≤ (x5_2.length : Int) then ((some (x5_2.drop ((wrap64 (x7_2 + 1)) : Int).toNat : List (S26))).bind fun y231 => (if y228.length + y231.length < 4398046511104 then ((some (y228 ++ y231 : List (S26))).bind fun y235 => (if x7_2 ≤ (x5_2.length : Int) then ((some (x5_2.take (x7_2 : Int).toNat : List (S26))).bind fun y238 => ((some (([(⟨(rd_T26 x5_2 x7_2).f0, rdOf ByteArray.empty l1 x6_1⟩ : S26), (⟨rdOf ByteArray.empty l1 x6_1, (rd_T26 x5_2 x7_2).f1⟩ : S26)] : List (S26)) : List (S26))).bind fun y243 => (if y238.length + y243.length < 4398046511104 then ((some (y238 ++ y243 : List (S26))).bind fun y246 => (if y246.length + y235.length < 4398046511104 then (watershedref04_Cut.l0 k2 l1 (y246 ++ y235) (wrap64 (x6_1 + 1))) else (none))) else (none)))) else (none))) else (none))) else (none)) else (none)) = some r := by first | (rw [hy228]; with_reducible exact H) | (have H2_ := (Option.bind_some _ _).symm.trans H; rw [hy228]; with_reducible exact H2_) | (have H2_ := (Option.bind_some _ _).symm.trans H; with_reducible exact H2_) | with_reducible exact H | (rw [hy228]; exact H) | exact H
             have Ny228 := Am25 hy228
             clear hy228
             obtain ⟨ji26, hji26⟩ : ∃ j_ : Int, (wrap64 (x7_2 + 1)) = j_ := ⟨_, rfl⟩
             replace H : (if 0 ≤ (ji26) then (if (ji26) ≤ (x5_2.length : Int) then ((some (x5_2.drop ((ji26) : Int).toNat : List (S26))).bind fun y231 => (if y228.length + y231.length < 4398046511104 then ((some (y228 ++ y231 : List (S26))).bind fun y235 => (if x7_2 ≤ (x5_2.length : Int) then ((some (x5_2.take (x7_2 : Int).toNat : List (S26))).bind fun y238 => ((some (([(⟨(rd_T26 x5_2 x7_2).f0, rdOf ByteArray.empty l1 x6_1⟩ : S26), (⟨rdOf ByteArray.empty l1 x6_1, (rd_T26 x5_2 x7_2).f1⟩ : S26)] : List (S26)) : List (S26))).bind fun y243 => (if y238.length + y243.length < 4398046511104 then ((some (y238 ++ y243 : List (S26))).bind fun y246 => (if y246.length + y235.length < 4398046511104 then (watershedref04_Cut.l0 k2 l1 (y246 ++ y235) (wrap64 (x6_1 + 1))) else (none))) else (none)))) else (none))) else (none))) else (none)) else (none)) = some r := by first | (rw [hji26] at H; exact H) | (simp only [hji26] at H ⊢; exact H)
             (try rw [hji26] at A16)
             have hji26w : (IntKind.i64.wrap (x7_2 + 1)) = ji26 := (i64_w _).trans hji26
             by_cases c27 : 0 ≤ (ji26)
             ·rw [if_pos c27] at H
              have c27b0 := eq_true c27
              have c27b1 : decide (0 ≤ (ji26)) = true := decide_eq_true c27
              clear c27
              by_cases c28 : (ji26) ≤ (x5_2.length : Int)
              ·rw [if_pos c28] at H
               have c28b0 := eq_true c28
               have c28b1 : decide ((ji26) ≤ (x5_2.length : Int)) = true := decide_eq_true c28
               clear c28
               obtain ⟨y231, hy231⟩ : ∃ y_ : List (S26), y_ = (x5_2.drop ((ji26) : Int).toNat) := ⟨_, rfl⟩
               replace H : (if y228.length + y231.length < 4398046511104 then ((some (y228 ++ y231 : List (S26))).bind fun y235 => (if x7_2 ≤ (x5_2.length : Int) then ((some (x5_2.take (x7_2 : Int).toNat : List (S26))).bind fun y238 => ((some (([(⟨(rd_T26 x5_2 x7_2).f0, rdOf ByteArray.empty l1 x6_1⟩ : S26), (⟨rdOf ByteArray.empty l1 x6_1, (rd_T26 x5_2 x7_2).f1⟩ : S26)] : List (S26)) : List (S26))).bind fun y243 => (if y238.length + y243.length < 4398046511104 then ((some (y238 ++ y243 : List (S26))).bind fun y246 => (if y246.length + y235.length < 4398046511104 then (watershedref04_Cut.l0 k2 l1 (y246 ++ y235) (wrap64 (x6_1 + 1))) else (none))) else (none)))) else (none))) else (none)) = some r := by first | (rw [hy231]; with_reducible exact H) | (have H2_ := (Option.bind_some _ _).symm.trans H; rw [hy231]; with_reducible exact H2_) | (have H2_ := (Option.bind_some _ _).symm.trans H; with_reducible exact H2_) | with_reducible exact H | (rw [hy231]; exact H) | exact H
               have Ny231 := Am25 hy231
               clear hy231
               by_cases c29 : y228.length + y231.length < 4398046511104
               ·rw [if_pos c29] at H
                have LMc29 := Am25 c29
                clear c29
                obtain ⟨y235, hy235⟩ : ∃ y_ : List (S26), y_ = (y228 ++ y231) := ⟨_, rfl⟩
                replace H : (if x7_2 ≤ (x5_2.length : Int) then ((some (x5_2.take (x7_2 : Int).toNat : List (S26))).bind fun y238 => ((some (([(⟨(rd_T26 x5_2 x7_2).f0, rdOf ByteArray.empty l1 x6_1⟩ : S26), (⟨rdOf ByteArray.empty l1 x6_1, (rd_T26 x5_2 x7_2).f1⟩ : S26)] : List (S26)) : List (S26))).bind fun y243 => (if y238.length + y243.length < 4398046511104 then ((some (y238 ++ y243 : List (S26))).bind fun y246 => (if y246.length + y235.length < 4398046511104 then (watershedref04_Cut.l0 k2 l1 (y246 ++ y235) (wrap64 (x6_1 + 1))) else (none))) else (none)))) else (none)) = some r := by first | (rw [hy235]; with_reducible exact H) | (have H2_ := (Option.bind_some _ _).symm.trans H; rw [hy235]; with_reducible exact H2_) | (have H2_ := (Option.bind_some _ _).symm.trans H; with_reducible exact H2_) | with_reducible exact H | (rw [hy235]; exact H) | exact H
                have Ny235 := Am25 hy235
                clear hy235
                by_cases c30 : x7_2 ≤ (x5_2.length : Int)
                ·rw [if_pos c30] at H
                 have c30b0 := eq_true c30
                 have c30b1 : decide (x7_2 ≤ (x5_2.length : Int)) = true := decide_eq_true c30
                 clear c30
                 obtain ⟨y238, hy238⟩ : ∃ y_ : List (S26), y_ = (x5_2.take (x7_2 : Int).toNat) := ⟨_, rfl⟩
                 replace H : ((some (([(⟨(rd_T26 x5_2 x7_2).f0, rdOf ByteArray.empty l1 x6_1⟩ : S26), (⟨rdOf ByteArray.empty l1 x6_1, (rd_T26 x5_2 x7_2).f1⟩ : S26)] : List (S26)) : List (S26))).bind fun y243 => (if y238.length + y243.length < 4398046511104 then ((some (y238 ++ y243 : List (S26))).bind fun y246 => (if y246.length + y235.length < 4398046511104 then (watershedref04_Cut.l0 k2 l1 (y246 ++ y235) (wrap64 (x6_1 + 1))) else (none))) else (none))) = some r := by first | (rw [hy238]; with_reducible exact H) | (have H2_ := (Option.bind_some _ _).symm.trans H; rw [hy238]; with_reducible exact H2_) | (have H2_ := (Option.bind_some _ _).symm.trans H; with_reducible exact H2_) | with_reducible exact H | (rw [hy238]; exact H) | exact H
                 have Ny238 := Am25 hy238
                 clear hy238
                 obtain ⟨y243, hy243⟩ : ∃ y_ : List (S26), y_ = (([(⟨(rd_T26 x5_2 x7_2).f0, rdOf ByteArray.empty l1 x6_1⟩ : S26), (⟨rdOf ByteArray.empty l1 x6_1, (rd_T26 x5_2 x7_2).f1⟩ : S26)] : List (S26))) := ⟨_, rfl⟩
                 replace H : (if y238.length + y243.length < 4398046511104 then ((some (y238 ++ y243 : List (S26))).bind fun y246 => (if y246.length + y235.length < 4398046511104 then (watershedref04_Cut.l0 k2 l1 (y246 ++ y235) (wrap64 (x6_1 + 1))) else (none))) else (none)) = some r := by first | (rw [hy243]; with_reducible exact H) | (have H2_ := (Option.bind_some _ _).symm.trans H; rw [hy243]; with_reducible exact H2_) | (have H2_ := (Option.bind_some _ _).symm.trans H; with_reducible exact H2_) | with_reducible exact H | (rw [hy243]; exact H) | exact H
                 have Ny243 := Am25 hy243
                 clear hy243
                 by_cases c31 : y238.length + y243.length < 4398046511104
                 ·rw [if_pos c31] at H
                  have LMc31 := Am25 c31
                  clear c31
                  obtain ⟨y246, hy246⟩ : ∃ y_ : List (S26), y_ = (y238 ++ y243) := ⟨_, rfl⟩
                  replace H : (if y246.length + y235.length < 4398046511104 then (watershedref04_Cut.l0 k2 l1 (y246 ++ y235) (wrap64 (x6_1 + 1))) else (none)) = some r := by first | (rw [hy246]; with_reducible exact H) | (have H2_ := (Option.bind_some _ _).symm.trans H; rw [hy246]; with_reducible exact H2_) | (have H2_ := (Option.bind_some _ _).symm.trans H; with_reducible exact H2_) | with_reducible exact H | (rw [hy246]; exact H) | exact H
                  have Ny246 := Am25 hy246
                  clear hy246
                  by_cases c32 : y246.length + y235.length < 4398046511104
                  ·rw [if_pos c32] at H
                   have LMc32 := Am25 c32
                   clear c32
                   obtain ⟨y249, hy249⟩ : ∃ y_ : List (S26), y_ = (y246 ++ y235) := ⟨_, rfl⟩
                   replace H : (watershedref04_Cut.l0 k2 l1 y249 (wrap64 (x6_1 + 1))) = some r := by first | (rw [hy249]; with_reducible exact H) | (have H2_ := (Option.bind_some _ _).symm.trans H; rw [hy249]; with_reducible exact H2_) | (have H2_ := (Option.bind_some _ _).symm.trans H; with_reducible exact H2_) | with_reducible exact H | (rw [hy249]; exact H) | exact H
                   have Ny249 := Am25 hy249
                   clear hy249
                   have H' := Am25 H
                   clear H
                   obtain ⟨Ao33, co33, eo33⟩ := Kd.R_slice HO_5.out
                   subst eo33
                   have p223 : 0 ≤ (x7_2 : Int) := of_decide_eq_true (by first | (with_reducible assumption) | assumption)
                   have q223 : x7_2 < (x5_2.length : Int) := of_decide_eq_true (by first | (with_reducible assumption) | assumption)
                   obtain ⟨ad223, e223, hx223_0, hx223_1⟩ := at_T26 (Kd.R_reads' HO_5.out).2.2 x7_2 p223 q223
                   cases e223
                   replace p223 := eq_true p223
                   replace q223 := eq_true q223
                   try go_wp2_with (first | ((with_reducible refine gate_dst (N:=8) rfl ?_); refine box_event ?hg (N:=8) ?hd (cs:=#[.string (⟨#[]⟩ : ByteArray), .string (⟨#[]⟩ : ByteArray)]) (t:=26) ?hr ?_; (case hd => rfl); (case hg => rfl); (case hr => first | (go_simp; done) | (go_simp; rfl)); intro gb224 hg w34 hbox hb; have n0_ := Am25 (Rb25 (Kd.R_elderB (by (with_reducible repeat first | apply Ra25 | apply Rn25 | apply Rd25); exact HO_5.out) gb224 (Nat.le_of_eq hg.symm)) hb); have n1_ := Am25 (kb25 (g:=gb218) (o:=.cells #[.string a0_0, .string a0_1] 26 (0, 0)) (by (with_reducible repeat first | apply kn25 | apply kd25 | apply ka25); exact BK218.out) hb); have n2_ := Am25 (bp25 (by repeat (first | (with_reducible first | exact HB.out | apply ba25 | apply bn25 | apply bd25 | refine bs25 ?_ GE218.out) | exact HB.out)) hb); have n3_ := Am25 (hbox); have n4_ := Am25 ((by rw [hg]; exact (bz25 (by repeat (first | (with_reducible first | exact HB.out | apply ba25 | apply bn25 | apply bd25 | refine bs25 ?_ GE218.out) | exact HB.out))) : w.heap.size ≤ gb224)); have n5_ := Am25 ((by rw [hg]; exact (bz25 (by repeat (first | (with_reducible first | exact HB.out | apply ba25 | apply bn25 | apply bd25 | refine bs25 ?_ GE218.out) | exact HB.out))) : w.heap.size ≤ gb224)); have n6_ := Am25 ((by rw [hg]; exact Nat.ne_of_lt (blk_lt (g:=gb218) (o:=.cells #[.string a0_0, .string a0_1] 26 (0, 0)) (by (with_reducible repeat first | apply kn25 | apply kd25 | apply ka25); exact BK218.out)) : gb218 ≠ gb224)); have n7_ := Am25 ((by rw [hg]; exact Nat.ne_of_gt (blk_lt (g:=gb218) (o:=.cells #[.string a0_0, .string a0_1] 26 (0, 0)) (by (with_reducible repeat first | apply kn25 | apply kd25 | apply ka25); exact BK218.out)) : gb224 ≠ gb218)); clear HO_5; clear BK218; clear HB; have HO_5 := n0_; have BK218 := n1_; have HB := n2_; have BK224 := n3_; have GW224 := n4_; have GE224 := n5_; have NB218_224 := n6_; have NB224_218 := n7_; clear n0_ n1_ n2_ n3_ n4_ n5_ n6_ n7_; clear hb hbox hg; have hnb35 := NB224_218.out; have hnc35 := NB218_224.out; have hcz36_0 : w34.cell? ⟨gb224, 0, none⟩ = some (.string (⟨#[]⟩ : ByteArray)) := (kc25 BK224.out 0).trans rfl; have hcz36_1 : w34.cell? ⟨gb224, 1, none⟩ = some (.string (⟨#[]⟩ : ByteArray)) := (kc25 BK224.out 1).trans rfl; have hfz36_0 := kz25 BK224.out 0; have hfz36_1 := kz25 BK224.out 1))
                   have n0_ : Aside0 (Kd.R k26 26 ((w34.setCell ⟨gb224, 0, none⟩ (.string ((rd_T26 x5_2 x7_2).f0))).setCell ⟨gb224, 1, none⟩ (.string ((rd_T26 x5_2 x7_2).f1))) w.heap.size (fun k_ => k_ ≠ gb218 ∧ k_ ≠ gb224) (.slice (some ad223) x5_2.length co33) x5_2) := ⟨by (with_reducible repeat first | apply Ra25 | apply Rn25 | apply Rd25); exact Ro25 (Rf25 (p:=⟨gb224, 1, none⟩) (Rf25 (p:=⟨gb224, 0, none⟩) (Ro25 HO_5.out (fun k_ hk => (⟨hk, hk.2⟩ : _ ∧ k_ ≠ gb224))) (fun _ h=>h.2) (.string ((rd_T26 x5_2 x7_2).f0))) (fun _ h=>h.2) (.string ((rd_T26 x5_2 x7_2).f1))) (fun _ hk => ⟨hk.1.1, hk.1.2⟩)⟩
                   have n1_ : Aside0 (((w34.setCell ⟨gb224, 0, none⟩ (.string ((rd_T26 x5_2 x7_2).f0))).setCell ⟨gb224, 1, none⟩ (.string ((rd_T26 x5_2 x7_2).f1))).heap[gb218]? = some (.cells #[.string a0_0, .string a0_1] 26 (0, 0))) := ⟨by (with_reducible repeat first | apply kn25 | apply kd25 | apply ka25); refine kf25 ?_ NB218_224.out _; (with_reducible repeat first | apply kn25 | apply kd25 | apply ka25); refine kf25 ?_ NB218_224.out _; (with_reducible repeat first | apply kn25 | apply kd25 | apply ka25); exact BK218.out⟩
                   have n2_ : Aside0 (((w34.setCell ⟨gb224, 0, none⟩ (.string ((rd_T26 x5_2 x7_2).f0))).setCell ⟨gb224, 1, none⟩ (.string ((rd_T26 x5_2 x7_2).f1))).heap[gb224]? = some (.cells #[.string ((rd_T26 x5_2 x7_2).f0), .string ((rd_T26 x5_2 x7_2).f1)] 26 (0, 0))) := ⟨by (with_reducible repeat first | apply kn25 | apply kd25 | apply ka25); refine blk_put (cs:=#[.string ((rd_T26 x5_2 x7_2).f0), .string (⟨#[]⟩ : ByteArray)]) ?_ 1 _ rfl; (with_reducible repeat first | apply kn25 | apply kd25 | apply ka25); refine blk_put (cs:=#[.string (⟨#[]⟩ : ByteArray), .string (⟨#[]⟩ : ByteArray)]) ?_ 0 _ rfl; (with_reducible repeat first | apply kn25 | apply kd25 | apply ka25); exact BK224.out⟩
                   have n3_ : Aside0 (Below w.heap.size w ((w34.setCell ⟨gb224, 0, none⟩ (.string ((rd_T26 x5_2 x7_2).f0))).setCell ⟨gb224, 1, none⟩ (.string ((rd_T26 x5_2 x7_2).f1)))) := ⟨by repeat (first | (with_reducible first | exact HB.out | apply ba25 | apply bn25 | apply bd25 | refine bs25 ?_ GE218.out | refine bs25 ?_ GE224.out) | exact HB.out)⟩
                   (try clear HO_5)
                   (try clear BK218)
                   (try clear BK224)
                   (try clear HB)
                   generalize ((w34.setCell ⟨gb224, 0, none⟩ (.string ((rd_T26 x5_2 x7_2).f0))).setCell ⟨gb224, 1, none⟩ (.string ((rd_T26 x5_2 x7_2).f1))) = w37 at n0_ n1_ n2_ n3_ ⊢
                   have HO_5 := n0_
                   have BK218 := n1_
                   have BK224 := n2_
                   have HB := n3_
                   clear n0_ n1_ n2_ n3_
                   have n0_ := Am25 (Rd25 HO_5.out)
                   have n1_ := Am25 (kd25 BK218.out)
                   have n2_ := Am25 (kd25 BK224.out)
                   have n3_ := Am25 (bd25 HB.out)
                   clear HO_5
                   clear BK218
                   clear BK224
                   clear HB
                   have HO_5 := n0_
                   have BK218 := n1_
                   have BK224 := n2_
                   have HB := n3_
                   clear n0_ n1_ n2_ n3_
                   have p225 : 0 ≤ (x6_1 : Int) := of_decide_eq_true (by first | (with_reducible assumption) | assumption)
                   have q225 : x6_1 < (l1.length : Int) := of_decide_eq_true (by first | (with_reducible assumption) | assumption)
                   obtain ⟨ad225, e225, hx225_0⟩ := Kd.at_string HR1.out x6_1 p225 q225
                   have hw225_0 := hx225_0
                   cases e225
                   replace hx225_0 := (HB.out.cell (World.block_lt_of_cell? w _ hx225_0)).trans hx225_0
                   replace p225 := eq_true p225
                   replace q225 := eq_true q225
                   have p227 : 0 ≤ (x6_1 : Int) := of_decide_eq_true (by first | (with_reducible assumption) | assumption)
                   have q227 : x6_1 < (l1.length : Int) := of_decide_eq_true (by first | (with_reducible assumption) | assumption)
                   obtain ⟨ad227, e227, hx227_0⟩ := Kd.at_string HR1.out x6_1 p227 q227
                   have hw227_0 := hx227_0
                   obtain rfl : ad225 = ad227 := (by injection e227)
                   replace hx227_0 := (HB.out.cell (World.block_lt_of_cell? w _ hx227_0)).trans hx227_0
                   replace p227 := eq_true p227
                   replace q227 := eq_true q227
                   refine start_ (n:=16) (S:=fun w' => w'.cell? ⟨gb224, 0, none⟩ = some (.string ((rd_T26 x5_2 x7_2).f0)) ∧ w'.cell? ⟨gb224, 1, none⟩ = some (.string ((rd_T26 x5_2 x7_2).f1)) ∧ w'.cell? (ad225.add (x6_1).toNat) = some (.string (rdOf ByteArray.empty l1 x6_1)) ∧ w'.cell? (ad225.add (x6_1).toNat) = some (.string (rdOf ByteArray.empty l1 x6_1))) (ds:=[]) #[false, false, false, false, false, false, false, false, false, false, false, false, false, false, false, false] (by kernel_rfl) rfl rfl ⟨(kc25 BK224.out 0).trans rfl, (kc25 BK224.out 1).trans rfl, ((HB.out.cell (World.block_lt_of_cell? w _ hw225_0)).trans hw225_0), ((HB.out.cell (World.block_lt_of_cell? w _ hw227_0)).trans hw227_0)⟩ (fun hHeld => ?_); refine with_tabW watershedref04_Cut.tab11 watershedref04_Cut.bits11 (fun HT_ HW_ => ?_)
                   generalize w37.drew = w38 at HO_5 BK218 BK224 HB hx225_0 hx227_0 hHeld ⊢
                   refine pure_ (i:=1) (N:=some 32) (v:=?_) (a' := ?_) #[false, true, false, false, false, false, false, false, false, false, false, false, false, false, false, false] rfl rfl (any_of HT_.out (by kernel_rfl)) (fun _ _ _ h => h) (Or.inl ⟨by rfl, ?_⟩) ?_ ?_
                   rotate_left
                   ·intro w'
                    go_simp
                    with_reducible rfl
                   rotate_left
                   ·simp only [Act.put, sa25, sz25, ss25, i64_w, i32_w]
                    rfl
                   refine pure_ (i:=2) (N:=some 33) (v:=?_) (a' := ?_) #[false, true, true, false, false, false, false, false, false, false, false, false, false, false, false, false] rfl rfl (any_of HT_.out (by kernel_rfl)) (fun _ _ _ h => h) (Or.inl ⟨by rfl, ?_⟩) ?_ ?_
                   rotate_left
                   ·intro w'
                    go_simp
                    with_reducible rfl
                   rotate_left
                   ·simp only [Act.put, sa25, sz25, ss25, i64_w, i32_w]
                    rfl
                   refine pure_ (i:=3) (N:=some 34) (v:=?_) (a' := ?_) #[false, true, true, true, false, false, false, false, false, false, false, false, false, false, false, false] rfl rfl (any_of HT_.out (by kernel_rfl)) (fun _ _ _ h => h) (Or.inl ⟨by rfl, ?_⟩) ?_ ?_
                   rotate_left
                   ·intro w'
                    go_simp
                    with_reducible rfl
                   rotate_left
                   ·simp only [Act.put, sa25, sz25, ss25, i64_w, i32_w]
                    rfl
                   refine take_ (i:=0) (N:=some 31) (v:=?_) (a' := ?_) #[true, true, true, true, false, false, false, false, false, false, false, false, false, false, false, false] rfl rfl (take_ofW HT_.out HW_.out (by kernel_rfl)) (fun _ _ _ h => h) (Or.inl ⟨by rfl, ?_⟩) hHeld ?_ ?_
                   rotate_left
                   ·rintro w' ⟨s0, s1, s2, s3⟩
                    go_simp
                    with_reducible rfl
                   rotate_left
                   ·simp only [Act.put, sa25, sz25, ss25, i64_w, i32_w]
                    rfl
                   refine take_ (i:=4) (N:=some 35) (v:=?_) (a' := ?_) #[true, true, true, true, true, false, false, false, false, false, false, false, false, false, false, false] rfl rfl (take_ofW HT_.out HW_.out (by kernel_rfl)) (fun _ _ _ h => h) (Or.inl ⟨by rfl, ?_⟩) hHeld ?_ ?_
                   rotate_left
                   ·rintro w' ⟨s0, s1, s2, s3⟩
                    go_simp
                    with_reducible rfl
                   rotate_left
                   ·simp only [Act.put, sa25, sz25, ss25, i64_w, i32_w]
                    rfl
                   refine one_ (i:=5) (N:=some 36) #[true, true, true, true, true, true, false, false, false, false, false, false, false, false, false, false] rfl rfl (one_of HT_.out (by kernel_rfl)) (by decide) (fun K hK => ?_)
                   refine goes_ Try.func21 (by kernel_rfl) rfl #[.agg #[.string ((rd_T26 x5_2 x7_2).f0), .string ((rd_T26 x5_2 x7_2).f1)], .string (rdOf ByteArray.empty l1 x6_1)] (by rfl) rfl rfl (by (try simp only [ma25, mc25, mn25]); first | done | rfl | (simp only [ld25, lt_25]; rfl)) ?_
                   with_reducible refine (watershedref04_Has.calls k2 ((rd_T26 x5_2 x7_2).f0) ((rd_T26 x5_2 x7_2).f1) (rdOf ByteArray.empty l1 x6_1) true _ A16.out).mono ?_
                   rintro e w39 ⟨rfl, hb⟩
                   refine ⟨_, rfl, ?_⟩
                   have n0_ := Am25 (Rb25 (by (with_reducible repeat first | apply Ra25 | apply Rn25 | apply Rd25); exact HO_5.out) hb)
                   have n1_ := Am25 (kb25 (g:=gb218) (o:=.cells #[.string a0_0, .string a0_1] 26 (0, 0)) (by (with_reducible repeat first | apply kn25 | apply kd25 | apply ka25); exact BK218.out) hb)
                   have n2_ := Am25 (kb25 (g:=gb224) (o:=.cells #[.string ((rd_T26 x5_2 x7_2).f0), .string ((rd_T26 x5_2 x7_2).f1)] 26 (0, 0)) (by (with_reducible repeat first | apply kn25 | apply kd25 | apply ka25); exact BK224.out) hb)
                   have n3_ := Am25 (bp25 (by repeat (first | (with_reducible first | exact HB.out | apply ba25 | apply bn25 | apply bd25 | refine bs25 ?_ GE218.out | refine bs25 ?_ GE224.out) | exact HB.out)) hb)
                   clear HO_5
                   clear BK218
                   clear BK224
                   clear HB
                   have HO_5 := n0_
                   have BK218 := n1_
                   have BK224 := n2_
                   have HB := n3_
                   clear n0_ n1_ n2_ n3_
                   (try clear hb)
                   (try clear hb2)
                   (try clear hk)
                   (try clear hi)
                   refine hK.out _ _ ⟨(kc25 BK224.out 0).trans rfl, (kc25 BK224.out 1).trans rfl, ((HB.out.cell (World.block_lt_of_cell? w _ hw225_0)).trans hw225_0), ((HB.out.cell (World.block_lt_of_cell? w _ hw227_0)).trans hw227_0)⟩ (fun hHeld => ?_)
                   clear hK K
                   refine norm_ (a' := ?_) ?_ ?_
                   rotate_left
                   ·show Act.put _ (some 36) _ = _
                    simp only [Act.put, sa25, sz25, ss25, i64_w, i32_w]
                    rfl
                   refine pure_ (i:=6) (N:=some 37) (v:=?_) (a' := ?_) #[true, true, true, true, true, true, true, false, false, false, false, false, false, false, false, false] rfl rfl (any_of HT_.out (by kernel_rfl)) (fun _ _ _ h => h) (Or.inl ⟨by rfl, ?_⟩) ?_ ?_
                   rotate_left
                   ·intro w'
                    go_simp
                    with_reducible rfl
                   rotate_left
                   ·simp only [Act.put, sa25, sz25, ss25, i64_w, i32_w]
                    rfl
                   refine pure_ (i:=7) (N:=some 38) (v:=?_) (a' := ?_) #[true, true, true, true, true, true, true, true, false, false, false, false, false, false, false, false] rfl rfl (any_of HT_.out (by kernel_rfl)) (fun _ _ _ h => h) (Or.inl ⟨by rfl, ?_⟩) ?_ ?_
                   rotate_left
                   ·intro w'
                    go_simp
                    with_reducible rfl
                   rotate_left
                   ·simp only [Act.put, sa25, sz25, ss25, i64_w, i32_w]
                    rfl
                   refine pure_ (i:=8) (N:=some 39) (v:=?_) (a' := ?_) #[true, true, true, true, true, true, true, true, true, false, false, false, false, false, false, false] rfl rfl (any_of HT_.out (by kernel_rfl)) (fun _ _ _ h => h) (Or.inl ⟨by rfl, ?_⟩) ?_ ?_
                   rotate_left
                   ·intro w'
                    go_simp
                    with_reducible rfl
                   rotate_left
                   ·simp only [Act.put, sa25, sz25, ss25, i64_w, i32_w]
                    rfl
                   refine pure_ (i:=9) (N:=some 40) (v:=?_) (a' := ?_) #[true, true, true, true, true, true, true, true, true, true, false, false, false, false, false, false] rfl rfl (any_of HT_.out (by kernel_rfl)) (fun _ _ _ h => h) (Or.inl ⟨by rfl, ?_⟩) ?_ ?_
                   rotate_left
                   ·intro w'
                    go_simp
                    with_reducible rfl
                   rotate_left
                   ·simp only [Act.put, sa25, sz25, ss25, i64_w, i32_w]
                    rfl
                   refine pure_ (i:=10) (N:=some 41) (v:=?_) (a' := ?_) #[true, true, true, true, true, true, true, true, true, true, true, false, false, false, false, false] rfl rfl (any_of HT_.out (by kernel_rfl)) (fun _ _ _ h => h) (Or.inl ⟨by rfl, ?_⟩) ?_ ?_
                   rotate_left
                   ·intro w'
                    go_simp
                    with_reducible rfl
                   rotate_left
                   ·simp only [Act.put, sa25, sz25, ss25, i64_w, i32_w]
                    rfl
                   refine pure_ (i:=12) (N:=some 43) (v:=?_) (a' := ?_) #[true, true, true, true, true, true, true, true, true, true, true, false, true, false, false, false] rfl rfl (any_of HT_.out (by kernel_rfl)) (fun _ _ _ h => h) (Or.inl ⟨by rfl, ?_⟩) ?_ ?_
                   rotate_left
                   ·intro w'
                    go_simp
                    with_reducible rfl
                   rotate_left
                   ·simp only [Act.put, sa25, sz25, ss25, i64_w, i32_w]
                    rfl
                   refine take_ (i:=11) (N:=some 42) (v:=?_) (a' := ?_) #[true, true, true, true, true, true, true, true, true, true, true, true, true, false, false, false] rfl rfl (take_ofW HT_.out HW_.out (by kernel_rfl)) (fun _ _ _ h => h) (Or.inl ⟨by rfl, ?_⟩) hHeld ?_ ?_
                   rotate_left
                   ·rintro w' ⟨s0, s1, s2, s3⟩
                    go_simp
                    with_reducible rfl
                   rotate_left
                   ·simp only [Act.put, sa25, sz25, ss25, i64_w, i32_w]
                    rfl
                   refine take_ (i:=13) (N:=some 44) (v:=?_) (a' := ?_) #[true, true, true, true, true, true, true, true, true, true, true, true, true, true, false, false] rfl rfl (take_ofW HT_.out HW_.out (by kernel_rfl)) (fun _ _ _ h => h) (Or.inl ⟨by rfl, ?_⟩) hHeld ?_ ?_
                   rotate_left
                   ·rintro w' ⟨s0, s1, s2, s3⟩
                    go_simp
                    with_reducible rfl
                   rotate_left
                   ·simp only [Act.put, sa25, sz25, ss25, i64_w, i32_w]
                    rfl
                   refine pure_ (i:=14) (N:=some 45) (v:=?_) (a' := ?_) #[true, true, true, true, true, true, true, true, true, true, true, true, true, true, true, false] rfl rfl (any_of HT_.out (by kernel_rfl)) (fun _ _ _ h => h) (Or.inl ⟨by rfl, ?_⟩) ?_ ?_
                   rotate_left
                   ·intro w'
                    go_simp
                    with_reducible rfl
                   rotate_left
                   ·simp only [Act.put, sa25, sz25, ss25, i64_w, i32_w]
                    rfl
                   refine pure_ (i:=15) (N:=some 46) (v:=?_) (a' := ?_) #[true, true, true, true, true, true, true, true, true, true, true, true, true, true, true, true] rfl rfl (any_of HT_.out (by kernel_rfl)) (fun _ _ _ h => h) (Or.inl ⟨by rfl, ?_⟩) ?_ ?_
                   rotate_left
                   ·intro w'
                    go_simp
                    with_reducible rfl
                   rotate_left
                   ·simp only [Act.put, sa25, sz25, ss25, i64_w, i32_w]
                    rfl
                   refine done_ (done_of HT_.out (by kernel_rfl)) ?_
                   try go_wp2_with (first | ((with_reducible refine gate_dst (N:=47) rfl ?_); refine Kd.R_lit k26 _ 26 ?hg (N:=47) ?hd (xs:=([] : List (S26))) (inner:=[]) (ok:=fun _ => True) (okp:=fun _ => True) ?hr ?hp (fun _ hk => hk) trivial (Below.refl _ _) (Nat.le_refl _) (by simp) ?_; (case hd => rfl); (case hg => rfl); (case hr => first | (go_simp; done) | (go_simp; rfl)); (case hp => exact (Reps.none _ _)); intro v229 w40 ho41 hb hg_ hnew_; clear hg_ hnew_; (first | rw [← Ny228.out] at ho41 | (simp only [Int.reduceToNat] at ho41; rw [← Ny228.out] at ho41)); have n0_ := Am25 (Re25 (by (with_reducible repeat first | apply Ra25 | apply Rn25 | apply Rd25); exact HO_5.out) (Ra_25 ho41) hb); have n1_ := Am25 (Rl25 (Kd.R_newB (Kd.R_newB (Rw25 ho41 (Rt25 (by (with_reducible repeat first | apply Ra25 | apply Rn25 | apply Rd25); exact HO_5.out))) (g:=gb218) (o:=.cells #[.string a0_0, .string a0_1] 26 (0, 0)) (by (with_reducible repeat first | apply kn25 | apply kd25 | apply ka25); exact BK218.out)) (g:=gb224) (o:=.cells #[.string ((rd_T26 x5_2 x7_2).f0), .string ((rd_T26 x5_2 x7_2).f1)] 26 (0, 0)) (by (with_reducible repeat first | apply kn25 | apply kd25 | apply ka25); exact BK224.out)) (bz25 (by repeat (first | (with_reducible first | exact HB.out | apply ba25 | apply bn25 | apply bd25 | refine bs25 ?_ GE218.out | refine bs25 ?_ GE224.out) | exact HB.out)))); have n2_ := Am25 (kb25 (g:=gb218) (o:=.cells #[.string a0_0, .string a0_1] 26 (0, 0)) (by (with_reducible repeat first | apply kn25 | apply kd25 | apply ka25); exact BK218.out) hb); have n3_ := Am25 (kb25 (g:=gb224) (o:=.cells #[.string ((rd_T26 x5_2 x7_2).f0), .string ((rd_T26 x5_2 x7_2).f1)] 26 (0, 0)) (by (with_reducible repeat first | apply kn25 | apply kd25 | apply ka25); exact BK224.out) hb); have n4_ := Am25 (bp25 (by repeat (first | (with_reducible first | exact HB.out | apply ba25 | apply bn25 | apply bd25 | refine bs25 ?_ GE218.out | refine bs25 ?_ GE224.out) | exact HB.out)) hb); clear HO_5; clear BK218; clear BK224; clear HB; have HO_5 := n0_; have HO230 := n1_; have BK218 := n2_; have BK224 := n3_; have HB := n4_; clear n0_ n1_ n2_ n3_ n4_; clear hb ho41; have q42 : ((ji26) : Int) ≤ ((x5_2.length : Int) : Int) := of_decide_eq_true (by first | (with_reducible assumption) | assumption); obtain ⟨i042, hi042, _, hsz42, _⟩ := info_parts info26; have hroom42 : x5_2.length ≤ co33 := (Kd.R_reads' HO_5.out).2.1; have hC42 : Kd.C k26 _ (some ad223) x5_2.length x5_2 := (Kd.R_reads' HO_5.out).2.2; have q042 : (0 : Int) ≤ ((ji26) : Int) := of_decide_eq_true (by first | (with_reducible assumption) | assumption); have hcut42 := cut_from (P:=Try.prog) 22 26 .i64 Try.underlying22 hi042 2 hsz42 (some ad223) x5_2.length co33 (ji26) q042 q42; have hr42 := Kd.C_drop (m:=((ji26) : Int).toNat) (c:=co33) hC42 (by omega) hroom42; obtain ⟨A42, hA42⟩ : ∃ A1, A1 = (if co33 = ((ji26) : Int).toNat then (some ad223) else ((some ad223) : Option Addr).map (·.add (((ji26) : Int).toNat * 2))) := ⟨_, rfl⟩; obtain ⟨c42, hc42⟩ : ∃ c1, c1 = co33 - ((ji26) : Int).toNat := ⟨_, rfl⟩; have hy42 : y231.length = x5_2.length - ((ji26) : Int).toNat := (by rw [Ny231.out, ld25] <;> omega); rw [show (x5_2).drop ((ji26) : Int).toNat = y231 from Ny231.out.symm] at hr42; replace hr42 : Kd.C k26 _ A42 y231.length y231 := (by rw [hA42]; exact hr42); rw [← hy42, ← hA42, ← hc42] at hcut42; have HR234 := Am25 hr42; have HC234 := Am25 (show y231.length ≤ c42 from by rw [hy42, hc42]; exact Nat.sub_le_sub_right hroom42 _); clear hr42 hC42 hroom42 hi042 hsz42 hc42; have KY42 := Am25 hy42; have KA42 := Am25 hA42; clear hy42 hA42; have KL42 := Am25 (show ((ji26) : Int).toNat ≤ x5_2.length from by omega); replace q42 := eq_true q42) | ((with_reducible refine gate_builtin (b:=.append) (xs:=#[.tmp 47, .tmp 51]) rfl ?_); at_builtin; refine Kd.R_append_rows k26 (w0:=w) w.heap.size rfl (.tmp 47) (.tmp 51) 22 26 (.agg #[(.string ⟨#[]⟩), (.string ⟨#[]⟩)]) 32 rfl Try.underlying22 info26 rfl (by decide) (by omega) v229 y228 y231 _ _ _ (fun k_ => some k_ ≠ (.slice (some ad223) x5_2.length co33 : Value).ownBlock ∧ k_ ≠ gb218 ∧ k_ ≠ gb224) (fun _ => False) rfl rfl ?aO ?aR (fun _ _ h => h) (fun _ h => h.elim) ?aF ?aB ?aS ?aL ?_; (case aR => repeat (first | exact (by repeat (first | (with_reducible exact HR234.out) | (with_reducible refine Kd.C_alloc ?_ _) | (with_reducible refine Kd.C_drewN ?_ _) | (with_reducible refine Kd.C_drew ?_) | exact HR234.out)) | (with_reducible refine Kd.C_alloc ?_ _) | (with_reducible refine Kd.C_drewN ?_ _) | (with_reducible refine Kd.C_drew ?_))); (case aB => exact (by repeat (first | (with_reducible first | exact HB.out | apply ba25 | apply bn25 | apply bd25 | refine bs25 ?_ GE218.out | refine bs25 ?_ GE224.out) | exact HB.out))); (case aF => exact (fun k_ hk => ⟨Kd.fresh' (Rt25 (by (with_reducible repeat first | apply Ra25 | apply Rn25 | apply Rd25); exact HO_5.out)) k_ hk, Kd.freshB (g:=gb218) (o:=.cells #[.string a0_0, .string a0_1] 26 (0, 0)) (by (with_reducible repeat first | apply kn25 | apply kd25 | apply ka25); exact BK218.out) k_ hk, Kd.freshB (g:=gb224) (o:=.cells #[.string ((rd_T26 x5_2 x7_2).f0), .string ((rd_T26 x5_2 x7_2).f1)] 26 (0, 0)) (by (with_reducible repeat first | apply kn25 | apply kd25 | apply ka25); exact BK224.out) k_ hk⟩)); (case aO => exact (by (with_reducible repeat first | apply Ra25 | apply Rn25 | apply Rd25); exact Ro25 HO230.out (fun _ hk => ⟨hk.1.1.2, ⟨hk.1.2, hk.2⟩⟩))); (case aS => exact (bz25 (by repeat (first | (with_reducible first | exact HB.out | apply ba25 | apply bn25 | apply bd25 | refine bs25 ?_ GE218.out | refine bs25 ?_ GE224.out) | exact HB.out)))); (case aL => have := LMc29.out; omega); intro v236 w43 ho hb hg hat; rw [← Ny235.out] at ho; have n0_ := Am25 (Kd.R_after (ok:=(fun k_ => k_ ≠ gb218 ∧ k_ ≠ gb224)) (by (with_reducible repeat first | apply Ra25 | apply Rn25 | apply Rd25); exact HO_5.out) hg hat); have n1_ := Am25 (blk_grown (g:=gb218) (o:=.cells #[.string a0_0, .string a0_1] 26 (0, 0)) (by (with_reducible repeat first | apply kn25 | apply kd25 | apply ka25); exact BK218.out) hg (Kd.R_away HO230.out (fun _ hk => hk.1.2))); have n2_ := Am25 (blk_grown (g:=gb224) (o:=.cells #[.string ((rd_T26 x5_2 x7_2).f0), .string ((rd_T26 x5_2 x7_2).f1)] 26 (0, 0)) (by (with_reducible repeat first | apply kn25 | apply kd25 | apply ka25); exact BK224.out) hg (Kd.R_away HO230.out (fun _ h=>h.2))); have n3_ := Am25 (hb); have n4_ := Am25 ((show Kd.C k26 w43 A42 y231.length y231 from by rw [Ny231.out, KA42.out]; exact Kd.C_drop (m:=((ji26) : Int).toNat) (c:=co33) ((Kd.R_reads' (Kd.R_after (ok:=(fun k_ => k_ ≠ gb218 ∧ k_ ≠ gb224)) (by (with_reducible repeat first | apply Ra25 | apply Rn25 | apply Rd25); exact HO_5.out) hg hat)).2.2) KL42.out ((Kd.R_reads' (Kd.R_after (ok:=(fun k_ => k_ ≠ gb218 ∧ k_ ≠ gb224)) (by (with_reducible repeat first | apply Ra25 | apply Rn25 | apply Rd25); exact HO_5.out) hg hat)).2.1))); have n5_ := Am25 (ho); clear HO_5; clear BK218; clear BK224; clear HB; clear HR234; clear HO230; have HO_5 := n0_; have BK218 := n1_; have BK224 := n2_; have HB := n3_; have HR234 := n4_; have HO237 := n5_; clear n0_ n1_ n2_ n3_ n4_ n5_; clear ho hb hg hat))
                   have n0_ := Am25 (Rd25 HO_5.out)
                   have n1_ := Am25 (Rd25 HO237.out)
                   have n2_ := Am25 (kd25 BK218.out)
                   have n3_ := Am25 (kd25 BK224.out)
                   have n4_ := Am25 (Kd.C_drew HR234.out)
                   have n5_ := Am25 (bd25 HB.out)
                   clear HO_5
                   clear HO237
                   clear BK218
                   clear BK224
                   clear HR234
                   clear HB
                   have HO_5 := n0_
                   have HO237 := n1_
                   have BK218 := n2_
                   have BK224 := n3_
                   have HR234 := n4_
                   have HB := n5_
                   clear n0_ n1_ n2_ n3_ n4_ n5_
                   have q45 : (x7_2 : Int) ≤ ((x5_2.length : Int) : Int) := of_decide_eq_true (by first | (with_reducible assumption) | assumption)
                   obtain ⟨i045, hi045, _, hsz45, _⟩ := info_parts info26
                   have hcut45 := cut_to (P:=Try.prog) 22 26 .i64 Try.underlying22 hi045 (some ad223) x5_2.length co33 x7_2 (of_decide_eq_true (by first | (with_reducible assumption) | assumption)) q45 (Kd.R_reads' HO_5.out).2.1
                   have hr45 := Kd.R_take (m:=(x7_2 : Int).toNat) HO_5.out (by omega)
                   have hy45 : y238.length = (x7_2 : Int).toNat := (by rw [Ny238.out, lt_25]; omega)
                   rw [← Ny238.out] at hr45
                   rw [← hy45] at hr45 hcut45
                   clear hy45 hi045 hsz45 HO_5
                   have HO240 := Am25 hr45
                   clear hr45
                   replace q45 := eq_true q45
                   have p241 : 0 ≤ (x6_1 : Int) := of_decide_eq_true (by first | (with_reducible assumption) | assumption)
                   have q241 : x6_1 < (l1.length : Int) := of_decide_eq_true (by first | (with_reducible assumption) | assumption)
                   obtain ⟨ad241, e241, hx241_0⟩ := Kd.at_string HR1.out x6_1 p241 q241
                   have hw241_0 := hx241_0
                   obtain rfl : ad225 = ad241 := (by injection e241)
                   replace hx241_0 := (HB.out.cell (World.block_lt_of_cell? w _ hx241_0)).trans hx241_0
                   replace p241 := eq_true p241
                   replace q241 := eq_true q241
                   have p242 : 0 ≤ (x6_1 : Int) := of_decide_eq_true (by first | (with_reducible assumption) | assumption)
                   have q242 : x6_1 < (l1.length : Int) := of_decide_eq_true (by first | (with_reducible assumption) | assumption)
                   obtain ⟨ad242, e242, hx242_0⟩ := Kd.at_string HR1.out x6_1 p242 q242
                   have hw242_0 := hx242_0
                   obtain rfl : ad225 = ad242 := (by injection e242)
                   replace hx242_0 := (HB.out.cell (World.block_lt_of_cell? w _ hx242_0)).trans hx242_0
                   replace p242 := eq_true p242
                   replace q242 := eq_true q242
                   refine start_ (n:=22) (S:=fun w' => w'.cell? ⟨gb224, 0, none⟩ = some (.string ((rd_T26 x5_2 x7_2).f0)) ∧ w'.cell? ⟨gb224, 1, none⟩ = some (.string ((rd_T26 x5_2 x7_2).f1)) ∧ w'.cell? (ad225.add (x6_1).toNat) = some (.string (rdOf ByteArray.empty l1 x6_1)) ∧ w'.cell? (ad225.add (x6_1).toNat) = some (.string (rdOf ByteArray.empty l1 x6_1))) (ds:=[]) #[false, false, false, false, false, false, false, false, false, false, false, false, false, false, false, false, false, false, false, false, false, false] (by kernel_rfl) rfl rfl ⟨(kc25 BK224.out 0).trans rfl, (kc25 BK224.out 1).trans rfl, ((HB.out.cell (World.block_lt_of_cell? w _ hw241_0)).trans hw241_0), ((HB.out.cell (World.block_lt_of_cell? w _ hw242_0)).trans hw242_0)⟩ (fun hHeld => ?_); refine with_tabW watershedref04_Cut.tab13 watershedref04_Cut.bits13 (fun HT_ HW_ => ?_)
                   generalize w43.drew = w44 at HO_5 HO237 BK218 BK224 HR234 HB HO240 hx241_0 hx242_0 hHeld ⊢
                   refine pure_ (i:=0) (N:=some 53) (v:=?_) (a' := ?_) #[true, false, false, false, false, false, false, false, false, false, false, false, false, false, false, false, false, false, false, false, false, false] rfl rfl (any_of HT_.out (by kernel_rfl)) (fun _ _ _ h => h) (Or.inl ⟨by rfl, ?_⟩) ?_ ?_
                   rotate_left
                   ·intro w'
                    go_simp
                    with_reducible rfl
                   rotate_left
                   ·simp only [Act.put, sa25, sz25, ss25, i64_w, i32_w]
                    rfl
                   refine pure_ (i:=1) (N:=some 54) (v:=?_) (a' := ?_) #[true, true, false, false, false, false, false, false, false, false, false, false, false, false, false, false, false, false, false, false, false, false] rfl rfl (any_of HT_.out (by kernel_rfl)) (fun _ _ _ h => h) (Or.inl ⟨by rfl, ?_⟩) ?_ ?_
                   rotate_left
                   ·intro w'
                    go_simp
                    with_reducible rfl
                   rotate_left
                   ·simp only [Act.put, sa25, sz25, ss25, i64_w, i32_w]
                    rfl
                   refine pure_ (i:=2) (N:=some 55) (v:=?_) (a' := ?_) #[true, true, true, false, false, false, false, false, false, false, false, false, false, false, false, false, false, false, false, false, false, false] rfl rfl (any_of HT_.out (by kernel_rfl)) (fun _ _ _ h => h) (Or.inl ⟨by rfl, ?_⟩) ?_ ?_
                   rotate_left
                   ·intro w'
                    go_simp
                    with_reducible rfl
                   rotate_left
                   ·simp only [Act.put, sa25, sz25, ss25, i64_w, i32_w]
                    rfl
                   refine pure_ (i:=3) (N:=some 56) (v:=?_) (a' := ?_) #[true, true, true, true, false, false, false, false, false, false, false, false, false, false, false, false, false, false, false, false, false, false] rfl rfl (any_of HT_.out (by kernel_rfl)) (fun _ _ _ h => h) (Or.inl ⟨by rfl, ?_⟩) ?_ ?_
                   rotate_left
                   ·intro w'
                    go_simp
                    with_reducible rfl
                   rotate_left
                   ·simp only [Act.put, sa25, sz25, ss25, i64_w, i32_w]
                    rfl
                   refine pure_ (i:=5) (N:=some 58) (v:=?_) (a' := ?_) #[true, true, true, true, false, true, false, false, false, false, false, false, false, false, false, false, false, false, false, false, false, false] rfl rfl (any_of HT_.out (by kernel_rfl)) (fun _ _ _ h => h) (Or.inl ⟨by rfl, ?_⟩) ?_ ?_
                   rotate_left
                   ·intro w'
                    go_simp
                    with_reducible rfl
                   rotate_left
                   ·simp only [Act.put, sa25, sz25, ss25, i64_w, i32_w]
                    rfl
                   refine pure_ (i:=6) (N:=some 59) (v:=?_) (a' := ?_) #[true, true, true, true, false, true, true, false, false, false, false, false, false, false, false, false, false, false, false, false, false, false] rfl rfl (any_of HT_.out (by kernel_rfl)) (fun _ _ _ h => h) (Or.inl ⟨by rfl, ?_⟩) ?_ ?_
                   rotate_left
                   ·intro w'
                    go_simp
                    with_reducible rfl
                   rotate_left
                   ·simp only [Act.put, sa25, sz25, ss25, i64_w, i32_w]
                    rfl
                   refine pure_ (i:=7) (N:=some 60) (v:=?_) (a' := ?_) #[true, true, true, true, false, true, true, true, false, false, false, false, false, false, false, false, false, false, false, false, false, false] rfl rfl (any_of HT_.out (by kernel_rfl)) (fun _ _ _ h => h) (Or.inl ⟨by rfl, ?_⟩) ?_ ?_
                   rotate_left
                   ·intro w'
                    go_simp
                    with_reducible rfl
                   rotate_left
                   ·simp only [Act.put, sa25, sz25, ss25, i64_w, i32_w]
                    rfl
                   refine pure_ (i:=10) (N:=some 63) (v:=?_) (a' := ?_) #[true, true, true, true, false, true, true, true, false, false, true, false, false, false, false, false, false, false, false, false, false, false] rfl rfl (any_of HT_.out (by kernel_rfl)) (fun _ _ _ h => h) (Or.inl ⟨by rfl, ?_⟩) ?_ ?_
                   rotate_left
                   ·intro w'
                    go_simp
                    with_reducible rfl
                   rotate_left
                   ·simp only [Act.put, sa25, sz25, ss25, i64_w, i32_w]
                    rfl
                   refine pure_ (i:=11) (N:=some 64) (v:=?_) (a' := ?_) #[true, true, true, true, false, true, true, true, false, false, true, true, false, false, false, false, false, false, false, false, false, false] rfl rfl (any_of HT_.out (by kernel_rfl)) (fun _ _ _ h => h) (Or.inl ⟨by rfl, ?_⟩) ?_ ?_
                   rotate_left
                   ·intro w'
                    go_simp
                    with_reducible rfl
                   rotate_left
                   ·simp only [Act.put, sa25, sz25, ss25, i64_w, i32_w]
                    rfl
                   refine pure_ (i:=12) (N:=some 65) (v:=?_) (a' := ?_) #[true, true, true, true, false, true, true, true, false, false, true, true, true, false, false, false, false, false, false, false, false, false] rfl rfl (any_of HT_.out (by kernel_rfl)) (fun _ _ _ h => h) (Or.inl ⟨by rfl, ?_⟩) ?_ ?_
                   rotate_left
                   ·intro w'
                    go_simp
                    with_reducible rfl
                   rotate_left
                   ·simp only [Act.put, sa25, sz25, ss25, i64_w, i32_w]
                    rfl
                   refine pure_ (i:=14) (N:=some 67) (v:=?_) (a' := ?_) #[true, true, true, true, false, true, true, true, false, false, true, true, true, false, true, false, false, false, false, false, false, false] rfl rfl (any_of HT_.out (by kernel_rfl)) (fun _ _ _ h => h) (Or.inl ⟨by rfl, ?_⟩) ?_ ?_
                   rotate_left
                   ·intro w'
                    go_simp
                    with_reducible rfl
                   rotate_left
                   ·simp only [Act.put, sa25, sz25, ss25, i64_w, i32_w]
                    rfl
                   refine pure_ (i:=19) (N:=some 72) (v:=?_) (a' := ?_) #[true, true, true, true, false, true, true, true, false, false, true, true, true, false, true, false, false, false, false, true, false, false] rfl rfl (any_of HT_.out (by kernel_rfl)) (fun _ _ _ h => h) (Or.inl ⟨by rfl, ?_⟩) ?_ ?_
                   rotate_left
                   ·intro w'
                    go_simp
                    with_reducible rfl
                   rotate_left
                   ·simp only [Act.put, sa25, sz25, ss25, i64_w, i32_w]
                    rfl
                   refine take_ (i:=4) (N:=some 57) (v:=?_) (a' := ?_) #[true, true, true, true, true, true, true, true, false, false, true, true, true, false, true, false, false, false, false, true, false, false] rfl rfl (take_ofW HT_.out HW_.out (by kernel_rfl)) (fun _ _ _ h => h) (Or.inl ⟨by rfl, ?_⟩) hHeld ?_ ?_
                   rotate_left
                   ·rintro w' ⟨s0, s1, s2, s3⟩
                    go_simp
                    with_reducible rfl
                   rotate_left
                   ·simp only [Act.put, sa25, sz25, ss25, i64_w, i32_w]
                    rfl
                   refine take_ (i:=8) (N:=some 61) (v:=?_) (a' := ?_) #[true, true, true, true, true, true, true, true, true, false, true, true, true, false, true, false, false, false, false, true, false, false] rfl rfl (take_ofW HT_.out HW_.out (by kernel_rfl)) (fun _ _ _ h => h) (Or.inl ⟨by rfl, ?_⟩) hHeld ?_ ?_
                   rotate_left
                   ·rintro w' ⟨s0, s1, s2, s3⟩
                    go_simp
                    with_reducible rfl
                   rotate_left
                   ·simp only [Act.put, sa25, sz25, ss25, i64_w, i32_w]
                    rfl
                   refine pure_ (i:=9) (N:=some 62) (v:=?_) (a' := ?_) #[true, true, true, true, true, true, true, true, true, true, true, true, true, false, true, false, false, false, false, true, false, false] rfl rfl (any_of HT_.out (by kernel_rfl)) (fun _ _ _ h => h) (Or.inl ⟨by rfl, ?_⟩) ?_ ?_
                   rotate_left
                   ·intro w'
                    go_simp
                    with_reducible rfl
                   rotate_left
                   ·simp only [Act.put, sa25, sz25, ss25, i64_w, i32_w]
                    rfl
                   refine take_ (i:=13) (N:=some 66) (v:=?_) (a' := ?_) #[true, true, true, true, true, true, true, true, true, true, true, true, true, true, true, false, false, false, false, true, false, false] rfl rfl (take_ofW HT_.out HW_.out (by kernel_rfl)) (fun _ _ _ h => h) (Or.inl ⟨by rfl, ?_⟩) hHeld ?_ ?_
                   rotate_left
                   ·rintro w' ⟨s0, s1, s2, s3⟩
                    go_simp
                    with_reducible rfl
                   rotate_left
                   ·simp only [Act.put, sa25, sz25, ss25, i64_w, i32_w]
                    rfl
                   refine take_ (i:=15) (N:=some 68) (v:=?_) (a' := ?_) #[true, true, true, true, true, true, true, true, true, true, true, true, true, true, true, true, false, false, false, true, false, false] rfl rfl (take_ofW HT_.out HW_.out (by kernel_rfl)) (fun _ _ _ h => h) (Or.inl ⟨by rfl, ?_⟩) hHeld ?_ ?_
                   rotate_left
                   ·rintro w' ⟨s0, s1, s2, s3⟩
                    go_simp
                    with_reducible rfl
                   rotate_left
                   ·simp only [Act.put, sa25, sz25, ss25, i64_w, i32_w]
                    rfl
                   refine pure_ (i:=16) (N:=some 69) (v:=?_) (a' := ?_) #[true, true, true, true, true, true, true, true, true, true, true, true, true, true, true, true, true, false, false, true, false, false] rfl rfl (any_of HT_.out (by kernel_rfl)) (fun _ _ _ h => h) (Or.inl ⟨by rfl, ?_⟩) ?_ ?_
                   rotate_left
                   ·intro w'
                    go_simp
                    with_reducible rfl
                   rotate_left
                   ·simp only [Act.put, sa25, sz25, ss25, i64_w, i32_w]
                    rfl
                   refine one_ (i:=17) (N:=some 70) #[true, true, true, true, true, true, true, true, true, true, true, true, true, true, true, true, true, true, false, true, false, false] rfl rfl (one_of HT_.out (by kernel_rfl)) (by decide) (fun K hK => ?_)
                   refine Kd.R_lit_step k26 _ 26 ?hg (N:=70) ?hd (xs:=([(⟨(rd_T26 x5_2 x7_2).f0, rdOf ByteArray.empty l1 x6_1⟩ : S26), (⟨rdOf ByteArray.empty l1 x6_1, (rd_T26 x5_2 x7_2).f1⟩ : S26)] : List (S26))) (inner:=[.string ((rd_T26 x5_2 x7_2).f0), .string (rdOf ByteArray.empty l1 x6_1), .string (rdOf ByteArray.empty l1 x6_1), .string ((rd_T26 x5_2 x7_2).f1)]) (ok:=fun _ => True) (okp:=fun _ => True) ?hr ?hp (fun _ hk => hk) trivial (Below.refl _ _) (Nat.le_refl _) (by simp) ?_; (case hd => rfl); (case hg => rfl); (case hr => first | (go_simp; done) | (go_simp; rfl)); (case hp => exact (Reps.c2 (show Kd.M k26 _ _ _ (⟨(rd_T26 x5_2 x7_2).f0, rdOf ByteArray.empty l1 x6_1⟩ : S26) [.string ((rd_T26 x5_2 x7_2).f0), .string (rdOf ByteArray.empty l1 x6_1)] from (k26_mkM _ _ _ (⟨(rd_T26 x5_2 x7_2).f0, rdOf ByteArray.empty l1 x6_1⟩ : S26) )) (Reps.c2 (show Kd.M k26 _ _ _ (⟨rdOf ByteArray.empty l1 x6_1, (rd_T26 x5_2 x7_2).f1⟩ : S26) [.string (rdOf ByteArray.empty l1 x6_1), .string ((rd_T26 x5_2 x7_2).f1)] from (k26_mkM _ _ _ (⟨rdOf ByteArray.empty l1 x6_1, (rd_T26 x5_2 x7_2).f1⟩ : S26) )) (Reps.none _ _))))
                   intro v244 w46 ho47 hb hg_ hnew_
                   clear hg_ hnew_
                   (first | rw [← Ny243.out] at ho47 | (simp only [Int.reduceToNat] at ho47; rw [← Ny243.out] at ho47))
                   have n0_ := Am25 (Re25 (by (with_reducible repeat first | apply Ra25 | apply Rn25 | apply Rd25); exact HO240.out) (Ra_25 ho47) hb)
                   have n1_ := Am25 (Re25 (by (with_reducible repeat first | apply Ra25 | apply Rn25 | apply Rd25); exact HO237.out) (Ra_25 ho47) hb)
                   have n2_ := Am25 (Rl25 (Kd.R_newB (Kd.R_newB (Rw25 (Rw25 ho47 (Rt25 (by (with_reducible repeat first | apply Ra25 | apply Rn25 | apply Rd25); exact HO240.out))) (Rt25 (by (with_reducible repeat first | apply Ra25 | apply Rn25 | apply Rd25); exact HO237.out))) (g:=gb218) (o:=.cells #[.string a0_0, .string a0_1] 26 (0, 0)) (by (with_reducible repeat first | apply kn25 | apply kd25 | apply ka25); exact BK218.out)) (g:=gb224) (o:=.cells #[.string ((rd_T26 x5_2 x7_2).f0), .string ((rd_T26 x5_2 x7_2).f1)] 26 (0, 0)) (by (with_reducible repeat first | apply kn25 | apply kd25 | apply ka25); exact BK224.out)) (bz25 (by repeat (first | (with_reducible first | exact HB.out | apply ba25 | apply bn25 | apply bd25 | refine bs25 ?_ GE218.out | refine bs25 ?_ GE224.out) | exact HB.out))))
                   have n3_ := Am25 (kb25 (g:=gb218) (o:=.cells #[.string a0_0, .string a0_1] 26 (0, 0)) (by (with_reducible repeat first | apply kn25 | apply kd25 | apply ka25); exact BK218.out) hb)
                   have n4_ := Am25 (kb25 (g:=gb224) (o:=.cells #[.string ((rd_T26 x5_2 x7_2).f0), .string ((rd_T26 x5_2 x7_2).f1)] 26 (0, 0)) (by (with_reducible repeat first | apply kn25 | apply kd25 | apply ka25); exact BK224.out) hb)
                   have n5_ := Am25 (Kd.C_below (by repeat (first | (with_reducible exact HR234.out) | (with_reducible refine Kd.C_alloc ?_ _) | (with_reducible refine Kd.C_drewN ?_ _) | (with_reducible refine Kd.C_drew ?_) | exact HR234.out)) hb)
                   have n6_ := Am25 (bp25 (by repeat (first | (with_reducible first | exact HB.out | apply ba25 | apply bn25 | apply bd25 | refine bs25 ?_ GE218.out | refine bs25 ?_ GE224.out) | exact HB.out)) hb)
                   clear HO240
                   clear HO237
                   clear BK218
                   clear BK224
                   clear HR234
                   clear HB
                   have HO240 := n0_
                   have HO237 := n1_
                   have HO245 := n2_
                   have BK218 := n3_
                   have BK224 := n4_
                   have HR234 := n5_
                   have HB := n6_
                   clear n0_ n1_ n2_ n3_ n4_ n5_ n6_
                   clear hb ho47
                   obtain ⟨Ao49, co49, eo49⟩ := Kd.R_slice HO245.out
                   (first | subst eo49 | (injection eo49 with f1_ f2_ f3_; have f4_ := f1_.symm; have f5_ := f3_.symm; clear f1_ f2_ f3_; subst f4_; subst f5_))
                   refine hK.out _ _ ⟨(kc25 BK224.out 0).trans rfl, (kc25 BK224.out 1).trans rfl, ((HB.out.cell (World.block_lt_of_cell? w _ hw241_0)).trans hw241_0), ((HB.out.cell (World.block_lt_of_cell? w _ hw242_0)).trans hw242_0)⟩ (fun hHeld => ?_)
                   clear hK K
                   refine norm_ (a' := ?_) ?_ ?_
                   rotate_left
                   ·show Act.put _ (some 70) _ = _
                    simp only [Act.put, sa25, sz25, ss25, i64_w, i32_w]
                    rfl
                   refine one_ (i:=18) (N:=some 71) #[true, true, true, true, true, true, true, true, true, true, true, true, true, true, true, true, true, true, true, true, false, false] rfl rfl (one_of HT_.out (by kernel_rfl)) (by decide) (fun K hK => ?_)
                   refine Kd.R_append_rows_step k26 (w0:=w) w.heap.size (by rfl) (.tmp 55) (.tmp 70) 22 26 (.agg #[(.string ⟨#[]⟩), (.string ⟨#[]⟩)]) 32 rfl Try.underlying22 info26 rfl (by decide) (by omega) (.slice (some ad223) y238.length co33) y238 y243 _ _ _ (fun k_ => some k_ ≠ (v236 : Value).ownBlock ∧ some k_ ≠ (.slice Ao49 y243.length co49 : Value).ownBlock ∧ k_ ≠ gb218 ∧ k_ ≠ gb224) (fun _ => False) rfl rfl ?aO ?aR (fun _ _ h => h) (fun _ h => h.elim) ?aF ?aB ?aS ?aL ?_
                   (case aR => repeat (first | exact (Kd.R_reads' HO245.out).2.2 | (with_reducible refine Kd.C_alloc ?_ _) | (with_reducible refine Kd.C_drewN ?_ _) | (with_reducible refine Kd.C_drew ?_)))
                   (case aB => exact (by repeat (first | (with_reducible first | exact HB.out | apply ba25 | apply bn25 | apply bd25 | refine bs25 ?_ GE218.out | refine bs25 ?_ GE224.out) | exact HB.out)))
                   (case aF => exact (fun k_ hk => ⟨Kd.fresh' (Rt25 (by (with_reducible repeat first | apply Ra25 | apply Rn25 | apply Rd25); exact HO237.out)) k_ hk, Kd.fresh' (Rt25 (by (with_reducible repeat first | apply Ra25 | apply Rn25 | apply Rd25); exact HO245.out)) k_ hk, Kd.freshB (g:=gb218) (o:=.cells #[.string a0_0, .string a0_1] 26 (0, 0)) (by (with_reducible repeat first | apply kn25 | apply kd25 | apply ka25); exact BK218.out) k_ hk, Kd.freshB (g:=gb224) (o:=.cells #[.string ((rd_T26 x5_2 x7_2).f0), .string ((rd_T26 x5_2 x7_2).f1)] 26 (0, 0)) (by (with_reducible repeat first | apply kn25 | apply kd25 | apply ka25); exact BK224.out) k_ hk⟩))
                   (case aO => exact (by (with_reducible repeat first | apply Ra25 | apply Rn25 | apply Rd25); exact Ro25 HO240.out (fun _ hk => ⟨hk.1.2, ⟨hk.2, ⟨hk.1.1.1, hk.1.1.2⟩⟩⟩)))
                   (case aS => exact (bz25 (by repeat (first | (with_reducible first | exact HB.out | apply ba25 | apply bn25 | apply bd25 | refine bs25 ?_ GE218.out | refine bs25 ?_ GE224.out) | exact HB.out))))
                   (case aL => have := LMc31.out; omega)
                   intro v247 w48 ho hb hg hat
                   rw [← Ny246.out] at ho
                   have n0_ := Am25 (blk_grown (g:=gb218) (o:=.cells #[.string a0_0, .string a0_1] 26 (0, 0)) (by (with_reducible repeat first | apply kn25 | apply kd25 | apply ka25); exact BK218.out) hg (Kd.R_away HO240.out (fun _ hk => hk.1.1.1)))
                   have n1_ := Am25 (blk_grown (g:=gb224) (o:=.cells #[.string ((rd_T26 x5_2 x7_2).f0), .string ((rd_T26 x5_2 x7_2).f1)] 26 (0, 0)) (by (with_reducible repeat first | apply kn25 | apply kd25 | apply ka25); exact BK224.out) hg (Kd.R_away HO240.out (fun _ hk => hk.1.1.2)))
                   have n2_ := Am25 (Kd.R_after (ok:=(fun k_ => some k_ ≠ (.slice Ao49 y243.length co49 : Value).ownBlock ∧ k_ ≠ gb218 ∧ k_ ≠ gb224)) (by (with_reducible repeat first | apply Ra25 | apply Rn25 | apply Rd25); exact Ro25 HO237.out (fun _ hk => ⟨⟨hk.2, ⟨hk.1.2.1, hk.1.2.2⟩⟩, hk.1.1⟩)) hg hat)
                   have n3_ := Am25 (Kd.R_after (ok:=(fun k_ => some k_ ≠ (v236 : Value).ownBlock ∧ k_ ≠ gb218 ∧ k_ ≠ gb224)) (by (with_reducible repeat first | apply Ra25 | apply Rn25 | apply Rd25); exact Ro25 HO245.out (fun _ hk => ⟨⟨hk.1.1.2, ⟨hk.1.2, hk.2⟩⟩, hk.1.1.1.2⟩)) hg hat)
                   have n4_ := Am25 (hb)
                   have n5_ := Am25 (ho)
                   clear BK218
                   clear BK224
                   clear HO237
                   clear HO245
                   clear HB
                   clear HO240
                   have BK218 := n0_
                   have BK224 := n1_
                   have HO237 := n2_
                   have HO245 := n3_
                   have HB := n4_
                   have HO248 := n5_
                   clear n0_ n1_ n2_ n3_ n4_ n5_
                   clear ho hb hg hat
                   obtain ⟨Ao51, co51, eo51⟩ := Kd.R_slice HO237.out
                   (first | subst eo51 | (injection eo51 with f1_ f2_ f3_; have f4_ := f1_.symm; have f5_ := f3_.symm; clear f1_ f2_ f3_; subst f4_; subst f5_))
                   refine hK.out _ _ ⟨(kc25 BK224.out 0).trans rfl, (kc25 BK224.out 1).trans rfl, ((HB.out.cell (World.block_lt_of_cell? w _ hw241_0)).trans hw241_0), ((HB.out.cell (World.block_lt_of_cell? w _ hw242_0)).trans hw242_0)⟩ (fun hHeld => ?_)
                   clear hK K
                   refine norm_ (a' := ?_) ?_ ?_
                   rotate_left
                   ·show Act.put _ (some 71) _ = _
                    simp only [Act.put, sa25, sz25, ss25, i64_w, i32_w]
                    rfl
                   refine one_ (i:=20) (N:=some 73) #[true, true, true, true, true, true, true, true, true, true, true, true, true, true, true, true, true, true, true, true, true, false] rfl rfl (one_of HT_.out (by kernel_rfl)) (by decide) (fun K hK => ?_)
                   refine Kd.R_append_rows_step k26 (w0:=w) w.heap.size (by rfl) (.tmp 71) (.tmp 72) 22 26 (.agg #[(.string ⟨#[]⟩), (.string ⟨#[]⟩)]) 32 rfl Try.underlying22 info26 rfl (by decide) (by omega) v247 y246 y235 _ _ _ (fun k_ => some k_ ≠ (.slice Ao51 y235.length co51 : Value).ownBlock ∧ some k_ ≠ (.slice Ao49 y243.length co49 : Value).ownBlock ∧ k_ ≠ gb218 ∧ k_ ≠ gb224) (fun _ => False) rfl rfl ?aO ?aR (fun _ _ h => h) (fun _ h => h.elim) ?aF ?aB ?aS ?aL ?_
                   (case aR => repeat (first | exact (Kd.R_reads' HO237.out).2.2 | (with_reducible refine Kd.C_alloc ?_ _) | (with_reducible refine Kd.C_drewN ?_ _) | (with_reducible refine Kd.C_drew ?_)))
                   (case aB => exact (by repeat (first | (with_reducible first | exact HB.out | apply ba25 | apply bn25 | apply bd25 | refine bs25 ?_ GE218.out | refine bs25 ?_ GE224.out) | exact HB.out)))
                   (case aF => exact (fun k_ hk => ⟨Kd.fresh' (Rt25 (by (with_reducible repeat first | apply Ra25 | apply Rn25 | apply Rd25); exact HO237.out)) k_ hk, Kd.fresh' (Rt25 (by (with_reducible repeat first | apply Ra25 | apply Rn25 | apply Rd25); exact HO245.out)) k_ hk, Kd.freshB (g:=gb218) (o:=.cells #[.string a0_0, .string a0_1] 26 (0, 0)) (by (with_reducible repeat first | apply kn25 | apply kd25 | apply ka25); exact BK218.out) k_ hk, Kd.freshB (g:=gb224) (o:=.cells #[.string ((rd_T26 x5_2 x7_2).f0), .string ((rd_T26 x5_2 x7_2).f1)] 26 (0, 0)) (by (with_reducible repeat first | apply kn25 | apply kd25 | apply ka25); exact BK224.out) k_ hk⟩))
                   (case aO => exact (by (with_reducible repeat first | apply Ra25 | apply Rn25 | apply Rd25); exact HO248.out))
                   (case aS => exact (bz25 (by repeat (first | (with_reducible first | exact HB.out | apply ba25 | apply bn25 | apply bd25 | refine bs25 ?_ GE218.out | refine bs25 ?_ GE224.out) | exact HB.out))))
                   (case aL => have := LMc32.out; omega)
                   intro v250 w50 ho hb hg hat
                   rw [← Ny249.out] at ho
                   have n0_ := Am25 (blk_grown (g:=gb218) (o:=.cells #[.string a0_0, .string a0_1] 26 (0, 0)) (by (with_reducible repeat first | apply kn25 | apply kd25 | apply ka25); exact BK218.out) hg (Kd.R_away HO248.out (fun _ hk => hk.2.2.1)))
                   have n1_ := Am25 (blk_grown (g:=gb224) (o:=.cells #[.string ((rd_T26 x5_2 x7_2).f0), .string ((rd_T26 x5_2 x7_2).f1)] 26 (0, 0)) (by (with_reducible repeat first | apply kn25 | apply kd25 | apply ka25); exact BK224.out) hg (Kd.R_away HO248.out (fun _ hk => hk.2.2.2)))
                   have n2_ := Am25 (Kd.R_after (ok:=(fun k_ => some k_ ≠ (.slice Ao49 y243.length co49 : Value).ownBlock ∧ k_ ≠ gb218 ∧ k_ ≠ gb224)) (by (with_reducible repeat first | apply Ra25 | apply Rn25 | apply Rd25); exact HO237.out) hg hat)
                   have n3_ := Am25 (Kd.R_after (ok:=(fun k_ => some k_ ≠ (.slice Ao51 y235.length co51 : Value).ownBlock ∧ k_ ≠ gb218 ∧ k_ ≠ gb224)) (by (with_reducible repeat first | apply Ra25 | apply Rn25 | apply Rd25); exact HO245.out) hg hat)
                   have n4_ := Am25 (hb)
                   have n5_ := Am25 (ho)
                   clear BK218
                   clear BK224
                   clear HO237
                   clear HO245
                   clear HB
                   clear HO248
                   have BK218 := n0_
                   have BK224 := n1_
                   have HO237 := n2_
                   have HO245 := n3_
                   have HB := n4_
                   have HO251 := n5_
                   clear n0_ n1_ n2_ n3_ n4_ n5_
                   clear ho hb hg hat
                   refine hK.out _ _ ⟨(kc25 BK224.out 0).trans rfl, (kc25 BK224.out 1).trans rfl, ((HB.out.cell (World.block_lt_of_cell? w _ hw241_0)).trans hw241_0), ((HB.out.cell (World.block_lt_of_cell? w _ hw242_0)).trans hw242_0)⟩ (fun hHeld => ?_)
                   clear hK K
                   refine norm_ (a' := ?_) ?_ ?_
                   rotate_left
                   ·show Act.put _ (some 73) _ = _
                    simp only [Act.put, sa25, sz25, ss25, i64_w, i32_w]
                    rfl
                   refine pure_ (i:=21) (N:=some 5) (v:=?_) (a' := ?_) #[true, true, true, true, true, true, true, true, true, true, true, true, true, true, true, true, true, true, true, true, true, true] rfl rfl (any_of HT_.out (by kernel_rfl)) (fun _ _ _ h => h) (Or.inl ⟨by rfl, ?_⟩) ?_ ?_
                   rotate_left
                   ·intro w'
                    go_simp
                    with_reducible rfl
                   rotate_left
                   ·simp only [Act.put, sa25, sz25, ss25, i64_w, i32_w]
                    rfl
                   refine done_ (done_of HT_.out (by kernel_rfl)) ?_
                   try go_wp2
                   go_roundg k2
                   case measure => have := HK1.out; have := HK2.out; omega
                   case rel => exact ⟨(y249), (wrap64 (x6_1 + 1)), (by first | rfl | (simp; done) | (simp [*]; done)), H', ⟨by have := HK1.out; have := HK2.out; omega⟩, ⟨by (with_reducible repeat first | apply Ra25 | apply Rn25 | apply Rd25); exact Ro25 HO251.out (fun _ hk => hk.2.2.1)⟩, ⟨by (with_reducible repeat first | apply kn25 | apply kd25 | apply ka25); exact BK218.out⟩, ⟨by repeat (first | (with_reducible first | exact HB.out | apply ba25 | apply bn25 | apply bd25 | refine bs25 ?_ GE218.out | refine bs25 ?_ GE224.out) | exact HB.out)⟩⟩
                  ·rw [if_neg c32] at H
                   exact absurd H (by simp)
                 ·rw [if_neg c31] at H
                  exact absurd H (by simp)
                ·rw [if_neg c30] at H
                 exact absurd H (by simp)
               ·rw [if_neg c29] at H
                exact absurd H (by simp)
              ·rw [if_neg c28] at H
               exact absurd H (by simp)
             ·rw [if_neg c27] at H
              exact absurd H (by simp)
           ·replace c17 := Bool.eq_false_iff.mpr c17
            subst c17
            rw [if_neg (show ¬ (false = true) by decide)] at H
            have H' := Am25 H
            clear H
            obtain ⟨Ao52, co52, eo52⟩ := Kd.R_slice HO_5.out
            subst eo52
            have p223 : 0 ≤ (x7_2 : Int) := of_decide_eq_true (by first | (with_reducible assumption) | assumption)
            have q223 : x7_2 < (x5_2.length : Int) := of_decide_eq_true (by first | (with_reducible assumption) | assumption)
            obtain ⟨ad223, e223, hx223_0, hx223_1⟩ := at_T26 (Kd.R_reads' HO_5.out).2.2 x7_2 p223 q223
            cases e223
            replace p223 := eq_true p223
            replace q223 := eq_true q223
            try go_wp2_with (first | ((with_reducible refine gate_dst (N:=8) rfl ?_); refine box_event ?hg (N:=8) ?hd (cs:=#[.string (⟨#[]⟩ : ByteArray), .string (⟨#[]⟩ : ByteArray)]) (t:=26) ?hr ?_; (case hd => rfl); (case hg => rfl); (case hr => first | (go_simp; done) | (go_simp; rfl)); intro gb224 hg w53 hbox hb; have n0_ := Am25 (Rb25 (Kd.R_elderB (by (with_reducible repeat first | apply Ra25 | apply Rn25 | apply Rd25); exact HO_5.out) gb224 (Nat.le_of_eq hg.symm)) hb); have n1_ := Am25 (kb25 (g:=gb218) (o:=.cells #[.string a0_0, .string a0_1] 26 (0, 0)) (by (with_reducible repeat first | apply kn25 | apply kd25 | apply ka25); exact BK218.out) hb); have n2_ := Am25 (bp25 (by repeat (first | (with_reducible first | exact HB.out | apply ba25 | apply bn25 | apply bd25 | refine bs25 ?_ GE218.out) | exact HB.out)) hb); have n3_ := Am25 (hbox); have n4_ := Am25 ((by rw [hg]; exact (bz25 (by repeat (first | (with_reducible first | exact HB.out | apply ba25 | apply bn25 | apply bd25 | refine bs25 ?_ GE218.out) | exact HB.out))) : w.heap.size ≤ gb224)); have n5_ := Am25 ((by rw [hg]; exact (bz25 (by repeat (first | (with_reducible first | exact HB.out | apply ba25 | apply bn25 | apply bd25 | refine bs25 ?_ GE218.out) | exact HB.out))) : w.heap.size ≤ gb224)); have n6_ := Am25 ((by rw [hg]; exact Nat.ne_of_lt (blk_lt (g:=gb218) (o:=.cells #[.string a0_0, .string a0_1] 26 (0, 0)) (by (with_reducible repeat first | apply kn25 | apply kd25 | apply ka25); exact BK218.out)) : gb218 ≠ gb224)); have n7_ := Am25 ((by rw [hg]; exact Nat.ne_of_gt (blk_lt (g:=gb218) (o:=.cells #[.string a0_0, .string a0_1] 26 (0, 0)) (by (with_reducible repeat first | apply kn25 | apply kd25 | apply ka25); exact BK218.out)) : gb224 ≠ gb218)); clear HO_5; clear BK218; clear HB; have HO_5 := n0_; have BK218 := n1_; have HB := n2_; have BK224 := n3_; have GW224 := n4_; have GE224 := n5_; have NB218_224 := n6_; have NB224_218 := n7_; clear n0_ n1_ n2_ n3_ n4_ n5_ n6_ n7_; clear hb hbox hg; have hnb54 := NB224_218.out; have hnc54 := NB218_224.out; have hcz55_0 : w53.cell? ⟨gb224, 0, none⟩ = some (.string (⟨#[]⟩ : ByteArray)) := (kc25 BK224.out 0).trans rfl; have hcz55_1 : w53.cell? ⟨gb224, 1, none⟩ = some (.string (⟨#[]⟩ : ByteArray)) := (kc25 BK224.out 1).trans rfl; have hfz55_0 := kz25 BK224.out 0; have hfz55_1 := kz25 BK224.out 1))
            have n0_ : Aside0 (Kd.R k26 26 ((w53.setCell ⟨gb224, 0, none⟩ (.string ((rd_T26 x5_2 x7_2).f0))).setCell ⟨gb224, 1, none⟩ (.string ((rd_T26 x5_2 x7_2).f1))) w.heap.size (fun k_ => k_ ≠ gb218 ∧ k_ ≠ gb224) (.slice (some ad223) x5_2.length co52) x5_2) := ⟨by (with_reducible repeat first | apply Ra25 | apply Rn25 | apply Rd25); exact Ro25 (Rf25 (p:=⟨gb224, 1, none⟩) (Rf25 (p:=⟨gb224, 0, none⟩) (Ro25 HO_5.out (fun k_ hk => (⟨hk, hk.2⟩ : _ ∧ k_ ≠ gb224))) (fun _ h=>h.2) (.string ((rd_T26 x5_2 x7_2).f0))) (fun _ h=>h.2) (.string ((rd_T26 x5_2 x7_2).f1))) (fun _ hk => ⟨hk.1.1, hk.1.2⟩)⟩
            have n1_ : Aside0 (((w53.setCell ⟨gb224, 0, none⟩ (.string ((rd_T26 x5_2 x7_2).f0))).setCell ⟨gb224, 1, none⟩ (.string ((rd_T26 x5_2 x7_2).f1))).heap[gb218]? = some (.cells #[.string a0_0, .string a0_1] 26 (0, 0))) := ⟨by (with_reducible repeat first | apply kn25 | apply kd25 | apply ka25); refine kf25 ?_ NB218_224.out _; (with_reducible repeat first | apply kn25 | apply kd25 | apply ka25); refine kf25 ?_ NB218_224.out _; (with_reducible repeat first | apply kn25 | apply kd25 | apply ka25); exact BK218.out⟩
            have n2_ : Aside0 (((w53.setCell ⟨gb224, 0, none⟩ (.string ((rd_T26 x5_2 x7_2).f0))).setCell ⟨gb224, 1, none⟩ (.string ((rd_T26 x5_2 x7_2).f1))).heap[gb224]? = some (.cells #[.string ((rd_T26 x5_2 x7_2).f0), .string ((rd_T26 x5_2 x7_2).f1)] 26 (0, 0))) := ⟨by (with_reducible repeat first | apply kn25 | apply kd25 | apply ka25); refine blk_put (cs:=#[.string ((rd_T26 x5_2 x7_2).f0), .string (⟨#[]⟩ : ByteArray)]) ?_ 1 _ rfl; (with_reducible repeat first | apply kn25 | apply kd25 | apply ka25); refine blk_put (cs:=#[.string (⟨#[]⟩ : ByteArray), .string (⟨#[]⟩ : ByteArray)]) ?_ 0 _ rfl; (with_reducible repeat first | apply kn25 | apply kd25 | apply ka25); exact BK224.out⟩
            have n3_ : Aside0 (Below w.heap.size w ((w53.setCell ⟨gb224, 0, none⟩ (.string ((rd_T26 x5_2 x7_2).f0))).setCell ⟨gb224, 1, none⟩ (.string ((rd_T26 x5_2 x7_2).f1)))) := ⟨by repeat (first | (with_reducible first | exact HB.out | apply ba25 | apply bn25 | apply bd25 | refine bs25 ?_ GE218.out | refine bs25 ?_ GE224.out) | exact HB.out)⟩
            (try clear HO_5)
            (try clear BK218)
            (try clear BK224)
            (try clear HB)
            generalize ((w53.setCell ⟨gb224, 0, none⟩ (.string ((rd_T26 x5_2 x7_2).f0))).setCell ⟨gb224, 1, none⟩ (.string ((rd_T26 x5_2 x7_2).f1))) = w56 at n0_ n1_ n2_ n3_ ⊢
            have HO_5 := n0_
            have BK218 := n1_
            have BK224 := n2_
            have HB := n3_
            clear n0_ n1_ n2_ n3_
            have n0_ := Am25 (Rd25 HO_5.out)
            have n1_ := Am25 (kd25 BK218.out)
            have n2_ := Am25 (kd25 BK224.out)
            have n3_ := Am25 (bd25 HB.out)
            clear HO_5
            clear BK218
            clear BK224
            clear HB
            have HO_5 := n0_
            have BK218 := n1_
            have BK224 := n2_
            have HB := n3_
            clear n0_ n1_ n2_ n3_
            have p225 : 0 ≤ (x6_1 : Int) := of_decide_eq_true (by first | (with_reducible assumption) | assumption)
            have q225 : x6_1 < (l1.length : Int) := of_decide_eq_true (by first | (with_reducible assumption) | assumption)
            obtain ⟨ad225, e225, hx225_0⟩ := Kd.at_string HR1.out x6_1 p225 q225
            have hw225_0 := hx225_0
            cases e225
            replace hx225_0 := (HB.out.cell (World.block_lt_of_cell? w _ hx225_0)).trans hx225_0
            replace p225 := eq_true p225
            replace q225 := eq_true q225
            refine start_ (n:=16) (S:=fun w' => w'.cell? ⟨gb224, 0, none⟩ = some (.string ((rd_T26 x5_2 x7_2).f0)) ∧ w'.cell? ⟨gb224, 1, none⟩ = some (.string ((rd_T26 x5_2 x7_2).f1)) ∧ w'.cell? (ad225.add (x6_1).toNat) = some (.string (rdOf ByteArray.empty l1 x6_1))) (ds:=[]) #[false, false, false, false, false, false, false, false, false, false, false, false, false, false, false, false] (by kernel_rfl) rfl rfl ⟨(kc25 BK224.out 0).trans rfl, (kc25 BK224.out 1).trans rfl, ((HB.out.cell (World.block_lt_of_cell? w _ hw225_0)).trans hw225_0)⟩ (fun hHeld => ?_); refine with_tabW watershedref04_Cut.tab11 watershedref04_Cut.bits11 (fun HT_ HW_ => ?_)
            generalize w56.drew = w57 at HO_5 BK218 BK224 HB hx225_0 hHeld ⊢
            refine pure_ (i:=1) (N:=some 32) (v:=?_) (a' := ?_) #[false, true, false, false, false, false, false, false, false, false, false, false, false, false, false, false] rfl rfl (any_of HT_.out (by kernel_rfl)) (fun _ _ _ h => h) (Or.inl ⟨by rfl, ?_⟩) ?_ ?_
            rotate_left
            ·intro w'
             go_simp
             with_reducible rfl
            rotate_left
            ·simp only [Act.put, sa25, sz25, ss25, i64_w, i32_w]
             rfl
            refine pure_ (i:=2) (N:=some 33) (v:=?_) (a' := ?_) #[false, true, true, false, false, false, false, false, false, false, false, false, false, false, false, false] rfl rfl (any_of HT_.out (by kernel_rfl)) (fun _ _ _ h => h) (Or.inl ⟨by rfl, ?_⟩) ?_ ?_
            rotate_left
            ·intro w'
             go_simp
             with_reducible rfl
            rotate_left
            ·simp only [Act.put, sa25, sz25, ss25, i64_w, i32_w]
             rfl
            refine pure_ (i:=3) (N:=some 34) (v:=?_) (a' := ?_) #[false, true, true, true, false, false, false, false, false, false, false, false, false, false, false, false] rfl rfl (any_of HT_.out (by kernel_rfl)) (fun _ _ _ h => h) (Or.inl ⟨by rfl, ?_⟩) ?_ ?_
            rotate_left
            ·intro w'
             go_simp
             with_reducible rfl
            rotate_left
            ·simp only [Act.put, sa25, sz25, ss25, i64_w, i32_w]
             rfl
            refine take_ (i:=0) (N:=some 31) (v:=?_) (a' := ?_) #[true, true, true, true, false, false, false, false, false, false, false, false, false, false, false, false] rfl rfl (take_ofW HT_.out HW_.out (by kernel_rfl)) (fun _ _ _ h => h) (Or.inl ⟨by rfl, ?_⟩) hHeld ?_ ?_
            rotate_left
            ·rintro w' ⟨s0, s1, s2⟩
             go_simp
             with_reducible rfl
            rotate_left
            ·simp only [Act.put, sa25, sz25, ss25, i64_w, i32_w]
             rfl
            refine take_ (i:=4) (N:=some 35) (v:=?_) (a' := ?_) #[true, true, true, true, true, false, false, false, false, false, false, false, false, false, false, false] rfl rfl (take_ofW HT_.out HW_.out (by kernel_rfl)) (fun _ _ _ h => h) (Or.inl ⟨by rfl, ?_⟩) hHeld ?_ ?_
            rotate_left
            ·rintro w' ⟨s0, s1, s2⟩
             go_simp
             with_reducible rfl
            rotate_left
            ·simp only [Act.put, sa25, sz25, ss25, i64_w, i32_w]
             rfl
            refine one_ (i:=5) (N:=some 36) #[true, true, true, true, true, true, false, false, false, false, false, false, false, false, false, false] rfl rfl (one_of HT_.out (by kernel_rfl)) (by decide) (fun K hK => ?_)
            refine goes_ Try.func21 (by kernel_rfl) rfl #[.agg #[.string ((rd_T26 x5_2 x7_2).f0), .string ((rd_T26 x5_2 x7_2).f1)], .string (rdOf ByteArray.empty l1 x6_1)] (by rfl) rfl rfl (by (try simp only [ma25, mc25, mn25]); first | done | rfl | (simp only [ld25, lt_25]; rfl)) ?_
            with_reducible refine (watershedref04_Has.calls k2 ((rd_T26 x5_2 x7_2).f0) ((rd_T26 x5_2 x7_2).f1) (rdOf ByteArray.empty l1 x6_1) false _ A16.out).mono ?_
            rintro e w58 ⟨rfl, hb⟩
            refine ⟨_, rfl, ?_⟩
            have n0_ := Am25 (Rb25 (by (with_reducible repeat first | apply Ra25 | apply Rn25 | apply Rd25); exact HO_5.out) hb)
            have n1_ := Am25 (kb25 (g:=gb218) (o:=.cells #[.string a0_0, .string a0_1] 26 (0, 0)) (by (with_reducible repeat first | apply kn25 | apply kd25 | apply ka25); exact BK218.out) hb)
            have n2_ := Am25 (kb25 (g:=gb224) (o:=.cells #[.string ((rd_T26 x5_2 x7_2).f0), .string ((rd_T26 x5_2 x7_2).f1)] 26 (0, 0)) (by (with_reducible repeat first | apply kn25 | apply kd25 | apply ka25); exact BK224.out) hb)
            have n3_ := Am25 (bp25 (by repeat (first | (with_reducible first | exact HB.out | apply ba25 | apply bn25 | apply bd25 | refine bs25 ?_ GE218.out | refine bs25 ?_ GE224.out) | exact HB.out)) hb)
            clear HO_5
            clear BK218
            clear BK224
            clear HB
            have HO_5 := n0_
            have BK218 := n1_
            have BK224 := n2_
            have HB := n3_
            clear n0_ n1_ n2_ n3_
            (try clear hb)
            (try clear hb2)
            (try clear hk)
            (try clear hi)
            refine hK.out _ _ ⟨(kc25 BK224.out 0).trans rfl, (kc25 BK224.out 1).trans rfl, ((HB.out.cell (World.block_lt_of_cell? w _ hw225_0)).trans hw225_0)⟩ (fun hHeld => ?_)
            clear hK K
            refine norm_ (a' := ?_) ?_ ?_
            rotate_left
            ·show Act.put _ (some 36) _ = _
             simp only [Act.put, sa25, sz25, ss25, i64_w, i32_w]
             rfl
            refine pure_ (i:=6) (N:=some 37) (v:=?_) (a' := ?_) #[true, true, true, true, true, true, true, false, false, false, false, false, false, false, false, false] rfl rfl (any_of HT_.out (by kernel_rfl)) (fun _ _ _ h => h) (Or.inl ⟨by rfl, ?_⟩) ?_ ?_
            rotate_left
            ·intro w'
             go_simp
             with_reducible rfl
            rotate_left
            ·simp only [Act.put, sa25, sz25, ss25, i64_w, i32_w]
             rfl
            refine pure_ (i:=7) (N:=some 38) (v:=?_) (a' := ?_) #[true, true, true, true, true, true, true, true, false, false, false, false, false, false, false, false] rfl rfl (any_of HT_.out (by kernel_rfl)) (fun _ _ _ h => h) (Or.inl ⟨by rfl, ?_⟩) ?_ ?_
            rotate_left
            ·intro w'
             go_simp
             with_reducible rfl
            rotate_left
            ·simp only [Act.put, sa25, sz25, ss25, i64_w, i32_w]
             rfl
            refine pure_ (i:=8) (N:=some 39) (v:=undef) (a' := ?_) #[true, true, true, true, true, true, true, true, true, false, false, false, false, false, false, false] rfl rfl (any_of HT_.out (by kernel_rfl)) (fun _ _ _ h => h) (Or.inr ⟨by rfl, rfl⟩) ?_ ?_
            rotate_left
            ·simp only [Act.put, sa25, sz25, ss25, i64_w, i32_w]
             rfl
            refine pure_ (i:=9) (N:=some 40) (v:=undef) (a' := ?_) #[true, true, true, true, true, true, true, true, true, true, false, false, false, false, false, false] rfl rfl (any_of HT_.out (by kernel_rfl)) (fun _ _ _ h => h) (Or.inr ⟨by rfl, rfl⟩) ?_ ?_
            rotate_left
            ·simp only [Act.put, sa25, sz25, ss25, i64_w, i32_w]
             rfl
            refine pure_ (i:=10) (N:=some 41) (v:=undef) (a' := ?_) #[true, true, true, true, true, true, true, true, true, true, true, false, false, false, false, false] rfl rfl (any_of HT_.out (by kernel_rfl)) (fun _ _ _ h => h) (Or.inr ⟨by rfl, rfl⟩) ?_ ?_
            rotate_left
            ·simp only [Act.put, sa25, sz25, ss25, i64_w, i32_w]
             rfl
            refine pure_ (i:=11) (N:=some 42) (v:=undef) (a' := ?_) #[true, true, true, true, true, true, true, true, true, true, true, true, false, false, false, false] rfl rfl (any_of HT_.out (by kernel_rfl)) (fun _ _ _ h => h) (Or.inr ⟨by rfl, rfl⟩) ?_ ?_
            rotate_left
            ·simp only [Act.put, sa25, sz25, ss25, i64_w, i32_w]
             rfl
            refine pure_ (i:=12) (N:=some 43) (v:=undef) (a' := ?_) #[true, true, true, true, true, true, true, true, true, true, true, true, true, false, false, false] rfl rfl (any_of HT_.out (by kernel_rfl)) (fun _ _ _ h => h) (Or.inr ⟨by rfl, rfl⟩) ?_ ?_
            rotate_left
            ·simp only [Act.put, sa25, sz25, ss25, i64_w, i32_w]
             rfl
            refine pure_ (i:=13) (N:=some 44) (v:=undef) (a' := ?_) #[true, true, true, true, true, true, true, true, true, true, true, true, true, true, false, false] rfl rfl (any_of HT_.out (by kernel_rfl)) (fun _ _ _ h => h) (Or.inr ⟨by rfl, rfl⟩) ?_ ?_
            rotate_left
            ·simp only [Act.put, sa25, sz25, ss25, i64_w, i32_w]
             rfl
            refine pure_ (i:=14) (N:=some 45) (v:=undef) (a' := ?_) #[true, true, true, true, true, true, true, true, true, true, true, true, true, true, true, false] rfl rfl (any_of HT_.out (by kernel_rfl)) (fun _ _ _ h => h) (Or.inr ⟨by rfl, rfl⟩) ?_ ?_
            rotate_left
            ·simp only [Act.put, sa25, sz25, ss25, i64_w, i32_w]
             rfl
            refine pure_ (i:=15) (N:=some 46) (v:=?_) (a' := ?_) #[true, true, true, true, true, true, true, true, true, true, true, true, true, true, true, true] rfl rfl (any_of HT_.out (by kernel_rfl)) (fun _ _ _ h => h) (Or.inl ⟨by rfl, ?_⟩) ?_ ?_
            rotate_left
            ·intro w'
             go_simp
             with_reducible rfl
            rotate_left
            ·simp only [Act.put, sa25, sz25, ss25, i64_w, i32_w]
             rfl
            refine done_ (done_of HT_.out (by kernel_rfl)) ?_
            try go_wp2
            go_roundg k2
            case measure => have := HK1.out; have := HK2.out; omega
            case rel => exact ⟨(x5_2), (wrap64 (x7_2 + 1)), (by first | rfl | (simp; done) | (simp [*]; done)), H', ⟨by have := HK1.out; have := HK2.out; omega⟩, ⟨by (with_reducible repeat first | apply Ra25 | apply Rn25 | apply Rd25); exact Ro25 HO_5.out (fun _ hk => hk.1)⟩, ⟨by (with_reducible repeat first | apply kn25 | apply kd25 | apply ka25); exact BK218.out⟩, ⟨by repeat (first | (with_reducible first | exact HB.out | apply ba25 | apply bn25 | apply bd25 | refine bs25 ?_ GE218.out | refine bs25 ?_ GE224.out) | exact HB.out)⟩⟩
          ·rw [if_neg c15] at H
           exact absurd H (by simp)
         ·rw [if_neg c14] at H
          exact absurd H (by simp)
        ·rw [if_neg c13] at H
         exact absurd H (by simp)
       ·rw [if_neg c12] at H
        have c12b0 : decide (x7_2 < (x5_2.length : Int)) = false := decide_eq_false c12
        clear c12
        have H' := Am25 H
        clear H
        obtain ⟨Ao59, co59, eo59⟩ := Kd.R_slice HO_5.out
        subst eo59
        go_wp2
        go_roundg k2
        case measure => have := HK1.out; have := HK2.out; omega
        case rel => exact ⟨(x5_2), (wrap64 (x6_1 + 1)), (by first | rfl | (simp; done) | (simp [*]; done)), H', ⟨by have := HK1.out; have := HK2.out; omega⟩, ⟨by (with_reducible repeat first | apply Ra25 | apply Rn25 | apply Rd25); exact HO_5.out⟩, ⟨by (with_reducible repeat first | apply kn25 | apply kd25 | apply ka25); exact BK218.out⟩, ⟨by repeat (first | (with_reducible first | exact HB.out | apply ba25 | apply bn25 | apply bd25 | refine bs25 ?_ GE218.out) | exact HB.out)⟩⟩
    ·rw [if_neg c11] at H
     have c11b0 : decide (x6_1 < (l1.length : Int)) = false := decide_eq_false c11
     clear c11
     obtain rfl := Option.some.inj H
     go_wp2
     go_ret
     exact ⟨_, by first | rfl | (simp [errW_none, errW_some] <;> rfl) | (simp [*, errW_none, errW_some] <;> rfl), by (with_reducible repeat first | apply Ra25 | apply Rn25 | apply Rd25); exact Ro25 HO_5.out (fun _ hk => trivial), by repeat (first | (with_reducible first | exact HB.out | apply ba25 | apply bn25 | apply bd25 | refine bs25 ?_ GE218.out) | exact HB.out)⟩
 ·replace c4 := Bool.eq_false_iff.mpr c4
  subst c4
  rw [if_neg (show ¬ (false = true) by decide)] at H
  obtain rfl := Option.some.inj H
  go_enter Try.func25, Try.ntmps25
  go_wp2_with (first | ((with_reducible refine gate_dst (N:=2) rfl ?_); refine box_event ?hg (N:=2) ?hd (cs:=#[.string a0_0, .string a0_1]) (t:=26) ?hr ?_; (case hd => rfl); (case hg => rfl); (case hr => first | (go_simp; done) | (go_simp; rfl)); intro gb218 hg w60 hbox hb; have n0_ := Am25 (bp25 (by repeat (first | (with_reducible first | exact HB.out | apply ba25 | apply bn25 | apply bd25) | exact HB.out)) hb); have n1_ := Am25 (hbox); have n2_ := Am25 ((by rw [hg]; exact (bz25 (by repeat (first | (with_reducible first | exact HB.out | apply ba25 | apply bn25 | apply bd25) | exact HB.out))) : w.heap.size ≤ gb218)); have n3_ := Am25 ((by rw [hg]; exact (bz25 (by repeat (first | (with_reducible first | exact HB.out | apply ba25 | apply bn25 | apply bd25) | exact HB.out))) : w.heap.size ≤ gb218)); clear HB; have HB := n0_; have BK218 := n1_; have GW218 := n2_; have GE218 := n3_; clear n0_ n1_ n2_ n3_; clear hb hbox hg; have hcz61_0 : w60.cell? ⟨gb218, 0, none⟩ = some (.string a0_0) := (kc25 BK218.out 0).trans rfl; have hcz61_1 : w60.cell? ⟨gb218, 1, none⟩ = some (.string a0_1) := (kc25 BK218.out 1).trans rfl; have hfz61_0 := kz25 BK218.out 0; have hfz61_1 := kz25 BK218.out 1) | ((with_reducible refine gate_callee (f:=17) rfl ?_); refine goesL_ (some 11) rfl rfl Try.func17 (by kernel_rfl) rfl #[.agg #[.string a0_0, .string a0_1]] rfl (by (try simp only [ma25, mc25, mn25]); first | done | rfl | (simp only [ld25, lt_25]; rfl)) ?_; (with_reducible refine (watershedref04_Right.calls k a0_0 a0_1 false _ A3.out).mono ?_); rintro e w62 ⟨rfl, hb⟩; refine ⟨_, rfl, ?_⟩; have n0_ := Am25 (kb25 (g:=gb218) (o:=.cells #[.string a0_0, .string a0_1] 26 (0, 0)) (by (with_reducible repeat first | apply kn25 | apply kd25 | apply ka25); exact BK218.out) hb); have n1_ := Am25 (bp25 (by repeat (first | (with_reducible first | exact HB.out | apply ba25 | apply bn25 | apply bd25 | refine bs25 ?_ GE218.out) | exact HB.out)) hb); clear BK218; clear HB; have BK218 := n0_; have HB := n1_; clear n0_ n1_; (try clear hb); (try clear hb2); (try clear hk); (try clear hi)))
  go_ret
  exact ⟨_, by first | rfl | (simp [errW_none, errW_some] <;> rfl) | (simp [*, errW_none, errW_some] <;> rfl), by first | exact Kd.R_nil _ _ _ _ _ | exact Kd.N_nil _ _ _ _ _ | exact Kd.V_nil _ _ _ _ _ | exact Kd.Q_nil _ _ _ _ _ | exact Kd.S_nil _ _ _ _ _, by repeat (first | (with_reducible first | exact HB.out | apply ba25 | apply bn25 | apply bd25 | refine bs25 ?_ GE218.out) | exact HB.out)⟩

end Go.Proofs.Ytbmnhpihlkljdaa.P04t
