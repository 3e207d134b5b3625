-- Written by gprint.py, a program of this session, over the kit's print; the functions of my own contracts are marked GIVEN
import Derived.Test.YtbmnhpihlkljdaaZEP04ex0
import Derived.Test.YtbmnhpihlkljdaaZEP04ex5
import Derived.Test.YtbmnhpihlkljdaaZEP04ex6
namespace Go.Proofs.Ytbmnhpihlkljdaa.P04e
open Go.RowKit Go.Proofs.YtbmnhpihlkljdaaW.PrintWords Go.Proofs.YtbmnhpihlkljdaaW.PrintLast Go.Proofs.YtbmnhpihlkljdaaW.PrintMore
attribute [local go_sem] max2_str max2_int min2_int max_two min_two max_three min_three max_four min_four   -- for this text's walks alone
set_option linter.unusedVariables false
set_option linter.unusedSimpArgs false

abbrev bb25 (n m : Nat) : Array Bool := ((List.range n).map fun i => m.testBit i).toArray
theorem Am25 : type_of% @Aside0.mk := @Aside0.mk
theorem Ra25 : type_of% @Kd.R_alloc := @Kd.R_alloc
theorem Rn25 : type_of% @Kd.R_drewN := @Kd.R_drewN
theorem Rd25 : type_of% @Kd.R_drew := @Kd.R_drew
theorem Rf25 : type_of% @Kd.R_far := @Kd.R_far
theorem Ro25 : type_of% @Kd.R_mono := @Kd.R_mono
theorem Rb25 : type_of% @Kd.R_below := @Kd.R_below
theorem ba25 : type_of% @below_alloc := @below_alloc
theorem bn25 : type_of% @pw_below_drewN := @pw_below_drewN
theorem bd25 : type_of% @below_drew1 := @below_drew1
theorem bs25 : type_of% @below_set := @below_set
theorem kn25 : type_of% @blk_drewN := @blk_drewN
theorem kd25 : type_of% @blk_drew := @blk_drew
theorem ka25 : type_of% @blk_alloc := @blk_alloc
theorem kf25 : type_of% @blk_far := @blk_far
theorem kb25 : type_of% @blk_below := @blk_below
theorem Re25 : type_of% @Kd.R_elder' := @Kd.R_elder'
theorem Rw25 : type_of% @Kd.R_new' := @Kd.R_new'
theorem Rl25 : type_of% @Kd.R_lower := @Kd.R_lower
theorem Ra_25 : type_of% @Kd.R_base := @Kd.R_base
theorem Rt25 : type_of% @Kd.R_lt := @Kd.R_lt
theorem bz25 : type_of% @below_size := @below_size
theorem bp25 : type_of% @below_step := @below_step
theorem kc25 : type_of% @blk_cell := @blk_cell
theorem kz25 : type_of% @blk_frozen := @blk_frozen
theorem sa25 : type_of% @List.setIfInBounds_toArray := @List.setIfInBounds_toArray
theorem sz25 : type_of% @List.set_cons_zero := @List.set_cons_zero
theorem ss25 : type_of% @List.set_cons_succ := @List.set_cons_succ
theorem ma25 : type_of% @List.map_toArray := @List.map_toArray
theorem mc25 : type_of% @List.map_cons := @List.map_cons
theorem mn25 : type_of% @List.map_nil := @List.map_nil
theorem ld25 : type_of% @List.length_drop := @List.length_drop
theorem lt_25 : type_of% @List.length_take := @List.length_take
/-! ### watershedref04_Cut: function 25 -/
mutual
def watershedref04_Cut.l0 : Nat → List ByteArray → List (S26) → Int → Option ((List (S26)))
 | 0, _, _, _ => none
 | k + 1, x1, x5, x6 => if x6 < (x1.length : Int) then (watershedref04_Cut.l1 k x1 x5 x6 0) else (some x5)
def watershedref04_Cut.l1 : Nat → List ByteArray → List (S26) → Int → Int → Option ((List (S26)))
 | 0, _, _, _, _ => none
 | k + 1, x1, x5, x6, x7 => if x7 < (x5.length : Int) then (if 0 ≤ x7 then (if 0 ≤ x6 then (if x6 < (x1.length : Int) then ((watershedref04_Has.f k ((rd_T26 x5 x7).f0) ((rd_T26 x5 x7).f1) (rdOf ByteArray.empty x1 x6)).bind fun t208 => (if t208 = true then (if (rdOf ByteArray.empty x1 x6).toList = ((rd_T26 x5 x7).f0).toList then (watershedref04_Cut.l1 k x1 x5 x6 (wrap64 (x7 + 1))) else ((some (([] : List (S26)) : List (S26))).bind fun y210 => (if 0 ≤ (wrap64 (x7 + 1)) then (if (wrap64 (x7 + 1)) ≤ (x5.length : Int) then ((some (x5.drop ((wrap64 (x7 + 1)) : Int).toNat : List (S26))).bind fun y213 => (if y210.length + y213.length < 4398046511104 then ((some (y210 ++ y213 : List (S26))).bind fun y217 => (if x7 ≤ (x5.length : Int) then ((some (x5.take (x7 : Int).toNat : List (S26))).bind fun y220 => ((some (([(⟨(rd_T26 x5 x7).f0, rdOf ByteArray.empty x1 x6⟩ : S26), (⟨rdOf ByteArray.empty x1 x6, (rd_T26 x5 x7).f1⟩ : S26)] : List (S26)) : List (S26))).bind fun y225 => (if y220.length + y225.length < 4398046511104 then ((some (y220 ++ y225 : List (S26))).bind fun y228 => (if y228.length + y217.length < 4398046511104 then (watershedref04_Cut.l0 k x1 (y228 ++ y217) (wrap64 (x6 + 1))) else (none))) else (none)))) else (none))) else (none))) else (none)) else (none)))) else (watershedref04_Cut.l1 k x1 x5 x6 (wrap64 (x7 + 1))))) else (none)) else (none)) else (none)) else (watershedref04_Cut.l0 k x1 x5 (wrap64 (x6 + 1)))
end
def watershedref04_Cut.f (k : Nat) (a0_0 : ByteArray) (a0_1 : ByteArray) (l1 : List ByteArray) : Option ((List (S26))) := (watershedref04_Right.f k a0_0 a0_1).bind fun t201 => (if t201 = true then (watershedref04_Cut.l0 k l1 (([(⟨a0_0, a0_1⟩ : S26)] : List (S26))) 0) else (some ([] : List (S26))))
theorem watershedref04_Cut.mono_l : ∀ k, (∀ y0 y1 y2, LeO (watershedref04_Cut.l0 k y0 y1 y2) (watershedref04_Cut.l0 (k + 1) y0 y1 y2)) ∧ (∀ y0 y1 y2 y3, LeO (watershedref04_Cut.l1 k y0 y1 y2 y3) (watershedref04_Cut.l1 (k + 1) y0 y1 y2 y3))
 | 0 => ⟨fun _ _ _ r h => by simp [watershedref04_Cut.l0] at h, fun _ _ _ _ r h => by simp [watershedref04_Cut.l1] at h⟩
 | k + 1 => by
  obtain ⟨ih0, ih1⟩ := watershedref04_Cut.mono_l k
  refine ⟨?_, ?_⟩
  ·intro y0 y1 y2
   unfold watershedref04_Cut.l0
   repeat' first
   | (with_reducible exact ih0 _ _ _)
   | (with_reducible exact ih1 _ _ _ _)
   | (with_reducible exact watershedref04_Has.mono _ _ _ _)
   | (with_reducible exact watershedref04_Right.mono _ _ _)
   | (with_reducible exact LeO.refl _)
   | (with_reducible exact LeO.none _)
   | (with_reducible refine LeO.ite ?_ ?_)
   | (with_reducible refine LeO.bind ?_ (fun _ => ?_))
   | exact ih0 _ _ _
   | exact ih1 _ _ _ _
   | exact watershedref04_Has.mono _ _ _ _
   | exact watershedref04_Right.mono _ _ _
   | exact LeO.none _
   | refine LeO.ite ?_ ?_
   | refine LeO.bind ?_ (fun _ => ?_)
  ·intro y0 y1 y2 y3
   unfold watershedref04_Cut.l1
   repeat' first
   | (with_reducible exact ih0 _ _ _)
   | (with_reducible exact ih1 _ _ _ _)
   | (with_reducible exact watershedref04_Has.mono _ _ _ _)
   | (with_reducible exact watershedref04_Right.mono _ _ _)
   | (with_reducible exact LeO.refl _)
   | (with_reducible exact LeO.none _)
   | (with_reducible refine LeO.ite ?_ ?_)
   | (with_reducible refine LeO.bind ?_ (fun _ => ?_))
   | exact ih0 _ _ _
   | exact ih1 _ _ _ _
   | exact watershedref04_Has.mono _ _ _ _
   | exact watershedref04_Right.mono _ _ _
   | exact LeO.none _
   | refine LeO.ite ?_ ?_
   | refine LeO.bind ?_ (fun _ => ?_)
theorem watershedref04_Cut.mono : ∀ a0 a1 a2 k, LeO (watershedref04_Cut.f k a0 a1 a2) (watershedref04_Cut.f (k + 1) a0 a1 a2) := by
 intro a0 a1 a2 k
 obtain ⟨ih0, ih1⟩ := watershedref04_Cut.mono_l k
 unfold watershedref04_Cut.f
 repeat' first
   | (with_reducible exact ih0 _ _ _)
   | (with_reducible exact ih1 _ _ _ _)
   | (with_reducible exact watershedref04_Has.mono _ _ _ _)
   | (with_reducible exact watershedref04_Right.mono _ _ _)
   | (with_reducible exact LeO.refl _)
   | (with_reducible exact LeO.none _)
   | (with_reducible refine LeO.ite ?_ ?_)
   | (with_reducible refine LeO.bind ?_ (fun _ => ?_))
   | exact ih0 _ _ _
   | exact ih1 _ _ _ _
   | exact watershedref04_Has.mono _ _ _ _
   | exact watershedref04_Right.mono _ _ _
   | exact LeO.none _
   | refine LeO.ite ?_ ?_
   | refine LeO.bind ?_ (fun _ => ?_)
def watershedref04_Cut.T11 : Bool × List (List Nat × List Nat) := (true, [([], []), ([], []), ([], []), ([1, 2], [1, 2]), ([3], [3]), ([0, 4], [0, 4]), ([5], [5]), ([6, 5], [6]), ([7], [7]), ([7], [7]), ([8, 9, 7], [7, 8, 9]), ([10, 7], [7, 10]), ([7], [7]), ([12, 7], [7, 12]), ([11, 13, 7], [7, 11, 13]), ([7, 14], [7, 14])])
def watershedref04_Cut.B11 : List Nat := [0, 0, 0, 6, 14, 31, 63, 127, 255, 255, 1023, 2047, 255, 4351, 16383, 32767]
theorem watershedref04_Cut.tab11 : rtab .any (opsOf Try.f25 11) = watershedref04_Cut.T11 := by kernel_rfl
theorem watershedref04_Cut.bits11 : waitsOk watershedref04_Cut.T11.2 watershedref04_Cut.B11 = true := by kernel_rfl
def watershedref04_Cut.T13 : Bool × List (List Nat × List Nat) := (true, [([], []), ([], []), ([0, 1], [0, 1]), ([], []), ([3], [3]), ([], []), ([], []), ([5, 6], [5, 6]), ([7], [7]), ([4, 8], [4, 8]), ([], []), ([], []), ([10, 11], [10, 11]), ([12], [12]), ([], []), ([14], [14]), ([13, 15], [13, 15]), ([9, 16], [9, 16]), ([2, 17], [2, 17]), ([], []), ([18, 19, 18], [18, 19]), ([20, 20, 0, 1, 2, 3, 4, 5, 6, 7, 8, 9, 10, 11, 12, 13, 14, 15, 16, 17, 18, 19, 20], [0, 20])])
def watershedref04_Cut.B13 : List Nat := [0, 0, 3, 0, 8, 0, 0, 96, 224, 504, 0, 0, 3072, 7168, 0, 16384, 64512, 131064, 262143, 0, 1048575, 2097151]
theorem watershedref04_Cut.tab13 : rtab .any (opsOf Try.f25 13) = watershedref04_Cut.T13 := by kernel_rfl
theorem watershedref04_Cut.bits13 : waitsOk watershedref04_Cut.T13.2 watershedref04_Cut.B13 = true := by kernel_rfl
set_option maxHeartbeats 8000000 in
set_option maxRecDepth 100000 in
theorem watershedref04_Cut.calls (k : Nat) (a0_0 : ByteArray) (a0_1 : ByteArray) (A1 : Option Addr) (c1 : Nat) (l1 : List ByteArray) (r : List (S26)) (w : World) (hr1 : Kd.C Kd.string w A1 l1.length l1) (hc1 : l1.length ≤ c1) (h : watershedref04_Cut.f k a0_0 a0_1 l1 = some r) :
  Calls Try.prog 25 #[.agg #[.string a0_0, .string a0_1], .slice A1 l1.length c1] w fun e w' => ∃ v0_ : Value, e = .returned (v0_) ∧ Kd.R k26 26 w' w.heap.size (fun _ => True) v0_ r ∧ Below w.heap.size w w' := by
 have hu26 := Try.underlying26
 have HR1 := Am25 hr1
 have HC1 := Am25 hc1
 clear hr1 hc1
 have HB := Am25 (Below.refl w.heap.size w)
 have H : ((watershedref04_Right.f k a0_0 a0_1).bind fun t201 => (if t201 = true then (watershedref04_Cut.l0 k l1 (([(⟨a0_0, a0_1⟩ : S26)] : List (S26))) 0) else (some ([] : List (S26))))) = some r := h
 clear h
 replace H := Option.bind_eq_some_iff.mp H
 obtain ⟨t201, A30, H⟩ := H
 try dsimp only at H
 have A3 := Am25 A30
 clear A30
 by_cases c4 : t201 = true
 ·subst c4
  rw [if_pos rfl] at H
  obtain ⟨y202, hy202⟩ : ∃ y_ : List (S26), y_ = (([(⟨a0_0, a0_1⟩ : S26)] : List (S26))) := ⟨_, rfl⟩
  replace H : (watershedref04_Cut.l0 k l1 y202 0) = some r := by first | (rw [hy202]; with_reducible exact H) | (have H2_ := (Option.bind_some _ _).symm.trans H; rw [hy202]; with_reducible exact H2_) | (have H2_ := (Option.bind_some _ _).symm.trans H; with_reducible exact H2_) | with_reducible exact H | (rw [hy202]; exact H) | exact H
  have Ny202 := Am25 hy202
  clear hy202
  have H' := Am25 H
  clear H
  go_enter Try.func25, Try.ntmps25
  go_wp2_with (first | ((with_reducible refine gate_dst (N:=2) rfl ?_); refine box_event ?hg (N:=2) ?hd (cs:=#[.string a0_0, .string a0_1]) (t:=26) ?hr ?_; (case hd => rfl); (case hg => rfl); (case hr => first | (go_simp; done) | (go_simp; rfl)); intro gb200 hg w5 hbox hb; have BK200 := Am25 (hbox); have GW200 := Am25 ((by rw [hg]; exact (bz25 (by repeat (first | (with_reducible first | exact HB.out | apply ba25 | apply bn25 | apply bd25) | exact HB.out))) : w.heap.size ≤ gb200)); have GE200 := Am25 ((by rw [hg]; exact (bz25 (by repeat (first | (with_reducible first | exact HB.out | apply ba25 | apply bn25 | apply bd25) | exact HB.out))) : w.heap.size ≤ gb200)); replace HB := Am25 (bp25 (by repeat (first | (with_reducible first | exact HB.out | apply ba25 | apply bn25 | apply bd25) | exact HB.out)) hb); clear hb hbox hg; have hcz6_0 : w5.cell? ⟨gb200, 0, none⟩ = some (.string a0_0) := (kc25 BK200.out 0).trans rfl; have hcz6_1 : w5.cell? ⟨gb200, 1, none⟩ = some (.string a0_1) := (kc25 BK200.out 1).trans rfl; have hfz6_0 := kz25 BK200.out 0; have hfz6_1 := kz25 BK200.out 1) | ((with_reducible refine gate_callee (f:=17) rfl ?_); refine goesL_ (some 11) rfl rfl Try.func17 (by kernel_rfl) rfl #[.agg #[.string a0_0, .string a0_1]] rfl (by (try simp only [ma25, mc25, mn25]); first | done | rfl | (simp only [ld25, lt_25]; rfl)) ?_; (with_reducible refine (watershedref04_Right.calls k a0_0 a0_1 true _ A3.out).mono ?_); rintro e w7 ⟨rfl, hb⟩; refine ⟨_, rfl, ?_⟩; replace BK200 := Am25 (kb25 (g:=gb200) (o:=.cells #[.string a0_0, .string a0_1] 26 (0, 0)) (by (with_reducible repeat first | apply kn25 | apply kd25 | apply ka25); exact BK200.out) hb); replace HB := Am25 (bp25 (by repeat (first | (with_reducible first | exact HB.out | apply ba25 | apply bn25 | apply bd25 | refine bs25 ?_ GE200.out) | exact HB.out)) hb); (try clear hb); (try clear hb2); (try clear hk); (try clear hi); have hcz8_0 : w7.cell? ⟨gb200, 0, none⟩ = some (.string a0_0) := (kc25 BK200.out 0).trans rfl; have hcz8_1 : w7.cell? ⟨gb200, 1, none⟩ = some (.string a0_1) := (kc25 BK200.out 1).trans rfl; have hfz8_0 := kz25 BK200.out 0; have hfz8_1 := kz25 BK200.out 1) | ((with_reducible refine gate_dst (N:=14) rfl ?_); refine Kd.R_lit k26 _ 26 ?hg (N:=14) ?hd (xs:=([(⟨a0_0, a0_1⟩ : S26)] : List (S26))) (inner:=[.string a0_0, .string a0_1]) (ok:=fun _ => True) (okp:=fun _ => True) ?hr ?hp (fun _ hk => hk) trivial (Below.refl _ _) (Nat.le_refl _) (by simp) ?_; (case hd => rfl); (case hg => rfl); (case hr => first | (go_simp; done) | (go_simp; rfl)); (case hp => exact (Reps.c2 (show Kd.M k26 _ _ _ (⟨a0_0, a0_1⟩ : S26) [.string a0_0, .string a0_1] from (k26_mkM _ _ _ (⟨a0_0, a0_1⟩ : S26) )) (Reps.none _ _))); intro v203 w9 ho10 hb hg_ hnew_; clear hg_ hnew_; (first | rw [← Ny202.out] at ho10 | (simp only [Int.reduceToNat] at ho10; rw [← Ny202.out] at ho10)); have HO204 := Am25 (Rl25 (Kd.R_newB ho10 (g:=gb200) (o:=.cells #[.string a0_0, .string a0_1] 26 (0, 0)) (by (with_reducible repeat first | apply kn25 | apply kd25 | apply ka25); exact BK200.out)) (bz25 (by repeat (first | (with_reducible first | exact HB.out | apply ba25 | apply bn25 | apply bd25 | refine bs25 ?_ GE200.out) | exact HB.out)))); replace BK200 := Am25 (kb25 (g:=gb200) (o:=.cells #[.string a0_0, .string a0_1] 26 (0, 0)) (by (with_reducible repeat first | apply kn25 | apply kd25 | apply ka25); exact BK200.out) hb); replace HB := Am25 (bp25 (by repeat (first | (with_reducible first | exact HB.out | apply ba25 | apply bn25 | apply bd25 | refine bs25 ?_ GE200.out) | exact HB.out)) hb); clear hb ho10))
  go_loopg [5, 6] k (fun kq v5 v6 w' => ∃ (x5_1 : List (S26)) (x6_1 : Int), v6 = .int .i64 x6_1 ∧ Aside0 (watershedref04_Cut.l0 kq l1 x5_1 x6_1 = some r) ∧ Aside0 (kq ≤ k) ∧ Aside0 (Kd.R k26 26 w' w.heap.size (fun k_ => k_ ≠ gb200) v5 x5_1) ∧ Aside0 (w'.heap[gb200]? = some (.cells #[.string a0_0, .string a0_1] 26 (0, 0))) ∧ Aside0 (Below w.heap.size w w'))
  case atStart => exact ⟨(y202), (0), (by first | rfl | (simp; done) | (simp [*]; done)), H', ⟨Nat.le_refl _⟩, ⟨by (with_reducible repeat first | apply Ra25 | apply Rn25 | apply Rd25); exact Ro25 HO204.out (fun _ h=>h.2)⟩, ⟨by (with_reducible repeat first | apply kn25 | apply kd25 | apply ka25); exact BK200.out⟩, ⟨by repeat (first | (with_reducible first | exact HB.out | apply ba25 | apply bn25 | apply bd25 | refine bs25 ?_ GE200.out) | exact HB.out)⟩⟩
  case round =>
   clear H'
   try clear c1
   try clear c2
   try clear p2
   try clear c4
   try clear hcz6_0
   try clear hcz6_1
   try clear hcz8_0
   try clear hcz8_1
   try clear hfz6_0
   try clear hfz6_1
   try clear hfz8_0
   try clear hfz8_1
   obtain ⟨x5_1, x6_1, rfl, HA, HK1, HO_5, BK200, HB⟩ := hrel
   cases gk with
   | zero => exact absurd HA.out (by simp [watershedref04_Cut.l0])
   | succ k1 =>
    have H := HA.out
    clear HA
    simp only [watershedref04_Cut.l0] at H
    by_cases c11 : x6_1 < (l1.length : Int)
    ·rw [if_pos c11] at H
     have c11b0 : decide (x6_1 < (l1.length : Int)) = true := decide_eq_true c11
     clear c11
     have H' := Am25 H
     clear H
     go_wp2
     go_loopg [5, 7] k1 (fun kq v5 v7 w' => ∃ (x5_2 : List (S26)) (x7_2 : Int), v7 = .int .i64 x7_2 ∧ Aside0 (watershedref04_Cut.l1 kq l1 x5_2 x6_1 x7_2 = some r) ∧ Aside0 (kq ≤ k1) ∧ Aside0 (Kd.R k26 26 w' w.heap.size (fun k_ => k_ ≠ gb200) v5 x5_2) ∧ Aside0 (w'.heap[gb200]? = some (.cells #[.string a0_0, .string a0_1] 26 (0, 0))) ∧ Aside0 (Below w.heap.size w w'))
     case atStart => exact ⟨(x5_1), (0), (by first | rfl | (simp; done) | (simp [*]; done)), H', ⟨Nat.le_refl _⟩, ⟨by (with_reducible repeat first | apply Ra25 | apply Rn25 | apply Rd25); exact HO_5.out⟩, ⟨by (with_reducible repeat first | apply kn25 | apply kd25 | apply ka25); exact BK200.out⟩, ⟨by repeat (first | (with_reducible first | exact HB.out | apply ba25 | apply bn25 | apply bd25 | refine bs25 ?_ GE200.out) | exact HB.out)⟩⟩
     case round =>
      clear H'
      try clear c1
      try clear c2
      try clear p2
      try clear c4
      try clear c11
      try clear c11b0
      try clear hcz6_0
      try clear hcz6_1
      try clear hcz8_0
      try clear hcz8_1
      try clear hfz6_0
      try clear hfz6_1
      try clear hfz8_0
      try clear hfz8_1
      try clear p2
      obtain ⟨x5_2, x7_2, rfl, HA, HK2, HO_5, BK200, HB⟩ := hrel
      cases gk with
      | zero => exact absurd HA.out (by simp [watershedref04_Cut.l1])
      | succ k2 =>
       have H := HA.out
       clear HA
       simp only [watershedref04_Cut.l1] at H
       by_cases c12 : x7_2 < (x5_2.length : Int)
       ·rw [if_pos c12] at H
        have c12b0 : decide (x7_2 < (x5_2.length : Int)) = true := decide_eq_true c12
        clear c12
        by_cases c13 : 0 ≤ x7_2
        ·rw [if_pos c13] at H
         have c13b0 : decide (0 ≤ x7_2) = true := decide_eq_true c13
         clear c13
         by_cases c14 : 0 ≤ x6_1
         ·rw [if_pos c14] at H
          have c14b0 : decide (0 ≤ x6_1) = true := decide_eq_true c14
          clear c14
          by_cases c15 : x6_1 < (l1.length : Int)
          ·rw [if_pos c15] at H
           have c15b0 : decide (x6_1 < (l1.length : Int)) = true := decide_eq_true c15
           clear c15
           replace H := Option.bind_eq_some_iff.mp H
           obtain ⟨t208, A160, H⟩ := H
           try dsimp only at H
           have A16 := Am25 A160
           clear A160
           by_cases c17 : t208 = true
           ·subst c17
            rw [if_pos rfl] at H
            by_cases c18 : (rdOf ByteArray.empty l1 x6_1).toList = ((rd_T26 x5_2 x7_2).f0).toList
            ·rw [if_pos c18] at H
             have c18b0 : ((rdOf ByteArray.empty l1 x6_1).toList == ((rd_T26 x5_2 x7_2).f0).toList) = true := beq_iff_eq.mpr c18
             have c18b1 : ((rdOf ByteArray.empty l1 x6_1).toList != ((rd_T26 x5_2 x7_2).f0).toList) = false := bne_eq_false_iff_eq.mpr c18
             clear c18
             have H' := Am25 H
             clear H
             obtain ⟨Ao19, co19, eo19⟩ := Kd.R_slice HO_5.out
             subst eo19
             have p205 : 0 ≤ (x7_2 : Int) := of_decide_eq_true (by first | (with_reducible assumption) | assumption)
             have q205 : x7_2 < (x5_2.length : Int) := of_decide_eq_true (by first | (with_reducible assumption) | assumption)
             obtain ⟨ad205, e205, hx205_0, hx205_1⟩ := at_T26 (Kd.R_reads' HO_5.out).2.2 x7_2 p205 q205
             cases e205
             replace p205 := eq_true p205
             replace q205 := eq_true q205
             try go_wp2_with (first | ((with_reducible refine gate_dst (N:=8) rfl ?_); refine box_event ?hg (N:=8) ?hd (cs:=#[.string (⟨#[]⟩ : ByteArray), .string (⟨#[]⟩ : ByteArray)]) (t:=26) ?hr ?_; (case hd => rfl); (case hg => rfl); (case hr => first | (go_simp; done) | (go_simp; rfl)); intro gb206 hg w20 hbox hb; replace HO_5 := Am25 (Rb25 (Kd.R_elderB (by (with_reducible repeat first | apply Ra25 | apply Rn25 | apply Rd25); exact HO_5.out) gb206 (Nat.le_of_eq hg.symm)) hb); have BK206 := Am25 (hbox); have GW206 := Am25 ((by rw [hg]; exact (bz25 (by repeat (first | (with_reducible first | exact HB.out | apply ba25 | apply bn25 | apply bd25 | refine bs25 ?_ GE200.out) | exact HB.out))) : w.heap.size ≤ gb206)); have GE206 := Am25 ((by rw [hg]; exact (bz25 (by repeat (first | (with_reducible first | exact HB.out | apply ba25 | apply bn25 | apply bd25 | refine bs25 ?_ GE200.out) | exact HB.out))) : w.heap.size ≤ gb206)); replace HB := Am25 (bp25 (by repeat (first | (with_reducible first | exact HB.out | apply ba25 | apply bn25 | apply bd25 | refine bs25 ?_ GE200.out) | exact HB.out)) hb); have NB200_206 := Am25 ((by rw [hg]; exact Nat.ne_of_lt (blk_lt (g:=gb200) (o:=.cells #[.string a0_0, .string a0_1] 26 (0, 0)) (by (with_reducible repeat first | apply kn25 | apply kd25 | apply ka25); exact BK200.out)) : gb200 ≠ gb206)); have NB206_200 := Am25 ((by rw [hg]; exact Nat.ne_of_gt (blk_lt (g:=gb200) (o:=.cells #[.string a0_0, .string a0_1] 26 (0, 0)) (by (with_reducible repeat first | apply kn25 | apply kd25 | apply ka25); exact BK200.out)) : gb206 ≠ gb200)); replace BK200 := Am25 (kb25 (g:=gb200) (o:=.cells #[.string a0_0, .string a0_1] 26 (0, 0)) (by (with_reducible repeat first | apply kn25 | apply kd25 | apply ka25); exact BK200.out) hb); clear hb hbox hg; have hnb21 := NB206_200.out; have hnc21 := NB200_206.out; have hcz22_0 : w20.cell? ⟨gb206, 0, none⟩ = some (.string (⟨#[]⟩ : ByteArray)) := (kc25 BK206.out 0).trans rfl; have hcz22_1 : w20.cell? ⟨gb206, 1, none⟩ = some (.string (⟨#[]⟩ : ByteArray)) := (kc25 BK206.out 1).trans rfl; have hfz22_0 := kz25 BK206.out 0; have hfz22_1 := kz25 BK206.out 1))
             have n0_ : Aside0 (Kd.R k26 26 ((w20.setCell ⟨gb206, 0, none⟩ (.string ((rd_T26 x5_2 x7_2).f0))).setCell ⟨gb206, 1, none⟩ (.string ((rd_T26 x5_2 x7_2).f1))) w.heap.size (fun k_ => k_ ≠ gb200 ∧ k_ ≠ gb206) (.slice (some ad205) x5_2.length co19) x5_2) := ⟨by (with_reducible repeat first | apply Ra25 | apply Rn25 | apply Rd25); exact Ro25 (Rf25 (p:=⟨gb206, 1, none⟩) (Rf25 (p:=⟨gb206, 0, none⟩) (Ro25 HO_5.out (fun k_ hk => (⟨hk, hk.2⟩ : _ ∧ k_ ≠ gb206))) (fun _ h=>h.2) (.string ((rd_T26 x5_2 x7_2).f0))) (fun _ h=>h.2) (.string ((rd_T26 x5_2 x7_2).f1))) (fun _ hk => ⟨hk.1.1, hk.1.2⟩)⟩
             have n1_ : Aside0 (((w20.setCell ⟨gb206, 0, none⟩ (.string ((rd_T26 x5_2 x7_2).f0))).setCell ⟨gb206, 1, none⟩ (.string ((rd_T26 x5_2 x7_2).f1))).heap[gb200]? = some (.cells #[.string a0_0, .string a0_1] 26 (0, 0))) := ⟨by (with_reducible repeat first | apply kn25 | apply kd25 | apply ka25); refine kf25 ?_ NB200_206.out _; (with_reducible repeat first | apply kn25 | apply kd25 | apply ka25); refine kf25 ?_ NB200_206.out _; (with_reducible repeat first | apply kn25 | apply kd25 | apply ka25); exact BK200.out⟩
             have n2_ : Aside0 (((w20.setCell ⟨gb206, 0, none⟩ (.string ((rd_T26 x5_2 x7_2).f0))).setCell ⟨gb206, 1, none⟩ (.string ((rd_T26 x5_2 x7_2).f1))).heap[gb206]? = some (.cells #[.string ((rd_T26 x5_2 x7_2).f0), .string ((rd_T26 x5_2 x7_2).f1)] 26 (0, 0))) := ⟨by (with_reducible repeat first | apply kn25 | apply kd25 | apply ka25); refine blk_put (cs:=#[.string ((rd_T26 x5_2 x7_2).f0), .string (⟨#[]⟩ : ByteArray)]) ?_ 1 _ rfl; (with_reducible repeat first | apply kn25 | apply kd25 | apply ka25); refine blk_put (cs:=#[.string (⟨#[]⟩ : ByteArray), .string (⟨#[]⟩ : ByteArray)]) ?_ 0 _ rfl; (with_reducible repeat first | apply kn25 | apply kd25 | apply ka25); exact BK206.out⟩
             have n3_ : Aside0 (Below w.heap.size w ((w20.setCell ⟨gb206, 0, none⟩ (.string ((rd_T26 x5_2 x7_2).f0))).setCell ⟨gb206, 1, none⟩ (.string ((rd_T26 x5_2 x7_2).f1)))) := ⟨by repeat (first | (with_reducible first | exact HB.out | apply ba25 | apply bn25 | apply bd25 | refine bs25 ?_ GE200.out | refine bs25 ?_ GE206.out) | exact HB.out)⟩
             (try clear HO_5)
             (try clear BK200)
             (try clear BK206)
             (try clear HB)
             generalize ((w20.setCell ⟨gb206, 0, none⟩ (.string ((rd_T26 x5_2 x7_2).f0))).setCell ⟨gb206, 1, none⟩ (.string ((rd_T26 x5_2 x7_2).f1))) = w23 at n0_ n1_ n2_ n3_ ⊢
             have HO_5 := n0_
             have BK200 := n1_
             have BK206 := n2_
             have HB := n3_
             clear n0_ n1_ n2_ n3_
             replace HO_5 := Am25 (Rd25 HO_5.out)
             replace BK200 := Am25 (kd25 BK200.out)
             replace BK206 := Am25 (kd25 BK206.out)
             replace HB := Am25 (bd25 HB.out)
             have p207 : 0 ≤ (x6_1 : Int) := of_decide_eq_true (by first | (with_reducible assumption) | assumption)
             have q207 : x6_1 < (l1.length : Int) := of_decide_eq_true (by first | (with_reducible assumption) | assumption)
             obtain ⟨ad207, e207, hx207_0⟩ := Kd.at_string HR1.out x6_1 p207 q207
             have hw207_0 := hx207_0
             cases e207
             replace hx207_0 := (HB.out.cell (World.block_lt_of_cell? w _ hx207_0)).trans hx207_0
             replace p207 := eq_true p207
             replace q207 := eq_true q207
             have p209 : 0 ≤ (x6_1 : Int) := of_decide_eq_true (by first | (with_reducible assumption) | assumption)
             have q209 : x6_1 < (l1.length : Int) := of_decide_eq_true (by first | (with_reducible assumption) | assumption)
             obtain ⟨ad209, e209, hx209_0⟩ := Kd.at_string HR1.out x6_1 p209 q209
             have hw209_0 := hx209_0
             obtain rfl : ad207 = ad209 := (by injection e209)
             replace hx209_0 := (HB.out.cell (World.block_lt_of_cell? w _ hx209_0)).trans hx209_0
             replace p209 := eq_true p209
             replace q209 := eq_true q209
             refine start_ (n:=16) (S:=fun w' => w'.cell? ⟨gb206, 0, none⟩ = some (.string ((rd_T26 x5_2 x7_2).f0)) ∧ w'.cell? ⟨gb206, 1, none⟩ = some (.string ((rd_T26 x5_2 x7_2).f1)) ∧ w'.cell? (ad207.add (x6_1).toNat) = some (.string (rdOf ByteArray.empty l1 x6_1)) ∧ w'.cell? (ad207.add (x6_1).toNat) = some (.string (rdOf ByteArray.empty l1 x6_1))) (ds:=[]) (bb25 16 0) (by kernel_rfl) rfl rfl ⟨(kc25 BK206.out 0).trans rfl, (kc25 BK206.out 1).trans rfl, ((HB.out.cell (World.block_lt_of_cell? w _ hw207_0)).trans hw207_0), ((HB.out.cell (World.block_lt_of_cell? w _ hw209_0)).trans hw209_0)⟩ (fun hHeld => ?_); refine with_tabW watershedref04_Cut.tab11 watershedref04_Cut.bits11 (fun HT_ HW_ => ?_)
             generalize w23.drew = w24 at HO_5 BK200 BK206 HB hx207_0 hx209_0 hHeld ⊢
             refine pure_ (i:=1) (N:=some 32) (v:=?_) (a' := ?_) (bb25 16 2) rfl rfl (any_of HT_.out (by kernel_rfl)) (fun _ _ _ h => h) (Or.inl ⟨by rfl, ?_⟩) ?_ ?_
             rotate_left
             ·intro w'
              go_simp
              with_reducible rfl
             rotate_left
             ·simp only [Act.put, sa25, sz25, ss25, i64_w, i32_w]
              rfl
             refine pure_ (i:=2) (N:=some 33) (v:=?_) (a' := ?_) (bb25 16 6) rfl rfl (any_of HT_.out (by kernel_rfl)) (fun _ _ _ h => h) (Or.inl ⟨by rfl, ?_⟩) ?_ ?_
             rotate_left
             ·intro w'
              go_simp
              with_reducible rfl
             rotate_left
             ·simp only [Act.put, sa25, sz25, ss25, i64_w, i32_w]
              rfl
             refine pure_ (i:=3) (N:=some 34) (v:=?_) (a' := ?_) (bb25 16 14) rfl rfl (any_of HT_.out (by kernel_rfl)) (fun _ _ _ h => h) (Or.inl ⟨by rfl, ?_⟩) ?_ ?_
             rotate_left
             ·intro w'
              go_simp
              with_reducible rfl
             rotate_left
             ·simp only [Act.put, sa25, sz25, ss25, i64_w, i32_w]
              rfl
             refine take_ (i:=0) (N:=some 31) (v:=?_) (a' := ?_) (bb25 16 15) rfl rfl (take_ofW HT_.out HW_.out (by kernel_rfl)) (fun _ _ _ h => h) (Or.inl ⟨by rfl, ?_⟩) hHeld ?_ ?_
             rotate_left
             ·rintro w' ⟨s0, s1, s2, s3⟩
              go_simp
              with_reducible rfl
             rotate_left
             ·simp only [Act.put, sa25, sz25, ss25, i64_w, i32_w]
              rfl
             refine take_ (i:=4) (N:=some 35) (v:=?_) (a' := ?_) (bb25 16 31) rfl rfl (take_ofW HT_.out HW_.out (by kernel_rfl)) (fun _ _ _ h => h) (Or.inl ⟨by rfl, ?_⟩) hHeld ?_ ?_
             rotate_left
             ·rintro w' ⟨s0, s1, s2, s3⟩
              go_simp
              with_reducible rfl
             rotate_left
             ·simp only [Act.put, sa25, sz25, ss25, i64_w, i32_w]
              rfl
             refine one_ (i:=5) (N:=some 36) (bb25 16 63) rfl rfl (one_of HT_.out (by kernel_rfl)) (by decide) (fun K hK => ?_)
             refine goes_ Try.func21 (by kernel_rfl) rfl #[.agg #[.string ((rd_T26 x5_2 x7_2).f0), .string ((rd_T26 x5_2 x7_2).f1)], .string (rdOf ByteArray.empty l1 x6_1)] (by rfl) rfl rfl (by (try simp only [ma25, mc25, mn25]); first | done | rfl | (simp only [ld25, lt_25]; rfl)) ?_
             with_reducible refine (watershedref04_Has.calls k2 ((rd_T26 x5_2 x7_2).f0) ((rd_T26 x5_2 x7_2).f1) (rdOf ByteArray.empty l1 x6_1) true _ A16.out).mono ?_
             rintro e w25 ⟨rfl, hb⟩
             refine ⟨_, rfl, ?_⟩
             replace HO_5 := Am25 (Rb25 (by (with_reducible repeat first | apply Ra25 | apply Rn25 | apply Rd25); exact HO_5.out) hb)
             replace BK200 := Am25 (kb25 (g:=gb200) (o:=.cells #[.string a0_0, .string a0_1] 26 (0, 0)) (by (with_reducible repeat first | apply kn25 | apply kd25 | apply ka25); exact BK200.out) hb)
             replace BK206 := Am25 (kb25 (g:=gb206) (o:=.cells #[.string ((rd_T26 x5_2 x7_2).f0), .string ((rd_T26 x5_2 x7_2).f1)] 26 (0, 0)) (by (with_reducible repeat first | apply kn25 | apply kd25 | apply ka25); exact BK206.out) hb)
             replace HB := Am25 (bp25 (by repeat (first | (with_reducible first | exact HB.out | apply ba25 | apply bn25 | apply bd25 | refine bs25 ?_ GE200.out | refine bs25 ?_ GE206.out) | exact HB.out)) hb)
             (try clear hb)
             (try clear hb2)
             (try clear hk)
             (try clear hi)
             refine hK.out _ _ ⟨(kc25 BK206.out 0).trans rfl, (kc25 BK206.out 1).trans rfl, ((HB.out.cell (World.block_lt_of_cell? w _ hw207_0)).trans hw207_0), ((HB.out.cell (World.block_lt_of_cell? w _ hw209_0)).trans hw209_0)⟩ (fun hHeld => ?_)
             clear hK K
             refine norm_ (a' := ?_) ?_ ?_
             rotate_left
             ·show Act.put _ (some 36) _ = _
              simp only [Act.put, sa25, sz25, ss25, i64_w, i32_w]
              rfl
             refine pure_ (i:=6) (N:=some 37) (v:=?_) (a' := ?_) (bb25 16 127) rfl rfl (any_of HT_.out (by kernel_rfl)) (fun _ _ _ h => h) (Or.inl ⟨by rfl, ?_⟩) ?_ ?_
             rotate_left
             ·intro w'
              go_simp
              with_reducible rfl
             rotate_left
             ·simp only [Act.put, sa25, sz25, ss25, i64_w, i32_w]
              rfl
             refine pure_ (i:=7) (N:=some 38) (v:=?_) (a' := ?_) (bb25 16 255) rfl rfl (any_of HT_.out (by kernel_rfl)) (fun _ _ _ h => h) (Or.inl ⟨by rfl, ?_⟩) ?_ ?_
             rotate_left
             ·intro w'
              go_simp
              with_reducible rfl
             rotate_left
             ·simp only [Act.put, sa25, sz25, ss25, i64_w, i32_w]
              rfl
             refine pure_ (i:=8) (N:=some 39) (v:=?_) (a' := ?_) (bb25 16 511) rfl rfl (any_of HT_.out (by kernel_rfl)) (fun _ _ _ h => h) (Or.inl ⟨by rfl, ?_⟩) ?_ ?_
             rotate_left
             ·intro w'
              go_simp
              with_reducible rfl
             rotate_left
             ·simp only [Act.put, sa25, sz25, ss25, i64_w, i32_w]
              rfl
             refine pure_ (i:=9) (N:=some 40) (v:=?_) (a' := ?_) (bb25 16 1023) rfl rfl (any_of HT_.out (by kernel_rfl)) (fun _ _ _ h => h) (Or.inl ⟨by rfl, ?_⟩) ?_ ?_
             rotate_left
             ·intro w'
              go_simp
              with_reducible rfl
             rotate_left
             ·simp only [Act.put, sa25, sz25, ss25, i64_w, i32_w]
              rfl
             refine pure_ (i:=10) (N:=some 41) (v:=?_) (a' := ?_) (bb25 16 2047) rfl rfl (any_of HT_.out (by kernel_rfl)) (fun _ _ _ h => h) (Or.inl ⟨by rfl, ?_⟩) ?_ ?_
             rotate_left
             ·intro w'
              go_simp
              with_reducible rfl
             rotate_left
             ·simp only [Act.put, sa25, sz25, ss25, i64_w, i32_w]
              rfl
             refine pure_ (i:=12) (N:=some 43) (v:=?_) (a' := ?_) (bb25 16 6143) rfl rfl (any_of HT_.out (by kernel_rfl)) (fun _ _ _ h => h) (Or.inl ⟨by rfl, ?_⟩) ?_ ?_
             rotate_left
             ·intro w'
              go_simp
              with_reducible rfl
             rotate_left
             ·simp only [Act.put, sa25, sz25, ss25, i64_w, i32_w]
              rfl
             refine take_ (i:=11) (N:=some 42) (v:=?_) (a' := ?_) (bb25 16 8191) rfl rfl (take_ofW HT_.out HW_.out (by kernel_rfl)) (fun _ _ _ h => h) (Or.inl ⟨by rfl, ?_⟩) hHeld ?_ ?_
             rotate_left
             ·rintro w' ⟨s0, s1, s2, s3⟩
              go_simp
              with_reducible rfl
             rotate_left
             ·simp only [Act.put, sa25, sz25, ss25, i64_w, i32_w]
              rfl
             refine take_ (i:=13) (N:=some 44) (v:=?_) (a' := ?_) (bb25 16 16383) rfl rfl (take_ofW HT_.out HW_.out (by kernel_rfl)) (fun _ _ _ h => h) (Or.inl ⟨by rfl, ?_⟩) hHeld ?_ ?_
             rotate_left
             ·rintro w' ⟨s0, s1, s2, s3⟩
              go_simp
              with_reducible rfl
             rotate_left
             ·simp only [Act.put, sa25, sz25, ss25, i64_w, i32_w]
              rfl
             refine pure_ (i:=14) (N:=some 45) (v:=?_) (a' := ?_) (bb25 16 32767) rfl rfl (any_of HT_.out (by kernel_rfl)) (fun _ _ _ h => h) (Or.inl ⟨by rfl, ?_⟩) ?_ ?_
             rotate_left
             ·intro w'
              go_simp
              with_reducible rfl
             rotate_left
             ·simp only [Act.put, sa25, sz25, ss25, i64_w, i32_w]
              rfl
             refine pure_ (i:=15) (N:=some 46) (v:=?_) (a' := ?_) (bb25 16 65535) rfl rfl (any_of HT_.out (by kernel_rfl)) (fun _ _ _ h => h) (Or.inl ⟨by rfl, ?_⟩) ?_ ?_
             rotate_left
             ·intro w'
              go_simp
              with_reducible rfl
             rotate_left
             ·simp only [Act.put, sa25, sz25, ss25, i64_w, i32_w]
              rfl
             refine done_ (done_of HT_.out (by kernel_rfl)) ?_
             try go_wp2
             go_roundg k2
             case measure => have := HK1.out; have := HK2.out; omega
             case rel => exact ⟨(x5_2), (wrap64 (x7_2 + 1)), (by first | rfl | (simp; done) | (simp [*]; done)), H', ⟨by have := HK1.out; have := HK2.out; omega⟩, ⟨by (with_reducible repeat first | apply Ra25 | apply Rn25 | apply Rd25); exact Ro25 HO_5.out (fun _ hk => hk.1)⟩, ⟨by (with_reducible repeat first | apply kn25 | apply kd25 | apply ka25); exact BK200.out⟩, ⟨by repeat (first | (with_reducible first | exact HB.out | apply ba25 | apply bn25 | apply bd25 | refine bs25 ?_ GE200.out | refine bs25 ?_ GE206.out) | exact HB.out)⟩⟩
            ·rw [if_neg c18] at H
             have c18b0 : ((rdOf ByteArray.empty l1 x6_1).toList == ((rd_T26 x5_2 x7_2).f0).toList) = false := beq_eq_false_iff_ne.mpr c18
             have c18b1 : ((rdOf ByteArray.empty l1 x6_1).toList != ((rd_T26 x5_2 x7_2).f0).toList) = true := bne_iff_ne.mpr c18
             obtain ⟨y210, hy210⟩ : ∃ y_ : List (S26), y_ = (([] : List (S26))) := ⟨_, rfl⟩
             replace H : (if 0 ≤ (wrap64 (x7_2 + 1)) then (if (wrap64 (x7_2 + 1)) ≤ (x5_2.length : Int) then ((some (x5_2.drop ((wrap64 (x7_2 + 1)) : Int).toNat : List (S26))).bind fun y213 => (if y210.length + y213.length < 4398046511104 then ((some (y210 ++ y213 : List (S26))).bind fun y217 => (if x7_2 ≤ (x5_2.length : Int) then ((some (x5_2.take (x7_2 : Int).toNat : List (S26))).bind fun y220 => ((some (([(⟨(rd_T26 x5_2 x7_2).f0, rdOf ByteArray.empty l1 x6_1⟩ : S26), (⟨rdOf ByteArray.empty l1 x6_1, (rd_T26 x5_2 x7_2).f1⟩ : S26)] : List (S26)) : List (S26))).bind fun y225 => (if y220.length + y225.length < 4398046511104 then ((some (y220 ++ y225 : List (S26))).bind fun y228 => (if y228.length + y217.length < 4398046511104 then (watershedref04_Cut.l0 k2 l1 (y228 ++ y217) (wrap64 (x6_1 + 1))) else (none))) else (none)))) else (none))) else (none))) else (none)) else (none)) = some r := by first | (rw [hy210]; with_reducible exact H) | (have H2_ := (Option.bind_some _ _).symm.trans H; rw [hy210]; with_reducible exact H2_) | (have H2_ := (Option.bind_some _ _).symm.trans H; with_reducible exact H2_) | with_reducible exact H | (rw [hy210]; exact H) | exact H
             have Ny210 := Am25 hy210
             clear hy210
             obtain ⟨ji26, hji26⟩ : ∃ j_ : Int, (wrap64 (x7_2 + 1)) = j_ := ⟨_, rfl⟩
             replace H : (if 0 ≤ (ji26) then (if (ji26) ≤ (x5_2.length : Int) then ((some (x5_2.drop ((ji26) : Int).toNat : List (S26))).bind fun y213 => (if y210.length + y213.length < 4398046511104 then ((some (y210 ++ y213 : List (S26))).bind fun y217 => (if x7_2 ≤ (x5_2.length : Int) then ((some (x5_2.take (x7_2 : Int).toNat : List (S26))).bind fun y220 => ((some (([(⟨(rd_T26 x5_2 x7_2).f0, rdOf ByteArray.empty l1 x6_1⟩ : S26), (⟨rdOf ByteArray.empty l1 x6_1, (rd_T26 x5_2 x7_2).f1⟩ : S26)] : List (S26)) : List (S26))).bind fun y225 => (if y220.length + y225.length < 4398046511104 then ((some (y220 ++ y225 : List (S26))).bind fun y228 => (if y228.length + y217.length < 4398046511104 then (watershedref04_Cut.l0 k2 l1 (y228 ++ y217) (wrap64 (x6_1 + 1))) else (none))) else (none)))) else (none))) else (none))) else (none)) else (none)) = some r := by first | (rw [hji26] at H; exact H) | (simp only [hji26] at H ⊢; exact H)
             (try rw [hji26] at A16)
             have hji26w : (IntKind.i64.wrap (x7_2 + 1)) = ji26 := (i64_w _).trans hji26
             by_cases c27 : 0 ≤ (ji26)
             ·rw [if_pos c27] at H
              have c27b0 := eq_true c27
              have c27b1 : decide (0 ≤ (ji26)) = true := decide_eq_true c27
              clear c27
              by_cases c28 : (ji26) ≤ (x5_2.length : Int)
              ·rw [if_pos c28] at H
               have c28b0 := eq_true c28
               have c28b1 : decide ((ji26) ≤ (x5_2.length : Int)) = true := decide_eq_true c28
               clear c28
               obtain ⟨y213, hy213⟩ : ∃ y_ : List (S26), y_ = (x5_2.drop ((ji26) : Int).toNat) := ⟨_, rfl⟩
               replace H : (if y210.length + y213.length < 4398046511104 then ((some (y210 ++ y213 : List (S26))).bind fun y217 => (if x7_2 ≤ (x5_2.length : Int) then ((some (x5_2.take (x7_2 : Int).toNat : List (S26))).bind fun y220 => ((some (([(⟨(rd_T26 x5_2 x7_2).f0, rdOf ByteArray.empty l1 x6_1⟩ : S26), (⟨rdOf ByteArray.empty l1 x6_1, (rd_T26 x5_2 x7_2).f1⟩ : S26)] : List (S26)) : List (S26))).bind fun y225 => (if y220.length + y225.length < 4398046511104 then ((some (y220 ++ y225 : List (S26))).bind fun y228 => (if y228.length + y217.length < 4398046511104 then (watershedref04_Cut.l0 k2 l1 (y228 ++ y217) (wrap64 (x6_1 + 1))) else (none))) else (none)))) else (none))) else (none)) = some r := by first | (rw [hy213]; with_reducible exact H) | (have H2_ := (Option.bind_some _ _).symm.trans H; rw [hy213]; with_reducible exact H2_) | (have H2_ := (Option.bind_some _ _).symm.trans H; with_reducible exact H2_) | with_reducible exact H | (rw [hy213]; exact H) | exact H
               have Ny213 := Am25 hy213
               clear hy213
               by_cases c29 : y210.length + y213.length < 4398046511104
               ·rw [if_pos c29] at H
                have LMc29 := Am25 c29
                clear c29
                obtain ⟨y217, hy217⟩ : ∃ y_ : List (S26), y_ = (y210 ++ y213) := ⟨_, rfl⟩
                replace H : (if x7_2 ≤ (x5_2.length : Int) then ((some (x5_2.take (x7_2 : Int).toNat : List (S26))).bind fun y220 => ((some (([(⟨(rd_T26 x5_2 x7_2).f0, rdOf ByteArray.empty l1 x6_1⟩ : S26), (⟨rdOf ByteArray.empty l1 x6_1, (rd_T26 x5_2 x7_2).f1⟩ : S26)] : List (S26)) : List (S26))).bind fun y225 => (if y220.length + y225.length < 4398046511104 then ((some (y220 ++ y225 : List (S26))).bind fun y228 => (if y228.length + y217.length < 4398046511104 then (watershedref04_Cut.l0 k2 l1 (y228 ++ y217) (wrap64 (x6_1 + 1))) else (none))) else (none)))) else (none)) = some r := by first | (rw [hy217]; with_reducible exact H) | (have H2_ := (Option.bind_some _ _).symm.trans H; rw [hy217]; with_reducible exact H2_) | (have H2_ := (Option.bind_some _ _).symm.trans H; with_reducible exact H2_) | with_reducible exact H | (rw [hy217]; exact H) | exact H
                have Ny217 := Am25 hy217
                clear hy217
                by_cases c30 : x7_2 ≤ (x5_2.length : Int)
                ·rw [if_pos c30] at H
                 have c30b0 := eq_true c30
                 have c30b1 : decide (x7_2 ≤ (x5_2.length : Int)) = true := decide_eq_true c30
                 clear c30
                 obtain ⟨y220, hy220⟩ : ∃ y_ : List (S26), y_ = (x5_2.take (x7_2 : Int).toNat) := ⟨_, rfl⟩
                 replace H : ((some (([(⟨(rd_T26 x5_2 x7_2).f0, rdOf ByteArray.empty l1 x6_1⟩ : S26), (⟨rdOf ByteArray.empty l1 x6_1, (rd_T26 x5_2 x7_2).f1⟩ : S26)] : List (S26)) : List (S26))).bind fun y225 => (if y220.length + y225.length < 4398046511104 then ((some (y220 ++ y225 : List (S26))).bind fun y228 => (if y228.length + y217.length < 4398046511104 then (watershedref04_Cut.l0 k2 l1 (y228 ++ y217) (wrap64 (x6_1 + 1))) else (none))) else (none))) = some r := by first | (rw [hy220]; with_reducible exact H) | (have H2_ := (Option.bind_some _ _).symm.trans H; rw [hy220]; with_reducible exact H2_) | (have H2_ := (Option.bind_some _ _).symm.trans H; with_reducible exact H2_) | with_reducible exact H | (rw [hy220]; exact H) | exact H
                 have Ny220 := Am25 hy220
                 clear hy220
                 obtain ⟨y225, hy225⟩ : ∃ y_ : List (S26), y_ = (([(⟨(rd_T26 x5_2 x7_2).f0, rdOf ByteArray.empty l1 x6_1⟩ : S26), (⟨rdOf ByteArray.empty l1 x6_1, (rd_T26 x5_2 x7_2).f1⟩ : S26)] : List (S26))) := ⟨_, rfl⟩
                 replace H : (if y220.length + y225.length < 4398046511104 then ((some (y220 ++ y225 : List (S26))).bind fun y228 => (if y228.length + y217.length < 4398046511104 then (watershedref04_Cut.l0 k2 l1 (y228 ++ y217) (wrap64 (x6_1 + 1))) else (none))) else (none)) = some r := by first | (rw [hy225]; with_reducible exact H) | (have H2_ := (Option.bind_some _ _).symm.trans H; rw [hy225]; with_reducible exact H2_) | (have H2_ := (Option.bind_some _ _).symm.trans H; with_reducible exact H2_) | with_reducible exact H | (rw [hy225]; exact H) | exact H
                 have Ny225 := Am25 hy225
                 clear hy225
                 by_cases c31 : y220.length + y225.length < 4398046511104
                 ·rw [if_pos c31] at H
                  have LMc31 := Am25 c31
                  clear c31
                  obtain ⟨y228, hy228⟩ : ∃ y_ : List (S26), y_ = (y220 ++ y225) := ⟨_, rfl⟩
                  replace H : (if y228.length + y217.length < 4398046511104 then (watershedref04_Cut.l0 k2 l1 (y228 ++ y217) (wrap64 (x6_1 + 1))) else (none)) = some r := by first | (rw [hy228]; with_reducible exact H) | (have H2_ := (Option.bind_some _ _).symm.trans H; rw [hy228]; with_reducible exact H2_) | (have H2_ := (Option.bind_some _ _).symm.trans H; with_reducible exact H2_) | with_reducible exact H | (rw [hy228]; exact H) | exact H
                  have Ny228 := Am25 hy228
                  clear hy228
                  by_cases c32 : y228.length + y217.length < 4398046511104
                  ·rw [if_pos c32] at H
                   have LMc32 := Am25 c32
                   clear c32
                   obtain ⟨y231, hy231⟩ : ∃ y_ : List (S26), y_ = (y228 ++ y217) := ⟨_, rfl⟩
                   replace H : (watershedref04_Cut.l0 k2 l1 y231 (wrap64 (x6_1 + 1))) = some r := by first | (rw [hy231]; with_reducible exact H) | (have H2_ := (Option.bind_some _ _).symm.trans H; rw [hy231]; with_reducible exact H2_) | (have H2_ := (Option.bind_some _ _).symm.trans H; with_reducible exact H2_) | with_reducible exact H | (rw [hy231]; exact H) | exact H
                   have Ny231 := Am25 hy231
                   clear hy231
                   have H' := Am25 H
                   clear H
                   obtain ⟨Ao33, co33, eo33⟩ := Kd.R_slice HO_5.out
                   subst eo33
                   have p205 : 0 ≤ (x7_2 : Int) := of_decide_eq_true (by first | (with_reducible assumption) | assumption)
                   have q205 : x7_2 < (x5_2.length : Int) := of_decide_eq_true (by first | (with_reducible assumption) | assumption)
                   obtain ⟨ad205, e205, hx205_0, hx205_1⟩ := at_T26 (Kd.R_reads' HO_5.out).2.2 x7_2 p205 q205
                   cases e205
                   replace p205 := eq_true p205
                   replace q205 := eq_true q205
                   try go_wp2_with (first | ((with_reducible refine gate_dst (N:=8) rfl ?_); refine box_event ?hg (N:=8) ?hd (cs:=#[.string (⟨#[]⟩ : ByteArray), .string (⟨#[]⟩ : ByteArray)]) (t:=26) ?hr ?_; (case hd => rfl); (case hg => rfl); (case hr => first | (go_simp; done) | (go_simp; rfl)); intro gb206 hg w34 hbox hb; replace HO_5 := Am25 (Rb25 (Kd.R_elderB (by (with_reducible repeat first | apply Ra25 | apply Rn25 | apply Rd25); exact HO_5.out) gb206 (Nat.le_of_eq hg.symm)) hb); have BK206 := Am25 (hbox); have GW206 := Am25 ((by rw [hg]; exact (bz25 (by repeat (first | (with_reducible first | exact HB.out | apply ba25 | apply bn25 | apply bd25 | refine bs25 ?_ GE200.out) | exact HB.out))) : w.heap.size ≤ gb206)); have GE206 := Am25 ((by rw [hg]; exact (bz25 (by repeat (first | (with_reducible first | exact HB.out | apply ba25 | apply bn25 | apply bd25 | refine bs25 ?_ GE200.out) | exact HB.out))) : w.heap.size ≤ gb206)); replace HB := Am25 (bp25 (by repeat (first | (with_reducible first | exact HB.out | apply ba25 | apply bn25 | apply bd25 | refine bs25 ?_ GE200.out) | exact HB.out)) hb); have NB200_206 := Am25 ((by rw [hg]; exact Nat.ne_of_lt (blk_lt (g:=gb200) (o:=.cells #[.string a0_0, .string a0_1] 26 (0, 0)) (by (with_reducible repeat first | apply kn25 | apply kd25 | apply ka25); exact BK200.out)) : gb200 ≠ gb206)); have NB206_200 := Am25 ((by rw [hg]; exact Nat.ne_of_gt (blk_lt (g:=gb200) (o:=.cells #[.string a0_0, .string a0_1] 26 (0, 0)) (by (with_reducible repeat first | apply kn25 | apply kd25 | apply ka25); exact BK200.out)) : gb206 ≠ gb200)); replace BK200 := Am25 (kb25 (g:=gb200) (o:=.cells #[.string a0_0, .string a0_1] 26 (0, 0)) (by (with_reducible repeat first | apply kn25 | apply kd25 | apply ka25); exact BK200.out) hb); clear hb hbox hg; have hnb35 := NB206_200.out; have hnc35 := NB200_206.out; have hcz36_0 : w34.cell? ⟨gb206, 0, none⟩ = some (.string (⟨#[]⟩ : ByteArray)) := (kc25 BK206.out 0).trans rfl; have hcz36_1 : w34.cell? ⟨gb206, 1, none⟩ = some (.string (⟨#[]⟩ : ByteArray)) := (kc25 BK206.out 1).trans rfl; have hfz36_0 := kz25 BK206.out 0; have hfz36_1 := kz25 BK206.out 1))
                   have n0_ : Aside0 (Kd.R k26 26 ((w34.setCell ⟨gb206, 0, none⟩ (.string ((rd_T26 x5_2 x7_2).f0))).setCell ⟨gb206, 1, none⟩ (.string ((rd_T26 x5_2 x7_2).f1))) w.heap.size (fun k_ => k_ ≠ gb200 ∧ k_ ≠ gb206) (.slice (some ad205) x5_2.length co33) x5_2) := ⟨by (with_reducible repeat first | apply Ra25 | apply Rn25 | apply Rd25); exact Ro25 (Rf25 (p:=⟨gb206, 1, none⟩) (Rf25 (p:=⟨gb206, 0, none⟩) (Ro25 HO_5.out (fun k_ hk => (⟨hk, hk.2⟩ : _ ∧ k_ ≠ gb206))) (fun _ h=>h.2) (.string ((rd_T26 x5_2 x7_2).f0))) (fun _ h=>h.2) (.string ((rd_T26 x5_2 x7_2).f1))) (fun _ hk => ⟨hk.1.1, hk.1.2⟩)⟩
                   have n1_ : Aside0 (((w34.setCell ⟨gb206, 0, none⟩ (.string ((rd_T26 x5_2 x7_2).f0))).setCell ⟨gb206, 1, none⟩ (.string ((rd_T26 x5_2 x7_2).f1))).heap[gb200]? = some (.cells #[.string a0_0, .string a0_1] 26 (0, 0))) := ⟨by (with_reducible repeat first | apply kn25 | apply kd25 | apply ka25); refine kf25 ?_ NB200_206.out _; (with_reducible repeat first | apply kn25 | apply kd25 | apply ka25); refine kf25 ?_ NB200_206.out _; (with_reducible repeat first | apply kn25 | apply kd25 | apply ka25); exact BK200.out⟩
                   have n2_ : Aside0 (((w34.setCell ⟨gb206, 0, none⟩ (.string ((rd_T26 x5_2 x7_2).f0))).setCell ⟨gb206, 1, none⟩ (.string ((rd_T26 x5_2 x7_2).f1))).heap[gb206]? = some (.cells #[.string ((rd_T26 x5_2 x7_2).f0), .string ((rd_T26 x5_2 x7_2).f1)] 26 (0, 0))) := ⟨by (with_reducible repeat first | apply kn25 | apply kd25 | apply ka25); refine blk_put (cs:=#[.string ((rd_T26 x5_2 x7_2).f0), .string (⟨#[]⟩ : ByteArray)]) ?_ 1 _ rfl; (with_reducible repeat first | apply kn25 | apply kd25 | apply ka25); refine blk_put (cs:=#[.string (⟨#[]⟩ : ByteArray), .string (⟨#[]⟩ : ByteArray)]) ?_ 0 _ rfl; (with_reducible repeat first | apply kn25 | apply kd25 | apply ka25); exact BK206.out⟩
                   have n3_ : Aside0 (Below w.heap.size w ((w34.setCell ⟨gb206, 0, none⟩ (.string ((rd_T26 x5_2 x7_2).f0))).setCell ⟨gb206, 1, none⟩ (.string ((rd_T26 x5_2 x7_2).f1)))) := ⟨by repeat (first | (with_reducible first | exact HB.out | apply ba25 | apply bn25 | apply bd25 | refine bs25 ?_ GE200.out | refine bs25 ?_ GE206.out) | exact HB.out)⟩
                   (try clear HO_5)
                   (try clear BK200)
                   (try clear BK206)
                   (try clear HB)
                   generalize ((w34.setCell ⟨gb206, 0, none⟩ (.string ((rd_T26 x5_2 x7_2).f0))).setCell ⟨gb206, 1, none⟩ (.string ((rd_T26 x5_2 x7_2).f1))) = w37 at n0_ n1_ n2_ n3_ ⊢
                   have HO_5 := n0_
                   have BK200 := n1_
                   have BK206 := n2_
                   have HB := n3_
                   clear n0_ n1_ n2_ n3_
                   replace HO_5 := Am25 (Rd25 HO_5.out)
                   replace BK200 := Am25 (kd25 BK200.out)
                   replace BK206 := Am25 (kd25 BK206.out)
                   replace HB := Am25 (bd25 HB.out)
                   have p207 : 0 ≤ (x6_1 : Int) := of_decide_eq_true (by first | (with_reducible assumption) | assumption)
                   have q207 : x6_1 < (l1.length : Int) := of_decide_eq_true (by first | (with_reducible assumption) | assumption)
                   obtain ⟨ad207, e207, hx207_0⟩ := Kd.at_string HR1.out x6_1 p207 q207
                   have hw207_0 := hx207_0
                   cases e207
                   replace hx207_0 := (HB.out.cell (World.block_lt_of_cell? w _ hx207_0)).trans hx207_0
                   replace p207 := eq_true p207
                   replace q207 := eq_true q207
                   have p209 : 0 ≤ (x6_1 : Int) := of_decide_eq_true (by first | (with_reducible assumption) | assumption)
                   have q209 : x6_1 < (l1.length : Int) := of_decide_eq_true (by first | (with_reducible assumption) | assumption)
                   obtain ⟨ad209, e209, hx209_0⟩ := Kd.at_string HR1.out x6_1 p209 q209
                   have hw209_0 := hx209_0
                   obtain rfl : ad207 = ad209 := (by injection e209)
                   replace hx209_0 := (HB.out.cell (World.block_lt_of_cell? w _ hx209_0)).trans hx209_0
                   replace p209 := eq_true p209
                   replace q209 := eq_true q209
                   refine start_ (n:=16) (S:=fun w' => w'.cell? ⟨gb206, 0, none⟩ = some (.string ((rd_T26 x5_2 x7_2).f0)) ∧ w'.cell? ⟨gb206, 1, none⟩ = some (.string ((rd_T26 x5_2 x7_2).f1)) ∧ w'.cell? (ad207.add (x6_1).toNat) = some (.string (rdOf ByteArray.empty l1 x6_1)) ∧ w'.cell? (ad207.add (x6_1).toNat) = some (.string (rdOf ByteArray.empty l1 x6_1))) (ds:=[]) (bb25 16 0) (by kernel_rfl) rfl rfl ⟨(kc25 BK206.out 0).trans rfl, (kc25 BK206.out 1).trans rfl, ((HB.out.cell (World.block_lt_of_cell? w _ hw207_0)).trans hw207_0), ((HB.out.cell (World.block_lt_of_cell? w _ hw209_0)).trans hw209_0)⟩ (fun hHeld => ?_); refine with_tabW watershedref04_Cut.tab11 watershedref04_Cut.bits11 (fun HT_ HW_ => ?_)
                   generalize w37.drew = w38 at HO_5 BK200 BK206 HB hx207_0 hx209_0 hHeld ⊢
                   refine pure_ (i:=1) (N:=some 32) (v:=?_) (a' := ?_) (bb25 16 2) rfl rfl (any_of HT_.out (by kernel_rfl)) (fun _ _ _ h => h) (Or.inl ⟨by rfl, ?_⟩) ?_ ?_
                   rotate_left
                   ·intro w'
                    go_simp
                    with_reducible rfl
                   rotate_left
                   ·simp only [Act.put, sa25, sz25, ss25, i64_w, i32_w]
                    rfl
                   refine pure_ (i:=2) (N:=some 33) (v:=?_) (a' := ?_) (bb25 16 6) rfl rfl (any_of HT_.out (by kernel_rfl)) (fun _ _ _ h => h) (Or.inl ⟨by rfl, ?_⟩) ?_ ?_
                   rotate_left
                   ·intro w'
                    go_simp
                    with_reducible rfl
                   rotate_left
                   ·simp only [Act.put, sa25, sz25, ss25, i64_w, i32_w]
                    rfl
                   refine pure_ (i:=3) (N:=some 34) (v:=?_) (a' := ?_) (bb25 16 14) rfl rfl (any_of HT_.out (by kernel_rfl)) (fun _ _ _ h => h) (Or.inl ⟨by rfl, ?_⟩) ?_ ?_
                   rotate_left
                   ·intro w'
                    go_simp
                    with_reducible rfl
                   rotate_left
                   ·simp only [Act.put, sa25, sz25, ss25, i64_w, i32_w]
                    rfl
                   refine take_ (i:=0) (N:=some 31) (v:=?_) (a' := ?_) (bb25 16 15) rfl rfl (take_ofW HT_.out HW_.out (by kernel_rfl)) (fun _ _ _ h => h) (Or.inl ⟨by rfl, ?_⟩) hHeld ?_ ?_
                   rotate_left
                   ·rintro w' ⟨s0, s1, s2, s3⟩
                    go_simp
                    with_reducible rfl
                   rotate_left
                   ·simp only [Act.put, sa25, sz25, ss25, i64_w, i32_w]
                    rfl
                   refine take_ (i:=4) (N:=some 35) (v:=?_) (a' := ?_) (bb25 16 31) rfl rfl (take_ofW HT_.out HW_.out (by kernel_rfl)) (fun _ _ _ h => h) (Or.inl ⟨by rfl, ?_⟩) hHeld ?_ ?_
                   rotate_left
                   ·rintro w' ⟨s0, s1, s2, s3⟩
                    go_simp
                    with_reducible rfl
                   rotate_left
                   ·simp only [Act.put, sa25, sz25, ss25, i64_w, i32_w]
                    rfl
                   refine one_ (i:=5) (N:=some 36) (bb25 16 63) rfl rfl (one_of HT_.out (by kernel_rfl)) (by decide) (fun K hK => ?_)
                   refine goes_ Try.func21 (by kernel_rfl) rfl #[.agg #[.string ((rd_T26 x5_2 x7_2).f0), .string ((rd_T26 x5_2 x7_2).f1)], .string (rdOf ByteArray.empty l1 x6_1)] (by rfl) rfl rfl (by (try simp only [ma25, mc25, mn25]); first | done | rfl | (simp only [ld25, lt_25]; rfl)) ?_
                   with_reducible refine (watershedref04_Has.calls k2 ((rd_T26 x5_2 x7_2).f0) ((rd_T26 x5_2 x7_2).f1) (rdOf ByteArray.empty l1 x6_1) true _ A16.out).mono ?_
                   rintro e w39 ⟨rfl, hb⟩
                   refine ⟨_, rfl, ?_⟩
                   replace HO_5 := Am25 (Rb25 (by (with_reducible repeat first | apply Ra25 | apply Rn25 | apply Rd25); exact HO_5.out) hb)
                   replace BK200 := Am25 (kb25 (g:=gb200) (o:=.cells #[.string a0_0, .string a0_1] 26 (0, 0)) (by (with_reducible repeat first | apply kn25 | apply kd25 | apply ka25); exact BK200.out) hb)
                   replace BK206 := Am25 (kb25 (g:=gb206) (o:=.cells #[.string ((rd_T26 x5_2 x7_2).f0), .string ((rd_T26 x5_2 x7_2).f1)] 26 (0, 0)) (by (with_reducible repeat first | apply kn25 | apply kd25 | apply ka25); exact BK206.out) hb)
                   replace HB := Am25 (bp25 (by repeat (first | (with_reducible first | exact HB.out | apply ba25 | apply bn25 | apply bd25 | refine bs25 ?_ GE200.out | refine bs25 ?_ GE206.out) | exact HB.out)) hb)
                   (try clear hb)
                   (try clear hb2)
                   (try clear hk)
                   (try clear hi)
                   refine hK.out _ _ ⟨(kc25 BK206.out 0).trans rfl, (kc25 BK206.out 1).trans rfl, ((HB.out.cell (World.block_lt_of_cell? w _ hw207_0)).trans hw207_0), ((HB.out.cell (World.block_lt_of_cell? w _ hw209_0)).trans hw209_0)⟩ (fun hHeld => ?_)
                   clear hK K
                   refine norm_ (a' := ?_) ?_ ?_
                   rotate_left
                   ·show Act.put _ (some 36) _ = _
                    simp only [Act.put, sa25, sz25, ss25, i64_w, i32_w]
                    rfl
                   refine pure_ (i:=6) (N:=some 37) (v:=?_) (a' := ?_) (bb25 16 127) rfl rfl (any_of HT_.out (by kernel_rfl)) (fun _ _ _ h => h) (Or.inl ⟨by rfl, ?_⟩) ?_ ?_
                   rotate_left
                   ·intro w'
                    go_simp
                    with_reducible rfl
                   rotate_left
                   ·simp only [Act.put, sa25, sz25, ss25, i64_w, i32_w]
                    rfl
                   refine pure_ (i:=7) (N:=some 38) (v:=?_) (a' := ?_) (bb25 16 255) rfl rfl (any_of HT_.out (by kernel_rfl)) (fun _ _ _ h => h) (Or.inl ⟨by rfl, ?_⟩) ?_ ?_
                   rotate_left
                   ·intro w'
                    go_simp
                    with_reducible rfl
                   rotate_left
                   ·simp only [Act.put, sa25, sz25, ss25, i64_w, i32_w]
                    rfl
                   refine pure_ (i:=8) (N:=some 39) (v:=?_) (a' := ?_) (bb25 16 511) rfl rfl (any_of HT_.out (by kernel_rfl)) (fun _ _ _ h => h) (Or.inl ⟨by rfl, ?_⟩) ?_ ?_
                   rotate_left
                   ·intro w'
                    go_simp
                    with_reducible rfl
                   rotate_left
                   ·simp only [Act.put, sa25, sz25, ss25, i64_w, i32_w]
                    rfl
                   refine pure_ (i:=9) (N:=some 40) (v:=?_) (a' := ?_) (bb25 16 1023) rfl rfl (any_of HT_.out (by kernel_rfl)) (fun _ _ _ h => h) (Or.inl ⟨by rfl, ?_⟩) ?_ ?_
                   rotate_left
                   ·intro w'
                    go_simp
                    with_reducible rfl
                   rotate_left
                   ·simp only [Act.put, sa25, sz25, ss25, i64_w, i32_w]
                    rfl
                   refine pure_ (i:=10) (N:=some 41) (v:=?_) (a' := ?_) (bb25 16 2047) rfl rfl (any_of HT_.out (by kernel_rfl)) (fun _ _ _ h => h) (Or.inl ⟨by rfl, ?_⟩) ?_ ?_
                   rotate_left
                   ·intro w'
                    go_simp
                    with_reducible rfl
                   rotate_left
                   ·simp only [Act.put, sa25, sz25, ss25, i64_w, i32_w]
                    rfl
                   refine pure_ (i:=12) (N:=some 43) (v:=?_) (a' := ?_) (bb25 16 6143) rfl rfl (any_of HT_.out (by kernel_rfl)) (fun _ _ _ h => h) (Or.inl ⟨by rfl, ?_⟩) ?_ ?_
                   rotate_left
                   ·intro w'
                    go_simp
                    with_reducible rfl
                   rotate_left
                   ·simp only [Act.put, sa25, sz25, ss25, i64_w, i32_w]
                    rfl
                   refine take_ (i:=11) (N:=some 42) (v:=?_) (a' := ?_) (bb25 16 8191) rfl rfl (take_ofW HT_.out HW_.out (by kernel_rfl)) (fun _ _ _ h => h) (Or.inl ⟨by rfl, ?_⟩) hHeld ?_ ?_
                   rotate_left
                   ·rintro w' ⟨s0, s1, s2, s3⟩
                    go_simp
                    with_reducible rfl
                   rotate_left
                   ·simp only [Act.put, sa25, sz25, ss25, i64_w, i32_w]
                    rfl
                   refine take_ (i:=13) (N:=some 44) (v:=?_) (a' := ?_) (bb25 16 16383) rfl rfl (take_ofW HT_.out HW_.out (by kernel_rfl)) (fun _ _ _ h => h) (Or.inl ⟨by rfl, ?_⟩) hHeld ?_ ?_
                   rotate_left
                   ·rintro w' ⟨s0, s1, s2, s3⟩
                    go_simp
                    with_reducible rfl
                   rotate_left
                   ·simp only [Act.put, sa25, sz25, ss25, i64_w, i32_w]
                    rfl
                   refine pure_ (i:=14) (N:=some 45) (v:=?_) (a' := ?_) (bb25 16 32767) rfl rfl (any_of HT_.out (by kernel_rfl)) (fun _ _ _ h => h) (Or.inl ⟨by rfl, ?_⟩) ?_ ?_
                   rotate_left
                   ·intro w'
                    go_simp
                    with_reducible rfl
                   rotate_left
                   ·simp only [Act.put, sa25, sz25, ss25, i64_w, i32_w]
                    rfl
                   refine pure_ (i:=15) (N:=some 46) (v:=?_) (a' := ?_) (bb25 16 65535) rfl rfl (any_of HT_.out (by kernel_rfl)) (fun _ _ _ h => h) (Or.inl ⟨by rfl, ?_⟩) ?_ ?_
                   rotate_left
                   ·intro w'
                    go_simp
                    with_reducible rfl
                   rotate_left
                   ·simp only [Act.put, sa25, sz25, ss25, i64_w, i32_w]
                    rfl
                   refine done_ (done_of HT_.out (by kernel_rfl)) ?_
                   try go_wp2_with (first | ((with_reducible refine gate_dst (N:=47) rfl ?_); refine Kd.R_lit k26 _ 26 ?hg (N:=47) ?hd (xs:=([] : List (S26))) (inner:=[]) (ok:=fun _ => True) (okp:=fun _ => True) ?hr ?hp (fun _ hk => hk) trivial (Below.refl _ _) (Nat.le_refl _) (by simp) ?_; (case hd => rfl); (case hg => rfl); (case hr => first | (go_simp; done) | (go_simp; rfl)); (case hp => exact (Reps.none _ _)); intro v211 w40 ho41 hb hg_ hnew_; clear hg_ hnew_; (first | rw [← Ny210.out] at ho41 | (simp only [Int.reduceToNat] at ho41; rw [← Ny210.out] at ho41)); have HO212 := Am25 (Rl25 (Kd.R_newB (Kd.R_newB (Rw25 ho41 (Rt25 (by (with_reducible repeat first | apply Ra25 | apply Rn25 | apply Rd25); exact HO_5.out))) (g:=gb200) (o:=.cells #[.string a0_0, .string a0_1] 26 (0, 0)) (by (with_reducible repeat first | apply kn25 | apply kd25 | apply ka25); exact BK200.out)) (g:=gb206) (o:=.cells #[.string ((rd_T26 x5_2 x7_2).f0), .string ((rd_T26 x5_2 x7_2).f1)] 26 (0, 0)) (by (with_reducible repeat first | apply kn25 | apply kd25 | apply ka25); exact BK206.out)) (bz25 (by repeat (first | (with_reducible first | exact HB.out | apply ba25 | apply bn25 | apply bd25 | refine bs25 ?_ GE200.out | refine bs25 ?_ GE206.out) | exact HB.out)))); replace HO_5 := Am25 (Re25 (by (with_reducible repeat first | apply Ra25 | apply Rn25 | apply Rd25); exact HO_5.out) (Ra_25 ho41) hb); replace BK200 := Am25 (kb25 (g:=gb200) (o:=.cells #[.string a0_0, .string a0_1] 26 (0, 0)) (by (with_reducible repeat first | apply kn25 | apply kd25 | apply ka25); exact BK200.out) hb); replace BK206 := Am25 (kb25 (g:=gb206) (o:=.cells #[.string ((rd_T26 x5_2 x7_2).f0), .string ((rd_T26 x5_2 x7_2).f1)] 26 (0, 0)) (by (with_reducible repeat first | apply kn25 | apply kd25 | apply ka25); exact BK206.out) hb); replace HB := Am25 (bp25 (by repeat (first | (with_reducible first | exact HB.out | apply ba25 | apply bn25 | apply bd25 | refine bs25 ?_ GE200.out | refine bs25 ?_ GE206.out) | exact HB.out)) hb); clear hb ho41; have q42 : ((ji26) : Int) ≤ ((x5_2.length : Int) : Int) := of_decide_eq_true (by first | (with_reducible assumption) | assumption); obtain ⟨i042, hi042, _, hsz42, _⟩ := info_parts info26; have hroom42 : x5_2.length ≤ co33 := (Kd.R_reads' HO_5.out).2.1; have hC42 : Kd.C k26 _ (some ad205) x5_2.length x5_2 := (Kd.R_reads' HO_5.out).2.2; have q042 : (0 : Int) ≤ ((ji26) : Int) := of_decide_eq_true (by first | (with_reducible assumption) | assumption); have hcut42 := cut_from (P:=Try.prog) 22 26 .i64 Try.underlying22 hi042 2 hsz42 (some ad205) x5_2.length co33 (ji26) q042 q42; have hr42 := Kd.C_drop (m:=((ji26) : Int).toNat) (c:=co33) hC42 (by omega) hroom42; obtain ⟨A42, hA42⟩ : ∃ A1, A1 = (if co33 = ((ji26) : Int).toNat then (some ad205) else ((some ad205) : Option Addr).map (·.add (((ji26) : Int).toNat * 2))) := ⟨_, rfl⟩; obtain ⟨c42, hc42⟩ : ∃ c1, c1 = co33 - ((ji26) : Int).toNat := ⟨_, rfl⟩; have hy42 : y213.length = x5_2.length - ((ji26) : Int).toNat := (by rw [Ny213.out, ld25] <;> omega); rw [show (x5_2).drop ((ji26) : Int).toNat = y213 from Ny213.out.symm] at hr42; replace hr42 : Kd.C k26 _ A42 y213.length y213 := (by rw [hA42]; exact hr42); rw [← hy42, ← hA42, ← hc42] at hcut42; have HR216 := Am25 hr42; have HC216 := Am25 (show y213.length ≤ c42 from by rw [hy42, hc42]; exact Nat.sub_le_sub_right hroom42 _); clear hr42 hC42 hroom42 hi042 hsz42 hc42; have KY42 := Am25 hy42; have KA42 := Am25 hA42; clear hy42 hA42; have KL42 := Am25 (show ((ji26) : Int).toNat ≤ x5_2.length from by omega); replace q42 := eq_true q42) | ((with_reducible refine gate_builtin (b:=.append) (xs:=#[.tmp 47, .tmp 51]) rfl ?_); at_builtin; refine Kd.R_append_rows k26 (w0:=w) w.heap.size rfl (.tmp 47) (.tmp 51) 22 26 (.agg #[(.string ⟨#[]⟩), (.string ⟨#[]⟩)]) 32 rfl Try.underlying22 info26 rfl (by decide) (by omega) v211 y210 y213 _ _ _ (fun k_ => some k_ ≠ (.slice (some ad205) x5_2.length co33 : Value).ownBlock ∧ k_ ≠ gb200 ∧ k_ ≠ gb206) (fun _ => False) rfl rfl ?aO ?aR (fun _ _ h => h) (fun _ h => h.elim) ?aF ?aB ?aS ?aL ?_; (case aR => repeat (first | exact (by repeat (first | (with_reducible exact HR216.out) | (with_reducible refine Kd.C_alloc ?_ _) | (with_reducible refine Kd.C_drewN ?_ _) | (with_reducible refine Kd.C_drew ?_) | exact HR216.out)) | (with_reducible refine Kd.C_alloc ?_ _) | (with_reducible refine Kd.C_drewN ?_ _) | (with_reducible refine Kd.C_drew ?_))); (case aB => exact (by repeat (first | (with_reducible first | exact HB.out | apply ba25 | apply bn25 | apply bd25 | refine bs25 ?_ GE200.out | refine bs25 ?_ GE206.out) | exact HB.out))); (case aF => exact (fun k_ hk => ⟨Kd.fresh' (Rt25 (by (with_reducible repeat first | apply Ra25 | apply Rn25 | apply Rd25); exact HO_5.out)) k_ hk, Kd.freshB (g:=gb200) (o:=.cells #[.string a0_0, .string a0_1] 26 (0, 0)) (by (with_reducible repeat first | apply kn25 | apply kd25 | apply ka25); exact BK200.out) k_ hk, Kd.freshB (g:=gb206) (o:=.cells #[.string ((rd_T26 x5_2 x7_2).f0), .string ((rd_T26 x5_2 x7_2).f1)] 26 (0, 0)) (by (with_reducible repeat first | apply kn25 | apply kd25 | apply ka25); exact BK206.out) k_ hk⟩)); (case aO => exact (by (with_reducible repeat first | apply Ra25 | apply Rn25 | apply Rd25); exact Ro25 HO212.out (fun _ hk => ⟨hk.1.1.2, ⟨hk.1.2, hk.2⟩⟩))); (case aS => exact (bz25 (by repeat (first | (with_reducible first | exact HB.out | apply ba25 | apply bn25 | apply bd25 | refine bs25 ?_ GE200.out | refine bs25 ?_ GE206.out) | exact HB.out)))); (case aL => have := LMc29.out; omega); intro v218 w43 ho hb hg hat; rw [← Ny217.out] at ho; have n0_ := Am25 (Kd.R_after (ok:=(fun k_ => k_ ≠ gb200 ∧ k_ ≠ gb206)) (by (with_reducible repeat first | apply Ra25 | apply Rn25 | apply Rd25); exact HO_5.out) hg hat); have n1_ := Am25 (blk_grown (g:=gb200) (o:=.cells #[.string a0_0, .string a0_1] 26 (0, 0)) (by (with_reducible repeat first | apply kn25 | apply kd25 | apply ka25); exact BK200.out) hg (Kd.R_away HO212.out (fun _ hk => hk.1.2))); have n2_ := Am25 (blk_grown (g:=gb206) (o:=.cells #[.string ((rd_T26 x5_2 x7_2).f0), .string ((rd_T26 x5_2 x7_2).f1)] 26 (0, 0)) (by (with_reducible repeat first | apply kn25 | apply kd25 | apply ka25); exact BK206.out) hg (Kd.R_away HO212.out (fun _ h=>h.2))); have n3_ := Am25 (hb); have n4_ := Am25 ((show Kd.C k26 w43 A42 y213.length y213 from by rw [Ny213.out, KA42.out]; exact Kd.C_drop (m:=((ji26) : Int).toNat) (c:=co33) ((Kd.R_reads' (Kd.R_after (ok:=(fun k_ => k_ ≠ gb200 ∧ k_ ≠ gb206)) (by (with_reducible repeat first | apply Ra25 | apply Rn25 | apply Rd25); exact HO_5.out) hg hat)).2.2) KL42.out ((Kd.R_reads' (Kd.R_after (ok:=(fun k_ => k_ ≠ gb200 ∧ k_ ≠ gb206)) (by (with_reducible repeat first | apply Ra25 | apply Rn25 | apply Rd25); exact HO_5.out) hg hat)).2.1))); have n5_ := Am25 (ho); clear HO_5; clear BK200; clear BK206; clear HB; clear HR216; clear HO212; have HO_5 := n0_; have BK200 := n1_; have BK206 := n2_; have HB := n3_; have HR216 := n4_; have HO219 := n5_; clear n0_ n1_ n2_ n3_ n4_ n5_; clear ho hb hg hat))
                   replace HO_5 := Am25 (Rd25 HO_5.out)
                   replace HO219 := Am25 (Rd25 HO219.out)
                   replace BK200 := Am25 (kd25 BK200.out)
                   replace BK206 := Am25 (kd25 BK206.out)
                   replace HR216 := Am25 (Kd.C_drew HR216.out)
                   replace HB := Am25 (bd25 HB.out)
                   have q45 : (x7_2 : Int) ≤ ((x5_2.length : Int) : Int) := of_decide_eq_true (by first | (with_reducible assumption) | assumption)
                   obtain ⟨i045, hi045, _, hsz45, _⟩ := info_parts info26
                   have hcut45 := cut_to (P:=Try.prog) 22 26 .i64 Try.underlying22 hi045 (some ad205) x5_2.length co33 x7_2 (of_decide_eq_true (by first | (with_reducible assumption) | assumption)) q45 (Kd.R_reads' HO_5.out).2.1
                   have hr45 := Kd.R_take (m:=(x7_2 : Int).toNat) HO_5.out (by omega)
                   have hy45 : y220.length = (x7_2 : Int).toNat := (by rw [Ny220.out, lt_25]; omega)
                   rw [← Ny220.out] at hr45
                   rw [← hy45] at hr45 hcut45
                   clear hy45 hi045 hsz45 HO_5
                   have HO222 := Am25 hr45
                   clear hr45
                   replace q45 := eq_true q45
                   have p223 : 0 ≤ (x6_1 : Int) := of_decide_eq_true (by first | (with_reducible assumption) | assumption)
                   have q223 : x6_1 < (l1.length : Int) := of_decide_eq_true (by first | (with_reducible assumption) | assumption)
                   obtain ⟨ad223, e223, hx223_0⟩ := Kd.at_string HR1.out x6_1 p223 q223
                   have hw223_0 := hx223_0
                   obtain rfl : ad207 = ad223 := (by injection e223)
                   replace hx223_0 := (HB.out.cell (World.block_lt_of_cell? w _ hx223_0)).trans hx223_0
                   replace p223 := eq_true p223
                   replace q223 := eq_true q223
                   have p224 : 0 ≤ (x6_1 : Int) := of_decide_eq_true (by first | (with_reducible assumption) | assumption)
                   have q224 : x6_1 < (l1.length : Int) := of_decide_eq_true (by first | (with_reducible assumption) | assumption)
                   obtain ⟨ad224, e224, hx224_0⟩ := Kd.at_string HR1.out x6_1 p224 q224
                   have hw224_0 := hx224_0
                   obtain rfl : ad207 = ad224 := (by injection e224)
                   replace hx224_0 := (HB.out.cell (World.block_lt_of_cell? w _ hx224_0)).trans hx224_0
                   replace p224 := eq_true p224
                   replace q224 := eq_true q224
                   refine start_ (n:=22) (S:=fun w' => w'.cell? ⟨gb206, 0, none⟩ = some (.string ((rd_T26 x5_2 x7_2).f0)) ∧ w'.cell? ⟨gb206, 1, none⟩ = some (.string ((rd_T26 x5_2 x7_2).f1)) ∧ w'.cell? (ad207.add (x6_1).toNat) = some (.string (rdOf ByteArray.empty l1 x6_1)) ∧ w'.cell? (ad207.add (x6_1).toNat) = some (.string (rdOf ByteArray.empty l1 x6_1))) (ds:=[]) (bb25 22 0) (by kernel_rfl) rfl rfl ⟨(kc25 BK206.out 0).trans rfl, (kc25 BK206.out 1).trans rfl, ((HB.out.cell (World.block_lt_of_cell? w _ hw223_0)).trans hw223_0), ((HB.out.cell (World.block_lt_of_cell? w _ hw224_0)).trans hw224_0)⟩ (fun hHeld => ?_); refine with_tabW watershedref04_Cut.tab13 watershedref04_Cut.bits13 (fun HT_ HW_ => ?_)
                   generalize w43.drew = w44 at HO_5 HO219 BK200 BK206 HR216 HB HO222 hx223_0 hx224_0 hHeld ⊢
                   refine pure_ (i:=0) (N:=some 53) (v:=?_) (a' := ?_) (bb25 22 1) rfl rfl (any_of HT_.out (by kernel_rfl)) (fun _ _ _ h => h) (Or.inl ⟨by rfl, ?_⟩) ?_ ?_
                   rotate_left
                   ·intro w'
                    go_simp
                    with_reducible rfl
                   rotate_left
                   ·simp only [Act.put, sa25, sz25, ss25, i64_w, i32_w]
                    rfl
                   refine pure_ (i:=1) (N:=some 54) (v:=?_) (a' := ?_) (bb25 22 3) rfl rfl (any_of HT_.out (by kernel_rfl)) (fun _ _ _ h => h) (Or.inl ⟨by rfl, ?_⟩) ?_ ?_
                   rotate_left
                   ·intro w'
                    go_simp
                    with_reducible rfl
                   rotate_left
                   ·simp only [Act.put, sa25, sz25, ss25, i64_w, i32_w]
                    rfl
                   refine pure_ (i:=2) (N:=some 55) (v:=?_) (a' := ?_) (bb25 22 7) rfl rfl (any_of HT_.out (by kernel_rfl)) (fun _ _ _ h => h) (Or.inl ⟨by rfl, ?_⟩) ?_ ?_
                   rotate_left
                   ·intro w'
                    go_simp
                    with_reducible rfl
                   rotate_left
                   ·simp only [Act.put, sa25, sz25, ss25, i64_w, i32_w]
                    rfl
                   refine pure_ (i:=3) (N:=some 56) (v:=?_) (a' := ?_) (bb25 22 15) rfl rfl (any_of HT_.out (by kernel_rfl)) (fun _ _ _ h => h) (Or.inl ⟨by rfl, ?_⟩) ?_ ?_
                   rotate_left
                   ·intro w'
                    go_simp
                    with_reducible rfl
                   rotate_left
                   ·simp only [Act.put, sa25, sz25, ss25, i64_w, i32_w]
                    rfl
                   refine pure_ (i:=5) (N:=some 58) (v:=?_) (a' := ?_) (bb25 22 47) rfl rfl (any_of HT_.out (by kernel_rfl)) (fun _ _ _ h => h) (Or.inl ⟨by rfl, ?_⟩) ?_ ?_
                   rotate_left
                   ·intro w'
                    go_simp
                    with_reducible rfl
                   rotate_left
                   ·simp only [Act.put, sa25, sz25, ss25, i64_w, i32_w]
                    rfl
                   refine pure_ (i:=6) (N:=some 59) (v:=?_) (a' := ?_) (bb25 22 111) rfl rfl (any_of HT_.out (by kernel_rfl)) (fun _ _ _ h => h) (Or.inl ⟨by rfl, ?_⟩) ?_ ?_
                   rotate_left
                   ·intro w'
                    go_simp
                    with_reducible rfl
                   rotate_left
                   ·simp only [Act.put, sa25, sz25, ss25, i64_w, i32_w]
                    rfl
                   refine pure_ (i:=7) (N:=some 60) (v:=?_) (a' := ?_) (bb25 22 239) rfl rfl (any_of HT_.out (by kernel_rfl)) (fun _ _ _ h => h) (Or.inl ⟨by rfl, ?_⟩) ?_ ?_
                   rotate_left
                   ·intro w'
                    go_simp
                    with_reducible rfl
                   rotate_left
                   ·simp only [Act.put, sa25, sz25, ss25, i64_w, i32_w]
                    rfl
                   refine pure_ (i:=10) (N:=some 63) (v:=?_) (a' := ?_) (bb25 22 1263) rfl rfl (any_of HT_.out (by kernel_rfl)) (fun _ _ _ h => h) (Or.inl ⟨by rfl, ?_⟩) ?_ ?_
                   rotate_left
                   ·intro w'
                    go_simp
                    with_reducible rfl
                   rotate_left
                   ·simp only [Act.put, sa25, sz25, ss25, i64_w, i32_w]
                    rfl
                   refine pure_ (i:=11) (N:=some 64) (v:=?_) (a' := ?_) (bb25 22 3311) rfl rfl (any_of HT_.out (by kernel_rfl)) (fun _ _ _ h => h) (Or.inl ⟨by rfl, ?_⟩) ?_ ?_
                   rotate_left
                   ·intro w'
                    go_simp
                    with_reducible rfl
                   rotate_left
                   ·simp only [Act.put, sa25, sz25, ss25, i64_w, i32_w]
                    rfl
                   refine pure_ (i:=12) (N:=some 65) (v:=?_) (a' := ?_) (bb25 22 7407) rfl rfl (any_of HT_.out (by kernel_rfl)) (fun _ _ _ h => h) (Or.inl ⟨by rfl, ?_⟩) ?_ ?_
                   rotate_left
                   ·intro w'
                    go_simp
                    with_reducible rfl
                   rotate_left
                   ·simp only [Act.put, sa25, sz25, ss25, i64_w, i32_w]
                    rfl
                   refine pure_ (i:=14) (N:=some 67) (v:=?_) (a' := ?_) (bb25 22 23791) rfl rfl (any_of HT_.out (by kernel_rfl)) (fun _ _ _ h => h) (Or.inl ⟨by rfl, ?_⟩) ?_ ?_
                   rotate_left
                   ·intro w'
                    go_simp
                    with_reducible rfl
                   rotate_left
                   ·simp only [Act.put, sa25, sz25, ss25, i64_w, i32_w]
                    rfl
                   refine pure_ (i:=19) (N:=some 72) (v:=?_) (a' := ?_) (bb25 22 548079) rfl rfl (any_of HT_.out (by kernel_rfl)) (fun _ _ _ h => h) (Or.inl ⟨by rfl, ?_⟩) ?_ ?_
                   rotate_left
                   ·intro w'
                    go_simp
                    with_reducible rfl
                   rotate_left
                   ·simp only [Act.put, sa25, sz25, ss25, i64_w, i32_w]
                    rfl
                   refine take_ (i:=4) (N:=some 57) (v:=?_) (a' := ?_) (bb25 22 548095) rfl rfl (take_ofW HT_.out HW_.out (by kernel_rfl)) (fun _ _ _ h => h) (Or.inl ⟨by rfl, ?_⟩) hHeld ?_ ?_
                   rotate_left
                   ·rintro w' ⟨s0, s1, s2, s3⟩
                    go_simp
                    with_reducible rfl
                   rotate_left
                   ·simp only [Act.put, sa25, sz25, ss25, i64_w, i32_w]
                    rfl
                   refine take_ (i:=8) (N:=some 61) (v:=?_) (a' := ?_) (bb25 22 548351) rfl rfl (take_ofW HT_.out HW_.out (by kernel_rfl)) (fun _ _ _ h => h) (Or.inl ⟨by rfl, ?_⟩) hHeld ?_ ?_
                   rotate_left
                   ·rintro w' ⟨s0, s1, s2, s3⟩
                    go_simp
                    with_reducible rfl
                   rotate_left
                   ·simp only [Act.put, sa25, sz25, ss25, i64_w, i32_w]
                    rfl
                   refine pure_ (i:=9) (N:=some 62) (v:=?_) (a' := ?_) (bb25 22 548863) rfl rfl (any_of HT_.out (by kernel_rfl)) (fun _ _ _ h => h) (Or.inl ⟨by rfl, ?_⟩) ?_ ?_
                   rotate_left
                   ·intro w'
                    go_simp
                    with_reducible rfl
                   rotate_left
                   ·simp only [Act.put, sa25, sz25, ss25, i64_w, i32_w]
                    rfl
                   refine take_ (i:=13) (N:=some 66) (v:=?_) (a' := ?_) (bb25 22 557055) rfl rfl (take_ofW HT_.out HW_.out (by kernel_rfl)) (fun _ _ _ h => h) (Or.inl ⟨by rfl, ?_⟩) hHeld ?_ ?_
                   rotate_left
                   ·rintro w' ⟨s0, s1, s2, s3⟩
                    go_simp
                    with_reducible rfl
                   rotate_left
                   ·simp only [Act.put, sa25, sz25, ss25, i64_w, i32_w]
                    rfl
                   refine take_ (i:=15) (N:=some 68) (v:=?_) (a' := ?_) (bb25 22 589823) rfl rfl (take_ofW HT_.out HW_.out (by kernel_rfl)) (fun _ _ _ h => h) (Or.inl ⟨by rfl, ?_⟩) hHeld ?_ ?_
                   rotate_left
                   ·rintro w' ⟨s0, s1, s2, s3⟩
                    go_simp
                    with_reducible rfl
                   rotate_left
                   ·simp only [Act.put, sa25, sz25, ss25, i64_w, i32_w]
                    rfl
                   refine pure_ (i:=16) (N:=some 69) (v:=?_) (a' := ?_) (bb25 22 655359) rfl rfl (any_of HT_.out (by kernel_rfl)) (fun _ _ _ h => h) (Or.inl ⟨by rfl, ?_⟩) ?_ ?_
                   rotate_left
                   ·intro w'
                    go_simp
                    with_reducible rfl
                   rotate_left
                   ·simp only [Act.put, sa25, sz25, ss25, i64_w, i32_w]
                    rfl
                   refine one_ (i:=17) (N:=some 70) (bb25 22 786431) rfl rfl (one_of HT_.out (by kernel_rfl)) (by decide) (fun K hK => ?_)
                   refine Kd.R_lit_step k26 _ 26 ?hg (N:=70) ?hd (xs:=([(⟨(rd_T26 x5_2 x7_2).f0, rdOf ByteArray.empty l1 x6_1⟩ : S26), (⟨rdOf ByteArray.empty l1 x6_1, (rd_T26 x5_2 x7_2).f1⟩ : S26)] : List (S26))) (inner:=[.string ((rd_T26 x5_2 x7_2).f0), .string (rdOf ByteArray.empty l1 x6_1), .string (rdOf ByteArray.empty l1 x6_1), .string ((rd_T26 x5_2 x7_2).f1)]) (ok:=fun _ => True) (okp:=fun _ => True) ?hr ?hp (fun _ hk => hk) trivial (Below.refl _ _) (Nat.le_refl _) (by simp) ?_; (case hd => rfl); (case hg => rfl); (case hr => first | (go_simp; done) | (go_simp; rfl)); (case hp => exact (Reps.c2 (show Kd.M k26 _ _ _ (⟨(rd_T26 x5_2 x7_2).f0, rdOf ByteArray.empty l1 x6_1⟩ : S26) [.string ((rd_T26 x5_2 x7_2).f0), .string (rdOf ByteArray.empty l1 x6_1)] from (k26_mkM _ _ _ (⟨(rd_T26 x5_2 x7_2).f0, rdOf ByteArray.empty l1 x6_1⟩ : S26) )) (Reps.c2 (show Kd.M k26 _ _ _ (⟨rdOf ByteArray.empty l1 x6_1, (rd_T26 x5_2 x7_2).f1⟩ : S26) [.string (rdOf ByteArray.empty l1 x6_1), .string ((rd_T26 x5_2 x7_2).f1)] from (k26_mkM _ _ _ (⟨rdOf ByteArray.empty l1 x6_1, (rd_T26 x5_2 x7_2).f1⟩ : S26) )) (Reps.none _ _))))
                   intro v226 w46 ho47 hb hg_ hnew_
                   clear hg_ hnew_
                   (first | rw [← Ny225.out] at ho47 | (simp only [Int.reduceToNat] at ho47; rw [← Ny225.out] at ho47))
                   have HO227 := Am25 (Rl25 (Kd.R_newB (Kd.R_newB (Rw25 (Rw25 ho47 (Rt25 (by (with_reducible repeat first | apply Ra25 | apply Rn25 | apply Rd25); exact HO222.out))) (Rt25 (by (with_reducible repeat first | apply Ra25 | apply Rn25 | apply Rd25); exact HO219.out))) (g:=gb200) (o:=.cells #[.string a0_0, .string a0_1] 26 (0, 0)) (by (with_reducible repeat first | apply kn25 | apply kd25 | apply ka25); exact BK200.out)) (g:=gb206) (o:=.cells #[.string ((rd_T26 x5_2 x7_2).f0), .string ((rd_T26 x5_2 x7_2).f1)] 26 (0, 0)) (by (with_reducible repeat first | apply kn25 | apply kd25 | apply ka25); exact BK206.out)) (bz25 (by repeat (first | (with_reducible first | exact HB.out | apply ba25 | apply bn25 | apply bd25 | refine bs25 ?_ GE200.out | refine bs25 ?_ GE206.out) | exact HB.out))))
                   replace HO222 := Am25 (Re25 (by (with_reducible repeat first | apply Ra25 | apply Rn25 | apply Rd25); exact HO222.out) (Ra_25 ho47) hb)
                   replace HO219 := Am25 (Re25 (by (with_reducible repeat first | apply Ra25 | apply Rn25 | apply Rd25); exact HO219.out) (Ra_25 ho47) hb)
                   replace BK200 := Am25 (kb25 (g:=gb200) (o:=.cells #[.string a0_0, .string a0_1] 26 (0, 0)) (by (with_reducible repeat first | apply kn25 | apply kd25 | apply ka25); exact BK200.out) hb)
                   replace BK206 := Am25 (kb25 (g:=gb206) (o:=.cells #[.string ((rd_T26 x5_2 x7_2).f0), .string ((rd_T26 x5_2 x7_2).f1)] 26 (0, 0)) (by (with_reducible repeat first | apply kn25 | apply kd25 | apply ka25); exact BK206.out) hb)
                   replace HR216 := Am25 (Kd.C_below (by repeat (first | (with_reducible exact HR216.out) | (with_reducible refine Kd.C_alloc ?_ _) | (with_reducible refine Kd.C_drewN ?_ _) | (with_reducible refine Kd.C_drew ?_) | exact HR216.out)) hb)
                   replace HB := Am25 (bp25 (by repeat (first | (with_reducible first | exact HB.out | apply ba25 | apply bn25 | apply bd25 | refine bs25 ?_ GE200.out | refine bs25 ?_ GE206.out) | exact HB.out)) hb)
                   clear hb ho47
                   obtain ⟨Ao49, co49, eo49⟩ := Kd.R_slice HO227.out
                   (first | subst eo49 | (injection eo49 with f1_ f2_ f3_; have f4_ := f1_.symm; have f5_ := f3_.symm; clear f1_ f2_ f3_; subst f4_; subst f5_))
                   refine hK.out _ _ ⟨(kc25 BK206.out 0).trans rfl, (kc25 BK206.out 1).trans rfl, ((HB.out.cell (World.block_lt_of_cell? w _ hw223_0)).trans hw223_0), ((HB.out.cell (World.block_lt_of_cell? w _ hw224_0)).trans hw224_0)⟩ (fun hHeld => ?_)
                   clear hK K
                   refine norm_ (a' := ?_) ?_ ?_
                   rotate_left
                   ·show Act.put _ (some 70) _ = _
                    simp only [Act.put, sa25, sz25, ss25, i64_w, i32_w]
                    rfl
                   refine one_ (i:=18) (N:=some 71) (bb25 22 1048575) rfl rfl (one_of HT_.out (by kernel_rfl)) (by decide) (fun K hK => ?_)
                   refine Kd.R_append_rows_step k26 (w0:=w) w.heap.size (by rfl) (.tmp 55) (.tmp 70) 22 26 (.agg #[(.string ⟨#[]⟩), (.string ⟨#[]⟩)]) 32 rfl Try.underlying22 info26 rfl (by decide) (by omega) (.slice (some ad205) y220.length co33) y220 y225 _ _ _ (fun k_ => some k_ ≠ (v218 : Value).ownBlock ∧ some k_ ≠ (.slice Ao49 y225.length co49 : Value).ownBlock ∧ k_ ≠ gb200 ∧ k_ ≠ gb206) (fun _ => False) rfl rfl ?aO ?aR (fun _ _ h => h) (fun _ h => h.elim) ?aF ?aB ?aS ?aL ?_
                   (case aR => repeat (first | exact (Kd.R_reads' HO227.out).2.2 | (with_reducible refine Kd.C_alloc ?_ _) | (with_reducible refine Kd.C_drewN ?_ _) | (with_reducible refine Kd.C_drew ?_)))
                   (case aB => exact (by repeat (first | (with_reducible first | exact HB.out | apply ba25 | apply bn25 | apply bd25 | refine bs25 ?_ GE200.out | refine bs25 ?_ GE206.out) | exact HB.out)))
                   (case aF => exact (fun k_ hk => ⟨Kd.fresh' (Rt25 (by (with_reducible repeat first | apply Ra25 | apply Rn25 | apply Rd25); exact HO219.out)) k_ hk, Kd.fresh' (Rt25 (by (with_reducible repeat first | apply Ra25 | apply Rn25 | apply Rd25); exact HO227.out)) k_ hk, Kd.freshB (g:=gb200) (o:=.cells #[.string a0_0, .string a0_1] 26 (0, 0)) (by (with_reducible repeat first | apply kn25 | apply kd25 | apply ka25); exact BK200.out) k_ hk, Kd.freshB (g:=gb206) (o:=.cells #[.string ((rd_T26 x5_2 x7_2).f0), .string ((rd_T26 x5_2 x7_2).f1)] 26 (0, 0)) (by (with_reducible repeat first | apply kn25 | apply kd25 | apply ka25); exact BK206.out) k_ hk⟩))
                   (case aO => exact (by (with_reducible repeat first | apply Ra25 | apply Rn25 | apply Rd25); exact Ro25 HO222.out (fun _ hk => ⟨hk.1.2, ⟨hk.2, ⟨hk.1.1.1, hk.1.1.2⟩⟩⟩)))
                   (case aS => exact (bz25 (by repeat (first | (with_reducible first | exact HB.out | apply ba25 | apply bn25 | apply bd25 | refine bs25 ?_ GE200.out | refine bs25 ?_ GE206.out) | exact HB.out))))
                   (case aL => have := LMc31.out; omega)
                   intro v229 w48 ho hb hg hat
                   rw [← Ny228.out] at ho
                   have n0_ := Am25 (blk_grown (g:=gb200) (o:=.cells #[.string a0_0, .string a0_1] 26 (0, 0)) (by (with_reducible repeat first | apply kn25 | apply kd25 | apply ka25); exact BK200.out) hg (Kd.R_away HO222.out (fun _ hk => hk.1.1.1)))
                   have n1_ := Am25 (blk_grown (g:=gb206) (o:=.cells #[.string ((rd_T26 x5_2 x7_2).f0), .string ((rd_T26 x5_2 x7_2).f1)] 26 (0, 0)) (by (with_reducible repeat first | apply kn25 | apply kd25 | apply ka25); exact BK206.out) hg (Kd.R_away HO222.out (fun _ hk => hk.1.1.2)))
                   have n2_ := Am25 (Kd.R_after (ok:=(fun k_ => some k_ ≠ (.slice Ao49 y225.length co49 : Value).ownBlock ∧ k_ ≠ gb200 ∧ k_ ≠ gb206)) (by (with_reducible repeat first | apply Ra25 | apply Rn25 | apply Rd25); exact Ro25 HO219.out (fun _ hk => ⟨⟨hk.2, ⟨hk.1.2.1, hk.1.2.2⟩⟩, hk.1.1⟩)) hg hat)
                   have n3_ := Am25 (Kd.R_after (ok:=(fun k_ => some k_ ≠ (v218 : Value).ownBlock ∧ k_ ≠ gb200 ∧ k_ ≠ gb206)) (by (with_reducible repeat first | apply Ra25 | apply Rn25 | apply Rd25); exact Ro25 HO227.out (fun _ hk => ⟨⟨hk.1.1.2, ⟨hk.1.2, hk.2⟩⟩, hk.1.1.1.2⟩)) hg hat)
                   have n4_ := Am25 (hb)
                   have n5_ := Am25 (ho)
                   clear BK200
                   clear BK206
                   clear HO219
                   clear HO227
                   clear HB
                   clear HO222
                   have BK200 := n0_
                   have BK206 := n1_
                   have HO219 := n2_
                   have HO227 := n3_
                   have HB := n4_
                   have HO230 := n5_
                   clear n0_ n1_ n2_ n3_ n4_ n5_
                   clear ho hb hg hat
                   obtain ⟨Ao51, co51, eo51⟩ := Kd.R_slice HO219.out
                   (first | subst eo51 | (injection eo51 with f1_ f2_ f3_; have f4_ := f1_.symm; have f5_ := f3_.symm; clear f1_ f2_ f3_; subst f4_; subst f5_))
                   refine hK.out _ _ ⟨(kc25 BK206.out 0).trans rfl, (kc25 BK206.out 1).trans rfl, ((HB.out.cell (World.block_lt_of_cell? w _ hw223_0)).trans hw223_0), ((HB.out.cell (World.block_lt_of_cell? w _ hw224_0)).trans hw224_0)⟩ (fun hHeld => ?_)
                   clear hK K
                   refine norm_ (a' := ?_) ?_ ?_
                   rotate_left
                   ·show Act.put _ (some 71) _ = _
                    simp only [Act.put, sa25, sz25, ss25, i64_w, i32_w]
                    rfl
                   refine one_ (i:=20) (N:=some 73) (bb25 22 2097151) rfl rfl (one_of HT_.out (by kernel_rfl)) (by decide) (fun K hK => ?_)
                   refine Kd.R_append_rows_step k26 (w0:=w) w.heap.size (by rfl) (.tmp 71) (.tmp 72) 22 26 (.agg #[(.string ⟨#[]⟩), (.string ⟨#[]⟩)]) 32 rfl Try.underlying22 info26 rfl (by decide) (by omega) v229 y228 y217 _ _ _ (fun k_ => some k_ ≠ (.slice Ao51 y217.length co51 : Value).ownBlock ∧ some k_ ≠ (.slice Ao49 y225.length co49 : Value).ownBlock ∧ k_ ≠ gb200 ∧ k_ ≠ gb206) (fun _ => False) rfl rfl ?aO ?aR (fun _ _ h => h) (fun _ h => h.elim) ?aF ?aB ?aS ?aL ?_
                   (case aR => repeat (first | exact (Kd.R_reads' HO219.out).2.2 | (with_reducible refine Kd.C_alloc ?_ _) | (with_reducible refine Kd.C_drewN ?_ _) | (with_reducible refine Kd.C_drew ?_)))
                   (case aB => exact (by repeat (first | (with_reducible first | exact HB.out | apply ba25 | apply bn25 | apply bd25 | refine bs25 ?_ GE200.out | refine bs25 ?_ GE206.out) | exact HB.out)))
                   (case aF => exact (fun k_ hk => ⟨Kd.fresh' (Rt25 (by (with_reducible repeat first | apply Ra25 | apply Rn25 | apply Rd25); exact HO219.out)) k_ hk, Kd.fresh' (Rt25 (by (with_reducible repeat first | apply Ra25 | apply Rn25 | apply Rd25); exact HO227.out)) k_ hk, Kd.freshB (g:=gb200) (o:=.cells #[.string a0_0, .string a0_1] 26 (0, 0)) (by (with_reducible repeat first | apply kn25 | apply kd25 | apply ka25); exact BK200.out) k_ hk, Kd.freshB (g:=gb206) (o:=.cells #[.string ((rd_T26 x5_2 x7_2).f0), .string ((rd_T26 x5_2 x7_2).f1)] 26 (0, 0)) (by (with_reducible repeat first | apply kn25 | apply kd25 | apply ka25); exact BK206.out) k_ hk⟩))
                   (case aO => exact (by (with_reducible repeat first | apply Ra25 | apply Rn25 | apply Rd25); exact HO230.out))
                   (case aS => exact (bz25 (by repeat (first | (with_reducible first | exact HB.out | apply ba25 | apply bn25 | apply bd25 | refine bs25 ?_ GE200.out | refine bs25 ?_ GE206.out) | exact HB.out))))
                   (case aL => have := LMc32.out; omega)
                   intro v232 w50 ho hb hg hat
                   rw [← Ny231.out] at ho
                   have n0_ := Am25 (blk_grown (g:=gb200) (o:=.cells #[.string a0_0, .string a0_1] 26 (0, 0)) (by (with_reducible repeat first | apply kn25 | apply kd25 | apply ka25); exact BK200.out) hg (Kd.R_away HO230.out (fun _ hk => hk.2.2.1)))
                   have n1_ := Am25 (blk_grown (g:=gb206) (o:=.cells #[.string ((rd_T26 x5_2 x7_2).f0), .string ((rd_T26 x5_2 x7_2).f1)] 26 (0, 0)) (by (with_reducible repeat first | apply kn25 | apply kd25 | apply ka25); exact BK206.out) hg (Kd.R_away HO230.out (fun _ hk => hk.2.2.2)))
                   have n2_ := Am25 (Kd.R_after (ok:=(fun k_ => some k_ ≠ (.slice Ao49 y225.length co49 : Value).ownBlock ∧ k_ ≠ gb200 ∧ k_ ≠ gb206)) (by (with_reducible repeat first | apply Ra25 | apply Rn25 | apply Rd25); exact HO219.out) hg hat)
                   have n3_ := Am25 (Kd.R_after (ok:=(fun k_ => some k_ ≠ (.slice Ao51 y217.length co51 : Value).ownBlock ∧ k_ ≠ gb200 ∧ k_ ≠ gb206)) (by (with_reducible repeat first | apply Ra25 | apply Rn25 | apply Rd25); exact HO227.out) hg hat)
                   have n4_ := Am25 (hb)
                   have n5_ := Am25 (ho)
                   clear BK200
                   clear BK206
                   clear HO219
                   clear HO227
                   clear HB
                   clear HO230
                   have BK200 := n0_
                   have BK206 := n1_
                   have HO219 := n2_
                   have HO227 := n3_
                   have HB := n4_
                   have HO233 := n5_
                   clear n0_ n1_ n2_ n3_ n4_ n5_
                   clear ho hb hg hat
                   refine hK.out _ _ ⟨(kc25 BK206.out 0).trans rfl, (kc25 BK206.out 1).trans rfl, ((HB.out.cell (World.block_lt_of_cell? w _ hw223_0)).trans hw223_0), ((HB.out.cell (World.block_lt_of_cell? w _ hw224_0)).trans hw224_0)⟩ (fun hHeld => ?_)
                   clear hK K
                   refine norm_ (a' := ?_) ?_ ?_
                   rotate_left
                   ·show Act.put _ (some 73) _ = _
                    simp only [Act.put, sa25, sz25, ss25, i64_w, i32_w]
                    rfl
                   refine pure_ (i:=21) (N:=some 5) (v:=?_) (a' := ?_) (bb25 22 4194303) rfl rfl (any_of HT_.out (by kernel_rfl)) (fun _ _ _ h => h) (Or.inl ⟨by rfl, ?_⟩) ?_ ?_
                   rotate_left
                   ·intro w'
                    go_simp
                    with_reducible rfl
                   rotate_left
                   ·simp only [Act.put, sa25, sz25, ss25, i64_w, i32_w]
                    rfl
                   refine done_ (done_of HT_.out (by kernel_rfl)) ?_
                   try go_wp2
                   go_roundg k2
                   case measure => have := HK1.out; have := HK2.out; omega
                   case rel => exact ⟨(y231), (wrap64 (x6_1 + 1)), (by first | rfl | (simp; done) | (simp [*]; done)), H', ⟨by have := HK1.out; have := HK2.out; omega⟩, ⟨by (with_reducible repeat first | apply Ra25 | apply Rn25 | apply Rd25); exact Ro25 HO233.out (fun _ hk => hk.2.2.1)⟩, ⟨by (with_reducible repeat first | apply kn25 | apply kd25 | apply ka25); exact BK200.out⟩, ⟨by repeat (first | (with_reducible first | exact HB.out | apply ba25 | apply bn25 | apply bd25 | refine bs25 ?_ GE200.out | refine bs25 ?_ GE206.out) | exact HB.out)⟩⟩
                  ·rw [if_neg c32] at H
                   exact absurd H (by simp)
                 ·rw [if_neg c31] at H
                  exact absurd H (by simp)
                ·rw [if_neg c30] at H
                 exact absurd H (by simp)
               ·rw [if_neg c29] at H
                exact absurd H (by simp)
              ·rw [if_neg c28] at H
               exact absurd H (by simp)
             ·rw [if_neg c27] at H
              exact absurd H (by simp)
           ·replace c17 := Bool.eq_false_iff.mpr c17
            subst c17
            rw [if_neg (show ¬ (false = true) by decide)] at H
            have H' := Am25 H
            clear H
            obtain ⟨Ao52, co52, eo52⟩ := Kd.R_slice HO_5.out
            subst eo52
            have p205 : 0 ≤ (x7_2 : Int) := of_decide_eq_true (by first | (with_reducible assumption) | assumption)
            have q205 : x7_2 < (x5_2.length : Int) := of_decide_eq_true (by first | (with_reducible assumption) | assumption)
            obtain ⟨ad205, e205, hx205_0, hx205_1⟩ := at_T26 (Kd.R_reads' HO_5.out).2.2 x7_2 p205 q205
            cases e205
            replace p205 := eq_true p205
            replace q205 := eq_true q205
            try go_wp2_with (first | ((with_reducible refine gate_dst (N:=8) rfl ?_); refine box_event ?hg (N:=8) ?hd (cs:=#[.string (⟨#[]⟩ : ByteArray), .string (⟨#[]⟩ : ByteArray)]) (t:=26) ?hr ?_; (case hd => rfl); (case hg => rfl); (case hr => first | (go_simp; done) | (go_simp; rfl)); intro gb206 hg w53 hbox hb; replace HO_5 := Am25 (Rb25 (Kd.R_elderB (by (with_reducible repeat first | apply Ra25 | apply Rn25 | apply Rd25); exact HO_5.out) gb206 (Nat.le_of_eq hg.symm)) hb); have BK206 := Am25 (hbox); have GW206 := Am25 ((by rw [hg]; exact (bz25 (by repeat (first | (with_reducible first | exact HB.out | apply ba25 | apply bn25 | apply bd25 | refine bs25 ?_ GE200.out) | exact HB.out))) : w.heap.size ≤ gb206)); have GE206 := Am25 ((by rw [hg]; exact (bz25 (by repeat (first | (with_reducible first | exact HB.out | apply ba25 | apply bn25 | apply bd25 | refine bs25 ?_ GE200.out) | exact HB.out))) : w.heap.size ≤ gb206)); replace HB := Am25 (bp25 (by repeat (first | (with_reducible first | exact HB.out | apply ba25 | apply bn25 | apply bd25 | refine bs25 ?_ GE200.out) | exact HB.out)) hb); have NB200_206 := Am25 ((by rw [hg]; exact Nat.ne_of_lt (blk_lt (g:=gb200) (o:=.cells #[.string a0_0, .string a0_1] 26 (0, 0)) (by (with_reducible repeat first | apply kn25 | apply kd25 | apply ka25); exact BK200.out)) : gb200 ≠ gb206)); have NB206_200 := Am25 ((by rw [hg]; exact Nat.ne_of_gt (blk_lt (g:=gb200) (o:=.cells #[.string a0_0, .string a0_1] 26 (0, 0)) (by (with_reducible repeat first | apply kn25 | apply kd25 | apply ka25); exact BK200.out)) : gb206 ≠ gb200)); replace BK200 := Am25 (kb25 (g:=gb200) (o:=.cells #[.string a0_0, .string a0_1] 26 (0, 0)) (by (with_reducible repeat first | apply kn25 | apply kd25 | apply ka25); exact BK200.out) hb); clear hb hbox hg; have hnb54 := NB206_200.out; have hnc54 := NB200_206.out; have hcz55_0 : w53.cell? ⟨gb206, 0, none⟩ = some (.string (⟨#[]⟩ : ByteArray)) := (kc25 BK206.out 0).trans rfl; have hcz55_1 : w53.cell? ⟨gb206, 1, none⟩ = some (.string (⟨#[]⟩ : ByteArray)) := (kc25 BK206.out 1).trans rfl; have hfz55_0 := kz25 BK206.out 0; have hfz55_1 := kz25 BK206.out 1))
            have n0_ : Aside0 (Kd.R k26 26 ((w53.setCell ⟨gb206, 0, none⟩ (.string ((rd_T26 x5_2 x7_2).f0))).setCell ⟨gb206, 1, none⟩ (.string ((rd_T26 x5_2 x7_2).f1))) w.heap.size (fun k_ => k_ ≠ gb200 ∧ k_ ≠ gb206) (.slice (some ad205) x5_2.length co52) x5_2) := ⟨by (with_reducible repeat first | apply Ra25 | apply Rn25 | apply Rd25); exact Ro25 (Rf25 (p:=⟨gb206, 1, none⟩) (Rf25 (p:=⟨gb206, 0, none⟩) (Ro25 HO_5.out (fun k_ hk => (⟨hk, hk.2⟩ : _ ∧ k_ ≠ gb206))) (fun _ h=>h.2) (.string ((rd_T26 x5_2 x7_2).f0))) (fun _ h=>h.2) (.string ((rd_T26 x5_2 x7_2).f1))) (fun _ hk => ⟨hk.1.1, hk.1.2⟩)⟩
            have n1_ : Aside0 (((w53.setCell ⟨gb206, 0, none⟩ (.string ((rd_T26 x5_2 x7_2).f0))).setCell ⟨gb206, 1, none⟩ (.string ((rd_T26 x5_2 x7_2).f1))).heap[gb200]? = some (.cells #[.string a0_0, .string a0_1] 26 (0, 0))) := ⟨by (with_reducible repeat first | apply kn25 | apply kd25 | apply ka25); refine kf25 ?_ NB200_206.out _; (with_reducible repeat first | apply kn25 | apply kd25 | apply ka25); refine kf25 ?_ NB200_206.out _; (with_reducible repeat first | apply kn25 | apply kd25 | apply ka25); exact BK200.out⟩
            have n2_ : Aside0 (((w53.setCell ⟨gb206, 0, none⟩ (.string ((rd_T26 x5_2 x7_2).f0))).setCell ⟨gb206, 1, none⟩ (.string ((rd_T26 x5_2 x7_2).f1))).heap[gb206]? = some (.cells #[.string ((rd_T26 x5_2 x7_2).f0), .string ((rd_T26 x5_2 x7_2).f1)] 26 (0, 0))) := ⟨by (with_reducible repeat first | apply kn25 | apply kd25 | apply ka25); refine blk_put (cs:=#[.string ((rd_T26 x5_2 x7_2).f0), .string (⟨#[]⟩ : ByteArray)]) ?_ 1 _ rfl; (with_reducible repeat first | apply kn25 | apply kd25 | apply ka25); refine blk_put (cs:=#[.string (⟨#[]⟩ : ByteArray), .string (⟨#[]⟩ : ByteArray)]) ?_ 0 _ rfl; (with_reducible repeat first | apply kn25 | apply kd25 | apply ka25); exact BK206.out⟩
            have n3_ : Aside0 (Below w.heap.size w ((w53.setCell ⟨gb206, 0, none⟩ (.string ((rd_T26 x5_2 x7_2).f0))).setCell ⟨gb206, 1, none⟩ (.string ((rd_T26 x5_2 x7_2).f1)))) := ⟨by repeat (first | (with_reducible first | exact HB.out | apply ba25 | apply bn25 | apply bd25 | refine bs25 ?_ GE200.out | refine bs25 ?_ GE206.out) | exact HB.out)⟩
            (try clear HO_5)
            (try clear BK200)
            (try clear BK206)
            (try clear HB)
            generalize ((w53.setCell ⟨gb206, 0, none⟩ (.string ((rd_T26 x5_2 x7_2).f0))).setCell ⟨gb206, 1, none⟩ (.string ((rd_T26 x5_2 x7_2).f1))) = w56 at n0_ n1_ n2_ n3_ ⊢
            have HO_5 := n0_
            have BK200 := n1_
            have BK206 := n2_
            have HB := n3_
            clear n0_ n1_ n2_ n3_
            replace HO_5 := Am25 (Rd25 HO_5.out)
            replace BK200 := Am25 (kd25 BK200.out)
            replace BK206 := Am25 (kd25 BK206.out)
            replace HB := Am25 (bd25 HB.out)
            have p207 : 0 ≤ (x6_1 : Int) := of_decide_eq_true (by first | (with_reducible assumption) | assumption)
            have q207 : x6_1 < (l1.length : Int) := of_decide_eq_true (by first | (with_reducible assumption) | assumption)
            obtain ⟨ad207, e207, hx207_0⟩ := Kd.at_string HR1.out x6_1 p207 q207
            have hw207_0 := hx207_0
            cases e207
            replace hx207_0 := (HB.out.cell (World.block_lt_of_cell? w _ hx207_0)).trans hx207_0
            replace p207 := eq_true p207
            replace q207 := eq_true q207
            refine start_ (n:=16) (S:=fun w' => w'.cell? ⟨gb206, 0, none⟩ = some (.string ((rd_T26 x5_2 x7_2).f0)) ∧ w'.cell? ⟨gb206, 1, none⟩ = some (.string ((rd_T26 x5_2 x7_2).f1)) ∧ w'.cell? (ad207.add (x6_1).toNat) = some (.string (rdOf ByteArray.empty l1 x6_1))) (ds:=[]) (bb25 16 0) (by kernel_rfl) rfl rfl ⟨(kc25 BK206.out 0).trans rfl, (kc25 BK206.out 1).trans rfl, ((HB.out.cell (World.block_lt_of_cell? w _ hw207_0)).trans hw207_0)⟩ (fun hHeld => ?_); refine with_tabW watershedref04_Cut.tab11 watershedref04_Cut.bits11 (fun HT_ HW_ => ?_)
            generalize w56.drew = w57 at HO_5 BK200 BK206 HB hx207_0 hHeld ⊢
            refine pure_ (i:=1) (N:=some 32) (v:=?_) (a' := ?_) (bb25 16 2) rfl rfl (any_of HT_.out (by kernel_rfl)) (fun _ _ _ h => h) (Or.inl ⟨by rfl, ?_⟩) ?_ ?_
            rotate_left
            ·intro w'
             go_simp
             with_reducible rfl
            rotate_left
            ·simp only [Act.put, sa25, sz25, ss25, i64_w, i32_w]
             rfl
            refine pure_ (i:=2) (N:=some 33) (v:=?_) (a' := ?_) (bb25 16 6) rfl rfl (any_of HT_.out (by kernel_rfl)) (fun _ _ _ h => h) (Or.inl ⟨by rfl, ?_⟩) ?_ ?_
            rotate_left
            ·intro w'
             go_simp
             with_reducible rfl
            rotate_left
            ·simp only [Act.put, sa25, sz25, ss25, i64_w, i32_w]
             rfl
            refine pure_ (i:=3) (N:=some 34) (v:=?_) (a' := ?_) (bb25 16 14) rfl rfl (any_of HT_.out (by kernel_rfl)) (fun _ _ _ h => h) (Or.inl ⟨by rfl, ?_⟩) ?_ ?_
            rotate_left
            ·intro w'
             go_simp
             with_reducible rfl
            rotate_left
            ·simp only [Act.put, sa25, sz25, ss25, i64_w, i32_w]
             rfl
            refine take_ (i:=0) (N:=some 31) (v:=?_) (a' := ?_) (bb25 16 15) rfl rfl (take_ofW HT_.out HW_.out (by kernel_rfl)) (fun _ _ _ h => h) (Or.inl ⟨by rfl, ?_⟩) hHeld ?_ ?_
            rotate_left
            ·rintro w' ⟨s0, s1, s2⟩
             go_simp
             with_reducible rfl
            rotate_left
            ·simp only [Act.put, sa25, sz25, ss25, i64_w, i32_w]
             rfl
            refine take_ (i:=4) (N:=some 35) (v:=?_) (a' := ?_) (bb25 16 31) rfl rfl (take_ofW HT_.out HW_.out (by kernel_rfl)) (fun _ _ _ h => h) (Or.inl ⟨by rfl, ?_⟩) hHeld ?_ ?_
            rotate_left
            ·rintro w' ⟨s0, s1, s2⟩
             go_simp
             with_reducible rfl
            rotate_left
            ·simp only [Act.put, sa25, sz25, ss25, i64_w, i32_w]
             rfl
            refine one_ (i:=5) (N:=some 36) (bb25 16 63) rfl rfl (one_of HT_.out (by kernel_rfl)) (by decide) (fun K hK => ?_)
            refine goes_ Try.func21 (by kernel_rfl) rfl #[.agg #[.string ((rd_T26 x5_2 x7_2).f0), .string ((rd_T26 x5_2 x7_2).f1)], .string (rdOf ByteArray.empty l1 x6_1)] (by rfl) rfl rfl (by (try simp only [ma25, mc25, mn25]); first | done | rfl | (simp only [ld25, lt_25]; rfl)) ?_
            with_reducible refine (watershedref04_Has.calls k2 ((rd_T26 x5_2 x7_2).f0) ((rd_T26 x5_2 x7_2).f1) (rdOf ByteArray.empty l1 x6_1) false _ A16.out).mono ?_
            rintro e w58 ⟨rfl, hb⟩
            refine ⟨_, rfl, ?_⟩
            replace HO_5 := Am25 (Rb25 (by (with_reducible repeat first | apply Ra25 | apply Rn25 | apply Rd25); exact HO_5.out) hb)
            replace BK200 := Am25 (kb25 (g:=gb200) (o:=.cells #[.string a0_0, .string a0_1] 26 (0, 0)) (by (with_reducible repeat first | apply kn25 | apply kd25 | apply ka25); exact BK200.out) hb)
            replace BK206 := Am25 (kb25 (g:=gb206) (o:=.cells #[.string ((rd_T26 x5_2 x7_2).f0), .string ((rd_T26 x5_2 x7_2).f1)] 26 (0, 0)) (by (with_reducible repeat first | apply kn25 | apply kd25 | apply ka25); exact BK206.out) hb)
            replace HB := Am25 (bp25 (by repeat (first | (with_reducible first | exact HB.out | apply ba25 | apply bn25 | apply bd25 | refine bs25 ?_ GE200.out | refine bs25 ?_ GE206.out) | exact HB.out)) hb)
            (try clear hb)
            (try clear hb2)
            (try clear hk)
            (try clear hi)
            refine hK.out _ _ ⟨(kc25 BK206.out 0).trans rfl, (kc25 BK206.out 1).trans rfl, ((HB.out.cell (World.block_lt_of_cell? w _ hw207_0)).trans hw207_0)⟩ (fun hHeld => ?_)
            clear hK K
            refine norm_ (a' := ?_) ?_ ?_
            rotate_left
            ·show Act.put _ (some 36) _ = _
             simp only [Act.put, sa25, sz25, ss25, i64_w, i32_w]
             rfl
            refine pure_ (i:=6) (N:=some 37) (v:=?_) (a' := ?_) (bb25 16 127) rfl rfl (any_of HT_.out (by kernel_rfl)) (fun _ _ _ h => h) (Or.inl ⟨by rfl, ?_⟩) ?_ ?_
            rotate_left
            ·intro w'
             go_simp
             with_reducible rfl
            rotate_left
            ·simp only [Act.put, sa25, sz25, ss25, i64_w, i32_w]
             rfl
            refine pure_ (i:=7) (N:=some 38) (v:=?_) (a' := ?_) (bb25 16 255) rfl rfl (any_of HT_.out (by kernel_rfl)) (fun _ _ _ h => h) (Or.inl ⟨by rfl, ?_⟩) ?_ ?_
            rotate_left
            ·intro w'
             go_simp
             with_reducible rfl
            rotate_left
            ·simp only [Act.put, sa25, sz25, ss25, i64_w, i32_w]
             rfl
            refine pure_ (i:=8) (N:=some 39) (v:=undef) (a' := ?_) (bb25 16 511) rfl rfl (any_of HT_.out (by kernel_rfl)) (fun _ _ _ h => h) (Or.inr ⟨by rfl, rfl⟩) ?_ ?_
            rotate_left
            ·simp only [Act.put, sa25, sz25, ss25, i64_w, i32_w]
             rfl
            refine pure_ (i:=9) (N:=some 40) (v:=undef) (a' := ?_) (bb25 16 1023) rfl rfl (any_of HT_.out (by kernel_rfl)) (fun _ _ _ h => h) (Or.inr ⟨by rfl, rfl⟩) ?_ ?_
            rotate_left
            ·simp only [Act.put, sa25, sz25, ss25, i64_w, i32_w]
             rfl
            refine pure_ (i:=10) (N:=some 41) (v:=undef) (a' := ?_) (bb25 16 2047) rfl rfl (any_of HT_.out (by kernel_rfl)) (fun _ _ _ h => h) (Or.inr ⟨by rfl, rfl⟩) ?_ ?_
            rotate_left
            ·simp only [Act.put, sa25, sz25, ss25, i64_w, i32_w]
             rfl
            refine pure_ (i:=11) (N:=some 42) (v:=undef) (a' := ?_) (bb25 16 4095) rfl rfl (any_of HT_.out (by kernel_rfl)) (fun _ _ _ h => h) (Or.inr ⟨by rfl, rfl⟩) ?_ ?_
            rotate_left
            ·simp only [Act.put, sa25, sz25, ss25, i64_w, i32_w]
             rfl
            refine pure_ (i:=12) (N:=some 43) (v:=undef) (a' := ?_) (bb25 16 8191) rfl rfl (any_of HT_.out (by kernel_rfl)) (fun _ _ _ h => h) (Or.inr ⟨by rfl, rfl⟩) ?_ ?_
            rotate_left
            ·simp only [Act.put, sa25, sz25, ss25, i64_w, i32_w]
             rfl
            refine pure_ (i:=13) (N:=some 44) (v:=undef) (a' := ?_) (bb25 16 16383) rfl rfl (any_of HT_.out (by kernel_rfl)) (fun _ _ _ h => h) (Or.inr ⟨by rfl, rfl⟩) ?_ ?_
            rotate_left
            ·simp only [Act.put, sa25, sz25, ss25, i64_w, i32_w]
             rfl
            refine pure_ (i:=14) (N:=some 45) (v:=undef) (a' := ?_) (bb25 16 32767) rfl rfl (any_of HT_.out (by kernel_rfl)) (fun _ _ _ h => h) (Or.inr ⟨by rfl, rfl⟩) ?_ ?_
            rotate_left
            ·simp only [Act.put, sa25, sz25, ss25, i64_w, i32_w]
             rfl
            refine pure_ (i:=15) (N:=some 46) (v:=?_) (a' := ?_) (bb25 16 65535) rfl rfl (any_of HT_.out (by kernel_rfl)) (fun _ _ _ h => h) (Or.inl ⟨by rfl, ?_⟩) ?_ ?_
            rotate_left
            ·intro w'
             go_simp
             with_reducible rfl
            rotate_left
            ·simp only [Act.put, sa25, sz25, ss25, i64_w, i32_w]
             rfl
            refine done_ (done_of HT_.out (by kernel_rfl)) ?_
            try go_wp2
            go_roundg k2
            case measure => have := HK1.out; have := HK2.out; omega
            case rel => exact ⟨(x5_2), (wrap64 (x7_2 + 1)), (by first | rfl | (simp; done) | (simp [*]; done)), H', ⟨by have := HK1.out; have := HK2.out; omega⟩, ⟨by (with_reducible repeat first | apply Ra25 | apply Rn25 | apply Rd25); exact Ro25 HO_5.out (fun _ hk => hk.1)⟩, ⟨by (with_reducible repeat first | apply kn25 | apply kd25 | apply ka25); exact BK200.out⟩, ⟨by repeat (first | (with_reducible first | exact HB.out | apply ba25 | apply bn25 | apply bd25 | refine bs25 ?_ GE200.out | refine bs25 ?_ GE206.out) | exact HB.out)⟩⟩
          ·rw [if_neg c15] at H
           exact absurd H (by simp)
         ·rw [if_neg c14] at H
          exact absurd H (by simp)
        ·rw [if_neg c13] at H
         exact absurd H (by simp)
       ·rw [if_neg c12] at H
        have c12b0 : decide (x7_2 < (x5_2.length : Int)) = false := decide_eq_false c12
        clear c12
        have H' := Am25 H
        clear H
        obtain ⟨Ao59, co59, eo59⟩ := Kd.R_slice HO_5.out
        subst eo59
        go_wp2
        go_roundg k2
        case measure => have := HK1.out; have := HK2.out; omega
        case rel => exact ⟨(x5_2), (wrap64 (x6_1 + 1)), (by first | rfl | (simp; done) | (simp [*]; done)), H', ⟨by have := HK1.out; have := HK2.out; omega⟩, ⟨by (with_reducible repeat first | apply Ra25 | apply Rn25 | apply Rd25); exact HO_5.out⟩, ⟨by (with_reducible repeat first | apply kn25 | apply kd25 | apply ka25); exact BK200.out⟩, ⟨by repeat (first | (with_reducible first | exact HB.out | apply ba25 | apply bn25 | apply bd25 | refine bs25 ?_ GE200.out) | exact HB.out)⟩⟩
    ·rw [if_neg c11] at H
     have c11b0 : decide (x6_1 < (l1.length : Int)) = false := decide_eq_false c11
     clear c11
     obtain rfl := Option.some.inj H
     go_wp2
     go_ret
     exact ⟨_, by first | rfl | (simp [errW_none, errW_some] <;> rfl) | (simp [*, errW_none, errW_some] <;> rfl), by (with_reducible repeat first | apply Ra25 | apply Rn25 | apply Rd25); exact Ro25 HO_5.out (fun _ hk => trivial), by repeat (first | (with_reducible first | exact HB.out | apply ba25 | apply bn25 | apply bd25 | refine bs25 ?_ GE200.out) | exact HB.out)⟩
 ·replace c4 := Bool.eq_false_iff.mpr c4
  subst c4
  rw [if_neg (show ¬ (false = true) by decide)] at H
  obtain rfl := Option.some.inj H
  go_enter Try.func25, Try.ntmps25
  go_wp2_with (first | ((with_reducible refine gate_dst (N:=2) rfl ?_); refine box_event ?hg (N:=2) ?hd (cs:=#[.string a0_0, .string a0_1]) (t:=26) ?hr ?_; (case hd => rfl); (case hg => rfl); (case hr => first | (go_simp; done) | (go_simp; rfl)); intro gb200 hg w60 hbox hb; have BK200 := Am25 (hbox); have GW200 := Am25 ((by rw [hg]; exact (bz25 (by repeat (first | (with_reducible first | exact HB.out | apply ba25 | apply bn25 | apply bd25) | exact HB.out))) : w.heap.size ≤ gb200)); have GE200 := Am25 ((by rw [hg]; exact (bz25 (by repeat (first | (with_reducible first | exact HB.out | apply ba25 | apply bn25 | apply bd25) | exact HB.out))) : w.heap.size ≤ gb200)); replace HB := Am25 (bp25 (by repeat (first | (with_reducible first | exact HB.out | apply ba25 | apply bn25 | apply bd25) | exact HB.out)) hb); clear hb hbox hg; have hcz61_0 : w60.cell? ⟨gb200, 0, none⟩ = some (.string a0_0) := (kc25 BK200.out 0).trans rfl; have hcz61_1 : w60.cell? ⟨gb200, 1, none⟩ = some (.string a0_1) := (kc25 BK200.out 1).trans rfl; have hfz61_0 := kz25 BK200.out 0; have hfz61_1 := kz25 BK200.out 1) | ((with_reducible refine gate_callee (f:=17) rfl ?_); refine goesL_ (some 11) rfl rfl Try.func17 (by kernel_rfl) rfl #[.agg #[.string a0_0, .string a0_1]] rfl (by (try simp only [ma25, mc25, mn25]); first | done | rfl | (simp only [ld25, lt_25]; rfl)) ?_; (with_reducible refine (watershedref04_Right.calls k a0_0 a0_1 false _ A3.out).mono ?_); rintro e w62 ⟨rfl, hb⟩; refine ⟨_, rfl, ?_⟩; replace BK200 := Am25 (kb25 (g:=gb200) (o:=.cells #[.string a0_0, .string a0_1] 26 (0, 0)) (by (with_reducible repeat first | apply kn25 | apply kd25 | apply ka25); exact BK200.out) hb); replace HB := Am25 (bp25 (by repeat (first | (with_reducible first | exact HB.out | apply ba25 | apply bn25 | apply bd25 | refine bs25 ?_ GE200.out) | exact HB.out)) hb); (try clear hb); (try clear hb2); (try clear hk); (try clear hi)))
  go_ret
  exact ⟨_, by first | rfl | (simp [errW_none, errW_some] <;> rfl) | (simp [*, errW_none, errW_some] <;> rfl), by first | exact Kd.R_nil _ _ _ _ _ | exact Kd.N_nil _ _ _ _ _ | exact Kd.V_nil _ _ _ _ _ | exact Kd.Q_nil _ _ _ _ _ | exact Kd.S_nil _ _ _ _ _, by repeat (first | (with_reducible first | exact HB.out | apply ba25 | apply bn25 | apply bd25 | refine bs25 ?_ GE200.out) | exact HB.out)⟩

end Go.Proofs.Ytbmnhpihlkljdaa.P04e
