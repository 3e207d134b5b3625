-- Written by gprint.py, a program of this session, over the kit's print; the functions of my own contracts are marked GIVEN
import Derived.Test.YtbmnhpihlkljdaaZEP04ex0
import Derived.Test.YtbmnhpihlkljdaaZEP04ex1
import Derived.Test.YtbmnhpihlkljdaaZEP04ex2
import Derived.Test.YtbmnhpihlkljdaaZEP04ex3
import Derived.Test.YtbmnhpihlkljdaaZEP04ex4
import Derived.Test.YtbmnhpihlkljdaaZEP04ex5
import Derived.Test.YtbmnhpihlkljdaaZEP04ex6
import Derived.Test.YtbmnhpihlkljdaaZEP04ex7
import Derived.Test.YtbmnhpihlkljdaaZEP04ex8
import Derived.Test.YtbmnhpihlkljdaaZEP04ex9
import Derived.Test.YtbmnhpihlkljdaaZEPureEt
namespace Go.Proofs.Ytbmnhpihlkljdaa.P04e
open Go.RowKit Go.Proofs.YtbmnhpihlkljdaaW.PrintWords Go.Proofs.YtbmnhpihlkljdaaW.PrintLast Go.Proofs.YtbmnhpihlkljdaaW.PrintMore
attribute [local go_sem] max2_str max2_int min2_int max_two min_two max_three min_three max_four min_four   -- for this text's walks alone
set_option linter.unusedVariables false
set_option linter.unusedSimpArgs false

attribute [local go_sem high] eqA26
abbrev bb4 (n m : Nat) : Array Bool := ((List.range n).map fun i => m.testBit i).toArray
theorem Am4 : type_of% @Aside0.mk := @Aside0.mk
theorem Ra4 : type_of% @Kd.R_alloc := @Kd.R_alloc
theorem Rn4 : type_of% @Kd.R_drewN := @Kd.R_drewN
theorem Rd4 : type_of% @Kd.R_drew := @Kd.R_drew
theorem Rf4 : type_of% @Kd.R_far := @Kd.R_far
theorem Ro4 : type_of% @Kd.R_mono := @Kd.R_mono
theorem Rb4 : type_of% @Kd.R_below := @Kd.R_below
theorem Ry4 : type_of% @Kd.R_types := @Kd.R_types
theorem ba4 : type_of% @below_alloc := @below_alloc
theorem bn4 : type_of% @pw_below_drewN := @pw_below_drewN
theorem bd4 : type_of% @below_drew1 := @below_drew1
theorem bs4 : type_of% @below_set := @below_set
theorem kn4 : type_of% @blk_drewN := @blk_drewN
theorem kd4 : type_of% @blk_drew := @blk_drew
theorem ka4 : type_of% @blk_alloc := @blk_alloc
theorem kf4 : type_of% @blk_far := @blk_far
theorem kb4 : type_of% @blk_below := @blk_below
theorem Re4 : type_of% @Kd.R_elder' := @Kd.R_elder'
theorem Rw4 : type_of% @Kd.R_new' := @Kd.R_new'
theorem Rl4 : type_of% @Kd.R_lower := @Kd.R_lower
theorem Ra_4 : type_of% @Kd.R_base := @Kd.R_base
theorem Rt4 : type_of% @Kd.R_lt := @Kd.R_lt
theorem bz4 : type_of% @below_size := @below_size
theorem bp4 : type_of% @below_step := @below_step
theorem kc4 : type_of% @blk_cell := @blk_cell
theorem kz4 : type_of% @blk_frozen := @blk_frozen
theorem sa4 : type_of% @List.setIfInBounds_toArray := @List.setIfInBounds_toArray
theorem sz4 : type_of% @List.set_cons_zero := @List.set_cons_zero
theorem ss4 : type_of% @List.set_cons_succ := @List.set_cons_succ
theorem ma4 : type_of% @List.map_toArray := @List.map_toArray
theorem mc4 : type_of% @List.map_cons := @List.map_cons
theorem mn4 : type_of% @List.map_nil := @List.map_nil
theorem ld4 : type_of% @List.length_drop := @List.length_drop
theorem lt_4 : type_of% @List.length_take := @List.length_take
/-! ### watershedlaw04_SpanTells: function 4 -/
mutual
def watershedlaw04_SpanTells.j0 : Nat → List ByteArray → Bool → ByteArray → ByteArray → Option (Bool)
 | 0, _, _, _, _ => none
 | k + 1, x2, x63, x235000, x235001 => if x63 = true then (none) else (watershedlaw04_SpanTells.l0 k x2 0 x235000 x235001)
def watershedlaw04_SpanTells.l0 : Nat → List ByteArray → Int → ByteArray → ByteArray → Option (Bool)
 | 0, _, _, _, _ => none
 | k + 1, x2, x11, x235000, x235001 => if x11 < (x2.length : Int) then (if 0 ≤ x11 then ((span_Key.f k (rdOf ByteArray.empty x2 x11)).bind fun t257 => ((watershedref04_Key.f k (rdOf ByteArray.empty x2 x11)).bind fun t259 => (if (t257 != t259) = true then (none) else ((span_Has.f k x235000 x235001 (rdOf ByteArray.empty x2 x11)).bind fun t261 => ((watershedref04_Has.f k x235000 x235001 (rdOf ByteArray.empty x2 x11)).bind fun t263 => (if (t261 != t263) = true then (none) else (watershedlaw04_SpanTells.l0 k x2 (wrap64 (x11 + 1)) x235000 x235001))))))) else (none)) else ((watershedkit_LentTexts.f x2).bind fun t264 => ((span_Cut.f k x235000 x235001 t264).bind fun t267 => ((watershedref04_Cut.f k x235000 x235001 x2).bind fun t270 => ((watershedlaw04_same.f k t267 t270).bind fun t273 => (if t273 = true then ((watershedkit_KeptTexts.f t264 x2).bind fun t274 => (some t274)) else (none))))))
end
def watershedlaw04_SpanTells.f (k : Nat) (a0_0 : ByteArray) (a0_1 : ByteArray) (a1_0 : ByteArray) (a1_1 : ByteArray) (l2 : List ByteArray) : Option (Bool) := (watershedlaw04_awake.f k).bind fun t236 => (if t236 = true then ((some (([a0_0, a0_1, a1_0, a1_1] : List ByteArray) : List ByteArray)).bind fun y237 => (if y237.length + l2.length < 8796093022208 then ((watershedlaw04_few.f k (y237 ++ l2)).bind fun t243 => (if t243 = true then ((span_Meet.f k a0_0 a0_1 a1_0 a1_1).bind fun bt244 => ((watershedref04_Meet.f k a0_0 a0_1 a1_0 a1_1).bind fun bt248 => (if (!(bt244.1.toList == bt248.1.toList) || (!(bt244.2.1.toList == bt248.2.1.toList))) = true then (watershedlaw04_SpanTells.j0 k l2 true a0_0 a0_1) else (if (bt244.2.2 != bt248.2.2) = true then (watershedlaw04_SpanTells.j0 k l2 true a0_0 a0_1) else ((span_Within.f k a0_0 a0_1 a1_0 a1_1).bind fun t252 => ((watershedref04_Within.f k a0_0 a0_1 a1_0 a1_1).bind fun t253 => (if (t252 != t253) = true then (watershedlaw04_SpanTells.j0 k l2 true a0_0 a0_1) else ((span_Right.f k a0_0 a0_1).bind fun t254 => ((watershedref04_Right.f k a0_0 a0_1).bind fun t255 => (watershedlaw04_SpanTells.j0 k l2 (t254 != t255) a0_0 a0_1)))))))))) else (some true))) else (none))) else (none))
theorem watershedlaw04_SpanTells.mono_l : ∀ k, (∀ y0 y1 y2 y3, LeO (watershedlaw04_SpanTells.j0 k y0 y1 y2 y3) (watershedlaw04_SpanTells.j0 (k + 1) y0 y1 y2 y3)) ∧ (∀ y0 y1 y2 y3, LeO (watershedlaw04_SpanTells.l0 k y0 y1 y2 y3) (watershedlaw04_SpanTells.l0 (k + 1) y0 y1 y2 y3))
 | 0 => ⟨fun _ _ _ _ r h => by simp [watershedlaw04_SpanTells.j0] at h, fun _ _ _ _ r h => by simp [watershedlaw04_SpanTells.l0] at h⟩
 | k + 1 => by
  obtain ⟨ih0, ih1⟩ := watershedlaw04_SpanTells.mono_l k
  refine ⟨?_, ?_⟩
  ·intro y0 y1 y2 y3
   unfold watershedlaw04_SpanTells.j0
   repeat' first
   | (with_reducible exact ih0 _ _ _ _)
   | (with_reducible exact ih1 _ _ _ _)
   | (with_reducible exact span_Cut.mono _ _ _ _)
   | (with_reducible exact span_Has.mono _ _ _ _)
   | (with_reducible exact span_Key.mono _ _)
   | (with_reducible exact span_Meet.mono _ _ _ _ _)
   | (with_reducible exact span_Right.mono _ _ _)
   | (with_reducible exact span_Within.mono _ _ _ _ _)
   | (with_reducible exact watershedlaw04_awake.mono _)
   | (with_reducible exact watershedlaw04_few.mono _ _)
   | (with_reducible exact watershedlaw04_same.mono _ _ _)
   | (with_reducible exact watershedref04_Cut.mono _ _ _ _)
   | (with_reducible exact watershedref04_Has.mono _ _ _ _)
   | (with_reducible exact watershedref04_Key.mono _ _)
   | (with_reducible exact watershedref04_Meet.mono _ _ _ _ _)
   | (with_reducible exact watershedref04_Right.mono _ _ _)
   | (with_reducible exact watershedref04_Within.mono _ _ _ _ _)
   | (with_reducible exact LeO.refl _)
   | (with_reducible exact LeO.none _)
   | (with_reducible refine LeO.ite ?_ ?_)
   | (with_reducible refine LeO.bind ?_ (fun _ => ?_))
   | exact ih0 _ _ _ _
   | exact ih1 _ _ _ _
   | exact span_Cut.mono _ _ _ _
   | exact span_Has.mono _ _ _ _
   | exact span_Key.mono _ _
   | exact span_Meet.mono _ _ _ _ _
   | exact span_Right.mono _ _ _
   | exact span_Within.mono _ _ _ _ _
   | exact watershedlaw04_awake.mono _
   | exact watershedlaw04_few.mono _ _
   | exact watershedlaw04_same.mono _ _ _
   | exact watershedref04_Cut.mono _ _ _ _
   | exact watershedref04_Has.mono _ _ _ _
   | exact watershedref04_Key.mono _ _
   | exact watershedref04_Meet.mono _ _ _ _ _
   | exact watershedref04_Right.mono _ _ _
   | exact watershedref04_Within.mono _ _ _ _ _
   | exact LeO.none _
   | refine LeO.ite ?_ ?_
   | refine LeO.bind ?_ (fun _ => ?_)
  ·intro y0 y1 y2 y3
   unfold watershedlaw04_SpanTells.l0
   repeat' first
   | (with_reducible exact ih0 _ _ _ _)
   | (with_reducible exact ih1 _ _ _ _)
   | (with_reducible exact span_Cut.mono _ _ _ _)
   | (with_reducible exact span_Has.mono _ _ _ _)
   | (with_reducible exact span_Key.mono _ _)
   | (with_reducible exact span_Meet.mono _ _ _ _ _)
   | (with_reducible exact span_Right.mono _ _ _)
   | (with_reducible exact span_Within.mono _ _ _ _ _)
   | (with_reducible exact watershedlaw04_awake.mono _)
   | (with_reducible exact watershedlaw04_few.mono _ _)
   | (with_reducible exact watershedlaw04_same.mono _ _ _)
   | (with_reducible exact watershedref04_Cut.mono _ _ _ _)
   | (with_reducible exact watershedref04_Has.mono _ _ _ _)
   | (with_reducible exact watershedref04_Key.mono _ _)
   | (with_reducible exact watershedref04_Meet.mono _ _ _ _ _)
   | (with_reducible exact watershedref04_Right.mono _ _ _)
   | (with_reducible exact watershedref04_Within.mono _ _ _ _ _)
   | (with_reducible exact LeO.refl _)
   | (with_reducible exact LeO.none _)
   | (with_reducible refine LeO.ite ?_ ?_)
   | (with_reducible refine LeO.bind ?_ (fun _ => ?_))
   | exact ih0 _ _ _ _
   | exact ih1 _ _ _ _
   | exact span_Cut.mono _ _ _ _
   | exact span_Has.mono _ _ _ _
   | exact span_Key.mono _ _
   | exact span_Meet.mono _ _ _ _ _
   | exact span_Right.mono _ _ _
   | exact span_Within.mono _ _ _ _ _
   | exact watershedlaw04_awake.mono _
   | exact watershedlaw04_few.mono _ _
   | exact watershedlaw04_same.mono _ _ _
   | exact watershedref04_Cut.mono _ _ _ _
   | exact watershedref04_Has.mono _ _ _ _
   | exact watershedref04_Key.mono _ _
   | exact watershedref04_Meet.mono _ _ _ _ _
   | exact watershedref04_Right.mono _ _ _
   | exact watershedref04_Within.mono _ _ _ _ _
   | exact LeO.none _
   | refine LeO.ite ?_ ?_
   | refine LeO.bind ?_ (fun _ => ?_)
theorem watershedlaw04_SpanTells.mono : ∀ a0 a1 a2 a3 a4 k, LeO (watershedlaw04_SpanTells.f k a0 a1 a2 a3 a4) (watershedlaw04_SpanTells.f (k + 1) a0 a1 a2 a3 a4) := by
 intro a0 a1 a2 a3 a4 k
 obtain ⟨ih0, ih1⟩ := watershedlaw04_SpanTells.mono_l k
 unfold watershedlaw04_SpanTells.f
 repeat' first
   | (with_reducible exact ih0 _ _ _ _)
   | (with_reducible exact ih1 _ _ _ _)
   | (with_reducible exact span_Cut.mono _ _ _ _)
   | (with_reducible exact span_Has.mono _ _ _ _)
   | (with_reducible exact span_Key.mono _ _)
   | (with_reducible exact span_Meet.mono _ _ _ _ _)
   | (with_reducible exact span_Right.mono _ _ _)
   | (with_reducible exact span_Within.mono _ _ _ _ _)
   | (with_reducible exact watershedlaw04_awake.mono _)
   | (with_reducible exact watershedlaw04_few.mono _ _)
   | (with_reducible exact watershedlaw04_same.mono _ _ _)
   | (with_reducible exact watershedref04_Cut.mono _ _ _ _)
   | (with_reducible exact watershedref04_Has.mono _ _ _ _)
   | (with_reducible exact watershedref04_Key.mono _ _)
   | (with_reducible exact watershedref04_Meet.mono _ _ _ _ _)
   | (with_reducible exact watershedref04_Right.mono _ _ _)
   | (with_reducible exact watershedref04_Within.mono _ _ _ _ _)
   | (with_reducible exact LeO.refl _)
   | (with_reducible exact LeO.none _)
   | (with_reducible refine LeO.ite ?_ ?_)
   | (with_reducible refine LeO.bind ?_ (fun _ => ?_))
   | exact ih0 _ _ _ _
   | exact ih1 _ _ _ _
   | exact span_Cut.mono _ _ _ _
   | exact span_Has.mono _ _ _ _
   | exact span_Key.mono _ _
   | exact span_Meet.mono _ _ _ _ _
   | exact span_Right.mono _ _ _
   | exact span_Within.mono _ _ _ _ _
   | exact watershedlaw04_awake.mono _
   | exact watershedlaw04_few.mono _ _
   | exact watershedlaw04_same.mono _ _ _
   | exact watershedref04_Cut.mono _ _ _ _
   | exact watershedref04_Has.mono _ _ _ _
   | exact watershedref04_Key.mono _ _
   | exact watershedref04_Meet.mono _ _ _ _ _
   | exact watershedref04_Right.mono _ _ _
   | exact watershedref04_Within.mono _ _ _ _ _
   | exact LeO.none _
   | refine LeO.ite ?_ ?_
   | refine LeO.bind ?_ (fun _ => ?_)
def watershedlaw04_SpanTells.T7 : Bool × List (List Nat × List Nat) := (true, [([], []), ([], []), ([0, 1], [0, 1]), ([2], [2]), ([3], [3]), ([3], [3]), ([4, 5, 3], [3, 4, 5]), ([3, 6], [3, 6]), ([7, 3], [7]), ([8], [8]), ([8], [8]), ([9, 10, 8, 8], [8, 9, 10]), ([8], [8]), ([8], [8]), ([12, 13, 11, 8], [8, 12, 13]), ([11, 14, 8], [8, 11, 14]), ([8, 15], [8, 15]), ([16, 14], [16]), ([17], [17]), ([18, 17, 17], [17, 18]), ([17], [17]), ([20, 19, 17], [17, 20]), ([19, 21, 17], [17, 19, 21]), ([17, 22], [17, 22])])
def watershedlaw04_SpanTells.B7 : List Nat := [0, 0, 3, 7, 15, 15, 63, 127, 255, 511, 511, 2047, 511, 511, 16383, 32767, 65535, 131071, 262143, 524287, 262143, 2097151, 4194303, 8388607]
theorem watershedlaw04_SpanTells.tab7 : rtab .any (opsOf Try.f4 7) = watershedlaw04_SpanTells.T7 := by kernel_rfl
theorem watershedlaw04_SpanTells.bits7 : waitsOk watershedlaw04_SpanTells.T7.2 watershedlaw04_SpanTells.B7 = true := by kernel_rfl
def watershedlaw04_SpanTells.T12 : Bool × List (List Nat × List Nat) := (true, [([], []), ([], []), ([0, 1], [0, 1]), ([2], [2]), ([3], [3]), ([], []), ([], []), ([5, 6], [5, 6]), ([7], [7]), ([8, 4], [8]), ([4, 9], [4, 9]), ([10, 9], [10]), ([11], [11]), ([11], [11]), ([11], [11]), ([13, 14, 11], [11, 13, 14]), ([15, 11], [11, 15]), ([12, 16, 11, 11], [11, 12, 16]), ([11], [11]), ([11], [11]), ([11], [11]), ([19, 20, 11], [11, 19, 20]), ([21, 11], [11, 21]), ([18, 22, 17, 11], [11, 18, 22]), ([17, 23, 11], [11, 17, 23]), ([11, 24], [11, 24])])
def watershedlaw04_SpanTells.B12 : List Nat := [0, 0, 3, 7, 15, 0, 0, 96, 224, 511, 1023, 2047, 4095, 4095, 4095, 28671, 61439, 131071, 4095, 4095, 4095, 1576959, 3674111, 8388607, 16777215, 33554431]
theorem watershedlaw04_SpanTells.tab12 : rtab .any (opsOf Try.f4 12) = watershedlaw04_SpanTells.T12 := by kernel_rfl
theorem watershedlaw04_SpanTells.bits12 : waitsOk watershedlaw04_SpanTells.T12.2 watershedlaw04_SpanTells.B12 = true := by kernel_rfl
def watershedlaw04_SpanTells.T15 : Bool × List (List Nat × List Nat) := (true, [([], []), ([], []), ([0, 1], [0, 1]), ([], []), ([], []), ([3, 4, 2], [3, 4]), ([2, 5, 5], [2, 5]), ([6, 6], [6]), ([7], [7]), ([7], [7]), ([8, 9, 7, 7], [7, 8, 9]), ([7, 10], [7, 10]), ([11, 10, 0, 1, 2, 3, 4, 5, 6, 7, 8, 9, 10, 11], [11])])
def watershedlaw04_SpanTells.B15 : List Nat := [0, 0, 3, 0, 0, 31, 63, 127, 255, 255, 1023, 2047, 4095]
theorem watershedlaw04_SpanTells.tab15 : rtab .any (opsOf Try.f4 15) = watershedlaw04_SpanTells.T15 := by kernel_rfl
theorem watershedlaw04_SpanTells.bits15 : waitsOk watershedlaw04_SpanTells.T15.2 watershedlaw04_SpanTells.B15 = true := by kernel_rfl
theorem spanTells_len {k : Nat} {a b c d : ByteArray} {l : List ByteArray} {r : Bool} (h : watershedlaw04_SpanTells.f k a b c d l = some r) : l.length < 8796093022204 := by
 unfold watershedlaw04_SpanTells.f at h
 obtain ⟨t, _, h⟩ := Option.bind_eq_some_iff.1 h
 split at h
 · simp only [Option.bind_some] at h
   split at h
   · rename_i h1
     simp at h1
     omega
   · cases h
 · cases h
set_option maxHeartbeats 8000000 in
set_option maxRecDepth 100000 in
theorem watershedlaw04_SpanTells.calls (k : Nat) (a0_0 : ByteArray) (a0_1 : ByteArray) (a1_0 : ByteArray) (a1_1 : ByteArray) (A2 : Option Addr) (c2 : Nat) (l2 : List ByteArray) (r : Bool) (w : World) (hr2 : Kd.C Kd.string w A2 l2.length l2) (hc2 : l2.length ≤ c2) (h : watershedlaw04_SpanTells.f k a0_0 a0_1 a1_0 a1_1 l2 = some r) :
  Calls Try.prog 4 #[.agg #[.string a0_0, .string a0_1], .agg #[.string a1_0, .string a1_1], .slice A2 l2.length c2] w fun e w' => e = .returned (.bool r) ∧ Below w.heap.size w w' := by
 have hu26 := Try.underlying26
 have HR2 := Am4 hr2
 have HC2 := Am4 hc2
 have hb2 := spanTells_len h
 obtain ⟨kk, hkk⟩ := (ev_kept l2 (by omega)).rounds
 have HKK := Am4 hkk
 have HB2 := Am4 (show l2.length ≤ 8796093022204 by omega)
 clear hr2 hc2 hkk hb2
 have HB := Am4 (Below.refl w.heap.size w)
 have H : ((watershedlaw04_awake.f k).bind fun t236 => (if t236 = true then ((some (([a0_0, a0_1, a1_0, a1_1] : List ByteArray) : List ByteArray)).bind fun y237 => (if y237.length + l2.length < 8796093022208 then ((watershedlaw04_few.f k (y237 ++ l2)).bind fun t243 => (if t243 = true then ((span_Meet.f k a0_0 a0_1 a1_0 a1_1).bind fun bt244 => ((watershedref04_Meet.f k a0_0 a0_1 a1_0 a1_1).bind fun bt248 => (if (!(bt244.1.toList == bt248.1.toList) || (!(bt244.2.1.toList == bt248.2.1.toList))) = true then (watershedlaw04_SpanTells.j0 k l2 true a0_0 a0_1) else (if (bt244.2.2 != bt248.2.2) = true then (watershedlaw04_SpanTells.j0 k l2 true a0_0 a0_1) else ((span_Within.f k a0_0 a0_1 a1_0 a1_1).bind fun t252 => ((watershedref04_Within.f k a0_0 a0_1 a1_0 a1_1).bind fun t253 => (if (t252 != t253) = true then (watershedlaw04_SpanTells.j0 k l2 true a0_0 a0_1) else ((span_Right.f k a0_0 a0_1).bind fun t254 => ((watershedref04_Right.f k a0_0 a0_1).bind fun t255 => (watershedlaw04_SpanTells.j0 k l2 (t254 != t255) a0_0 a0_1)))))))))) else (some true))) else (none))) else (none))) = some r := h
 clear h
 replace H := Option.bind_eq_some_iff.mp H
 obtain ⟨t236, A40, H⟩ := H
 try dsimp only at H
 have A4 := Am4 A40
 clear A40
 by_cases c5 : t236 = true
 ·subst c5
  rw [if_pos rfl] at H
  obtain ⟨y237, hy237⟩ : ∃ y_ : List ByteArray, y_ = (([a0_0, a0_1, a1_0, a1_1] : List ByteArray)) := ⟨_, rfl⟩
  replace H : (if y237.length + l2.length < 8796093022208 then ((watershedlaw04_few.f k (y237 ++ l2)).bind fun t243 => (if t243 = true then ((span_Meet.f k a0_0 a0_1 a1_0 a1_1).bind fun bt244 => ((watershedref04_Meet.f k a0_0 a0_1 a1_0 a1_1).bind fun bt248 => (if (!(bt244.1.toList == bt248.1.toList) || (!(bt244.2.1.toList == bt248.2.1.toList))) = true then (watershedlaw04_SpanTells.j0 k l2 true a0_0 a0_1) else (if (bt244.2.2 != bt248.2.2) = true then (watershedlaw04_SpanTells.j0 k l2 true a0_0 a0_1) else ((span_Within.f k a0_0 a0_1 a1_0 a1_1).bind fun t252 => ((watershedref04_Within.f k a0_0 a0_1 a1_0 a1_1).bind fun t253 => (if (t252 != t253) = true then (watershedlaw04_SpanTells.j0 k l2 true a0_0 a0_1) else ((span_Right.f k a0_0 a0_1).bind fun t254 => ((watershedref04_Right.f k a0_0 a0_1).bind fun t255 => (watershedlaw04_SpanTells.j0 k l2 (t254 != t255) a0_0 a0_1)))))))))) else (some true))) else (none)) = some r := by first | (rw [hy237]; with_reducible exact H) | (have H2_ := (Option.bind_some _ _).symm.trans H; rw [hy237]; with_reducible exact H2_) | (have H2_ := (Option.bind_some _ _).symm.trans H; with_reducible exact H2_) | with_reducible exact H | (rw [hy237]; exact H) | exact H
  have Ny237 := Am4 hy237
  clear hy237
  by_cases c6 : y237.length + l2.length < 8796093022208
  ·rw [if_pos c6] at H
   have LMc6 := Am4 c6
   clear c6
   obtain ⟨y240, hy240⟩ : ∃ y_ : List ByteArray, y_ = (y237 ++ l2) := ⟨_, rfl⟩
   replace H : ((watershedlaw04_few.f k y240).bind fun t243 => (if t243 = true then ((span_Meet.f k a0_0 a0_1 a1_0 a1_1).bind fun bt244 => ((watershedref04_Meet.f k a0_0 a0_1 a1_0 a1_1).bind fun bt248 => (if (!(bt244.1.toList == bt248.1.toList) || (!(bt244.2.1.toList == bt248.2.1.toList))) = true then (watershedlaw04_SpanTells.j0 k l2 true a0_0 a0_1) else (if (bt244.2.2 != bt248.2.2) = true then (watershedlaw04_SpanTells.j0 k l2 true a0_0 a0_1) else ((span_Within.f k a0_0 a0_1 a1_0 a1_1).bind fun t252 => ((watershedref04_Within.f k a0_0 a0_1 a1_0 a1_1).bind fun t253 => (if (t252 != t253) = true then (watershedlaw04_SpanTells.j0 k l2 true a0_0 a0_1) else ((span_Right.f k a0_0 a0_1).bind fun t254 => ((watershedref04_Right.f k a0_0 a0_1).bind fun t255 => (watershedlaw04_SpanTells.j0 k l2 (t254 != t255) a0_0 a0_1)))))))))) else (some true))) = some r := by first | (rw [hy240]; with_reducible exact H) | (have H2_ := (Option.bind_some _ _).symm.trans H; rw [hy240]; with_reducible exact H2_) | (have H2_ := (Option.bind_some _ _).symm.trans H; with_reducible exact H2_) | with_reducible exact H | (rw [hy240]; exact H) | exact H
   have Ny240 := Am4 hy240
   clear hy240
   replace H := Option.bind_eq_some_iff.mp H
   obtain ⟨t243, A70, H⟩ := H
   try dsimp only at H
   have A7 := Am4 A70
   clear A70
   by_cases c8 : t243 = true
   ·subst c8
    rw [if_pos rfl] at H
    replace H := Option.bind_eq_some_iff.mp H
    obtain ⟨⟨t244, t245, t246⟩, A90, H⟩ := H
    try dsimp only at H
    have A9 := Am4 A90
    clear A90
    replace H := Option.bind_eq_some_iff.mp H
    obtain ⟨⟨t248, t249, t250⟩, A100, H⟩ := H
    try dsimp only at H
    have A10 := Am4 A100
    clear A100
    have HC11 := Am4 H
    clear H
    go_enter Try.func4, Try.ntmps4
    go_upto_region 7 with (first | ((with_reducible refine gate_dst (N:=3) rfl ?_); refine box_event ?hg (N:=3) ?hd (cs:=#[.string a0_0, .string a0_1]) (t:=26) ?hr ?_; (case hd => rfl); (case hg => rfl); (case hr => first | (go_simp; done) | (go_simp; rfl)); intro gb234 hg w12 hbox hb; have BK234 := Am4 (hbox); have GW234 := Am4 ((by rw [hg]; exact (bz4 (by repeat (first | (with_reducible first | exact HB.out | apply ba4 | apply bn4 | apply bd4) | exact HB.out))) : w.heap.size ≤ gb234)); have GE234 := Am4 ((by rw [hg]; exact (bz4 (by repeat (first | (with_reducible first | exact HB.out | apply ba4 | apply bn4 | apply bd4) | exact HB.out))) : w.heap.size ≤ gb234)); replace HB := Am4 (bp4 (by repeat (first | (with_reducible first | exact HB.out | apply ba4 | apply bn4 | apply bd4) | exact HB.out)) hb); clear hb hbox hg) | ((with_reducible refine gate_dst (N:=4) rfl ?_); refine box_event ?hg (N:=4) ?hd (cs:=#[.string a1_0, .string a1_1]) (t:=26) ?hr ?_; (case hd => rfl); (case hg => rfl); (case hr => first | (go_simp; done) | (go_simp; rfl)); intro gb235 hg w13 hbox hb; have BK235 := Am4 (hbox); have GW235 := Am4 ((by rw [hg]; exact (bz4 (by repeat (first | (with_reducible first | exact HB.out | apply ba4 | apply bn4 | apply bd4 | refine bs4 ?_ GE234.out) | exact HB.out))) : w.heap.size ≤ gb235)); have GE235 := Am4 ((by rw [hg]; exact (bz4 (by repeat (first | (with_reducible first | exact HB.out | apply ba4 | apply bn4 | apply bd4 | refine bs4 ?_ GE234.out) | exact HB.out))) : w.heap.size ≤ gb235)); replace HB := Am4 (bp4 (by repeat (first | (with_reducible first | exact HB.out | apply ba4 | apply bn4 | apply bd4 | refine bs4 ?_ GE234.out) | exact HB.out)) hb); have NB234_235 := Am4 ((by rw [hg]; exact Nat.ne_of_lt (blk_lt (g:=gb234) (o:=.cells #[.string a0_0, .string a0_1] 26 (0, 0)) (by (with_reducible repeat first | apply kn4 | apply kd4 | apply ka4); exact BK234.out)) : gb234 ≠ gb235)); have NB235_234 := Am4 ((by rw [hg]; exact Nat.ne_of_gt (blk_lt (g:=gb234) (o:=.cells #[.string a0_0, .string a0_1] 26 (0, 0)) (by (with_reducible repeat first | apply kn4 | apply kd4 | apply ka4); exact BK234.out)) : gb235 ≠ gb234)); replace BK234 := Am4 (kb4 (g:=gb234) (o:=.cells #[.string a0_0, .string a0_1] 26 (0, 0)) (by (with_reducible repeat first | apply kn4 | apply kd4 | apply ka4); exact BK234.out) hb); clear hb hbox hg) | ((with_reducible refine gate_callee (f:=8) rfl ?_); refine goesL_ (some 13) rfl rfl Try.func8 (by kernel_rfl) rfl #[] rfl (by (try simp only [ma4, mc4, mn4]); first | done | rfl | (simp only [ld4, lt_4]; rfl)) ?_; (with_reducible refine (watershedlaw04_awake.calls k  true _ A4.out).mono ?_); rintro e w14 ⟨rfl, hb⟩; refine ⟨_, rfl, ?_⟩; replace BK234 := Am4 (kb4 (g:=gb234) (o:=.cells #[.string a0_0, .string a0_1] 26 (0, 0)) (by (with_reducible repeat first | apply kn4 | apply kd4 | apply ka4); exact BK234.out) hb); replace BK235 := Am4 (kb4 (g:=gb235) (o:=.cells #[.string a1_0, .string a1_1] 26 (0, 0)) (by (with_reducible repeat first | apply kn4 | apply kd4 | apply ka4); exact BK235.out) hb); replace HB := Am4 (bp4 (by repeat (first | (with_reducible first | exact HB.out | apply ba4 | apply bn4 | apply bd4 | refine bs4 ?_ GE234.out | refine bs4 ?_ GE235.out) | exact HB.out)) hb); (try clear hb); (try clear hb2); (try clear hk); (try clear hi); have hnb15 := NB234_235.out; have hnc15 := NB235_234.out; have hcz16_0 : w14.cell? ⟨gb234, 0, none⟩ = some (.string a0_0) := (kc4 BK234.out 0).trans rfl; have hcz16_1 : w14.cell? ⟨gb234, 1, none⟩ = some (.string a0_1) := (kc4 BK234.out 1).trans rfl; have hfz16_0 := kz4 BK234.out 0; have hfz16_1 := kz4 BK234.out 1; have hcz17_0 : w14.cell? ⟨gb235, 0, none⟩ = some (.string a1_0) := (kc4 BK235.out 0).trans rfl; have hcz17_1 : w14.cell? ⟨gb235, 1, none⟩ = some (.string a1_1) := (kc4 BK235.out 1).trans rfl; have hfz17_0 := kz4 BK235.out 0; have hfz17_1 := kz4 BK235.out 1) | ((with_reducible refine gate_dst (N:=23) rfl ?_); refine Kd.R_lit Kd.string _ 9 ?hg (N:=23) ?hd (xs:=([a0_0, a0_1, a1_0, a1_1] : List ByteArray)) (inner:=[.string a0_0, .string a0_1, .string a1_0, .string a1_1]) (ok:=fun _ => True) (okp:=fun _ => True) ?hr ?hp (fun _ hk => hk) trivial (Below.refl _ _) (Nat.le_refl _) (by simp) ?_; (case hd => rfl); (case hg => rfl); (case hr => first | (go_simp; done) | (go_simp; rfl)); (case hp => exact (Reps.one (show Kd.M Kd.string _ _ _ a0_0 [.string a0_0] from rfl) (Reps.one (show Kd.M Kd.string _ _ _ a0_1 [.string a0_1] from rfl) (Reps.one (show Kd.M Kd.string _ _ _ a1_0 [.string a1_0] from rfl) (Reps.one (show Kd.M Kd.string _ _ _ a1_1 [.string a1_1] from rfl) (Reps.none _ _)))))); intro v238 w18 ho19 hb hg_ hnew_; clear hg_ hnew_; (first | rw [← Ny237.out] at ho19 | (simp only [Int.reduceToNat] at ho19; rw [← Ny237.out] at ho19)); have HO239 := Am4 (Rl4 ho19 (bz4 (by repeat (first | (with_reducible first | exact HB.out | apply ba4 | apply bn4 | apply bd4 | refine bs4 ?_ GE234.out | refine bs4 ?_ GE235.out) | exact HB.out)))); replace BK234 := Am4 (kb4 (g:=gb234) (o:=.cells #[.string a0_0, .string a0_1] 26 (0, 0)) (by (with_reducible repeat first | apply kn4 | apply kd4 | apply ka4); exact BK234.out) hb); replace BK235 := Am4 (kb4 (g:=gb235) (o:=.cells #[.string a1_0, .string a1_1] 26 (0, 0)) (by (with_reducible repeat first | apply kn4 | apply kd4 | apply ka4); exact BK235.out) hb); replace HB := Am4 (bp4 (by repeat (first | (with_reducible first | exact HB.out | apply ba4 | apply bn4 | apply bd4 | refine bs4 ?_ GE234.out | refine bs4 ?_ GE235.out) | exact HB.out)) hb); clear hb ho19) | ((with_reducible refine gate_builtin (b:=.append) (xs:=#[.tmp 23, .tmp 24]) rfl ?_); at_builtin; refine Kd.R_append_rows Kd.string (w0:=w) w.heap.size rfl (.tmp 23) (.tmp 24) 24 9 (.string ⟨#[]⟩) 16 rfl Try.underlying24 info9 rfl (by decide) (by omega) v238 y237 l2 _ _ _ (fun _ => True) (fun _ => False) rfl rfl ?aO ?aR (fun _ _ h => h) (fun _ h => h.elim) ?aF ?aB ?aS ?aL ?_; (case aR => repeat (first | exact (Kd.C_below HR2.out HB.out) | (with_reducible refine Kd.C_alloc ?_ _) | (with_reducible refine Kd.C_drewN ?_ _) | (with_reducible refine Kd.C_drew ?_))); (case aB => exact (by repeat (first | (with_reducible first | exact HB.out | apply ba4 | apply bn4 | apply bd4 | refine bs4 ?_ GE234.out | refine bs4 ?_ GE235.out) | exact HB.out))); (case aF => exact (fun _ _ => trivial)); (case aO => exact (by (with_reducible repeat first | apply Ra4 | apply Rn4 | apply Rd4); exact HO239.out)); (case aS => exact (bz4 (by repeat (first | (with_reducible first | exact HB.out | apply ba4 | apply bn4 | apply bd4 | refine bs4 ?_ GE234.out | refine bs4 ?_ GE235.out) | exact HB.out)))); (case aL => have := LMc6.out; omega); intro v241 w20 ho hb hg hat; rw [← Ny240.out] at ho; have n0_ := Am4 (blk_grown (g:=gb234) (o:=.cells #[.string a0_0, .string a0_1] 26 (0, 0)) (by (with_reducible repeat first | apply kn4 | apply kd4 | apply ka4); exact BK234.out) hg (Kd.R_ne HO239.out BK234.out (by decide))); have n1_ := Am4 (blk_grown (g:=gb235) (o:=.cells #[.string a1_0, .string a1_1] 26 (0, 0)) (by (with_reducible repeat first | apply kn4 | apply kd4 | apply ka4); exact BK235.out) hg (Kd.R_ne HO239.out BK235.out (by decide))); have n2_ := Am4 (hb); have n3_ := Am4 (ho); clear BK234; clear BK235; clear HB; clear HO239; have BK234 := n0_; have BK235 := n1_; have HB := n2_; have HO242 := n3_; clear n0_ n1_ n2_ n3_; clear ho hb hg hat; obtain ⟨Ao21, co21, eo21⟩ := Kd.R_slice HO242.out; subst eo21) | ((with_reducible refine gate_callee (f:=9) rfl ?_); refine goesL_ (some 26) rfl rfl Try.func9 (by kernel_rfl) rfl #[.slice Ao21 y240.length co21] rfl (by (try simp only [ma4, mc4, mn4]); first | done | rfl | (simp only [ld4, lt_4]; rfl)) ?_; (with_reducible refine (watershedlaw04_few.calls k _ _ y240 true _ ?side1 ?side2 A7.out).mono ?_); (case side1 => repeat (first | exact (Kd.R_reads' HO242.out).2.2 | (with_reducible refine Kd.C_alloc ?_ _) | (with_reducible refine Kd.C_drewN ?_ _) | (with_reducible refine Kd.C_drew ?_))); (case side2 => exact (Kd.R_reads' HO242.out).2.1); rintro e w' ⟨rfl, ⟨nd, rfl⟩⟩; refine ⟨_, rfl, ?_⟩; (try (rw [drewN_self w20]; generalize hq_ : World.drewN w20 _ = w20; have n0_ : Aside0 (Kd.R Kd.string 9 w20 w.heap.size (fun _ => True) (.slice Ao21 y240.length co21) y240) := ⟨by rw [← hq_]; exact (by (with_reducible repeat first | apply Ra4 | apply Rn4 | apply Rd4); exact HO242.out)⟩; have n1_ : Aside0 (w20.heap[gb234]? = some (.cells #[.string a0_0, .string a0_1] 26 (0, 0))) := ⟨by rw [← hq_]; exact (by (with_reducible repeat first | apply kn4 | apply kd4 | apply ka4); exact BK234.out)⟩; have n2_ : Aside0 (w20.heap[gb235]? = some (.cells #[.string a1_0, .string a1_1] 26 (0, 0))) := ⟨by rw [← hq_]; exact (by (with_reducible repeat first | apply kn4 | apply kd4 | apply ka4); exact BK235.out)⟩; have n3_ : Aside0 (Below w.heap.size w w20) := ⟨by rw [← hq_]; exact (by repeat (first | (with_reducible first | exact HB.out | apply ba4 | apply bn4 | apply bd4 | refine bs4 ?_ GE234.out | refine bs4 ?_ GE235.out) | exact HB.out))⟩; clear HO242 BK234 BK235 HB hq_; have HO242 := n0_; have BK234 := n1_; have BK235 := n2_; have HB := n3_; clear n0_ n1_ n2_ n3_)); have hcz22_0 : w20.cell? ⟨gb234, 0, none⟩ = some (.string a0_0) := (kc4 BK234.out 0).trans rfl; have hcz22_1 : w20.cell? ⟨gb234, 1, none⟩ = some (.string a0_1) := (kc4 BK234.out 1).trans rfl; have hfz22_0 := kz4 BK234.out 0; have hfz22_1 := kz4 BK234.out 1; have hcz23_0 : w20.cell? ⟨gb235, 0, none⟩ = some (.string a1_0) := (kc4 BK235.out 0).trans rfl; have hcz23_1 : w20.cell? ⟨gb235, 1, none⟩ = some (.string a1_1) := (kc4 BK235.out 1).trans rfl; have hfz23_0 := kz4 BK235.out 0; have hfz23_1 := kz4 BK235.out 1) | ((with_reducible refine gate_callee (f:=12) rfl ?_); refine goesL_ (some 31) rfl rfl Try.func12 (by kernel_rfl) rfl #[.agg #[.string a0_0, .string a0_1], .agg #[.string a1_0, .string a1_1]] rfl (by (try simp only [ma4, mc4, mn4]); first | done | rfl | (simp only [ld4, lt_4]; rfl)) ?_; (with_reducible refine (span_Meet.calls k a0_0 a0_1 a1_0 a1_1 t244 t245 t246 _ A9.out).mono ?_); rintro e w24 ⟨rfl, hb⟩; refine ⟨_, rfl, ?_⟩; replace HO242 := Am4 (Rb4 (by (with_reducible repeat first | apply Ra4 | apply Rn4 | apply Rd4); exact HO242.out) hb); replace BK234 := Am4 (kb4 (g:=gb234) (o:=.cells #[.string a0_0, .string a0_1] 26 (0, 0)) (by (with_reducible repeat first | apply kn4 | apply kd4 | apply ka4); exact BK234.out) hb); replace BK235 := Am4 (kb4 (g:=gb235) (o:=.cells #[.string a1_0, .string a1_1] 26 (0, 0)) (by (with_reducible repeat first | apply kn4 | apply kd4 | apply ka4); exact BK235.out) hb); replace HB := Am4 (bp4 (by repeat (first | (with_reducible first | exact HB.out | apply ba4 | apply bn4 | apply bd4 | refine bs4 ?_ GE234.out | refine bs4 ?_ GE235.out) | exact HB.out)) hb); (try clear hb); (try clear hb2); (try clear hk); (try clear hi)) | ((with_reducible refine gate_dst (N:=7) rfl ?_); refine box_event ?hg (N:=7) ?hd (cs:=#[.string (⟨#[]⟩ : ByteArray), .string (⟨#[]⟩ : ByteArray)]) (t:=26) ?hr ?_; (case hd => rfl); (case hg => rfl); (case hr => first | (go_simp; done) | (go_simp; rfl)); intro gb247 hg w25 hbox hb; replace HO242 := Am4 (Rb4 (by (with_reducible repeat first | apply Ra4 | apply Rn4 | apply Rd4); exact HO242.out) hb); have BK247 := Am4 (hbox); have GW247 := Am4 ((by rw [hg]; exact (bz4 (by repeat (first | (with_reducible first | exact HB.out | apply ba4 | apply bn4 | apply bd4 | refine bs4 ?_ GE234.out | refine bs4 ?_ GE235.out) | exact HB.out))) : w.heap.size ≤ gb247)); have GE247 := Am4 ((by rw [hg]; exact (bz4 (by repeat (first | (with_reducible first | exact HB.out | apply ba4 | apply bn4 | apply bd4 | refine bs4 ?_ GE234.out | refine bs4 ?_ GE235.out) | exact HB.out))) : w.heap.size ≤ gb247)); replace HB := Am4 (bp4 (by repeat (first | (with_reducible first | exact HB.out | apply ba4 | apply bn4 | apply bd4 | refine bs4 ?_ GE234.out | refine bs4 ?_ GE235.out) | exact HB.out)) hb); have NB234_247 := Am4 ((by rw [hg]; exact Nat.ne_of_lt (blk_lt (g:=gb234) (o:=.cells #[.string a0_0, .string a0_1] 26 (0, 0)) (by (with_reducible repeat first | apply kn4 | apply kd4 | apply ka4); exact BK234.out)) : gb234 ≠ gb247)); have NB247_234 := Am4 ((by rw [hg]; exact Nat.ne_of_gt (blk_lt (g:=gb234) (o:=.cells #[.string a0_0, .string a0_1] 26 (0, 0)) (by (with_reducible repeat first | apply kn4 | apply kd4 | apply ka4); exact BK234.out)) : gb247 ≠ gb234)); replace BK234 := Am4 (kb4 (g:=gb234) (o:=.cells #[.string a0_0, .string a0_1] 26 (0, 0)) (by (with_reducible repeat first | apply kn4 | apply kd4 | apply ka4); exact BK234.out) hb); have NB235_247 := Am4 ((by rw [hg]; exact Nat.ne_of_lt (blk_lt (g:=gb235) (o:=.cells #[.string a1_0, .string a1_1] 26 (0, 0)) (by (with_reducible repeat first | apply kn4 | apply kd4 | apply ka4); exact BK235.out)) : gb235 ≠ gb247)); have NB247_235 := Am4 ((by rw [hg]; exact Nat.ne_of_gt (blk_lt (g:=gb235) (o:=.cells #[.string a1_0, .string a1_1] 26 (0, 0)) (by (with_reducible repeat first | apply kn4 | apply kd4 | apply ka4); exact BK235.out)) : gb247 ≠ gb235)); replace BK235 := Am4 (kb4 (g:=gb235) (o:=.cells #[.string a1_0, .string a1_1] 26 (0, 0)) (by (with_reducible repeat first | apply kn4 | apply kd4 | apply ka4); exact BK235.out) hb); clear hb hbox hg; have hnb26 := NB247_234.out; have hnc26 := NB234_247.out; have hnb27 := NB247_235.out; have hnc27 := NB235_247.out; have hcz28_0 : w25.cell? ⟨gb247, 0, none⟩ = some (.string (⟨#[]⟩ : ByteArray)) := (kc4 BK247.out 0).trans rfl; have hcz28_1 : w25.cell? ⟨gb247, 1, none⟩ = some (.string (⟨#[]⟩ : ByteArray)) := (kc4 BK247.out 1).trans rfl; have hfz28_0 := kz4 BK247.out 0; have hfz28_1 := kz4 BK247.out 1; have hcz29_0 : w25.cell? ⟨gb234, 0, none⟩ = some (.string a0_0) := (kc4 BK234.out 0).trans rfl; have hcz29_1 : w25.cell? ⟨gb234, 1, none⟩ = some (.string a0_1) := (kc4 BK234.out 1).trans rfl; have hfz29_0 := kz4 BK234.out 0; have hfz29_1 := kz4 BK234.out 1; have hcz30_0 : w25.cell? ⟨gb235, 0, none⟩ = some (.string a1_0) := (kc4 BK235.out 0).trans rfl; have hcz30_1 : w25.cell? ⟨gb235, 1, none⟩ = some (.string a1_1) := (kc4 BK235.out 1).trans rfl; have hfz30_0 := kz4 BK235.out 0; have hfz30_1 := kz4 BK235.out 1) | ((with_reducible refine gate_callee (f:=13) rfl ?_); refine goesL_ (some 37) rfl rfl Try.func13 (by kernel_rfl) rfl #[.agg #[.string a0_0, .string a0_1], .agg #[.string a1_0, .string a1_1]] rfl (by (try simp only [ma4, mc4, mn4]); first | done | rfl | (simp only [ld4, lt_4]; rfl)) ?_; (with_reducible refine (watershedref04_Meet.calls k a0_0 a0_1 a1_0 a1_1 t248 t249 t250 _ A10.out).mono ?_); rintro e w31 ⟨rfl, hb⟩; refine ⟨_, rfl, ?_⟩; replace HO242 := Am4 (Rb4 (by (with_reducible repeat first | apply Ra4 | apply Rn4 | apply Rd4); exact (Ro4 (Rf4 (p:=⟨gb247, 1, none⟩) (Rf4 (p:=⟨gb247, 0, none⟩) (Ry4 HO242.out BK247.out (by decide)) (fun _ h=>h.2) (.string t244)) (fun _ h=>h.2) (.string t245)) (fun _ h=>h.1))) hb); replace BK234 := Am4 (kb4 (g:=gb234) (o:=.cells #[.string a0_0, .string a0_1] 26 (0, 0)) (by (with_reducible repeat first | apply kn4 | apply kd4 | apply ka4); refine kf4 ?_ NB234_247.out _; (with_reducible repeat first | apply kn4 | apply kd4 | apply ka4); refine kf4 ?_ NB234_247.out _; (with_reducible repeat first | apply kn4 | apply kd4 | apply ka4); exact BK234.out) hb); replace BK235 := Am4 (kb4 (g:=gb235) (o:=.cells #[.string a1_0, .string a1_1] 26 (0, 0)) (by (with_reducible repeat first | apply kn4 | apply kd4 | apply ka4); refine kf4 ?_ NB235_247.out _; (with_reducible repeat first | apply kn4 | apply kd4 | apply ka4); refine kf4 ?_ NB235_247.out _; (with_reducible repeat first | apply kn4 | apply kd4 | apply ka4); exact BK235.out) hb); replace BK247 := Am4 (kb4 (g:=gb247) (o:=.cells #[.string t244, .string t245] 26 (0, 0)) (by (with_reducible repeat first | apply kn4 | apply kd4 | apply ka4); refine blk_put (cs:=#[.string t244, .string (⟨#[]⟩ : ByteArray)]) ?_ 1 _ rfl; (with_reducible repeat first | apply kn4 | apply kd4 | apply ka4); refine blk_put (cs:=#[.string (⟨#[]⟩ : ByteArray), .string (⟨#[]⟩ : ByteArray)]) ?_ 0 _ rfl; (with_reducible repeat first | apply kn4 | apply kd4 | apply ka4); exact BK247.out) hb); replace HB := Am4 (bp4 (by repeat (first | (with_reducible first | exact HB.out | apply ba4 | apply bn4 | apply bd4 | refine bs4 ?_ GE234.out | refine bs4 ?_ GE235.out | refine bs4 ?_ GE247.out) | exact HB.out)) hb); (try clear hb); (try clear hb2); (try clear hk); (try clear hi)) | ((with_reducible refine gate_dst (N:=9) rfl ?_); refine box_event ?hg (N:=9) ?hd (cs:=#[.string (⟨#[]⟩ : ByteArray), .string (⟨#[]⟩ : ByteArray)]) (t:=26) ?hr ?_; (case hd => rfl); (case hg => rfl); (case hr => first | (go_simp; done) | (go_simp; rfl)); intro gb251 hg w32 hbox hb; replace HO242 := Am4 (Rb4 (by (with_reducible repeat first | apply Ra4 | apply Rn4 | apply Rd4); exact HO242.out) hb); have BK251 := Am4 (hbox); have GW251 := Am4 ((by rw [hg]; exact (bz4 (by repeat (first | (with_reducible first | exact HB.out | apply ba4 | apply bn4 | apply bd4 | refine bs4 ?_ GE234.out | refine bs4 ?_ GE235.out | refine bs4 ?_ GE247.out) | exact HB.out))) : w.heap.size ≤ gb251)); have GE251 := Am4 ((by rw [hg]; exact (bz4 (by repeat (first | (with_reducible first | exact HB.out | apply ba4 | apply bn4 | apply bd4 | refine bs4 ?_ GE234.out | refine bs4 ?_ GE235.out | refine bs4 ?_ GE247.out) | exact HB.out))) : w.heap.size ≤ gb251)); replace HB := Am4 (bp4 (by repeat (first | (with_reducible first | exact HB.out | apply ba4 | apply bn4 | apply bd4 | refine bs4 ?_ GE234.out | refine bs4 ?_ GE235.out | refine bs4 ?_ GE247.out) | exact HB.out)) hb); have NB234_251 := Am4 ((by rw [hg]; exact Nat.ne_of_lt (blk_lt (g:=gb234) (o:=.cells #[.string a0_0, .string a0_1] 26 (0, 0)) (by (with_reducible repeat first | apply kn4 | apply kd4 | apply ka4); exact BK234.out)) : gb234 ≠ gb251)); have NB251_234 := Am4 ((by rw [hg]; exact Nat.ne_of_gt (blk_lt (g:=gb234) (o:=.cells #[.string a0_0, .string a0_1] 26 (0, 0)) (by (with_reducible repeat first | apply kn4 | apply kd4 | apply ka4); exact BK234.out)) : gb251 ≠ gb234)); replace BK234 := Am4 (kb4 (g:=gb234) (o:=.cells #[.string a0_0, .string a0_1] 26 (0, 0)) (by (with_reducible repeat first | apply kn4 | apply kd4 | apply ka4); exact BK234.out) hb); have NB235_251 := Am4 ((by rw [hg]; exact Nat.ne_of_lt (blk_lt (g:=gb235) (o:=.cells #[.string a1_0, .string a1_1] 26 (0, 0)) (by (with_reducible repeat first | apply kn4 | apply kd4 | apply ka4); exact BK235.out)) : gb235 ≠ gb251)); have NB251_235 := Am4 ((by rw [hg]; exact Nat.ne_of_gt (blk_lt (g:=gb235) (o:=.cells #[.string a1_0, .string a1_1] 26 (0, 0)) (by (with_reducible repeat first | apply kn4 | apply kd4 | apply ka4); exact BK235.out)) : gb251 ≠ gb235)); replace BK235 := Am4 (kb4 (g:=gb235) (o:=.cells #[.string a1_0, .string a1_1] 26 (0, 0)) (by (with_reducible repeat first | apply kn4 | apply kd4 | apply ka4); exact BK235.out) hb); have NB247_251 := Am4 ((by rw [hg]; exact Nat.ne_of_lt (blk_lt (g:=gb247) (o:=.cells #[.string t244, .string t245] 26 (0, 0)) (by (with_reducible repeat first | apply kn4 | apply kd4 | apply ka4); exact BK247.out)) : gb247 ≠ gb251)); have NB251_247 := Am4 ((by rw [hg]; exact Nat.ne_of_gt (blk_lt (g:=gb247) (o:=.cells #[.string t244, .string t245] 26 (0, 0)) (by (with_reducible repeat first | apply kn4 | apply kd4 | apply ka4); exact BK247.out)) : gb251 ≠ gb247)); replace BK247 := Am4 (kb4 (g:=gb247) (o:=.cells #[.string t244, .string t245] 26 (0, 0)) (by (with_reducible repeat first | apply kn4 | apply kd4 | apply ka4); exact BK247.out) hb); clear hb hbox hg; have hnb33 := NB251_234.out; have hnc33 := NB234_251.out; have hnb34 := NB251_235.out; have hnc34 := NB235_251.out; have hnb35 := NB251_247.out; have hnc35 := NB247_251.out; have hcz36_0 : w32.cell? ⟨gb251, 0, none⟩ = some (.string (⟨#[]⟩ : ByteArray)) := (kc4 BK251.out 0).trans rfl; have hcz36_1 : w32.cell? ⟨gb251, 1, none⟩ = some (.string (⟨#[]⟩ : ByteArray)) := (kc4 BK251.out 1).trans rfl; have hfz36_0 := kz4 BK251.out 0; have hfz36_1 := kz4 BK251.out 1))
    (try simp only [Act.put, sa4, sz4, ss4])
    go_cut [63] (fun v63 wc => ∃ (kq : Nat) (x63_10 : Bool), v63 = .bool x63_10 ∧ Aside0 (watershedlaw04_SpanTells.j0 kq l2 x63_10 a0_0 a0_1 = some r) ∧ Aside0 (kq ≤ k) ∧ Aside0 (wc.heap[gb234]? = some (.cells #[.string a0_0, .string a0_1] 26 (0, 0))) ∧ Aside0 (wc.heap[gb235]? = some (.cells #[.string a1_0, .string a1_1] 26 (0, 0))) ∧ Aside0 (wc.heap[gb247]? = some (.cells #[.string t244, .string t245] 26 (0, 0))) ∧ Aside0 (wc.heap[gb251]? = some (.cells #[.string t248, .string t249] 26 (0, 0))) ∧ Aside0 (Below w.heap.size w wc))
    case first =>
     have H := HC11.out
     clear HC11
     by_cases c37 : (!(t244.toList == t248.toList) || (!(t245.toList == t249.toList))) = true
     ·rw [if_pos c37] at H
      have c37b0 : (!(t244.toList == t248.toList) || (!(t245.toList == t249.toList))) = true := c37
      clear c37
      (first | rw [c37b0] | (simp only [i64_w, i32_w]; rw [c37b0]) | skip)
      have H' := Am4 H
      clear H
      try go_wp2
      have n0_ : Aside0 (Kd.R Kd.string 9 ((w32.setCell ⟨gb251, 0, none⟩ (.string t248)).setCell ⟨gb251, 1, none⟩ (.string t249)) w.heap.size (fun _ => True) (.slice Ao21 y240.length co21) y240) := ⟨by (with_reducible repeat first | apply Ra4 | apply Rn4 | apply Rd4); exact Ro4 (Rf4 (p:=⟨gb251, 1, none⟩) (Rf4 (p:=⟨gb251, 0, none⟩) (Ry4 HO242.out BK251.out (by decide)) (fun _ h=>h.2) (.string t248)) (fun _ h=>h.2) (.string t249)) (fun _ hk => trivial)⟩
      have n1_ : Aside0 (((w32.setCell ⟨gb251, 0, none⟩ (.string t248)).setCell ⟨gb251, 1, none⟩ (.string t249)).heap[gb234]? = some (.cells #[.string a0_0, .string a0_1] 26 (0, 0))) := ⟨by (with_reducible repeat first | apply kn4 | apply kd4 | apply ka4); refine kf4 ?_ NB234_251.out _; (with_reducible repeat first | apply kn4 | apply kd4 | apply ka4); refine kf4 ?_ NB234_251.out _; (with_reducible repeat first | apply kn4 | apply kd4 | apply ka4); exact BK234.out⟩
      have n2_ : Aside0 (((w32.setCell ⟨gb251, 0, none⟩ (.string t248)).setCell ⟨gb251, 1, none⟩ (.string t249)).heap[gb235]? = some (.cells #[.string a1_0, .string a1_1] 26 (0, 0))) := ⟨by (with_reducible repeat first | apply kn4 | apply kd4 | apply ka4); refine kf4 ?_ NB235_251.out _; (with_reducible repeat first | apply kn4 | apply kd4 | apply ka4); refine kf4 ?_ NB235_251.out _; (with_reducible repeat first | apply kn4 | apply kd4 | apply ka4); exact BK235.out⟩
      have n3_ : Aside0 (((w32.setCell ⟨gb251, 0, none⟩ (.string t248)).setCell ⟨gb251, 1, none⟩ (.string t249)).heap[gb247]? = some (.cells #[.string t244, .string t245] 26 (0, 0))) := ⟨by (with_reducible repeat first | apply kn4 | apply kd4 | apply ka4); refine kf4 ?_ NB247_251.out _; (with_reducible repeat first | apply kn4 | apply kd4 | apply ka4); refine kf4 ?_ NB247_251.out _; (with_reducible repeat first | apply kn4 | apply kd4 | apply ka4); exact BK247.out⟩
      have n4_ : Aside0 (((w32.setCell ⟨gb251, 0, none⟩ (.string t248)).setCell ⟨gb251, 1, none⟩ (.string t249)).heap[gb251]? = some (.cells #[.string t248, .string t249] 26 (0, 0))) := ⟨by (with_reducible repeat first | apply kn4 | apply kd4 | apply ka4); refine blk_put (cs:=#[.string t248, .string (⟨#[]⟩ : ByteArray)]) ?_ 1 _ rfl; (with_reducible repeat first | apply kn4 | apply kd4 | apply ka4); refine blk_put (cs:=#[.string (⟨#[]⟩ : ByteArray), .string (⟨#[]⟩ : ByteArray)]) ?_ 0 _ rfl; (with_reducible repeat first | apply kn4 | apply kd4 | apply ka4); exact BK251.out⟩
      have n5_ : Aside0 (Below w.heap.size w ((w32.setCell ⟨gb251, 0, none⟩ (.string t248)).setCell ⟨gb251, 1, none⟩ (.string t249))) := ⟨by repeat (first | (with_reducible first | exact HB.out | apply ba4 | apply bn4 | apply bd4 | refine bs4 ?_ GE234.out | refine bs4 ?_ GE235.out | refine bs4 ?_ GE247.out | refine bs4 ?_ GE251.out) | exact HB.out)⟩
      (try clear HO242)
      (try clear BK234)
      (try clear BK235)
      (try clear BK247)
      (try clear BK251)
      (try clear HB)
      generalize ((w32.setCell ⟨gb251, 0, none⟩ (.string t248)).setCell ⟨gb251, 1, none⟩ (.string t249)) = w38 at n0_ n1_ n2_ n3_ n4_ n5_ ⊢
      have HO242 := n0_
      have BK234 := n1_
      have BK235 := n2_
      have BK247 := n3_
      have BK251 := n4_
      have HB := n5_
      clear n0_ n1_ n2_ n3_ n4_ n5_
      replace HO242 := Am4 (Rd4 HO242.out)
      replace BK234 := Am4 (kd4 BK234.out)
      replace BK235 := Am4 (kd4 BK235.out)
      replace BK247 := Am4 (kd4 BK247.out)
      replace BK251 := Am4 (kd4 BK251.out)
      replace HB := Am4 (bd4 HB.out)
      refine start_ (n:=24) (S:=fun w' => w'.cell? ⟨gb247, 0, none⟩ = some (.string t244) ∧ w'.cell? ⟨gb247, 1, none⟩ = some (.string t245) ∧ w'.cell? ⟨gb251, 0, none⟩ = some (.string t248) ∧ w'.cell? ⟨gb251, 1, none⟩ = some (.string t249)) (ds:=[]) (bb4 24 0) (by kernel_rfl) rfl rfl ⟨(kc4 BK247.out 0).trans rfl, (kc4 BK247.out 1).trans rfl, (kc4 BK251.out 0).trans rfl, (kc4 BK251.out 1).trans rfl⟩ (fun hHeld => ?_); refine with_tabW watershedlaw04_SpanTells.tab7 watershedlaw04_SpanTells.bits7 (fun HT_ HW_ => ?_)
      generalize w38.drew = w39 at HO242 BK234 BK235 BK247 BK251 HB hHeld ⊢
      refine take_ (i:=0) (N:=some 40) (v:=?_) (a' := ?_) (bb4 24 1) rfl rfl (take_ofW HT_.out HW_.out (by kernel_rfl)) (fun _ _ _ h => h) (Or.inl ⟨by rfl, ?_⟩) hHeld ?_ ?_
      rotate_left
      ·rintro w' ⟨s0, s1, s2, s3⟩
       go_simp
       with_reducible rfl
      rotate_left
      ·simp only [Act.put, sa4, sz4, ss4, i64_w, i32_w]
       rfl
      refine take_ (i:=1) (N:=some 41) (v:=?_) (a' := ?_) (bb4 24 3) rfl rfl (take_ofW HT_.out HW_.out (by kernel_rfl)) (fun _ _ _ h => h) (Or.inl ⟨by rfl, ?_⟩) hHeld ?_ ?_
      rotate_left
      ·rintro w' ⟨s0, s1, s2, s3⟩
       go_simp
       with_reducible rfl
      rotate_left
      ·simp only [Act.put, sa4, sz4, ss4, i64_w, i32_w]
       rfl
      refine pure_ (i:=2) (N:=some 42) (v:=?_) (a' := ?_) (bb4 24 7) rfl rfl (any_of HT_.out (by kernel_rfl)) (fun _ _ _ h => h) (Or.inl ⟨by rfl, ?_⟩) ?_ ?_
      rotate_left
      ·intro w'
       go_simp
       with_reducible rfl
      rotate_left
      ·simp only [Act.put, sa4, sz4, ss4, i64_w, i32_w]
       rfl
      refine pure_ (i:=3) (N:=some 43) (v:=?_) (a' := ?_) (bb4 24 15) rfl rfl (any_of HT_.out (by kernel_rfl)) (fun _ _ _ h => h) (Or.inl ⟨by rfl, ?_⟩) ?_ ?_
      rotate_left
      ·intro w'
       go_simp
       with_reducible rfl
      rotate_left
      ·simp only [Act.put, sa4, sz4, ss4, i64_w, i32_w]
       rfl
      refine pure_ (i:=4) (N:=some 44) (v:=undef) (a' := ?_) (bb4 24 31) rfl rfl (any_of HT_.out (by kernel_rfl)) (fun _ _ _ h => h) (Or.inr ⟨by rfl, rfl⟩) ?_ ?_
      rotate_left
      ·simp only [Act.put, sa4, sz4, ss4, i64_w, i32_w]
       rfl
      refine pure_ (i:=5) (N:=some 45) (v:=undef) (a' := ?_) (bb4 24 63) rfl rfl (any_of HT_.out (by kernel_rfl)) (fun _ _ _ h => h) (Or.inr ⟨by rfl, rfl⟩) ?_ ?_
      rotate_left
      ·simp only [Act.put, sa4, sz4, ss4, i64_w, i32_w]
       rfl
      refine pure_ (i:=6) (N:=some 46) (v:=undef) (a' := ?_) (bb4 24 127) rfl rfl (any_of HT_.out (by kernel_rfl)) (fun _ _ _ h => h) (Or.inr ⟨by rfl, rfl⟩) ?_ ?_
      rotate_left
      ·simp only [Act.put, sa4, sz4, ss4, i64_w, i32_w]
       rfl
      refine pure_ (i:=7) (N:=some 47) (v:=?_) (a' := ?_) (bb4 24 255) rfl rfl (any_of HT_.out (by kernel_rfl)) (fun _ _ _ h => h) (Or.inl ⟨by rfl, ?_⟩) ?_ ?_
      rotate_left
      ·intro w'
       go_simp
       with_reducible rfl
      rotate_left
      ·simp only [Act.put, sa4, sz4, ss4, i64_w, i32_w]
       rfl
      refine pure_ (i:=8) (N:=some 48) (v:=?_) (a' := ?_) (bb4 24 511) rfl rfl (any_of HT_.out (by kernel_rfl)) (fun _ _ _ h => h) (Or.inl ⟨by rfl, ?_⟩) ?_ ?_
      rotate_left
      ·intro w'
       go_simp
       with_reducible rfl
      rotate_left
      ·simp only [Act.put, sa4, sz4, ss4, i64_w, i32_w]
       rfl
      refine pure_ (i:=9) (N:=some 49) (v:=undef) (a' := ?_) (bb4 24 1023) rfl rfl (any_of HT_.out (by kernel_rfl)) (fun _ _ _ h => h) (Or.inr ⟨by rfl, rfl⟩) ?_ ?_
      rotate_left
      ·simp only [Act.put, sa4, sz4, ss4, i64_w, i32_w]
       rfl
      refine pure_ (i:=10) (N:=some 50) (v:=undef) (a' := ?_) (bb4 24 2047) rfl rfl (any_of HT_.out (by kernel_rfl)) (fun _ _ _ h => h) (Or.inr ⟨by rfl, rfl⟩) ?_ ?_
      rotate_left
      ·simp only [Act.put, sa4, sz4, ss4, i64_w, i32_w]
       rfl
      refine pure_ (i:=11) (N:=some 51) (v:=undef) (a' := ?_) (bb4 24 4095) rfl rfl (any_of HT_.out (by kernel_rfl)) (fun _ _ _ h => h) (Or.inr ⟨by rfl, rfl⟩) ?_ ?_
      rotate_left
      ·simp only [Act.put, sa4, sz4, ss4, i64_w, i32_w]
       rfl
      refine pure_ (i:=12) (N:=some 52) (v:=undef) (a' := ?_) (bb4 24 8191) rfl rfl (any_of HT_.out (by kernel_rfl)) (fun _ _ _ h => h) (Or.inr ⟨by rfl, rfl⟩) ?_ ?_
      rotate_left
      ·simp only [Act.put, sa4, sz4, ss4, i64_w, i32_w]
       rfl
      refine pure_ (i:=13) (N:=some 53) (v:=undef) (a' := ?_) (bb4 24 16383) rfl rfl (any_of HT_.out (by kernel_rfl)) (fun _ _ _ h => h) (Or.inr ⟨by rfl, rfl⟩) ?_ ?_
      rotate_left
      ·simp only [Act.put, sa4, sz4, ss4, i64_w, i32_w]
       rfl
      refine pure_ (i:=14) (N:=some 54) (v:=undef) (a' := ?_) (bb4 24 32767) rfl rfl (any_of HT_.out (by kernel_rfl)) (fun _ _ _ h => h) (Or.inr ⟨by rfl, rfl⟩) ?_ ?_
      rotate_left
      ·simp only [Act.put, sa4, sz4, ss4, i64_w, i32_w]
       rfl
      refine pure_ (i:=15) (N:=some 55) (v:=undef) (a' := ?_) (bb4 24 65535) rfl rfl (any_of HT_.out (by kernel_rfl)) (fun _ _ _ h => h) (Or.inr ⟨by rfl, rfl⟩) ?_ ?_
      rotate_left
      ·simp only [Act.put, sa4, sz4, ss4, i64_w, i32_w]
       rfl
      refine pure_ (i:=16) (N:=some 56) (v:=?_) (a' := ?_) (bb4 24 131071) rfl rfl (any_of HT_.out (by kernel_rfl)) (fun _ _ _ h => h) (Or.inl ⟨by rfl, ?_⟩) ?_ ?_
      rotate_left
      ·intro w'
       go_simp
       with_reducible rfl
      rotate_left
      ·simp only [Act.put, sa4, sz4, ss4, i64_w, i32_w]
       rfl
      refine pure_ (i:=17) (N:=some 57) (v:=?_) (a' := ?_) (bb4 24 262143) rfl rfl (any_of HT_.out (by kernel_rfl)) (fun _ _ _ h => h) (Or.inl ⟨by rfl, ?_⟩) ?_ ?_
      rotate_left
      ·intro w'
       go_simp
       with_reducible rfl
      rotate_left
      ·simp only [Act.put, sa4, sz4, ss4, i64_w, i32_w]
       rfl
      refine pure_ (i:=18) (N:=some 58) (v:=undef) (a' := ?_) (bb4 24 524287) rfl rfl (any_of HT_.out (by kernel_rfl)) (fun _ _ _ h => h) (Or.inr ⟨by rfl, rfl⟩) ?_ ?_
      rotate_left
      ·simp only [Act.put, sa4, sz4, ss4, i64_w, i32_w]
       rfl
      refine pure_ (i:=19) (N:=some 59) (v:=undef) (a' := ?_) (bb4 24 1048575) rfl rfl (any_of HT_.out (by kernel_rfl)) (fun _ _ _ h => h) (Or.inr ⟨by rfl, rfl⟩) ?_ ?_
      rotate_left
      ·simp only [Act.put, sa4, sz4, ss4, i64_w, i32_w]
       rfl
      refine pure_ (i:=20) (N:=some 60) (v:=undef) (a' := ?_) (bb4 24 2097151) rfl rfl (any_of HT_.out (by kernel_rfl)) (fun _ _ _ h => h) (Or.inr ⟨by rfl, rfl⟩) ?_ ?_
      rotate_left
      ·simp only [Act.put, sa4, sz4, ss4, i64_w, i32_w]
       rfl
      refine pure_ (i:=21) (N:=some 61) (v:=undef) (a' := ?_) (bb4 24 4194303) rfl rfl (any_of HT_.out (by kernel_rfl)) (fun _ _ _ h => h) (Or.inr ⟨by rfl, rfl⟩) ?_ ?_
      rotate_left
      ·simp only [Act.put, sa4, sz4, ss4, i64_w, i32_w]
       rfl
      refine pure_ (i:=22) (N:=some 62) (v:=undef) (a' := ?_) (bb4 24 8388607) rfl rfl (any_of HT_.out (by kernel_rfl)) (fun _ _ _ h => h) (Or.inr ⟨by rfl, rfl⟩) ?_ ?_
      rotate_left
      ·simp only [Act.put, sa4, sz4, ss4, i64_w, i32_w]
       rfl
      refine pure_ (i:=23) (N:=some 63) (v:=?_) (a' := ?_) (bb4 24 16777215) rfl rfl (any_of HT_.out (by kernel_rfl)) (fun _ _ _ h => h) (Or.inl ⟨by rfl, ?_⟩) ?_ ?_
      rotate_left
      ·intro w'
       go_simp
       with_reducible rfl
      rotate_left
      ·simp only [Act.put, sa4, sz4, ss4, i64_w, i32_w]
       rfl
      refine done_ (done_of HT_.out (by kernel_rfl)) ?_
      try go_wp2
      go_meet
      case rel => exact ⟨_, (true), (by first | rfl | (simp; done) | (simp [*]; done)), H', ⟨by first | omega | exact Nat.le_refl _⟩, ⟨by (with_reducible repeat first | apply kn4 | apply kd4 | apply ka4); exact BK234.out⟩, ⟨by (with_reducible repeat first | apply kn4 | apply kd4 | apply ka4); exact BK235.out⟩, ⟨by (with_reducible repeat first | apply kn4 | apply kd4 | apply ka4); exact BK247.out⟩, ⟨by (with_reducible repeat first | apply kn4 | apply kd4 | apply ka4); exact BK251.out⟩, ⟨by repeat (first | (with_reducible first | exact HB.out | apply ba4 | apply bn4 | apply bd4 | refine bs4 ?_ GE234.out | refine bs4 ?_ GE235.out | refine bs4 ?_ GE247.out | refine bs4 ?_ GE251.out) | exact HB.out)⟩⟩
     ·rw [if_neg c37] at H
      have c37b0 : (!(t244.toList == t248.toList) || (!(t245.toList == t249.toList))) = false := by simpa using c37
      clear c37
      (first | rw [c37b0] | (simp only [i64_w, i32_w]; rw [c37b0]) | skip)
      by_cases c40 : (t246 != t250) = true
      ·rw [if_pos c40] at H
       have c40b0 : (t246 != t250) = true := c40
       (try (have c40b1 : decide (t246 = t250) = false := by simpa using c40))
       (try (have c40b2 : (t246 == t250) = false := by simpa using c40))
       (try (have c40b3 : ¬ (t246 = t250) := by simpa using c40))
       clear c40
       have H' := Am4 H
       clear H
       try go_wp2
       have n0_ : Aside0 (Kd.R Kd.string 9 ((w32.setCell ⟨gb251, 0, none⟩ (.string t248)).setCell ⟨gb251, 1, none⟩ (.string t249)) w.heap.size (fun _ => True) (.slice Ao21 y240.length co21) y240) := ⟨by (with_reducible repeat first | apply Ra4 | apply Rn4 | apply Rd4); exact Ro4 (Rf4 (p:=⟨gb251, 1, none⟩) (Rf4 (p:=⟨gb251, 0, none⟩) (Ry4 HO242.out BK251.out (by decide)) (fun _ h=>h.2) (.string t248)) (fun _ h=>h.2) (.string t249)) (fun _ hk => trivial)⟩
       have n1_ : Aside0 (((w32.setCell ⟨gb251, 0, none⟩ (.string t248)).setCell ⟨gb251, 1, none⟩ (.string t249)).heap[gb234]? = some (.cells #[.string a0_0, .string a0_1] 26 (0, 0))) := ⟨by (with_reducible repeat first | apply kn4 | apply kd4 | apply ka4); refine kf4 ?_ NB234_251.out _; (with_reducible repeat first | apply kn4 | apply kd4 | apply ka4); refine kf4 ?_ NB234_251.out _; (with_reducible repeat first | apply kn4 | apply kd4 | apply ka4); exact BK234.out⟩
       have n2_ : Aside0 (((w32.setCell ⟨gb251, 0, none⟩ (.string t248)).setCell ⟨gb251, 1, none⟩ (.string t249)).heap[gb235]? = some (.cells #[.string a1_0, .string a1_1] 26 (0, 0))) := ⟨by (with_reducible repeat first | apply kn4 | apply kd4 | apply ka4); refine kf4 ?_ NB235_251.out _; (with_reducible repeat first | apply kn4 | apply kd4 | apply ka4); refine kf4 ?_ NB235_251.out _; (with_reducible repeat first | apply kn4 | apply kd4 | apply ka4); exact BK235.out⟩
       have n3_ : Aside0 (((w32.setCell ⟨gb251, 0, none⟩ (.string t248)).setCell ⟨gb251, 1, none⟩ (.string t249)).heap[gb247]? = some (.cells #[.string t244, .string t245] 26 (0, 0))) := ⟨by (with_reducible repeat first | apply kn4 | apply kd4 | apply ka4); refine kf4 ?_ NB247_251.out _; (with_reducible repeat first | apply kn4 | apply kd4 | apply ka4); refine kf4 ?_ NB247_251.out _; (with_reducible repeat first | apply kn4 | apply kd4 | apply ka4); exact BK247.out⟩
       have n4_ : Aside0 (((w32.setCell ⟨gb251, 0, none⟩ (.string t248)).setCell ⟨gb251, 1, none⟩ (.string t249)).heap[gb251]? = some (.cells #[.string t248, .string t249] 26 (0, 0))) := ⟨by (with_reducible repeat first | apply kn4 | apply kd4 | apply ka4); refine blk_put (cs:=#[.string t248, .string (⟨#[]⟩ : ByteArray)]) ?_ 1 _ rfl; (with_reducible repeat first | apply kn4 | apply kd4 | apply ka4); refine blk_put (cs:=#[.string (⟨#[]⟩ : ByteArray), .string (⟨#[]⟩ : ByteArray)]) ?_ 0 _ rfl; (with_reducible repeat first | apply kn4 | apply kd4 | apply ka4); exact BK251.out⟩
       have n5_ : Aside0 (Below w.heap.size w ((w32.setCell ⟨gb251, 0, none⟩ (.string t248)).setCell ⟨gb251, 1, none⟩ (.string t249))) := ⟨by repeat (first | (with_reducible first | exact HB.out | apply ba4 | apply bn4 | apply bd4 | refine bs4 ?_ GE234.out | refine bs4 ?_ GE235.out | refine bs4 ?_ GE247.out | refine bs4 ?_ GE251.out) | exact HB.out)⟩
       (try clear HO242)
       (try clear BK234)
       (try clear BK235)
       (try clear BK247)
       (try clear BK251)
       (try clear HB)
       generalize ((w32.setCell ⟨gb251, 0, none⟩ (.string t248)).setCell ⟨gb251, 1, none⟩ (.string t249)) = w41 at n0_ n1_ n2_ n3_ n4_ n5_ ⊢
       have HO242 := n0_
       have BK234 := n1_
       have BK235 := n2_
       have BK247 := n3_
       have BK251 := n4_
       have HB := n5_
       clear n0_ n1_ n2_ n3_ n4_ n5_
       replace HO242 := Am4 (Rd4 HO242.out)
       replace BK234 := Am4 (kd4 BK234.out)
       replace BK235 := Am4 (kd4 BK235.out)
       replace BK247 := Am4 (kd4 BK247.out)
       replace BK251 := Am4 (kd4 BK251.out)
       replace HB := Am4 (bd4 HB.out)
       refine start_ (n:=24) (S:=fun w' => w'.cell? ⟨gb247, 0, none⟩ = some (.string t244) ∧ w'.cell? ⟨gb247, 1, none⟩ = some (.string t245) ∧ w'.cell? ⟨gb251, 0, none⟩ = some (.string t248) ∧ w'.cell? ⟨gb251, 1, none⟩ = some (.string t249)) (ds:=[]) (bb4 24 0) (by kernel_rfl) rfl rfl ⟨(kc4 BK247.out 0).trans rfl, (kc4 BK247.out 1).trans rfl, (kc4 BK251.out 0).trans rfl, (kc4 BK251.out 1).trans rfl⟩ (fun hHeld => ?_); refine with_tabW watershedlaw04_SpanTells.tab7 watershedlaw04_SpanTells.bits7 (fun HT_ HW_ => ?_)
       generalize w41.drew = w42 at HO242 BK234 BK235 BK247 BK251 HB hHeld ⊢
       refine take_ (i:=0) (N:=some 40) (v:=?_) (a' := ?_) (bb4 24 1) rfl rfl (take_ofW HT_.out HW_.out (by kernel_rfl)) (fun _ _ _ h => h) (Or.inl ⟨by rfl, ?_⟩) hHeld ?_ ?_
       rotate_left
       ·rintro w' ⟨s0, s1, s2, s3⟩
        go_simp
        with_reducible rfl
       rotate_left
       ·simp only [Act.put, sa4, sz4, ss4, i64_w, i32_w]
        rfl
       refine take_ (i:=1) (N:=some 41) (v:=?_) (a' := ?_) (bb4 24 3) rfl rfl (take_ofW HT_.out HW_.out (by kernel_rfl)) (fun _ _ _ h => h) (Or.inl ⟨by rfl, ?_⟩) hHeld ?_ ?_
       rotate_left
       ·rintro w' ⟨s0, s1, s2, s3⟩
        go_simp
        with_reducible rfl
       rotate_left
       ·simp only [Act.put, sa4, sz4, ss4, i64_w, i32_w]
        rfl
       refine pure_ (i:=2) (N:=some 42) (v:=?_) (a' := ?_) (bb4 24 7) rfl rfl (any_of HT_.out (by kernel_rfl)) (fun _ _ _ h => h) (Or.inl ⟨by rfl, ?_⟩) ?_ ?_
       rotate_left
       ·intro w'
        go_simp
        with_reducible rfl
       rotate_left
       ·simp only [Act.put, sa4, sz4, ss4, i64_w, i32_w]
        rfl
       refine pure_ (i:=3) (N:=some 43) (v:=?_) (a' := ?_) (bb4 24 15) rfl rfl (any_of HT_.out (by kernel_rfl)) (fun _ _ _ h => h) (Or.inl ⟨by rfl, ?_⟩) ?_ ?_
       rotate_left
       ·intro w'
        go_simp
        with_reducible rfl
       rotate_left
       ·simp only [Act.put, sa4, sz4, ss4, i64_w, i32_w]
        rfl
       refine pure_ (i:=4) (N:=some 44) (v:=?_) (a' := ?_) (bb4 24 31) rfl rfl (any_of HT_.out (by kernel_rfl)) (fun _ _ _ h => h) (Or.inl ⟨by rfl, ?_⟩) ?_ ?_
       rotate_left
       ·intro w'
        go_simp
        with_reducible rfl
       rotate_left
       ·simp only [Act.put, sa4, sz4, ss4, i64_w, i32_w]
        rfl
       refine pure_ (i:=5) (N:=some 45) (v:=?_) (a' := ?_) (bb4 24 63) rfl rfl (any_of HT_.out (by kernel_rfl)) (fun _ _ _ h => h) (Or.inl ⟨by rfl, ?_⟩) ?_ ?_
       rotate_left
       ·intro w'
        go_simp
        with_reducible rfl
       rotate_left
       ·simp only [Act.put, sa4, sz4, ss4, i64_w, i32_w]
        rfl
       refine pure_ (i:=6) (N:=some 46) (v:=?_) (a' := ?_) (bb4 24 127) rfl rfl (any_of HT_.out (by kernel_rfl)) (fun _ _ _ h => h) (Or.inl ⟨by rfl, ?_⟩) ?_ ?_
       rotate_left
       ·intro w'
        go_simp
        with_reducible rfl
       rotate_left
       ·simp only [Act.put, sa4, sz4, ss4, i64_w, i32_w]
        rfl
       refine pure_ (i:=7) (N:=some 47) (v:=?_) (a' := ?_) (bb4 24 255) rfl rfl (any_of HT_.out (by kernel_rfl)) (fun _ _ _ h => h) (Or.inl ⟨by rfl, ?_⟩) ?_ ?_
       rotate_left
       ·intro w'
        go_simp
        with_reducible rfl
       rotate_left
       ·simp only [Act.put, sa4, sz4, ss4, i64_w, i32_w]
        rfl
       refine pure_ (i:=8) (N:=some 48) (v:=?_) (a' := ?_) (bb4 24 511) rfl rfl (any_of HT_.out (by kernel_rfl)) (fun _ _ _ h => h) (Or.inl ⟨by rfl, ?_⟩) ?_ ?_
       rotate_left
       ·intro w'
        go_simp
        with_reducible rfl
       rotate_left
       ·simp only [Act.put, sa4, sz4, ss4, i64_w, i32_w]
        rfl
       refine pure_ (i:=9) (N:=some 49) (v:=undef) (a' := ?_) (bb4 24 1023) rfl rfl (any_of HT_.out (by kernel_rfl)) (fun _ _ _ h => h) (Or.inr ⟨by rfl, rfl⟩) ?_ ?_
       rotate_left
       ·simp only [Act.put, sa4, sz4, ss4, i64_w, i32_w]
        rfl
       refine pure_ (i:=10) (N:=some 50) (v:=undef) (a' := ?_) (bb4 24 2047) rfl rfl (any_of HT_.out (by kernel_rfl)) (fun _ _ _ h => h) (Or.inr ⟨by rfl, rfl⟩) ?_ ?_
       rotate_left
       ·simp only [Act.put, sa4, sz4, ss4, i64_w, i32_w]
        rfl
       refine pure_ (i:=11) (N:=some 51) (v:=undef) (a' := ?_) (bb4 24 4095) rfl rfl (any_of HT_.out (by kernel_rfl)) (fun _ _ _ h => h) (Or.inr ⟨by rfl, rfl⟩) ?_ ?_
       rotate_left
       ·simp only [Act.put, sa4, sz4, ss4, i64_w, i32_w]
        rfl
       refine pure_ (i:=12) (N:=some 52) (v:=undef) (a' := ?_) (bb4 24 8191) rfl rfl (any_of HT_.out (by kernel_rfl)) (fun _ _ _ h => h) (Or.inr ⟨by rfl, rfl⟩) ?_ ?_
       rotate_left
       ·simp only [Act.put, sa4, sz4, ss4, i64_w, i32_w]
        rfl
       refine pure_ (i:=13) (N:=some 53) (v:=undef) (a' := ?_) (bb4 24 16383) rfl rfl (any_of HT_.out (by kernel_rfl)) (fun _ _ _ h => h) (Or.inr ⟨by rfl, rfl⟩) ?_ ?_
       rotate_left
       ·simp only [Act.put, sa4, sz4, ss4, i64_w, i32_w]
        rfl
       refine pure_ (i:=14) (N:=some 54) (v:=undef) (a' := ?_) (bb4 24 32767) rfl rfl (any_of HT_.out (by kernel_rfl)) (fun _ _ _ h => h) (Or.inr ⟨by rfl, rfl⟩) ?_ ?_
       rotate_left
       ·simp only [Act.put, sa4, sz4, ss4, i64_w, i32_w]
        rfl
       refine pure_ (i:=15) (N:=some 55) (v:=undef) (a' := ?_) (bb4 24 65535) rfl rfl (any_of HT_.out (by kernel_rfl)) (fun _ _ _ h => h) (Or.inr ⟨by rfl, rfl⟩) ?_ ?_
       rotate_left
       ·simp only [Act.put, sa4, sz4, ss4, i64_w, i32_w]
        rfl
       refine pure_ (i:=16) (N:=some 56) (v:=?_) (a' := ?_) (bb4 24 131071) rfl rfl (any_of HT_.out (by kernel_rfl)) (fun _ _ _ h => h) (Or.inl ⟨by rfl, ?_⟩) ?_ ?_
       rotate_left
       ·intro w'
        go_simp
        with_reducible rfl
       rotate_left
       ·simp only [Act.put, sa4, sz4, ss4, i64_w, i32_w]
        rfl
       refine pure_ (i:=17) (N:=some 57) (v:=?_) (a' := ?_) (bb4 24 262143) rfl rfl (any_of HT_.out (by kernel_rfl)) (fun _ _ _ h => h) (Or.inl ⟨by rfl, ?_⟩) ?_ ?_
       rotate_left
       ·intro w'
        go_simp
        with_reducible rfl
       rotate_left
       ·simp only [Act.put, sa4, sz4, ss4, i64_w, i32_w]
        rfl
       refine pure_ (i:=18) (N:=some 58) (v:=undef) (a' := ?_) (bb4 24 524287) rfl rfl (any_of HT_.out (by kernel_rfl)) (fun _ _ _ h => h) (Or.inr ⟨by rfl, rfl⟩) ?_ ?_
       rotate_left
       ·simp only [Act.put, sa4, sz4, ss4, i64_w, i32_w]
        rfl
       refine pure_ (i:=19) (N:=some 59) (v:=undef) (a' := ?_) (bb4 24 1048575) rfl rfl (any_of HT_.out (by kernel_rfl)) (fun _ _ _ h => h) (Or.inr ⟨by rfl, rfl⟩) ?_ ?_
       rotate_left
       ·simp only [Act.put, sa4, sz4, ss4, i64_w, i32_w]
        rfl
       refine pure_ (i:=20) (N:=some 60) (v:=undef) (a' := ?_) (bb4 24 2097151) rfl rfl (any_of HT_.out (by kernel_rfl)) (fun _ _ _ h => h) (Or.inr ⟨by rfl, rfl⟩) ?_ ?_
       rotate_left
       ·simp only [Act.put, sa4, sz4, ss4, i64_w, i32_w]
        rfl
       refine pure_ (i:=21) (N:=some 61) (v:=undef) (a' := ?_) (bb4 24 4194303) rfl rfl (any_of HT_.out (by kernel_rfl)) (fun _ _ _ h => h) (Or.inr ⟨by rfl, rfl⟩) ?_ ?_
       rotate_left
       ·simp only [Act.put, sa4, sz4, ss4, i64_w, i32_w]
        rfl
       refine pure_ (i:=22) (N:=some 62) (v:=undef) (a' := ?_) (bb4 24 8388607) rfl rfl (any_of HT_.out (by kernel_rfl)) (fun _ _ _ h => h) (Or.inr ⟨by rfl, rfl⟩) ?_ ?_
       rotate_left
       ·simp only [Act.put, sa4, sz4, ss4, i64_w, i32_w]
        rfl
       refine pure_ (i:=23) (N:=some 63) (v:=?_) (a' := ?_) (bb4 24 16777215) rfl rfl (any_of HT_.out (by kernel_rfl)) (fun _ _ _ h => h) (Or.inl ⟨by rfl, ?_⟩) ?_ ?_
       rotate_left
       ·intro w'
        go_simp
        with_reducible rfl
       rotate_left
       ·simp only [Act.put, sa4, sz4, ss4, i64_w, i32_w]
        rfl
       refine done_ (done_of HT_.out (by kernel_rfl)) ?_
       try go_wp2
       go_meet
       case rel => exact ⟨_, (true), (by first | rfl | (simp; done) | (simp [*]; done)), H', ⟨by first | omega | exact Nat.le_refl _⟩, ⟨by (with_reducible repeat first | apply kn4 | apply kd4 | apply ka4); exact BK234.out⟩, ⟨by (with_reducible repeat first | apply kn4 | apply kd4 | apply ka4); exact BK235.out⟩, ⟨by (with_reducible repeat first | apply kn4 | apply kd4 | apply ka4); exact BK247.out⟩, ⟨by (with_reducible repeat first | apply kn4 | apply kd4 | apply ka4); exact BK251.out⟩, ⟨by repeat (first | (with_reducible first | exact HB.out | apply ba4 | apply bn4 | apply bd4 | refine bs4 ?_ GE234.out | refine bs4 ?_ GE235.out | refine bs4 ?_ GE247.out | refine bs4 ?_ GE251.out) | exact HB.out)⟩⟩
      ·rw [if_neg c40] at H
       have c40b0 : (t246 != t250) = false := by simpa using c40
       (try (have c40b1 : decide (t246 = t250) = true := by simpa using c40))
       (try (have c40b2 : (t246 == t250) = true := by simpa using c40))
       clear c40
       replace H := Option.bind_eq_some_iff.mp H
       obtain ⟨t252, A430, H⟩ := H
       try dsimp only at H
       have A43 := Am4 A430
       clear A430
       replace H := Option.bind_eq_some_iff.mp H
       obtain ⟨t253, A440, H⟩ := H
       try dsimp only at H
       have A44 := Am4 A440
       clear A440
       by_cases c45 : (t252 != t253) = true
       ·rw [if_pos c45] at H
        have c45b0 : (t252 != t253) = true := c45
        (try (have c45b1 : decide (t252 = t253) = false := by simpa using c45))
        (try (have c45b2 : (t252 == t253) = false := by simpa using c45))
        (try (have c45b3 : ¬ (t252 = t253) := by simpa using c45))
        clear c45
        have H' := Am4 H
        clear H
        try go_wp2
        have n0_ : Aside0 (Kd.R Kd.string 9 ((w32.setCell ⟨gb251, 0, none⟩ (.string t248)).setCell ⟨gb251, 1, none⟩ (.string t249)) w.heap.size (fun _ => True) (.slice Ao21 y240.length co21) y240) := ⟨by (with_reducible repeat first | apply Ra4 | apply Rn4 | apply Rd4); exact Ro4 (Rf4 (p:=⟨gb251, 1, none⟩) (Rf4 (p:=⟨gb251, 0, none⟩) (Ry4 HO242.out BK251.out (by decide)) (fun _ h=>h.2) (.string t248)) (fun _ h=>h.2) (.string t249)) (fun _ hk => trivial)⟩
        have n1_ : Aside0 (((w32.setCell ⟨gb251, 0, none⟩ (.string t248)).setCell ⟨gb251, 1, none⟩ (.string t249)).heap[gb234]? = some (.cells #[.string a0_0, .string a0_1] 26 (0, 0))) := ⟨by (with_reducible repeat first | apply kn4 | apply kd4 | apply ka4); refine kf4 ?_ NB234_251.out _; (with_reducible repeat first | apply kn4 | apply kd4 | apply ka4); refine kf4 ?_ NB234_251.out _; (with_reducible repeat first | apply kn4 | apply kd4 | apply ka4); exact BK234.out⟩
        have n2_ : Aside0 (((w32.setCell ⟨gb251, 0, none⟩ (.string t248)).setCell ⟨gb251, 1, none⟩ (.string t249)).heap[gb235]? = some (.cells #[.string a1_0, .string a1_1] 26 (0, 0))) := ⟨by (with_reducible repeat first | apply kn4 | apply kd4 | apply ka4); refine kf4 ?_ NB235_251.out _; (with_reducible repeat first | apply kn4 | apply kd4 | apply ka4); refine kf4 ?_ NB235_251.out _; (with_reducible repeat first | apply kn4 | apply kd4 | apply ka4); exact BK235.out⟩
        have n3_ : Aside0 (((w32.setCell ⟨gb251, 0, none⟩ (.string t248)).setCell ⟨gb251, 1, none⟩ (.string t249)).heap[gb247]? = some (.cells #[.string t244, .string t245] 26 (0, 0))) := ⟨by (with_reducible repeat first | apply kn4 | apply kd4 | apply ka4); refine kf4 ?_ NB247_251.out _; (with_reducible repeat first | apply kn4 | apply kd4 | apply ka4); refine kf4 ?_ NB247_251.out _; (with_reducible repeat first | apply kn4 | apply kd4 | apply ka4); exact BK247.out⟩
        have n4_ : Aside0 (((w32.setCell ⟨gb251, 0, none⟩ (.string t248)).setCell ⟨gb251, 1, none⟩ (.string t249)).heap[gb251]? = some (.cells #[.string t248, .string t249] 26 (0, 0))) := ⟨by (with_reducible repeat first | apply kn4 | apply kd4 | apply ka4); refine blk_put (cs:=#[.string t248, .string (⟨#[]⟩ : ByteArray)]) ?_ 1 _ rfl; (with_reducible repeat first | apply kn4 | apply kd4 | apply ka4); refine blk_put (cs:=#[.string (⟨#[]⟩ : ByteArray), .string (⟨#[]⟩ : ByteArray)]) ?_ 0 _ rfl; (with_reducible repeat first | apply kn4 | apply kd4 | apply ka4); exact BK251.out⟩
        have n5_ : Aside0 (Below w.heap.size w ((w32.setCell ⟨gb251, 0, none⟩ (.string t248)).setCell ⟨gb251, 1, none⟩ (.string t249))) := ⟨by repeat (first | (with_reducible first | exact HB.out | apply ba4 | apply bn4 | apply bd4 | refine bs4 ?_ GE234.out | refine bs4 ?_ GE235.out | refine bs4 ?_ GE247.out | refine bs4 ?_ GE251.out) | exact HB.out)⟩
        (try clear HO242)
        (try clear BK234)
        (try clear BK235)
        (try clear BK247)
        (try clear BK251)
        (try clear HB)
        generalize ((w32.setCell ⟨gb251, 0, none⟩ (.string t248)).setCell ⟨gb251, 1, none⟩ (.string t249)) = w46 at n0_ n1_ n2_ n3_ n4_ n5_ ⊢
        have HO242 := n0_
        have BK234 := n1_
        have BK235 := n2_
        have BK247 := n3_
        have BK251 := n4_
        have HB := n5_
        clear n0_ n1_ n2_ n3_ n4_ n5_
        replace HO242 := Am4 (Rd4 HO242.out)
        replace BK234 := Am4 (kd4 BK234.out)
        replace BK235 := Am4 (kd4 BK235.out)
        replace BK247 := Am4 (kd4 BK247.out)
        replace BK251 := Am4 (kd4 BK251.out)
        replace HB := Am4 (bd4 HB.out)
        refine start_ (n:=24) (S:=fun w' => w'.cell? ⟨gb247, 0, none⟩ = some (.string t244) ∧ w'.cell? ⟨gb247, 1, none⟩ = some (.string t245) ∧ w'.cell? ⟨gb251, 0, none⟩ = some (.string t248) ∧ w'.cell? ⟨gb251, 1, none⟩ = some (.string t249) ∧ w'.cell? ⟨gb234, 0, none⟩ = some (.string a0_0) ∧ w'.cell? ⟨gb234, 1, none⟩ = some (.string a0_1) ∧ w'.cell? ⟨gb235, 0, none⟩ = some (.string a1_0) ∧ w'.cell? ⟨gb235, 1, none⟩ = some (.string a1_1)) (ds:=[]) (bb4 24 0) (by kernel_rfl) rfl rfl ⟨(kc4 BK247.out 0).trans rfl, (kc4 BK247.out 1).trans rfl, (kc4 BK251.out 0).trans rfl, (kc4 BK251.out 1).trans rfl, (kc4 BK234.out 0).trans rfl, (kc4 BK234.out 1).trans rfl, (kc4 BK235.out 0).trans rfl, (kc4 BK235.out 1).trans rfl⟩ (fun hHeld => ?_); refine with_tabW watershedlaw04_SpanTells.tab7 watershedlaw04_SpanTells.bits7 (fun HT_ HW_ => ?_)
        generalize w46.drew = w47 at HO242 BK234 BK235 BK247 BK251 HB hHeld ⊢
        refine take_ (i:=0) (N:=some 40) (v:=?_) (a' := ?_) (bb4 24 1) rfl rfl (take_ofW HT_.out HW_.out (by kernel_rfl)) (fun _ _ _ h => h) (Or.inl ⟨by rfl, ?_⟩) hHeld ?_ ?_
        rotate_left
        ·rintro w' ⟨s0, s1, s2, s3, s4, s5, s6, s7⟩
         go_simp
         with_reducible rfl
        rotate_left
        ·simp only [Act.put, sa4, sz4, ss4, i64_w, i32_w]
         rfl
        refine take_ (i:=1) (N:=some 41) (v:=?_) (a' := ?_) (bb4 24 3) rfl rfl (take_ofW HT_.out HW_.out (by kernel_rfl)) (fun _ _ _ h => h) (Or.inl ⟨by rfl, ?_⟩) hHeld ?_ ?_
        rotate_left
        ·rintro w' ⟨s0, s1, s2, s3, s4, s5, s6, s7⟩
         go_simp
         with_reducible rfl
        rotate_left
        ·simp only [Act.put, sa4, sz4, ss4, i64_w, i32_w]
         rfl
        refine pure_ (i:=2) (N:=some 42) (v:=?_) (a' := ?_) (bb4 24 7) rfl rfl (any_of HT_.out (by kernel_rfl)) (fun _ _ _ h => h) (Or.inl ⟨by rfl, ?_⟩) ?_ ?_
        rotate_left
        ·intro w'
         go_simp
         with_reducible rfl
        rotate_left
        ·simp only [Act.put, sa4, sz4, ss4, i64_w, i32_w]
         rfl
        refine pure_ (i:=3) (N:=some 43) (v:=?_) (a' := ?_) (bb4 24 15) rfl rfl (any_of HT_.out (by kernel_rfl)) (fun _ _ _ h => h) (Or.inl ⟨by rfl, ?_⟩) ?_ ?_
        rotate_left
        ·intro w'
         go_simp
         with_reducible rfl
        rotate_left
        ·simp only [Act.put, sa4, sz4, ss4, i64_w, i32_w]
         rfl
        refine pure_ (i:=4) (N:=some 44) (v:=?_) (a' := ?_) (bb4 24 31) rfl rfl (any_of HT_.out (by kernel_rfl)) (fun _ _ _ h => h) (Or.inl ⟨by rfl, ?_⟩) ?_ ?_
        rotate_left
        ·intro w'
         go_simp
         with_reducible rfl
        rotate_left
        ·simp only [Act.put, sa4, sz4, ss4, i64_w, i32_w]
         rfl
        refine pure_ (i:=5) (N:=some 45) (v:=?_) (a' := ?_) (bb4 24 63) rfl rfl (any_of HT_.out (by kernel_rfl)) (fun _ _ _ h => h) (Or.inl ⟨by rfl, ?_⟩) ?_ ?_
        rotate_left
        ·intro w'
         go_simp
         with_reducible rfl
        rotate_left
        ·simp only [Act.put, sa4, sz4, ss4, i64_w, i32_w]
         rfl
        refine pure_ (i:=6) (N:=some 46) (v:=?_) (a' := ?_) (bb4 24 127) rfl rfl (any_of HT_.out (by kernel_rfl)) (fun _ _ _ h => h) (Or.inl ⟨by rfl, ?_⟩) ?_ ?_
        rotate_left
        ·intro w'
         go_simp
         with_reducible rfl
        rotate_left
        ·simp only [Act.put, sa4, sz4, ss4, i64_w, i32_w]
         rfl
        refine pure_ (i:=7) (N:=some 47) (v:=?_) (a' := ?_) (bb4 24 255) rfl rfl (any_of HT_.out (by kernel_rfl)) (fun _ _ _ h => h) (Or.inl ⟨by rfl, ?_⟩) ?_ ?_
        rotate_left
        ·intro w'
         go_simp
         with_reducible rfl
        rotate_left
        ·simp only [Act.put, sa4, sz4, ss4, i64_w, i32_w]
         rfl
        refine pure_ (i:=8) (N:=some 48) (v:=?_) (a' := ?_) (bb4 24 511) rfl rfl (any_of HT_.out (by kernel_rfl)) (fun _ _ _ h => h) (Or.inl ⟨by rfl, ?_⟩) ?_ ?_
        rotate_left
        ·intro w'
         go_simp
         with_reducible rfl
        rotate_left
        ·simp only [Act.put, sa4, sz4, ss4, i64_w, i32_w]
         rfl
        refine take_ (i:=9) (N:=some 49) (v:=?_) (a' := ?_) (bb4 24 1023) rfl rfl (take_ofW HT_.out HW_.out (by kernel_rfl)) (fun _ _ _ h => h) (Or.inl ⟨by rfl, ?_⟩) hHeld ?_ ?_
        rotate_left
        ·rintro w' ⟨s0, s1, s2, s3, s4, s5, s6, s7⟩
         go_simp
         with_reducible rfl
        rotate_left
        ·simp only [Act.put, sa4, sz4, ss4, i64_w, i32_w]
         rfl
        refine take_ (i:=10) (N:=some 50) (v:=?_) (a' := ?_) (bb4 24 2047) rfl rfl (take_ofW HT_.out HW_.out (by kernel_rfl)) (fun _ _ _ h => h) (Or.inl ⟨by rfl, ?_⟩) hHeld ?_ ?_
        rotate_left
        ·rintro w' ⟨s0, s1, s2, s3, s4, s5, s6, s7⟩
         go_simp
         with_reducible rfl
        rotate_left
        ·simp only [Act.put, sa4, sz4, ss4, i64_w, i32_w]
         rfl
        refine take_ (i:=12) (N:=some 52) (v:=?_) (a' := ?_) (bb4 24 6143) rfl rfl (take_ofW HT_.out HW_.out (by kernel_rfl)) (fun _ _ _ h => h) (Or.inl ⟨by rfl, ?_⟩) hHeld ?_ ?_
        rotate_left
        ·rintro w' ⟨s0, s1, s2, s3, s4, s5, s6, s7⟩
         go_simp
         with_reducible rfl
        rotate_left
        ·simp only [Act.put, sa4, sz4, ss4, i64_w, i32_w]
         rfl
        refine take_ (i:=13) (N:=some 53) (v:=?_) (a' := ?_) (bb4 24 14335) rfl rfl (take_ofW HT_.out HW_.out (by kernel_rfl)) (fun _ _ _ h => h) (Or.inl ⟨by rfl, ?_⟩) hHeld ?_ ?_
        rotate_left
        ·rintro w' ⟨s0, s1, s2, s3, s4, s5, s6, s7⟩
         go_simp
         with_reducible rfl
        rotate_left
        ·simp only [Act.put, sa4, sz4, ss4, i64_w, i32_w]
         rfl
        refine one_ (i:=11) (N:=some 51) (bb4 24 16383) rfl rfl (one_of HT_.out (by kernel_rfl)) (by decide) (fun K hK => ?_)
        refine goes_ Try.func14 (by kernel_rfl) rfl #[.agg #[.string a0_0, .string a0_1], .agg #[.string a1_0, .string a1_1]] (by rfl) rfl rfl (by (try simp only [ma4, mc4, mn4]); first | done | rfl | (simp only [ld4, lt_4]; rfl)) ?_
        with_reducible refine (span_Within.calls k a0_0 a0_1 a1_0 a1_1 t252 _ A43.out).mono ?_
        rintro e w48 ⟨rfl, hb⟩
        refine ⟨_, rfl, ?_⟩
        replace HO242 := Am4 (Rb4 (by (with_reducible repeat first | apply Ra4 | apply Rn4 | apply Rd4); exact HO242.out) hb)
        replace BK234 := Am4 (kb4 (g:=gb234) (o:=.cells #[.string a0_0, .string a0_1] 26 (0, 0)) (by (with_reducible repeat first | apply kn4 | apply kd4 | apply ka4); exact BK234.out) hb)
        replace BK235 := Am4 (kb4 (g:=gb235) (o:=.cells #[.string a1_0, .string a1_1] 26 (0, 0)) (by (with_reducible repeat first | apply kn4 | apply kd4 | apply ka4); exact BK235.out) hb)
        replace BK247 := Am4 (kb4 (g:=gb247) (o:=.cells #[.string t244, .string t245] 26 (0, 0)) (by (with_reducible repeat first | apply kn4 | apply kd4 | apply ka4); exact BK247.out) hb)
        replace BK251 := Am4 (kb4 (g:=gb251) (o:=.cells #[.string t248, .string t249] 26 (0, 0)) (by (with_reducible repeat first | apply kn4 | apply kd4 | apply ka4); exact BK251.out) hb)
        replace HB := Am4 (bp4 (by repeat (first | (with_reducible first | exact HB.out | apply ba4 | apply bn4 | apply bd4 | refine bs4 ?_ GE234.out | refine bs4 ?_ GE235.out | refine bs4 ?_ GE247.out | refine bs4 ?_ GE251.out) | exact HB.out)) hb)
        (try clear hb)
        (try clear hb2)
        (try clear hk)
        (try clear hi)
        refine hK.out _ _ ⟨(kc4 BK247.out 0).trans rfl, (kc4 BK247.out 1).trans rfl, (kc4 BK251.out 0).trans rfl, (kc4 BK251.out 1).trans rfl, (kc4 BK234.out 0).trans rfl, (kc4 BK234.out 1).trans rfl, (kc4 BK235.out 0).trans rfl, (kc4 BK235.out 1).trans rfl⟩ (fun hHeld => ?_)
        clear hK K
        refine norm_ (a' := ?_) ?_ ?_
        rotate_left
        ·show Act.put _ (some 51) _ = _
         simp only [Act.put, sa4, sz4, ss4, i64_w, i32_w]
         rfl
        refine one_ (i:=14) (N:=some 54) (bb4 24 32767) rfl rfl (one_of HT_.out (by kernel_rfl)) (by decide) (fun K hK => ?_)
        refine goes_ Try.func15 (by kernel_rfl) rfl #[.agg #[.string a0_0, .string a0_1], .agg #[.string a1_0, .string a1_1]] (by rfl) rfl rfl (by (try simp only [ma4, mc4, mn4]); first | done | rfl | (simp only [ld4, lt_4]; rfl)) ?_
        with_reducible refine (watershedref04_Within.calls k a0_0 a0_1 a1_0 a1_1 t253 _ A44.out).mono ?_
        rintro e w49 ⟨rfl, hb⟩
        refine ⟨_, rfl, ?_⟩
        replace HO242 := Am4 (Rb4 (by (with_reducible repeat first | apply Ra4 | apply Rn4 | apply Rd4); exact HO242.out) hb)
        replace BK234 := Am4 (kb4 (g:=gb234) (o:=.cells #[.string a0_0, .string a0_1] 26 (0, 0)) (by (with_reducible repeat first | apply kn4 | apply kd4 | apply ka4); exact BK234.out) hb)
        replace BK235 := Am4 (kb4 (g:=gb235) (o:=.cells #[.string a1_0, .string a1_1] 26 (0, 0)) (by (with_reducible repeat first | apply kn4 | apply kd4 | apply ka4); exact BK235.out) hb)
        replace BK247 := Am4 (kb4 (g:=gb247) (o:=.cells #[.string t244, .string t245] 26 (0, 0)) (by (with_reducible repeat first | apply kn4 | apply kd4 | apply ka4); exact BK247.out) hb)
        replace BK251 := Am4 (kb4 (g:=gb251) (o:=.cells #[.string t248, .string t249] 26 (0, 0)) (by (with_reducible repeat first | apply kn4 | apply kd4 | apply ka4); exact BK251.out) hb)
        replace HB := Am4 (bp4 (by repeat (first | (with_reducible first | exact HB.out | apply ba4 | apply bn4 | apply bd4 | refine bs4 ?_ GE234.out | refine bs4 ?_ GE235.out | refine bs4 ?_ GE247.out | refine bs4 ?_ GE251.out) | exact HB.out)) hb)
        (try clear hb)
        (try clear hb2)
        (try clear hk)
        (try clear hi)
        refine hK.out _ _ ⟨(kc4 BK247.out 0).trans rfl, (kc4 BK247.out 1).trans rfl, (kc4 BK251.out 0).trans rfl, (kc4 BK251.out 1).trans rfl, (kc4 BK234.out 0).trans rfl, (kc4 BK234.out 1).trans rfl, (kc4 BK235.out 0).trans rfl, (kc4 BK235.out 1).trans rfl⟩ (fun hHeld => ?_)
        clear hK K
        refine norm_ (a' := ?_) ?_ ?_
        rotate_left
        ·show Act.put _ (some 54) _ = _
         simp only [Act.put, sa4, sz4, ss4, i64_w, i32_w]
         rfl
        refine pure_ (i:=15) (N:=some 55) (v:=?_) (a' := ?_) (bb4 24 65535) rfl rfl (any_of HT_.out (by kernel_rfl)) (fun _ _ _ h => h) (Or.inl ⟨by rfl, ?_⟩) ?_ ?_
        rotate_left
        ·intro w'
         go_simp
         with_reducible rfl
        rotate_left
        ·simp only [Act.put, sa4, sz4, ss4, i64_w, i32_w]
         rfl
        refine pure_ (i:=16) (N:=some 56) (v:=?_) (a' := ?_) (bb4 24 131071) rfl rfl (any_of HT_.out (by kernel_rfl)) (fun _ _ _ h => h) (Or.inl ⟨by rfl, ?_⟩) ?_ ?_
        rotate_left
        ·intro w'
         go_simp
         with_reducible rfl
        rotate_left
        ·simp only [Act.put, sa4, sz4, ss4, i64_w, i32_w]
         rfl
        refine pure_ (i:=17) (N:=some 57) (v:=?_) (a' := ?_) (bb4 24 262143) rfl rfl (any_of HT_.out (by kernel_rfl)) (fun _ _ _ h => h) (Or.inl ⟨by rfl, ?_⟩) ?_ ?_
        rotate_left
        ·intro w'
         go_simp
         with_reducible rfl
        rotate_left
        ·simp only [Act.put, sa4, sz4, ss4, i64_w, i32_w]
         rfl
        refine pure_ (i:=18) (N:=some 58) (v:=undef) (a' := ?_) (bb4 24 524287) rfl rfl (any_of HT_.out (by kernel_rfl)) (fun _ _ _ h => h) (Or.inr ⟨by rfl, rfl⟩) ?_ ?_
        rotate_left
        ·simp only [Act.put, sa4, sz4, ss4, i64_w, i32_w]
         rfl
        refine pure_ (i:=19) (N:=some 59) (v:=undef) (a' := ?_) (bb4 24 1048575) rfl rfl (any_of HT_.out (by kernel_rfl)) (fun _ _ _ h => h) (Or.inr ⟨by rfl, rfl⟩) ?_ ?_
        rotate_left
        ·simp only [Act.put, sa4, sz4, ss4, i64_w, i32_w]
         rfl
        refine pure_ (i:=20) (N:=some 60) (v:=undef) (a' := ?_) (bb4 24 2097151) rfl rfl (any_of HT_.out (by kernel_rfl)) (fun _ _ _ h => h) (Or.inr ⟨by rfl, rfl⟩) ?_ ?_
        rotate_left
        ·simp only [Act.put, sa4, sz4, ss4, i64_w, i32_w]
         rfl
        refine pure_ (i:=21) (N:=some 61) (v:=undef) (a' := ?_) (bb4 24 4194303) rfl rfl (any_of HT_.out (by kernel_rfl)) (fun _ _ _ h => h) (Or.inr ⟨by rfl, rfl⟩) ?_ ?_
        rotate_left
        ·simp only [Act.put, sa4, sz4, ss4, i64_w, i32_w]
         rfl
        refine pure_ (i:=22) (N:=some 62) (v:=undef) (a' := ?_) (bb4 24 8388607) rfl rfl (any_of HT_.out (by kernel_rfl)) (fun _ _ _ h => h) (Or.inr ⟨by rfl, rfl⟩) ?_ ?_
        rotate_left
        ·simp only [Act.put, sa4, sz4, ss4, i64_w, i32_w]
         rfl
        refine pure_ (i:=23) (N:=some 63) (v:=?_) (a' := ?_) (bb4 24 16777215) rfl rfl (any_of HT_.out (by kernel_rfl)) (fun _ _ _ h => h) (Or.inl ⟨by rfl, ?_⟩) ?_ ?_
        rotate_left
        ·intro w'
         go_simp
         with_reducible rfl
        rotate_left
        ·simp only [Act.put, sa4, sz4, ss4, i64_w, i32_w]
         rfl
        refine done_ (done_of HT_.out (by kernel_rfl)) ?_
        try go_wp2
        go_meet
        case rel => exact ⟨_, (true), (by first | rfl | (simp; done) | (simp [*]; done)), H', ⟨by first | omega | exact Nat.le_refl _⟩, ⟨by (with_reducible repeat first | apply kn4 | apply kd4 | apply ka4); exact BK234.out⟩, ⟨by (with_reducible repeat first | apply kn4 | apply kd4 | apply ka4); exact BK235.out⟩, ⟨by (with_reducible repeat first | apply kn4 | apply kd4 | apply ka4); exact BK247.out⟩, ⟨by (with_reducible repeat first | apply kn4 | apply kd4 | apply ka4); exact BK251.out⟩, ⟨by repeat (first | (with_reducible first | exact HB.out | apply ba4 | apply bn4 | apply bd4 | refine bs4 ?_ GE234.out | refine bs4 ?_ GE235.out | refine bs4 ?_ GE247.out | refine bs4 ?_ GE251.out) | exact HB.out)⟩⟩
       ·rw [if_neg c45] at H
        have c45b0 : (t252 != t253) = false := by simpa using c45
        (try (have c45b1 : decide (t252 = t253) = true := by simpa using c45))
        (try (have c45b2 : (t252 == t253) = true := by simpa using c45))
        clear c45
        replace H := Option.bind_eq_some_iff.mp H
        obtain ⟨t254, A500, H⟩ := H
        try dsimp only at H
        have A50 := Am4 A500
        clear A500
        replace H := Option.bind_eq_some_iff.mp H
        obtain ⟨t255, A510, H⟩ := H
        try dsimp only at H
        have A51 := Am4 A510
        clear A510
        have H' := Am4 H
        clear H
        try go_wp2
        have n0_ : Aside0 (Kd.R Kd.string 9 ((w32.setCell ⟨gb251, 0, none⟩ (.string t248)).setCell ⟨gb251, 1, none⟩ (.string t249)) w.heap.size (fun _ => True) (.slice Ao21 y240.length co21) y240) := ⟨by (with_reducible repeat first | apply Ra4 | apply Rn4 | apply Rd4); exact Ro4 (Rf4 (p:=⟨gb251, 1, none⟩) (Rf4 (p:=⟨gb251, 0, none⟩) (Ry4 HO242.out BK251.out (by decide)) (fun _ h=>h.2) (.string t248)) (fun _ h=>h.2) (.string t249)) (fun _ hk => trivial)⟩
        have n1_ : Aside0 (((w32.setCell ⟨gb251, 0, none⟩ (.string t248)).setCell ⟨gb251, 1, none⟩ (.string t249)).heap[gb234]? = some (.cells #[.string a0_0, .string a0_1] 26 (0, 0))) := ⟨by (with_reducible repeat first | apply kn4 | apply kd4 | apply ka4); refine kf4 ?_ NB234_251.out _; (with_reducible repeat first | apply kn4 | apply kd4 | apply ka4); refine kf4 ?_ NB234_251.out _; (with_reducible repeat first | apply kn4 | apply kd4 | apply ka4); exact BK234.out⟩
        have n2_ : Aside0 (((w32.setCell ⟨gb251, 0, none⟩ (.string t248)).setCell ⟨gb251, 1, none⟩ (.string t249)).heap[gb235]? = some (.cells #[.string a1_0, .string a1_1] 26 (0, 0))) := ⟨by (with_reducible repeat first | apply kn4 | apply kd4 | apply ka4); refine kf4 ?_ NB235_251.out _; (with_reducible repeat first | apply kn4 | apply kd4 | apply ka4); refine kf4 ?_ NB235_251.out _; (with_reducible repeat first | apply kn4 | apply kd4 | apply ka4); exact BK235.out⟩
        have n3_ : Aside0 (((w32.setCell ⟨gb251, 0, none⟩ (.string t248)).setCell ⟨gb251, 1, none⟩ (.string t249)).heap[gb247]? = some (.cells #[.string t244, .string t245] 26 (0, 0))) := ⟨by (with_reducible repeat first | apply kn4 | apply kd4 | apply ka4); refine kf4 ?_ NB247_251.out _; (with_reducible repeat first | apply kn4 | apply kd4 | apply ka4); refine kf4 ?_ NB247_251.out _; (with_reducible repeat first | apply kn4 | apply kd4 | apply ka4); exact BK247.out⟩
        have n4_ : Aside0 (((w32.setCell ⟨gb251, 0, none⟩ (.string t248)).setCell ⟨gb251, 1, none⟩ (.string t249)).heap[gb251]? = some (.cells #[.string t248, .string t249] 26 (0, 0))) := ⟨by (with_reducible repeat first | apply kn4 | apply kd4 | apply ka4); refine blk_put (cs:=#[.string t248, .string (⟨#[]⟩ : ByteArray)]) ?_ 1 _ rfl; (with_reducible repeat first | apply kn4 | apply kd4 | apply ka4); refine blk_put (cs:=#[.string (⟨#[]⟩ : ByteArray), .string (⟨#[]⟩ : ByteArray)]) ?_ 0 _ rfl; (with_reducible repeat first | apply kn4 | apply kd4 | apply ka4); exact BK251.out⟩
        have n5_ : Aside0 (Below w.heap.size w ((w32.setCell ⟨gb251, 0, none⟩ (.string t248)).setCell ⟨gb251, 1, none⟩ (.string t249))) := ⟨by repeat (first | (with_reducible first | exact HB.out | apply ba4 | apply bn4 | apply bd4 | refine bs4 ?_ GE234.out | refine bs4 ?_ GE235.out | refine bs4 ?_ GE247.out | refine bs4 ?_ GE251.out) | exact HB.out)⟩
        (try clear HO242)
        (try clear BK234)
        (try clear BK235)
        (try clear BK247)
        (try clear BK251)
        (try clear HB)
        generalize ((w32.setCell ⟨gb251, 0, none⟩ (.string t248)).setCell ⟨gb251, 1, none⟩ (.string t249)) = w52 at n0_ n1_ n2_ n3_ n4_ n5_ ⊢
        have HO242 := n0_
        have BK234 := n1_
        have BK235 := n2_
        have BK247 := n3_
        have BK251 := n4_
        have HB := n5_
        clear n0_ n1_ n2_ n3_ n4_ n5_
        replace HO242 := Am4 (Rd4 HO242.out)
        replace BK234 := Am4 (kd4 BK234.out)
        replace BK235 := Am4 (kd4 BK235.out)
        replace BK247 := Am4 (kd4 BK247.out)
        replace BK251 := Am4 (kd4 BK251.out)
        replace HB := Am4 (bd4 HB.out)
        refine start_ (n:=24) (S:=fun w' => w'.cell? ⟨gb247, 0, none⟩ = some (.string t244) ∧ w'.cell? ⟨gb247, 1, none⟩ = some (.string t245) ∧ w'.cell? ⟨gb251, 0, none⟩ = some (.string t248) ∧ w'.cell? ⟨gb251, 1, none⟩ = some (.string t249) ∧ w'.cell? ⟨gb234, 0, none⟩ = some (.string a0_0) ∧ w'.cell? ⟨gb234, 1, none⟩ = some (.string a0_1) ∧ w'.cell? ⟨gb235, 0, none⟩ = some (.string a1_0) ∧ w'.cell? ⟨gb235, 1, none⟩ = some (.string a1_1)) (ds:=[]) (bb4 24 0) (by kernel_rfl) rfl rfl ⟨(kc4 BK247.out 0).trans rfl, (kc4 BK247.out 1).trans rfl, (kc4 BK251.out 0).trans rfl, (kc4 BK251.out 1).trans rfl, (kc4 BK234.out 0).trans rfl, (kc4 BK234.out 1).trans rfl, (kc4 BK235.out 0).trans rfl, (kc4 BK235.out 1).trans rfl⟩ (fun hHeld => ?_); refine with_tabW watershedlaw04_SpanTells.tab7 watershedlaw04_SpanTells.bits7 (fun HT_ HW_ => ?_)
        generalize w52.drew = w53 at HO242 BK234 BK235 BK247 BK251 HB hHeld ⊢
        refine take_ (i:=0) (N:=some 40) (v:=?_) (a' := ?_) (bb4 24 1) rfl rfl (take_ofW HT_.out HW_.out (by kernel_rfl)) (fun _ _ _ h => h) (Or.inl ⟨by rfl, ?_⟩) hHeld ?_ ?_
        rotate_left
        ·rintro w' ⟨s0, s1, s2, s3, s4, s5, s6, s7⟩
         go_simp
         with_reducible rfl
        rotate_left
        ·simp only [Act.put, sa4, sz4, ss4, i64_w, i32_w]
         rfl
        refine take_ (i:=1) (N:=some 41) (v:=?_) (a' := ?_) (bb4 24 3) rfl rfl (take_ofW HT_.out HW_.out (by kernel_rfl)) (fun _ _ _ h => h) (Or.inl ⟨by rfl, ?_⟩) hHeld ?_ ?_
        rotate_left
        ·rintro w' ⟨s0, s1, s2, s3, s4, s5, s6, s7⟩
         go_simp
         with_reducible rfl
        rotate_left
        ·simp only [Act.put, sa4, sz4, ss4, i64_w, i32_w]
         rfl
        refine pure_ (i:=2) (N:=some 42) (v:=?_) (a' := ?_) (bb4 24 7) rfl rfl (any_of HT_.out (by kernel_rfl)) (fun _ _ _ h => h) (Or.inl ⟨by rfl, ?_⟩) ?_ ?_
        rotate_left
        ·intro w'
         go_simp
         with_reducible rfl
        rotate_left
        ·simp only [Act.put, sa4, sz4, ss4, i64_w, i32_w]
         rfl
        refine pure_ (i:=3) (N:=some 43) (v:=?_) (a' := ?_) (bb4 24 15) rfl rfl (any_of HT_.out (by kernel_rfl)) (fun _ _ _ h => h) (Or.inl ⟨by rfl, ?_⟩) ?_ ?_
        rotate_left
        ·intro w'
         go_simp
         with_reducible rfl
        rotate_left
        ·simp only [Act.put, sa4, sz4, ss4, i64_w, i32_w]
         rfl
        refine pure_ (i:=4) (N:=some 44) (v:=?_) (a' := ?_) (bb4 24 31) rfl rfl (any_of HT_.out (by kernel_rfl)) (fun _ _ _ h => h) (Or.inl ⟨by rfl, ?_⟩) ?_ ?_
        rotate_left
        ·intro w'
         go_simp
         with_reducible rfl
        rotate_left
        ·simp only [Act.put, sa4, sz4, ss4, i64_w, i32_w]
         rfl
        refine pure_ (i:=5) (N:=some 45) (v:=?_) (a' := ?_) (bb4 24 63) rfl rfl (any_of HT_.out (by kernel_rfl)) (fun _ _ _ h => h) (Or.inl ⟨by rfl, ?_⟩) ?_ ?_
        rotate_left
        ·intro w'
         go_simp
         with_reducible rfl
        rotate_left
        ·simp only [Act.put, sa4, sz4, ss4, i64_w, i32_w]
         rfl
        refine pure_ (i:=6) (N:=some 46) (v:=?_) (a' := ?_) (bb4 24 127) rfl rfl (any_of HT_.out (by kernel_rfl)) (fun _ _ _ h => h) (Or.inl ⟨by rfl, ?_⟩) ?_ ?_
        rotate_left
        ·intro w'
         go_simp
         with_reducible rfl
        rotate_left
        ·simp only [Act.put, sa4, sz4, ss4, i64_w, i32_w]
         rfl
        refine pure_ (i:=7) (N:=some 47) (v:=?_) (a' := ?_) (bb4 24 255) rfl rfl (any_of HT_.out (by kernel_rfl)) (fun _ _ _ h => h) (Or.inl ⟨by rfl, ?_⟩) ?_ ?_
        rotate_left
        ·intro w'
         go_simp
         with_reducible rfl
        rotate_left
        ·simp only [Act.put, sa4, sz4, ss4, i64_w, i32_w]
         rfl
        refine pure_ (i:=8) (N:=some 48) (v:=?_) (a' := ?_) (bb4 24 511) rfl rfl (any_of HT_.out (by kernel_rfl)) (fun _ _ _ h => h) (Or.inl ⟨by rfl, ?_⟩) ?_ ?_
        rotate_left
        ·intro w'
         go_simp
         with_reducible rfl
        rotate_left
        ·simp only [Act.put, sa4, sz4, ss4, i64_w, i32_w]
         rfl
        refine take_ (i:=9) (N:=some 49) (v:=?_) (a' := ?_) (bb4 24 1023) rfl rfl (take_ofW HT_.out HW_.out (by kernel_rfl)) (fun _ _ _ h => h) (Or.inl ⟨by rfl, ?_⟩) hHeld ?_ ?_
        rotate_left
        ·rintro w' ⟨s0, s1, s2, s3, s4, s5, s6, s7⟩
         go_simp
         with_reducible rfl
        rotate_left
        ·simp only [Act.put, sa4, sz4, ss4, i64_w, i32_w]
         rfl
        refine take_ (i:=10) (N:=some 50) (v:=?_) (a' := ?_) (bb4 24 2047) rfl rfl (take_ofW HT_.out HW_.out (by kernel_rfl)) (fun _ _ _ h => h) (Or.inl ⟨by rfl, ?_⟩) hHeld ?_ ?_
        rotate_left
        ·rintro w' ⟨s0, s1, s2, s3, s4, s5, s6, s7⟩
         go_simp
         with_reducible rfl
        rotate_left
        ·simp only [Act.put, sa4, sz4, ss4, i64_w, i32_w]
         rfl
        refine take_ (i:=12) (N:=some 52) (v:=?_) (a' := ?_) (bb4 24 6143) rfl rfl (take_ofW HT_.out HW_.out (by kernel_rfl)) (fun _ _ _ h => h) (Or.inl ⟨by rfl, ?_⟩) hHeld ?_ ?_
        rotate_left
        ·rintro w' ⟨s0, s1, s2, s3, s4, s5, s6, s7⟩
         go_simp
         with_reducible rfl
        rotate_left
        ·simp only [Act.put, sa4, sz4, ss4, i64_w, i32_w]
         rfl
        refine take_ (i:=13) (N:=some 53) (v:=?_) (a' := ?_) (bb4 24 14335) rfl rfl (take_ofW HT_.out HW_.out (by kernel_rfl)) (fun _ _ _ h => h) (Or.inl ⟨by rfl, ?_⟩) hHeld ?_ ?_
        rotate_left
        ·rintro w' ⟨s0, s1, s2, s3, s4, s5, s6, s7⟩
         go_simp
         with_reducible rfl
        rotate_left
        ·simp only [Act.put, sa4, sz4, ss4, i64_w, i32_w]
         rfl
        refine one_ (i:=11) (N:=some 51) (bb4 24 16383) rfl rfl (one_of HT_.out (by kernel_rfl)) (by decide) (fun K hK => ?_)
        refine goes_ Try.func14 (by kernel_rfl) rfl #[.agg #[.string a0_0, .string a0_1], .agg #[.string a1_0, .string a1_1]] (by rfl) rfl rfl (by (try simp only [ma4, mc4, mn4]); first | done | rfl | (simp only [ld4, lt_4]; rfl)) ?_
        with_reducible refine (span_Within.calls k a0_0 a0_1 a1_0 a1_1 t252 _ A43.out).mono ?_
        rintro e w54 ⟨rfl, hb⟩
        refine ⟨_, rfl, ?_⟩
        replace HO242 := Am4 (Rb4 (by (with_reducible repeat first | apply Ra4 | apply Rn4 | apply Rd4); exact HO242.out) hb)
        replace BK234 := Am4 (kb4 (g:=gb234) (o:=.cells #[.string a0_0, .string a0_1] 26 (0, 0)) (by (with_reducible repeat first | apply kn4 | apply kd4 | apply ka4); exact BK234.out) hb)
        replace BK235 := Am4 (kb4 (g:=gb235) (o:=.cells #[.string a1_0, .string a1_1] 26 (0, 0)) (by (with_reducible repeat first | apply kn4 | apply kd4 | apply ka4); exact BK235.out) hb)
        replace BK247 := Am4 (kb4 (g:=gb247) (o:=.cells #[.string t244, .string t245] 26 (0, 0)) (by (with_reducible repeat first | apply kn4 | apply kd4 | apply ka4); exact BK247.out) hb)
        replace BK251 := Am4 (kb4 (g:=gb251) (o:=.cells #[.string t248, .string t249] 26 (0, 0)) (by (with_reducible repeat first | apply kn4 | apply kd4 | apply ka4); exact BK251.out) hb)
        replace HB := Am4 (bp4 (by repeat (first | (with_reducible first | exact HB.out | apply ba4 | apply bn4 | apply bd4 | refine bs4 ?_ GE234.out | refine bs4 ?_ GE235.out | refine bs4 ?_ GE247.out | refine bs4 ?_ GE251.out) | exact HB.out)) hb)
        (try clear hb)
        (try clear hb2)
        (try clear hk)
        (try clear hi)
        refine hK.out _ _ ⟨(kc4 BK247.out 0).trans rfl, (kc4 BK247.out 1).trans rfl, (kc4 BK251.out 0).trans rfl, (kc4 BK251.out 1).trans rfl, (kc4 BK234.out 0).trans rfl, (kc4 BK234.out 1).trans rfl, (kc4 BK235.out 0).trans rfl, (kc4 BK235.out 1).trans rfl⟩ (fun hHeld => ?_)
        clear hK K
        refine norm_ (a' := ?_) ?_ ?_
        rotate_left
        ·show Act.put _ (some 51) _ = _
         simp only [Act.put, sa4, sz4, ss4, i64_w, i32_w]
         rfl
        refine one_ (i:=14) (N:=some 54) (bb4 24 32767) rfl rfl (one_of HT_.out (by kernel_rfl)) (by decide) (fun K hK => ?_)
        refine goes_ Try.func15 (by kernel_rfl) rfl #[.agg #[.string a0_0, .string a0_1], .agg #[.string a1_0, .string a1_1]] (by rfl) rfl rfl (by (try simp only [ma4, mc4, mn4]); first | done | rfl | (simp only [ld4, lt_4]; rfl)) ?_
        with_reducible refine (watershedref04_Within.calls k a0_0 a0_1 a1_0 a1_1 t253 _ A44.out).mono ?_
        rintro e w55 ⟨rfl, hb⟩
        refine ⟨_, rfl, ?_⟩
        replace HO242 := Am4 (Rb4 (by (with_reducible repeat first | apply Ra4 | apply Rn4 | apply Rd4); exact HO242.out) hb)
        replace BK234 := Am4 (kb4 (g:=gb234) (o:=.cells #[.string a0_0, .string a0_1] 26 (0, 0)) (by (with_reducible repeat first | apply kn4 | apply kd4 | apply ka4); exact BK234.out) hb)
        replace BK235 := Am4 (kb4 (g:=gb235) (o:=.cells #[.string a1_0, .string a1_1] 26 (0, 0)) (by (with_reducible repeat first | apply kn4 | apply kd4 | apply ka4); exact BK235.out) hb)
        replace BK247 := Am4 (kb4 (g:=gb247) (o:=.cells #[.string t244, .string t245] 26 (0, 0)) (by (with_reducible repeat first | apply kn4 | apply kd4 | apply ka4); exact BK247.out) hb)
        replace BK251 := Am4 (kb4 (g:=gb251) (o:=.cells #[.string t248, .string t249] 26 (0, 0)) (by (with_reducible repeat first | apply kn4 | apply kd4 | apply ka4); exact BK251.out) hb)
        replace HB := Am4 (bp4 (by repeat (first | (with_reducible first | exact HB.out | apply ba4 | apply bn4 | apply bd4 | refine bs4 ?_ GE234.out | refine bs4 ?_ GE235.out | refine bs4 ?_ GE247.out | refine bs4 ?_ GE251.out) | exact HB.out)) hb)
        (try clear hb)
        (try clear hb2)
        (try clear hk)
        (try clear hi)
        refine hK.out _ _ ⟨(kc4 BK247.out 0).trans rfl, (kc4 BK247.out 1).trans rfl, (kc4 BK251.out 0).trans rfl, (kc4 BK251.out 1).trans rfl, (kc4 BK234.out 0).trans rfl, (kc4 BK234.out 1).trans rfl, (kc4 BK235.out 0).trans rfl, (kc4 BK235.out 1).trans rfl⟩ (fun hHeld => ?_)
        clear hK K
        refine norm_ (a' := ?_) ?_ ?_
        rotate_left
        ·show Act.put _ (some 54) _ = _
         simp only [Act.put, sa4, sz4, ss4, i64_w, i32_w]
         rfl
        refine pure_ (i:=15) (N:=some 55) (v:=?_) (a' := ?_) (bb4 24 65535) rfl rfl (any_of HT_.out (by kernel_rfl)) (fun _ _ _ h => h) (Or.inl ⟨by rfl, ?_⟩) ?_ ?_
        rotate_left
        ·intro w'
         go_simp
         with_reducible rfl
        rotate_left
        ·simp only [Act.put, sa4, sz4, ss4, i64_w, i32_w]
         rfl
        refine pure_ (i:=16) (N:=some 56) (v:=?_) (a' := ?_) (bb4 24 131071) rfl rfl (any_of HT_.out (by kernel_rfl)) (fun _ _ _ h => h) (Or.inl ⟨by rfl, ?_⟩) ?_ ?_
        rotate_left
        ·intro w'
         go_simp
         with_reducible rfl
        rotate_left
        ·simp only [Act.put, sa4, sz4, ss4, i64_w, i32_w]
         rfl
        refine pure_ (i:=17) (N:=some 57) (v:=?_) (a' := ?_) (bb4 24 262143) rfl rfl (any_of HT_.out (by kernel_rfl)) (fun _ _ _ h => h) (Or.inl ⟨by rfl, ?_⟩) ?_ ?_
        rotate_left
        ·intro w'
         go_simp
         with_reducible rfl
        rotate_left
        ·simp only [Act.put, sa4, sz4, ss4, i64_w, i32_w]
         rfl
        refine take_ (i:=18) (N:=some 58) (v:=?_) (a' := ?_) (bb4 24 524287) rfl rfl (take_ofW HT_.out HW_.out (by kernel_rfl)) (fun _ _ _ h => h) (Or.inl ⟨by rfl, ?_⟩) hHeld ?_ ?_
        rotate_left
        ·rintro w' ⟨s0, s1, s2, s3, s4, s5, s6, s7⟩
         go_simp
         with_reducible rfl
        rotate_left
        ·simp only [Act.put, sa4, sz4, ss4, i64_w, i32_w]
         rfl
        refine take_ (i:=20) (N:=some 60) (v:=?_) (a' := ?_) (bb4 24 1572863) rfl rfl (take_ofW HT_.out HW_.out (by kernel_rfl)) (fun _ _ _ h => h) (Or.inl ⟨by rfl, ?_⟩) hHeld ?_ ?_
        rotate_left
        ·rintro w' ⟨s0, s1, s2, s3, s4, s5, s6, s7⟩
         go_simp
         with_reducible rfl
        rotate_left
        ·simp only [Act.put, sa4, sz4, ss4, i64_w, i32_w]
         rfl
        refine one_ (i:=19) (N:=some 59) (bb4 24 2097151) rfl rfl (one_of HT_.out (by kernel_rfl)) (by decide) (fun K hK => ?_)
        refine goes_ Try.func16 (by kernel_rfl) rfl #[.agg #[.string a0_0, .string a0_1]] (by rfl) rfl rfl (by (try simp only [ma4, mc4, mn4]); first | done | rfl | (simp only [ld4, lt_4]; rfl)) ?_
        with_reducible refine (span_Right.calls k a0_0 a0_1 t254 _ A50.out).mono ?_
        rintro e w56 ⟨rfl, hb⟩
        refine ⟨_, rfl, ?_⟩
        replace HO242 := Am4 (Rb4 (by (with_reducible repeat first | apply Ra4 | apply Rn4 | apply Rd4); exact HO242.out) hb)
        replace BK234 := Am4 (kb4 (g:=gb234) (o:=.cells #[.string a0_0, .string a0_1] 26 (0, 0)) (by (with_reducible repeat first | apply kn4 | apply kd4 | apply ka4); exact BK234.out) hb)
        replace BK235 := Am4 (kb4 (g:=gb235) (o:=.cells #[.string a1_0, .string a1_1] 26 (0, 0)) (by (with_reducible repeat first | apply kn4 | apply kd4 | apply ka4); exact BK235.out) hb)
        replace BK247 := Am4 (kb4 (g:=gb247) (o:=.cells #[.string t244, .string t245] 26 (0, 0)) (by (with_reducible repeat first | apply kn4 | apply kd4 | apply ka4); exact BK247.out) hb)
        replace BK251 := Am4 (kb4 (g:=gb251) (o:=.cells #[.string t248, .string t249] 26 (0, 0)) (by (with_reducible repeat first | apply kn4 | apply kd4 | apply ka4); exact BK251.out) hb)
        replace HB := Am4 (bp4 (by repeat (first | (with_reducible first | exact HB.out | apply ba4 | apply bn4 | apply bd4 | refine bs4 ?_ GE234.out | refine bs4 ?_ GE235.out | refine bs4 ?_ GE247.out | refine bs4 ?_ GE251.out) | exact HB.out)) hb)
        (try clear hb)
        (try clear hb2)
        (try clear hk)
        (try clear hi)
        refine hK.out _ _ ⟨(kc4 BK247.out 0).trans rfl, (kc4 BK247.out 1).trans rfl, (kc4 BK251.out 0).trans rfl, (kc4 BK251.out 1).trans rfl, (kc4 BK234.out 0).trans rfl, (kc4 BK234.out 1).trans rfl, (kc4 BK235.out 0).trans rfl, (kc4 BK235.out 1).trans rfl⟩ (fun hHeld => ?_)
        clear hK K
        refine norm_ (a' := ?_) ?_ ?_
        rotate_left
        ·show Act.put _ (some 59) _ = _
         simp only [Act.put, sa4, sz4, ss4, i64_w, i32_w]
         rfl
        refine one_ (i:=21) (N:=some 61) (bb4 24 4194303) rfl rfl (one_of HT_.out (by kernel_rfl)) (by decide) (fun K hK => ?_)
        refine goes_ Try.func17 (by kernel_rfl) rfl #[.agg #[.string a0_0, .string a0_1]] (by rfl) rfl rfl (by (try simp only [ma4, mc4, mn4]); first | done | rfl | (simp only [ld4, lt_4]; rfl)) ?_
        with_reducible refine (watershedref04_Right.calls k a0_0 a0_1 t255 _ A51.out).mono ?_
        rintro e w57 ⟨rfl, hb⟩
        refine ⟨_, rfl, ?_⟩
        replace HO242 := Am4 (Rb4 (by (with_reducible repeat first | apply Ra4 | apply Rn4 | apply Rd4); exact HO242.out) hb)
        replace BK234 := Am4 (kb4 (g:=gb234) (o:=.cells #[.string a0_0, .string a0_1] 26 (0, 0)) (by (with_reducible repeat first | apply kn4 | apply kd4 | apply ka4); exact BK234.out) hb)
        replace BK235 := Am4 (kb4 (g:=gb235) (o:=.cells #[.string a1_0, .string a1_1] 26 (0, 0)) (by (with_reducible repeat first | apply kn4 | apply kd4 | apply ka4); exact BK235.out) hb)
        replace BK247 := Am4 (kb4 (g:=gb247) (o:=.cells #[.string t244, .string t245] 26 (0, 0)) (by (with_reducible repeat first | apply kn4 | apply kd4 | apply ka4); exact BK247.out) hb)
        replace BK251 := Am4 (kb4 (g:=gb251) (o:=.cells #[.string t248, .string t249] 26 (0, 0)) (by (with_reducible repeat first | apply kn4 | apply kd4 | apply ka4); exact BK251.out) hb)
        replace HB := Am4 (bp4 (by repeat (first | (with_reducible first | exact HB.out | apply ba4 | apply bn4 | apply bd4 | refine bs4 ?_ GE234.out | refine bs4 ?_ GE235.out | refine bs4 ?_ GE247.out | refine bs4 ?_ GE251.out) | exact HB.out)) hb)
        (try clear hb)
        (try clear hb2)
        (try clear hk)
        (try clear hi)
        refine hK.out _ _ ⟨(kc4 BK247.out 0).trans rfl, (kc4 BK247.out 1).trans rfl, (kc4 BK251.out 0).trans rfl, (kc4 BK251.out 1).trans rfl, (kc4 BK234.out 0).trans rfl, (kc4 BK234.out 1).trans rfl, (kc4 BK235.out 0).trans rfl, (kc4 BK235.out 1).trans rfl⟩ (fun hHeld => ?_)
        clear hK K
        refine norm_ (a' := ?_) ?_ ?_
        rotate_left
        ·show Act.put _ (some 61) _ = _
         simp only [Act.put, sa4, sz4, ss4, i64_w, i32_w]
         rfl
        refine pure_ (i:=22) (N:=some 62) (v:=?_) (a' := ?_) (bb4 24 8388607) rfl rfl (any_of HT_.out (by kernel_rfl)) (fun _ _ _ h => h) (Or.inl ⟨by rfl, ?_⟩) ?_ ?_
        rotate_left
        ·intro w'
         go_simp
         with_reducible rfl
        rotate_left
        ·simp only [Act.put, sa4, sz4, ss4, i64_w, i32_w]
         rfl
        refine pure_ (i:=23) (N:=some 63) (v:=?_) (a' := ?_) (bb4 24 16777215) rfl rfl (any_of HT_.out (by kernel_rfl)) (fun _ _ _ h => h) (Or.inl ⟨by rfl, ?_⟩) ?_ ?_
        rotate_left
        ·intro w'
         go_simp
         with_reducible rfl
        rotate_left
        ·simp only [Act.put, sa4, sz4, ss4, i64_w, i32_w]
         rfl
        refine done_ (done_of HT_.out (by kernel_rfl)) ?_
        try go_wp2
        go_meet
        case rel => exact ⟨_, ((t254 != t255)), (by first | rfl | (simp; done) | (simp [*]; done)), H', ⟨by first | omega | exact Nat.le_refl _⟩, ⟨by (with_reducible repeat first | apply kn4 | apply kd4 | apply ka4); exact BK234.out⟩, ⟨by (with_reducible repeat first | apply kn4 | apply kd4 | apply ka4); exact BK235.out⟩, ⟨by (with_reducible repeat first | apply kn4 | apply kd4 | apply ka4); exact BK247.out⟩, ⟨by (with_reducible repeat first | apply kn4 | apply kd4 | apply ka4); exact BK251.out⟩, ⟨by repeat (first | (with_reducible first | exact HB.out | apply ba4 | apply bn4 | apply bd4 | refine bs4 ?_ GE234.out | refine bs4 ?_ GE235.out | refine bs4 ?_ GE247.out | refine bs4 ?_ GE251.out) | exact HB.out)⟩⟩
    case rest =>
     clear HC11
     try clear c1
     try clear p2
     try clear c4
     try clear c14
     try clear c15
     try clear c16
     try clear c17
     try clear c45
     try clear c45b0
     try clear c45b1
     try clear c45b2
     obtain ⟨kq, x63_10, rfl, HA, HJ10, BK234, BK235, BK247, BK251, HB⟩ := hcut
     cases kq with
     | zero => exact absurd HA.out (by simp [watershedlaw04_SpanTells.j0])
     | succ kj10 =>
      have H := HA.out
      clear HA
      simp only [watershedlaw04_SpanTells.j0] at H
      by_cases c58 : x63_10 = true
      ·subst c58
       rw [if_pos rfl] at H
       exact absurd H (by simp)
      ·replace c58 := Bool.eq_false_iff.mpr c58
       subst c58
       rw [if_neg (show ¬ (false = true) by decide)] at H
       have H' := Am4 H
       clear H
       go_wp2
       go_loopg [11] kj10 (fun kq v11 w' => ∃ (x11_2 : Int), v11 = .int .i64 x11_2 ∧ Aside0 (watershedlaw04_SpanTells.l0 kq l2 x11_2 a0_0 a0_1 = some r) ∧ Aside0 (kq ≤ kj10) ∧ Aside0 (w'.heap[gb234]? = some (.cells #[.string a0_0, .string a0_1] 26 (0, 0))) ∧ Aside0 (w'.heap[gb235]? = some (.cells #[.string a1_0, .string a1_1] 26 (0, 0))) ∧ Aside0 (w'.heap[gb247]? = some (.cells #[.string t244, .string t245] 26 (0, 0))) ∧ Aside0 (w'.heap[gb251]? = some (.cells #[.string t248, .string t249] 26 (0, 0))) ∧ Aside0 (Below w.heap.size w w'))
       case atStart => exact ⟨(0), (by first | rfl | (simp; done) | (simp [*]; done)), H', ⟨Nat.le_refl _⟩, ⟨by (with_reducible repeat first | apply kn4 | apply kd4 | apply ka4); exact BK234.out⟩, ⟨by (with_reducible repeat first | apply kn4 | apply kd4 | apply ka4); exact BK235.out⟩, ⟨by (with_reducible repeat first | apply kn4 | apply kd4 | apply ka4); exact BK247.out⟩, ⟨by (with_reducible repeat first | apply kn4 | apply kd4 | apply ka4); exact BK251.out⟩, ⟨by repeat (first | (with_reducible first | exact HB.out | apply ba4 | apply bn4 | apply bd4 | refine bs4 ?_ GE234.out | refine bs4 ?_ GE235.out | refine bs4 ?_ GE247.out | refine bs4 ?_ GE251.out) | exact HB.out)⟩⟩
       case round =>
        clear H'
        try clear c1
        try clear p2
        try clear c4
        try clear c5
        try clear c14
        try clear c15
        try clear c16
        try clear c17
        try clear c45
        try clear c45b0
        try clear c45b1
        try clear c45b2
        try clear c58
        try clear p2
        obtain ⟨x11_2, rfl, HA, HK2, BK234, BK235, BK247, BK251, HB⟩ := hrel
        cases gk with
        | zero => exact absurd HA.out (by simp [watershedlaw04_SpanTells.l0])
        | succ k2 =>
         have H := HA.out
         clear HA
         simp only [watershedlaw04_SpanTells.l0] at H
         by_cases c59 : x11_2 < (l2.length : Int)
         ·rw [if_pos c59] at H
          have c59b0 : decide (x11_2 < (l2.length : Int)) = true := decide_eq_true c59
          clear c59
          by_cases c60 : 0 ≤ x11_2
          ·rw [if_pos c60] at H
           have c60b0 : decide (0 ≤ x11_2) = true := decide_eq_true c60
           clear c60
           replace H := Option.bind_eq_some_iff.mp H
           obtain ⟨t257, A610, H⟩ := H
           try dsimp only at H
           have A61 := Am4 A610
           clear A610
           replace H := Option.bind_eq_some_iff.mp H
           obtain ⟨t259, A620, H⟩ := H
           try dsimp only at H
           have A62 := Am4 A620
           clear A620
           by_cases c63 : (t257 != t259) = true
           ·rw [if_pos c63] at H
            have c63b0 : (t257 != t259) = true := c63
            (try (have c63b1 : decide (t257 = t259) = false := by simpa using c63))
            (try (have c63b2 : (t257 == t259) = false := by simpa using c63))
            (try (have c63b3 : ¬ (t257 = t259) := by simpa using c63))
            clear c63
            exact absurd H (by simp)
           ·rw [if_neg c63] at H
            have c63b0 : (t257 != t259) = false := by simpa using c63
            (try (have c63b1 : decide (t257 = t259) = true := by simpa using c63))
            (try (have c63b2 : (t257 == t259) = true := by simpa using c63))
            clear c63
            replace H := Option.bind_eq_some_iff.mp H
            obtain ⟨t261, A640, H⟩ := H
            try dsimp only at H
            have A64 := Am4 A640
            clear A640
            replace H := Option.bind_eq_some_iff.mp H
            obtain ⟨t263, A650, H⟩ := H
            try dsimp only at H
            have A65 := Am4 A650
            clear A650
            by_cases c66 : (t261 != t263) = true
            ·rw [if_pos c66] at H
             exact absurd H (by simp)
            ·rw [if_neg c66] at H
             have c66b0 : (t261 != t263) = false := by simpa using c66
             (try (have c66b1 : decide (t261 = t263) = true := by simpa using c66))
             (try (have c66b2 : (t261 == t263) = true := by simpa using c66))
             clear c66
             have H' := Am4 H
             clear H
             try go_wp2
             replace BK234 := Am4 (kd4 BK234.out)
             replace BK235 := Am4 (kd4 BK235.out)
             replace BK247 := Am4 (kd4 BK247.out)
             replace BK251 := Am4 (kd4 BK251.out)
             replace HB := Am4 (bd4 HB.out)
             have p256 : 0 ≤ (x11_2 : Int) := of_decide_eq_true (by first | (with_reducible assumption) | assumption)
             have q256 : x11_2 < (l2.length : Int) := of_decide_eq_true (by first | (with_reducible assumption) | assumption)
             obtain ⟨ad256, e256, hx256_0⟩ := Kd.at_string HR2.out x11_2 p256 q256
             have hw256_0 := hx256_0
             cases e256
             replace hx256_0 := (HB.out.cell (World.block_lt_of_cell? w _ hx256_0)).trans hx256_0
             replace p256 := eq_true p256
             replace q256 := eq_true q256
             have p258 : 0 ≤ (x11_2 : Int) := of_decide_eq_true (by first | (with_reducible assumption) | assumption)
             have q258 : x11_2 < (l2.length : Int) := of_decide_eq_true (by first | (with_reducible assumption) | assumption)
             obtain ⟨ad258, e258, hx258_0⟩ := Kd.at_string HR2.out x11_2 p258 q258
             have hw258_0 := hx258_0
             obtain rfl : ad256 = ad258 := (by injection e258)
             replace hx258_0 := (HB.out.cell (World.block_lt_of_cell? w _ hx258_0)).trans hx258_0
             replace p258 := eq_true p258
             replace q258 := eq_true q258
             have p260 : 0 ≤ (x11_2 : Int) := of_decide_eq_true (by first | (with_reducible assumption) | assumption)
             have q260 : x11_2 < (l2.length : Int) := of_decide_eq_true (by first | (with_reducible assumption) | assumption)
             obtain ⟨ad260, e260, hx260_0⟩ := Kd.at_string HR2.out x11_2 p260 q260
             have hw260_0 := hx260_0
             obtain rfl : ad256 = ad260 := (by injection e260)
             replace hx260_0 := (HB.out.cell (World.block_lt_of_cell? w _ hx260_0)).trans hx260_0
             replace p260 := eq_true p260
             replace q260 := eq_true q260
             have p262 : 0 ≤ (x11_2 : Int) := of_decide_eq_true (by first | (with_reducible assumption) | assumption)
             have q262 : x11_2 < (l2.length : Int) := of_decide_eq_true (by first | (with_reducible assumption) | assumption)
             obtain ⟨ad262, e262, hx262_0⟩ := Kd.at_string HR2.out x11_2 p262 q262
             have hw262_0 := hx262_0
             obtain rfl : ad256 = ad262 := (by injection e262)
             replace hx262_0 := (HB.out.cell (World.block_lt_of_cell? w _ hx262_0)).trans hx262_0
             replace p262 := eq_true p262
             replace q262 := eq_true q262
             refine start_ (n:=26) (S:=fun w' => w'.cell? ⟨gb234, 0, none⟩ = some (.string a0_0) ∧ w'.cell? ⟨gb234, 1, none⟩ = some (.string a0_1) ∧ w'.cell? (ad256.add (x11_2).toNat) = some (.string (rdOf ByteArray.empty l2 x11_2)) ∧ w'.cell? (ad256.add (x11_2).toNat) = some (.string (rdOf ByteArray.empty l2 x11_2)) ∧ w'.cell? (ad256.add (x11_2).toNat) = some (.string (rdOf ByteArray.empty l2 x11_2)) ∧ w'.cell? (ad256.add (x11_2).toNat) = some (.string (rdOf ByteArray.empty l2 x11_2))) (ds:=[]) (bb4 26 0) (by kernel_rfl) rfl rfl ⟨(kc4 BK234.out 0).trans rfl, (kc4 BK234.out 1).trans rfl, ((HB.out.cell (World.block_lt_of_cell? w _ hw256_0)).trans hw256_0), ((HB.out.cell (World.block_lt_of_cell? w _ hw258_0)).trans hw258_0), ((HB.out.cell (World.block_lt_of_cell? w _ hw260_0)).trans hw260_0), ((HB.out.cell (World.block_lt_of_cell? w _ hw262_0)).trans hw262_0)⟩ (fun hHeld => ?_); refine with_tabW watershedlaw04_SpanTells.tab12 watershedlaw04_SpanTells.bits12 (fun HT_ HW_ => ?_)
             generalize wr.drew = w67 at BK234 BK235 BK247 BK251 HB hx256_0 hx258_0 hx260_0 hx262_0 hHeld ⊢
             refine pure_ (i:=0) (N:=some 70) (v:=?_) (a' := ?_) (bb4 26 1) rfl rfl (any_of HT_.out (by kernel_rfl)) (fun _ _ _ h => h) (Or.inl ⟨by rfl, ?_⟩) ?_ ?_
             rotate_left
             ·intro w'
              go_simp
              with_reducible rfl
             rotate_left
             ·simp only [Act.put, sa4, sz4, ss4, i64_w, i32_w]
              rfl
             refine pure_ (i:=1) (N:=some 71) (v:=?_) (a' := ?_) (bb4 26 3) rfl rfl (any_of HT_.out (by kernel_rfl)) (fun _ _ _ h => h) (Or.inl ⟨by rfl, ?_⟩) ?_ ?_
             rotate_left
             ·intro w'
              go_simp
              with_reducible rfl
             rotate_left
             ·simp only [Act.put, sa4, sz4, ss4, i64_w, i32_w]
              rfl
             refine pure_ (i:=2) (N:=some 72) (v:=?_) (a' := ?_) (bb4 26 7) rfl rfl (any_of HT_.out (by kernel_rfl)) (fun _ _ _ h => h) (Or.inl ⟨by rfl, ?_⟩) ?_ ?_
             rotate_left
             ·intro w'
              go_simp
              with_reducible rfl
             rotate_left
             ·simp only [Act.put, sa4, sz4, ss4, i64_w, i32_w]
              rfl
             refine pure_ (i:=5) (N:=some 75) (v:=?_) (a' := ?_) (bb4 26 39) rfl rfl (any_of HT_.out (by kernel_rfl)) (fun _ _ _ h => h) (Or.inl ⟨by rfl, ?_⟩) ?_ ?_
             rotate_left
             ·intro w'
              go_simp
              with_reducible rfl
             rotate_left
             ·simp only [Act.put, sa4, sz4, ss4, i64_w, i32_w]
              rfl
             refine pure_ (i:=6) (N:=some 76) (v:=?_) (a' := ?_) (bb4 26 103) rfl rfl (any_of HT_.out (by kernel_rfl)) (fun _ _ _ h => h) (Or.inl ⟨by rfl, ?_⟩) ?_ ?_
             rotate_left
             ·intro w'
              go_simp
              with_reducible rfl
             rotate_left
             ·simp only [Act.put, sa4, sz4, ss4, i64_w, i32_w]
              rfl
             refine pure_ (i:=7) (N:=some 77) (v:=?_) (a' := ?_) (bb4 26 231) rfl rfl (any_of HT_.out (by kernel_rfl)) (fun _ _ _ h => h) (Or.inl ⟨by rfl, ?_⟩) ?_ ?_
             rotate_left
             ·intro w'
              go_simp
              with_reducible rfl
             rotate_left
             ·simp only [Act.put, sa4, sz4, ss4, i64_w, i32_w]
              rfl
             refine take_ (i:=3) (N:=some 73) (v:=?_) (a' := ?_) (bb4 26 239) rfl rfl (take_ofW HT_.out HW_.out (by kernel_rfl)) (fun _ _ _ h => h) (Or.inl ⟨by rfl, ?_⟩) hHeld ?_ ?_
             rotate_left
             ·rintro w' ⟨s0, s1, s2, s3, s4, s5⟩
              go_simp
              with_reducible rfl
             rotate_left
             ·simp only [Act.put, sa4, sz4, ss4, i64_w, i32_w]
              rfl
             refine take_ (i:=8) (N:=some 78) (v:=?_) (a' := ?_) (bb4 26 495) rfl rfl (take_ofW HT_.out HW_.out (by kernel_rfl)) (fun _ _ _ h => h) (Or.inl ⟨by rfl, ?_⟩) hHeld ?_ ?_
             rotate_left
             ·rintro w' ⟨s0, s1, s2, s3, s4, s5⟩
              go_simp
              with_reducible rfl
             rotate_left
             ·simp only [Act.put, sa4, sz4, ss4, i64_w, i32_w]
              rfl
             refine one_ (i:=4) (N:=some 74) (bb4 26 511) rfl rfl (one_of HT_.out (by kernel_rfl)) (by decide) (fun K hK => ?_)
             refine goes_ Try.func18 (by kernel_rfl) rfl #[.string (rdOf ByteArray.empty l2 x11_2)] (by rfl) rfl rfl (by (try simp only [ma4, mc4, mn4]); first | done | rfl | (simp only [ld4, lt_4]; rfl)) ?_
             with_reducible refine (span_Key.calls k2 (rdOf ByteArray.empty l2 x11_2) t257 _ A61.out).mono ?_
             rintro e w' ⟨rfl, ⟨nd, rfl⟩⟩
             refine ⟨_, rfl, ?_⟩
             refine hK.out _ _ ⟨(kc4 BK234.out 0).trans rfl, (kc4 BK234.out 1).trans rfl, ((HB.out.cell (World.block_lt_of_cell? w _ hw256_0)).trans hw256_0), ((HB.out.cell (World.block_lt_of_cell? w _ hw258_0)).trans hw258_0), ((HB.out.cell (World.block_lt_of_cell? w _ hw260_0)).trans hw260_0), ((HB.out.cell (World.block_lt_of_cell? w _ hw262_0)).trans hw262_0)⟩ (fun hHeld => ?_)
             clear hK K
             refine norm_ (a' := ?_) ?_ ?_
             rotate_left
             ·show Act.put _ (some 74) _ = _
              simp only [Act.put, sa4, sz4, ss4, i64_w, i32_w]
              rfl
             refine one_ (i:=9) (N:=some 79) (bb4 26 1023) rfl rfl (one_of HT_.out (by kernel_rfl)) (by decide) (fun K hK => ?_)
             refine goes_ Try.func19 (by kernel_rfl) rfl #[.string (rdOf ByteArray.empty l2 x11_2)] (by rfl) rfl rfl (by (try simp only [ma4, mc4, mn4]); first | done | rfl | (simp only [ld4, lt_4]; rfl)) ?_
             with_reducible refine (watershedref04_Key.calls k2 (rdOf ByteArray.empty l2 x11_2) t259 _ A62.out).mono ?_
             rintro e w' ⟨rfl, ⟨nd, rfl⟩⟩
             refine ⟨_, rfl, ?_⟩
             refine hK.out _ _ ⟨(kc4 BK234.out 0).trans rfl, (kc4 BK234.out 1).trans rfl, ((HB.out.cell (World.block_lt_of_cell? w _ hw256_0)).trans hw256_0), ((HB.out.cell (World.block_lt_of_cell? w _ hw258_0)).trans hw258_0), ((HB.out.cell (World.block_lt_of_cell? w _ hw260_0)).trans hw260_0), ((HB.out.cell (World.block_lt_of_cell? w _ hw262_0)).trans hw262_0)⟩ (fun hHeld => ?_)
             clear hK K
             refine norm_ (a' := ?_) ?_ ?_
             rotate_left
             ·show Act.put _ (some 79) _ = _
              simp only [Act.put, sa4, sz4, ss4, i64_w, i32_w]
              rfl
             refine pure_ (i:=10) (N:=some 80) (v:=?_) (a' := ?_) (bb4 26 2047) rfl rfl (any_of HT_.out (by kernel_rfl)) (fun _ _ _ h => h) (Or.inl ⟨by rfl, ?_⟩) ?_ ?_
             rotate_left
             ·intro w'
              go_simp
              with_reducible rfl
             rotate_left
             ·simp only [Act.put, sa4, sz4, ss4, i64_w, i32_w]
              rfl
             refine pure_ (i:=11) (N:=some 81) (v:=?_) (a' := ?_) (bb4 26 4095) rfl rfl (any_of HT_.out (by kernel_rfl)) (fun _ _ _ h => h) (Or.inl ⟨by rfl, ?_⟩) ?_ ?_
             rotate_left
             ·intro w'
              go_simp
              with_reducible rfl
             rotate_left
             ·simp only [Act.put, sa4, sz4, ss4, i64_w, i32_w]
              rfl
             refine pure_ (i:=13) (N:=some 83) (v:=?_) (a' := ?_) (bb4 26 12287) rfl rfl (any_of HT_.out (by kernel_rfl)) (fun _ _ _ h => h) (Or.inl ⟨by rfl, ?_⟩) ?_ ?_
             rotate_left
             ·intro w'
              go_simp
              with_reducible rfl
             rotate_left
             ·simp only [Act.put, sa4, sz4, ss4, i64_w, i32_w]
              rfl
             refine pure_ (i:=14) (N:=some 84) (v:=?_) (a' := ?_) (bb4 26 28671) rfl rfl (any_of HT_.out (by kernel_rfl)) (fun _ _ _ h => h) (Or.inl ⟨by rfl, ?_⟩) ?_ ?_
             rotate_left
             ·intro w'
              go_simp
              with_reducible rfl
             rotate_left
             ·simp only [Act.put, sa4, sz4, ss4, i64_w, i32_w]
              rfl
             refine pure_ (i:=15) (N:=some 85) (v:=?_) (a' := ?_) (bb4 26 61439) rfl rfl (any_of HT_.out (by kernel_rfl)) (fun _ _ _ h => h) (Or.inl ⟨by rfl, ?_⟩) ?_ ?_
             rotate_left
             ·intro w'
              go_simp
              with_reducible rfl
             rotate_left
             ·simp only [Act.put, sa4, sz4, ss4, i64_w, i32_w]
              rfl
             refine pure_ (i:=19) (N:=some 89) (v:=?_) (a' := ?_) (bb4 26 585727) rfl rfl (any_of HT_.out (by kernel_rfl)) (fun _ _ _ h => h) (Or.inl ⟨by rfl, ?_⟩) ?_ ?_
             rotate_left
             ·intro w'
              go_simp
              with_reducible rfl
             rotate_left
             ·simp only [Act.put, sa4, sz4, ss4, i64_w, i32_w]
              rfl
             refine pure_ (i:=20) (N:=some 90) (v:=?_) (a' := ?_) (bb4 26 1634303) rfl rfl (any_of HT_.out (by kernel_rfl)) (fun _ _ _ h => h) (Or.inl ⟨by rfl, ?_⟩) ?_ ?_
             rotate_left
             ·intro w'
              go_simp
              with_reducible rfl
             rotate_left
             ·simp only [Act.put, sa4, sz4, ss4, i64_w, i32_w]
              rfl
             refine pure_ (i:=21) (N:=some 91) (v:=?_) (a' := ?_) (bb4 26 3731455) rfl rfl (any_of HT_.out (by kernel_rfl)) (fun _ _ _ h => h) (Or.inl ⟨by rfl, ?_⟩) ?_ ?_
             rotate_left
             ·intro w'
              go_simp
              with_reducible rfl
             rotate_left
             ·simp only [Act.put, sa4, sz4, ss4, i64_w, i32_w]
              rfl
             refine take_ (i:=12) (N:=some 82) (v:=?_) (a' := ?_) (bb4 26 3735551) rfl rfl (take_ofW HT_.out HW_.out (by kernel_rfl)) (fun _ _ _ h => h) (Or.inl ⟨by rfl, ?_⟩) hHeld ?_ ?_
             rotate_left
             ·rintro w' ⟨s0, s1, s2, s3, s4, s5⟩
              go_simp
              with_reducible rfl
             rotate_left
             ·simp only [Act.put, sa4, sz4, ss4, i64_w, i32_w]
              rfl
             refine take_ (i:=16) (N:=some 86) (v:=?_) (a' := ?_) (bb4 26 3801087) rfl rfl (take_ofW HT_.out HW_.out (by kernel_rfl)) (fun _ _ _ h => h) (Or.inl ⟨by rfl, ?_⟩) hHeld ?_ ?_
             rotate_left
             ·rintro w' ⟨s0, s1, s2, s3, s4, s5⟩
              go_simp
              with_reducible rfl
             rotate_left
             ·simp only [Act.put, sa4, sz4, ss4, i64_w, i32_w]
              rfl
             refine take_ (i:=18) (N:=some 88) (v:=?_) (a' := ?_) (bb4 26 4063231) rfl rfl (take_ofW HT_.out HW_.out (by kernel_rfl)) (fun _ _ _ h => h) (Or.inl ⟨by rfl, ?_⟩) hHeld ?_ ?_
             rotate_left
             ·rintro w' ⟨s0, s1, s2, s3, s4, s5⟩
              go_simp
              with_reducible rfl
             rotate_left
             ·simp only [Act.put, sa4, sz4, ss4, i64_w, i32_w]
              rfl
             refine take_ (i:=22) (N:=some 92) (v:=?_) (a' := ?_) (bb4 26 8257535) rfl rfl (take_ofW HT_.out HW_.out (by kernel_rfl)) (fun _ _ _ h => h) (Or.inl ⟨by rfl, ?_⟩) hHeld ?_ ?_
             rotate_left
             ·rintro w' ⟨s0, s1, s2, s3, s4, s5⟩
              go_simp
              with_reducible rfl
             rotate_left
             ·simp only [Act.put, sa4, sz4, ss4, i64_w, i32_w]
              rfl
             refine one_ (i:=17) (N:=some 87) (bb4 26 8388607) rfl rfl (one_of HT_.out (by kernel_rfl)) (by decide) (fun K hK => ?_)
             refine goes_ Try.func20 (by kernel_rfl) rfl #[.agg #[.string a0_0, .string a0_1], .string (rdOf ByteArray.empty l2 x11_2)] (by rfl) rfl rfl (by (try simp only [ma4, mc4, mn4]); first | done | rfl | (simp only [ld4, lt_4]; rfl)) ?_
             with_reducible refine (span_Has.calls k2 a0_0 a0_1 (rdOf ByteArray.empty l2 x11_2) t261 _ A64.out).mono ?_
             rintro e w68 ⟨rfl, hb⟩
             refine ⟨_, rfl, ?_⟩
             replace BK234 := Am4 (kb4 (g:=gb234) (o:=.cells #[.string a0_0, .string a0_1] 26 (0, 0)) (by (with_reducible repeat first | apply kn4 | apply kd4 | apply ka4); exact BK234.out) hb)
             replace BK235 := Am4 (kb4 (g:=gb235) (o:=.cells #[.string a1_0, .string a1_1] 26 (0, 0)) (by (with_reducible repeat first | apply kn4 | apply kd4 | apply ka4); exact BK235.out) hb)
             replace BK247 := Am4 (kb4 (g:=gb247) (o:=.cells #[.string t244, .string t245] 26 (0, 0)) (by (with_reducible repeat first | apply kn4 | apply kd4 | apply ka4); exact BK247.out) hb)
             replace BK251 := Am4 (kb4 (g:=gb251) (o:=.cells #[.string t248, .string t249] 26 (0, 0)) (by (with_reducible repeat first | apply kn4 | apply kd4 | apply ka4); exact BK251.out) hb)
             replace HB := Am4 (bp4 (by repeat (first | (with_reducible first | exact HB.out | apply ba4 | apply bn4 | apply bd4 | refine bs4 ?_ GE234.out | refine bs4 ?_ GE235.out | refine bs4 ?_ GE247.out | refine bs4 ?_ GE251.out) | exact HB.out)) hb)
             (try clear hb)
             (try clear hb2)
             (try clear hk)
             (try clear hi)
             refine hK.out _ _ ⟨(kc4 BK234.out 0).trans rfl, (kc4 BK234.out 1).trans rfl, ((HB.out.cell (World.block_lt_of_cell? w _ hw256_0)).trans hw256_0), ((HB.out.cell (World.block_lt_of_cell? w _ hw258_0)).trans hw258_0), ((HB.out.cell (World.block_lt_of_cell? w _ hw260_0)).trans hw260_0), ((HB.out.cell (World.block_lt_of_cell? w _ hw262_0)).trans hw262_0)⟩ (fun hHeld => ?_)
             clear hK K
             refine norm_ (a' := ?_) ?_ ?_
             rotate_left
             ·show Act.put _ (some 87) _ = _
              simp only [Act.put, sa4, sz4, ss4, i64_w, i32_w]
              rfl
             refine one_ (i:=23) (N:=some 93) (bb4 26 16777215) rfl rfl (one_of HT_.out (by kernel_rfl)) (by decide) (fun K hK => ?_)
             refine goes_ Try.func21 (by kernel_rfl) rfl #[.agg #[.string a0_0, .string a0_1], .string (rdOf ByteArray.empty l2 x11_2)] (by rfl) rfl rfl (by (try simp only [ma4, mc4, mn4]); first | done | rfl | (simp only [ld4, lt_4]; rfl)) ?_
             with_reducible refine (watershedref04_Has.calls k2 a0_0 a0_1 (rdOf ByteArray.empty l2 x11_2) t263 _ A65.out).mono ?_
             rintro e w69 ⟨rfl, hb⟩
             refine ⟨_, rfl, ?_⟩
             replace BK234 := Am4 (kb4 (g:=gb234) (o:=.cells #[.string a0_0, .string a0_1] 26 (0, 0)) (by (with_reducible repeat first | apply kn4 | apply kd4 | apply ka4); exact BK234.out) hb)
             replace BK235 := Am4 (kb4 (g:=gb235) (o:=.cells #[.string a1_0, .string a1_1] 26 (0, 0)) (by (with_reducible repeat first | apply kn4 | apply kd4 | apply ka4); exact BK235.out) hb)
             replace BK247 := Am4 (kb4 (g:=gb247) (o:=.cells #[.string t244, .string t245] 26 (0, 0)) (by (with_reducible repeat first | apply kn4 | apply kd4 | apply ka4); exact BK247.out) hb)
             replace BK251 := Am4 (kb4 (g:=gb251) (o:=.cells #[.string t248, .string t249] 26 (0, 0)) (by (with_reducible repeat first | apply kn4 | apply kd4 | apply ka4); exact BK251.out) hb)
             replace HB := Am4 (bp4 (by repeat (first | (with_reducible first | exact HB.out | apply ba4 | apply bn4 | apply bd4 | refine bs4 ?_ GE234.out | refine bs4 ?_ GE235.out | refine bs4 ?_ GE247.out | refine bs4 ?_ GE251.out) | exact HB.out)) hb)
             (try clear hb)
             (try clear hb2)
             (try clear hk)
             (try clear hi)
             refine hK.out _ _ ⟨(kc4 BK234.out 0).trans rfl, (kc4 BK234.out 1).trans rfl, ((HB.out.cell (World.block_lt_of_cell? w _ hw256_0)).trans hw256_0), ((HB.out.cell (World.block_lt_of_cell? w _ hw258_0)).trans hw258_0), ((HB.out.cell (World.block_lt_of_cell? w _ hw260_0)).trans hw260_0), ((HB.out.cell (World.block_lt_of_cell? w _ hw262_0)).trans hw262_0)⟩ (fun hHeld => ?_)
             clear hK K
             refine norm_ (a' := ?_) ?_ ?_
             rotate_left
             ·show Act.put _ (some 93) _ = _
              simp only [Act.put, sa4, sz4, ss4, i64_w, i32_w]
              rfl
             refine pure_ (i:=24) (N:=some 94) (v:=?_) (a' := ?_) (bb4 26 33554431) rfl rfl (any_of HT_.out (by kernel_rfl)) (fun _ _ _ h => h) (Or.inl ⟨by rfl, ?_⟩) ?_ ?_
             rotate_left
             ·intro w'
              go_simp
              with_reducible rfl
             rotate_left
             ·simp only [Act.put, sa4, sz4, ss4, i64_w, i32_w]
              rfl
             refine pure_ (i:=25) (N:=some 95) (v:=?_) (a' := ?_) (bb4 26 67108863) rfl rfl (any_of HT_.out (by kernel_rfl)) (fun _ _ _ h => h) (Or.inl ⟨by rfl, ?_⟩) ?_ ?_
             rotate_left
             ·intro w'
              go_simp
              with_reducible rfl
             rotate_left
             ·simp only [Act.put, sa4, sz4, ss4, i64_w, i32_w]
              rfl
             refine done_ (done_of HT_.out (by kernel_rfl)) ?_
             try go_wp2
             go_roundg k2
             case measure => have := HJ10.out; have := HK2.out; omega
             case rel => exact ⟨(wrap64 (x11_2 + 1)), (by first | rfl | (simp; done) | (simp [*]; done)), H', ⟨by have := HJ10.out; have := HK2.out; omega⟩, ⟨by (with_reducible repeat first | apply kn4 | apply kd4 | apply ka4); exact BK234.out⟩, ⟨by (with_reducible repeat first | apply kn4 | apply kd4 | apply ka4); exact BK235.out⟩, ⟨by (with_reducible repeat first | apply kn4 | apply kd4 | apply ka4); exact BK247.out⟩, ⟨by (with_reducible repeat first | apply kn4 | apply kd4 | apply ka4); exact BK251.out⟩, ⟨by repeat (first | (with_reducible first | exact HB.out | apply ba4 | apply bn4 | apply bd4 | refine bs4 ?_ GE234.out | refine bs4 ?_ GE235.out | refine bs4 ?_ GE247.out | refine bs4 ?_ GE251.out) | exact HB.out)⟩⟩
          ·rw [if_neg c60] at H
           exact absurd H (by simp)
         ·rw [if_neg c59] at H
          have c59b0 : decide (x11_2 < (l2.length : Int)) = false := decide_eq_false c59
          clear c59
          replace H := Option.bind_eq_some_iff.mp H
          obtain ⟨t264, A700, H⟩ := H
          try dsimp only at H
          have e_t264 : l2 = t264 := Option.some.inj A700
          clear A700
          subst e_t264
          replace H := Option.bind_eq_some_iff.mp H
          obtain ⟨t267, A710, H⟩ := H
          try dsimp only at H
          have A71 := Am4 A710
          clear A710
          replace H := Option.bind_eq_some_iff.mp H
          obtain ⟨t270, A720, H⟩ := H
          try dsimp only at H
          have A72 := Am4 A720
          clear A720
          replace H := Option.bind_eq_some_iff.mp H
          obtain ⟨t273, A730, H⟩ := H
          try dsimp only at H
          have A73 := Am4 A730
          clear A730
          by_cases c74 : t273 = true
          ·subst c74
           rw [if_pos rfl] at H
           replace H := Option.bind_eq_some_iff.mp H
           obtain ⟨t274, A750, H⟩ := H
           try dsimp only at H
           have e_t274 : true = t274 := Option.some.inj A750
           clear A750
           subst e_t274
           obtain rfl := Option.some.inj H
           try go_wp2_with (first | ((with_reducible refine gate_callee (f:=22) rfl ?_); refine goesL_ (some 97) rfl rfl Try.func22 (by kernel_rfl) rfl #[.slice A2 l2.length c2] rfl (by (try simp only [ma4, mc4, mn4]); first | done | rfl | (simp only [ld4, lt_4]; rfl)) ?_; (with_reducible refine (lent_texts _ _ l2 _ ?side1 HB2.out).mono ?_); (case side1 => repeat (first | exact (Kd.C_below HR2.out HB.out) | (with_reducible refine Kd.C_alloc ?_ _) | (with_reducible refine Kd.C_drewN ?_ _) | (with_reducible refine Kd.C_drew ?_))); rintro e w76 ⟨g265, rfl, ho0, hb⟩; refine ⟨_, rfl, ?_⟩; have HO266 := Am4 ho0; replace BK234 := Am4 (kb4 (g:=gb234) (o:=.cells #[.string a0_0, .string a0_1] 26 (0, 0)) (by (with_reducible repeat first | apply kn4 | apply kd4 | apply ka4); exact BK234.out) hb); replace BK235 := Am4 (kb4 (g:=gb235) (o:=.cells #[.string a1_0, .string a1_1] 26 (0, 0)) (by (with_reducible repeat first | apply kn4 | apply kd4 | apply ka4); exact BK235.out) hb); replace BK247 := Am4 (kb4 (g:=gb247) (o:=.cells #[.string t244, .string t245] 26 (0, 0)) (by (with_reducible repeat first | apply kn4 | apply kd4 | apply ka4); exact BK247.out) hb); replace BK251 := Am4 (kb4 (g:=gb251) (o:=.cells #[.string t248, .string t249] 26 (0, 0)) (by (with_reducible repeat first | apply kn4 | apply kd4 | apply ka4); exact BK251.out) hb); replace HB := Am4 (bp4 (by repeat (first | (with_reducible first | exact HB.out | apply ba4 | apply bn4 | apply bd4 | refine bs4 ?_ GE234.out | refine bs4 ?_ GE235.out | refine bs4 ?_ GE247.out | refine bs4 ?_ GE251.out) | exact HB.out)) hb); (try clear hb); (try clear hb2); (try clear hk); (try clear hi); (try clear ho0)))
           replace HO266 := Am4 (Kd.C_drew HO266.out)
           replace BK234 := Am4 (kd4 BK234.out)
           replace BK235 := Am4 (kd4 BK235.out)
           replace BK247 := Am4 (kd4 BK247.out)
           replace BK251 := Am4 (kd4 BK251.out)
           replace HB := Am4 (bd4 HB.out)
           refine start_ (n:=13) (S:=fun w' => w'.cell? ⟨gb234, 0, none⟩ = some (.string a0_0) ∧ w'.cell? ⟨gb234, 1, none⟩ = some (.string a0_1)) (ds:=[]) (bb4 13 0) (by kernel_rfl) rfl rfl ⟨(kc4 BK234.out 0).trans rfl, (kc4 BK234.out 1).trans rfl⟩ (fun hHeld => ?_); refine with_tabW watershedlaw04_SpanTells.tab15 watershedlaw04_SpanTells.bits15 (fun HT_ HW_ => ?_)
           generalize w76.drew = w77 at HO266 BK234 BK235 BK247 BK251 HB hHeld ⊢
           refine pure_ (i:=1) (N:=some 99) (v:=?_) (a' := ?_) (bb4 13 2) rfl rfl (any_of HT_.out (by kernel_rfl)) (fun _ _ _ h => h) (Or.inl ⟨by rfl, ?_⟩) ?_ ?_
           rotate_left
           ·intro w'
            go_simp
            with_reducible rfl
           rotate_left
           ·simp only [Act.put, sa4, sz4, ss4, i64_w, i32_w]
            rfl
           refine pure_ (i:=4) (N:=some 102) (v:=?_) (a' := ?_) (bb4 13 18) rfl rfl (any_of HT_.out (by kernel_rfl)) (fun _ _ _ h => h) (Or.inl ⟨by rfl, ?_⟩) ?_ ?_
           rotate_left
           ·intro w'
            go_simp
            with_reducible rfl
           rotate_left
           ·simp only [Act.put, sa4, sz4, ss4, i64_w, i32_w]
            rfl
           refine take_ (i:=0) (N:=some 98) (v:=?_) (a' := ?_) (bb4 13 19) rfl rfl (take_ofW HT_.out HW_.out (by kernel_rfl)) (fun _ _ _ h => h) (Or.inl ⟨by rfl, ?_⟩) hHeld ?_ ?_
           rotate_left
           ·rintro w' ⟨s0, s1⟩
            go_simp
            with_reducible rfl
           rotate_left
           ·simp only [Act.put, sa4, sz4, ss4, i64_w, i32_w]
            rfl
           refine take_ (i:=3) (N:=some 101) (v:=?_) (a' := ?_) (bb4 13 27) rfl rfl (take_ofW HT_.out HW_.out (by kernel_rfl)) (fun _ _ _ h => h) (Or.inl ⟨by rfl, ?_⟩) hHeld ?_ ?_
           rotate_left
           ·rintro w' ⟨s0, s1⟩
            go_simp
            with_reducible rfl
           rotate_left
           ·simp only [Act.put, sa4, sz4, ss4, i64_w, i32_w]
            rfl
           refine one_ (i:=2) (N:=some 100) (bb4 13 31) rfl rfl (one_of HT_.out (by kernel_rfl)) (by decide) (fun K hK => ?_)
           refine goes_ Try.func24 (by kernel_rfl) rfl #[.agg #[.string a0_0, .string a0_1], .slice (some ⟨g265, 0, none⟩) l2.length (l2.length + 12)] (by rfl) rfl rfl (by (try simp only [ma4, mc4, mn4]); first | done | rfl | (simp only [ld4, lt_4]; rfl)) ?_
           with_reducible refine (span_Cut.calls k2 a0_0 a0_1 _ _ l2 t267 _ ?side1 ?side2 A71.out).mono ?_
           (case side1 => repeat (first | exact (c_preT _ _ HO266.out) | (with_reducible refine Kd.C_alloc ?_ _) | (with_reducible refine Kd.C_drewN ?_ _) | (with_reducible refine Kd.C_drew ?_)))
           (case side2 => exact (Nat.le_add_right _ _))
           rintro e w79 ⟨v268, rfl, ho0, hb⟩
           refine ⟨_, rfl, ?_⟩
           replace HO266 := Am4 (Kd.C_below (by repeat (first | exact HO266.out | (with_reducible refine Kd.C_alloc ?_ _) | (with_reducible refine Kd.C_drewN ?_ _) | (with_reducible refine Kd.C_drew ?_))) hb)
           have HO269 := Am4 (Rl4 (Kd.R_newB (Kd.R_newB (Kd.R_newB (Kd.R_newB ho0 (g:=gb234) (o:=.cells #[.string a0_0, .string a0_1] 26 (0, 0)) (by (with_reducible repeat first | apply kn4 | apply kd4 | apply ka4); exact BK234.out)) (g:=gb235) (o:=.cells #[.string a1_0, .string a1_1] 26 (0, 0)) (by (with_reducible repeat first | apply kn4 | apply kd4 | apply ka4); exact BK235.out)) (g:=gb247) (o:=.cells #[.string t244, .string t245] 26 (0, 0)) (by (with_reducible repeat first | apply kn4 | apply kd4 | apply ka4); exact BK247.out)) (g:=gb251) (o:=.cells #[.string t248, .string t249] 26 (0, 0)) (by (with_reducible repeat first | apply kn4 | apply kd4 | apply ka4); exact BK251.out)) (bz4 (by repeat (first | (with_reducible first | exact HB.out | apply ba4 | apply bn4 | apply bd4 | refine bs4 ?_ GE234.out | refine bs4 ?_ GE235.out | refine bs4 ?_ GE247.out | refine bs4 ?_ GE251.out) | exact HB.out))))
           replace BK234 := Am4 (kb4 (g:=gb234) (o:=.cells #[.string a0_0, .string a0_1] 26 (0, 0)) (by (with_reducible repeat first | apply kn4 | apply kd4 | apply ka4); exact BK234.out) hb)
           replace BK235 := Am4 (kb4 (g:=gb235) (o:=.cells #[.string a1_0, .string a1_1] 26 (0, 0)) (by (with_reducible repeat first | apply kn4 | apply kd4 | apply ka4); exact BK235.out) hb)
           replace BK247 := Am4 (kb4 (g:=gb247) (o:=.cells #[.string t244, .string t245] 26 (0, 0)) (by (with_reducible repeat first | apply kn4 | apply kd4 | apply ka4); exact BK247.out) hb)
           replace BK251 := Am4 (kb4 (g:=gb251) (o:=.cells #[.string t248, .string t249] 26 (0, 0)) (by (with_reducible repeat first | apply kn4 | apply kd4 | apply ka4); exact BK251.out) hb)
           replace HB := Am4 (bp4 (by repeat (first | (with_reducible first | exact HB.out | apply ba4 | apply bn4 | apply bd4 | refine bs4 ?_ GE234.out | refine bs4 ?_ GE235.out | refine bs4 ?_ GE247.out | refine bs4 ?_ GE251.out) | exact HB.out)) hb)
           (try clear hb)
           (try clear hb2)
           (try clear hk)
           (try clear hi)
           (try clear ho0)
           refine hK.out _ _ ⟨(kc4 BK234.out 0).trans rfl, (kc4 BK234.out 1).trans rfl⟩ (fun hHeld => ?_)
           clear hK K
           refine norm_ (a' := ?_) ?_ ?_
           rotate_left
           ·show Act.put _ (some 100) _ = _
            simp only [Act.put, sa4, sz4, ss4, i64_w, i32_w]
            rfl
           refine one_ (i:=5) (N:=some 103) (bb4 13 63) rfl rfl (one_of HT_.out (by kernel_rfl)) (by decide) (fun K hK => ?_)
           refine goes_ Try.func25 (by kernel_rfl) rfl #[.agg #[.string a0_0, .string a0_1], .slice A2 l2.length c2] (by rfl) rfl rfl (by (try simp only [ma4, mc4, mn4]); first | done | rfl | (simp only [ld4, lt_4]; rfl)) ?_
           with_reducible refine (watershedref04_Cut.calls k2 a0_0 a0_1 _ _ l2 t270 _ ?side1 ?side2 A72.out).mono ?_
           (case side1 => repeat (first | exact (Kd.C_below HR2.out HB.out) | (with_reducible refine Kd.C_alloc ?_ _) | (with_reducible refine Kd.C_drewN ?_ _) | (with_reducible refine Kd.C_drew ?_)))
           (case side2 => exact HC2.out)
           rintro e w80 ⟨v271, rfl, ho0, hb⟩
           refine ⟨_, rfl, ?_⟩
           replace HO266 := Am4 (Kd.C_below (by repeat (first | exact HO266.out | (with_reducible refine Kd.C_alloc ?_ _) | (with_reducible refine Kd.C_drewN ?_ _) | (with_reducible refine Kd.C_drew ?_))) hb)
           have HO272 := Am4 (Rl4 (Kd.R_newB (Kd.R_newB (Kd.R_newB (Kd.R_newB (Rw4 ho0 (Rt4 (by (with_reducible repeat first | apply Ra4 | apply Rn4 | apply Rd4); exact HO269.out))) (g:=gb234) (o:=.cells #[.string a0_0, .string a0_1] 26 (0, 0)) (by (with_reducible repeat first | apply kn4 | apply kd4 | apply ka4); exact BK234.out)) (g:=gb235) (o:=.cells #[.string a1_0, .string a1_1] 26 (0, 0)) (by (with_reducible repeat first | apply kn4 | apply kd4 | apply ka4); exact BK235.out)) (g:=gb247) (o:=.cells #[.string t244, .string t245] 26 (0, 0)) (by (with_reducible repeat first | apply kn4 | apply kd4 | apply ka4); exact BK247.out)) (g:=gb251) (o:=.cells #[.string t248, .string t249] 26 (0, 0)) (by (with_reducible repeat first | apply kn4 | apply kd4 | apply ka4); exact BK251.out)) (bz4 (by repeat (first | (with_reducible first | exact HB.out | apply ba4 | apply bn4 | apply bd4 | refine bs4 ?_ GE234.out | refine bs4 ?_ GE235.out | refine bs4 ?_ GE247.out | refine bs4 ?_ GE251.out) | exact HB.out))))
           replace HO269 := Am4 (Re4 (by (with_reducible repeat first | apply Ra4 | apply Rn4 | apply Rd4); exact HO269.out) (Ra_4 ho0) hb)
           replace BK234 := Am4 (kb4 (g:=gb234) (o:=.cells #[.string a0_0, .string a0_1] 26 (0, 0)) (by (with_reducible repeat first | apply kn4 | apply kd4 | apply ka4); exact BK234.out) hb)
           replace BK235 := Am4 (kb4 (g:=gb235) (o:=.cells #[.string a1_0, .string a1_1] 26 (0, 0)) (by (with_reducible repeat first | apply kn4 | apply kd4 | apply ka4); exact BK235.out) hb)
           replace BK247 := Am4 (kb4 (g:=gb247) (o:=.cells #[.string t244, .string t245] 26 (0, 0)) (by (with_reducible repeat first | apply kn4 | apply kd4 | apply ka4); exact BK247.out) hb)
           replace BK251 := Am4 (kb4 (g:=gb251) (o:=.cells #[.string t248, .string t249] 26 (0, 0)) (by (with_reducible repeat first | apply kn4 | apply kd4 | apply ka4); exact BK251.out) hb)
           replace HB := Am4 (bp4 (by repeat (first | (with_reducible first | exact HB.out | apply ba4 | apply bn4 | apply bd4 | refine bs4 ?_ GE234.out | refine bs4 ?_ GE235.out | refine bs4 ?_ GE247.out | refine bs4 ?_ GE251.out) | exact HB.out)) hb)
           (try clear hb)
           (try clear hb2)
           (try clear hk)
           (try clear hi)
           (try clear ho0)
           obtain ⟨Ao81, co81, eo81⟩ := Kd.R_slice HO269.out
           (first | subst eo81 | (injection eo81 with f1_ f2_ f3_; have f4_ := f1_.symm; have f5_ := f3_.symm; clear f1_ f2_ f3_; subst f4_; subst f5_))
           obtain ⟨Ao82, co82, eo82⟩ := Kd.R_slice HO272.out
           (first | subst eo82 | (injection eo82 with f1_ f2_ f3_; have f4_ := f1_.symm; have f5_ := f3_.symm; clear f1_ f2_ f3_; subst f4_; subst f5_))
           refine hK.out _ _ ⟨(kc4 BK234.out 0).trans rfl, (kc4 BK234.out 1).trans rfl⟩ (fun hHeld => ?_)
           clear hK K
           refine norm_ (a' := ?_) ?_ ?_
           rotate_left
           ·show Act.put _ (some 103) _ = _
            simp only [Act.put, sa4, sz4, ss4, i64_w, i32_w]
            rfl
           refine one_ (i:=6) (N:=some 104) (bb4 13 127) rfl rfl (one_of HT_.out (by kernel_rfl)) (by decide) (fun K hK => ?_)
           refine goes_ Try.func23 (by kernel_rfl) rfl #[.slice Ao81 t267.length co81, .slice Ao82 t270.length co82] (by rfl) rfl rfl (by (try simp only [ma4, mc4, mn4]); first | done | rfl | (simp only [ld4, lt_4]; rfl)) ?_
           with_reducible refine (watershedlaw04_same.calls k2 _ _ t267 _ _ t270 true _ ?side1 ?side2 ?side3 ?side4 A73.out).mono ?_
           (case side1 => repeat (first | exact (Kd.R_reads' HO269.out).2.2 | (with_reducible refine Kd.C_alloc ?_ _) | (with_reducible refine Kd.C_drewN ?_ _) | (with_reducible refine Kd.C_drew ?_)))
           (case side2 => exact (Kd.R_reads' HO269.out).2.1)
           (case side3 => repeat (first | exact (Kd.R_reads' HO272.out).2.2 | (with_reducible refine Kd.C_alloc ?_ _) | (with_reducible refine Kd.C_drewN ?_ _) | (with_reducible refine Kd.C_drew ?_)))
           (case side4 => exact (Kd.R_reads' HO272.out).2.1)
           rintro e w' ⟨rfl, ⟨nd, rfl⟩⟩
           refine ⟨_, rfl, ?_⟩
           refine hK.out _ _ ⟨(kc4 BK234.out 0).trans rfl, (kc4 BK234.out 1).trans rfl⟩ (fun hHeld => ?_)
           clear hK K
           refine norm_ (a' := ?_) ?_ ?_
           rotate_left
           ·show Act.put _ (some 104) _ = _
            simp only [Act.put, sa4, sz4, ss4, i64_w, i32_w]
            rfl
           refine pure_ (i:=7) (N:=some 105) (v:=?_) (a' := ?_) (bb4 13 255) rfl rfl (any_of HT_.out (by kernel_rfl)) (fun _ _ _ h => h) (Or.inl ⟨by rfl, ?_⟩) ?_ ?_
           rotate_left
           ·intro w'
            go_simp
            with_reducible rfl
           rotate_left
           ·simp only [Act.put, sa4, sz4, ss4, i64_w, i32_w]
            rfl
           refine pure_ (i:=8) (N:=some 106) (v:=?_) (a' := ?_) (bb4 13 511) rfl rfl (any_of HT_.out (by kernel_rfl)) (fun _ _ _ h => h) (Or.inl ⟨by rfl, ?_⟩) ?_ ?_
           rotate_left
           ·intro w'
            go_simp
            with_reducible rfl
           rotate_left
           ·simp only [Act.put, sa4, sz4, ss4, i64_w, i32_w]
            rfl
           refine pure_ (i:=9) (N:=some 107) (v:=?_) (a' := ?_) (bb4 13 1023) rfl rfl (any_of HT_.out (by kernel_rfl)) (fun _ _ _ h => h) (Or.inl ⟨by rfl, ?_⟩) ?_ ?_
           rotate_left
           ·intro w'
            go_simp
            with_reducible rfl
           rotate_left
           ·simp only [Act.put, sa4, sz4, ss4, i64_w, i32_w]
            rfl
           refine one_ (i:=10) (N:=some 108) (bb4 13 2047) rfl rfl (one_of HT_.out (by kernel_rfl)) (by decide) (fun K hK => ?_)
           refine goes_ Try.func26 (by kernel_rfl) rfl #[.slice (some ⟨g265, 0, none⟩) l2.length (l2.length + 12), .slice A2 l2.length c2] (by rfl) rfl rfl (by (try simp only [ma4, mc4, mn4]); first | done | rfl | (simp only [ld4, lt_4]; rfl)) ?_
           with_reducible refine (keptT.calls kk _ (l2 ++ marksT 12) _ _ l2 true _ ?side1 (by rw [List.length_append, marksT_len]) ?side3 ?side4 HKK.out).mono ?_
           (case side1 => repeat (first | exact HO266.out | (with_reducible refine Kd.C_alloc ?_ _) | (with_reducible refine Kd.C_drewN ?_ _) | (with_reducible refine Kd.C_drew ?_)))
           (case side3 => repeat (first | exact (Kd.C_below HR2.out (by repeat (first | (with_reducible first | exact HB.out | apply ba4 | apply bn4 | apply bd4 | refine bs4 ?_ GE234.out | refine bs4 ?_ GE235.out | refine bs4 ?_ GE247.out | refine bs4 ?_ GE251.out) | exact HB.out))) | (with_reducible refine Kd.C_alloc ?_ _) | (with_reducible refine Kd.C_drewN ?_ _) | (with_reducible refine Kd.C_drew ?_)))
           (case side4 => exact HC2.out)
           rintro e w83 ⟨rfl, hb⟩
           refine ⟨_, rfl, ?_⟩
           replace HO266 := Am4 (Kd.C_below (by repeat (first | exact HO266.out | (with_reducible refine Kd.C_alloc ?_ _) | (with_reducible refine Kd.C_drewN ?_ _) | (with_reducible refine Kd.C_drew ?_))) hb)
           replace HO269 := Am4 (Rb4 (by (with_reducible repeat first | apply Ra4 | apply Rn4 | apply Rd4); exact HO269.out) hb)
           replace HO272 := Am4 (Rb4 (by (with_reducible repeat first | apply Ra4 | apply Rn4 | apply Rd4); exact HO272.out) hb)
           replace BK234 := Am4 (kb4 (g:=gb234) (o:=.cells #[.string a0_0, .string a0_1] 26 (0, 0)) (by (with_reducible repeat first | apply kn4 | apply kd4 | apply ka4); exact BK234.out) hb)
           replace BK235 := Am4 (kb4 (g:=gb235) (o:=.cells #[.string a1_0, .string a1_1] 26 (0, 0)) (by (with_reducible repeat first | apply kn4 | apply kd4 | apply ka4); exact BK235.out) hb)
           replace BK247 := Am4 (kb4 (g:=gb247) (o:=.cells #[.string t244, .string t245] 26 (0, 0)) (by (with_reducible repeat first | apply kn4 | apply kd4 | apply ka4); exact BK247.out) hb)
           replace BK251 := Am4 (kb4 (g:=gb251) (o:=.cells #[.string t248, .string t249] 26 (0, 0)) (by (with_reducible repeat first | apply kn4 | apply kd4 | apply ka4); exact BK251.out) hb)
           replace HB := Am4 (bp4 (by repeat (first | (with_reducible first | exact HB.out | apply ba4 | apply bn4 | apply bd4 | refine bs4 ?_ GE234.out | refine bs4 ?_ GE235.out | refine bs4 ?_ GE247.out | refine bs4 ?_ GE251.out) | exact HB.out)) hb)
           (try clear hb)
           (try clear hb2)
           (try clear hk)
           (try clear hi)
           refine hK.out _ _ ⟨(kc4 BK234.out 0).trans rfl, (kc4 BK234.out 1).trans rfl⟩ (fun hHeld => ?_)
           clear hK K
           refine norm_ (a' := ?_) ?_ ?_
           rotate_left
           ·show Act.put _ (some 108) _ = _
            simp only [Act.put, sa4, sz4, ss4, i64_w, i32_w]
            rfl
           refine pure_ (i:=11) (N:=some 109) (v:=?_) (a' := ?_) (bb4 13 4095) rfl rfl (any_of HT_.out (by kernel_rfl)) (fun _ _ _ h => h) (Or.inl ⟨by rfl, ?_⟩) ?_ ?_
           rotate_left
           ·intro w'
            go_simp
            with_reducible rfl
           rotate_left
           ·simp only [Act.put, sa4, sz4, ss4, i64_w, i32_w]
            rfl
           refine pure_ (i:=12) (N:=some 6) (v:=?_) (a' := ?_) (bb4 13 8191) rfl rfl (any_of HT_.out (by kernel_rfl)) (fun _ _ _ h => h) (Or.inl ⟨by rfl, ?_⟩) ?_ ?_
           rotate_left
           ·intro w'
            go_simp
            with_reducible rfl
           rotate_left
           ·simp only [Act.put, sa4, sz4, ss4, i64_w, i32_w]
            rfl
           refine done_ (done_of HT_.out (by kernel_rfl)) ?_
           try go_wp2
           go_ret
           exact ⟨by first | rfl | (simp [errW_none, errW_some] <;> rfl) | (simp [*, errW_none, errW_some] <;> rfl), by repeat (first | (with_reducible first | exact HB.out | apply ba4 | apply bn4 | apply bd4 | refine bs4 ?_ GE234.out | refine bs4 ?_ GE235.out | refine bs4 ?_ GE247.out | refine bs4 ?_ GE251.out) | exact HB.out)⟩
          ·replace c74 := Bool.eq_false_iff.mpr c74
           subst c74
           rw [if_neg (show ¬ (false = true) by decide)] at H
           exact absurd H (by simp)
   ·replace c8 := Bool.eq_false_iff.mpr c8
    subst c8
    rw [if_neg (show ¬ (false = true) by decide)] at H
    obtain rfl := Option.some.inj H
    go_enter Try.func4, Try.ntmps4
    go_wp2_with (first | ((with_reducible refine gate_dst (N:=3) rfl ?_); refine box_event ?hg (N:=3) ?hd (cs:=#[.string a0_0, .string a0_1]) (t:=26) ?hr ?_; (case hd => rfl); (case hg => rfl); (case hr => first | (go_simp; done) | (go_simp; rfl)); intro gb234 hg w84 hbox hb; have BK234 := Am4 (hbox); have GW234 := Am4 ((by rw [hg]; exact (bz4 (by repeat (first | (with_reducible first | exact HB.out | apply ba4 | apply bn4 | apply bd4) | exact HB.out))) : w.heap.size ≤ gb234)); have GE234 := Am4 ((by rw [hg]; exact (bz4 (by repeat (first | (with_reducible first | exact HB.out | apply ba4 | apply bn4 | apply bd4) | exact HB.out))) : w.heap.size ≤ gb234)); replace HB := Am4 (bp4 (by repeat (first | (with_reducible first | exact HB.out | apply ba4 | apply bn4 | apply bd4) | exact HB.out)) hb); clear hb hbox hg) | ((with_reducible refine gate_dst (N:=4) rfl ?_); refine box_event ?hg (N:=4) ?hd (cs:=#[.string a1_0, .string a1_1]) (t:=26) ?hr ?_; (case hd => rfl); (case hg => rfl); (case hr => first | (go_simp; done) | (go_simp; rfl)); intro gb235 hg w85 hbox hb; have BK235 := Am4 (hbox); have GW235 := Am4 ((by rw [hg]; exact (bz4 (by repeat (first | (with_reducible first | exact HB.out | apply ba4 | apply bn4 | apply bd4 | refine bs4 ?_ GE234.out) | exact HB.out))) : w.heap.size ≤ gb235)); have GE235 := Am4 ((by rw [hg]; exact (bz4 (by repeat (first | (with_reducible first | exact HB.out | apply ba4 | apply bn4 | apply bd4 | refine bs4 ?_ GE234.out) | exact HB.out))) : w.heap.size ≤ gb235)); replace HB := Am4 (bp4 (by repeat (first | (with_reducible first | exact HB.out | apply ba4 | apply bn4 | apply bd4 | refine bs4 ?_ GE234.out) | exact HB.out)) hb); have NB234_235 := Am4 ((by rw [hg]; exact Nat.ne_of_lt (blk_lt (g:=gb234) (o:=.cells #[.string a0_0, .string a0_1] 26 (0, 0)) (by (with_reducible repeat first | apply kn4 | apply kd4 | apply ka4); exact BK234.out)) : gb234 ≠ gb235)); have NB235_234 := Am4 ((by rw [hg]; exact Nat.ne_of_gt (blk_lt (g:=gb234) (o:=.cells #[.string a0_0, .string a0_1] 26 (0, 0)) (by (with_reducible repeat first | apply kn4 | apply kd4 | apply ka4); exact BK234.out)) : gb235 ≠ gb234)); replace BK234 := Am4 (kb4 (g:=gb234) (o:=.cells #[.string a0_0, .string a0_1] 26 (0, 0)) (by (with_reducible repeat first | apply kn4 | apply kd4 | apply ka4); exact BK234.out) hb); clear hb hbox hg) | ((with_reducible refine gate_callee (f:=8) rfl ?_); refine goesL_ (some 13) rfl rfl Try.func8 (by kernel_rfl) rfl #[] rfl (by (try simp only [ma4, mc4, mn4]); first | done | rfl | (simp only [ld4, lt_4]; rfl)) ?_; (with_reducible refine (watershedlaw04_awake.calls k  true _ A4.out).mono ?_); rintro e w86 ⟨rfl, hb⟩; refine ⟨_, rfl, ?_⟩; replace BK234 := Am4 (kb4 (g:=gb234) (o:=.cells #[.string a0_0, .string a0_1] 26 (0, 0)) (by (with_reducible repeat first | apply kn4 | apply kd4 | apply ka4); exact BK234.out) hb); replace BK235 := Am4 (kb4 (g:=gb235) (o:=.cells #[.string a1_0, .string a1_1] 26 (0, 0)) (by (with_reducible repeat first | apply kn4 | apply kd4 | apply ka4); exact BK235.out) hb); replace HB := Am4 (bp4 (by repeat (first | (with_reducible first | exact HB.out | apply ba4 | apply bn4 | apply bd4 | refine bs4 ?_ GE234.out | refine bs4 ?_ GE235.out) | exact HB.out)) hb); (try clear hb); (try clear hb2); (try clear hk); (try clear hi); have hnb87 := NB234_235.out; have hnc87 := NB235_234.out; have hcz88_0 : w86.cell? ⟨gb234, 0, none⟩ = some (.string a0_0) := (kc4 BK234.out 0).trans rfl; have hcz88_1 : w86.cell? ⟨gb234, 1, none⟩ = some (.string a0_1) := (kc4 BK234.out 1).trans rfl; have hfz88_0 := kz4 BK234.out 0; have hfz88_1 := kz4 BK234.out 1; have hcz89_0 : w86.cell? ⟨gb235, 0, none⟩ = some (.string a1_0) := (kc4 BK235.out 0).trans rfl; have hcz89_1 : w86.cell? ⟨gb235, 1, none⟩ = some (.string a1_1) := (kc4 BK235.out 1).trans rfl; have hfz89_0 := kz4 BK235.out 0; have hfz89_1 := kz4 BK235.out 1) | ((with_reducible refine gate_dst (N:=23) rfl ?_); refine Kd.R_lit Kd.string _ 9 ?hg (N:=23) ?hd (xs:=([a0_0, a0_1, a1_0, a1_1] : List ByteArray)) (inner:=[.string a0_0, .string a0_1, .string a1_0, .string a1_1]) (ok:=fun _ => True) (okp:=fun _ => True) ?hr ?hp (fun _ hk => hk) trivial (Below.refl _ _) (Nat.le_refl _) (by simp) ?_; (case hd => rfl); (case hg => rfl); (case hr => first | (go_simp; done) | (go_simp; rfl)); (case hp => exact (Reps.one (show Kd.M Kd.string _ _ _ a0_0 [.string a0_0] from rfl) (Reps.one (show Kd.M Kd.string _ _ _ a0_1 [.string a0_1] from rfl) (Reps.one (show Kd.M Kd.string _ _ _ a1_0 [.string a1_0] from rfl) (Reps.one (show Kd.M Kd.string _ _ _ a1_1 [.string a1_1] from rfl) (Reps.none _ _)))))); intro v238 w90 ho91 hb hg_ hnew_; clear hg_ hnew_; (first | rw [← Ny237.out] at ho91 | (simp only [Int.reduceToNat] at ho91; rw [← Ny237.out] at ho91)); have HO239 := Am4 (Rl4 ho91 (bz4 (by repeat (first | (with_reducible first | exact HB.out | apply ba4 | apply bn4 | apply bd4 | refine bs4 ?_ GE234.out | refine bs4 ?_ GE235.out) | exact HB.out)))); replace BK234 := Am4 (kb4 (g:=gb234) (o:=.cells #[.string a0_0, .string a0_1] 26 (0, 0)) (by (with_reducible repeat first | apply kn4 | apply kd4 | apply ka4); exact BK234.out) hb); replace BK235 := Am4 (kb4 (g:=gb235) (o:=.cells #[.string a1_0, .string a1_1] 26 (0, 0)) (by (with_reducible repeat first | apply kn4 | apply kd4 | apply ka4); exact BK235.out) hb); replace HB := Am4 (bp4 (by repeat (first | (with_reducible first | exact HB.out | apply ba4 | apply bn4 | apply bd4 | refine bs4 ?_ GE234.out | refine bs4 ?_ GE235.out) | exact HB.out)) hb); clear hb ho91) | ((with_reducible refine gate_builtin (b:=.append) (xs:=#[.tmp 23, .tmp 24]) rfl ?_); at_builtin; refine Kd.R_append_rows Kd.string (w0:=w) w.heap.size rfl (.tmp 23) (.tmp 24) 24 9 (.string ⟨#[]⟩) 16 rfl Try.underlying24 info9 rfl (by decide) (by omega) v238 y237 l2 _ _ _ (fun _ => True) (fun _ => False) rfl rfl ?aO ?aR (fun _ _ h => h) (fun _ h => h.elim) ?aF ?aB ?aS ?aL ?_; (case aR => repeat (first | exact (Kd.C_below HR2.out HB.out) | (with_reducible refine Kd.C_alloc ?_ _) | (with_reducible refine Kd.C_drewN ?_ _) | (with_reducible refine Kd.C_drew ?_))); (case aB => exact (by repeat (first | (with_reducible first | exact HB.out | apply ba4 | apply bn4 | apply bd4 | refine bs4 ?_ GE234.out | refine bs4 ?_ GE235.out) | exact HB.out))); (case aF => exact (fun _ _ => trivial)); (case aO => exact (by (with_reducible repeat first | apply Ra4 | apply Rn4 | apply Rd4); exact HO239.out)); (case aS => exact (bz4 (by repeat (first | (with_reducible first | exact HB.out | apply ba4 | apply bn4 | apply bd4 | refine bs4 ?_ GE234.out | refine bs4 ?_ GE235.out) | exact HB.out)))); (case aL => have := LMc6.out; omega); intro v241 w92 ho hb hg hat; rw [← Ny240.out] at ho; have n0_ := Am4 (blk_grown (g:=gb234) (o:=.cells #[.string a0_0, .string a0_1] 26 (0, 0)) (by (with_reducible repeat first | apply kn4 | apply kd4 | apply ka4); exact BK234.out) hg (Kd.R_ne HO239.out BK234.out (by decide))); have n1_ := Am4 (blk_grown (g:=gb235) (o:=.cells #[.string a1_0, .string a1_1] 26 (0, 0)) (by (with_reducible repeat first | apply kn4 | apply kd4 | apply ka4); exact BK235.out) hg (Kd.R_ne HO239.out BK235.out (by decide))); have n2_ := Am4 (hb); have n3_ := Am4 (ho); clear BK234; clear BK235; clear HB; clear HO239; have BK234 := n0_; have BK235 := n1_; have HB := n2_; have HO242 := n3_; clear n0_ n1_ n2_ n3_; clear ho hb hg hat; obtain ⟨Ao93, co93, eo93⟩ := Kd.R_slice HO242.out; subst eo93) | ((with_reducible refine gate_callee (f:=9) rfl ?_); refine goesL_ (some 26) rfl rfl Try.func9 (by kernel_rfl) rfl #[.slice Ao93 y240.length co93] rfl (by (try simp only [ma4, mc4, mn4]); first | done | rfl | (simp only [ld4, lt_4]; rfl)) ?_; (with_reducible refine (watershedlaw04_few.calls k _ _ y240 false _ ?side1 ?side2 A7.out).mono ?_); (case side1 => repeat (first | exact (Kd.R_reads' HO242.out).2.2 | (with_reducible refine Kd.C_alloc ?_ _) | (with_reducible refine Kd.C_drewN ?_ _) | (with_reducible refine Kd.C_drew ?_))); (case side2 => exact (Kd.R_reads' HO242.out).2.1); rintro e w' ⟨rfl, ⟨nd, rfl⟩⟩; refine ⟨_, rfl, ?_⟩))
    go_ret
    exact ⟨by first | rfl | (simp [errW_none, errW_some] <;> rfl) | (simp [*, errW_none, errW_some] <;> rfl), by repeat (first | (with_reducible first | exact HB.out | apply ba4 | apply bn4 | apply bd4 | refine bs4 ?_ GE234.out | refine bs4 ?_ GE235.out) | exact HB.out)⟩
  ·rw [if_neg c6] at H
   exact absurd H (by simp)
 ·replace c5 := Bool.eq_false_iff.mpr c5
  subst c5
  rw [if_neg (show ¬ (false = true) by decide)] at H
  exact absurd H (by simp)

end Go.Proofs.Ytbmnhpihlkljdaa.P04e
