-- Written by gprint.py, a program of this session, over the kit's print; the functions of my own contracts are marked GIVEN
import Derived.Test.YtbmnhpihlkljdaaZEP04ex0
import Derived.Test.YtbmnhpihlkljdaaZEP04ex4
import Derived.Test.YtbmnhpihlkljdaaZEP04ex10
import Derived.Test.YtbmnhpihlkljdaaZEP04ex12
namespace Go.Proofs.Ytbmnhpihlkljdaa.P04e
open Go.RowKit Go.Proofs.YtbmnhpihlkljdaaW.PrintWords Go.Proofs.YtbmnhpihlkljdaaW.PrintLast Go.Proofs.YtbmnhpihlkljdaaW.PrintMore
attribute [local go_sem] max2_str max2_int min2_int max_two min_two max_three min_three max_four min_four   -- for this text's walks alone
set_option linter.unusedVariables false
set_option linter.unusedSimpArgs false

abbrev bb5 (n m : Nat) : Array Bool := ((List.range n).map fun i => m.testBit i).toArray
theorem Am5 : type_of% @Aside0.mk := @Aside0.mk
theorem Ra5 : type_of% @Kd.R_alloc := @Kd.R_alloc
theorem Rn5 : type_of% @Kd.R_drewN := @Kd.R_drewN
theorem Rd5 : type_of% @Kd.R_drew := @Kd.R_drew
theorem Rb5 : type_of% @Kd.R_below := @Kd.R_below
theorem ba5 : type_of% @below_alloc := @below_alloc
theorem bn5 : type_of% @pw_below_drewN := @pw_below_drewN
theorem bd5 : type_of% @below_drew1 := @below_drew1
theorem Re5 : type_of% @Kd.R_elder' := @Kd.R_elder'
theorem Rw5 : type_of% @Kd.R_new' := @Kd.R_new'
theorem Rl5 : type_of% @Kd.R_lower := @Kd.R_lower
theorem Ra_5 : type_of% @Kd.R_base := @Kd.R_base
theorem Rt5 : type_of% @Kd.R_lt := @Kd.R_lt
theorem bz5 : type_of% @below_size := @below_size
theorem bp5 : type_of% @below_step := @below_step
theorem sa5 : type_of% @List.setIfInBounds_toArray := @List.setIfInBounds_toArray
theorem sz5 : type_of% @List.set_cons_zero := @List.set_cons_zero
theorem ss5 : type_of% @List.set_cons_succ := @List.set_cons_succ
theorem ma5 : type_of% @List.map_toArray := @List.map_toArray
theorem mc5 : type_of% @List.map_cons := @List.map_cons
theorem mn5 : type_of% @List.map_nil := @List.map_nil
theorem ld5 : type_of% @List.length_drop := @List.length_drop
theorem lt_5 : type_of% @List.length_take := @List.length_take
/-! ### watershedlaw04_SpanEnds: function 5 -/
mutual
def watershedlaw04_SpanEnds.l0 : Nat → List ByteArray → Int → Option (Bool)
 | 0, _, _ => none
 | k + 1, x1, x2 => if x2 < (x1.length : Int) then (watershedlaw04_SpanEnds.l1 k x1 x2 0) else ((watershedlaw04_SpanParts.f k ([] : List (S26))).bind fun t301 => (if t301 = true then ((watershedlaw04_SpanParts.f k (([(⟨(⟨#[]⟩ : ByteArray), (⟨#[]⟩ : ByteArray)⟩ : S26)] : List (S26)))).bind fun t305 => (if t305 = true then ((watershedlaw04_SpanParts.f k (([(⟨(⟨#[]⟩ : ByteArray), (⟨#[]⟩ : ByteArray)⟩ : S26), (⟨(⟨#[]⟩ : ByteArray), (⟨#[]⟩ : ByteArray)⟩ : S26)] : List (S26)))).bind fun t309 => (some t309)) else (none))) else (none)))
def watershedlaw04_SpanEnds.l1 : Nat → List ByteArray → Int → Int → Option (Bool)
 | 0, _, _, _ => none
 | k + 1, x1, x2, x3 => if x3 < (x1.length : Int) then (watershedlaw04_SpanEnds.l2 k x1 x2 x3 0) else (watershedlaw04_SpanEnds.l0 k x1 (wrap64 (x2 + 1)))
def watershedlaw04_SpanEnds.l2 : Nat → List ByteArray → Int → Int → Int → Option (Bool)
 | 0, _, _, _, _ => none
 | k + 1, x1, x2, x3, x4 => if x4 < (x1.length : Int) then (if 0 ≤ x2 then (if x2 < (x1.length : Int) then (if 0 ≤ x3 then (if x3 < (x1.length : Int) then (if 0 ≤ x4 then (if (x1.length : Int) = 0 then (none) else (if 0 ≤ (Int.tmod (wrap64 (x2 + x3)) (x1.length : Int)) then (if (Int.tmod (wrap64 (x2 + x3)) (x1.length : Int)) < (x1.length : Int) then ((watershedlaw04_SpanTells.f k (rdOf ByteArray.empty x1 x2) (rdOf ByteArray.empty x1 x3) (rdOf ByteArray.empty x1 x4) (rdOf ByteArray.empty x1 (Int.tmod (wrap64 (x2 + x3)) (x1.length : Int))) x1).bind fun t314 => (if t314 = true then ((watershedlaw04_SpanParts.f k (([(⟨rdOf ByteArray.empty x1 x4, rdOf ByteArray.empty x1 x2⟩ : S26), (⟨rdOf ByteArray.empty x1 x2, rdOf ByteArray.empty x1 x3⟩ : S26), (⟨rdOf ByteArray.empty x1 x3, (⟨#[]⟩ : ByteArray)⟩ : S26)] : List (S26)))).bind fun t323 => (if t323 = true then ((watershedlaw04_SpanParts.f k (([(⟨(⟨#[]⟩ : ByteArray), rdOf ByteArray.empty x1 x2⟩ : S26), (⟨rdOf ByteArray.empty x1 x2, rdOf ByteArray.empty x1 x3⟩ : S26), (⟨rdOf ByteArray.empty x1 x3, (⟨#[]⟩ : ByteArray)⟩ : S26)] : List (S26)))).bind fun t331 => (if t331 = true then (watershedlaw04_SpanEnds.l2 k x1 x2 x3 (wrap64 (x4 + 1))) else (none))) else (none))) else (none))) else (none)) else (none))) else (none)) else (none)) else (none)) else (none)) else (none)) else (watershedlaw04_SpanEnds.l1 k x1 x2 (wrap64 (x3 + 1)))
end
def watershedlaw04_SpanEnds.f (k : Nat)  : Option (Bool) := (watershedlaw04_awake.f k).bind fun t297 => (if t297 = true then (watershedlaw04_SpanEnds.l0 k (([(⟨#[]⟩ : ByteArray), (⟨#[97]⟩ : ByteArray), (⟨#[97, 97]⟩ : ByteArray), (⟨#[97, 98]⟩ : ByteArray), (⟨#[98]⟩ : ByteArray), (⟨#[122]⟩ : ByteArray), (⟨#[48]⟩ : ByteArray), (⟨#[57]⟩ : ByteArray), (⟨#[65]⟩ : ByteArray), (⟨#[97, 45]⟩ : ByteArray), (⟨#[122, 122, 122, 122, 122, 122, 122, 122, 122, 122, 122, 122, 122, 122, 122, 122, 122, 122, 122, 122]⟩ : ByteArray), (⟨#[122, 122, 122, 122, 122, 122, 122, 122, 122, 122, 122, 122, 122, 122, 122, 122, 122, 122, 122, 122, 122]⟩ : ByteArray)] : List ByteArray)) 0) else (none))
theorem watershedlaw04_SpanEnds.mono_l : ∀ k, (∀ y0 y1, LeO (watershedlaw04_SpanEnds.l0 k y0 y1) (watershedlaw04_SpanEnds.l0 (k + 1) y0 y1)) ∧ (∀ y0 y1 y2, LeO (watershedlaw04_SpanEnds.l1 k y0 y1 y2) (watershedlaw04_SpanEnds.l1 (k + 1) y0 y1 y2)) ∧ (∀ y0 y1 y2 y3, LeO (watershedlaw04_SpanEnds.l2 k y0 y1 y2 y3) (watershedlaw04_SpanEnds.l2 (k + 1) y0 y1 y2 y3))
 | 0 => ⟨fun _ _ r h => by simp [watershedlaw04_SpanEnds.l0] at h, fun _ _ _ r h => by simp [watershedlaw04_SpanEnds.l1] at h, fun _ _ _ _ r h => by simp [watershedlaw04_SpanEnds.l2] at h⟩
 | k + 1 => by
  obtain ⟨ih0, ih1, ih2⟩ := watershedlaw04_SpanEnds.mono_l k
  refine ⟨?_, ?_, ?_⟩
  ·intro y0 y1
   unfold watershedlaw04_SpanEnds.l0
   repeat' first
   | (with_reducible exact ih0 _ _)
   | (with_reducible exact ih1 _ _ _)
   | (with_reducible exact ih2 _ _ _ _)
   | (with_reducible exact watershedlaw04_SpanParts.mono _ _)
   | (with_reducible exact watershedlaw04_SpanTells.mono _ _ _ _ _ _)
   | (with_reducible exact watershedlaw04_awake.mono _)
   | (with_reducible exact LeO.refl _)
   | (with_reducible exact LeO.none _)
   | (with_reducible refine LeO.ite ?_ ?_)
   | (with_reducible refine LeO.bind ?_ (fun _ => ?_))
   | exact ih0 _ _
   | exact ih1 _ _ _
   | exact ih2 _ _ _ _
   | exact watershedlaw04_SpanParts.mono _ _
   | exact watershedlaw04_SpanTells.mono _ _ _ _ _ _
   | exact watershedlaw04_awake.mono _
   | exact LeO.none _
   | refine LeO.ite ?_ ?_
   | refine LeO.bind ?_ (fun _ => ?_)
  ·intro y0 y1 y2
   unfold watershedlaw04_SpanEnds.l1
   repeat' first
   | (with_reducible exact ih0 _ _)
   | (with_reducible exact ih1 _ _ _)
   | (with_reducible exact ih2 _ _ _ _)
   | (with_reducible exact watershedlaw04_SpanParts.mono _ _)
   | (with_reducible exact watershedlaw04_SpanTells.mono _ _ _ _ _ _)
   | (with_reducible exact watershedlaw04_awake.mono _)
   | (with_reducible exact LeO.refl _)
   | (with_reducible exact LeO.none _)
   | (with_reducible refine LeO.ite ?_ ?_)
   | (with_reducible refine LeO.bind ?_ (fun _ => ?_))
   | exact ih0 _ _
   | exact ih1 _ _ _
   | exact ih2 _ _ _ _
   | exact watershedlaw04_SpanParts.mono _ _
   | exact watershedlaw04_SpanTells.mono _ _ _ _ _ _
   | exact watershedlaw04_awake.mono _
   | exact LeO.none _
   | refine LeO.ite ?_ ?_
   | refine LeO.bind ?_ (fun _ => ?_)
  ·intro y0 y1 y2 y3
   unfold watershedlaw04_SpanEnds.l2
   repeat' first
   | (with_reducible exact ih0 _ _)
   | (with_reducible exact ih1 _ _ _)
   | (with_reducible exact ih2 _ _ _ _)
   | (with_reducible exact watershedlaw04_SpanParts.mono _ _)
   | (with_reducible exact watershedlaw04_SpanTells.mono _ _ _ _ _ _)
   | (with_reducible exact watershedlaw04_awake.mono _)
   | (with_reducible exact LeO.refl _)
   | (with_reducible exact LeO.none _)
   | (with_reducible refine LeO.ite ?_ ?_)
   | (with_reducible refine LeO.bind ?_ (fun _ => ?_))
   | exact ih0 _ _
   | exact ih1 _ _ _
   | exact ih2 _ _ _ _
   | exact watershedlaw04_SpanParts.mono _ _
   | exact watershedlaw04_SpanTells.mono _ _ _ _ _ _
   | exact watershedlaw04_awake.mono _
   | exact LeO.none _
   | refine LeO.ite ?_ ?_
   | refine LeO.bind ?_ (fun _ => ?_)
theorem watershedlaw04_SpanEnds.mono : ∀ k, LeO (watershedlaw04_SpanEnds.f k ) (watershedlaw04_SpanEnds.f (k + 1) ) := by
 intro  k
 obtain ⟨ih0, ih1, ih2⟩ := watershedlaw04_SpanEnds.mono_l k
 unfold watershedlaw04_SpanEnds.f
 repeat' first
   | (with_reducible exact ih0 _ _)
   | (with_reducible exact ih1 _ _ _)
   | (with_reducible exact ih2 _ _ _ _)
   | (with_reducible exact watershedlaw04_SpanParts.mono _ _)
   | (with_reducible exact watershedlaw04_SpanTells.mono _ _ _ _ _ _)
   | (with_reducible exact watershedlaw04_awake.mono _)
   | (with_reducible exact LeO.refl _)
   | (with_reducible exact LeO.none _)
   | (with_reducible refine LeO.ite ?_ ?_)
   | (with_reducible refine LeO.bind ?_ (fun _ => ?_))
   | exact ih0 _ _
   | exact ih1 _ _ _
   | exact ih2 _ _ _ _
   | exact watershedlaw04_SpanParts.mono _ _
   | exact watershedlaw04_SpanTells.mono _ _ _ _ _ _
   | exact watershedlaw04_awake.mono _
   | exact LeO.none _
   | refine LeO.ite ?_ ?_
   | refine LeO.bind ?_ (fun _ => ?_)
def watershedlaw04_SpanEnds.T13 : Bool × List (List Nat × List Nat) := (true, [([], []), ([], []), ([0, 1], [0, 1]), ([2], [2]), ([], []), ([], []), ([4, 5], [4, 5]), ([6], [6]), ([3, 7], [3, 7]), ([], []), ([], []), ([9, 10], [9, 10]), ([11], [11]), ([], []), ([], []), ([], []), ([14, 15], [14, 15]), ([], []), ([17], [17]), ([16, 18], [16, 18]), ([13, 19], [13, 19]), ([20], [20]), ([12, 21], [12, 21]), ([], []), ([8, 22, 23], [8, 22, 23]), ([24], [24]), ([25, 24], [25]), ([26], [26]), ([26], [26]), ([27, 28, 26], [26, 27, 28]), ([29, 26], [26, 29]), ([26], [26]), ([26], [26]), ([31, 32, 26], [26, 31, 32]), ([33, 26], [26, 33]), ([30, 34, 26], [26, 30, 34]), ([26], [26]), ([26], [26]), ([36, 37, 26], [26, 36, 37]), ([38, 26], [26, 38]), ([26], [26]), ([26], [26]), ([40, 41, 26], [26, 40, 41]), ([42, 26], [26, 42]), ([39, 43, 26], [26, 39, 43]), ([26], [26]), ([26], [26]), ([45, 46, 26], [26, 45, 46]), ([47, 26], [26, 47]), ([48, 26], [26, 48]), ([35, 44, 49, 26], [26, 35, 44, 49]), ([50, 26, 26], [26, 50]), ([51, 26], [26, 51]), ([26, 52], [26, 52]), ([53, 51], [53]), ([54], [54]), ([54], [54]), ([55, 56, 54], [54, 55, 56]), ([57, 54], [54, 57]), ([58, 54], [54, 58]), ([54], [54]), ([54], [54]), ([60, 61, 54], [54, 60, 61]), ([62, 54], [54, 62]), ([54], [54]), ([54], [54]), ([64, 65, 54], [54, 64, 65]), ([66, 54], [54, 66]), ([63, 67, 54], [54, 63, 67]), ([54], [54]), ([54], [54]), ([69, 70, 54], [54, 69, 70]), ([71, 54], [54, 71]), ([72, 54], [54, 72]), ([59, 68, 73, 54], [54, 59, 68, 73]), ([74, 54, 54], [54, 74]), ([75, 54], [54, 75]), ([54, 76], [54, 76])])
def watershedlaw04_SpanEnds.B13 : List Nat := [0, 0, 3, 7, 0, 0, 48, 112, 255, 0, 0, 1536, 3584, 0, 0, 0, 49152, 0, 131072, 507904, 1040384, 2088960, 4193792, 0, 16777215, 33554431, 67108863, 134217727, 134217727, 536870911, 1073741823, 134217727, 134217727, 6576668671, 15166603263, 34359738367, 134217727, 134217727, 206292647935, 481170554879, 134217727, 134217727, 3298669101055, 7696715612159, 17523600785407, 134217727, 134217727, 105553250484223, 246290738839551, 527765715550207, 1125899906842623, 2251799813685247, 4503599627370495, 9007199254740991, 18014398509481983, 36028797018963967, 36028797018963967, 144115188075855871, 288230376151711743, 576460752303423487, 36028797018963967, 36028797018963967, 3494793310839504895, 8106479329266892799, 36028797018963967, 36028797018963967, 55376261018147618815, 129163237312985825279, 294031012471764942847, 36028797018963967, 36028797018963967, 1770923459873135919103, 4132106701307958525951, 8854473184177603739647, 18889465931478580854783, 37778931862957161709567, 75557863725914323419135, 151115727451828646838271]
theorem watershedlaw04_SpanEnds.tab13 : rtab .any (opsOf Try.f5 13) = watershedlaw04_SpanEnds.T13 := by kernel_rfl
theorem watershedlaw04_SpanEnds.bits13 : waitsOk watershedlaw04_SpanEnds.T13.2 watershedlaw04_SpanEnds.B13 = true := by kernel_rfl
set_option maxHeartbeats 8000000 in
set_option maxRecDepth 100000 in
theorem watershedlaw04_SpanEnds.calls (k : Nat)  (r : Bool) (w : World) (h : watershedlaw04_SpanEnds.f k  = some r) :
  Calls Try.prog 5 #[] w fun e w' => e = .returned (.bool r) ∧ Below w.heap.size w w' := by
 have hu26 := Try.underlying26
 have HB := Am5 (Below.refl w.heap.size w)
 have H : ((watershedlaw04_awake.f k).bind fun t297 => (if t297 = true then (watershedlaw04_SpanEnds.l0 k (([(⟨#[]⟩ : ByteArray), (⟨#[97]⟩ : ByteArray), (⟨#[97, 97]⟩ : ByteArray), (⟨#[97, 98]⟩ : ByteArray), (⟨#[98]⟩ : ByteArray), (⟨#[122]⟩ : ByteArray), (⟨#[48]⟩ : ByteArray), (⟨#[57]⟩ : ByteArray), (⟨#[65]⟩ : ByteArray), (⟨#[97, 45]⟩ : ByteArray), (⟨#[122, 122, 122, 122, 122, 122, 122, 122, 122, 122, 122, 122, 122, 122, 122, 122, 122, 122, 122, 122]⟩ : ByteArray), (⟨#[122, 122, 122, 122, 122, 122, 122, 122, 122, 122, 122, 122, 122, 122, 122, 122, 122, 122, 122, 122, 122]⟩ : ByteArray)] : List ByteArray)) 0) else (none))) = some r := h
 clear h
 replace H := Option.bind_eq_some_iff.mp H
 obtain ⟨t297, A10, H⟩ := H
 try dsimp only at H
 have A1 := Am5 A10
 clear A10
 by_cases c2 : t297 = true
 ·subst c2
  rw [if_pos rfl] at H
  obtain ⟨y298, hy298⟩ : ∃ y_ : List ByteArray, y_ = (([(⟨#[]⟩ : ByteArray), (⟨#[97]⟩ : ByteArray), (⟨#[97, 97]⟩ : ByteArray), (⟨#[97, 98]⟩ : ByteArray), (⟨#[98]⟩ : ByteArray), (⟨#[122]⟩ : ByteArray), (⟨#[48]⟩ : ByteArray), (⟨#[57]⟩ : ByteArray), (⟨#[65]⟩ : ByteArray), (⟨#[97, 45]⟩ : ByteArray), (⟨#[122, 122, 122, 122, 122, 122, 122, 122, 122, 122, 122, 122, 122, 122, 122, 122, 122, 122, 122, 122]⟩ : ByteArray), (⟨#[122, 122, 122, 122, 122, 122, 122, 122, 122, 122, 122, 122, 122, 122, 122, 122, 122, 122, 122, 122, 122]⟩ : ByteArray)] : List ByteArray)) := ⟨_, rfl⟩
  replace H : (watershedlaw04_SpanEnds.l0 k y298 0) = some r := by first | (rw [hy298]; with_reducible exact H) | (have H2_ := (Option.bind_some _ _).symm.trans H; rw [hy298]; with_reducible exact H2_) | (have H2_ := (Option.bind_some _ _).symm.trans H; with_reducible exact H2_) | with_reducible exact H | (rw [hy298]; exact H) | exact H
  have Ny298 := Am5 hy298
  clear hy298
  have H' := Am5 H
  clear H
  go_enter Try.func5, Try.ntmps5
  go_wp2_with (first | ((with_reducible refine gate_callee (f:=8) rfl ?_); refine goesL_ (some 5) rfl rfl Try.func8 (by kernel_rfl) rfl #[] rfl (by (try simp only [ma5, mc5, mn5]); first | done | rfl | (simp only [ld5, lt_5]; rfl)) ?_; (with_reducible refine (watershedlaw04_awake.calls k  true _ A1.out).mono ?_); rintro e w3 ⟨rfl, hb⟩; refine ⟨_, rfl, ?_⟩; replace HB := Am5 (bp5 (by repeat (first | (with_reducible first | exact HB.out | apply ba5 | apply bn5 | apply bd5) | exact HB.out)) hb); (try clear hb); (try clear hb2); (try clear hk); (try clear hi)) | ((with_reducible refine gate_dst (N:=7) rfl ?_); (try (refine gate_guard (by rfl) ?_; dsimp only)); refine Kd.R_lit Kd.string _ 9 ?hg (N:=7) ?hd (xs:=([(⟨#[]⟩ : ByteArray), (⟨#[97]⟩ : ByteArray), (⟨#[97, 97]⟩ : ByteArray), (⟨#[97, 98]⟩ : ByteArray), (⟨#[98]⟩ : ByteArray), (⟨#[122]⟩ : ByteArray), (⟨#[48]⟩ : ByteArray), (⟨#[57]⟩ : ByteArray), (⟨#[65]⟩ : ByteArray), (⟨#[97, 45]⟩ : ByteArray), (⟨#[122, 122, 122, 122, 122, 122, 122, 122, 122, 122, 122, 122, 122, 122, 122, 122, 122, 122, 122, 122]⟩ : ByteArray), (⟨#[122, 122, 122, 122, 122, 122, 122, 122, 122, 122, 122, 122, 122, 122, 122, 122, 122, 122, 122, 122, 122]⟩ : ByteArray)] : List ByteArray)) (inner:=[.string (⟨#[]⟩ : ByteArray), .string (⟨#[97]⟩ : ByteArray), .string (⟨#[97, 97]⟩ : ByteArray), .string (⟨#[97, 98]⟩ : ByteArray), .string (⟨#[98]⟩ : ByteArray), .string (⟨#[122]⟩ : ByteArray), .string (⟨#[48]⟩ : ByteArray), .string (⟨#[57]⟩ : ByteArray), .string (⟨#[65]⟩ : ByteArray), .string (⟨#[97, 45]⟩ : ByteArray), .string (⟨#[122, 122, 122, 122, 122, 122, 122, 122, 122, 122, 122, 122, 122, 122, 122, 122, 122, 122, 122, 122]⟩ : ByteArray), .string (⟨#[122, 122, 122, 122, 122, 122, 122, 122, 122, 122, 122, 122, 122, 122, 122, 122, 122, 122, 122, 122, 122]⟩ : ByteArray)]) (ok:=fun _ => True) (okp:=fun _ => True) ?hr ?hp (fun _ hk => hk) trivial (Below.refl _ _) (Nat.le_refl _) (by simp) ?_; (case hd => rfl); (case hg => rfl); (case hr => first | (go_simp; done) | (go_simp; rfl)); (case hp => exact (Reps.one (show Kd.M Kd.string _ _ _ (⟨#[]⟩ : ByteArray) [.string (⟨#[]⟩ : ByteArray)] from rfl) (Reps.one (show Kd.M Kd.string _ _ _ (⟨#[97]⟩ : ByteArray) [.string (⟨#[97]⟩ : ByteArray)] from rfl) (Reps.one (show Kd.M Kd.string _ _ _ (⟨#[97, 97]⟩ : ByteArray) [.string (⟨#[97, 97]⟩ : ByteArray)] from rfl) (Reps.one (show Kd.M Kd.string _ _ _ (⟨#[97, 98]⟩ : ByteArray) [.string (⟨#[97, 98]⟩ : ByteArray)] from rfl) (Reps.one (show Kd.M Kd.string _ _ _ (⟨#[98]⟩ : ByteArray) [.string (⟨#[98]⟩ : ByteArray)] from rfl) (Reps.one (show Kd.M Kd.string _ _ _ (⟨#[122]⟩ : ByteArray) [.string (⟨#[122]⟩ : ByteArray)] from rfl) (Reps.one (show Kd.M Kd.string _ _ _ (⟨#[48]⟩ : ByteArray) [.string (⟨#[48]⟩ : ByteArray)] from rfl) (Reps.one (show Kd.M Kd.string _ _ _ (⟨#[57]⟩ : ByteArray) [.string (⟨#[57]⟩ : ByteArray)] from rfl) (Reps.one (show Kd.M Kd.string _ _ _ (⟨#[65]⟩ : ByteArray) [.string (⟨#[65]⟩ : ByteArray)] from rfl) (Reps.one (show Kd.M Kd.string _ _ _ (⟨#[97, 45]⟩ : ByteArray) [.string (⟨#[97, 45]⟩ : ByteArray)] from rfl) (Reps.one (show Kd.M Kd.string _ _ _ (⟨#[122, 122, 122, 122, 122, 122, 122, 122, 122, 122, 122, 122, 122, 122, 122, 122, 122, 122, 122, 122]⟩ : ByteArray) [.string (⟨#[122, 122, 122, 122, 122, 122, 122, 122, 122, 122, 122, 122, 122, 122, 122, 122, 122, 122, 122, 122]⟩ : ByteArray)] from rfl) (Reps.one (show Kd.M Kd.string _ _ _ (⟨#[122, 122, 122, 122, 122, 122, 122, 122, 122, 122, 122, 122, 122, 122, 122, 122, 122, 122, 122, 122, 122]⟩ : ByteArray) [.string (⟨#[122, 122, 122, 122, 122, 122, 122, 122, 122, 122, 122, 122, 122, 122, 122, 122, 122, 122, 122, 122, 122]⟩ : ByteArray)] from rfl) (Reps.none _ _)))))))))))))); intro v299 w4 ho5 hb hg_ hnew_; clear hg_ hnew_; (first | rw [← Ny298.out] at ho5 | (simp only [Int.reduceToNat] at ho5; rw [← Ny298.out] at ho5)); have HO300 := Am5 (Rl5 ho5 (bz5 (by repeat (first | (with_reducible first | exact HB.out | apply ba5 | apply bn5 | apply bd5) | exact HB.out)))); replace HB := Am5 (bp5 (by repeat (first | (with_reducible first | exact HB.out | apply ba5 | apply bn5 | apply bd5) | exact HB.out)) hb); clear hb ho5))
  go_loopg [2] k (fun kq v2 w' => ∃ (x2_1 : Int), v2 = .int .i64 x2_1 ∧ Aside0 (watershedlaw04_SpanEnds.l0 kq y298 x2_1 = some r) ∧ Aside0 (kq ≤ k) ∧ Aside0 (Kd.R Kd.string 9 w' w.heap.size (fun _ => True) v299 y298) ∧ Aside0 (Below w.heap.size w w'))
  case atStart => exact ⟨(0), (by first | rfl | (simp; done) | (simp [*]; done)), H', ⟨Nat.le_refl _⟩, ⟨by (with_reducible repeat first | apply Ra5 | apply Rn5 | apply Rd5); exact HO300.out⟩, ⟨by repeat (first | (with_reducible first | exact HB.out | apply ba5 | apply bn5 | apply bd5) | exact HB.out)⟩⟩
  case round =>
   clear H'
   try clear c2
   try clear p2
   try clear c5
   obtain ⟨x2_1, rfl, HA, HK1, HO_1, HB⟩ := hrel
   cases gk with
   | zero => exact absurd HA.out (by simp [watershedlaw04_SpanEnds.l0])
   | succ k1 =>
    have H := HA.out
    clear HA
    simp only [watershedlaw04_SpanEnds.l0] at H
    by_cases c6 : x2_1 < (y298.length : Int)
    ·rw [if_pos c6] at H
     have c6b0 : decide (x2_1 < (y298.length : Int)) = true := decide_eq_true c6
     clear c6
     have H' := Am5 H
     clear H
     obtain ⟨Ao7, co7, eo7⟩ := Kd.R_slice HO_1.out
     subst eo7
     go_wp2
     go_loopg [3] k1 (fun kq v3 w' => ∃ (x3_2 : Int), v3 = .int .i64 x3_2 ∧ Aside0 (watershedlaw04_SpanEnds.l1 kq y298 x2_1 x3_2 = some r) ∧ Aside0 (kq ≤ k1) ∧ Aside0 (Kd.R Kd.string 9 w' w.heap.size (fun _ => True) (.slice Ao7 y298.length co7) y298) ∧ Aside0 (Below w.heap.size w w'))
     case atStart => exact ⟨(0), (by first | rfl | (simp; done) | (simp [*]; done)), H', ⟨Nat.le_refl _⟩, ⟨by (with_reducible repeat first | apply Ra5 | apply Rn5 | apply Rd5); exact HO_1.out⟩, ⟨by repeat (first | (with_reducible first | exact HB.out | apply ba5 | apply bn5 | apply bd5) | exact HB.out)⟩⟩
     case round =>
      clear H'
      try clear c2
      try clear p2
      try clear c5
      try clear c6
      try clear c6b0
      try clear p2
      obtain ⟨x3_2, rfl, HA, HK2, HO_1, HB⟩ := hrel
      cases gk with
      | zero => exact absurd HA.out (by simp [watershedlaw04_SpanEnds.l1])
      | succ k2 =>
       have H := HA.out
       clear HA
       simp only [watershedlaw04_SpanEnds.l1] at H
       by_cases c8 : x3_2 < (y298.length : Int)
       ·rw [if_pos c8] at H
        have c8b0 : decide (x3_2 < (y298.length : Int)) = true := decide_eq_true c8
        clear c8
        have H' := Am5 H
        clear H
        go_wp2
        go_loopg [4] k2 (fun kq v4 w' => ∃ (x4_3 : Int), v4 = .int .i64 x4_3 ∧ Aside0 (watershedlaw04_SpanEnds.l2 kq y298 x2_1 x3_2 x4_3 = some r) ∧ Aside0 (kq ≤ k2) ∧ Aside0 (Kd.R Kd.string 9 w' w.heap.size (fun _ => True) (.slice Ao7 y298.length co7) y298) ∧ Aside0 (Below w.heap.size w w'))
        case atStart => exact ⟨(0), (by first | rfl | (simp; done) | (simp [*]; done)), H', ⟨Nat.le_refl _⟩, ⟨by (with_reducible repeat first | apply Ra5 | apply Rn5 | apply Rd5); exact HO_1.out⟩, ⟨by repeat (first | (with_reducible first | exact HB.out | apply ba5 | apply bn5 | apply bd5) | exact HB.out)⟩⟩
        case round =>
         clear H'
         try clear c2
         try clear p2
         try clear c5
         try clear c6
         try clear c6b0
         try clear c8
         try clear c8b0
         try clear p2
         obtain ⟨x4_3, rfl, HA, HK3, HO_1, HB⟩ := hrel
         cases gk with
         | zero => exact absurd HA.out (by simp [watershedlaw04_SpanEnds.l2])
         | succ k3 =>
          have H := HA.out
          clear HA
          simp only [watershedlaw04_SpanEnds.l2] at H
          by_cases c9 : x4_3 < (y298.length : Int)
          ·rw [if_pos c9] at H
           have c9b0 : decide (x4_3 < (y298.length : Int)) = true := decide_eq_true c9
           clear c9
           by_cases c10 : 0 ≤ x2_1
           ·rw [if_pos c10] at H
            have c10b0 : decide (0 ≤ x2_1) = true := decide_eq_true c10
            clear c10
            by_cases c11 : x2_1 < (y298.length : Int)
            ·rw [if_pos c11] at H
             have c11b0 : decide (x2_1 < (y298.length : Int)) = true := decide_eq_true c11
             clear c11
             by_cases c12 : 0 ≤ x3_2
             ·rw [if_pos c12] at H
              have c12b0 : decide (0 ≤ x3_2) = true := decide_eq_true c12
              clear c12
              by_cases c13 : x3_2 < (y298.length : Int)
              ·rw [if_pos c13] at H
               have c13b0 : decide (x3_2 < (y298.length : Int)) = true := decide_eq_true c13
               clear c13
               by_cases c14 : 0 ≤ x4_3
               ·rw [if_pos c14] at H
                have c14b0 : decide (0 ≤ x4_3) = true := decide_eq_true c14
                clear c14
                by_cases c15 : (y298.length : Int) = 0
                ·rw [if_pos c15] at H
                 exact absurd H (by simp)
                ·rw [if_neg c15] at H
                 have c15b0 : ((y298.length : Int) == 0) = false := beq_eq_false_iff_ne.mpr c15
                 have c15b1 : ((y298.length : Int) != 0) = true := bne_iff_ne.mpr c15
                 have c15b2 : ¬ (y298 = []) := fun h_ => c15 (by rw [h_]; rfl)
                 obtain ⟨ji16, hji16⟩ : ∃ j_ : Int, (Int.tmod (wrap64 (x2_1 + x3_2)) (y298.length : Int)) = j_ := ⟨_, rfl⟩
                 replace H : (if 0 ≤ (ji16) then (if (ji16) < (y298.length : Int) then ((watershedlaw04_SpanTells.f k3 (rdOf ByteArray.empty y298 x2_1) (rdOf ByteArray.empty y298 x3_2) (rdOf ByteArray.empty y298 x4_3) (rdOf ByteArray.empty y298 (ji16)) y298).bind fun t314 => (if t314 = true then ((watershedlaw04_SpanParts.f k3 (([(⟨rdOf ByteArray.empty y298 x4_3, rdOf ByteArray.empty y298 x2_1⟩ : S26), (⟨rdOf ByteArray.empty y298 x2_1, rdOf ByteArray.empty y298 x3_2⟩ : S26), (⟨rdOf ByteArray.empty y298 x3_2, (⟨#[]⟩ : ByteArray)⟩ : S26)] : List (S26)))).bind fun t323 => (if t323 = true then ((watershedlaw04_SpanParts.f k3 (([(⟨(⟨#[]⟩ : ByteArray), rdOf ByteArray.empty y298 x2_1⟩ : S26), (⟨rdOf ByteArray.empty y298 x2_1, rdOf ByteArray.empty y298 x3_2⟩ : S26), (⟨rdOf ByteArray.empty y298 x3_2, (⟨#[]⟩ : ByteArray)⟩ : S26)] : List (S26)))).bind fun t331 => (if t331 = true then (watershedlaw04_SpanEnds.l2 k3 y298 x2_1 x3_2 (wrap64 (x4_3 + 1))) else (none))) else (none))) else (none))) else (none)) else (none)) = some r := by first | (rw [hji16] at H; exact H) | (simp only [hji16] at H ⊢; exact H)
                 by_cases c17 : 0 ≤ (ji16)
                 ·rw [if_pos c17] at H
                  have c17b0 : decide (0 ≤ (ji16)) = true := decide_eq_true c17
                  clear c17
                  by_cases c18 : (ji16) < (y298.length : Int)
                  ·rw [if_pos c18] at H
                   have c18b0 : decide ((ji16) < (y298.length : Int)) = true := decide_eq_true c18
                   clear c18
                   replace H := Option.bind_eq_some_iff.mp H
                   obtain ⟨t314, A190, H⟩ := H
                   try dsimp only at H
                   have A19 := Am5 A190
                   clear A190
                   by_cases c20 : t314 = true
                   ·subst c20
                    rw [if_pos rfl] at H
                    obtain ⟨y320, hy320⟩ : ∃ y_ : List (S26), y_ = (([(⟨rdOf ByteArray.empty y298 x4_3, rdOf ByteArray.empty y298 x2_1⟩ : S26), (⟨rdOf ByteArray.empty y298 x2_1, rdOf ByteArray.empty y298 x3_2⟩ : S26), (⟨rdOf ByteArray.empty y298 x3_2, (⟨#[]⟩ : ByteArray)⟩ : S26)] : List (S26))) := ⟨_, rfl⟩
                    replace H : ((watershedlaw04_SpanParts.f k3 y320).bind fun t323 => (if t323 = true then ((watershedlaw04_SpanParts.f k3 (([(⟨(⟨#[]⟩ : ByteArray), rdOf ByteArray.empty y298 x2_1⟩ : S26), (⟨rdOf ByteArray.empty y298 x2_1, rdOf ByteArray.empty y298 x3_2⟩ : S26), (⟨rdOf ByteArray.empty y298 x3_2, (⟨#[]⟩ : ByteArray)⟩ : S26)] : List (S26)))).bind fun t331 => (if t331 = true then (watershedlaw04_SpanEnds.l2 k3 y298 x2_1 x3_2 (wrap64 (x4_3 + 1))) else (none))) else (none))) = some r := by first | (rw [hy320]; with_reducible exact H) | (have H2_ := (Option.bind_some _ _).symm.trans H; rw [hy320]; with_reducible exact H2_) | (have H2_ := (Option.bind_some _ _).symm.trans H; with_reducible exact H2_) | with_reducible exact H | (rw [hy320]; exact H) | exact H
                    have Ny320 := Am5 hy320
                    clear hy320
                    replace H := Option.bind_eq_some_iff.mp H
                    obtain ⟨t323, A210, H⟩ := H
                    try dsimp only at H
                    have A21 := Am5 A210
                    clear A210
                    by_cases c22 : t323 = true
                    ·subst c22
                     rw [if_pos rfl] at H
                     obtain ⟨y328, hy328⟩ : ∃ y_ : List (S26), y_ = (([(⟨(⟨#[]⟩ : ByteArray), rdOf ByteArray.empty y298 x2_1⟩ : S26), (⟨rdOf ByteArray.empty y298 x2_1, rdOf ByteArray.empty y298 x3_2⟩ : S26), (⟨rdOf ByteArray.empty y298 x3_2, (⟨#[]⟩ : ByteArray)⟩ : S26)] : List (S26))) := ⟨_, rfl⟩
                     replace H : ((watershedlaw04_SpanParts.f k3 y328).bind fun t331 => (if t331 = true then (watershedlaw04_SpanEnds.l2 k3 y298 x2_1 x3_2 (wrap64 (x4_3 + 1))) else (none))) = some r := by first | (rw [hy328]; with_reducible exact H) | (have H2_ := (Option.bind_some _ _).symm.trans H; rw [hy328]; with_reducible exact H2_) | (have H2_ := (Option.bind_some _ _).symm.trans H; with_reducible exact H2_) | with_reducible exact H | (rw [hy328]; exact H) | exact H
                     have Ny328 := Am5 hy328
                     clear hy328
                     replace H := Option.bind_eq_some_iff.mp H
                     obtain ⟨t331, A230, H⟩ := H
                     try dsimp only at H
                     have A23 := Am5 A230
                     clear A230
                     by_cases c24 : t331 = true
                     ·subst c24
                      rw [if_pos rfl] at H
                      have H' := Am5 H
                      clear H
                      try go_wp2
                      replace HO_1 := Am5 (Rd5 HO_1.out)
                      replace HB := Am5 (bd5 HB.out)
                      have p310 : 0 ≤ (x2_1 : Int) := of_decide_eq_true (by first | (with_reducible assumption) | assumption)
                      have q310 : x2_1 < (y298.length : Int) := of_decide_eq_true (by first | (with_reducible assumption) | assumption)
                      obtain ⟨ad310, e310, hx310_0⟩ := Kd.at_string (Kd.R_reads' HO_1.out).2.2 x2_1 p310 q310
                      cases e310
                      replace p310 := eq_true p310
                      replace q310 := eq_true q310
                      have p311 : 0 ≤ (x3_2 : Int) := of_decide_eq_true (by first | (with_reducible assumption) | assumption)
                      have q311 : x3_2 < (y298.length : Int) := of_decide_eq_true (by first | (with_reducible assumption) | assumption)
                      obtain ⟨ad311, e311, hx311_0⟩ := Kd.at_string (Kd.R_reads' HO_1.out).2.2 x3_2 p311 q311
                      obtain rfl : ad310 = ad311 := (by injection e311)
                      replace p311 := eq_true p311
                      replace q311 := eq_true q311
                      have p312 : 0 ≤ (x4_3 : Int) := of_decide_eq_true (by first | (with_reducible assumption) | assumption)
                      have q312 : x4_3 < (y298.length : Int) := of_decide_eq_true (by first | (with_reducible assumption) | assumption)
                      obtain ⟨ad312, e312, hx312_0⟩ := Kd.at_string (Kd.R_reads' HO_1.out).2.2 x4_3 p312 q312
                      obtain rfl : ad310 = ad312 := (by injection e312)
                      replace p312 := eq_true p312
                      replace q312 := eq_true q312
                      have p313 : 0 ≤ ((ji16) : Int) := of_decide_eq_true (by first | (with_reducible assumption) | assumption)
                      have q313 : (ji16) < (y298.length : Int) := of_decide_eq_true (by first | (with_reducible assumption) | assumption)
                      obtain ⟨ad313, e313, hx313_0⟩ := Kd.at_string (Kd.R_reads' HO_1.out).2.2 (ji16) p313 q313
                      obtain rfl : ad310 = ad313 := (by injection e313)
                      replace p313 := eq_true p313
                      replace q313 := eq_true q313
                      have p315 : 0 ≤ (x4_3 : Int) := of_decide_eq_true (by first | (with_reducible assumption) | assumption)
                      have q315 : x4_3 < (y298.length : Int) := of_decide_eq_true (by first | (with_reducible assumption) | assumption)
                      obtain ⟨ad315, e315, hx315_0⟩ := Kd.at_string (Kd.R_reads' HO_1.out).2.2 x4_3 p315 q315
                      obtain rfl : ad310 = ad315 := (by injection e315)
                      replace p315 := eq_true p315
                      replace q315 := eq_true q315
                      have p316 : 0 ≤ (x2_1 : Int) := of_decide_eq_true (by first | (with_reducible assumption) | assumption)
                      have q316 : x2_1 < (y298.length : Int) := of_decide_eq_true (by first | (with_reducible assumption) | assumption)
                      obtain ⟨ad316, e316, hx316_0⟩ := Kd.at_string (Kd.R_reads' HO_1.out).2.2 x2_1 p316 q316
                      obtain rfl : ad310 = ad316 := (by injection e316)
                      replace p316 := eq_true p316
                      replace q316 := eq_true q316
                      have p317 : 0 ≤ (x2_1 : Int) := of_decide_eq_true (by first | (with_reducible assumption) | assumption)
                      have q317 : x2_1 < (y298.length : Int) := of_decide_eq_true (by first | (with_reducible assumption) | assumption)
                      obtain ⟨ad317, e317, hx317_0⟩ := Kd.at_string (Kd.R_reads' HO_1.out).2.2 x2_1 p317 q317
                      obtain rfl : ad310 = ad317 := (by injection e317)
                      replace p317 := eq_true p317
                      replace q317 := eq_true q317
                      have p318 : 0 ≤ (x3_2 : Int) := of_decide_eq_true (by first | (with_reducible assumption) | assumption)
                      have q318 : x3_2 < (y298.length : Int) := of_decide_eq_true (by first | (with_reducible assumption) | assumption)
                      obtain ⟨ad318, e318, hx318_0⟩ := Kd.at_string (Kd.R_reads' HO_1.out).2.2 x3_2 p318 q318
                      obtain rfl : ad310 = ad318 := (by injection e318)
                      replace p318 := eq_true p318
                      replace q318 := eq_true q318
                      have p319 : 0 ≤ (x3_2 : Int) := of_decide_eq_true (by first | (with_reducible assumption) | assumption)
                      have q319 : x3_2 < (y298.length : Int) := of_decide_eq_true (by first | (with_reducible assumption) | assumption)
                      obtain ⟨ad319, e319, hx319_0⟩ := Kd.at_string (Kd.R_reads' HO_1.out).2.2 x3_2 p319 q319
                      obtain rfl : ad310 = ad319 := (by injection e319)
                      replace p319 := eq_true p319
                      replace q319 := eq_true q319
                      have p324 : 0 ≤ (x2_1 : Int) := of_decide_eq_true (by first | (with_reducible assumption) | assumption)
                      have q324 : x2_1 < (y298.length : Int) := of_decide_eq_true (by first | (with_reducible assumption) | assumption)
                      obtain ⟨ad324, e324, hx324_0⟩ := Kd.at_string (Kd.R_reads' HO_1.out).2.2 x2_1 p324 q324
                      obtain rfl : ad310 = ad324 := (by injection e324)
                      replace p324 := eq_true p324
                      replace q324 := eq_true q324
                      have p325 : 0 ≤ (x2_1 : Int) := of_decide_eq_true (by first | (with_reducible assumption) | assumption)
                      have q325 : x2_1 < (y298.length : Int) := of_decide_eq_true (by first | (with_reducible assumption) | assumption)
                      obtain ⟨ad325, e325, hx325_0⟩ := Kd.at_string (Kd.R_reads' HO_1.out).2.2 x2_1 p325 q325
                      obtain rfl : ad310 = ad325 := (by injection e325)
                      replace p325 := eq_true p325
                      replace q325 := eq_true q325
                      have p326 : 0 ≤ (x3_2 : Int) := of_decide_eq_true (by first | (with_reducible assumption) | assumption)
                      have q326 : x3_2 < (y298.length : Int) := of_decide_eq_true (by first | (with_reducible assumption) | assumption)
                      obtain ⟨ad326, e326, hx326_0⟩ := Kd.at_string (Kd.R_reads' HO_1.out).2.2 x3_2 p326 q326
                      obtain rfl : ad310 = ad326 := (by injection e326)
                      replace p326 := eq_true p326
                      replace q326 := eq_true q326
                      have p327 : 0 ≤ (x3_2 : Int) := of_decide_eq_true (by first | (with_reducible assumption) | assumption)
                      have q327 : x3_2 < (y298.length : Int) := of_decide_eq_true (by first | (with_reducible assumption) | assumption)
                      obtain ⟨ad327, e327, hx327_0⟩ := Kd.at_string (Kd.R_reads' HO_1.out).2.2 x3_2 p327 q327
                      obtain rfl : ad310 = ad327 := (by injection e327)
                      replace p327 := eq_true p327
                      replace q327 := eq_true q327
                      refine start_ (n:=78) (S:=fun w' => w'.cell? (ad310.add (x2_1).toNat) = some (.string (rdOf ByteArray.empty y298 x2_1)) ∧ w'.cell? (ad310.add (x3_2).toNat) = some (.string (rdOf ByteArray.empty y298 x3_2)) ∧ w'.cell? (ad310.add (x4_3).toNat) = some (.string (rdOf ByteArray.empty y298 x4_3)) ∧ w'.cell? (ad310.add ((ji16)).toNat) = some (.string (rdOf ByteArray.empty y298 (ji16))) ∧ w'.cell? (ad310.add (x4_3).toNat) = some (.string (rdOf ByteArray.empty y298 x4_3)) ∧ w'.cell? (ad310.add (x2_1).toNat) = some (.string (rdOf ByteArray.empty y298 x2_1)) ∧ w'.cell? (ad310.add (x2_1).toNat) = some (.string (rdOf ByteArray.empty y298 x2_1)) ∧ w'.cell? (ad310.add (x3_2).toNat) = some (.string (rdOf ByteArray.empty y298 x3_2)) ∧ w'.cell? (ad310.add (x3_2).toNat) = some (.string (rdOf ByteArray.empty y298 x3_2)) ∧ w'.cell? (ad310.add (x2_1).toNat) = some (.string (rdOf ByteArray.empty y298 x2_1)) ∧ w'.cell? (ad310.add (x2_1).toNat) = some (.string (rdOf ByteArray.empty y298 x2_1)) ∧ w'.cell? (ad310.add (x3_2).toNat) = some (.string (rdOf ByteArray.empty y298 x3_2)) ∧ w'.cell? (ad310.add (x3_2).toNat) = some (.string (rdOf ByteArray.empty y298 x3_2))) (ds:=[]) (bb5 78 0) (by kernel_rfl) rfl rfl ⟨hx310_0, hx311_0, hx312_0, hx313_0, hx315_0, hx316_0, hx317_0, hx318_0, hx319_0, hx324_0, hx325_0, hx326_0, hx327_0⟩ (fun hHeld => ?_); refine with_tabW watershedlaw04_SpanEnds.tab13 watershedlaw04_SpanEnds.bits13 (fun HT_ HW_ => ?_)
                      generalize wr.drew = w25 at HO_1 HB hx310_0 hx311_0 hx312_0 hx313_0 hx315_0 hx316_0 hx317_0 hx318_0 hx319_0 hx324_0 hx325_0 hx326_0 hx327_0 hHeld ⊢
                      refine pure_ (i:=0) (N:=some 26) (v:=?_) (a' := ?_) (bb5 78 1) rfl rfl (any_of HT_.out (by kernel_rfl)) (fun _ _ _ h => h) (Or.inl ⟨by rfl, ?_⟩) ?_ ?_
                      rotate_left
                      ·intro w'
                       go_simp
                       with_reducible rfl
                      rotate_left
                      ·simp only [Act.put, sa5, sz5, ss5, i64_w, i32_w]
                       rfl
                      refine pure_ (i:=1) (N:=some 27) (v:=?_) (a' := ?_) (bb5 78 3) rfl rfl (any_of HT_.out (by kernel_rfl)) (fun _ _ _ h => h) (Or.inl ⟨by rfl, ?_⟩) ?_ ?_
                      rotate_left
                      ·intro w'
                       go_simp
                       with_reducible rfl
                      rotate_left
                      ·simp only [Act.put, sa5, sz5, ss5, i64_w, i32_w]
                       rfl
                      refine pure_ (i:=2) (N:=some 28) (v:=?_) (a' := ?_) (bb5 78 7) rfl rfl (any_of HT_.out (by kernel_rfl)) (fun _ _ _ h => h) (Or.inl ⟨by rfl, ?_⟩) ?_ ?_
                      rotate_left
                      ·intro w'
                       go_simp
                       with_reducible rfl
                      rotate_left
                      ·simp only [Act.put, sa5, sz5, ss5, i64_w, i32_w]
                       rfl
                      refine pure_ (i:=4) (N:=some 30) (v:=?_) (a' := ?_) (bb5 78 23) rfl rfl (any_of HT_.out (by kernel_rfl)) (fun _ _ _ h => h) (Or.inl ⟨by rfl, ?_⟩) ?_ ?_
                      rotate_left
                      ·intro w'
                       go_simp
                       with_reducible rfl
                      rotate_left
                      ·simp only [Act.put, sa5, sz5, ss5, i64_w, i32_w]
                       rfl
                      refine pure_ (i:=5) (N:=some 31) (v:=?_) (a' := ?_) (bb5 78 55) rfl rfl (any_of HT_.out (by kernel_rfl)) (fun _ _ _ h => h) (Or.inl ⟨by rfl, ?_⟩) ?_ ?_
                      rotate_left
                      ·intro w'
                       go_simp
                       with_reducible rfl
                      rotate_left
                      ·simp only [Act.put, sa5, sz5, ss5, i64_w, i32_w]
                       rfl
                      refine pure_ (i:=6) (N:=some 32) (v:=?_) (a' := ?_) (bb5 78 119) rfl rfl (any_of HT_.out (by kernel_rfl)) (fun _ _ _ h => h) (Or.inl ⟨by rfl, ?_⟩) ?_ ?_
                      rotate_left
                      ·intro w'
                       go_simp
                       with_reducible rfl
                      rotate_left
                      ·simp only [Act.put, sa5, sz5, ss5, i64_w, i32_w]
                       rfl
                      refine pure_ (i:=9) (N:=some 35) (v:=?_) (a' := ?_) (bb5 78 631) rfl rfl (any_of HT_.out (by kernel_rfl)) (fun _ _ _ h => h) (Or.inl ⟨by rfl, ?_⟩) ?_ ?_
                      rotate_left
                      ·intro w'
                       go_simp
                       with_reducible rfl
                      rotate_left
                      ·simp only [Act.put, sa5, sz5, ss5, i64_w, i32_w]
                       rfl
                      refine pure_ (i:=10) (N:=some 36) (v:=?_) (a' := ?_) (bb5 78 1655) rfl rfl (any_of HT_.out (by kernel_rfl)) (fun _ _ _ h => h) (Or.inl ⟨by rfl, ?_⟩) ?_ ?_
                      rotate_left
                      ·intro w'
                       go_simp
                       with_reducible rfl
                      rotate_left
                      ·simp only [Act.put, sa5, sz5, ss5, i64_w, i32_w]
                       rfl
                      refine pure_ (i:=11) (N:=some 37) (v:=?_) (a' := ?_) (bb5 78 3703) rfl rfl (any_of HT_.out (by kernel_rfl)) (fun _ _ _ h => h) (Or.inl ⟨by rfl, ?_⟩) ?_ ?_
                      rotate_left
                      ·intro w'
                       go_simp
                       with_reducible rfl
                      rotate_left
                      ·simp only [Act.put, sa5, sz5, ss5, i64_w, i32_w]
                       rfl
                      refine pure_ (i:=13) (N:=some 39) (v:=?_) (a' := ?_) (bb5 78 11895) rfl rfl (any_of HT_.out (by kernel_rfl)) (fun _ _ _ h => h) (Or.inl ⟨by rfl, ?_⟩) ?_ ?_
                      rotate_left
                      ·intro w'
                       go_simp
                       with_reducible rfl
                      rotate_left
                      ·simp only [Act.put, sa5, sz5, ss5, i64_w, i32_w]
                       rfl
                      refine pure_ (i:=14) (N:=some 40) (v:=?_) (a' := ?_) (bb5 78 28279) rfl rfl (any_of HT_.out (by kernel_rfl)) (fun _ _ _ h => h) (Or.inl ⟨by rfl, ?_⟩) ?_ ?_
                      rotate_left
                      ·intro w'
                       go_simp
                       with_reducible rfl
                      rotate_left
                      ·simp only [Act.put, sa5, sz5, ss5, i64_w, i32_w]
                       rfl
                      refine pure_ (i:=15) (N:=some 41) (v:=?_) (a' := ?_) (bb5 78 61047) rfl rfl (any_of HT_.out (by kernel_rfl)) (fun _ _ _ h => h) (Or.inl ⟨by rfl, ?_⟩) ?_ ?_
                      rotate_left
                      ·intro w'
                       go_simp
                       with_reducible rfl
                      rotate_left
                      ·simp only [Act.put, sa5, sz5, ss5, i64_w, i32_w]
                       rfl
                      refine pure_ (i:=16) (N:=some 42) (v:=?_) (a' := ?_) (bb5 78 126583) rfl rfl (any_of HT_.out (by kernel_rfl)) (fun _ _ _ h => h) (Or.inl ⟨by rfl, ?_⟩) ?_ ?_
                      rotate_left
                      ·intro w'
                       go_simp
                       with_reducible rfl
                      rotate_left
                      ·simp only [Act.put, sa5, sz5, ss5, i64_w, i32_w]
                       rfl
                      refine pure_ (i:=17) (N:=some 43) (v:=?_) (a' := ?_) (bb5 78 257655) rfl rfl (any_of HT_.out (by kernel_rfl)) (fun _ _ _ h => h) (Or.inl ⟨by rfl, ?_⟩) ?_ ?_
                      rotate_left
                      ·intro w'
                       go_simp
                       with_reducible rfl
                      rotate_left
                      ·simp only [Act.put, sa5, sz5, ss5, i64_w, i32_w]
                       rfl
                      refine pure_ (i:=18) (N:=some 44) (v:=?_) (a' := ?_) (bb5 78 519799) rfl rfl (any_of HT_.out (by kernel_rfl)) (fun _ _ _ h => h) (Or.inl ⟨by rfl, ?_⟩) ?_ ?_
                      rotate_left
                      ·intro w'
                       go_simp
                       with_reducible rfl
                      rotate_left
                      ·simp only [Act.put, sa5, sz5, ss5, i64_w, i32_w]
                       rfl
                      refine pure_ (i:=19) (N:=some 45) (v:=?_) (a' := ?_) (bb5 78 1044087) rfl rfl (any_of HT_.out (by kernel_rfl)) (fun _ _ _ h => h) (Or.inl ⟨by rfl, ?_⟩) ?_ ?_
                      rotate_left
                      ·intro w'
                       go_simp
                       with_reducible rfl
                      rotate_left
                      ·simp only [Act.put, sa5, sz5, ss5, i64_w, i32_w]
                       rfl
                      refine pure_ (i:=20) (N:=some 46) (v:=?_) (a' := ?_) (bb5 78 2092663) rfl rfl (any_of HT_.out (by kernel_rfl)) (fun _ _ _ h => h) (Or.inl ⟨by rfl, ?_⟩) ?_ ?_
                      rotate_left
                      ·intro w'
                       go_simp
                       with_reducible rfl
                      rotate_left
                      ·simp only [Act.put, sa5, sz5, ss5, i64_w, i32_w]
                       rfl
                      refine pure_ (i:=23) (N:=some 49) (v:=?_) (a' := ?_) (bb5 78 10481271) rfl rfl (any_of HT_.out (by kernel_rfl)) (fun _ _ _ h => h) (Or.inl ⟨by rfl, ?_⟩) ?_ ?_
                      rotate_left
                      ·intro w'
                       go_simp
                       with_reducible rfl
                      rotate_left
                      ·simp only [Act.put, sa5, sz5, ss5, i64_w, i32_w]
                       rfl
                      refine take_ (i:=3) (N:=some 29) (v:=?_) (a' := ?_) (bb5 78 10481279) rfl rfl (take_ofW HT_.out HW_.out (by kernel_rfl)) (fun _ _ _ h => h) (Or.inl ⟨by rfl, ?_⟩) hHeld ?_ ?_
                      rotate_left
                      ·rintro w' ⟨s0, s1, s2, s3, s4, s5, s6, s7, s8, s9, s10, s11, s12⟩
                       go_simp
                       with_reducible rfl
                      rotate_left
                      ·simp only [Act.put, sa5, sz5, ss5, i64_w, i32_w]
                       rfl
                      refine take_ (i:=7) (N:=some 33) (v:=?_) (a' := ?_) (bb5 78 10481407) rfl rfl (take_ofW HT_.out HW_.out (by kernel_rfl)) (fun _ _ _ h => h) (Or.inl ⟨by rfl, ?_⟩) hHeld ?_ ?_
                      rotate_left
                      ·rintro w' ⟨s0, s1, s2, s3, s4, s5, s6, s7, s8, s9, s10, s11, s12⟩
                       go_simp
                       with_reducible rfl
                      rotate_left
                      ·simp only [Act.put, sa5, sz5, ss5, i64_w, i32_w]
                       rfl
                      refine pure_ (i:=8) (N:=some 34) (v:=?_) (a' := ?_) (bb5 78 10481663) rfl rfl (any_of HT_.out (by kernel_rfl)) (fun _ _ _ h => h) (Or.inl ⟨by rfl, ?_⟩) ?_ ?_
                      rotate_left
                      ·intro w'
                       go_simp
                       with_reducible rfl
                      rotate_left
                      ·simp only [Act.put, sa5, sz5, ss5, i64_w, i32_w]
                       rfl
                      refine take_ (i:=12) (N:=some 38) (v:=?_) (a' := ?_) (bb5 78 10485759) rfl rfl (take_ofW HT_.out HW_.out (by kernel_rfl)) (fun _ _ _ h => h) (Or.inl ⟨by rfl, ?_⟩) hHeld ?_ ?_
                      rotate_left
                      ·rintro w' ⟨s0, s1, s2, s3, s4, s5, s6, s7, s8, s9, s10, s11, s12⟩
                       go_simp
                       with_reducible rfl
                      rotate_left
                      ·simp only [Act.put, sa5, sz5, ss5, i64_w, i32_w]
                       rfl
                      refine take_ (i:=21) (N:=some 47) (v:=?_) (a' := ?_) (bb5 78 12582911) rfl rfl (take_ofW HT_.out HW_.out (by kernel_rfl)) (fun _ _ _ h => h) (Or.inl ⟨by rfl, ?_⟩) hHeld ?_ ?_
                      rotate_left
                      ·rintro w' ⟨s0, s1, s2, s3, s4, s5, s6, s7, s8, s9, s10, s11, s12⟩
                       go_simp
                       with_reducible rfl
                      rotate_left
                      ·simp only [Act.put, sa5, sz5, ss5, i64_w, i32_w]
                       rfl
                      refine pure_ (i:=22) (N:=some 48) (v:=?_) (a' := ?_) (bb5 78 16777215) rfl rfl (any_of HT_.out (by kernel_rfl)) (fun _ _ _ h => h) (Or.inl ⟨by rfl, ?_⟩) ?_ ?_
                      rotate_left
                      ·intro w'
                       go_simp
                       with_reducible rfl
                      rotate_left
                      ·simp only [Act.put, sa5, sz5, ss5, i64_w, i32_w]
                       rfl
                      refine one_ (i:=24) (N:=some 50) (bb5 78 33554431) rfl rfl (one_of HT_.out (by kernel_rfl)) (by decide) (fun K hK => ?_)
                      refine goes_ Try.func4 (by kernel_rfl) rfl #[.agg #[.string (rdOf ByteArray.empty y298 x2_1), .string (rdOf ByteArray.empty y298 x3_2)], .agg #[.string (rdOf ByteArray.empty y298 x4_3), .string (rdOf ByteArray.empty y298 (ji16))], .slice (some ad310) y298.length co7] (by rfl) rfl rfl (by (try simp only [ma5, mc5, mn5]); first | done | (simp only [hji16]; rfl) | rfl | (simp only [ld5, lt_5]; rfl)) ?_
                      with_reducible refine (watershedlaw04_SpanTells.calls k3 (rdOf ByteArray.empty y298 x2_1) (rdOf ByteArray.empty y298 x3_2) (rdOf ByteArray.empty y298 x4_3) (rdOf ByteArray.empty y298 (ji16)) _ _ y298 true _ ?side1 ?side2 A19.out).mono ?_
                      (case side1 => repeat (first | exact (Kd.R_reads' HO_1.out).2.2 | (with_reducible refine Kd.C_alloc ?_ _) | (with_reducible refine Kd.C_drewN ?_ _) | (with_reducible refine Kd.C_drew ?_)))
                      (case side2 => exact (Kd.R_reads' HO_1.out).2.1)
                      rintro e w26 ⟨rfl, hb⟩
                      have HS0_ := (hb.cell (World.block_lt_of_cell? _ _ (hHeld.1))).trans (hHeld.1)
                      have HS1_ := (hb.cell (World.block_lt_of_cell? _ _ (hHeld.2.1))).trans (hHeld.2.1)
                      have HS2_ := (hb.cell (World.block_lt_of_cell? _ _ (hHeld.2.2.1))).trans (hHeld.2.2.1)
                      have HS3_ := (hb.cell (World.block_lt_of_cell? _ _ (hHeld.2.2.2.1))).trans (hHeld.2.2.2.1)
                      have HS4_ := (hb.cell (World.block_lt_of_cell? _ _ (hHeld.2.2.2.2.1))).trans (hHeld.2.2.2.2.1)
                      have HS5_ := (hb.cell (World.block_lt_of_cell? _ _ (hHeld.2.2.2.2.2.1))).trans (hHeld.2.2.2.2.2.1)
                      have HS6_ := (hb.cell (World.block_lt_of_cell? _ _ (hHeld.2.2.2.2.2.2.1))).trans (hHeld.2.2.2.2.2.2.1)
                      have HS7_ := (hb.cell (World.block_lt_of_cell? _ _ (hHeld.2.2.2.2.2.2.2.1))).trans (hHeld.2.2.2.2.2.2.2.1)
                      have HS8_ := (hb.cell (World.block_lt_of_cell? _ _ (hHeld.2.2.2.2.2.2.2.2.1))).trans (hHeld.2.2.2.2.2.2.2.2.1)
                      have HS9_ := (hb.cell (World.block_lt_of_cell? _ _ (hHeld.2.2.2.2.2.2.2.2.2.1))).trans (hHeld.2.2.2.2.2.2.2.2.2.1)
                      have HS10_ := (hb.cell (World.block_lt_of_cell? _ _ (hHeld.2.2.2.2.2.2.2.2.2.2.1))).trans (hHeld.2.2.2.2.2.2.2.2.2.2.1)
                      have HS11_ := (hb.cell (World.block_lt_of_cell? _ _ (hHeld.2.2.2.2.2.2.2.2.2.2.2.1))).trans (hHeld.2.2.2.2.2.2.2.2.2.2.2.1)
                      have HS12_ := (hb.cell (World.block_lt_of_cell? _ _ (hHeld.2.2.2.2.2.2.2.2.2.2.2.2))).trans (hHeld.2.2.2.2.2.2.2.2.2.2.2.2)
                      refine ⟨_, rfl, ?_⟩
                      replace HO_1 := Am5 (Rb5 (by (with_reducible repeat first | apply Ra5 | apply Rn5 | apply Rd5); exact HO_1.out) hb)
                      replace HB := Am5 (bp5 (by repeat (first | (with_reducible first | exact HB.out | apply ba5 | apply bn5 | apply bd5) | exact HB.out)) hb)
                      (try clear hb)
                      (try clear hb2)
                      (try clear hk)
                      (try clear hi)
                      refine hK.out _ _ ⟨HS0_, HS1_, HS2_, HS3_, HS4_, HS5_, HS6_, HS7_, HS8_, HS9_, HS10_, HS11_, HS12_⟩ (fun hHeld => ?_)
                      clear hK K
                      refine norm_ (a' := ?_) ?_ ?_
                      rotate_left
                      ·show Act.put _ (some 50) _ = _
                       simp only [Act.put, sa5, sz5, ss5, i64_w, i32_w]
                       rfl
                      refine pure_ (i:=25) (N:=some 51) (v:=?_) (a' := ?_) (bb5 78 67108863) rfl rfl (any_of HT_.out (by kernel_rfl)) (fun _ _ _ h => h) (Or.inl ⟨by rfl, ?_⟩) ?_ ?_
                      rotate_left
                      ·intro w'
                       go_simp
                       with_reducible rfl
                      rotate_left
                      ·simp only [Act.put, sa5, sz5, ss5, i64_w, i32_w]
                       rfl
                      refine pure_ (i:=26) (N:=some 52) (v:=?_) (a' := ?_) (bb5 78 134217727) rfl rfl (any_of HT_.out (by kernel_rfl)) (fun _ _ _ h => h) (Or.inl ⟨by rfl, ?_⟩) ?_ ?_
                      rotate_left
                      ·intro w'
                       go_simp
                       with_reducible rfl
                      rotate_left
                      ·simp only [Act.put, sa5, sz5, ss5, i64_w, i32_w]
                       rfl
                      refine pure_ (i:=27) (N:=some 53) (v:=?_) (a' := ?_) (bb5 78 268435455) rfl rfl (any_of HT_.out (by kernel_rfl)) (fun _ _ _ h => h) (Or.inl ⟨by rfl, ?_⟩) ?_ ?_
                      rotate_left
                      ·intro w'
                       go_simp
                       with_reducible rfl
                      rotate_left
                      ·simp only [Act.put, sa5, sz5, ss5, i64_w, i32_w]
                       rfl
                      refine pure_ (i:=28) (N:=some 54) (v:=?_) (a' := ?_) (bb5 78 536870911) rfl rfl (any_of HT_.out (by kernel_rfl)) (fun _ _ _ h => h) (Or.inl ⟨by rfl, ?_⟩) ?_ ?_
                      rotate_left
                      ·intro w'
                       go_simp
                       with_reducible rfl
                      rotate_left
                      ·simp only [Act.put, sa5, sz5, ss5, i64_w, i32_w]
                       rfl
                      refine pure_ (i:=29) (N:=some 55) (v:=?_) (a' := ?_) (bb5 78 1073741823) rfl rfl (any_of HT_.out (by kernel_rfl)) (fun _ _ _ h => h) (Or.inl ⟨by rfl, ?_⟩) ?_ ?_
                      rotate_left
                      ·intro w'
                       go_simp
                       with_reducible rfl
                      rotate_left
                      ·simp only [Act.put, sa5, sz5, ss5, i64_w, i32_w]
                       rfl
                      refine pure_ (i:=31) (N:=some 57) (v:=?_) (a' := ?_) (bb5 78 3221225471) rfl rfl (any_of HT_.out (by kernel_rfl)) (fun _ _ _ h => h) (Or.inl ⟨by rfl, ?_⟩) ?_ ?_
                      rotate_left
                      ·intro w'
                       go_simp
                       with_reducible rfl
                      rotate_left
                      ·simp only [Act.put, sa5, sz5, ss5, i64_w, i32_w]
                       rfl
                      refine pure_ (i:=32) (N:=some 58) (v:=?_) (a' := ?_) (bb5 78 7516192767) rfl rfl (any_of HT_.out (by kernel_rfl)) (fun _ _ _ h => h) (Or.inl ⟨by rfl, ?_⟩) ?_ ?_
                      rotate_left
                      ·intro w'
                       go_simp
                       with_reducible rfl
                      rotate_left
                      ·simp only [Act.put, sa5, sz5, ss5, i64_w, i32_w]
                       rfl
                      refine pure_ (i:=33) (N:=some 59) (v:=?_) (a' := ?_) (bb5 78 16106127359) rfl rfl (any_of HT_.out (by kernel_rfl)) (fun _ _ _ h => h) (Or.inl ⟨by rfl, ?_⟩) ?_ ?_
                      rotate_left
                      ·intro w'
                       go_simp
                       with_reducible rfl
                      rotate_left
                      ·simp only [Act.put, sa5, sz5, ss5, i64_w, i32_w]
                       rfl
                      refine pure_ (i:=36) (N:=some 62) (v:=?_) (a' := ?_) (bb5 78 84825604095) rfl rfl (any_of HT_.out (by kernel_rfl)) (fun _ _ _ h => h) (Or.inl ⟨by rfl, ?_⟩) ?_ ?_
                      rotate_left
                      ·intro w'
                       go_simp
                       with_reducible rfl
                      rotate_left
                      ·simp only [Act.put, sa5, sz5, ss5, i64_w, i32_w]
                       rfl
                      refine pure_ (i:=37) (N:=some 63) (v:=?_) (a' := ?_) (bb5 78 222264557567) rfl rfl (any_of HT_.out (by kernel_rfl)) (fun _ _ _ h => h) (Or.inl ⟨by rfl, ?_⟩) ?_ ?_
                      rotate_left
                      ·intro w'
                       go_simp
                       with_reducible rfl
                      rotate_left
                      ·simp only [Act.put, sa5, sz5, ss5, i64_w, i32_w]
                       rfl
                      refine pure_ (i:=38) (N:=some 64) (v:=?_) (a' := ?_) (bb5 78 497142464511) rfl rfl (any_of HT_.out (by kernel_rfl)) (fun _ _ _ h => h) (Or.inl ⟨by rfl, ?_⟩) ?_ ?_
                      rotate_left
                      ·intro w'
                       go_simp
                       with_reducible rfl
                      rotate_left
                      ·simp only [Act.put, sa5, sz5, ss5, i64_w, i32_w]
                       rfl
                      refine pure_ (i:=40) (N:=some 66) (v:=?_) (a' := ?_) (bb5 78 1596654092287) rfl rfl (any_of HT_.out (by kernel_rfl)) (fun _ _ _ h => h) (Or.inl ⟨by rfl, ?_⟩) ?_ ?_
                      rotate_left
                      ·intro w'
                       go_simp
                       with_reducible rfl
                      rotate_left
                      ·simp only [Act.put, sa5, sz5, ss5, i64_w, i32_w]
                       rfl
                      refine pure_ (i:=41) (N:=some 67) (v:=?_) (a' := ?_) (bb5 78 3795677347839) rfl rfl (any_of HT_.out (by kernel_rfl)) (fun _ _ _ h => h) (Or.inl ⟨by rfl, ?_⟩) ?_ ?_
                      rotate_left
                      ·intro w'
                       go_simp
                       with_reducible rfl
                      rotate_left
                      ·simp only [Act.put, sa5, sz5, ss5, i64_w, i32_w]
                       rfl
                      refine pure_ (i:=42) (N:=some 68) (v:=?_) (a' := ?_) (bb5 78 8193723858943) rfl rfl (any_of HT_.out (by kernel_rfl)) (fun _ _ _ h => h) (Or.inl ⟨by rfl, ?_⟩) ?_ ?_
                      rotate_left
                      ·intro w'
                       go_simp
                       with_reducible rfl
                      rotate_left
                      ·simp only [Act.put, sa5, sz5, ss5, i64_w, i32_w]
                       rfl
                      refine pure_ (i:=45) (N:=some 71) (v:=?_) (a' := ?_) (bb5 78 43378095947775) rfl rfl (any_of HT_.out (by kernel_rfl)) (fun _ _ _ h => h) (Or.inl ⟨by rfl, ?_⟩) ?_ ?_
                      rotate_left
                      ·intro w'
                       go_simp
                       with_reducible rfl
                      rotate_left
                      ·simp only [Act.put, sa5, sz5, ss5, i64_w, i32_w]
                       rfl
                      refine pure_ (i:=46) (N:=some 72) (v:=?_) (a' := ?_) (bb5 78 113746840125439) rfl rfl (any_of HT_.out (by kernel_rfl)) (fun _ _ _ h => h) (Or.inl ⟨by rfl, ?_⟩) ?_ ?_
                      rotate_left
                      ·intro w'
                       go_simp
                       with_reducible rfl
                      rotate_left
                      ·simp only [Act.put, sa5, sz5, ss5, i64_w, i32_w]
                       rfl
                      refine pure_ (i:=47) (N:=some 73) (v:=?_) (a' := ?_) (bb5 78 254484328480767) rfl rfl (any_of HT_.out (by kernel_rfl)) (fun _ _ _ h => h) (Or.inl ⟨by rfl, ?_⟩) ?_ ?_
                      rotate_left
                      ·intro w'
                       go_simp
                       with_reducible rfl
                      rotate_left
                      ·simp only [Act.put, sa5, sz5, ss5, i64_w, i32_w]
                       rfl
                      refine take_ (i:=30) (N:=some 56) (v:=?_) (a' := ?_) (bb5 78 254485402222591) rfl rfl (take_ofW HT_.out HW_.out (by kernel_rfl)) (fun _ _ _ h => h) (Or.inl ⟨by rfl, ?_⟩) hHeld ?_ ?_
                      rotate_left
                      ·rintro w' ⟨s0, s1, s2, s3, s4, s5, s6, s7, s8, s9, s10, s11, s12⟩
                       go_simp
                       with_reducible rfl
                      rotate_left
                      ·simp only [Act.put, sa5, sz5, ss5, i64_w, i32_w]
                       rfl
                      refine take_ (i:=34) (N:=some 60) (v:=?_) (a' := ?_) (bb5 78 254502582091775) rfl rfl (take_ofW HT_.out HW_.out (by kernel_rfl)) (fun _ _ _ h => h) (Or.inl ⟨by rfl, ?_⟩) hHeld ?_ ?_
                      rotate_left
                      ·rintro w' ⟨s0, s1, s2, s3, s4, s5, s6, s7, s8, s9, s10, s11, s12⟩
                       go_simp
                       with_reducible rfl
                      rotate_left
                      ·simp only [Act.put, sa5, sz5, ss5, i64_w, i32_w]
                       rfl
                      refine pure_ (i:=35) (N:=some 61) (v:=?_) (a' := ?_) (bb5 78 254536941830143) rfl rfl (any_of HT_.out (by kernel_rfl)) (fun _ _ _ h => h) (Or.inl ⟨by rfl, ?_⟩) ?_ ?_
                      rotate_left
                      ·intro w'
                       go_simp
                       with_reducible rfl
                      rotate_left
                      ·simp only [Act.put, sa5, sz5, ss5, i64_w, i32_w]
                       rfl
                      refine take_ (i:=39) (N:=some 65) (v:=?_) (a' := ?_) (bb5 78 255086697644031) rfl rfl (take_ofW HT_.out HW_.out (by kernel_rfl)) (fun _ _ _ h => h) (Or.inl ⟨by rfl, ?_⟩) hHeld ?_ ?_
                      rotate_left
                      ·rintro w' ⟨s0, s1, s2, s3, s4, s5, s6, s7, s8, s9, s10, s11, s12⟩
                       go_simp
                       with_reducible rfl
                      rotate_left
                      ·simp only [Act.put, sa5, sz5, ss5, i64_w, i32_w]
                       rfl
                      refine take_ (i:=43) (N:=some 69) (v:=?_) (a' := ?_) (bb5 78 263882790666239) rfl rfl (take_ofW HT_.out HW_.out (by kernel_rfl)) (fun _ _ _ h => h) (Or.inl ⟨by rfl, ?_⟩) hHeld ?_ ?_
                      rotate_left
                      ·rintro w' ⟨s0, s1, s2, s3, s4, s5, s6, s7, s8, s9, s10, s11, s12⟩
                       go_simp
                       with_reducible rfl
                      rotate_left
                      ·simp only [Act.put, sa5, sz5, ss5, i64_w, i32_w]
                       rfl
                      refine pure_ (i:=44) (N:=some 70) (v:=?_) (a' := ?_) (bb5 78 281474976710655) rfl rfl (any_of HT_.out (by kernel_rfl)) (fun _ _ _ h => h) (Or.inl ⟨by rfl, ?_⟩) ?_ ?_
                      rotate_left
                      ·intro w'
                       go_simp
                       with_reducible rfl
                      rotate_left
                      ·simp only [Act.put, sa5, sz5, ss5, i64_w, i32_w]
                       rfl
                      refine take_ (i:=48) (N:=some 74) (v:=?_) (a' := ?_) (bb5 78 562949953421311) rfl rfl (take_ofW HT_.out HW_.out (by kernel_rfl)) (fun _ _ _ h => h) (Or.inl ⟨by rfl, ?_⟩) hHeld ?_ ?_
                      rotate_left
                      ·rintro w' ⟨s0, s1, s2, s3, s4, s5, s6, s7, s8, s9, s10, s11, s12⟩
                       go_simp
                       with_reducible rfl
                      rotate_left
                      ·simp only [Act.put, sa5, sz5, ss5, i64_w, i32_w]
                       rfl
                      refine pure_ (i:=49) (N:=some 75) (v:=?_) (a' := ?_) (bb5 78 1125899906842623) rfl rfl (any_of HT_.out (by kernel_rfl)) (fun _ _ _ h => h) (Or.inl ⟨by rfl, ?_⟩) ?_ ?_
                      rotate_left
                      ·intro w'
                       go_simp
                       with_reducible rfl
                      rotate_left
                      ·simp only [Act.put, sa5, sz5, ss5, i64_w, i32_w]
                       rfl
                      refine one_ (i:=50) (N:=some 76) (bb5 78 2251799813685247) rfl rfl (one_of HT_.out (by kernel_rfl)) (by decide) (fun K hK => ?_)
                      refine Kd.R_lit_step k26 _ 26 ?hg (N:=76) ?hd (xs:=([(⟨rdOf ByteArray.empty y298 x4_3, rdOf ByteArray.empty y298 x2_1⟩ : S26), (⟨rdOf ByteArray.empty y298 x2_1, rdOf ByteArray.empty y298 x3_2⟩ : S26), (⟨rdOf ByteArray.empty y298 x3_2, (⟨#[]⟩ : ByteArray)⟩ : S26)] : List (S26))) (inner:=[.string (rdOf ByteArray.empty y298 x4_3), .string (rdOf ByteArray.empty y298 x2_1), .string (rdOf ByteArray.empty y298 x2_1), .string (rdOf ByteArray.empty y298 x3_2), .string (rdOf ByteArray.empty y298 x3_2), .string (⟨#[]⟩ : ByteArray)]) (ok:=fun _ => True) (okp:=fun _ => True) ?hr ?hp (fun _ hk => hk) trivial (Below.refl _ _) (Nat.le_refl _) (by simp) ?_; (case hd => rfl); (case hg => rfl); (case hr => first | (go_simp; done) | (go_simp; rfl)); (case hp => exact (Reps.c2 (show Kd.M k26 _ _ _ (⟨rdOf ByteArray.empty y298 x4_3, rdOf ByteArray.empty y298 x2_1⟩ : S26) [.string (rdOf ByteArray.empty y298 x4_3), .string (rdOf ByteArray.empty y298 x2_1)] from (k26_mkM _ _ _ (⟨rdOf ByteArray.empty y298 x4_3, rdOf ByteArray.empty y298 x2_1⟩ : S26) )) (Reps.c2 (show Kd.M k26 _ _ _ (⟨rdOf ByteArray.empty y298 x2_1, rdOf ByteArray.empty y298 x3_2⟩ : S26) [.string (rdOf ByteArray.empty y298 x2_1), .string (rdOf ByteArray.empty y298 x3_2)] from (k26_mkM _ _ _ (⟨rdOf ByteArray.empty y298 x2_1, rdOf ByteArray.empty y298 x3_2⟩ : S26) )) (Reps.c2 (show Kd.M k26 _ _ _ (⟨rdOf ByteArray.empty y298 x3_2, (⟨#[]⟩ : ByteArray)⟩ : S26) [.string (rdOf ByteArray.empty y298 x3_2), .string (⟨#[]⟩ : ByteArray)] from (k26_mkM _ _ _ (⟨rdOf ByteArray.empty y298 x3_2, (⟨#[]⟩ : ByteArray)⟩ : S26) )) (Reps.none _ _)))))
                      intro v321 w27 ho28 hb hg_ hnew_
                      have HS0_ := (hb.cell (World.block_lt_of_cell? _ _ (hHeld.1))).trans (hHeld.1)
                      have HS1_ := (hb.cell (World.block_lt_of_cell? _ _ (hHeld.2.1))).trans (hHeld.2.1)
                      have HS2_ := (hb.cell (World.block_lt_of_cell? _ _ (hHeld.2.2.1))).trans (hHeld.2.2.1)
                      have HS3_ := (hb.cell (World.block_lt_of_cell? _ _ (hHeld.2.2.2.1))).trans (hHeld.2.2.2.1)
                      have HS4_ := (hb.cell (World.block_lt_of_cell? _ _ (hHeld.2.2.2.2.1))).trans (hHeld.2.2.2.2.1)
                      have HS5_ := (hb.cell (World.block_lt_of_cell? _ _ (hHeld.2.2.2.2.2.1))).trans (hHeld.2.2.2.2.2.1)
                      have HS6_ := (hb.cell (World.block_lt_of_cell? _ _ (hHeld.2.2.2.2.2.2.1))).trans (hHeld.2.2.2.2.2.2.1)
                      have HS7_ := (hb.cell (World.block_lt_of_cell? _ _ (hHeld.2.2.2.2.2.2.2.1))).trans (hHeld.2.2.2.2.2.2.2.1)
                      have HS8_ := (hb.cell (World.block_lt_of_cell? _ _ (hHeld.2.2.2.2.2.2.2.2.1))).trans (hHeld.2.2.2.2.2.2.2.2.1)
                      have HS9_ := (hb.cell (World.block_lt_of_cell? _ _ (hHeld.2.2.2.2.2.2.2.2.2.1))).trans (hHeld.2.2.2.2.2.2.2.2.2.1)
                      have HS10_ := (hb.cell (World.block_lt_of_cell? _ _ (hHeld.2.2.2.2.2.2.2.2.2.2.1))).trans (hHeld.2.2.2.2.2.2.2.2.2.2.1)
                      have HS11_ := (hb.cell (World.block_lt_of_cell? _ _ (hHeld.2.2.2.2.2.2.2.2.2.2.2.1))).trans (hHeld.2.2.2.2.2.2.2.2.2.2.2.1)
                      have HS12_ := (hb.cell (World.block_lt_of_cell? _ _ (hHeld.2.2.2.2.2.2.2.2.2.2.2.2))).trans (hHeld.2.2.2.2.2.2.2.2.2.2.2.2)
                      clear hg_ hnew_
                      (first | rw [← Ny320.out] at ho28 | (simp only [Int.reduceToNat] at ho28; rw [← Ny320.out] at ho28))
                      replace HO_1 := Am5 (Rb5 (by (with_reducible repeat first | apply Ra5 | apply Rn5 | apply Rd5); exact HO_1.out) hb)
                      have HO322 := Am5 (Rl5 ho28 (bz5 (by repeat (first | (with_reducible first | exact HB.out | apply ba5 | apply bn5 | apply bd5) | exact HB.out))))
                      replace HB := Am5 (bp5 (by repeat (first | (with_reducible first | exact HB.out | apply ba5 | apply bn5 | apply bd5) | exact HB.out)) hb)
                      clear hb ho28
                      obtain ⟨Ao29, co29, eo29⟩ := Kd.R_slice HO322.out
                      (first | subst eo29 | (injection eo29 with f1_ f2_ f3_; have f4_ := f1_.symm; have f5_ := f3_.symm; clear f1_ f2_ f3_; subst f4_; subst f5_))
                      refine hK.out _ _ ⟨HS0_, HS1_, HS2_, HS3_, HS4_, HS5_, HS6_, HS7_, HS8_, HS9_, HS10_, HS11_, HS12_⟩ (fun hHeld => ?_)
                      clear hK K
                      refine norm_ (a' := ?_) ?_ ?_
                      rotate_left
                      ·show Act.put _ (some 76) _ = _
                       simp only [Act.put, sa5, sz5, ss5, i64_w, i32_w]
                       rfl
                      refine one_ (i:=51) (N:=some 77) (bb5 78 4503599627370495) rfl rfl (one_of HT_.out (by kernel_rfl)) (by decide) (fun K hK => ?_)
                      refine goes_ Try.func3 (by kernel_rfl) rfl #[.slice Ao29 y320.length co29] (by rfl) rfl rfl (by (try simp only [ma5, mc5, mn5]); first | done | rfl | (simp only [ld5, lt_5]; rfl)) ?_
                      with_reducible refine (watershedlaw04_SpanParts.calls k3 _ _ y320 true _ ?side1 ?side2 A21.out).mono ?_
                      (case side1 => repeat (first | exact (Kd.R_reads' HO322.out).2.2 | (with_reducible refine Kd.C_alloc ?_ _) | (with_reducible refine Kd.C_drewN ?_ _) | (with_reducible refine Kd.C_drew ?_)))
                      (case side2 => exact (Kd.R_reads' HO322.out).2.1)
                      rintro e w30 ⟨rfl, hb⟩
                      have HS0_ := (hb.cell (World.block_lt_of_cell? _ _ (hHeld.1))).trans (hHeld.1)
                      have HS1_ := (hb.cell (World.block_lt_of_cell? _ _ (hHeld.2.1))).trans (hHeld.2.1)
                      have HS2_ := (hb.cell (World.block_lt_of_cell? _ _ (hHeld.2.2.1))).trans (hHeld.2.2.1)
                      have HS3_ := (hb.cell (World.block_lt_of_cell? _ _ (hHeld.2.2.2.1))).trans (hHeld.2.2.2.1)
                      have HS4_ := (hb.cell (World.block_lt_of_cell? _ _ (hHeld.2.2.2.2.1))).trans (hHeld.2.2.2.2.1)
                      have HS5_ := (hb.cell (World.block_lt_of_cell? _ _ (hHeld.2.2.2.2.2.1))).trans (hHeld.2.2.2.2.2.1)
                      have HS6_ := (hb.cell (World.block_lt_of_cell? _ _ (hHeld.2.2.2.2.2.2.1))).trans (hHeld.2.2.2.2.2.2.1)
                      have HS7_ := (hb.cell (World.block_lt_of_cell? _ _ (hHeld.2.2.2.2.2.2.2.1))).trans (hHeld.2.2.2.2.2.2.2.1)
                      have HS8_ := (hb.cell (World.block_lt_of_cell? _ _ (hHeld.2.2.2.2.2.2.2.2.1))).trans (hHeld.2.2.2.2.2.2.2.2.1)
                      have HS9_ := (hb.cell (World.block_lt_of_cell? _ _ (hHeld.2.2.2.2.2.2.2.2.2.1))).trans (hHeld.2.2.2.2.2.2.2.2.2.1)
                      have HS10_ := (hb.cell (World.block_lt_of_cell? _ _ (hHeld.2.2.2.2.2.2.2.2.2.2.1))).trans (hHeld.2.2.2.2.2.2.2.2.2.2.1)
                      have HS11_ := (hb.cell (World.block_lt_of_cell? _ _ (hHeld.2.2.2.2.2.2.2.2.2.2.2.1))).trans (hHeld.2.2.2.2.2.2.2.2.2.2.2.1)
                      have HS12_ := (hb.cell (World.block_lt_of_cell? _ _ (hHeld.2.2.2.2.2.2.2.2.2.2.2.2))).trans (hHeld.2.2.2.2.2.2.2.2.2.2.2.2)
                      refine ⟨_, rfl, ?_⟩
                      replace HO_1 := Am5 (Rb5 (by (with_reducible repeat first | apply Ra5 | apply Rn5 | apply Rd5); exact HO_1.out) hb)
                      replace HO322 := Am5 (Rb5 (by (with_reducible repeat first | apply Ra5 | apply Rn5 | apply Rd5); exact HO322.out) hb)
                      replace HB := Am5 (bp5 (by repeat (first | (with_reducible first | exact HB.out | apply ba5 | apply bn5 | apply bd5) | exact HB.out)) hb)
                      (try clear hb)
                      (try clear hb2)
                      (try clear hk)
                      (try clear hi)
                      refine hK.out _ _ ⟨HS0_, HS1_, HS2_, HS3_, HS4_, HS5_, HS6_, HS7_, HS8_, HS9_, HS10_, HS11_, HS12_⟩ (fun hHeld => ?_)
                      clear hK K
                      refine norm_ (a' := ?_) ?_ ?_
                      rotate_left
                      ·show Act.put _ (some 77) _ = _
                       simp only [Act.put, sa5, sz5, ss5, i64_w, i32_w]
                       rfl
                      refine pure_ (i:=52) (N:=some 78) (v:=?_) (a' := ?_) (bb5 78 9007199254740991) rfl rfl (any_of HT_.out (by kernel_rfl)) (fun _ _ _ h => h) (Or.inl ⟨by rfl, ?_⟩) ?_ ?_
                      rotate_left
                      ·intro w'
                       go_simp
                       with_reducible rfl
                      rotate_left
                      ·simp only [Act.put, sa5, sz5, ss5, i64_w, i32_w]
                       rfl
                      refine pure_ (i:=53) (N:=some 79) (v:=?_) (a' := ?_) (bb5 78 18014398509481983) rfl rfl (any_of HT_.out (by kernel_rfl)) (fun _ _ _ h => h) (Or.inl ⟨by rfl, ?_⟩) ?_ ?_
                      rotate_left
                      ·intro w'
                       go_simp
                       with_reducible rfl
                      rotate_left
                      ·simp only [Act.put, sa5, sz5, ss5, i64_w, i32_w]
                       rfl
                      refine pure_ (i:=54) (N:=some 80) (v:=?_) (a' := ?_) (bb5 78 36028797018963967) rfl rfl (any_of HT_.out (by kernel_rfl)) (fun _ _ _ h => h) (Or.inl ⟨by rfl, ?_⟩) ?_ ?_
                      rotate_left
                      ·intro w'
                       go_simp
                       with_reducible rfl
                      rotate_left
                      ·simp only [Act.put, sa5, sz5, ss5, i64_w, i32_w]
                       rfl
                      refine pure_ (i:=55) (N:=some 81) (v:=?_) (a' := ?_) (bb5 78 72057594037927935) rfl rfl (any_of HT_.out (by kernel_rfl)) (fun _ _ _ h => h) (Or.inl ⟨by rfl, ?_⟩) ?_ ?_
                      rotate_left
                      ·intro w'
                       go_simp
                       with_reducible rfl
                      rotate_left
                      ·simp only [Act.put, sa5, sz5, ss5, i64_w, i32_w]
                       rfl
                      refine pure_ (i:=56) (N:=some 82) (v:=?_) (a' := ?_) (bb5 78 144115188075855871) rfl rfl (any_of HT_.out (by kernel_rfl)) (fun _ _ _ h => h) (Or.inl ⟨by rfl, ?_⟩) ?_ ?_
                      rotate_left
                      ·intro w'
                       go_simp
                       with_reducible rfl
                      rotate_left
                      ·simp only [Act.put, sa5, sz5, ss5, i64_w, i32_w]
                       rfl
                      refine pure_ (i:=57) (N:=some 83) (v:=?_) (a' := ?_) (bb5 78 288230376151711743) rfl rfl (any_of HT_.out (by kernel_rfl)) (fun _ _ _ h => h) (Or.inl ⟨by rfl, ?_⟩) ?_ ?_
                      rotate_left
                      ·intro w'
                       go_simp
                       with_reducible rfl
                      rotate_left
                      ·simp only [Act.put, sa5, sz5, ss5, i64_w, i32_w]
                       rfl
                      refine pure_ (i:=60) (N:=some 86) (v:=?_) (a' := ?_) (bb5 78 1441151880758558719) rfl rfl (any_of HT_.out (by kernel_rfl)) (fun _ _ _ h => h) (Or.inl ⟨by rfl, ?_⟩) ?_ ?_
                      rotate_left
                      ·intro w'
                       go_simp
                       with_reducible rfl
                      rotate_left
                      ·simp only [Act.put, sa5, sz5, ss5, i64_w, i32_w]
                       rfl
                      refine pure_ (i:=61) (N:=some 87) (v:=?_) (a' := ?_) (bb5 78 3746994889972252671) rfl rfl (any_of HT_.out (by kernel_rfl)) (fun _ _ _ h => h) (Or.inl ⟨by rfl, ?_⟩) ?_ ?_
                      rotate_left
                      ·intro w'
                       go_simp
                       with_reducible rfl
                      rotate_left
                      ·simp only [Act.put, sa5, sz5, ss5, i64_w, i32_w]
                       rfl
                      refine pure_ (i:=62) (N:=some 88) (v:=?_) (a' := ?_) (bb5 78 8358680908399640575) rfl rfl (any_of HT_.out (by kernel_rfl)) (fun _ _ _ h => h) (Or.inl ⟨by rfl, ?_⟩) ?_ ?_
                      rotate_left
                      ·intro w'
                       go_simp
                       with_reducible rfl
                      rotate_left
                      ·simp only [Act.put, sa5, sz5, ss5, i64_w, i32_w]
                       rfl
                      refine pure_ (i:=64) (N:=some 90) (v:=?_) (a' := ?_) (bb5 78 26805424982109192191) rfl rfl (any_of HT_.out (by kernel_rfl)) (fun _ _ _ h => h) (Or.inl ⟨by rfl, ?_⟩) ?_ ?_
                      rotate_left
                      ·intro w'
                       go_simp
                       with_reducible rfl
                      rotate_left
                      ·simp only [Act.put, sa5, sz5, ss5, i64_w, i32_w]
                       rfl
                      refine pure_ (i:=65) (N:=some 91) (v:=?_) (a' := ?_) (bb5 78 63698913129528295423) rfl rfl (any_of HT_.out (by kernel_rfl)) (fun _ _ _ h => h) (Or.inl ⟨by rfl, ?_⟩) ?_ ?_
                      rotate_left
                      ·intro w'
                       go_simp
                       with_reducible rfl
                      rotate_left
                      ·simp only [Act.put, sa5, sz5, ss5, i64_w, i32_w]
                       rfl
                      refine pure_ (i:=66) (N:=some 92) (v:=?_) (a' := ?_) (bb5 78 137485889424366501887) rfl rfl (any_of HT_.out (by kernel_rfl)) (fun _ _ _ h => h) (Or.inl ⟨by rfl, ?_⟩) ?_ ?_
                      rotate_left
                      ·intro w'
                       go_simp
                       with_reducible rfl
                      rotate_left
                      ·simp only [Act.put, sa5, sz5, ss5, i64_w, i32_w]
                       rfl
                      refine pure_ (i:=69) (N:=some 95) (v:=?_) (a' := ?_) (bb5 78 727781699783072153599) rfl rfl (any_of HT_.out (by kernel_rfl)) (fun _ _ _ h => h) (Or.inl ⟨by rfl, ?_⟩) ?_ ?_
                      rotate_left
                      ·intro w'
                       go_simp
                       with_reducible rfl
                      rotate_left
                      ·simp only [Act.put, sa5, sz5, ss5, i64_w, i32_w]
                       rfl
                      refine pure_ (i:=70) (N:=some 96) (v:=?_) (a' := ?_) (bb5 78 1908373320500483457023) rfl rfl (any_of HT_.out (by kernel_rfl)) (fun _ _ _ h => h) (Or.inl ⟨by rfl, ?_⟩) ?_ ?_
                      rotate_left
                      ·intro w'
                       go_simp
                       with_reducible rfl
                      rotate_left
                      ·simp only [Act.put, sa5, sz5, ss5, i64_w, i32_w]
                       rfl
                      refine pure_ (i:=71) (N:=some 97) (v:=?_) (a' := ?_) (bb5 78 4269556561935306063871) rfl rfl (any_of HT_.out (by kernel_rfl)) (fun _ _ _ h => h) (Or.inl ⟨by rfl, ?_⟩) ?_ ?_
                      rotate_left
                      ·intro w'
                       go_simp
                       with_reducible rfl
                      rotate_left
                      ·simp only [Act.put, sa5, sz5, ss5, i64_w, i32_w]
                       rfl
                      refine take_ (i:=58) (N:=some 84) (v:=?_) (a' := ?_) (bb5 78 4269844792311457775615) rfl rfl (take_ofW HT_.out HW_.out (by kernel_rfl)) (fun _ _ _ h => h) (Or.inl ⟨by rfl, ?_⟩) hHeld ?_ ?_
                      rotate_left
                      ·rintro w' ⟨s0, s1, s2, s3, s4, s5, s6, s7, s8, s9, s10, s11, s12⟩
                       go_simp
                       with_reducible rfl
                      rotate_left
                      ·simp only [Act.put, sa5, sz5, ss5, i64_w, i32_w]
                       rfl
                      refine pure_ (i:=59) (N:=some 85) (v:=?_) (a' := ?_) (bb5 78 4270421253063761199103) rfl rfl (any_of HT_.out (by kernel_rfl)) (fun _ _ _ h => h) (Or.inl ⟨by rfl, ?_⟩) ?_ ?_
                      rotate_left
                      ·intro w'
                       go_simp
                       with_reducible rfl
                      rotate_left
                      ·simp only [Act.put, sa5, sz5, ss5, i64_w, i32_w]
                       rfl
                      refine take_ (i:=63) (N:=some 89) (v:=?_) (a' := ?_) (bb5 78 4279644625100615974911) rfl rfl (take_ofW HT_.out HW_.out (by kernel_rfl)) (fun _ _ _ h => h) (Or.inl ⟨by rfl, ?_⟩) hHeld ?_ ?_
                      rotate_left
                      ·rintro w' ⟨s0, s1, s2, s3, s4, s5, s6, s7, s8, s9, s10, s11, s12⟩
                       go_simp
                       with_reducible rfl
                      rotate_left
                      ·simp only [Act.put, sa5, sz5, ss5, i64_w, i32_w]
                       rfl
                      refine take_ (i:=67) (N:=some 93) (v:=?_) (a' := ?_) (bb5 78 4427218577690292387839) rfl rfl (take_ofW HT_.out HW_.out (by kernel_rfl)) (fun _ _ _ h => h) (Or.inl ⟨by rfl, ?_⟩) hHeld ?_ ?_
                      rotate_left
                      ·rintro w' ⟨s0, s1, s2, s3, s4, s5, s6, s7, s8, s9, s10, s11, s12⟩
                       go_simp
                       with_reducible rfl
                      rotate_left
                      ·simp only [Act.put, sa5, sz5, ss5, i64_w, i32_w]
                       rfl
                      refine pure_ (i:=68) (N:=some 94) (v:=?_) (a' := ?_) (bb5 78 4722366482869645213695) rfl rfl (any_of HT_.out (by kernel_rfl)) (fun _ _ _ h => h) (Or.inl ⟨by rfl, ?_⟩) ?_ ?_
                      rotate_left
                      ·intro w'
                       go_simp
                       with_reducible rfl
                      rotate_left
                      ·simp only [Act.put, sa5, sz5, ss5, i64_w, i32_w]
                       rfl
                      refine take_ (i:=72) (N:=some 98) (v:=?_) (a' := ?_) (bb5 78 9444732965739290427391) rfl rfl (take_ofW HT_.out HW_.out (by kernel_rfl)) (fun _ _ _ h => h) (Or.inl ⟨by rfl, ?_⟩) hHeld ?_ ?_
                      rotate_left
                      ·rintro w' ⟨s0, s1, s2, s3, s4, s5, s6, s7, s8, s9, s10, s11, s12⟩
                       go_simp
                       with_reducible rfl
                      rotate_left
                      ·simp only [Act.put, sa5, sz5, ss5, i64_w, i32_w]
                       rfl
                      refine pure_ (i:=73) (N:=some 99) (v:=?_) (a' := ?_) (bb5 78 18889465931478580854783) rfl rfl (any_of HT_.out (by kernel_rfl)) (fun _ _ _ h => h) (Or.inl ⟨by rfl, ?_⟩) ?_ ?_
                      rotate_left
                      ·intro w'
                       go_simp
                       with_reducible rfl
                      rotate_left
                      ·simp only [Act.put, sa5, sz5, ss5, i64_w, i32_w]
                       rfl
                      refine one_ (i:=74) (N:=some 100) (bb5 78 37778931862957161709567) rfl rfl (one_of HT_.out (by kernel_rfl)) (by decide) (fun K hK => ?_)
                      refine Kd.R_lit_step k26 _ 26 ?hg (N:=100) ?hd (xs:=([(⟨(⟨#[]⟩ : ByteArray), rdOf ByteArray.empty y298 x2_1⟩ : S26), (⟨rdOf ByteArray.empty y298 x2_1, rdOf ByteArray.empty y298 x3_2⟩ : S26), (⟨rdOf ByteArray.empty y298 x3_2, (⟨#[]⟩ : ByteArray)⟩ : S26)] : List (S26))) (inner:=[.string (⟨#[]⟩ : ByteArray), .string (rdOf ByteArray.empty y298 x2_1), .string (rdOf ByteArray.empty y298 x2_1), .string (rdOf ByteArray.empty y298 x3_2), .string (rdOf ByteArray.empty y298 x3_2), .string (⟨#[]⟩ : ByteArray)]) (ok:=fun _ => True) (okp:=fun _ => True) ?hr ?hp (fun _ hk => hk) trivial (Below.refl _ _) (Nat.le_refl _) (by simp) ?_; (case hd => rfl); (case hg => rfl); (case hr => first | (go_simp; done) | (go_simp; rfl)); (case hp => exact (Reps.c2 (show Kd.M k26 _ _ _ (⟨(⟨#[]⟩ : ByteArray), rdOf ByteArray.empty y298 x2_1⟩ : S26) [.string (⟨#[]⟩ : ByteArray), .string (rdOf ByteArray.empty y298 x2_1)] from (k26_mkM _ _ _ (⟨(⟨#[]⟩ : ByteArray), rdOf ByteArray.empty y298 x2_1⟩ : S26) )) (Reps.c2 (show Kd.M k26 _ _ _ (⟨rdOf ByteArray.empty y298 x2_1, rdOf ByteArray.empty y298 x3_2⟩ : S26) [.string (rdOf ByteArray.empty y298 x2_1), .string (rdOf ByteArray.empty y298 x3_2)] from (k26_mkM _ _ _ (⟨rdOf ByteArray.empty y298 x2_1, rdOf ByteArray.empty y298 x3_2⟩ : S26) )) (Reps.c2 (show Kd.M k26 _ _ _ (⟨rdOf ByteArray.empty y298 x3_2, (⟨#[]⟩ : ByteArray)⟩ : S26) [.string (rdOf ByteArray.empty y298 x3_2), .string (⟨#[]⟩ : ByteArray)] from (k26_mkM _ _ _ (⟨rdOf ByteArray.empty y298 x3_2, (⟨#[]⟩ : ByteArray)⟩ : S26) )) (Reps.none _ _)))))
                      intro v329 w31 ho32 hb hg_ hnew_
                      have HS0_ := (hb.cell (World.block_lt_of_cell? _ _ (hHeld.1))).trans (hHeld.1)
                      have HS1_ := (hb.cell (World.block_lt_of_cell? _ _ (hHeld.2.1))).trans (hHeld.2.1)
                      have HS2_ := (hb.cell (World.block_lt_of_cell? _ _ (hHeld.2.2.1))).trans (hHeld.2.2.1)
                      have HS3_ := (hb.cell (World.block_lt_of_cell? _ _ (hHeld.2.2.2.1))).trans (hHeld.2.2.2.1)
                      have HS4_ := (hb.cell (World.block_lt_of_cell? _ _ (hHeld.2.2.2.2.1))).trans (hHeld.2.2.2.2.1)
                      have HS5_ := (hb.cell (World.block_lt_of_cell? _ _ (hHeld.2.2.2.2.2.1))).trans (hHeld.2.2.2.2.2.1)
                      have HS6_ := (hb.cell (World.block_lt_of_cell? _ _ (hHeld.2.2.2.2.2.2.1))).trans (hHeld.2.2.2.2.2.2.1)
                      have HS7_ := (hb.cell (World.block_lt_of_cell? _ _ (hHeld.2.2.2.2.2.2.2.1))).trans (hHeld.2.2.2.2.2.2.2.1)
                      have HS8_ := (hb.cell (World.block_lt_of_cell? _ _ (hHeld.2.2.2.2.2.2.2.2.1))).trans (hHeld.2.2.2.2.2.2.2.2.1)
                      have HS9_ := (hb.cell (World.block_lt_of_cell? _ _ (hHeld.2.2.2.2.2.2.2.2.2.1))).trans (hHeld.2.2.2.2.2.2.2.2.2.1)
                      have HS10_ := (hb.cell (World.block_lt_of_cell? _ _ (hHeld.2.2.2.2.2.2.2.2.2.2.1))).trans (hHeld.2.2.2.2.2.2.2.2.2.2.1)
                      have HS11_ := (hb.cell (World.block_lt_of_cell? _ _ (hHeld.2.2.2.2.2.2.2.2.2.2.2.1))).trans (hHeld.2.2.2.2.2.2.2.2.2.2.2.1)
                      have HS12_ := (hb.cell (World.block_lt_of_cell? _ _ (hHeld.2.2.2.2.2.2.2.2.2.2.2.2))).trans (hHeld.2.2.2.2.2.2.2.2.2.2.2.2)
                      clear hg_ hnew_
                      (first | rw [← Ny328.out] at ho32 | (simp only [Int.reduceToNat] at ho32; rw [← Ny328.out] at ho32))
                      replace HO_1 := Am5 (Rb5 (by (with_reducible repeat first | apply Ra5 | apply Rn5 | apply Rd5); exact HO_1.out) hb)
                      have HO330 := Am5 (Rl5 (Rw5 ho32 (Rt5 (by (with_reducible repeat first | apply Ra5 | apply Rn5 | apply Rd5); exact HO322.out))) (bz5 (by repeat (first | (with_reducible first | exact HB.out | apply ba5 | apply bn5 | apply bd5) | exact HB.out))))
                      replace HO322 := Am5 (Re5 (by (with_reducible repeat first | apply Ra5 | apply Rn5 | apply Rd5); exact HO322.out) (Ra_5 ho32) hb)
                      replace HB := Am5 (bp5 (by repeat (first | (with_reducible first | exact HB.out | apply ba5 | apply bn5 | apply bd5) | exact HB.out)) hb)
                      clear hb ho32
                      obtain ⟨Ao33, co33, eo33⟩ := Kd.R_slice HO330.out
                      (first | subst eo33 | (injection eo33 with f1_ f2_ f3_; have f4_ := f1_.symm; have f5_ := f3_.symm; clear f1_ f2_ f3_; subst f4_; subst f5_))
                      refine hK.out _ _ ⟨HS0_, HS1_, HS2_, HS3_, HS4_, HS5_, HS6_, HS7_, HS8_, HS9_, HS10_, HS11_, HS12_⟩ (fun hHeld => ?_)
                      clear hK K
                      refine norm_ (a' := ?_) ?_ ?_
                      rotate_left
                      ·show Act.put _ (some 100) _ = _
                       simp only [Act.put, sa5, sz5, ss5, i64_w, i32_w]
                       rfl
                      refine one_ (i:=75) (N:=some 101) (bb5 78 75557863725914323419135) rfl rfl (one_of HT_.out (by kernel_rfl)) (by decide) (fun K hK => ?_)
                      refine goes_ Try.func3 (by kernel_rfl) rfl #[.slice Ao33 y328.length co33] (by rfl) rfl rfl (by (try simp only [ma5, mc5, mn5]); first | done | rfl | (simp only [ld5, lt_5]; rfl)) ?_
                      with_reducible refine (watershedlaw04_SpanParts.calls k3 _ _ y328 true _ ?side1 ?side2 A23.out).mono ?_
                      (case side1 => repeat (first | exact (Kd.R_reads' HO330.out).2.2 | (with_reducible refine Kd.C_alloc ?_ _) | (with_reducible refine Kd.C_drewN ?_ _) | (with_reducible refine Kd.C_drew ?_)))
                      (case side2 => exact (Kd.R_reads' HO330.out).2.1)
                      rintro e w34 ⟨rfl, hb⟩
                      have HS0_ := (hb.cell (World.block_lt_of_cell? _ _ (hHeld.1))).trans (hHeld.1)
                      have HS1_ := (hb.cell (World.block_lt_of_cell? _ _ (hHeld.2.1))).trans (hHeld.2.1)
                      have HS2_ := (hb.cell (World.block_lt_of_cell? _ _ (hHeld.2.2.1))).trans (hHeld.2.2.1)
                      have HS3_ := (hb.cell (World.block_lt_of_cell? _ _ (hHeld.2.2.2.1))).trans (hHeld.2.2.2.1)
                      have HS4_ := (hb.cell (World.block_lt_of_cell? _ _ (hHeld.2.2.2.2.1))).trans (hHeld.2.2.2.2.1)
                      have HS5_ := (hb.cell (World.block_lt_of_cell? _ _ (hHeld.2.2.2.2.2.1))).trans (hHeld.2.2.2.2.2.1)
                      have HS6_ := (hb.cell (World.block_lt_of_cell? _ _ (hHeld.2.2.2.2.2.2.1))).trans (hHeld.2.2.2.2.2.2.1)
                      have HS7_ := (hb.cell (World.block_lt_of_cell? _ _ (hHeld.2.2.2.2.2.2.2.1))).trans (hHeld.2.2.2.2.2.2.2.1)
                      have HS8_ := (hb.cell (World.block_lt_of_cell? _ _ (hHeld.2.2.2.2.2.2.2.2.1))).trans (hHeld.2.2.2.2.2.2.2.2.1)
                      have HS9_ := (hb.cell (World.block_lt_of_cell? _ _ (hHeld.2.2.2.2.2.2.2.2.2.1))).trans (hHeld.2.2.2.2.2.2.2.2.2.1)
                      have HS10_ := (hb.cell (World.block_lt_of_cell? _ _ (hHeld.2.2.2.2.2.2.2.2.2.2.1))).trans (hHeld.2.2.2.2.2.2.2.2.2.2.1)
                      have HS11_ := (hb.cell (World.block_lt_of_cell? _ _ (hHeld.2.2.2.2.2.2.2.2.2.2.2.1))).trans (hHeld.2.2.2.2.2.2.2.2.2.2.2.1)
                      have HS12_ := (hb.cell (World.block_lt_of_cell? _ _ (hHeld.2.2.2.2.2.2.2.2.2.2.2.2))).trans (hHeld.2.2.2.2.2.2.2.2.2.2.2.2)
                      refine ⟨_, rfl, ?_⟩
                      replace HO_1 := Am5 (Rb5 (by (with_reducible repeat first | apply Ra5 | apply Rn5 | apply Rd5); exact HO_1.out) hb)
                      replace HO322 := Am5 (Rb5 (by (with_reducible repeat first | apply Ra5 | apply Rn5 | apply Rd5); exact HO322.out) hb)
                      replace HO330 := Am5 (Rb5 (by (with_reducible repeat first | apply Ra5 | apply Rn5 | apply Rd5); exact HO330.out) hb)
                      replace HB := Am5 (bp5 (by repeat (first | (with_reducible first | exact HB.out | apply ba5 | apply bn5 | apply bd5) | exact HB.out)) hb)
                      (try clear hb)
                      (try clear hb2)
                      (try clear hk)
                      (try clear hi)
                      refine hK.out _ _ ⟨HS0_, HS1_, HS2_, HS3_, HS4_, HS5_, HS6_, HS7_, HS8_, HS9_, HS10_, HS11_, HS12_⟩ (fun hHeld => ?_)
                      clear hK K
                      refine norm_ (a' := ?_) ?_ ?_
                      rotate_left
                      ·show Act.put _ (some 101) _ = _
                       simp only [Act.put, sa5, sz5, ss5, i64_w, i32_w]
                       rfl
                      refine pure_ (i:=76) (N:=some 102) (v:=?_) (a' := ?_) (bb5 78 151115727451828646838271) rfl rfl (any_of HT_.out (by kernel_rfl)) (fun _ _ _ h => h) (Or.inl ⟨by rfl, ?_⟩) ?_ ?_
                      rotate_left
                      ·intro w'
                       go_simp
                       with_reducible rfl
                      rotate_left
                      ·simp only [Act.put, sa5, sz5, ss5, i64_w, i32_w]
                       rfl
                      refine pure_ (i:=77) (N:=some 103) (v:=?_) (a' := ?_) (bb5 78 302231454903657293676543) rfl rfl (any_of HT_.out (by kernel_rfl)) (fun _ _ _ h => h) (Or.inl ⟨by rfl, ?_⟩) ?_ ?_
                      rotate_left
                      ·intro w'
                       go_simp
                       with_reducible rfl
                      rotate_left
                      ·simp only [Act.put, sa5, sz5, ss5, i64_w, i32_w]
                       rfl
                      refine done_ (done_of HT_.out (by kernel_rfl)) ?_
                      try go_wp2
                      go_roundg k3
                      case measure => have := HK1.out; have := HK2.out; have := HK3.out; omega
                      case rel => exact ⟨(wrap64 (x4_3 + 1)), (by first | rfl | (simp; done) | (simp [*]; done)), H', ⟨by have := HK1.out; have := HK2.out; have := HK3.out; omega⟩, ⟨by (with_reducible repeat first | apply Ra5 | apply Rn5 | apply Rd5); exact HO_1.out⟩, ⟨by repeat (first | (with_reducible first | exact HB.out | apply ba5 | apply bn5 | apply bd5) | exact HB.out)⟩⟩
                     ·replace c24 := Bool.eq_false_iff.mpr c24
                      subst c24
                      rw [if_neg (show ¬ (false = true) by decide)] at H
                      exact absurd H (by simp)
                    ·replace c22 := Bool.eq_false_iff.mpr c22
                     subst c22
                     rw [if_neg (show ¬ (false = true) by decide)] at H
                     exact absurd H (by simp)
                   ·replace c20 := Bool.eq_false_iff.mpr c20
                    subst c20
                    rw [if_neg (show ¬ (false = true) by decide)] at H
                    exact absurd H (by simp)
                  ·rw [if_neg c18] at H
                   exact absurd H (by simp)
                 ·rw [if_neg c17] at H
                  exact absurd H (by simp)
               ·rw [if_neg c14] at H
                exact absurd H (by simp)
              ·rw [if_neg c13] at H
               exact absurd H (by simp)
             ·rw [if_neg c12] at H
              exact absurd H (by simp)
            ·rw [if_neg c11] at H
             exact absurd H (by simp)
           ·rw [if_neg c10] at H
            exact absurd H (by simp)
          ·rw [if_neg c9] at H
           have c9b0 : decide (x4_3 < (y298.length : Int)) = false := decide_eq_false c9
           clear c9
           have H' := Am5 H
           clear H
           go_wp2
           go_roundg k3
           case measure => have := HK1.out; have := HK2.out; have := HK3.out; omega
           case rel => exact ⟨(wrap64 (x3_2 + 1)), (by first | rfl | (simp; done) | (simp [*]; done)), H', ⟨by have := HK1.out; have := HK2.out; have := HK3.out; omega⟩, ⟨by (with_reducible repeat first | apply Ra5 | apply Rn5 | apply Rd5); exact HO_1.out⟩, ⟨by repeat (first | (with_reducible first | exact HB.out | apply ba5 | apply bn5 | apply bd5) | exact HB.out)⟩⟩
       ·rw [if_neg c8] at H
        have c8b0 : decide (x3_2 < (y298.length : Int)) = false := decide_eq_false c8
        clear c8
        have H' := Am5 H
        clear H
        go_wp2
        go_roundg k2
        case measure => have := HK1.out; have := HK2.out; omega
        case rel => exact ⟨(wrap64 (x2_1 + 1)), (by first | rfl | (simp; done) | (simp [*]; done)), H', ⟨by have := HK1.out; have := HK2.out; omega⟩, ⟨by (with_reducible repeat first | apply Ra5 | apply Rn5 | apply Rd5); exact HO_1.out⟩, ⟨by repeat (first | (with_reducible first | exact HB.out | apply ba5 | apply bn5 | apply bd5) | exact HB.out)⟩⟩
    ·rw [if_neg c6] at H
     have c6b0 : decide (x2_1 < (y298.length : Int)) = false := decide_eq_false c6
     clear c6
     replace H := Option.bind_eq_some_iff.mp H
     obtain ⟨t301, A350, H⟩ := H
     try dsimp only at H
     have A35 := Am5 A350
     clear A350
     by_cases c36 : t301 = true
     ·subst c36
      rw [if_pos rfl] at H
      obtain ⟨y302, hy302⟩ : ∃ y_ : List (S26), y_ = (([(⟨(⟨#[]⟩ : ByteArray), (⟨#[]⟩ : ByteArray)⟩ : S26)] : List (S26))) := ⟨_, rfl⟩
      replace H : ((watershedlaw04_SpanParts.f k1 y302).bind fun t305 => (if t305 = true then ((watershedlaw04_SpanParts.f k1 (([(⟨(⟨#[]⟩ : ByteArray), (⟨#[]⟩ : ByteArray)⟩ : S26), (⟨(⟨#[]⟩ : ByteArray), (⟨#[]⟩ : ByteArray)⟩ : S26)] : List (S26)))).bind fun t309 => (some t309)) else (none))) = some r := by first | (rw [hy302]; with_reducible exact H) | (have H2_ := (Option.bind_some _ _).symm.trans H; rw [hy302]; with_reducible exact H2_) | (have H2_ := (Option.bind_some _ _).symm.trans H; with_reducible exact H2_) | with_reducible exact H | (rw [hy302]; exact H) | exact H
      have Ny302 := Am5 hy302
      clear hy302
      replace H := Option.bind_eq_some_iff.mp H
      obtain ⟨t305, A370, H⟩ := H
      try dsimp only at H
      have A37 := Am5 A370
      clear A370
      by_cases c38 : t305 = true
      ·subst c38
       rw [if_pos rfl] at H
       obtain ⟨y306, hy306⟩ : ∃ y_ : List (S26), y_ = (([(⟨(⟨#[]⟩ : ByteArray), (⟨#[]⟩ : ByteArray)⟩ : S26), (⟨(⟨#[]⟩ : ByteArray), (⟨#[]⟩ : ByteArray)⟩ : S26)] : List (S26))) := ⟨_, rfl⟩
       replace H : ((watershedlaw04_SpanParts.f k1 y306).bind fun t309 => (some t309)) = some r := by first | (rw [hy306]; with_reducible exact H) | (have H2_ := (Option.bind_some _ _).symm.trans H; rw [hy306]; with_reducible exact H2_) | (have H2_ := (Option.bind_some _ _).symm.trans H; with_reducible exact H2_) | with_reducible exact H | (rw [hy306]; exact H) | exact H
       have Ny306 := Am5 hy306
       clear hy306
       replace H := Option.bind_eq_some_iff.mp H
       obtain ⟨t309, A390, H⟩ := H
       try dsimp only at H
       have A39 := Am5 A390
       clear A390
       obtain rfl := Option.some.inj H
       obtain ⟨Ao40, co40, eo40⟩ := Kd.R_slice HO_1.out
       subst eo40
       go_wp2_with (first | ((with_reducible refine gate_callee (f:=3) rfl ?_); refine goesL_ (some 104) rfl rfl Try.func3 (by kernel_rfl) rfl #[.slice none 0 0] rfl (by (try simp only [ma5, mc5, mn5]); first | done | rfl | (simp only [ld5, lt_5]; rfl)) ?_; (refine (watershedlaw04_SpanParts.calls k1 _ _ ([] : List (S26)) true _ ?side1 ?side2 A35.out).mono ?_); (case side1 => exact Kd.C_nil _ _); (case side2 => exact Nat.le_refl _); rintro e w41 ⟨rfl, hb⟩; refine ⟨_, rfl, ?_⟩; replace HO_1 := Am5 (Rb5 (by (with_reducible repeat first | apply Ra5 | apply Rn5 | apply Rd5); exact HO_1.out) hb); replace HB := Am5 (bp5 (by repeat (first | (with_reducible first | exact HB.out | apply ba5 | apply bn5 | apply bd5) | exact HB.out)) hb); (try clear hb); (try clear hb2); (try clear hk); (try clear hi)) | ((with_reducible refine gate_dst (N:=107) rfl ?_); (try (refine gate_guard (by rfl) ?_; dsimp only)); refine Kd.R_lit k26 _ 26 ?hg (N:=107) ?hd (xs:=([(⟨(⟨#[]⟩ : ByteArray), (⟨#[]⟩ : ByteArray)⟩ : S26)] : List (S26))) (inner:=[.string (⟨#[]⟩ : ByteArray), .string (⟨#[]⟩ : ByteArray)]) (ok:=fun _ => True) (okp:=fun _ => True) ?hr ?hp (fun _ hk => hk) trivial (Below.refl _ _) (Nat.le_refl _) (by simp) ?_; (case hd => rfl); (case hg => rfl); (case hr => first | (go_simp; done) | (go_simp; rfl)); (case hp => exact (Reps.c2 (show Kd.M k26 _ _ _ (⟨(⟨#[]⟩ : ByteArray), (⟨#[]⟩ : ByteArray)⟩ : S26) [.string (⟨#[]⟩ : ByteArray), .string (⟨#[]⟩ : ByteArray)] from (k26_mkM _ _ _ (⟨(⟨#[]⟩ : ByteArray), (⟨#[]⟩ : ByteArray)⟩ : S26) )) (Reps.none _ _))); intro v303 w42 ho43 hb hg_ hnew_; clear hg_ hnew_; (first | rw [← Ny302.out] at ho43 | (simp only [Int.reduceToNat] at ho43; rw [← Ny302.out] at ho43)); replace HO_1 := Am5 (Rb5 (by (with_reducible repeat first | apply Ra5 | apply Rn5 | apply Rd5); exact HO_1.out) hb); have HO304 := Am5 (Rl5 ho43 (bz5 (by repeat (first | (with_reducible first | exact HB.out | apply ba5 | apply bn5 | apply bd5) | exact HB.out)))); replace HB := Am5 (bp5 (by repeat (first | (with_reducible first | exact HB.out | apply ba5 | apply bn5 | apply bd5) | exact HB.out)) hb); clear hb ho43; obtain ⟨Ao44, co44, eo44⟩ := Kd.R_slice HO304.out; subst eo44) | (go_at_call 3; (with_reducible refine (watershedlaw04_SpanParts.calls k1 _ _ y302 true _ ?side1 ?side2 A37.out).mono ?_); (case side1 => repeat (first | exact (Kd.R_reads' HO304.out).2.2 | (with_reducible refine Kd.C_alloc ?_ _) | (with_reducible refine Kd.C_drewN ?_ _) | (with_reducible refine Kd.C_drew ?_))); (case side2 => exact (Kd.R_reads' HO304.out).2.1); rintro e w45 ⟨rfl, hb⟩; replace HO_1 := Am5 (Rb5 (by (with_reducible repeat first | apply Ra5 | apply Rn5 | apply Rd5); exact HO_1.out) hb); replace HO304 := Am5 (Rb5 (by (with_reducible repeat first | apply Ra5 | apply Rn5 | apply Rd5); exact HO304.out) hb); replace HB := Am5 (bp5 (by repeat (first | (with_reducible first | exact HB.out | apply ba5 | apply bn5 | apply bd5) | exact HB.out)) hb); (try clear hb); (try clear hb2); (try clear hk); (try clear hi)) | ((with_reducible refine gate_dst (N:=113) rfl ?_); (try (refine gate_guard (by rfl) ?_; dsimp only)); refine Kd.R_lit k26 _ 26 ?hg (N:=113) ?hd (xs:=([(⟨(⟨#[]⟩ : ByteArray), (⟨#[]⟩ : ByteArray)⟩ : S26), (⟨(⟨#[]⟩ : ByteArray), (⟨#[]⟩ : ByteArray)⟩ : S26)] : List (S26))) (inner:=[.string (⟨#[]⟩ : ByteArray), .string (⟨#[]⟩ : ByteArray), .string (⟨#[]⟩ : ByteArray), .string (⟨#[]⟩ : ByteArray)]) (ok:=fun _ => True) (okp:=fun _ => True) ?hr ?hp (fun _ hk => hk) trivial (Below.refl _ _) (Nat.le_refl _) (by simp) ?_; (case hd => rfl); (case hg => rfl); (case hr => first | (go_simp; done) | (go_simp; rfl)); (case hp => exact (Reps.c2 (show Kd.M k26 _ _ _ (⟨(⟨#[]⟩ : ByteArray), (⟨#[]⟩ : ByteArray)⟩ : S26) [.string (⟨#[]⟩ : ByteArray), .string (⟨#[]⟩ : ByteArray)] from (k26_mkM _ _ _ (⟨(⟨#[]⟩ : ByteArray), (⟨#[]⟩ : ByteArray)⟩ : S26) )) (Reps.c2 (show Kd.M k26 _ _ _ (⟨(⟨#[]⟩ : ByteArray), (⟨#[]⟩ : ByteArray)⟩ : S26) [.string (⟨#[]⟩ : ByteArray), .string (⟨#[]⟩ : ByteArray)] from (k26_mkM _ _ _ (⟨(⟨#[]⟩ : ByteArray), (⟨#[]⟩ : ByteArray)⟩ : S26) )) (Reps.none _ _)))); intro v307 w46 ho47 hb hg_ hnew_; clear hg_ hnew_; (first | rw [← Ny306.out] at ho47 | (simp only [Int.reduceToNat] at ho47; rw [← Ny306.out] at ho47)); replace HO_1 := Am5 (Rb5 (by (with_reducible repeat first | apply Ra5 | apply Rn5 | apply Rd5); exact HO_1.out) hb); have HO308 := Am5 (Rl5 (Rw5 ho47 (Rt5 (by (with_reducible repeat first | apply Ra5 | apply Rn5 | apply Rd5); exact HO304.out))) (bz5 (by repeat (first | (with_reducible first | exact HB.out | apply ba5 | apply bn5 | apply bd5) | exact HB.out)))); replace HO304 := Am5 (Re5 (by (with_reducible repeat first | apply Ra5 | apply Rn5 | apply Rd5); exact HO304.out) (Ra_5 ho47) hb); replace HB := Am5 (bp5 (by repeat (first | (with_reducible first | exact HB.out | apply ba5 | apply bn5 | apply bd5) | exact HB.out)) hb); clear hb ho47; obtain ⟨Ao48, co48, eo48⟩ := Kd.R_slice HO308.out; subst eo48) | (go_at_call 3; (with_reducible refine (watershedlaw04_SpanParts.calls k1 _ _ y306 t309 _ ?side1 ?side2 A39.out).mono ?_); (case side1 => repeat (first | exact (Kd.R_reads' HO308.out).2.2 | (with_reducible refine Kd.C_alloc ?_ _) | (with_reducible refine Kd.C_drewN ?_ _) | (with_reducible refine Kd.C_drew ?_))); (case side2 => exact (Kd.R_reads' HO308.out).2.1); rintro e w49 ⟨rfl, hb⟩; replace HO_1 := Am5 (Rb5 (by (with_reducible repeat first | apply Ra5 | apply Rn5 | apply Rd5); exact HO_1.out) hb); replace HO304 := Am5 (Rb5 (by (with_reducible repeat first | apply Ra5 | apply Rn5 | apply Rd5); exact HO304.out) hb); replace HO308 := Am5 (Rb5 (by (with_reducible repeat first | apply Ra5 | apply Rn5 | apply Rd5); exact HO308.out) hb); replace HB := Am5 (bp5 (by repeat (first | (with_reducible first | exact HB.out | apply ba5 | apply bn5 | apply bd5) | exact HB.out)) hb); (try clear hb); (try clear hb2); (try clear hk); (try clear hi)))
       go_ret
       exact ⟨by first | rfl | (simp [errW_none, errW_some] <;> rfl) | (simp [*, errW_none, errW_some] <;> rfl), by repeat (first | (with_reducible first | exact HB.out | apply ba5 | apply bn5 | apply bd5) | exact HB.out)⟩
      ·replace c38 := Bool.eq_false_iff.mpr c38
       subst c38
       rw [if_neg (show ¬ (false = true) by decide)] at H
       exact absurd H (by simp)
     ·replace c36 := Bool.eq_false_iff.mpr c36
      subst c36
      rw [if_neg (show ¬ (false = true) by decide)] at H
      exact absurd H (by simp)
 ·replace c2 := Bool.eq_false_iff.mpr c2
  subst c2
  rw [if_neg (show ¬ (false = true) by decide)] at H
  exact absurd H (by simp)

/-- THE ONE PURE STATEMENT of watershedlaw04_SpanEnds: yours. -/
def watershedlaw04_SpanEnds.Pure : Prop := ∃ k, watershedlaw04_SpanEnds.f k  = some true
theorem watershedlaw04_SpanEnds.walk (P : watershedlaw04_SpanEnds.Pure)  (w : World)  :
  Calls Try.prog 5 #[] w fun e w' => e = .returned (.bool true) ∧ Below w.heap.size w w' := by
 obtain ⟨k, h⟩ := P  
 refine (watershedlaw04_SpanEnds.calls k  true w h).mono ?_
 rintro e w' ⟨rfl, hd⟩
 exact ⟨rfl, hd⟩

end Go.Proofs.Ytbmnhpihlkljdaa.P04e
