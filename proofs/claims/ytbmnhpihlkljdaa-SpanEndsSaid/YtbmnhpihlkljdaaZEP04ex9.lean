-- Written by gprint.py, a program of this session, over the kit's print; the functions of my own contracts are marked GIVEN
import Derived.Test.YtbmnhpihlkljdaaZEP04ex0
import Derived.Test.YtbmnhpihlkljdaaZEP04ex6
namespace Go.Proofs.Ytbmnhpihlkljdaa.P04e
open Go.RowKit Go.Proofs.YtbmnhpihlkljdaaW.PrintWords Go.Proofs.YtbmnhpihlkljdaaW.PrintLast Go.Proofs.YtbmnhpihlkljdaaW.PrintMore
attribute [local go_sem] max2_str max2_int min2_int max_two min_two max_three min_three max_four min_four   -- for this text's walks alone
set_option linter.unusedVariables false
set_option linter.unusedSimpArgs false

/-! ### watershedkit_KeptTexts: function 26 -/
-- GIVEN
abbrev bbg26 (n m : Nat) : Array Bool := ((List.range n).map fun i => m.testBit i).toArray
def watershedkit_KeptTexts.f (l0 l1 : List ByteArray) : Option (Bool) := some true
theorem Am26 : type_of% @Aside0.mk := @Aside0.mk
theorem ba26 : type_of% @below_alloc := @below_alloc
theorem bn26 : type_of% @pw_below_drewN := @pw_below_drewN
theorem bd26 : type_of% @below_drew1 := @below_drew1
theorem bp26 : type_of% @below_step := @below_step
theorem sa26 : type_of% @List.setIfInBounds_toArray := @List.setIfInBounds_toArray
theorem sz26 : type_of% @List.set_cons_zero := @List.set_cons_zero
theorem ss26 : type_of% @List.set_cons_succ := @List.set_cons_succ
theorem ma26 : type_of% @List.map_toArray := @List.map_toArray
theorem mc26 : type_of% @List.map_cons := @List.map_cons
theorem mn26 : type_of% @List.map_nil := @List.map_nil
theorem ld26 : type_of% @List.length_drop := @List.length_drop
theorem lt_26 : type_of% @List.length_take := @List.length_take
/-! ### keptT: function 26 -/
def keptT.l0 : Nat → List ByteArray → List ByteArray → Int → Option (Bool)
 | 0, _, _, _ => none
 | k + 1, x1, x5, x6 => if x6 < (x5.length : Int) then (if x6 < (x1.length : Int) then (if 0 ≤ x6 then (if ((rdOf ByteArray.empty x5 x6).toList = (rdOf ByteArray.empty x1 x6).toList) then (if x6 ≥ (x1.length : Int) then ((watershedkit_markText.f 1 (wrap64 (x6 - (x1.length : Int)))).bind fun t107 => (if ((rdOf ByteArray.empty x5 x6).toList = t107.toList) then (keptT.l0 k x1 x5 (wrap64 (x6 + 1))) else (none))) else (keptT.l0 k x1 x5 (wrap64 (x6 + 1)))) else (none)) else (none)) else (if x6 ≥ (x1.length : Int) then (if 0 ≤ x6 then ((watershedkit_markText.f 1 (wrap64 (x6 - (x1.length : Int)))).bind fun t109 => (if ((rdOf ByteArray.empty x5 x6).toList = t109.toList) then (keptT.l0 k x1 x5 (wrap64 (x6 + 1))) else (none))) else (none)) else (keptT.l0 k x1 x5 (wrap64 (x6 + 1))))) else (some true)
def keptT.f (k : Nat) (l0 : List ByteArray) (l1 : List ByteArray) : Option (Bool) := keptT.l0 k l1 l0 0
theorem keptT.mono_l : ∀ k, (∀ y0 y1 y2, LeO (keptT.l0 k y0 y1 y2) (keptT.l0 (k + 1) y0 y1 y2))
 | 0 => fun _ _ _ r h => by simp [keptT.l0] at h
 | k + 1 => by
  have ih0 := keptT.mono_l k
  ·intro y0 y1 y2
   unfold keptT.l0
   repeat' first
   | (with_reducible exact ih0 _ _ _)
   | (with_reducible exact LeO.refl _)
   | (with_reducible exact LeO.none _)
   | (with_reducible refine LeO.ite ?_ ?_)
   | (with_reducible refine LeO.bind ?_ (fun _ => ?_))
   | exact ih0 _ _ _
   | exact LeO.none _
   | refine LeO.ite ?_ ?_
   | refine LeO.bind ?_ (fun _ => ?_)
theorem keptT.mono : ∀ a0 a1 k, LeO (keptT.f k a0 a1) (keptT.f (k + 1) a0 a1) := by
 intro a0 a1 k
 have ih0 := keptT.mono_l k
 unfold keptT.f
 repeat' first
   | (with_reducible exact ih0 _ _ _)
   | (with_reducible exact LeO.refl _)
   | (with_reducible exact LeO.none _)
   | (with_reducible refine LeO.ite ?_ ?_)
   | (with_reducible refine LeO.bind ?_ (fun _ => ?_))
   | exact ih0 _ _ _
   | exact LeO.none _
   | refine LeO.ite ?_ ?_
   | refine LeO.bind ?_ (fun _ => ?_)
def keptT.T7 : Bool × List (List Nat × List Nat) := (true, [([], []), ([], []), ([1], [1]), ([0, 2], [0, 2]), ([3], [3]), ([4], [4]), ([4], [4]), ([5, 6, 4], [4, 5, 6]), ([7, 4], [4, 7]), ([4], [4]), ([4], [4]), ([9, 10, 4], [4, 9, 10]), ([11, 4], [4, 11]), ([8, 12, 4], [4, 8, 12]), ([13, 4], [4, 13]), ([4, 14], [4, 14]), ([15, 4], [15]), ([16], [16]), ([16], [16]), ([18, 16], [16, 18]), ([17, 19, 16], [16, 17, 19]), ([20, 16, 16], [16, 20]), ([21], [21]), ([21], [21]), ([22, 23, 21], [21, 22, 23]), ([24, 21], [21, 24]), ([21], [21]), ([21], [21]), ([27, 21], [21, 27]), ([26, 28, 21], [21, 26, 28]), ([29, 21, 21], [21, 29]), ([25, 30, 21], [21, 25, 30]), ([31, 21], [21, 31]), ([21, 32, 16], [16, 21, 32]), ([16, 33], [16, 33])])
def keptT.B7 : List Nat := [0, 0, 2, 7, 15, 31, 31, 127, 255, 31, 31, 1567, 3615, 8191, 16383, 32767, 65535, 131071, 131071, 393215, 1048575, 2097151, 4194303, 4194303, 16777215, 33554431, 4194303, 4194303, 138412031, 473956351, 1010827263, 2147483647, 4294967295, 8589934591, 17179869183]
theorem keptT.tab7 : rtab .any (opsOf Try.f26 7) = keptT.T7 := by kernel_rfl
theorem keptT.bits7 : waitsOk keptT.T7.2 keptT.B7 = true := by kernel_rfl
set_option maxHeartbeats 8000000 in
set_option maxRecDepth 100000 in
theorem keptT.calls (k : Nat) (A0 : Option Addr) (l0 : List ByteArray) (A1 : Option Addr) (c1 : Nat) (l1 : List ByteArray) (r : Bool) (w : World) (hr0 : Kd.C Kd.string w A0 l0.length l0) (hlen : l0.length = l1.length + 12) (hr1 : Kd.C Kd.string w A1 l1.length l1) (hc1 : l1.length ≤ c1) (h : keptT.f k l0 l1 = some r) :
  Calls Try.prog 26 #[.slice A0 l1.length (l1.length + 12), .slice A1 l1.length c1] w fun e w' => e = .returned (.bool r) ∧ Below w.heap.size w w' := by
 have HR0 := Am26 hr0
 have hmx : l1.length + 12 ≤ 9223372036854775807 := by have := hr0.2.1; omega
 have HLEN := Aside0.mk (show (l0.length : Int) = (l1.length : Int) + 12 by omega)
 clear hr0 hlen
 have HR1 := Am26 hr1
 have HC1 := Am26 hc1
 clear hr1 hc1
 have HB := Am26 (Below.refl w.heap.size w)
 have H : (keptT.l0 k l1 l0 0) = some r := h
 clear h
 have H' := Am26 H
 clear H
 go_enter Try.func26, Try.ntmps26
 go_wp2
 go_loopg [6] k (fun kq v6 w' => ∃ (x6_1 : Int), v6 = .int .i64 x6_1 ∧ Aside0 (keptT.l0 kq l1 l0 x6_1 = some r) ∧ Aside0 (kq ≤ k) ∧ Aside0 (Below w.heap.size w w'))
 case atStart => exact ⟨(0), (by first | rfl | (simp; done) | (simp [*]; done)), H', ⟨Nat.le_refl _⟩, ⟨by repeat (first | (with_reducible first | exact HB.out | apply ba26 | apply bn26 | apply bd26) | exact HB.out)⟩⟩
 case round =>
  clear H'
  try clear c1
  try clear c2
  try clear p2
  obtain ⟨x6_1, rfl, HA, HK1, HB⟩ := hrel
  cases gk with
  | zero => exact absurd HA.out (by simp [keptT.l0])
  | succ k1 =>
   have H := HA.out
   clear HA
   simp only [keptT.l0, HLEN.out] at H
   by_cases c3 : x6_1 < (l1.length : Int) + 12
   ·rw [if_pos c3] at H
    have c3b0 : decide (x6_1 < (l1.length : Int) + 12) = true := decide_eq_true c3
    clear c3
    by_cases c4 : x6_1 < (l1.length : Int)
    ·rw [if_pos c4] at H
     have c4b0 : decide (x6_1 < (l1.length : Int)) = true := decide_eq_true c4
     clear c4
     by_cases c5 : 0 ≤ x6_1
     ·rw [if_pos c5] at H
      have c5b0 : decide (0 ≤ x6_1) = true := decide_eq_true c5
      clear c5
      by_cases c6 : ((rdOf ByteArray.empty l0 x6_1).toList = (rdOf ByteArray.empty l1 x6_1).toList)
      ·rw [if_pos c6] at H
       have c6b0 : ((rdOf ByteArray.empty l0 x6_1).toList == (rdOf ByteArray.empty l1 x6_1).toList) = true := beq_iff_eq.mpr c6
       have c6b1 : ((rdOf ByteArray.empty l0 x6_1).toList != (rdOf ByteArray.empty l1 x6_1).toList) = false := bne_eq_false_iff_eq.mpr c6
       clear c6
       by_cases c7 : x6_1 ≥ (l1.length : Int)
       ·rw [if_pos c7] at H
        have c7b0 : decide ((l1.length : Int) ≤ x6_1) = true := decide_eq_true c7
        clear c7
        replace H := Option.bind_eq_some_iff.mp H
        obtain ⟨t107, A80, H⟩ := H
        try dsimp only at H
        have A8 := Am26 A80
        clear A80
        by_cases c9 : ((rdOf ByteArray.empty l0 x6_1).toList = t107.toList)
        ·rw [if_pos c9] at H
         have c9b0 : ((rdOf ByteArray.empty l0 x6_1).toList == t107.toList) = true := beq_iff_eq.mpr c9
         have c9b1 : ((rdOf ByteArray.empty l0 x6_1).toList != t107.toList) = false := bne_eq_false_iff_eq.mpr c9
         clear c9
         have H' := Am26 H
         clear H
         try go_wp2
         replace HB := Am26 (bd26 HB.out)
         have p104 : 0 ≤ (x6_1 : Int) := of_decide_eq_true (by first | (with_reducible assumption) | assumption)
         have q104 : x6_1 < (l1.length : Int) + 12 := of_decide_eq_true (by first | (with_reducible assumption) | assumption)
         obtain ⟨ad104, e104, hx104_0⟩ := Kd.at_string HR0.out x6_1 p104 (by rw [HLEN.out]; exact q104)
         have hw104_0 := hx104_0
         cases e104
         replace hx104_0 := (HB.out.cell (World.block_lt_of_cell? w _ hx104_0)).trans hx104_0
         replace p104 := eq_true p104
         replace q104 := eq_true q104
         have p105 : 0 ≤ (x6_1 : Int) := of_decide_eq_true (by first | (with_reducible assumption) | assumption)
         have q105 : x6_1 < (l1.length : Int) := of_decide_eq_true (by first | (with_reducible assumption) | assumption)
         obtain ⟨ad105, e105, hx105_0⟩ := Kd.at_string HR1.out x6_1 p105 q105
         have hw105_0 := hx105_0
         cases e105
         replace hx105_0 := (HB.out.cell (World.block_lt_of_cell? w _ hx105_0)).trans hx105_0
         replace p105 := eq_true p105
         replace q105 := eq_true q105
         have p106 : 0 ≤ (x6_1 : Int) := of_decide_eq_true (by first | (with_reducible assumption) | assumption)
         have q106 : x6_1 < (l1.length : Int) + 12 := of_decide_eq_true (by first | (with_reducible assumption) | assumption)
         obtain ⟨ad106, e106, hx106_0⟩ := Kd.at_string HR0.out x6_1 p106 (by rw [HLEN.out]; exact q106)
         have hw106_0 := hx106_0
         obtain rfl : ad104 = ad106 := (by injection e106)
         replace hx106_0 := (HB.out.cell (World.block_lt_of_cell? w _ hx106_0)).trans hx106_0
         replace p106 := eq_true p106
         replace q106 := eq_true q106
         refine start_ (n:=35) (S:=fun w' => w'.cell? (ad104.add (x6_1).toNat) = some (.string (rdOf ByteArray.empty l0 x6_1)) ∧ w'.cell? (ad105.add (x6_1).toNat) = some (.string (rdOf ByteArray.empty l1 x6_1)) ∧ w'.cell? (ad104.add (x6_1).toNat) = some (.string (rdOf ByteArray.empty l0 x6_1))) (ds:=[]) (bbg26 35 0) (by kernel_rfl) rfl rfl ⟨((HB.out.cell (World.block_lt_of_cell? w _ hw104_0)).trans hw104_0), ((HB.out.cell (World.block_lt_of_cell? w _ hw105_0)).trans hw105_0), ((HB.out.cell (World.block_lt_of_cell? w _ hw106_0)).trans hw106_0)⟩ (fun hHeld => ?_); refine with_tabW keptT.tab7 keptT.bits7 (fun HT_ HW_ => ?_)
         generalize wr.drew = w10 at HB hx104_0 hx105_0 hx106_0 hHeld ⊢
         refine pure_ (i:=0) (N:=some 23) (v:=?_) (a' := ?_) (bbg26 35 1) rfl rfl (any_of HT_.out (by kernel_rfl)) (fun _ _ _ h => h) (Or.inl ⟨by rfl, ?_⟩) ?_ ?_
         rotate_left
         ·intro w'
          go_simp
          with_reducible rfl
         rotate_left
         ·simp only [Act.put, sa26, sz26, ss26, i64_w, i32_w]
          rfl
         refine pure_ (i:=1) (N:=some 24) (v:=?_) (a' := ?_) (bbg26 35 3) rfl rfl (any_of HT_.out (by kernel_rfl)) (fun _ _ _ h => h) (Or.inl ⟨by rfl, ?_⟩) ?_ ?_
         rotate_left
         ·intro w'
          go_simp
          with_reducible rfl
         rotate_left
         ·simp only [Act.put, sa26, sz26, ss26, i64_w, i32_w]
          rfl
         refine pure_ (i:=2) (N:=some 25) (v:=?_) (a' := ?_) (bbg26 35 7) rfl rfl (any_of HT_.out (by kernel_rfl)) (fun _ _ _ h => h) (Or.inl ⟨by rfl, ?_⟩) ?_ ?_
         rotate_left
         ·intro w'
          go_simp
          with_reducible rfl
         rotate_left
         ·simp only [Act.put, sa26, sz26, ss26, i64_w, i32_w]
          rfl
         refine pure_ (i:=3) (N:=some 26) (v:=?_) (a' := ?_) (bbg26 35 15) rfl rfl (any_of HT_.out (by kernel_rfl)) (fun _ _ _ h => h) (Or.inl ⟨by rfl, ?_⟩) ?_ ?_
         rotate_left
         ·intro w'
          go_simp
          with_reducible rfl
         rotate_left
         ·simp only [Act.put, sa26, sz26, ss26, i64_w, i32_w]
          rfl
         refine pure_ (i:=4) (N:=some 27) (v:=?_) (a' := ?_) (bbg26 35 31) rfl rfl (any_of HT_.out (by kernel_rfl)) (fun _ _ _ h => h) (Or.inl ⟨by rfl, ?_⟩) ?_ ?_
         rotate_left
         ·intro w'
          go_simp
          with_reducible rfl
         rotate_left
         ·simp only [Act.put, sa26, sz26, ss26, i64_w, i32_w]
          rfl
         refine pure_ (i:=5) (N:=some 28) (v:=?_) (a' := ?_) (bbg26 35 63) rfl rfl (any_of HT_.out (by kernel_rfl)) (fun _ _ _ h => h) (Or.inl ⟨by rfl, ?_⟩) ?_ ?_
         rotate_left
         ·intro w'
          go_simp
          with_reducible rfl
         rotate_left
         ·simp only [Act.put, sa26, sz26, ss26, i64_w, i32_w]
          rfl
         refine pure_ (i:=6) (N:=some 29) (v:=?_) (a' := ?_) (bbg26 35 127) rfl rfl (any_of HT_.out (by kernel_rfl)) (fun _ _ _ h => h) (Or.inl ⟨by rfl, ?_⟩) ?_ ?_
         rotate_left
         ·intro w'
          go_simp
          with_reducible rfl
         rotate_left
         ·simp only [Act.put, sa26, sz26, ss26, i64_w, i32_w]
          rfl
         refine pure_ (i:=7) (N:=some 30) (v:=?_) (a' := ?_) (bbg26 35 255) rfl rfl (any_of HT_.out (by kernel_rfl)) (fun _ _ _ h => h) (Or.inl ⟨by rfl, ?_⟩) ?_ ?_
         rotate_left
         ·intro w'
          go_simp
          with_reducible rfl
         rotate_left
         ·simp only [Act.put, sa26, sz26, ss26, i64_w, i32_w]
          rfl
         refine pure_ (i:=9) (N:=some 32) (v:=?_) (a' := ?_) (bbg26 35 767) rfl rfl (any_of HT_.out (by kernel_rfl)) (fun _ _ _ h => h) (Or.inl ⟨by rfl, ?_⟩) ?_ ?_
         rotate_left
         ·intro w'
          go_simp
          with_reducible rfl
         rotate_left
         ·simp only [Act.put, sa26, sz26, ss26, i64_w, i32_w]
          rfl
         refine pure_ (i:=10) (N:=some 33) (v:=?_) (a' := ?_) (bbg26 35 1791) rfl rfl (any_of HT_.out (by kernel_rfl)) (fun _ _ _ h => h) (Or.inl ⟨by rfl, ?_⟩) ?_ ?_
         rotate_left
         ·intro w'
          go_simp
          with_reducible rfl
         rotate_left
         ·simp only [Act.put, sa26, sz26, ss26, i64_w, i32_w]
          rfl
         refine pure_ (i:=11) (N:=some 34) (v:=?_) (a' := ?_) (bbg26 35 3839) rfl rfl (any_of HT_.out (by kernel_rfl)) (fun _ _ _ h => h) (Or.inl ⟨by rfl, ?_⟩) ?_ ?_
         rotate_left
         ·intro w'
          go_simp
          with_reducible rfl
         rotate_left
         ·simp only [Act.put, sa26, sz26, ss26, i64_w, i32_w]
          rfl
         refine take_ (i:=8) (N:=some 31) (v:=?_) (a' := ?_) (bbg26 35 4095) rfl rfl (take_ofW HT_.out HW_.out (by kernel_rfl)) (fun _ _ _ h => h) (Or.inl ⟨by rfl, ?_⟩) hHeld ?_ ?_
         rotate_left
         ·rintro w' ⟨s0, s1, s2⟩
          go_simp
          with_reducible rfl
         rotate_left
         ·simp only [Act.put, sa26, sz26, ss26, i64_w, i32_w]
          rfl
         refine take_ (i:=12) (N:=some 35) (v:=?_) (a' := ?_) (bbg26 35 8191) rfl rfl (take_ofW HT_.out HW_.out (by kernel_rfl)) (fun _ _ _ h => h) (Or.inl ⟨by rfl, ?_⟩) hHeld ?_ ?_
         rotate_left
         ·rintro w' ⟨s0, s1, s2⟩
          go_simp
          with_reducible rfl
         rotate_left
         ·simp only [Act.put, sa26, sz26, ss26, i64_w, i32_w]
          rfl
         refine pure_ (i:=13) (N:=some 36) (v:=?_) (a' := ?_) (bbg26 35 16383) rfl rfl (any_of HT_.out (by kernel_rfl)) (fun _ _ _ h => h) (Or.inl ⟨by rfl, ?_⟩) ?_ ?_
         rotate_left
         ·intro w'
          go_simp
          with_reducible rfl
         rotate_left
         ·simp only [Act.put, sa26, sz26, ss26, i64_w, i32_w]
          rfl
         refine pure_ (i:=14) (N:=some 37) (v:=?_) (a' := ?_) (bbg26 35 32767) rfl rfl (any_of HT_.out (by kernel_rfl)) (fun _ _ _ h => h) (Or.inl ⟨by rfl, ?_⟩) ?_ ?_
         rotate_left
         ·intro w'
          go_simp
          with_reducible rfl
         rotate_left
         ·simp only [Act.put, sa26, sz26, ss26, i64_w, i32_w]
          rfl
         refine pure_ (i:=15) (N:=some 38) (v:=?_) (a' := ?_) (bbg26 35 65535) rfl rfl (any_of HT_.out (by kernel_rfl)) (fun _ _ _ h => h) (Or.inl ⟨by rfl, ?_⟩) ?_ ?_
         rotate_left
         ·intro w'
          go_simp
          with_reducible rfl
         rotate_left
         ·simp only [Act.put, sa26, sz26, ss26, i64_w, i32_w]
          rfl
         refine pure_ (i:=16) (N:=some 39) (v:=?_) (a' := ?_) (bbg26 35 131071) rfl rfl (any_of HT_.out (by kernel_rfl)) (fun _ _ _ h => h) (Or.inl ⟨by rfl, ?_⟩) ?_ ?_
         rotate_left
         ·intro w'
          go_simp
          with_reducible rfl
         rotate_left
         ·simp only [Act.put, sa26, sz26, ss26, i64_w, i32_w]
          rfl
         refine pure_ (i:=17) (N:=some 40) (v:=?_) (a' := ?_) (bbg26 35 262143) rfl rfl (any_of HT_.out (by kernel_rfl)) (fun _ _ _ h => h) (Or.inl ⟨by rfl, ?_⟩) ?_ ?_
         rotate_left
         ·intro w'
          go_simp
          with_reducible rfl
         rotate_left
         ·simp only [Act.put, sa26, sz26, ss26, i64_w, i32_w]
          rfl
         refine pure_ (i:=18) (N:=some 41) (v:=?_) (a' := ?_) (bbg26 35 524287) rfl rfl (any_of HT_.out (by kernel_rfl)) (fun _ _ _ h => h) (Or.inl ⟨by rfl, ?_⟩) ?_ ?_
         rotate_left
         ·intro w'
          go_simp
          with_reducible rfl
         rotate_left
         ·simp only [Act.put, sa26, sz26, ss26, i64_w, i32_w]
          rfl
         refine pure_ (i:=19) (N:=some 42) (v:=?_) (a' := ?_) (bbg26 35 1048575) rfl rfl (any_of HT_.out (by kernel_rfl)) (fun _ _ _ h => h) (Or.inl ⟨by rfl, ?_⟩) ?_ ?_
         rotate_left
         ·intro w'
          go_simp
          with_reducible rfl
         rotate_left
         ·simp only [Act.put, sa26, sz26, ss26, i64_w, i32_w]
          rfl
         refine pure_ (i:=20) (N:=some 43) (v:=?_) (a' := ?_) (bbg26 35 2097151) rfl rfl (any_of HT_.out (by kernel_rfl)) (fun _ _ _ h => h) (Or.inl ⟨by rfl, ?_⟩) ?_ ?_
         rotate_left
         ·intro w'
          go_simp
          with_reducible rfl
         rotate_left
         ·simp only [Act.put, sa26, sz26, ss26, i64_w, i32_w]
          rfl
         refine pure_ (i:=21) (N:=some 44) (v:=?_) (a' := ?_) (bbg26 35 4194303) rfl rfl (any_of HT_.out (by kernel_rfl)) (fun _ _ _ h => h) (Or.inl ⟨by rfl, ?_⟩) ?_ ?_
         rotate_left
         ·intro w'
          go_simp
          with_reducible rfl
         rotate_left
         ·simp only [Act.put, sa26, sz26, ss26, i64_w, i32_w]
          rfl
         refine pure_ (i:=22) (N:=some 45) (v:=?_) (a' := ?_) (bbg26 35 8388607) rfl rfl (any_of HT_.out (by kernel_rfl)) (fun _ _ _ h => h) (Or.inl ⟨by rfl, ?_⟩) ?_ ?_
         rotate_left
         ·intro w'
          go_simp
          with_reducible rfl
         rotate_left
         ·simp only [Act.put, sa26, sz26, ss26, i64_w, i32_w]
          rfl
         refine pure_ (i:=23) (N:=some 46) (v:=?_) (a' := ?_) (bbg26 35 16777215) rfl rfl (any_of HT_.out (by kernel_rfl)) (fun _ _ _ h => h) (Or.inl ⟨by rfl, ?_⟩) ?_ ?_
         rotate_left
         ·intro w'
          go_simp
          with_reducible rfl
         rotate_left
         ·simp only [Act.put, sa26, sz26, ss26, i64_w, i32_w]
          rfl
         refine pure_ (i:=24) (N:=some 47) (v:=?_) (a' := ?_) (bbg26 35 33554431) rfl rfl (any_of HT_.out (by kernel_rfl)) (fun _ _ _ h => h) (Or.inl ⟨by rfl, ?_⟩) ?_ ?_
         rotate_left
         ·intro w'
          go_simp
          with_reducible rfl
         rotate_left
         ·simp only [Act.put, sa26, sz26, ss26, i64_w, i32_w]
          rfl
         refine pure_ (i:=26) (N:=some 49) (v:=?_) (a' := ?_) (bbg26 35 100663295) rfl rfl (any_of HT_.out (by kernel_rfl)) (fun _ _ _ h => h) (Or.inl ⟨by rfl, ?_⟩) ?_ ?_
         rotate_left
         ·intro w'
          go_simp
          with_reducible rfl
         rotate_left
         ·simp only [Act.put, sa26, sz26, ss26, i64_w, i32_w]
          rfl
         refine pure_ (i:=27) (N:=some 50) (v:=?_) (a' := ?_) (bbg26 35 234881023) rfl rfl (any_of HT_.out (by kernel_rfl)) (fun _ _ _ h => h) (Or.inl ⟨by rfl, ?_⟩) ?_ ?_
         rotate_left
         ·intro w'
          go_simp
          with_reducible rfl
         rotate_left
         ·simp only [Act.put, sa26, sz26, ss26, i64_w, i32_w]
          rfl
         refine pure_ (i:=28) (N:=some 51) (v:=?_) (a' := ?_) (bbg26 35 503316479) rfl rfl (any_of HT_.out (by kernel_rfl)) (fun _ _ _ h => h) (Or.inl ⟨by rfl, ?_⟩) ?_ ?_
         rotate_left
         ·intro w'
          go_simp
          with_reducible rfl
         rotate_left
         ·simp only [Act.put, sa26, sz26, ss26, i64_w, i32_w]
          rfl
         refine pure_ (i:=29) (N:=some 52) (v:=?_) (a' := ?_) (bbg26 35 1040187391) rfl rfl (any_of HT_.out (by kernel_rfl)) (fun _ _ _ h => h) (Or.inl ⟨by rfl, ?_⟩) ?_ ?_
         rotate_left
         ·intro w'
          go_simp
          with_reducible rfl
         rotate_left
         ·simp only [Act.put, sa26, sz26, ss26, i64_w, i32_w]
          rfl
         refine take_ (i:=25) (N:=some 48) (v:=?_) (a' := ?_) (bbg26 35 1073741823) rfl rfl (take_ofW HT_.out HW_.out (by kernel_rfl)) (fun _ _ _ h => h) (Or.inl ⟨by rfl, ?_⟩) hHeld ?_ ?_
         rotate_left
         ·rintro w' ⟨s0, s1, s2⟩
          go_simp
          with_reducible rfl
         rotate_left
         ·simp only [Act.put, sa26, sz26, ss26, i64_w, i32_w]
          rfl
         refine one_ (i:=30) (N:=some 53) (bbg26 35 2147483647) rfl rfl (one_of HT_.out (by kernel_rfl)) (by decide) (fun K hK => ?_)
         refine goes_ Try.func33 (by kernel_rfl) rfl #[.int .i64 1, .int .i64 (wrap64 (x6_1 - (l1.length : Int)))] (by rfl) rfl rfl (by (try simp only [ma26, mc26, mn26]); first | done | rfl | (simp only [ld26, lt_26]; rfl)) ?_
         with_reducible refine (watershedkit_markText.calls 1 (wrap64 (x6_1 - (l1.length : Int))) t107 _ A8.out).mono ?_
         rintro e w11 ⟨rfl, hb⟩
         refine ⟨_, rfl, ?_⟩
         have n0_ := Am26 (bp26 (by repeat (first | (with_reducible first | exact HB.out | apply ba26 | apply bn26 | apply bd26) | exact HB.out)) hb)
         clear HB
         have HB := n0_
         clear n0_
         (try clear hb)
         (try clear hb2)
         (try clear hk)
         (try clear hi)
         refine hK.out _ _ ⟨((HB.out.cell (World.block_lt_of_cell? w _ hw104_0)).trans hw104_0), ((HB.out.cell (World.block_lt_of_cell? w _ hw105_0)).trans hw105_0), ((HB.out.cell (World.block_lt_of_cell? w _ hw106_0)).trans hw106_0)⟩ (fun hHeld => ?_)
         clear hK K
         refine norm_ (a' := ?_) ?_ ?_
         rotate_left
         ·show Act.put _ (some 53) _ = _
          simp only [Act.put, sa26, sz26, ss26, i64_w, i32_w]
          rfl
         refine pure_ (i:=31) (N:=some 54) (v:=?_) (a' := ?_) (bbg26 35 4294967295) rfl rfl (any_of HT_.out (by kernel_rfl)) (fun _ _ _ h => h) (Or.inl ⟨by rfl, ?_⟩) ?_ ?_
         rotate_left
         ·intro w'
          go_simp
          with_reducible rfl
         rotate_left
         ·simp only [Act.put, sa26, sz26, ss26, i64_w, i32_w]
          rfl
         refine pure_ (i:=32) (N:=some 55) (v:=?_) (a' := ?_) (bbg26 35 8589934591) rfl rfl (any_of HT_.out (by kernel_rfl)) (fun _ _ _ h => h) (Or.inl ⟨by rfl, ?_⟩) ?_ ?_
         rotate_left
         ·intro w'
          go_simp
          with_reducible rfl
         rotate_left
         ·simp only [Act.put, sa26, sz26, ss26, i64_w, i32_w]
          rfl
         refine pure_ (i:=33) (N:=some 56) (v:=?_) (a' := ?_) (bbg26 35 17179869183) rfl rfl (any_of HT_.out (by kernel_rfl)) (fun _ _ _ h => h) (Or.inl ⟨by rfl, ?_⟩) ?_ ?_
         rotate_left
         ·intro w'
          go_simp
          with_reducible rfl
         rotate_left
         ·simp only [Act.put, sa26, sz26, ss26, i64_w, i32_w]
          rfl
         refine pure_ (i:=34) (N:=some 57) (v:=?_) (a' := ?_) (bbg26 35 34359738367) rfl rfl (any_of HT_.out (by kernel_rfl)) (fun _ _ _ h => h) (Or.inl ⟨by rfl, ?_⟩) ?_ ?_
         rotate_left
         ·intro w'
          go_simp
          with_reducible rfl
         rotate_left
         ·simp only [Act.put, sa26, sz26, ss26, i64_w, i32_w]
          rfl
         refine done_ (done_of HT_.out (by kernel_rfl)) ?_
         try go_wp2
         go_roundg k1
         case measure => have := HK1.out; omega
         case rel => exact ⟨(wrap64 (x6_1 + 1)), (by first | rfl | (simp; done) | (simp [*]; done)), H', ⟨by have := HK1.out; omega⟩, ⟨by repeat (first | (with_reducible first | exact HB.out | apply ba26 | apply bn26 | apply bd26) | exact HB.out)⟩⟩
        ·rw [if_neg c9] at H
         exact absurd H (by simp)
       ·rw [if_neg c7] at H
        have c7b0 : decide ((l1.length : Int) ≤ x6_1) = false := decide_eq_false c7
        clear c7
        have H' := Am26 H
        clear H
        try go_wp2
        replace HB := Am26 (bd26 HB.out)
        have p104 : 0 ≤ (x6_1 : Int) := of_decide_eq_true (by first | (with_reducible assumption) | assumption)
        have q104 : x6_1 < (l1.length : Int) + 12 := of_decide_eq_true (by first | (with_reducible assumption) | assumption)
        obtain ⟨ad104, e104, hx104_0⟩ := Kd.at_string HR0.out x6_1 p104 (by rw [HLEN.out]; exact q104)
        have hw104_0 := hx104_0
        cases e104
        replace hx104_0 := (HB.out.cell (World.block_lt_of_cell? w _ hx104_0)).trans hx104_0
        replace p104 := eq_true p104
        replace q104 := eq_true q104
        have p105 : 0 ≤ (x6_1 : Int) := of_decide_eq_true (by first | (with_reducible assumption) | assumption)
        have q105 : x6_1 < (l1.length : Int) := of_decide_eq_true (by first | (with_reducible assumption) | assumption)
        obtain ⟨ad105, e105, hx105_0⟩ := Kd.at_string HR1.out x6_1 p105 q105
        have hw105_0 := hx105_0
        cases e105
        replace hx105_0 := (HB.out.cell (World.block_lt_of_cell? w _ hx105_0)).trans hx105_0
        replace p105 := eq_true p105
        replace q105 := eq_true q105
        refine start_ (n:=35) (S:=fun w' => w'.cell? (ad104.add (x6_1).toNat) = some (.string (rdOf ByteArray.empty l0 x6_1)) ∧ w'.cell? (ad105.add (x6_1).toNat) = some (.string (rdOf ByteArray.empty l1 x6_1))) (ds:=[]) (bbg26 35 0) (by kernel_rfl) rfl rfl ⟨((HB.out.cell (World.block_lt_of_cell? w _ hw104_0)).trans hw104_0), ((HB.out.cell (World.block_lt_of_cell? w _ hw105_0)).trans hw105_0)⟩ (fun hHeld => ?_); refine with_tabW keptT.tab7 keptT.bits7 (fun HT_ HW_ => ?_)
        generalize wr.drew = w12 at HB hx104_0 hx105_0 hHeld ⊢
        refine pure_ (i:=0) (N:=some 23) (v:=?_) (a' := ?_) (bbg26 35 1) rfl rfl (any_of HT_.out (by kernel_rfl)) (fun _ _ _ h => h) (Or.inl ⟨by rfl, ?_⟩) ?_ ?_
        rotate_left
        ·intro w'
         go_simp
         with_reducible rfl
        rotate_left
        ·simp only [Act.put, sa26, sz26, ss26, i64_w, i32_w]
         rfl
        refine pure_ (i:=1) (N:=some 24) (v:=?_) (a' := ?_) (bbg26 35 3) rfl rfl (any_of HT_.out (by kernel_rfl)) (fun _ _ _ h => h) (Or.inl ⟨by rfl, ?_⟩) ?_ ?_
        rotate_left
        ·intro w'
         go_simp
         with_reducible rfl
        rotate_left
        ·simp only [Act.put, sa26, sz26, ss26, i64_w, i32_w]
         rfl
        refine pure_ (i:=2) (N:=some 25) (v:=?_) (a' := ?_) (bbg26 35 7) rfl rfl (any_of HT_.out (by kernel_rfl)) (fun _ _ _ h => h) (Or.inl ⟨by rfl, ?_⟩) ?_ ?_
        rotate_left
        ·intro w'
         go_simp
         with_reducible rfl
        rotate_left
        ·simp only [Act.put, sa26, sz26, ss26, i64_w, i32_w]
         rfl
        refine pure_ (i:=3) (N:=some 26) (v:=?_) (a' := ?_) (bbg26 35 15) rfl rfl (any_of HT_.out (by kernel_rfl)) (fun _ _ _ h => h) (Or.inl ⟨by rfl, ?_⟩) ?_ ?_
        rotate_left
        ·intro w'
         go_simp
         with_reducible rfl
        rotate_left
        ·simp only [Act.put, sa26, sz26, ss26, i64_w, i32_w]
         rfl
        refine pure_ (i:=4) (N:=some 27) (v:=?_) (a' := ?_) (bbg26 35 31) rfl rfl (any_of HT_.out (by kernel_rfl)) (fun _ _ _ h => h) (Or.inl ⟨by rfl, ?_⟩) ?_ ?_
        rotate_left
        ·intro w'
         go_simp
         with_reducible rfl
        rotate_left
        ·simp only [Act.put, sa26, sz26, ss26, i64_w, i32_w]
         rfl
        refine pure_ (i:=5) (N:=some 28) (v:=?_) (a' := ?_) (bbg26 35 63) rfl rfl (any_of HT_.out (by kernel_rfl)) (fun _ _ _ h => h) (Or.inl ⟨by rfl, ?_⟩) ?_ ?_
        rotate_left
        ·intro w'
         go_simp
         with_reducible rfl
        rotate_left
        ·simp only [Act.put, sa26, sz26, ss26, i64_w, i32_w]
         rfl
        refine pure_ (i:=6) (N:=some 29) (v:=?_) (a' := ?_) (bbg26 35 127) rfl rfl (any_of HT_.out (by kernel_rfl)) (fun _ _ _ h => h) (Or.inl ⟨by rfl, ?_⟩) ?_ ?_
        rotate_left
        ·intro w'
         go_simp
         with_reducible rfl
        rotate_left
        ·simp only [Act.put, sa26, sz26, ss26, i64_w, i32_w]
         rfl
        refine pure_ (i:=7) (N:=some 30) (v:=?_) (a' := ?_) (bbg26 35 255) rfl rfl (any_of HT_.out (by kernel_rfl)) (fun _ _ _ h => h) (Or.inl ⟨by rfl, ?_⟩) ?_ ?_
        rotate_left
        ·intro w'
         go_simp
         with_reducible rfl
        rotate_left
        ·simp only [Act.put, sa26, sz26, ss26, i64_w, i32_w]
         rfl
        refine pure_ (i:=9) (N:=some 32) (v:=?_) (a' := ?_) (bbg26 35 767) rfl rfl (any_of HT_.out (by kernel_rfl)) (fun _ _ _ h => h) (Or.inl ⟨by rfl, ?_⟩) ?_ ?_
        rotate_left
        ·intro w'
         go_simp
         with_reducible rfl
        rotate_left
        ·simp only [Act.put, sa26, sz26, ss26, i64_w, i32_w]
         rfl
        refine pure_ (i:=10) (N:=some 33) (v:=?_) (a' := ?_) (bbg26 35 1791) rfl rfl (any_of HT_.out (by kernel_rfl)) (fun _ _ _ h => h) (Or.inl ⟨by rfl, ?_⟩) ?_ ?_
        rotate_left
        ·intro w'
         go_simp
         with_reducible rfl
        rotate_left
        ·simp only [Act.put, sa26, sz26, ss26, i64_w, i32_w]
         rfl
        refine pure_ (i:=11) (N:=some 34) (v:=?_) (a' := ?_) (bbg26 35 3839) rfl rfl (any_of HT_.out (by kernel_rfl)) (fun _ _ _ h => h) (Or.inl ⟨by rfl, ?_⟩) ?_ ?_
        rotate_left
        ·intro w'
         go_simp
         with_reducible rfl
        rotate_left
        ·simp only [Act.put, sa26, sz26, ss26, i64_w, i32_w]
         rfl
        refine take_ (i:=8) (N:=some 31) (v:=?_) (a' := ?_) (bbg26 35 4095) rfl rfl (take_ofW HT_.out HW_.out (by kernel_rfl)) (fun _ _ _ h => h) (Or.inl ⟨by rfl, ?_⟩) hHeld ?_ ?_
        rotate_left
        ·rintro w' ⟨s0, s1⟩
         go_simp
         with_reducible rfl
        rotate_left
        ·simp only [Act.put, sa26, sz26, ss26, i64_w, i32_w]
         rfl
        refine take_ (i:=12) (N:=some 35) (v:=?_) (a' := ?_) (bbg26 35 8191) rfl rfl (take_ofW HT_.out HW_.out (by kernel_rfl)) (fun _ _ _ h => h) (Or.inl ⟨by rfl, ?_⟩) hHeld ?_ ?_
        rotate_left
        ·rintro w' ⟨s0, s1⟩
         go_simp
         with_reducible rfl
        rotate_left
        ·simp only [Act.put, sa26, sz26, ss26, i64_w, i32_w]
         rfl
        refine pure_ (i:=13) (N:=some 36) (v:=?_) (a' := ?_) (bbg26 35 16383) rfl rfl (any_of HT_.out (by kernel_rfl)) (fun _ _ _ h => h) (Or.inl ⟨by rfl, ?_⟩) ?_ ?_
        rotate_left
        ·intro w'
         go_simp
         with_reducible rfl
        rotate_left
        ·simp only [Act.put, sa26, sz26, ss26, i64_w, i32_w]
         rfl
        refine pure_ (i:=14) (N:=some 37) (v:=?_) (a' := ?_) (bbg26 35 32767) rfl rfl (any_of HT_.out (by kernel_rfl)) (fun _ _ _ h => h) (Or.inl ⟨by rfl, ?_⟩) ?_ ?_
        rotate_left
        ·intro w'
         go_simp
         with_reducible rfl
        rotate_left
        ·simp only [Act.put, sa26, sz26, ss26, i64_w, i32_w]
         rfl
        refine pure_ (i:=15) (N:=some 38) (v:=?_) (a' := ?_) (bbg26 35 65535) rfl rfl (any_of HT_.out (by kernel_rfl)) (fun _ _ _ h => h) (Or.inl ⟨by rfl, ?_⟩) ?_ ?_
        rotate_left
        ·intro w'
         go_simp
         with_reducible rfl
        rotate_left
        ·simp only [Act.put, sa26, sz26, ss26, i64_w, i32_w]
         rfl
        refine pure_ (i:=16) (N:=some 39) (v:=?_) (a' := ?_) (bbg26 35 131071) rfl rfl (any_of HT_.out (by kernel_rfl)) (fun _ _ _ h => h) (Or.inl ⟨by rfl, ?_⟩) ?_ ?_
        rotate_left
        ·intro w'
         go_simp
         with_reducible rfl
        rotate_left
        ·simp only [Act.put, sa26, sz26, ss26, i64_w, i32_w]
         rfl
        refine pure_ (i:=17) (N:=some 40) (v:=?_) (a' := ?_) (bbg26 35 262143) rfl rfl (any_of HT_.out (by kernel_rfl)) (fun _ _ _ h => h) (Or.inl ⟨by rfl, ?_⟩) ?_ ?_
        rotate_left
        ·intro w'
         go_simp
         with_reducible rfl
        rotate_left
        ·simp only [Act.put, sa26, sz26, ss26, i64_w, i32_w]
         rfl
        refine pure_ (i:=18) (N:=some 41) (v:=?_) (a' := ?_) (bbg26 35 524287) rfl rfl (any_of HT_.out (by kernel_rfl)) (fun _ _ _ h => h) (Or.inl ⟨by rfl, ?_⟩) ?_ ?_
        rotate_left
        ·intro w'
         go_simp
         with_reducible rfl
        rotate_left
        ·simp only [Act.put, sa26, sz26, ss26, i64_w, i32_w]
         rfl
        refine pure_ (i:=19) (N:=some 42) (v:=?_) (a' := ?_) (bbg26 35 1048575) rfl rfl (any_of HT_.out (by kernel_rfl)) (fun _ _ _ h => h) (Or.inl ⟨by rfl, ?_⟩) ?_ ?_
        rotate_left
        ·intro w'
         go_simp
         with_reducible rfl
        rotate_left
        ·simp only [Act.put, sa26, sz26, ss26, i64_w, i32_w]
         rfl
        refine pure_ (i:=20) (N:=some 43) (v:=?_) (a' := ?_) (bbg26 35 2097151) rfl rfl (any_of HT_.out (by kernel_rfl)) (fun _ _ _ h => h) (Or.inl ⟨by rfl, ?_⟩) ?_ ?_
        rotate_left
        ·intro w'
         go_simp
         with_reducible rfl
        rotate_left
        ·simp only [Act.put, sa26, sz26, ss26, i64_w, i32_w]
         rfl
        refine pure_ (i:=21) (N:=some 44) (v:=?_) (a' := ?_) (bbg26 35 4194303) rfl rfl (any_of HT_.out (by kernel_rfl)) (fun _ _ _ h => h) (Or.inl ⟨by rfl, ?_⟩) ?_ ?_
        rotate_left
        ·intro w'
         go_simp
         with_reducible rfl
        rotate_left
        ·simp only [Act.put, sa26, sz26, ss26, i64_w, i32_w]
         rfl
        refine pure_ (i:=22) (N:=some 45) (v:=undef) (a' := ?_) (bbg26 35 8388607) rfl rfl (any_of HT_.out (by kernel_rfl)) (fun _ _ _ h => h) (Or.inr ⟨by rfl, rfl⟩) ?_ ?_
        rotate_left
        ·simp only [Act.put, sa26, sz26, ss26, i64_w, i32_w]
         rfl
        refine pure_ (i:=23) (N:=some 46) (v:=undef) (a' := ?_) (bbg26 35 16777215) rfl rfl (any_of HT_.out (by kernel_rfl)) (fun _ _ _ h => h) (Or.inr ⟨by rfl, rfl⟩) ?_ ?_
        rotate_left
        ·simp only [Act.put, sa26, sz26, ss26, i64_w, i32_w]
         rfl
        refine pure_ (i:=24) (N:=some 47) (v:=undef) (a' := ?_) (bbg26 35 33554431) rfl rfl (any_of HT_.out (by kernel_rfl)) (fun _ _ _ h => h) (Or.inr ⟨by rfl, rfl⟩) ?_ ?_
        rotate_left
        ·simp only [Act.put, sa26, sz26, ss26, i64_w, i32_w]
         rfl
        refine pure_ (i:=25) (N:=some 48) (v:=undef) (a' := ?_) (bbg26 35 67108863) rfl rfl (any_of HT_.out (by kernel_rfl)) (fun _ _ _ h => h) (Or.inr ⟨by rfl, rfl⟩) ?_ ?_
        rotate_left
        ·simp only [Act.put, sa26, sz26, ss26, i64_w, i32_w]
         rfl
        refine pure_ (i:=26) (N:=some 49) (v:=undef) (a' := ?_) (bbg26 35 134217727) rfl rfl (any_of HT_.out (by kernel_rfl)) (fun _ _ _ h => h) (Or.inr ⟨by rfl, rfl⟩) ?_ ?_
        rotate_left
        ·simp only [Act.put, sa26, sz26, ss26, i64_w, i32_w]
         rfl
        refine pure_ (i:=27) (N:=some 50) (v:=undef) (a' := ?_) (bbg26 35 268435455) rfl rfl (any_of HT_.out (by kernel_rfl)) (fun _ _ _ h => h) (Or.inr ⟨by rfl, rfl⟩) ?_ ?_
        rotate_left
        ·simp only [Act.put, sa26, sz26, ss26, i64_w, i32_w]
         rfl
        refine pure_ (i:=28) (N:=some 51) (v:=undef) (a' := ?_) (bbg26 35 536870911) rfl rfl (any_of HT_.out (by kernel_rfl)) (fun _ _ _ h => h) (Or.inr ⟨by rfl, rfl⟩) ?_ ?_
        rotate_left
        ·simp only [Act.put, sa26, sz26, ss26, i64_w, i32_w]
         rfl
        refine pure_ (i:=29) (N:=some 52) (v:=undef) (a' := ?_) (bbg26 35 1073741823) rfl rfl (any_of HT_.out (by kernel_rfl)) (fun _ _ _ h => h) (Or.inr ⟨by rfl, rfl⟩) ?_ ?_
        rotate_left
        ·simp only [Act.put, sa26, sz26, ss26, i64_w, i32_w]
         rfl
        refine pure_ (i:=30) (N:=some 53) (v:=undef) (a' := ?_) (bbg26 35 2147483647) rfl rfl (any_of HT_.out (by kernel_rfl)) (fun _ _ _ h => h) (Or.inr ⟨by rfl, rfl⟩) ?_ ?_
        rotate_left
        ·simp only [Act.put, sa26, sz26, ss26, i64_w, i32_w]
         rfl
        refine pure_ (i:=31) (N:=some 54) (v:=undef) (a' := ?_) (bbg26 35 4294967295) rfl rfl (any_of HT_.out (by kernel_rfl)) (fun _ _ _ h => h) (Or.inr ⟨by rfl, rfl⟩) ?_ ?_
        rotate_left
        ·simp only [Act.put, sa26, sz26, ss26, i64_w, i32_w]
         rfl
        refine pure_ (i:=32) (N:=some 55) (v:=undef) (a' := ?_) (bbg26 35 8589934591) rfl rfl (any_of HT_.out (by kernel_rfl)) (fun _ _ _ h => h) (Or.inr ⟨by rfl, rfl⟩) ?_ ?_
        rotate_left
        ·simp only [Act.put, sa26, sz26, ss26, i64_w, i32_w]
         rfl
        refine pure_ (i:=33) (N:=some 56) (v:=?_) (a' := ?_) (bbg26 35 17179869183) rfl rfl (any_of HT_.out (by kernel_rfl)) (fun _ _ _ h => h) (Or.inl ⟨by rfl, ?_⟩) ?_ ?_
        rotate_left
        ·intro w'
         go_simp
         with_reducible rfl
        rotate_left
        ·simp only [Act.put, sa26, sz26, ss26, i64_w, i32_w]
         rfl
        refine pure_ (i:=34) (N:=some 57) (v:=?_) (a' := ?_) (bbg26 35 34359738367) rfl rfl (any_of HT_.out (by kernel_rfl)) (fun _ _ _ h => h) (Or.inl ⟨by rfl, ?_⟩) ?_ ?_
        rotate_left
        ·intro w'
         go_simp
         with_reducible rfl
        rotate_left
        ·simp only [Act.put, sa26, sz26, ss26, i64_w, i32_w]
         rfl
        refine done_ (done_of HT_.out (by kernel_rfl)) ?_
        try go_wp2
        go_roundg k1
        case measure => have := HK1.out; omega
        case rel => exact ⟨(wrap64 (x6_1 + 1)), (by first | rfl | (simp; done) | (simp [*]; done)), H', ⟨by have := HK1.out; omega⟩, ⟨by repeat (first | (with_reducible first | exact HB.out | apply ba26 | apply bn26 | apply bd26) | exact HB.out)⟩⟩
      ·rw [if_neg c6] at H
       have c6b0 : ((rdOf ByteArray.empty l0 x6_1).toList == (rdOf ByteArray.empty l1 x6_1).toList) = false := beq_eq_false_iff_ne.mpr c6
       have c6b1 : ((rdOf ByteArray.empty l0 x6_1).toList != (rdOf ByteArray.empty l1 x6_1).toList) = true := bne_iff_ne.mpr c6
       exact absurd H (by simp)
     ·rw [if_neg c5] at H
      exact absurd H (by simp)
    ·rw [if_neg c4] at H
     have c4b0 : decide (x6_1 < (l1.length : Int)) = false := decide_eq_false c4
     clear c4
     by_cases c13 : x6_1 ≥ (l1.length : Int)
     ·rw [if_pos c13] at H
      have c13b0 : decide ((l1.length : Int) ≤ x6_1) = true := decide_eq_true c13
      clear c13
      by_cases c14 : 0 ≤ x6_1
      ·rw [if_pos c14] at H
       have c14b0 : decide (0 ≤ x6_1) = true := decide_eq_true c14
       clear c14
       replace H := Option.bind_eq_some_iff.mp H
       obtain ⟨t109, A150, H⟩ := H
       try dsimp only at H
       have A15 := Am26 A150
       clear A150
       by_cases c16 : ((rdOf ByteArray.empty l0 x6_1).toList = t109.toList)
       ·rw [if_pos c16] at H
        have c16b0 : ((rdOf ByteArray.empty l0 x6_1).toList == t109.toList) = true := beq_iff_eq.mpr c16
        have c16b1 : ((rdOf ByteArray.empty l0 x6_1).toList != t109.toList) = false := bne_eq_false_iff_eq.mpr c16
        clear c16
        have H' := Am26 H
        clear H
        try go_wp2
        replace HB := Am26 (bd26 HB.out)
        have p108 : 0 ≤ (x6_1 : Int) := of_decide_eq_true (by first | (with_reducible assumption) | assumption)
        have q108 : x6_1 < (l1.length : Int) + 12 := of_decide_eq_true (by first | (with_reducible assumption) | assumption)
        obtain ⟨ad108, e108, hx108_0⟩ := Kd.at_string HR0.out x6_1 p108 (by rw [HLEN.out]; exact q108)
        have hw108_0 := hx108_0
        cases e108
        replace hx108_0 := (HB.out.cell (World.block_lt_of_cell? w _ hx108_0)).trans hx108_0
        replace p108 := eq_true p108
        replace q108 := eq_true q108
        refine start_ (n:=35) (S:=fun w' => w'.cell? (ad108.add (x6_1).toNat) = some (.string (rdOf ByteArray.empty l0 x6_1))) (ds:=[]) (bbg26 35 0) (by kernel_rfl) rfl rfl (((HB.out.cell (World.block_lt_of_cell? w _ hw108_0)).trans hw108_0)) (fun hHeld => ?_); refine with_tabW keptT.tab7 keptT.bits7 (fun HT_ HW_ => ?_)
        generalize wr.drew = w17 at HB hx108_0 hHeld ⊢
        refine pure_ (i:=0) (N:=some 23) (v:=?_) (a' := ?_) (bbg26 35 1) rfl rfl (any_of HT_.out (by kernel_rfl)) (fun _ _ _ h => h) (Or.inl ⟨by rfl, ?_⟩) ?_ ?_
        rotate_left
        ·intro w'
         go_simp
         with_reducible rfl
        rotate_left
        ·simp only [Act.put, sa26, sz26, ss26, i64_w, i32_w]
         rfl
        refine pure_ (i:=1) (N:=some 24) (v:=?_) (a' := ?_) (bbg26 35 3) rfl rfl (any_of HT_.out (by kernel_rfl)) (fun _ _ _ h => h) (Or.inl ⟨by rfl, ?_⟩) ?_ ?_
        rotate_left
        ·intro w'
         go_simp
         with_reducible rfl
        rotate_left
        ·simp only [Act.put, sa26, sz26, ss26, i64_w, i32_w]
         rfl
        refine pure_ (i:=2) (N:=some 25) (v:=?_) (a' := ?_) (bbg26 35 7) rfl rfl (any_of HT_.out (by kernel_rfl)) (fun _ _ _ h => h) (Or.inl ⟨by rfl, ?_⟩) ?_ ?_
        rotate_left
        ·intro w'
         go_simp
         with_reducible rfl
        rotate_left
        ·simp only [Act.put, sa26, sz26, ss26, i64_w, i32_w]
         rfl
        refine pure_ (i:=3) (N:=some 26) (v:=?_) (a' := ?_) (bbg26 35 15) rfl rfl (any_of HT_.out (by kernel_rfl)) (fun _ _ _ h => h) (Or.inl ⟨by rfl, ?_⟩) ?_ ?_
        rotate_left
        ·intro w'
         go_simp
         with_reducible rfl
        rotate_left
        ·simp only [Act.put, sa26, sz26, ss26, i64_w, i32_w]
         rfl
        refine pure_ (i:=4) (N:=some 27) (v:=?_) (a' := ?_) (bbg26 35 31) rfl rfl (any_of HT_.out (by kernel_rfl)) (fun _ _ _ h => h) (Or.inl ⟨by rfl, ?_⟩) ?_ ?_
        rotate_left
        ·intro w'
         go_simp
         with_reducible rfl
        rotate_left
        ·simp only [Act.put, sa26, sz26, ss26, i64_w, i32_w]
         rfl
        refine pure_ (i:=5) (N:=some 28) (v:=undef) (a' := ?_) (bbg26 35 63) rfl rfl (any_of HT_.out (by kernel_rfl)) (fun _ _ _ h => h) (Or.inr ⟨by rfl, rfl⟩) ?_ ?_
        rotate_left
        ·simp only [Act.put, sa26, sz26, ss26, i64_w, i32_w]
         rfl
        refine pure_ (i:=6) (N:=some 29) (v:=undef) (a' := ?_) (bbg26 35 127) rfl rfl (any_of HT_.out (by kernel_rfl)) (fun _ _ _ h => h) (Or.inr ⟨by rfl, rfl⟩) ?_ ?_
        rotate_left
        ·simp only [Act.put, sa26, sz26, ss26, i64_w, i32_w]
         rfl
        refine pure_ (i:=7) (N:=some 30) (v:=undef) (a' := ?_) (bbg26 35 255) rfl rfl (any_of HT_.out (by kernel_rfl)) (fun _ _ _ h => h) (Or.inr ⟨by rfl, rfl⟩) ?_ ?_
        rotate_left
        ·simp only [Act.put, sa26, sz26, ss26, i64_w, i32_w]
         rfl
        refine pure_ (i:=8) (N:=some 31) (v:=undef) (a' := ?_) (bbg26 35 511) rfl rfl (any_of HT_.out (by kernel_rfl)) (fun _ _ _ h => h) (Or.inr ⟨by rfl, rfl⟩) ?_ ?_
        rotate_left
        ·simp only [Act.put, sa26, sz26, ss26, i64_w, i32_w]
         rfl
        refine pure_ (i:=9) (N:=some 32) (v:=undef) (a' := ?_) (bbg26 35 1023) rfl rfl (any_of HT_.out (by kernel_rfl)) (fun _ _ _ h => h) (Or.inr ⟨by rfl, rfl⟩) ?_ ?_
        rotate_left
        ·simp only [Act.put, sa26, sz26, ss26, i64_w, i32_w]
         rfl
        refine pure_ (i:=10) (N:=some 33) (v:=undef) (a' := ?_) (bbg26 35 2047) rfl rfl (any_of HT_.out (by kernel_rfl)) (fun _ _ _ h => h) (Or.inr ⟨by rfl, rfl⟩) ?_ ?_
        rotate_left
        ·simp only [Act.put, sa26, sz26, ss26, i64_w, i32_w]
         rfl
        refine pure_ (i:=11) (N:=some 34) (v:=undef) (a' := ?_) (bbg26 35 4095) rfl rfl (any_of HT_.out (by kernel_rfl)) (fun _ _ _ h => h) (Or.inr ⟨by rfl, rfl⟩) ?_ ?_
        rotate_left
        ·simp only [Act.put, sa26, sz26, ss26, i64_w, i32_w]
         rfl
        refine pure_ (i:=12) (N:=some 35) (v:=undef) (a' := ?_) (bbg26 35 8191) rfl rfl (any_of HT_.out (by kernel_rfl)) (fun _ _ _ h => h) (Or.inr ⟨by rfl, rfl⟩) ?_ ?_
        rotate_left
        ·simp only [Act.put, sa26, sz26, ss26, i64_w, i32_w]
         rfl
        refine pure_ (i:=13) (N:=some 36) (v:=undef) (a' := ?_) (bbg26 35 16383) rfl rfl (any_of HT_.out (by kernel_rfl)) (fun _ _ _ h => h) (Or.inr ⟨by rfl, rfl⟩) ?_ ?_
        rotate_left
        ·simp only [Act.put, sa26, sz26, ss26, i64_w, i32_w]
         rfl
        refine pure_ (i:=14) (N:=some 37) (v:=undef) (a' := ?_) (bbg26 35 32767) rfl rfl (any_of HT_.out (by kernel_rfl)) (fun _ _ _ h => h) (Or.inr ⟨by rfl, rfl⟩) ?_ ?_
        rotate_left
        ·simp only [Act.put, sa26, sz26, ss26, i64_w, i32_w]
         rfl
        refine pure_ (i:=15) (N:=some 38) (v:=?_) (a' := ?_) (bbg26 35 65535) rfl rfl (any_of HT_.out (by kernel_rfl)) (fun _ _ _ h => h) (Or.inl ⟨by rfl, ?_⟩) ?_ ?_
        rotate_left
        ·intro w'
         go_simp
         with_reducible rfl
        rotate_left
        ·simp only [Act.put, sa26, sz26, ss26, i64_w, i32_w]
         rfl
        refine pure_ (i:=16) (N:=some 39) (v:=?_) (a' := ?_) (bbg26 35 131071) rfl rfl (any_of HT_.out (by kernel_rfl)) (fun _ _ _ h => h) (Or.inl ⟨by rfl, ?_⟩) ?_ ?_
        rotate_left
        ·intro w'
         go_simp
         with_reducible rfl
        rotate_left
        ·simp only [Act.put, sa26, sz26, ss26, i64_w, i32_w]
         rfl
        refine pure_ (i:=17) (N:=some 40) (v:=?_) (a' := ?_) (bbg26 35 262143) rfl rfl (any_of HT_.out (by kernel_rfl)) (fun _ _ _ h => h) (Or.inl ⟨by rfl, ?_⟩) ?_ ?_
        rotate_left
        ·intro w'
         go_simp
         with_reducible rfl
        rotate_left
        ·simp only [Act.put, sa26, sz26, ss26, i64_w, i32_w]
         rfl
        refine pure_ (i:=18) (N:=some 41) (v:=?_) (a' := ?_) (bbg26 35 524287) rfl rfl (any_of HT_.out (by kernel_rfl)) (fun _ _ _ h => h) (Or.inl ⟨by rfl, ?_⟩) ?_ ?_
        rotate_left
        ·intro w'
         go_simp
         with_reducible rfl
        rotate_left
        ·simp only [Act.put, sa26, sz26, ss26, i64_w, i32_w]
         rfl
        refine pure_ (i:=19) (N:=some 42) (v:=?_) (a' := ?_) (bbg26 35 1048575) rfl rfl (any_of HT_.out (by kernel_rfl)) (fun _ _ _ h => h) (Or.inl ⟨by rfl, ?_⟩) ?_ ?_
        rotate_left
        ·intro w'
         go_simp
         with_reducible rfl
        rotate_left
        ·simp only [Act.put, sa26, sz26, ss26, i64_w, i32_w]
         rfl
        refine pure_ (i:=20) (N:=some 43) (v:=?_) (a' := ?_) (bbg26 35 2097151) rfl rfl (any_of HT_.out (by kernel_rfl)) (fun _ _ _ h => h) (Or.inl ⟨by rfl, ?_⟩) ?_ ?_
        rotate_left
        ·intro w'
         go_simp
         with_reducible rfl
        rotate_left
        ·simp only [Act.put, sa26, sz26, ss26, i64_w, i32_w]
         rfl
        refine pure_ (i:=21) (N:=some 44) (v:=?_) (a' := ?_) (bbg26 35 4194303) rfl rfl (any_of HT_.out (by kernel_rfl)) (fun _ _ _ h => h) (Or.inl ⟨by rfl, ?_⟩) ?_ ?_
        rotate_left
        ·intro w'
         go_simp
         with_reducible rfl
        rotate_left
        ·simp only [Act.put, sa26, sz26, ss26, i64_w, i32_w]
         rfl
        refine pure_ (i:=22) (N:=some 45) (v:=?_) (a' := ?_) (bbg26 35 8388607) rfl rfl (any_of HT_.out (by kernel_rfl)) (fun _ _ _ h => h) (Or.inl ⟨by rfl, ?_⟩) ?_ ?_
        rotate_left
        ·intro w'
         go_simp
         with_reducible rfl
        rotate_left
        ·simp only [Act.put, sa26, sz26, ss26, i64_w, i32_w]
         rfl
        refine pure_ (i:=23) (N:=some 46) (v:=?_) (a' := ?_) (bbg26 35 16777215) rfl rfl (any_of HT_.out (by kernel_rfl)) (fun _ _ _ h => h) (Or.inl ⟨by rfl, ?_⟩) ?_ ?_
        rotate_left
        ·intro w'
         go_simp
         with_reducible rfl
        rotate_left
        ·simp only [Act.put, sa26, sz26, ss26, i64_w, i32_w]
         rfl
        refine pure_ (i:=24) (N:=some 47) (v:=?_) (a' := ?_) (bbg26 35 33554431) rfl rfl (any_of HT_.out (by kernel_rfl)) (fun _ _ _ h => h) (Or.inl ⟨by rfl, ?_⟩) ?_ ?_
        rotate_left
        ·intro w'
         go_simp
         with_reducible rfl
        rotate_left
        ·simp only [Act.put, sa26, sz26, ss26, i64_w, i32_w]
         rfl
        refine pure_ (i:=26) (N:=some 49) (v:=?_) (a' := ?_) (bbg26 35 100663295) rfl rfl (any_of HT_.out (by kernel_rfl)) (fun _ _ _ h => h) (Or.inl ⟨by rfl, ?_⟩) ?_ ?_
        rotate_left
        ·intro w'
         go_simp
         with_reducible rfl
        rotate_left
        ·simp only [Act.put, sa26, sz26, ss26, i64_w, i32_w]
         rfl
        refine pure_ (i:=27) (N:=some 50) (v:=?_) (a' := ?_) (bbg26 35 234881023) rfl rfl (any_of HT_.out (by kernel_rfl)) (fun _ _ _ h => h) (Or.inl ⟨by rfl, ?_⟩) ?_ ?_
        rotate_left
        ·intro w'
         go_simp
         with_reducible rfl
        rotate_left
        ·simp only [Act.put, sa26, sz26, ss26, i64_w, i32_w]
         rfl
        refine pure_ (i:=28) (N:=some 51) (v:=?_) (a' := ?_) (bbg26 35 503316479) rfl rfl (any_of HT_.out (by kernel_rfl)) (fun _ _ _ h => h) (Or.inl ⟨by rfl, ?_⟩) ?_ ?_
        rotate_left
        ·intro w'
         go_simp
         with_reducible rfl
        rotate_left
        ·simp only [Act.put, sa26, sz26, ss26, i64_w, i32_w]
         rfl
        refine pure_ (i:=29) (N:=some 52) (v:=?_) (a' := ?_) (bbg26 35 1040187391) rfl rfl (any_of HT_.out (by kernel_rfl)) (fun _ _ _ h => h) (Or.inl ⟨by rfl, ?_⟩) ?_ ?_
        rotate_left
        ·intro w'
         go_simp
         with_reducible rfl
        rotate_left
        ·simp only [Act.put, sa26, sz26, ss26, i64_w, i32_w]
         rfl
        refine take_ (i:=25) (N:=some 48) (v:=?_) (a' := ?_) (bbg26 35 1073741823) rfl rfl (take_ofW HT_.out HW_.out (by kernel_rfl)) (fun _ _ _ h => h) (Or.inl ⟨by rfl, ?_⟩) hHeld ?_ ?_
        rotate_left
        ·intro w' s0
         go_simp
         with_reducible rfl
        rotate_left
        ·simp only [Act.put, sa26, sz26, ss26, i64_w, i32_w]
         rfl
        refine one_ (i:=30) (N:=some 53) (bbg26 35 2147483647) rfl rfl (one_of HT_.out (by kernel_rfl)) (by decide) (fun K hK => ?_)
        refine goes_ Try.func33 (by kernel_rfl) rfl #[.int .i64 1, .int .i64 (wrap64 (x6_1 - (l1.length : Int)))] (by rfl) rfl rfl (by (try simp only [ma26, mc26, mn26]); first | done | rfl | (simp only [ld26, lt_26]; rfl)) ?_
        with_reducible refine (watershedkit_markText.calls 1 (wrap64 (x6_1 - (l1.length : Int))) t109 _ A15.out).mono ?_
        rintro e w18 ⟨rfl, hb⟩
        refine ⟨_, rfl, ?_⟩
        have n0_ := Am26 (bp26 (by repeat (first | (with_reducible first | exact HB.out | apply ba26 | apply bn26 | apply bd26) | exact HB.out)) hb)
        clear HB
        have HB := n0_
        clear n0_
        (try clear hb)
        (try clear hb2)
        (try clear hk)
        (try clear hi)
        refine hK.out _ _ (((HB.out.cell (World.block_lt_of_cell? w _ hw108_0)).trans hw108_0)) (fun hHeld => ?_)
        clear hK K
        refine norm_ (a' := ?_) ?_ ?_
        rotate_left
        ·show Act.put _ (some 53) _ = _
         simp only [Act.put, sa26, sz26, ss26, i64_w, i32_w]
         rfl
        refine pure_ (i:=31) (N:=some 54) (v:=?_) (a' := ?_) (bbg26 35 4294967295) rfl rfl (any_of HT_.out (by kernel_rfl)) (fun _ _ _ h => h) (Or.inl ⟨by rfl, ?_⟩) ?_ ?_
        rotate_left
        ·intro w'
         go_simp
         with_reducible rfl
        rotate_left
        ·simp only [Act.put, sa26, sz26, ss26, i64_w, i32_w]
         rfl
        refine pure_ (i:=32) (N:=some 55) (v:=?_) (a' := ?_) (bbg26 35 8589934591) rfl rfl (any_of HT_.out (by kernel_rfl)) (fun _ _ _ h => h) (Or.inl ⟨by rfl, ?_⟩) ?_ ?_
        rotate_left
        ·intro w'
         go_simp
         with_reducible rfl
        rotate_left
        ·simp only [Act.put, sa26, sz26, ss26, i64_w, i32_w]
         rfl
        refine pure_ (i:=33) (N:=some 56) (v:=?_) (a' := ?_) (bbg26 35 17179869183) rfl rfl (any_of HT_.out (by kernel_rfl)) (fun _ _ _ h => h) (Or.inl ⟨by rfl, ?_⟩) ?_ ?_
        rotate_left
        ·intro w'
         go_simp
         with_reducible rfl
        rotate_left
        ·simp only [Act.put, sa26, sz26, ss26, i64_w, i32_w]
         rfl
        refine pure_ (i:=34) (N:=some 57) (v:=?_) (a' := ?_) (bbg26 35 34359738367) rfl rfl (any_of HT_.out (by kernel_rfl)) (fun _ _ _ h => h) (Or.inl ⟨by rfl, ?_⟩) ?_ ?_
        rotate_left
        ·intro w'
         go_simp
         with_reducible rfl
        rotate_left
        ·simp only [Act.put, sa26, sz26, ss26, i64_w, i32_w]
         rfl
        refine done_ (done_of HT_.out (by kernel_rfl)) ?_
        try go_wp2
        go_roundg k1
        case measure => have := HK1.out; omega
        case rel => exact ⟨(wrap64 (x6_1 + 1)), (by first | rfl | (simp; done) | (simp [*]; done)), H', ⟨by have := HK1.out; omega⟩, ⟨by repeat (first | (with_reducible first | exact HB.out | apply ba26 | apply bn26 | apply bd26) | exact HB.out)⟩⟩
       ·rw [if_neg c16] at H
        exact absurd H (by simp)
      ·rw [if_neg c14] at H
       exact absurd H (by simp)
     ·rw [if_neg c13] at H
      have c13b0 : decide ((l1.length : Int) ≤ x6_1) = false := decide_eq_false c13
      clear c13
      have H' := Am26 H
      clear H
      try go_wp2
      replace HB := Am26 (bd26 HB.out)
      refine start_ (n:=35) (S:=fun w' => True) (ds:=[]) (bbg26 35 0) (by kernel_rfl) rfl rfl trivial (fun hHeld => ?_); refine with_tabW keptT.tab7 keptT.bits7 (fun HT_ HW_ => ?_)
      generalize wr.drew = w19 at HB hHeld ⊢
      refine pure_ (i:=0) (N:=some 23) (v:=?_) (a' := ?_) (bbg26 35 1) rfl rfl (any_of HT_.out (by kernel_rfl)) (fun _ _ _ h => h) (Or.inl ⟨by rfl, ?_⟩) ?_ ?_
      rotate_left
      ·intro w'
       go_simp
       with_reducible rfl
      rotate_left
      ·simp only [Act.put, sa26, sz26, ss26, i64_w, i32_w]
       rfl
      refine pure_ (i:=1) (N:=some 24) (v:=?_) (a' := ?_) (bbg26 35 3) rfl rfl (any_of HT_.out (by kernel_rfl)) (fun _ _ _ h => h) (Or.inl ⟨by rfl, ?_⟩) ?_ ?_
      rotate_left
      ·intro w'
       go_simp
       with_reducible rfl
      rotate_left
      ·simp only [Act.put, sa26, sz26, ss26, i64_w, i32_w]
       rfl
      refine pure_ (i:=2) (N:=some 25) (v:=?_) (a' := ?_) (bbg26 35 7) rfl rfl (any_of HT_.out (by kernel_rfl)) (fun _ _ _ h => h) (Or.inl ⟨by rfl, ?_⟩) ?_ ?_
      rotate_left
      ·intro w'
       go_simp
       with_reducible rfl
      rotate_left
      ·simp only [Act.put, sa26, sz26, ss26, i64_w, i32_w]
       rfl
      refine pure_ (i:=3) (N:=some 26) (v:=?_) (a' := ?_) (bbg26 35 15) rfl rfl (any_of HT_.out (by kernel_rfl)) (fun _ _ _ h => h) (Or.inl ⟨by rfl, ?_⟩) ?_ ?_
      rotate_left
      ·intro w'
       go_simp
       with_reducible rfl
      rotate_left
      ·simp only [Act.put, sa26, sz26, ss26, i64_w, i32_w]
       rfl
      refine pure_ (i:=4) (N:=some 27) (v:=?_) (a' := ?_) (bbg26 35 31) rfl rfl (any_of HT_.out (by kernel_rfl)) (fun _ _ _ h => h) (Or.inl ⟨by rfl, ?_⟩) ?_ ?_
      rotate_left
      ·intro w'
       go_simp
       with_reducible rfl
      rotate_left
      ·simp only [Act.put, sa26, sz26, ss26, i64_w, i32_w]
       rfl
      refine pure_ (i:=5) (N:=some 28) (v:=undef) (a' := ?_) (bbg26 35 63) rfl rfl (any_of HT_.out (by kernel_rfl)) (fun _ _ _ h => h) (Or.inr ⟨by rfl, rfl⟩) ?_ ?_
      rotate_left
      ·simp only [Act.put, sa26, sz26, ss26, i64_w, i32_w]
       rfl
      refine pure_ (i:=6) (N:=some 29) (v:=undef) (a' := ?_) (bbg26 35 127) rfl rfl (any_of HT_.out (by kernel_rfl)) (fun _ _ _ h => h) (Or.inr ⟨by rfl, rfl⟩) ?_ ?_
      rotate_left
      ·simp only [Act.put, sa26, sz26, ss26, i64_w, i32_w]
       rfl
      refine pure_ (i:=7) (N:=some 30) (v:=undef) (a' := ?_) (bbg26 35 255) rfl rfl (any_of HT_.out (by kernel_rfl)) (fun _ _ _ h => h) (Or.inr ⟨by rfl, rfl⟩) ?_ ?_
      rotate_left
      ·simp only [Act.put, sa26, sz26, ss26, i64_w, i32_w]
       rfl
      refine pure_ (i:=8) (N:=some 31) (v:=undef) (a' := ?_) (bbg26 35 511) rfl rfl (any_of HT_.out (by kernel_rfl)) (fun _ _ _ h => h) (Or.inr ⟨by rfl, rfl⟩) ?_ ?_
      rotate_left
      ·simp only [Act.put, sa26, sz26, ss26, i64_w, i32_w]
       rfl
      refine pure_ (i:=9) (N:=some 32) (v:=undef) (a' := ?_) (bbg26 35 1023) rfl rfl (any_of HT_.out (by kernel_rfl)) (fun _ _ _ h => h) (Or.inr ⟨by rfl, rfl⟩) ?_ ?_
      rotate_left
      ·simp only [Act.put, sa26, sz26, ss26, i64_w, i32_w]
       rfl
      refine pure_ (i:=10) (N:=some 33) (v:=undef) (a' := ?_) (bbg26 35 2047) rfl rfl (any_of HT_.out (by kernel_rfl)) (fun _ _ _ h => h) (Or.inr ⟨by rfl, rfl⟩) ?_ ?_
      rotate_left
      ·simp only [Act.put, sa26, sz26, ss26, i64_w, i32_w]
       rfl
      refine pure_ (i:=11) (N:=some 34) (v:=undef) (a' := ?_) (bbg26 35 4095) rfl rfl (any_of HT_.out (by kernel_rfl)) (fun _ _ _ h => h) (Or.inr ⟨by rfl, rfl⟩) ?_ ?_
      rotate_left
      ·simp only [Act.put, sa26, sz26, ss26, i64_w, i32_w]
       rfl
      refine pure_ (i:=12) (N:=some 35) (v:=undef) (a' := ?_) (bbg26 35 8191) rfl rfl (any_of HT_.out (by kernel_rfl)) (fun _ _ _ h => h) (Or.inr ⟨by rfl, rfl⟩) ?_ ?_
      rotate_left
      ·simp only [Act.put, sa26, sz26, ss26, i64_w, i32_w]
       rfl
      refine pure_ (i:=13) (N:=some 36) (v:=undef) (a' := ?_) (bbg26 35 16383) rfl rfl (any_of HT_.out (by kernel_rfl)) (fun _ _ _ h => h) (Or.inr ⟨by rfl, rfl⟩) ?_ ?_
      rotate_left
      ·simp only [Act.put, sa26, sz26, ss26, i64_w, i32_w]
       rfl
      refine pure_ (i:=14) (N:=some 37) (v:=undef) (a' := ?_) (bbg26 35 32767) rfl rfl (any_of HT_.out (by kernel_rfl)) (fun _ _ _ h => h) (Or.inr ⟨by rfl, rfl⟩) ?_ ?_
      rotate_left
      ·simp only [Act.put, sa26, sz26, ss26, i64_w, i32_w]
       rfl
      refine pure_ (i:=15) (N:=some 38) (v:=?_) (a' := ?_) (bbg26 35 65535) rfl rfl (any_of HT_.out (by kernel_rfl)) (fun _ _ _ h => h) (Or.inl ⟨by rfl, ?_⟩) ?_ ?_
      rotate_left
      ·intro w'
       go_simp
       with_reducible rfl
      rotate_left
      ·simp only [Act.put, sa26, sz26, ss26, i64_w, i32_w]
       rfl
      refine pure_ (i:=16) (N:=some 39) (v:=?_) (a' := ?_) (bbg26 35 131071) rfl rfl (any_of HT_.out (by kernel_rfl)) (fun _ _ _ h => h) (Or.inl ⟨by rfl, ?_⟩) ?_ ?_
      rotate_left
      ·intro w'
       go_simp
       with_reducible rfl
      rotate_left
      ·simp only [Act.put, sa26, sz26, ss26, i64_w, i32_w]
       rfl
      refine pure_ (i:=17) (N:=some 40) (v:=?_) (a' := ?_) (bbg26 35 262143) rfl rfl (any_of HT_.out (by kernel_rfl)) (fun _ _ _ h => h) (Or.inl ⟨by rfl, ?_⟩) ?_ ?_
      rotate_left
      ·intro w'
       go_simp
       with_reducible rfl
      rotate_left
      ·simp only [Act.put, sa26, sz26, ss26, i64_w, i32_w]
       rfl
      refine pure_ (i:=18) (N:=some 41) (v:=?_) (a' := ?_) (bbg26 35 524287) rfl rfl (any_of HT_.out (by kernel_rfl)) (fun _ _ _ h => h) (Or.inl ⟨by rfl, ?_⟩) ?_ ?_
      rotate_left
      ·intro w'
       go_simp
       with_reducible rfl
      rotate_left
      ·simp only [Act.put, sa26, sz26, ss26, i64_w, i32_w]
       rfl
      refine pure_ (i:=19) (N:=some 42) (v:=?_) (a' := ?_) (bbg26 35 1048575) rfl rfl (any_of HT_.out (by kernel_rfl)) (fun _ _ _ h => h) (Or.inl ⟨by rfl, ?_⟩) ?_ ?_
      rotate_left
      ·intro w'
       go_simp
       with_reducible rfl
      rotate_left
      ·simp only [Act.put, sa26, sz26, ss26, i64_w, i32_w]
       rfl
      refine pure_ (i:=20) (N:=some 43) (v:=?_) (a' := ?_) (bbg26 35 2097151) rfl rfl (any_of HT_.out (by kernel_rfl)) (fun _ _ _ h => h) (Or.inl ⟨by rfl, ?_⟩) ?_ ?_
      rotate_left
      ·intro w'
       go_simp
       with_reducible rfl
      rotate_left
      ·simp only [Act.put, sa26, sz26, ss26, i64_w, i32_w]
       rfl
      refine pure_ (i:=21) (N:=some 44) (v:=?_) (a' := ?_) (bbg26 35 4194303) rfl rfl (any_of HT_.out (by kernel_rfl)) (fun _ _ _ h => h) (Or.inl ⟨by rfl, ?_⟩) ?_ ?_
      rotate_left
      ·intro w'
       go_simp
       with_reducible rfl
      rotate_left
      ·simp only [Act.put, sa26, sz26, ss26, i64_w, i32_w]
       rfl
      refine pure_ (i:=22) (N:=some 45) (v:=undef) (a' := ?_) (bbg26 35 8388607) rfl rfl (any_of HT_.out (by kernel_rfl)) (fun _ _ _ h => h) (Or.inr ⟨by rfl, rfl⟩) ?_ ?_
      rotate_left
      ·simp only [Act.put, sa26, sz26, ss26, i64_w, i32_w]
       rfl
      refine pure_ (i:=23) (N:=some 46) (v:=undef) (a' := ?_) (bbg26 35 16777215) rfl rfl (any_of HT_.out (by kernel_rfl)) (fun _ _ _ h => h) (Or.inr ⟨by rfl, rfl⟩) ?_ ?_
      rotate_left
      ·simp only [Act.put, sa26, sz26, ss26, i64_w, i32_w]
       rfl
      refine pure_ (i:=24) (N:=some 47) (v:=undef) (a' := ?_) (bbg26 35 33554431) rfl rfl (any_of HT_.out (by kernel_rfl)) (fun _ _ _ h => h) (Or.inr ⟨by rfl, rfl⟩) ?_ ?_
      rotate_left
      ·simp only [Act.put, sa26, sz26, ss26, i64_w, i32_w]
       rfl
      refine pure_ (i:=25) (N:=some 48) (v:=undef) (a' := ?_) (bbg26 35 67108863) rfl rfl (any_of HT_.out (by kernel_rfl)) (fun _ _ _ h => h) (Or.inr ⟨by rfl, rfl⟩) ?_ ?_
      rotate_left
      ·simp only [Act.put, sa26, sz26, ss26, i64_w, i32_w]
       rfl
      refine pure_ (i:=26) (N:=some 49) (v:=undef) (a' := ?_) (bbg26 35 134217727) rfl rfl (any_of HT_.out (by kernel_rfl)) (fun _ _ _ h => h) (Or.inr ⟨by rfl, rfl⟩) ?_ ?_
      rotate_left
      ·simp only [Act.put, sa26, sz26, ss26, i64_w, i32_w]
       rfl
      refine pure_ (i:=27) (N:=some 50) (v:=undef) (a' := ?_) (bbg26 35 268435455) rfl rfl (any_of HT_.out (by kernel_rfl)) (fun _ _ _ h => h) (Or.inr ⟨by rfl, rfl⟩) ?_ ?_
      rotate_left
      ·simp only [Act.put, sa26, sz26, ss26, i64_w, i32_w]
       rfl
      refine pure_ (i:=28) (N:=some 51) (v:=undef) (a' := ?_) (bbg26 35 536870911) rfl rfl (any_of HT_.out (by kernel_rfl)) (fun _ _ _ h => h) (Or.inr ⟨by rfl, rfl⟩) ?_ ?_
      rotate_left
      ·simp only [Act.put, sa26, sz26, ss26, i64_w, i32_w]
       rfl
      refine pure_ (i:=29) (N:=some 52) (v:=undef) (a' := ?_) (bbg26 35 1073741823) rfl rfl (any_of HT_.out (by kernel_rfl)) (fun _ _ _ h => h) (Or.inr ⟨by rfl, rfl⟩) ?_ ?_
      rotate_left
      ·simp only [Act.put, sa26, sz26, ss26, i64_w, i32_w]
       rfl
      refine pure_ (i:=30) (N:=some 53) (v:=undef) (a' := ?_) (bbg26 35 2147483647) rfl rfl (any_of HT_.out (by kernel_rfl)) (fun _ _ _ h => h) (Or.inr ⟨by rfl, rfl⟩) ?_ ?_
      rotate_left
      ·simp only [Act.put, sa26, sz26, ss26, i64_w, i32_w]
       rfl
      refine pure_ (i:=31) (N:=some 54) (v:=undef) (a' := ?_) (bbg26 35 4294967295) rfl rfl (any_of HT_.out (by kernel_rfl)) (fun _ _ _ h => h) (Or.inr ⟨by rfl, rfl⟩) ?_ ?_
      rotate_left
      ·simp only [Act.put, sa26, sz26, ss26, i64_w, i32_w]
       rfl
      refine pure_ (i:=32) (N:=some 55) (v:=undef) (a' := ?_) (bbg26 35 8589934591) rfl rfl (any_of HT_.out (by kernel_rfl)) (fun _ _ _ h => h) (Or.inr ⟨by rfl, rfl⟩) ?_ ?_
      rotate_left
      ·simp only [Act.put, sa26, sz26, ss26, i64_w, i32_w]
       rfl
      refine pure_ (i:=33) (N:=some 56) (v:=?_) (a' := ?_) (bbg26 35 17179869183) rfl rfl (any_of HT_.out (by kernel_rfl)) (fun _ _ _ h => h) (Or.inl ⟨by rfl, ?_⟩) ?_ ?_
      rotate_left
      ·intro w'
       go_simp
       with_reducible rfl
      rotate_left
      ·simp only [Act.put, sa26, sz26, ss26, i64_w, i32_w]
       rfl
      refine pure_ (i:=34) (N:=some 57) (v:=?_) (a' := ?_) (bbg26 35 34359738367) rfl rfl (any_of HT_.out (by kernel_rfl)) (fun _ _ _ h => h) (Or.inl ⟨by rfl, ?_⟩) ?_ ?_
      rotate_left
      ·intro w'
       go_simp
       with_reducible rfl
      rotate_left
      ·simp only [Act.put, sa26, sz26, ss26, i64_w, i32_w]
       rfl
      refine done_ (done_of HT_.out (by kernel_rfl)) ?_
      try go_wp2
      go_roundg k1
      case measure => have := HK1.out; omega
      case rel => exact ⟨(wrap64 (x6_1 + 1)), (by first | rfl | (simp; done) | (simp [*]; done)), H', ⟨by have := HK1.out; omega⟩, ⟨by repeat (first | (with_reducible first | exact HB.out | apply ba26 | apply bn26 | apply bd26) | exact HB.out)⟩⟩
   ·rw [if_neg c3] at H
    have c3b0 : decide (x6_1 < (l1.length : Int) + 12) = false := decide_eq_false c3
    clear c3
    obtain rfl := Option.some.inj H
    go_wp2
    go_ret
    exact ⟨by first | rfl | (simp [errW_none, errW_some] <;> rfl) | (simp [*, errW_none, errW_some] <;> rfl), by repeat (first | (with_reducible first | exact HB.out | apply ba26 | apply bn26 | apply bd26) | exact HB.out)⟩

end Go.Proofs.Ytbmnhpihlkljdaa.P04e
