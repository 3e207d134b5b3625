-- Written by gprint.py, a program of this session, over the kit's print; the functions of my own contracts are marked GIVEN
import Derived.Test.YtkilmclncpmjnaaZQAP06tx0
import Derived.Test.YtkilmclncpmjnaaZQAP06tx1
import Derived.Test.YtkilmclncpmjnaaZQAP06tx2
import Derived.Test.YtkilmclncpmjnaaZQAP06tx3
import Derived.Test.YtkilmclncpmjnaaZQAP06tx4
namespace Go.Proofs.Ytkilmclncpmjnaa.P06t
open Go.RowKit Go.Proofs.YtkilmclncpmjnaaW.PrintWords Go.Proofs.YtkilmclncpmjnaaW.PrintLast Go.Proofs.YtkilmclncpmjnaaW.PrintMore
attribute [local go_sem] max2_int min2_int max_two min_two max_three min_three max_four min_four   -- for this text's walks alone
set_option linter.unusedVariables false
set_option linter.unusedSimpArgs false

theorem Am22 : type_of% @Aside0.mk := @Aside0.mk
theorem ba22 : type_of% @below_alloc := @below_alloc
theorem bn22 : type_of% @pw_below_drewN := @pw_below_drewN
theorem bd22 : type_of% @below_drew1 := @below_drew1
theorem bs22 : type_of% @below_set := @below_set
theorem kn22 : type_of% @blk_drewN := @blk_drewN
theorem kd22 : type_of% @blk_drew := @blk_drew
theorem ka22 : type_of% @blk_alloc := @blk_alloc
theorem kb22 : type_of% @blk_below := @blk_below
theorem bz22 : type_of% @below_size := @below_size
theorem bp22 : type_of% @below_step := @below_step
theorem kc22 : type_of% @blk_cell := @blk_cell
theorem kz22 : type_of% @blk_frozen := @blk_frozen
theorem ma22 : type_of% @List.map_toArray := @List.map_toArray
theorem mc22 : type_of% @List.map_cons := @List.map_cons
theorem mn22 : type_of% @List.map_nil := @List.map_nil
theorem ld22 : type_of% @List.length_drop := @List.length_drop
theorem lt_22 : type_of% @List.length_take := @List.length_take
/-! ### watershedlaw06_same: function 22 -/
def watershedlaw06_same.f (k : Nat) (l0_0 : List Int) (l0_1 : List Int) (l0_2 : List Int) (l0_3 : List Int) (l1_0 : List Int) (l1_1 : List Int) (l1_2 : List Int) (l1_3 : List Int) : Option (Bool) := (watershedkit_SameConfig.f k l0_0 l0_1 l0_2 l0_3 l1_0 l1_1 l1_2 l1_3).bind fun t174 => (some t174)
theorem watershedlaw06_same.mono : ∀ a0 a1 a2 a3 a4 a5 a6 a7 k, LeO (watershedlaw06_same.f k a0 a1 a2 a3 a4 a5 a6 a7) (watershedlaw06_same.f (k + 1) a0 a1 a2 a3 a4 a5 a6 a7) := by
 intro a0 a1 a2 a3 a4 a5 a6 a7 k
 unfold watershedlaw06_same.f
 repeat' first
   | (with_reducible exact watershedkit_SameConfig.mono _ _ _ _ _ _ _ _ _)
   | (with_reducible exact LeO.refl _)
   | (with_reducible exact LeO.none _)
   | (with_reducible refine LeO.ite ?_ ?_)
   | (with_reducible refine LeO.bind ?_ (fun _ => ?_))
   | exact watershedkit_SameConfig.mono _ _ _ _ _ _ _ _ _
   | exact LeO.none _
   | refine LeO.ite ?_ ?_
   | refine LeO.bind ?_ (fun _ => ?_)
set_option maxHeartbeats 8000000 in
set_option maxRecDepth 100000 in
theorem watershedlaw06_same.calls (k : Nat) (A0_0 : Option Addr) (c0_0 : Nat) (l0_0 : List Int) (A0_1 : Option Addr) (c0_1 : Nat) (l0_1 : List Int) (A0_2 : Option Addr) (c0_2 : Nat) (l0_2 : List Int) (A0_3 : Option Addr) (c0_3 : Nat) (l0_3 : List Int) (A1_0 : Option Addr) (c1_0 : Nat) (l1_0 : List Int) (A1_1 : Option Addr) (c1_1 : Nat) (l1_1 : List Int) (A1_2 : Option Addr) (c1_2 : Nat) (l1_2 : List Int) (A1_3 : Option Addr) (c1_3 : Nat) (l1_3 : List Int) (r : Bool) (w : World) (hr0_0 : Kd.C (Kd.int .i64) w A0_0 l0_0.length l0_0) (hc0_0 : l0_0.length ≤ c0_0) (hr0_1 : Kd.C (Kd.int .i64) w A0_1 l0_1.length l0_1) (hc0_1 : l0_1.length ≤ c0_1) (hr0_2 : Kd.C (Kd.int .i64) w A0_2 l0_2.length l0_2) (hc0_2 : l0_2.length ≤ c0_2) (hr0_3 : Kd.C (Kd.int .i64) w A0_3 l0_3.length l0_3) (hc0_3 : l0_3.length ≤ c0_3) (hr1_0 : Kd.C (Kd.int .i64) w A1_0 l1_0.length l1_0) (hc1_0 : l1_0.length ≤ c1_0) (hr1_1 : Kd.C (Kd.int .i64) w A1_1 l1_1.length l1_1) (hc1_1 : l1_1.length ≤ c1_1) (hr1_2 : Kd.C (Kd.int .i64) w A1_2 l1_2.length l1_2) (hc1_2 : l1_2.length ≤ c1_2) (hr1_3 : Kd.C (Kd.int .i64) w A1_3 l1_3.length l1_3) (hc1_3 : l1_3.length ≤ c1_3) (h : watershedlaw06_same.f k l0_0 l0_1 l0_2 l0_3 l1_0 l1_1 l1_2 l1_3 = some r) :
  Calls Try.prog 22 #[.agg #[.slice A0_0 l0_0.length c0_0, .slice A0_1 l0_1.length c0_1, .slice A0_2 l0_2.length c0_2, .slice A0_3 l0_3.length c0_3], .agg #[.slice A1_0 l1_0.length c1_0, .slice A1_1 l1_1.length c1_1, .slice A1_2 l1_2.length c1_2, .slice A1_3 l1_3.length c1_3]] w fun e w' => e = .returned (.bool r) ∧ Below w.heap.size w w' := by
 have hu24 := Try.underlying24
 have HR0_0 := Am22 hr0_0
 have HC0_0 := Am22 hc0_0
 clear hr0_0 hc0_0
 have HR0_1 := Am22 hr0_1
 have HC0_1 := Am22 hc0_1
 clear hr0_1 hc0_1
 have HR0_2 := Am22 hr0_2
 have HC0_2 := Am22 hc0_2
 clear hr0_2 hc0_2
 have HR0_3 := Am22 hr0_3
 have HC0_3 := Am22 hc0_3
 clear hr0_3 hc0_3
 have HR1_0 := Am22 hr1_0
 have HC1_0 := Am22 hc1_0
 clear hr1_0 hc1_0
 have HR1_1 := Am22 hr1_1
 have HC1_1 := Am22 hc1_1
 clear hr1_1 hc1_1
 have HR1_2 := Am22 hr1_2
 have HC1_2 := Am22 hc1_2
 clear hr1_2 hc1_2
 have HR1_3 := Am22 hr1_3
 have HC1_3 := Am22 hc1_3
 clear hr1_3 hc1_3
 have HB := Am22 (Below.refl w.heap.size w)
 have H : ((watershedkit_SameConfig.f k l0_0 l0_1 l0_2 l0_3 l1_0 l1_1 l1_2 l1_3).bind fun t174 => (some t174)) = some r := h
 clear h
 replace H := Option.bind_eq_some_iff.mp H
 obtain ⟨t174, A30, H⟩ := H
 try dsimp only at H
 have A3 := Am22 A30
 clear A30
 obtain rfl := Option.some.inj H
 go_enter Try.func22, Try.ntmps22
 go_wp2_with (first | ((with_reducible refine gate_dst (N:=2) rfl ?_); refine box_event ?hg (N:=2) ?hd (cs:=#[.slice A0_0 l0_0.length c0_0, .slice A0_1 l0_1.length c0_1, .slice A0_2 l0_2.length c0_2, .slice A0_3 l0_3.length c0_3]) (t:=24) ?hr ?_; (case hd => rfl); (case hg => rfl); (case hr => first | (go_simp; done) | (go_simp; rfl)); intro gb172 hg w4 hbox hb; have BK172 := Am22 (hbox); have GW172 := Am22 ((by rw [hg]; exact (bz22 (by repeat (first | (with_reducible first | exact HB.out | apply ba22 | apply bn22 | apply bd22) | exact HB.out))) : w.heap.size ≤ gb172)); have GE172 := Am22 ((by rw [hg]; exact (bz22 (by repeat (first | (with_reducible first | exact HB.out | apply ba22 | apply bn22 | apply bd22) | exact HB.out))) : w.heap.size ≤ gb172)); replace HB := Am22 (bp22 (by repeat (first | (with_reducible first | exact HB.out | apply ba22 | apply bn22 | apply bd22) | exact HB.out)) hb); clear hb hbox hg) | ((with_reducible refine gate_dst (N:=3) rfl ?_); refine box_event ?hg (N:=3) ?hd (cs:=#[.slice A1_0 l1_0.length c1_0, .slice A1_1 l1_1.length c1_1, .slice A1_2 l1_2.length c1_2, .slice A1_3 l1_3.length c1_3]) (t:=24) ?hr ?_; (case hd => rfl); (case hg => rfl); (case hr => first | (go_simp; done) | (go_simp; rfl)); intro gb173 hg w5 hbox hb; have BK173 := Am22 (hbox); have GW173 := Am22 ((by rw [hg]; exact (bz22 (by repeat (first | (with_reducible first | exact HB.out | apply ba22 | apply bn22 | apply bd22 | refine bs22 ?_ GE172.out) | exact HB.out))) : w.heap.size ≤ gb173)); have GE173 := Am22 ((by rw [hg]; exact (bz22 (by repeat (first | (with_reducible first | exact HB.out | apply ba22 | apply bn22 | apply bd22 | refine bs22 ?_ GE172.out) | exact HB.out))) : w.heap.size ≤ gb173)); replace HB := Am22 (bp22 (by repeat (first | (with_reducible first | exact HB.out | apply ba22 | apply bn22 | apply bd22 | refine bs22 ?_ GE172.out) | exact HB.out)) hb); have NB172_173 := Am22 ((by rw [hg]; exact Nat.ne_of_lt (blk_lt (g:=gb172) (o:=.cells #[.slice A0_0 l0_0.length c0_0, .slice A0_1 l0_1.length c0_1, .slice A0_2 l0_2.length c0_2, .slice A0_3 l0_3.length c0_3] 24 (0, 0)) (by (with_reducible repeat first | apply kn22 | apply kd22 | apply ka22); exact BK172.out)) : gb172 ≠ gb173)); have NB173_172 := Am22 ((by rw [hg]; exact Nat.ne_of_gt (blk_lt (g:=gb172) (o:=.cells #[.slice A0_0 l0_0.length c0_0, .slice A0_1 l0_1.length c0_1, .slice A0_2 l0_2.length c0_2, .slice A0_3 l0_3.length c0_3] 24 (0, 0)) (by (with_reducible repeat first | apply kn22 | apply kd22 | apply ka22); exact BK172.out)) : gb173 ≠ gb172)); replace BK172 := Am22 (kb22 (g:=gb172) (o:=.cells #[.slice A0_0 l0_0.length c0_0, .slice A0_1 l0_1.length c0_1, .slice A0_2 l0_2.length c0_2, .slice A0_3 l0_3.length c0_3] 24 (0, 0)) (by (with_reducible repeat first | apply kn22 | apply kd22 | apply ka22); exact BK172.out) hb); clear hb hbox hg; have hnb6 := NB172_173.out; have hnc6 := NB173_172.out; have hcz7_0 : w5.cell? ⟨gb172, 0, none⟩ = some (.slice A0_0 l0_0.length c0_0) := (kc22 BK172.out 0).trans rfl; have hcz7_1 : w5.cell? ⟨gb172, 1, none⟩ = some (.slice A0_1 l0_1.length c0_1) := (kc22 BK172.out 1).trans rfl; have hcz7_2 : w5.cell? ⟨gb172, 2, none⟩ = some (.slice A0_2 l0_2.length c0_2) := (kc22 BK172.out 2).trans rfl; have hcz7_3 : w5.cell? ⟨gb172, 3, none⟩ = some (.slice A0_3 l0_3.length c0_3) := (kc22 BK172.out 3).trans rfl; have hfz7_0 := kz22 BK172.out 0; have hfz7_1 := kz22 BK172.out 1; have hfz7_2 := kz22 BK172.out 2; have hfz7_3 := kz22 BK172.out 3; have hcz8_0 : w5.cell? ⟨gb173, 0, none⟩ = some (.slice A1_0 l1_0.length c1_0) := (kc22 BK173.out 0).trans rfl; have hcz8_1 : w5.cell? ⟨gb173, 1, none⟩ = some (.slice A1_1 l1_1.length c1_1) := (kc22 BK173.out 1).trans rfl; have hcz8_2 : w5.cell? ⟨gb173, 2, none⟩ = some (.slice A1_2 l1_2.length c1_2) := (kc22 BK173.out 2).trans rfl; have hcz8_3 : w5.cell? ⟨gb173, 3, none⟩ = some (.slice A1_3 l1_3.length c1_3) := (kc22 BK173.out 3).trans rfl; have hfz8_0 := kz22 BK173.out 0; have hfz8_1 := kz22 BK173.out 1; have hfz8_2 := kz22 BK173.out 2; have hfz8_3 := kz22 BK173.out 3) | ((with_reducible refine gate_callee (f:=13) rfl ?_); refine goesL_ (some 7) rfl rfl Try.func13 (by kernel_rfl) rfl #[.agg #[.slice A0_0 l0_0.length c0_0, .slice A0_1 l0_1.length c0_1, .slice A0_2 l0_2.length c0_2, .slice A0_3 l0_3.length c0_3], .agg #[.slice A1_0 l1_0.length c1_0, .slice A1_1 l1_1.length c1_1, .slice A1_2 l1_2.length c1_2, .slice A1_3 l1_3.length c1_3]] rfl (by (try simp only [ma22, mc22, mn22]); first | done | rfl | (simp only [ld22, lt_22]; rfl)) ?_; (with_reducible refine (watershedkit_SameConfig.calls k _ _ l0_0 _ _ l0_1 _ _ l0_2 _ _ l0_3 _ _ l1_0 _ _ l1_1 _ _ l1_2 _ _ l1_3 t174 _ ?side1 ?side2 ?side3 ?side4 ?side5 ?side6 ?side7 ?side8 ?side9 ?side10 ?side11 ?side12 ?side13 ?side14 ?side15 ?side16 A3.out).mono ?_); (case side1 => repeat (first | exact (Kd.C_below HR0_0.out HB.out) | (with_reducible refine Kd.C_alloc ?_ _) | (with_reducible refine Kd.C_drewN ?_ _) | (with_reducible refine Kd.C_drew ?_))); (case side2 => exact HC0_0.out); (case side3 => repeat (first | exact (Kd.C_below HR0_1.out HB.out) | (with_reducible refine Kd.C_alloc ?_ _) | (with_reducible refine Kd.C_drewN ?_ _) | (with_reducible refine Kd.C_drew ?_))); (case side4 => exact HC0_1.out); (case side5 => repeat (first | exact (Kd.C_below HR0_2.out HB.out) | (with_reducible refine Kd.C_alloc ?_ _) | (with_reducible refine Kd.C_drewN ?_ _) | (with_reducible refine Kd.C_drew ?_))); (case side6 => exact HC0_2.out); (case side7 => repeat (first | exact (Kd.C_below HR0_3.out HB.out) | (with_reducible refine Kd.C_alloc ?_ _) | (with_reducible refine Kd.C_drewN ?_ _) | (with_reducible refine Kd.C_drew ?_))); (case side8 => exact HC0_3.out); (case side9 => repeat (first | exact (Kd.C_below HR1_0.out HB.out) | (with_reducible refine Kd.C_alloc ?_ _) | (with_reducible refine Kd.C_drewN ?_ _) | (with_reducible refine Kd.C_drew ?_))); (case side10 => exact HC1_0.out); (case side11 => repeat (first | exact (Kd.C_below HR1_1.out HB.out) | (with_reducible refine Kd.C_alloc ?_ _) | (with_reducible refine Kd.C_drewN ?_ _) | (with_reducible refine Kd.C_drew ?_))); (case side12 => exact HC1_1.out); (case side13 => repeat (first | exact (Kd.C_below HR1_2.out HB.out) | (with_reducible refine Kd.C_alloc ?_ _) | (with_reducible refine Kd.C_drewN ?_ _) | (with_reducible refine Kd.C_drew ?_))); (case side14 => exact HC1_2.out); (case side15 => repeat (first | exact (Kd.C_below HR1_3.out HB.out) | (with_reducible refine Kd.C_alloc ?_ _) | (with_reducible refine Kd.C_drewN ?_ _) | (with_reducible refine Kd.C_drew ?_))); (case side16 => exact HC1_3.out); rintro e w9 ⟨rfl, hb⟩; refine ⟨_, rfl, ?_⟩; replace BK172 := Am22 (kb22 (g:=gb172) (o:=.cells #[.slice A0_0 l0_0.length c0_0, .slice A0_1 l0_1.length c0_1, .slice A0_2 l0_2.length c0_2, .slice A0_3 l0_3.length c0_3] 24 (0, 0)) (by (with_reducible repeat first | apply kn22 | apply kd22 | apply ka22); exact BK172.out) hb); replace BK173 := Am22 (kb22 (g:=gb173) (o:=.cells #[.slice A1_0 l1_0.length c1_0, .slice A1_1 l1_1.length c1_1, .slice A1_2 l1_2.length c1_2, .slice A1_3 l1_3.length c1_3] 24 (0, 0)) (by (with_reducible repeat first | apply kn22 | apply kd22 | apply ka22); exact BK173.out) hb); replace HB := Am22 (bp22 (by repeat (first | (with_reducible first | exact HB.out | apply ba22 | apply bn22 | apply bd22 | refine bs22 ?_ GE172.out | refine bs22 ?_ GE173.out) | exact HB.out)) hb); (try clear hb); (try clear hb2); (try clear hk); (try clear hi)))
 go_ret
 exact ⟨by first | rfl | (simp [errW_none, errW_some] <;> rfl) | (simp [*, errW_none, errW_some] <;> rfl), by repeat (first | (with_reducible first | exact HB.out | apply ba22 | apply bn22 | apply bd22 | refine bs22 ?_ GE172.out | refine bs22 ?_ GE173.out) | exact HB.out)⟩

/-! ### watershedlaw06_awake: function 7 -/
-- GIVEN
theorem Amg7 : type_of% @Aside0.mk := @Aside0.mk
theorem bag7 : type_of% @below_alloc := @below_alloc
theorem kbg7 : type_of% @blk_below := @blk_below
theorem bpg7 : type_of% @below_step := @below_step
theorem kcg7 : type_of% @blk_cell := @blk_cell
def watershedlaw06_awake.f : Option Bool := some true
theorem aw_begin : quorum_Begin.f 10 [1, 2, 3] [] [] [] [3, 4] = some ([1, 2, 3], [], [4], [3, 4], 0) := by decide +kernel
theorem aw_next1 : quorum_Next.f 10 [1, 2, 3] [] [4] [3, 4] = some ([3, 4], [1, 2, 3], [], [3, 4], true) := by decide +kernel
theorem aw_next2 : quorum_Next.f 10 [3, 4] [1, 2, 3] [] [3, 4] = some ([3, 4], [], [], [], true) := by decide +kernel
theorem aw_same1 : watershedlaw06_same.f 10 [1, 2, 3] [] [4] [3, 4] [1, 2, 3] [] [4] [3, 4] = some true := by decide +kernel
theorem aw_same2 : watershedlaw06_same.f 10 [3, 4] [1, 2, 3] [] [3, 4] [3, 4] [1, 2, 3] [] [3, 4] = some true := by decide +kernel
theorem aw_same3 : watershedlaw06_same.f 10 [3, 4] [] [] [] [3, 4] [] [] [] = some true := by decide +kernel
theorem int_lit {P : Program} {ops : Array Oper} {Q : Exit → Act → World → Prop} {o : Oper} {rest : List Oper} {a : Act} {W : World} (xs : List Int) (hgd : o.guard = none) {N : Tmp} (_hd : o.dst = some N) (hm : xs.length ≤ 1000)
  (hrun : (execOp a.eval o).run P W = .ok (.value (.slice (some ⟨W.heap.size, 0, none⟩) xs.length xs.length)) (W.alloc (.cells (xs.map (Value.int .i64)).toArray 3)))
  (h : ∀ A w1, Kd.C (Kd.int .i64) w1 (some A) xs.length xs → Below W.heap.size W w1 → wpList P ops Q rest (a.put o.dst (.slice (some A) xs.length xs.length)) w1) : wpList P ops Q (o :: rest) a W := by
 refine Kd.event_run hgd hrun (h _ _ ?_ (bag7 (Below.refl _ _) _))
 have h2 := World.ownsRow_lit (base:=W.heap.size) (e:=3) (size:=1) W (xs.map (Value.int .i64)).toArray xs.length (Nat.le_refl _) (by simp [maxLen]; omega) (by simp)
 have h3 : (Kd.int .i64).R 3 (W.alloc (.cells (xs.map (Value.int .i64)).toArray 3)) W.heap.size (fun _ => True) (.slice (some ⟨W.heap.size, 0, none⟩) xs.length xs.length) xs := Kd.R_of_own (by simpa [encs] using h2) (fun _ _ => trivial)
 exact (Kd.R_reads' h3).2.2
theorem V_of_C {w : World} {A : Option Addr} {c : Nat} {xs : List Int} (h : Kd.C (Kd.int .i64) w A xs.length xs) (hc : xs.length ≤ c) (base : Nat) : Kd.V (Kd.int .i64) 3 w base (fun k => k < w.heap.size) (.slice A xs.length c) xs := Kd.V_mk hc (Kd.C_F (Kd.heap_int .i64) h)
set_option maxHeartbeats 4000000 in
set_option maxRecDepth 100000 in
theorem watershedlaw06_awake.calls (r : Bool) (w : World) (h : watershedlaw06_awake.f = some r) :
  Calls Try.prog 7 #[] w fun e w' => e = .returned (.bool r) ∧ Below w.heap.size w w' := by
 obtain rfl := Option.some.inj h
 clear h
 have HB := Amg7 (Below.refl w.heap.size w)
 go_enter Try.func7, Try.ntmps7
 go_wp2_with (first
   | ((with_reducible refine gate_dst (N:=8) rfl ?_); refine int_lit [1, 2, 3] rfl (N:=8) rfl (by decide) (by first | (go_simp; done) | (go_simp; rfl)) ?_; intro A8 w8 C8 hb; replace HB := Amg7 (bpg7 HB.out hb); clear hb; replace C8 := Amg7 C8)
   | ((with_reducible refine gate_dst (N:=10) rfl ?_); refine int_lit [3, 4] rfl (N:=10) rfl (by decide) (by first | (go_simp; done) | (go_simp; rfl)) ?_; intro A10 w10 C10 hb; replace C8 := Amg7 (Kd.C_below C8.out hb); replace HB := Amg7 (bpg7 HB.out hb); clear hb; replace C10 := Amg7 C10)
   | fail)
 refine (quorum_Begin.calls 10 _ _ [1, 2, 3] _ _ [] _ _ [] _ _ [] _ _ _ [3, 4] [1, 2, 3] [] [4] [3, 4] 0 _ C8.out (by decide) (Kd.C_nil _ _) (Nat.le_refl _) (Kd.C_nil _ _) (Nat.le_refl _) (Kd.C_nil _ _) (Nat.le_refl _) (V_of_C C10.out (by decide) _) aw_begin).mono ?_
 rintro e w11 ⟨v0, v1, v2, v3, rfl, h0, h1, h2, h3, hb⟩
 obtain ⟨bA0, bc0, rfl, bl0, bC0⟩ := Kd.R_reads h0
 obtain ⟨bA1, bc1, rfl, bl1, bC1⟩ := Kd.R_reads h1
 obtain ⟨bA2, bc2, rfl, bl2, bC2⟩ := Kd.R_reads h2
 obtain ⟨bA3, bc3, rfl, bl3, bC3⟩ := Kd.R_reads h3
 clear h0 h1 h2 h3
 replace C8 := Amg7 (Kd.C_below C8.out hb); replace C10 := Amg7 (Kd.C_below C10.out hb); replace HB := Amg7 (bpg7 HB.out hb); clear hb
 replace bC0 := Amg7 bC0
 replace bl0 := Amg7 bl0
 replace bC1 := Amg7 bC1
 replace bl1 := Amg7 bl1
 replace bC2 := Amg7 bC2
 replace bl2 := Amg7 bl2
 replace bC3 := Amg7 bC3
 replace bl3 := Amg7 bl3
 go_wp2_with (fail)
 have K1 := blk_new w11 (.cells #[.slice bA0 3 bc0, .slice bA1 0 bc1, .slice bA2 1 bc2, .slice bA3 2 bc3] 24)
 have hb := bag7 (Below.refl w11.heap.size w11) (.cells #[.slice bA0 3 bc0, .slice bA1 0 bc1, .slice bA2 1 bc2, .slice bA3 2 bc3] 24)
 generalize w11.alloc _ = w12 at K1 hb ⊢
 replace C8 := Amg7 (Kd.C_below C8.out hb); replace C10 := Amg7 (Kd.C_below C10.out hb); replace bC0 := Amg7 (Kd.C_below bC0.out hb); replace bC1 := Amg7 (Kd.C_below bC1.out hb); replace bC2 := Amg7 (Kd.C_below bC2.out hb); replace bC3 := Amg7 (Kd.C_below bC3.out hb); replace HB := Amg7 (bpg7 HB.out hb); clear hb
 generalize hgK1 : w11.heap.size = gK1 at K1 ⊢
 clear hgK1
 replace K1 := Amg7 K1
 refine (quorum_Next.calls 10 _ _ [1, 2, 3] _ _ [] _ _ [4] _ _ [3, 4] [3, 4] [1, 2, 3] [] [3, 4] true _ bC0.out bl0.out bC1.out bl1.out bC2.out bl2.out bC3.out bl3.out aw_next1).mono ?_
 rintro e w16 ⟨v0, v1, v2, v3, rfl, h0, h1, h2, h3, hb⟩
 obtain ⟨dA0, dc0, rfl, dl0, dC0⟩ := Kd.R_reads h0
 obtain ⟨dA1, dc1, rfl, dl1, dC1⟩ := Kd.R_reads h1
 obtain ⟨dA2, dc2, rfl, dl2, dC2⟩ := Kd.R_reads h2
 obtain ⟨dA3, dc3, rfl, dl3, dC3⟩ := Kd.R_reads h3
 clear h0 h1 h2 h3
 replace C8 := Amg7 (Kd.C_below C8.out hb); replace C10 := Amg7 (Kd.C_below C10.out hb); replace bC0 := Amg7 (Kd.C_below bC0.out hb); replace bC1 := Amg7 (Kd.C_below bC1.out hb); replace bC2 := Amg7 (Kd.C_below bC2.out hb); replace bC3 := Amg7 (Kd.C_below bC3.out hb); replace K1 := Amg7 (kbg7 K1.out hb); replace HB := Amg7 (bpg7 HB.out hb); clear hb
 replace dC0 := Amg7 dC0
 replace dl0 := Amg7 dl0
 replace dC1 := Amg7 dC1
 replace dl1 := Amg7 dl1
 replace dC2 := Amg7 dC2
 replace dl2 := Amg7 dl2
 replace dC3 := Amg7 dC3
 replace dl3 := Amg7 dl3
 have zK1_0 : w16.cell? ⟨gK1, 0, none⟩ = some (.slice bA0 3 bc0) := (kcg7 K1.out 0).trans rfl
 have zK1_1 : w16.cell? ⟨gK1, 1, none⟩ = some (.slice bA1 0 bc1) := (kcg7 K1.out 1).trans rfl
 have zK1_2 : w16.cell? ⟨gK1, 2, none⟩ = some (.slice bA2 1 bc2) := (kcg7 K1.out 2).trans rfl
 have zK1_3 : w16.cell? ⟨gK1, 3, none⟩ = some (.slice bA3 2 bc3) := (kcg7 K1.out 3).trans rfl
 go_wp2_with (fail)
 have K2 := blk_new w16 (.cells #[.slice dA0 2 dc0, .slice dA1 3 dc1, .slice dA2 0 dc2, .slice dA3 2 dc3] 24)
 have hb := bag7 (Below.refl w16.heap.size w16) (.cells #[.slice dA0 2 dc0, .slice dA1 3 dc1, .slice dA2 0 dc2, .slice dA3 2 dc3] 24)
 generalize w16.alloc _ = w17 at K2 hb ⊢
 replace C8 := Amg7 (Kd.C_below C8.out hb); replace C10 := Amg7 (Kd.C_below C10.out hb); replace bC0 := Amg7 (Kd.C_below bC0.out hb); replace bC1 := Amg7 (Kd.C_below bC1.out hb); replace bC2 := Amg7 (Kd.C_below bC2.out hb); replace bC3 := Amg7 (Kd.C_below bC3.out hb); replace dC0 := Amg7 (Kd.C_below dC0.out hb); replace dC1 := Amg7 (Kd.C_below dC1.out hb); replace dC2 := Amg7 (Kd.C_below dC2.out hb); replace dC3 := Amg7 (Kd.C_below dC3.out hb); replace K1 := Amg7 (kbg7 K1.out hb); replace HB := Amg7 (bpg7 HB.out hb); clear hb
 generalize hgK2 : w16.heap.size = gK2 at K2 ⊢
 clear hgK2
 replace K2 := Amg7 K2
 refine (quorum_Next.calls 10 _ _ [3, 4] _ _ [1, 2, 3] _ _ [] _ _ [3, 4] [3, 4] [] [] [] true _ dC0.out dl0.out dC1.out dl1.out dC2.out dl2.out dC3.out dl3.out aw_next2).mono ?_
 rintro e w21 ⟨v0, v1, v2, v3, rfl, h0, h1, h2, h3, hb⟩
 obtain ⟨fA0, fc0, rfl, fl0, fC0⟩ := Kd.R_reads h0
 obtain ⟨fA1, fc1, rfl, fl1, fC1⟩ := Kd.R_reads h1
 obtain ⟨fA2, fc2, rfl, fl2, fC2⟩ := Kd.R_reads h2
 obtain ⟨fA3, fc3, rfl, fl3, fC3⟩ := Kd.R_reads h3
 clear h0 h1 h2 h3
 replace C8 := Amg7 (Kd.C_below C8.out hb); replace C10 := Amg7 (Kd.C_below C10.out hb); replace bC0 := Amg7 (Kd.C_below bC0.out hb); replace bC1 := Amg7 (Kd.C_below bC1.out hb); replace bC2 := Amg7 (Kd.C_below bC2.out hb); replace bC3 := Amg7 (Kd.C_below bC3.out hb); replace dC0 := Amg7 (Kd.C_below dC0.out hb); replace dC1 := Amg7 (Kd.C_below dC1.out hb); replace dC2 := Amg7 (Kd.C_below dC2.out hb); replace dC3 := Amg7 (Kd.C_below dC3.out hb); replace K1 := Amg7 (kbg7 K1.out hb); replace K2 := Amg7 (kbg7 K2.out hb); replace HB := Amg7 (bpg7 HB.out hb); clear hb
 replace fC0 := Amg7 fC0
 replace fl0 := Amg7 fl0
 replace fC1 := Amg7 fC1
 replace fl1 := Amg7 fl1
 replace fC2 := Amg7 fC2
 replace fl2 := Amg7 fl2
 replace fC3 := Amg7 fC3
 replace fl3 := Amg7 fl3
 clear zK1_0 zK1_1 zK1_2 zK1_3
 go_upto_region 4 with (fail)
 have K3 := blk_new w21 (.cells #[.slice fA0 2 fc0, .slice fA1 0 fc1, .slice fA2 0 fc2, .slice fA3 0 fc3] 24)
 have hb := bag7 (Below.refl w21.heap.size w21) (.cells #[.slice fA0 2 fc0, .slice fA1 0 fc1, .slice fA2 0 fc2, .slice fA3 0 fc3] 24)
 generalize w21.alloc _ = w22 at K3 hb ⊢
 replace C8 := Amg7 (Kd.C_below C8.out hb); replace C10 := Amg7 (Kd.C_below C10.out hb); replace bC0 := Amg7 (Kd.C_below bC0.out hb); replace bC1 := Amg7 (Kd.C_below bC1.out hb); replace bC2 := Amg7 (Kd.C_below bC2.out hb); replace bC3 := Amg7 (Kd.C_below bC3.out hb); replace dC0 := Amg7 (Kd.C_below dC0.out hb); replace dC1 := Amg7 (Kd.C_below dC1.out hb); replace dC2 := Amg7 (Kd.C_below dC2.out hb); replace dC3 := Amg7 (Kd.C_below dC3.out hb); replace fC0 := Amg7 (Kd.C_below fC0.out hb); replace fC1 := Amg7 (Kd.C_below fC1.out hb); replace fC2 := Amg7 (Kd.C_below fC2.out hb); replace fC3 := Amg7 (Kd.C_below fC3.out hb); replace K1 := Amg7 (kbg7 K1.out hb); replace K2 := Amg7 (kbg7 K2.out hb); replace HB := Amg7 (bpg7 HB.out hb); clear hb
 generalize hgK3 : w21.heap.size = gK3 at K3 ⊢
 clear hgK3
 replace K3 := Amg7 K3
 have zK1_0 : w22.cell? ⟨gK1, 0, none⟩ = some (.slice bA0 3 bc0) := (kcg7 K1.out 0).trans rfl
 have zK1_1 : w22.cell? ⟨gK1, 1, none⟩ = some (.slice bA1 0 bc1) := (kcg7 K1.out 1).trans rfl
 have zK1_2 : w22.cell? ⟨gK1, 2, none⟩ = some (.slice bA2 1 bc2) := (kcg7 K1.out 2).trans rfl
 have zK1_3 : w22.cell? ⟨gK1, 3, none⟩ = some (.slice bA3 2 bc3) := (kcg7 K1.out 3).trans rfl
 go_wp2_with (first
   | ((with_reducible refine gate_dst (N:=34) rfl ?_); (try (refine gate_guard (by rfl) ?_; dsimp only)); refine int_lit [1, 2, 3] rfl (N:=34) rfl (by decide) (by first | (go_simp; done) | (go_simp; rfl)) ?_; intro A34 w34 C34 hb; replace C8 := Amg7 (Kd.C_below C8.out hb); replace C10 := Amg7 (Kd.C_below C10.out hb); replace bC0 := Amg7 (Kd.C_below bC0.out hb); replace bC1 := Amg7 (Kd.C_below bC1.out hb); replace bC2 := Amg7 (Kd.C_below bC2.out hb); replace bC3 := Amg7 (Kd.C_below bC3.out hb); replace dC0 := Amg7 (Kd.C_below dC0.out hb); replace dC1 := Amg7 (Kd.C_below dC1.out hb); replace dC2 := Amg7 (Kd.C_below dC2.out hb); replace dC3 := Amg7 (Kd.C_below dC3.out hb); replace fC0 := Amg7 (Kd.C_below fC0.out hb); replace fC1 := Amg7 (Kd.C_below fC1.out hb); replace fC2 := Amg7 (Kd.C_below fC2.out hb); replace fC3 := Amg7 (Kd.C_below fC3.out hb); replace K1 := Amg7 (kbg7 K1.out hb); replace K2 := Amg7 (kbg7 K2.out hb); replace K3 := Amg7 (kbg7 K3.out hb); replace HB := Amg7 (bpg7 HB.out hb); clear hb; replace C34 := Amg7 C34)
   | ((with_reducible refine gate_dst (N:=35) rfl ?_); (try (refine gate_guard (by rfl) ?_; dsimp only)); refine int_lit [4] rfl (N:=35) rfl (by decide) (by first | (go_simp; done) | (go_simp; rfl)) ?_; intro A35 w35 C35 hb; replace C8 := Amg7 (Kd.C_below C8.out hb); replace C10 := Amg7 (Kd.C_below C10.out hb); replace bC0 := Amg7 (Kd.C_below bC0.out hb); replace bC1 := Amg7 (Kd.C_below bC1.out hb); replace bC2 := Amg7 (Kd.C_below bC2.out hb); replace bC3 := Amg7 (Kd.C_below bC3.out hb); replace dC0 := Amg7 (Kd.C_below dC0.out hb); replace dC1 := Amg7 (Kd.C_below dC1.out hb); replace dC2 := Amg7 (Kd.C_below dC2.out hb); replace dC3 := Amg7 (Kd.C_below dC3.out hb); replace fC0 := Amg7 (Kd.C_below fC0.out hb); replace fC1 := Amg7 (Kd.C_below fC1.out hb); replace fC2 := Amg7 (Kd.C_below fC2.out hb); replace fC3 := Amg7 (Kd.C_below fC3.out hb); replace C34 := Amg7 (Kd.C_below C34.out hb); replace K1 := Amg7 (kbg7 K1.out hb); replace K2 := Amg7 (kbg7 K2.out hb); replace K3 := Amg7 (kbg7 K3.out hb); replace HB := Amg7 (bpg7 HB.out hb); clear hb; replace C35 := Amg7 C35)
   | ((with_reducible refine gate_dst (N:=36) rfl ?_); (try (refine gate_guard (by rfl) ?_; dsimp only)); refine int_lit [3, 4] rfl (N:=36) rfl (by decide) (by first | (go_simp; done) | (go_simp; rfl)) ?_; intro A36 w36 C36 hb; replace C8 := Amg7 (Kd.C_below C8.out hb); replace C10 := Amg7 (Kd.C_below C10.out hb); replace bC0 := Amg7 (Kd.C_below bC0.out hb); replace bC1 := Amg7 (Kd.C_below bC1.out hb); replace bC2 := Amg7 (Kd.C_below bC2.out hb); replace bC3 := Amg7 (Kd.C_below bC3.out hb); replace dC0 := Amg7 (Kd.C_below dC0.out hb); replace dC1 := Amg7 (Kd.C_below dC1.out hb); replace dC2 := Amg7 (Kd.C_below dC2.out hb); replace dC3 := Amg7 (Kd.C_below dC3.out hb); replace fC0 := Amg7 (Kd.C_below fC0.out hb); replace fC1 := Amg7 (Kd.C_below fC1.out hb); replace fC2 := Amg7 (Kd.C_below fC2.out hb); replace fC3 := Amg7 (Kd.C_below fC3.out hb); replace C34 := Amg7 (Kd.C_below C34.out hb); replace C35 := Amg7 (Kd.C_below C35.out hb); replace K1 := Amg7 (kbg7 K1.out hb); replace K2 := Amg7 (kbg7 K2.out hb); replace K3 := Amg7 (kbg7 K3.out hb); replace HB := Amg7 (bpg7 HB.out hb); clear hb; replace C36 := Amg7 C36)
   | fail)
 refine (watershedlaw06_same.calls 10 _ _ [1, 2, 3] _ _ [] _ _ [4] _ _ [3, 4] _ _ [1, 2, 3] _ _ [] _ _ [4] _ _ [3, 4] true _ bC0.out bl0.out bC1.out bl1.out bC2.out bl2.out bC3.out bl3.out C34.out (by decide) (Kd.C_nil _ _) (Nat.le_refl _) C35.out (by decide) C36.out (by decide) aw_same1).mono ?_
 rintro e w40 ⟨rfl, hb⟩
 replace C8 := Amg7 (Kd.C_below C8.out hb); replace C10 := Amg7 (Kd.C_below C10.out hb); replace bC0 := Amg7 (Kd.C_below bC0.out hb); replace bC1 := Amg7 (Kd.C_below bC1.out hb); replace bC2 := Amg7 (Kd.C_below bC2.out hb); replace bC3 := Amg7 (Kd.C_below bC3.out hb); replace dC0 := Amg7 (Kd.C_below dC0.out hb); replace dC1 := Amg7 (Kd.C_below dC1.out hb); replace dC2 := Amg7 (Kd.C_below dC2.out hb); replace dC3 := Amg7 (Kd.C_below dC3.out hb); replace fC0 := Amg7 (Kd.C_below fC0.out hb); replace fC1 := Amg7 (Kd.C_below fC1.out hb); replace fC2 := Amg7 (Kd.C_below fC2.out hb); replace fC3 := Amg7 (Kd.C_below fC3.out hb); replace C34 := Amg7 (Kd.C_below C34.out hb); replace C35 := Amg7 (Kd.C_below C35.out hb); replace C36 := Amg7 (Kd.C_below C36.out hb); replace K1 := Amg7 (kbg7 K1.out hb); replace K2 := Amg7 (kbg7 K2.out hb); replace K3 := Amg7 (kbg7 K3.out hb); replace HB := Amg7 (bpg7 HB.out hb); clear hb
 clear zK1_0 zK1_1 zK1_2 zK1_3
 have zK2_0 : w40.cell? ⟨gK2, 0, none⟩ = some (.slice dA0 2 dc0) := (kcg7 K2.out 0).trans rfl
 have zK2_1 : w40.cell? ⟨gK2, 1, none⟩ = some (.slice dA1 3 dc1) := (kcg7 K2.out 1).trans rfl
 have zK2_2 : w40.cell? ⟨gK2, 2, none⟩ = some (.slice dA2 0 dc2) := (kcg7 K2.out 2).trans rfl
 have zK2_3 : w40.cell? ⟨gK2, 3, none⟩ = some (.slice dA3 2 dc3) := (kcg7 K2.out 3).trans rfl
 go_wp2_with (first
   | ((with_reducible refine gate_dst (N:=42) rfl ?_); (try (refine gate_guard (by rfl) ?_; dsimp only)); refine int_lit [3, 4] rfl (N:=42) rfl (by decide) (by first | (go_simp; done) | (go_simp; rfl)) ?_; intro A42 w42 C42 hb; replace C8 := Amg7 (Kd.C_below C8.out hb); replace C10 := Amg7 (Kd.C_below C10.out hb); replace bC0 := Amg7 (Kd.C_below bC0.out hb); replace bC1 := Amg7 (Kd.C_below bC1.out hb); replace bC2 := Amg7 (Kd.C_below bC2.out hb); replace bC3 := Amg7 (Kd.C_below bC3.out hb); replace dC0 := Amg7 (Kd.C_below dC0.out hb); replace dC1 := Amg7 (Kd.C_below dC1.out hb); replace dC2 := Amg7 (Kd.C_below dC2.out hb); replace dC3 := Amg7 (Kd.C_below dC3.out hb); replace fC0 := Amg7 (Kd.C_below fC0.out hb); replace fC1 := Amg7 (Kd.C_below fC1.out hb); replace fC2 := Amg7 (Kd.C_below fC2.out hb); replace fC3 := Amg7 (Kd.C_below fC3.out hb); replace C34 := Amg7 (Kd.C_below C34.out hb); replace C35 := Amg7 (Kd.C_below C35.out hb); replace C36 := Amg7 (Kd.C_below C36.out hb); replace K1 := Amg7 (kbg7 K1.out hb); replace K2 := Amg7 (kbg7 K2.out hb); replace K3 := Amg7 (kbg7 K3.out hb); replace HB := Amg7 (bpg7 HB.out hb); clear hb; replace C42 := Amg7 C42)
   | ((with_reducible refine gate_dst (N:=43) rfl ?_); (try (refine gate_guard (by rfl) ?_; dsimp only)); refine int_lit [1, 2, 3] rfl (N:=43) rfl (by decide) (by first | (go_simp; done) | (go_simp; rfl)) ?_; intro A43 w43 C43 hb; replace C8 := Amg7 (Kd.C_below C8.out hb); replace C10 := Amg7 (Kd.C_below C10.out hb); replace bC0 := Amg7 (Kd.C_below bC0.out hb); replace bC1 := Amg7 (Kd.C_below bC1.out hb); replace bC2 := Amg7 (Kd.C_below bC2.out hb); replace bC3 := Amg7 (Kd.C_below bC3.out hb); replace dC0 := Amg7 (Kd.C_below dC0.out hb); replace dC1 := Amg7 (Kd.C_below dC1.out hb); replace dC2 := Amg7 (Kd.C_below dC2.out hb); replace dC3 := Amg7 (Kd.C_below dC3.out hb); replace fC0 := Amg7 (Kd.C_below fC0.out hb); replace fC1 := Amg7 (Kd.C_below fC1.out hb); replace fC2 := Amg7 (Kd.C_below fC2.out hb); replace fC3 := Amg7 (Kd.C_below fC3.out hb); replace C34 := Amg7 (Kd.C_below C34.out hb); replace C35 := Amg7 (Kd.C_below C35.out hb); replace C36 := Amg7 (Kd.C_below C36.out hb); replace C42 := Amg7 (Kd.C_below C42.out hb); replace K1 := Amg7 (kbg7 K1.out hb); replace K2 := Amg7 (kbg7 K2.out hb); replace K3 := Amg7 (kbg7 K3.out hb); replace HB := Amg7 (bpg7 HB.out hb); clear hb; replace C43 := Amg7 C43)
   | ((with_reducible refine gate_dst (N:=44) rfl ?_); (try (refine gate_guard (by rfl) ?_; dsimp only)); refine int_lit [3, 4] rfl (N:=44) rfl (by decide) (by first | (go_simp; done) | (go_simp; rfl)) ?_; intro A44 w44 C44 hb; replace C8 := Amg7 (Kd.C_below C8.out hb); replace C10 := Amg7 (Kd.C_below C10.out hb); replace bC0 := Amg7 (Kd.C_below bC0.out hb); replace bC1 := Amg7 (Kd.C_below bC1.out hb); replace bC2 := Amg7 (Kd.C_below bC2.out hb); replace bC3 := Amg7 (Kd.C_below bC3.out hb); replace dC0 := Amg7 (Kd.C_below dC0.out hb); replace dC1 := Amg7 (Kd.C_below dC1.out hb); replace dC2 := Amg7 (Kd.C_below dC2.out hb); replace dC3 := Amg7 (Kd.C_below dC3.out hb); replace fC0 := Amg7 (Kd.C_below fC0.out hb); replace fC1 := Amg7 (Kd.C_below fC1.out hb); replace fC2 := Amg7 (Kd.C_below fC2.out hb); replace fC3 := Amg7 (Kd.C_below fC3.out hb); replace C34 := Amg7 (Kd.C_below C34.out hb); replace C35 := Amg7 (Kd.C_below C35.out hb); replace C36 := Amg7 (Kd.C_below C36.out hb); replace C42 := Amg7 (Kd.C_below C42.out hb); replace C43 := Amg7 (Kd.C_below C43.out hb); replace K1 := Amg7 (kbg7 K1.out hb); replace K2 := Amg7 (kbg7 K2.out hb); replace K3 := Amg7 (kbg7 K3.out hb); replace HB := Amg7 (bpg7 HB.out hb); clear hb; replace C44 := Amg7 C44)
   | fail)
 refine (watershedlaw06_same.calls 10 _ _ [3, 4] _ _ [1, 2, 3] _ _ [] _ _ [3, 4] _ _ [3, 4] _ _ [1, 2, 3] _ _ [] _ _ [3, 4] true _ dC0.out dl0.out dC1.out dl1.out dC2.out dl2.out dC3.out dl3.out C42.out (by decide) C43.out (by decide) (Kd.C_nil _ _) (Nat.le_refl _) C44.out (by decide) aw_same2).mono ?_
 rintro e w50 ⟨rfl, hb⟩
 replace C8 := Amg7 (Kd.C_below C8.out hb); replace C10 := Amg7 (Kd.C_below C10.out hb); replace bC0 := Amg7 (Kd.C_below bC0.out hb); replace bC1 := Amg7 (Kd.C_below bC1.out hb); replace bC2 := Amg7 (Kd.C_below bC2.out hb); replace bC3 := Amg7 (Kd.C_below bC3.out hb); replace dC0 := Amg7 (Kd.C_below dC0.out hb); replace dC1 := Amg7 (Kd.C_below dC1.out hb); replace dC2 := Amg7 (Kd.C_below dC2.out hb); replace dC3 := Amg7 (Kd.C_below dC3.out hb); replace fC0 := Amg7 (Kd.C_below fC0.out hb); replace fC1 := Amg7 (Kd.C_below fC1.out hb); replace fC2 := Amg7 (Kd.C_below fC2.out hb); replace fC3 := Amg7 (Kd.C_below fC3.out hb); replace C34 := Amg7 (Kd.C_below C34.out hb); replace C35 := Amg7 (Kd.C_below C35.out hb); replace C36 := Amg7 (Kd.C_below C36.out hb); replace C42 := Amg7 (Kd.C_below C42.out hb); replace C43 := Amg7 (Kd.C_below C43.out hb); replace C44 := Amg7 (Kd.C_below C44.out hb); replace K1 := Amg7 (kbg7 K1.out hb); replace K2 := Amg7 (kbg7 K2.out hb); replace K3 := Amg7 (kbg7 K3.out hb); replace HB := Amg7 (bpg7 HB.out hb); clear hb
 clear zK2_0 zK2_1 zK2_2 zK2_3
 have zK3_0 : w50.cell? ⟨gK3, 0, none⟩ = some (.slice fA0 2 fc0) := (kcg7 K3.out 0).trans rfl
 have zK3_1 : w50.cell? ⟨gK3, 1, none⟩ = some (.slice fA1 0 fc1) := (kcg7 K3.out 1).trans rfl
 have zK3_2 : w50.cell? ⟨gK3, 2, none⟩ = some (.slice fA2 0 fc2) := (kcg7 K3.out 2).trans rfl
 have zK3_3 : w50.cell? ⟨gK3, 3, none⟩ = some (.slice fA3 0 fc3) := (kcg7 K3.out 3).trans rfl
 go_wp2_with (first
   | ((with_reducible refine gate_dst (N:=50) rfl ?_); (try (refine gate_guard (by rfl) ?_; dsimp only)); refine int_lit [3, 4] rfl (N:=50) rfl (by decide) (by first | (go_simp; done) | (go_simp; rfl)) ?_; intro A50 w50 C50 hb; replace C8 := Amg7 (Kd.C_below C8.out hb); replace C10 := Amg7 (Kd.C_below C10.out hb); replace bC0 := Amg7 (Kd.C_below bC0.out hb); replace bC1 := Amg7 (Kd.C_below bC1.out hb); replace bC2 := Amg7 (Kd.C_below bC2.out hb); replace bC3 := Amg7 (Kd.C_below bC3.out hb); replace dC0 := Amg7 (Kd.C_below dC0.out hb); replace dC1 := Amg7 (Kd.C_below dC1.out hb); replace dC2 := Amg7 (Kd.C_below dC2.out hb); replace dC3 := Amg7 (Kd.C_below dC3.out hb); replace fC0 := Amg7 (Kd.C_below fC0.out hb); replace fC1 := Amg7 (Kd.C_below fC1.out hb); replace fC2 := Amg7 (Kd.C_below fC2.out hb); replace fC3 := Amg7 (Kd.C_below fC3.out hb); replace C34 := Amg7 (Kd.C_below C34.out hb); replace C35 := Amg7 (Kd.C_below C35.out hb); replace C36 := Amg7 (Kd.C_below C36.out hb); replace C42 := Amg7 (Kd.C_below C42.out hb); replace C43 := Amg7 (Kd.C_below C43.out hb); replace C44 := Amg7 (Kd.C_below C44.out hb); replace K1 := Amg7 (kbg7 K1.out hb); replace K2 := Amg7 (kbg7 K2.out hb); replace K3 := Amg7 (kbg7 K3.out hb); replace HB := Amg7 (bpg7 HB.out hb); clear hb; replace C50 := Amg7 C50)
   | fail)
 refine (watershedlaw06_same.calls 10 _ _ [3, 4] _ _ [] _ _ [] _ _ [] _ _ [3, 4] _ _ [] _ _ [] _ _ [] true _ fC0.out fl0.out fC1.out fl1.out fC2.out fl2.out fC3.out fl3.out C50.out (by decide) (Kd.C_nil _ _) (Nat.le_refl _) (Kd.C_nil _ _) (Nat.le_refl _) (Kd.C_nil _ _) (Nat.le_refl _) aw_same3).mono ?_
 rintro e w60 ⟨rfl, hb⟩
 replace C8 := Amg7 (Kd.C_below C8.out hb); replace C10 := Amg7 (Kd.C_below C10.out hb); replace bC0 := Amg7 (Kd.C_below bC0.out hb); replace bC1 := Amg7 (Kd.C_below bC1.out hb); replace bC2 := Amg7 (Kd.C_below bC2.out hb); replace bC3 := Amg7 (Kd.C_below bC3.out hb); replace dC0 := Amg7 (Kd.C_below dC0.out hb); replace dC1 := Amg7 (Kd.C_below dC1.out hb); replace dC2 := Amg7 (Kd.C_below dC2.out hb); replace dC3 := Amg7 (Kd.C_below dC3.out hb); replace fC0 := Amg7 (Kd.C_below fC0.out hb); replace fC1 := Amg7 (Kd.C_below fC1.out hb); replace fC2 := Amg7 (Kd.C_below fC2.out hb); replace fC3 := Amg7 (Kd.C_below fC3.out hb); replace C34 := Amg7 (Kd.C_below C34.out hb); replace C35 := Amg7 (Kd.C_below C35.out hb); replace C36 := Amg7 (Kd.C_below C36.out hb); replace C42 := Amg7 (Kd.C_below C42.out hb); replace C43 := Amg7 (Kd.C_below C43.out hb); replace C44 := Amg7 (Kd.C_below C44.out hb); replace C50 := Amg7 (Kd.C_below C50.out hb); replace K1 := Amg7 (kbg7 K1.out hb); replace K2 := Amg7 (kbg7 K2.out hb); replace K3 := Amg7 (kbg7 K3.out hb); replace HB := Amg7 (bpg7 HB.out hb); clear hb
 clear zK3_0 zK3_1 zK3_2 zK3_3
 go_wp2_with (fail)
 go_ret
 exact ⟨rfl, HB.out⟩

theorem Am8 : type_of% @Aside0.mk := @Aside0.mk
theorem ba8 : type_of% @below_alloc := @below_alloc
theorem bn8 : type_of% @pw_below_drewN := @pw_below_drewN
theorem bd8 : type_of% @below_drew1 := @below_drew1
theorem bs8 : type_of% @below_set := @below_set
theorem bz8 : type_of% @below_size := @below_size
theorem bp8 : type_of% @below_step := @below_step
theorem kc8 : type_of% @blk_cell := @blk_cell
theorem kz8 : type_of% @blk_frozen := @blk_frozen
/-! ### watershedlaw06_great: function 8 -/
def watershedlaw06_great.f (l0_0 : List Int) (l0_1 : List Int) (l0_2 : List Int) (l0_3 : List Int) (l1 : List Int) : Option (Bool) := if (l0_0.length : Int) > 40 then (some true) else (if (l0_1.length : Int) > 40 then (some true) else (if (l0_2.length : Int) > 40 then (some true) else (if (l0_3.length : Int) > 40 then (some true) else (some (decide ((l1.length : Int) > 40))))))
set_option maxHeartbeats 8000000 in
set_option maxRecDepth 100000 in
theorem watershedlaw06_great.calls (A0_0 : Option Addr) (c0_0 : Nat) (l0_0 : List Int) (A0_1 : Option Addr) (c0_1 : Nat) (l0_1 : List Int) (A0_2 : Option Addr) (c0_2 : Nat) (l0_2 : List Int) (A0_3 : Option Addr) (c0_3 : Nat) (l0_3 : List Int) (A1 : Option Addr) (c1 : Nat) (l1 : List Int) (r : Bool) (w : World) (hr0_0 : Kd.C (Kd.int .i64) w A0_0 l0_0.length l0_0) (hc0_0 : l0_0.length ≤ c0_0) (hr0_1 : Kd.C (Kd.int .i64) w A0_1 l0_1.length l0_1) (hc0_1 : l0_1.length ≤ c0_1) (hr0_2 : Kd.C (Kd.int .i64) w A0_2 l0_2.length l0_2) (hc0_2 : l0_2.length ≤ c0_2) (hr0_3 : Kd.C (Kd.int .i64) w A0_3 l0_3.length l0_3) (hc0_3 : l0_3.length ≤ c0_3) (hr1 : Kd.C (Kd.int .i64) w A1 l1.length l1) (hc1 : l1.length ≤ c1) (h : watershedlaw06_great.f l0_0 l0_1 l0_2 l0_3 l1 = some r) :
  Calls Try.prog 8 #[.agg #[.slice A0_0 l0_0.length c0_0, .slice A0_1 l0_1.length c0_1, .slice A0_2 l0_2.length c0_2, .slice A0_3 l0_3.length c0_3], .slice A1 l1.length c1] w fun e w' => e = .returned (.bool r) ∧ Below w.heap.size w w' := by
 have hu24 := Try.underlying24
 have HR0_0 := Am8 hr0_0
 have HC0_0 := Am8 hc0_0
 clear hr0_0 hc0_0
 have HR0_1 := Am8 hr0_1
 have HC0_1 := Am8 hc0_1
 clear hr0_1 hc0_1
 have HR0_2 := Am8 hr0_2
 have HC0_2 := Am8 hc0_2
 clear hr0_2 hc0_2
 have HR0_3 := Am8 hr0_3
 have HC0_3 := Am8 hc0_3
 clear hr0_3 hc0_3
 have HR1 := Am8 hr1
 have HC1 := Am8 hc1
 clear hr1 hc1
 have HB := Am8 (Below.refl w.heap.size w)
 have H : (if (l0_0.length : Int) > 40 then (some true) else (if (l0_1.length : Int) > 40 then (some true) else (if (l0_2.length : Int) > 40 then (some true) else (if (l0_3.length : Int) > 40 then (some true) else (some (decide ((l1.length : Int) > 40))))))) = some r := h
 clear h
 by_cases c3 : (l0_0.length : Int) > 40
 ·rw [if_pos c3] at H
  have c3b0 : decide (40 < (l0_0.length : Int)) = true := decide_eq_true c3
  have c3b1 : decide (40 < l0_0.length) = true := decide_eq_true (by omega)
  clear c3
  obtain rfl := Option.some.inj H
  go_enter Try.func8, Try.ntmps8
  go_wp2_with (first | ((with_reducible refine gate_dst (N:=2) rfl ?_); (try (refine gate_guard (by rfl) ?_; dsimp only)); refine box_event ?hg (N:=2) ?hd (cs:=#[.slice A0_0 l0_0.length c0_0, .slice A0_1 l0_1.length c0_1, .slice A0_2 l0_2.length c0_2, .slice A0_3 l0_3.length c0_3]) (t:=24) ?hr ?_; (case hd => rfl); (case hg => rfl); (case hr => first | (go_simp; done) | (go_simp; rfl)); intro gb175 hg w4 hbox hb; have BK175 := Am8 (hbox); have GW175 := Am8 ((by rw [hg]; exact (bz8 (by repeat (first | (with_reducible first | exact HB.out | apply ba8 | apply bn8 | apply bd8) | exact HB.out))) : w.heap.size ≤ gb175)); have GE175 := Am8 ((by rw [hg]; exact (bz8 (by repeat (first | (with_reducible first | exact HB.out | apply ba8 | apply bn8 | apply bd8) | exact HB.out))) : w.heap.size ≤ gb175)); replace HB := Am8 (bp8 (by repeat (first | (with_reducible first | exact HB.out | apply ba8 | apply bn8 | apply bd8) | exact HB.out)) hb); clear hb hbox hg; have hcz5_0 : w4.cell? ⟨gb175, 0, none⟩ = some (.slice A0_0 l0_0.length c0_0) := (kc8 BK175.out 0).trans rfl; have hcz5_1 : w4.cell? ⟨gb175, 1, none⟩ = some (.slice A0_1 l0_1.length c0_1) := (kc8 BK175.out 1).trans rfl; have hcz5_2 : w4.cell? ⟨gb175, 2, none⟩ = some (.slice A0_2 l0_2.length c0_2) := (kc8 BK175.out 2).trans rfl; have hcz5_3 : w4.cell? ⟨gb175, 3, none⟩ = some (.slice A0_3 l0_3.length c0_3) := (kc8 BK175.out 3).trans rfl; have hfz5_0 := kz8 BK175.out 0; have hfz5_1 := kz8 BK175.out 1; have hfz5_2 := kz8 BK175.out 2; have hfz5_3 := kz8 BK175.out 3))
  go_ret
  exact ⟨by first | rfl | (simp [errW_none, errW_some] <;> rfl) | (simp [*, errW_none, errW_some] <;> rfl), by repeat (first | (with_reducible first | exact HB.out | apply ba8 | apply bn8 | apply bd8 | refine bs8 ?_ GE175.out) | exact HB.out)⟩
 ·rw [if_neg c3] at H
  have c3b0 : decide (40 < (l0_0.length : Int)) = false := decide_eq_false c3
  have c3b1 : decide (40 < l0_0.length) = false := decide_eq_false (by omega)
  clear c3
  by_cases c6 : (l0_1.length : Int) > 40
  ·rw [if_pos c6] at H
   have c6b0 : decide (40 < (l0_1.length : Int)) = true := decide_eq_true c6
   have c6b1 : decide (40 < l0_1.length) = true := decide_eq_true (by omega)
   clear c6
   obtain rfl := Option.some.inj H
   go_enter Try.func8, Try.ntmps8
   go_wp2_with (first | ((with_reducible refine gate_dst (N:=2) rfl ?_); (try (refine gate_guard (by rfl) ?_; dsimp only)); refine box_event ?hg (N:=2) ?hd (cs:=#[.slice A0_0 l0_0.length c0_0, .slice A0_1 l0_1.length c0_1, .slice A0_2 l0_2.length c0_2, .slice A0_3 l0_3.length c0_3]) (t:=24) ?hr ?_; (case hd => rfl); (case hg => rfl); (case hr => first | (go_simp; done) | (go_simp; rfl)); intro gb175 hg w7 hbox hb; have BK175 := Am8 (hbox); have GW175 := Am8 ((by rw [hg]; exact (bz8 (by repeat (first | (with_reducible first | exact HB.out | apply ba8 | apply bn8 | apply bd8) | exact HB.out))) : w.heap.size ≤ gb175)); have GE175 := Am8 ((by rw [hg]; exact (bz8 (by repeat (first | (with_reducible first | exact HB.out | apply ba8 | apply bn8 | apply bd8) | exact HB.out))) : w.heap.size ≤ gb175)); replace HB := Am8 (bp8 (by repeat (first | (with_reducible first | exact HB.out | apply ba8 | apply bn8 | apply bd8) | exact HB.out)) hb); clear hb hbox hg; have hcz8_0 : w7.cell? ⟨gb175, 0, none⟩ = some (.slice A0_0 l0_0.length c0_0) := (kc8 BK175.out 0).trans rfl; have hcz8_1 : w7.cell? ⟨gb175, 1, none⟩ = some (.slice A0_1 l0_1.length c0_1) := (kc8 BK175.out 1).trans rfl; have hcz8_2 : w7.cell? ⟨gb175, 2, none⟩ = some (.slice A0_2 l0_2.length c0_2) := (kc8 BK175.out 2).trans rfl; have hcz8_3 : w7.cell? ⟨gb175, 3, none⟩ = some (.slice A0_3 l0_3.length c0_3) := (kc8 BK175.out 3).trans rfl; have hfz8_0 := kz8 BK175.out 0; have hfz8_1 := kz8 BK175.out 1; have hfz8_2 := kz8 BK175.out 2; have hfz8_3 := kz8 BK175.out 3))
   go_ret
   exact ⟨by first | rfl | (simp [errW_none, errW_some] <;> rfl) | (simp [*, errW_none, errW_some] <;> rfl), by repeat (first | (with_reducible first | exact HB.out | apply ba8 | apply bn8 | apply bd8 | refine bs8 ?_ GE175.out) | exact HB.out)⟩
  ·rw [if_neg c6] at H
   have c6b0 : decide (40 < (l0_1.length : Int)) = false := decide_eq_false c6
   have c6b1 : decide (40 < l0_1.length) = false := decide_eq_false (by omega)
   clear c6
   by_cases c9 : (l0_2.length : Int) > 40
   ·rw [if_pos c9] at H
    have c9b0 : decide (40 < (l0_2.length : Int)) = true := decide_eq_true c9
    have c9b1 : decide (40 < l0_2.length) = true := decide_eq_true (by omega)
    clear c9
    obtain rfl := Option.some.inj H
    go_enter Try.func8, Try.ntmps8
    go_wp2_with (first | ((with_reducible refine gate_dst (N:=2) rfl ?_); (try (refine gate_guard (by rfl) ?_; dsimp only)); refine box_event ?hg (N:=2) ?hd (cs:=#[.slice A0_0 l0_0.length c0_0, .slice A0_1 l0_1.length c0_1, .slice A0_2 l0_2.length c0_2, .slice A0_3 l0_3.length c0_3]) (t:=24) ?hr ?_; (case hd => rfl); (case hg => rfl); (case hr => first | (go_simp; done) | (go_simp; rfl)); intro gb175 hg w10 hbox hb; have BK175 := Am8 (hbox); have GW175 := Am8 ((by rw [hg]; exact (bz8 (by repeat (first | (with_reducible first | exact HB.out | apply ba8 | apply bn8 | apply bd8) | exact HB.out))) : w.heap.size ≤ gb175)); have GE175 := Am8 ((by rw [hg]; exact (bz8 (by repeat (first | (with_reducible first | exact HB.out | apply ba8 | apply bn8 | apply bd8) | exact HB.out))) : w.heap.size ≤ gb175)); replace HB := Am8 (bp8 (by repeat (first | (with_reducible first | exact HB.out | apply ba8 | apply bn8 | apply bd8) | exact HB.out)) hb); clear hb hbox hg; have hcz11_0 : w10.cell? ⟨gb175, 0, none⟩ = some (.slice A0_0 l0_0.length c0_0) := (kc8 BK175.out 0).trans rfl; have hcz11_1 : w10.cell? ⟨gb175, 1, none⟩ = some (.slice A0_1 l0_1.length c0_1) := (kc8 BK175.out 1).trans rfl; have hcz11_2 : w10.cell? ⟨gb175, 2, none⟩ = some (.slice A0_2 l0_2.length c0_2) := (kc8 BK175.out 2).trans rfl; have hcz11_3 : w10.cell? ⟨gb175, 3, none⟩ = some (.slice A0_3 l0_3.length c0_3) := (kc8 BK175.out 3).trans rfl; have hfz11_0 := kz8 BK175.out 0; have hfz11_1 := kz8 BK175.out 1; have hfz11_2 := kz8 BK175.out 2; have hfz11_3 := kz8 BK175.out 3))
    go_ret
    exact ⟨by first | rfl | (simp [errW_none, errW_some] <;> rfl) | (simp [*, errW_none, errW_some] <;> rfl), by repeat (first | (with_reducible first | exact HB.out | apply ba8 | apply bn8 | apply bd8 | refine bs8 ?_ GE175.out) | exact HB.out)⟩
   ·rw [if_neg c9] at H
    have c9b0 : decide (40 < (l0_2.length : Int)) = false := decide_eq_false c9
    have c9b1 : decide (40 < l0_2.length) = false := decide_eq_false (by omega)
    clear c9
    by_cases c12 : (l0_3.length : Int) > 40
    ·rw [if_pos c12] at H
     have c12b0 : decide (40 < (l0_3.length : Int)) = true := decide_eq_true c12
     have c12b1 : decide (40 < l0_3.length) = true := decide_eq_true (by omega)
     clear c12
     obtain rfl := Option.some.inj H
     go_enter Try.func8, Try.ntmps8
     go_wp2_with (first | ((with_reducible refine gate_dst (N:=2) rfl ?_); (try (refine gate_guard (by rfl) ?_; dsimp only)); refine box_event ?hg (N:=2) ?hd (cs:=#[.slice A0_0 l0_0.length c0_0, .slice A0_1 l0_1.length c0_1, .slice A0_2 l0_2.length c0_2, .slice A0_3 l0_3.length c0_3]) (t:=24) ?hr ?_; (case hd => rfl); (case hg => rfl); (case hr => first | (go_simp; done) | (go_simp; rfl)); intro gb175 hg w13 hbox hb; have BK175 := Am8 (hbox); have GW175 := Am8 ((by rw [hg]; exact (bz8 (by repeat (first | (with_reducible first | exact HB.out | apply ba8 | apply bn8 | apply bd8) | exact HB.out))) : w.heap.size ≤ gb175)); have GE175 := Am8 ((by rw [hg]; exact (bz8 (by repeat (first | (with_reducible first | exact HB.out | apply ba8 | apply bn8 | apply bd8) | exact HB.out))) : w.heap.size ≤ gb175)); replace HB := Am8 (bp8 (by repeat (first | (with_reducible first | exact HB.out | apply ba8 | apply bn8 | apply bd8) | exact HB.out)) hb); clear hb hbox hg; have hcz14_0 : w13.cell? ⟨gb175, 0, none⟩ = some (.slice A0_0 l0_0.length c0_0) := (kc8 BK175.out 0).trans rfl; have hcz14_1 : w13.cell? ⟨gb175, 1, none⟩ = some (.slice A0_1 l0_1.length c0_1) := (kc8 BK175.out 1).trans rfl; have hcz14_2 : w13.cell? ⟨gb175, 2, none⟩ = some (.slice A0_2 l0_2.length c0_2) := (kc8 BK175.out 2).trans rfl; have hcz14_3 : w13.cell? ⟨gb175, 3, none⟩ = some (.slice A0_3 l0_3.length c0_3) := (kc8 BK175.out 3).trans rfl; have hfz14_0 := kz8 BK175.out 0; have hfz14_1 := kz8 BK175.out 1; have hfz14_2 := kz8 BK175.out 2; have hfz14_3 := kz8 BK175.out 3))
     go_ret
     exact ⟨by first | rfl | (simp [errW_none, errW_some] <;> rfl) | (simp [*, errW_none, errW_some] <;> rfl), by repeat (first | (with_reducible first | exact HB.out | apply ba8 | apply bn8 | apply bd8 | refine bs8 ?_ GE175.out) | exact HB.out)⟩
    ·rw [if_neg c12] at H
     have c12b0 : decide (40 < (l0_3.length : Int)) = false := decide_eq_false c12
     have c12b1 : decide (40 < l0_3.length) = false := decide_eq_false (by omega)
     clear c12
     obtain rfl := Option.some.inj H
     go_enter Try.func8, Try.ntmps8
     go_wp2_with (first | ((with_reducible refine gate_dst (N:=2) rfl ?_); (try (refine gate_guard (by rfl) ?_; dsimp only)); refine box_event ?hg (N:=2) ?hd (cs:=#[.slice A0_0 l0_0.length c0_0, .slice A0_1 l0_1.length c0_1, .slice A0_2 l0_2.length c0_2, .slice A0_3 l0_3.length c0_3]) (t:=24) ?hr ?_; (case hd => rfl); (case hg => rfl); (case hr => first | (go_simp; done) | (go_simp; rfl)); intro gb175 hg w15 hbox hb; have BK175 := Am8 (hbox); have GW175 := Am8 ((by rw [hg]; exact (bz8 (by repeat (first | (with_reducible first | exact HB.out | apply ba8 | apply bn8 | apply bd8) | exact HB.out))) : w.heap.size ≤ gb175)); have GE175 := Am8 ((by rw [hg]; exact (bz8 (by repeat (first | (with_reducible first | exact HB.out | apply ba8 | apply bn8 | apply bd8) | exact HB.out))) : w.heap.size ≤ gb175)); replace HB := Am8 (bp8 (by repeat (first | (with_reducible first | exact HB.out | apply ba8 | apply bn8 | apply bd8) | exact HB.out)) hb); clear hb hbox hg; have hcz16_0 : w15.cell? ⟨gb175, 0, none⟩ = some (.slice A0_0 l0_0.length c0_0) := (kc8 BK175.out 0).trans rfl; have hcz16_1 : w15.cell? ⟨gb175, 1, none⟩ = some (.slice A0_1 l0_1.length c0_1) := (kc8 BK175.out 1).trans rfl; have hcz16_2 : w15.cell? ⟨gb175, 2, none⟩ = some (.slice A0_2 l0_2.length c0_2) := (kc8 BK175.out 2).trans rfl; have hcz16_3 : w15.cell? ⟨gb175, 3, none⟩ = some (.slice A0_3 l0_3.length c0_3) := (kc8 BK175.out 3).trans rfl; have hfz16_0 := kz8 BK175.out 0; have hfz16_1 := kz8 BK175.out 1; have hfz16_2 := kz8 BK175.out 2; have hfz16_3 := kz8 BK175.out 3))
     go_ret
     exact ⟨by first | rfl | (simp [errW_none, errW_some] <;> rfl) | (simp [*, errW_none, errW_some] <;> rfl), by repeat (first | (with_reducible first | exact HB.out | apply ba8 | apply bn8 | apply bd8 | refine bs8 ?_ GE175.out) | exact HB.out)⟩

theorem Am34 : type_of% @Aside0.mk := @Aside0.mk
theorem ba34 : type_of% @below_alloc := @below_alloc
theorem bn34 : type_of% @pw_below_drewN := @pw_below_drewN
theorem bd34 : type_of% @below_drew1 := @below_drew1
theorem Rl34 : type_of% @Kd.R_lower := @Kd.R_lower
theorem bz34 : type_of% @below_size := @below_size
theorem bp34 : type_of% @below_step := @below_step
theorem ma34 : type_of% @List.map_toArray := @List.map_toArray
theorem mc34 : type_of% @List.map_cons := @List.map_cons
theorem mn34 : type_of% @List.map_nil := @List.map_nil
theorem ld34 : type_of% @List.length_drop := @List.length_drop
theorem lt_34 : type_of% @List.length_take := @List.length_take
/-! ### quorum_most: function 34 -/
def quorum_most.f (k : Nat) (l0 : List Int) (l1 : List Int) : Option (Bool) := (quorum_without.f k l0 l1).bind fun t176 => (some (decide ((wrap64 (2 * (wrap64 ((l0.length : Int) - (t176.length : Int))))) > (l0.length : Int))))
theorem quorum_most.mono : ∀ a0 a1 k, LeO (quorum_most.f k a0 a1) (quorum_most.f (k + 1) a0 a1) := by
 intro a0 a1 k
 unfold quorum_most.f
 repeat' first
   | (with_reducible exact quorum_without.mono _ _ _)
   | (with_reducible exact LeO.refl _)
   | (with_reducible exact LeO.none _)
   | (with_reducible refine LeO.ite ?_ ?_)
   | (with_reducible refine LeO.bind ?_ (fun _ => ?_))
   | exact quorum_without.mono _ _ _
   | exact LeO.none _
   | refine LeO.ite ?_ ?_
   | refine LeO.bind ?_ (fun _ => ?_)
set_option maxHeartbeats 8000000 in
set_option maxRecDepth 100000 in
theorem quorum_most.calls (k : Nat) (A0 : Option Addr) (c0 : Nat) (l0 : List Int) (A1 : Option Addr) (c1 : Nat) (l1 : List Int) (r : Bool) (w : World) (hr0 : Kd.C (Kd.int .i64) w A0 l0.length l0) (hc0 : l0.length ≤ c0) (hr1 : Kd.C (Kd.int .i64) w A1 l1.length l1) (hc1 : l1.length ≤ c1) (h : quorum_most.f k l0 l1 = some r) :
  Calls Try.prog 34 #[.slice A0 l0.length c0, .slice A1 l1.length c1] w fun e w' => e = .returned (.bool r) ∧ Below w.heap.size w w' := by
 have HR0 := Am34 hr0
 have HC0 := Am34 hc0
 clear hr0 hc0
 have HR1 := Am34 hr1
 have HC1 := Am34 hc1
 clear hr1 hc1
 have HB := Am34 (Below.refl w.heap.size w)
 have H : ((quorum_without.f k l0 l1).bind fun t176 => (some (decide ((wrap64 (2 * (wrap64 ((l0.length : Int) - (t176.length : Int))))) > (l0.length : Int))))) = some r := h
 clear h
 replace H := Option.bind_eq_some_iff.mp H
 obtain ⟨t176, A30, H⟩ := H
 try dsimp only at H
 have A3 := Am34 A30
 clear A30
 obtain rfl := Option.some.inj H
 go_enter Try.func34, Try.ntmps34
 go_wp2_with (first | ((with_reducible refine gate_callee (f:=40) rfl ?_); refine goesL_ (some 9) rfl rfl Try.func40 (by kernel_rfl) rfl #[.slice A0 l0.length c0, .slice A1 l1.length c1] rfl (by (try simp only [ma34, mc34, mn34]); first | done | rfl | (simp only [ld34, lt_34]; rfl)) ?_; (with_reducible refine (quorum_without.calls k _ _ l0 _ _ l1 t176 _ ?side1 ?side2 ?side3 ?side4 A3.out).mono ?_); (case side1 => repeat (first | exact HR0.out | (with_reducible refine Kd.C_alloc ?_ _) | (with_reducible refine Kd.C_drewN ?_ _) | (with_reducible refine Kd.C_drew ?_))); (case side2 => exact HC0.out); (case side3 => repeat (first | exact HR1.out | (with_reducible refine Kd.C_alloc ?_ _) | (with_reducible refine Kd.C_drewN ?_ _) | (with_reducible refine Kd.C_drew ?_))); (case side4 => exact HC1.out); rintro e w4 ⟨v177, rfl, ho0, hb⟩; refine ⟨_, rfl, ?_⟩; have HO178 := Am34 (Rl34 ho0 (bz34 (by repeat (first | (with_reducible first | exact HB.out | apply ba34 | apply bn34 | apply bd34) | exact HB.out)))); replace HB := Am34 (bp34 (by repeat (first | (with_reducible first | exact HB.out | apply ba34 | apply bn34 | apply bd34) | exact HB.out)) hb); (try clear hb); (try clear hb2); (try clear hk); (try clear hi); (try clear ho0); obtain ⟨Ao5, co5, eo5⟩ := Kd.R_slice HO178.out; subst eo5))
 go_ret
 exact ⟨by first | rfl | (simp [errW_none, errW_some] <;> rfl) | (simp [*, errW_none, errW_some] <;> rfl), by repeat (first | (with_reducible first | exact HB.out | apply ba34 | apply bn34 | apply bd34) | exact HB.out)⟩

theorem Am9 : type_of% @Aside0.mk := @Aside0.mk
theorem ba9 : type_of% @below_alloc := @below_alloc
theorem bn9 : type_of% @pw_below_drewN := @pw_below_drewN
theorem bd9 : type_of% @below_drew1 := @below_drew1
theorem bs9 : type_of% @below_set := @below_set
theorem kn9 : type_of% @blk_drewN := @blk_drewN
theorem kd9 : type_of% @blk_drew := @blk_drew
theorem ka9 : type_of% @blk_alloc := @blk_alloc
theorem kf9 : type_of% @blk_far := @blk_far
theorem kb9 : type_of% @blk_below := @blk_below
theorem bz9 : type_of% @below_size := @below_size
theorem bp9 : type_of% @below_step := @below_step
theorem kc9 : type_of% @blk_cell := @blk_cell
theorem kz9 : type_of% @blk_frozen := @blk_frozen
theorem ma9 : type_of% @List.map_toArray := @List.map_toArray
theorem mc9 : type_of% @List.map_cons := @List.map_cons
theorem mn9 : type_of% @List.map_nil := @List.map_nil
theorem ld9 : type_of% @List.length_drop := @List.length_drop
theorem lt_9 : type_of% @List.length_take := @List.length_take
/-! ### quorum_Agrees: function 9 -/
def quorum_Agrees.f (k : Nat) (l0_0 : List Int) (l0_1 : List Int) (l0_2 : List Int) (l0_3 : List Int) (l1 : List Int) : Option (Bool) := (quorum_group_right.f k l0_0 l0_1 l0_2 l0_3).bind fun t181 => (if t181 = true then ((quorum_most.f k l0_0 l1).bind fun t182 => (if t182 = true then ((quorum_group_joint.f l0_0 l0_1 l0_2 l0_3).bind fun t183 => (if t183 = true then ((quorum_most.f k l0_1 l1).bind fun t184 => (some t184)) else (some true))) else (some false))) else (some false))
theorem quorum_Agrees.mono : ∀ a0 a1 a2 a3 a4 k, LeO (quorum_Agrees.f k a0 a1 a2 a3 a4) (quorum_Agrees.f (k + 1) a0 a1 a2 a3 a4) := by
 intro a0 a1 a2 a3 a4 k
 unfold quorum_Agrees.f
 repeat' first
   | (with_reducible exact quorum_group_right.mono _ _ _ _ _)
   | (with_reducible exact quorum_most.mono _ _ _)
   | (with_reducible exact LeO.refl _)
   | (with_reducible exact LeO.none _)
   | (with_reducible refine LeO.ite ?_ ?_)
   | (with_reducible refine LeO.bind ?_ (fun _ => ?_))
   | exact quorum_group_right.mono _ _ _ _ _
   | exact quorum_most.mono _ _ _
   | exact LeO.none _
   | refine LeO.ite ?_ ?_
   | refine LeO.bind ?_ (fun _ => ?_)
set_option maxHeartbeats 8000000 in
set_option maxRecDepth 100000 in
theorem quorum_Agrees.calls (k : Nat) (A0_0 : Option Addr) (c0_0 : Nat) (l0_0 : List Int) (A0_1 : Option Addr) (c0_1 : Nat) (l0_1 : List Int) (A0_2 : Option Addr) (c0_2 : Nat) (l0_2 : List Int) (A0_3 : Option Addr) (c0_3 : Nat) (l0_3 : List Int) (A1 : Option Addr) (c1 : Nat) (l1 : List Int) (r : Bool) (w : World) (hr0_0 : Kd.C (Kd.int .i64) w A0_0 l0_0.length l0_0) (hc0_0 : l0_0.length ≤ c0_0) (hr0_1 : Kd.C (Kd.int .i64) w A0_1 l0_1.length l0_1) (hc0_1 : l0_1.length ≤ c0_1) (hr0_2 : Kd.C (Kd.int .i64) w A0_2 l0_2.length l0_2) (hc0_2 : l0_2.length ≤ c0_2) (hr0_3 : Kd.C (Kd.int .i64) w A0_3 l0_3.length l0_3) (hc0_3 : l0_3.length ≤ c0_3) (hr1 : Kd.C (Kd.int .i64) w A1 l1.length l1) (hc1 : l1.length ≤ c1) (h : quorum_Agrees.f k l0_0 l0_1 l0_2 l0_3 l1 = some r) :
  Calls Try.prog 9 #[.agg #[.slice A0_0 l0_0.length c0_0, .slice A0_1 l0_1.length c0_1, .slice A0_2 l0_2.length c0_2, .slice A0_3 l0_3.length c0_3], .slice A1 l1.length c1] w fun e w' => e = .returned (.bool r) ∧ Below w.heap.size w w' := by
 have hu24 := Try.underlying24
 have hu48 := Try.underlying48
 have HR0_0 := Am9 hr0_0
 have HC0_0 := Am9 hc0_0
 clear hr0_0 hc0_0
 have HR0_1 := Am9 hr0_1
 have HC0_1 := Am9 hc0_1
 clear hr0_1 hc0_1
 have HR0_2 := Am9 hr0_2
 have HC0_2 := Am9 hc0_2
 clear hr0_2 hc0_2
 have HR0_3 := Am9 hr0_3
 have HC0_3 := Am9 hc0_3
 clear hr0_3 hc0_3
 have HR1 := Am9 hr1
 have HC1 := Am9 hc1
 clear hr1 hc1
 have HB := Am9 (Below.refl w.heap.size w)
 have H : ((quorum_group_right.f k l0_0 l0_1 l0_2 l0_3).bind fun t181 => (if t181 = true then ((quorum_most.f k l0_0 l1).bind fun t182 => (if t182 = true then ((quorum_group_joint.f l0_0 l0_1 l0_2 l0_3).bind fun t183 => (if t183 = true then ((quorum_most.f k l0_1 l1).bind fun t184 => (some t184)) else (some true))) else (some false))) else (some false))) = some r := h
 clear h
 replace H := Option.bind_eq_some_iff.mp H
 obtain ⟨t181, A30, H⟩ := H
 try dsimp only at H
 have A3 := Am9 A30
 clear A30
 by_cases c4 : t181 = true
 ·subst c4
  rw [if_pos rfl] at H
  replace H := Option.bind_eq_some_iff.mp H
  obtain ⟨t182, A50, H⟩ := H
  try dsimp only at H
  have A5 := Am9 A50
  clear A50
  by_cases c6 : t182 = true
  ·subst c6
   rw [if_pos rfl] at H
   replace H := Option.bind_eq_some_iff.mp H
   obtain ⟨t183, A70, H⟩ := H
   try dsimp only at H
   have A7 := Am9 A70
   clear A70
   by_cases c8 : t183 = true
   ·subst c8
    rw [if_pos rfl] at H
    replace H := Option.bind_eq_some_iff.mp H
    obtain ⟨t184, A90, H⟩ := H
    try dsimp only at H
    have A9 := Am9 A90
    clear A90
    obtain rfl := Option.some.inj H
    go_enter Try.func9, Try.ntmps9
    go_wp2_with (first | ((with_reducible refine gate_dst (N:=2) rfl ?_); refine box_event ?hg (N:=2) ?hd (cs:=#[.slice A0_0 l0_0.length c0_0, .slice A0_1 l0_1.length c0_1, .slice A0_2 l0_2.length c0_2, .slice A0_3 l0_3.length c0_3]) (t:=24) ?hr ?_; (case hd => rfl); (case hg => rfl); (case hr => first | (go_simp; done) | (go_simp; rfl)); intro gb179 hg w10 hbox hb; have BK179 := Am9 (hbox); have GW179 := Am9 ((by rw [hg]; exact (bz9 (by repeat (first | (with_reducible first | exact HB.out | apply ba9 | apply bn9 | apply bd9) | exact HB.out))) : w.heap.size ≤ gb179)); have GE179 := Am9 ((by rw [hg]; exact (bz9 (by repeat (first | (with_reducible first | exact HB.out | apply ba9 | apply bn9 | apply bd9) | exact HB.out))) : w.heap.size ≤ gb179)); replace HB := Am9 (bp9 (by repeat (first | (with_reducible first | exact HB.out | apply ba9 | apply bn9 | apply bd9) | exact HB.out)) hb); clear hb hbox hg; have hcz11_0 : w10.cell? ⟨gb179, 0, none⟩ = some (.slice A0_0 l0_0.length c0_0) := (kc9 BK179.out 0).trans rfl; have hcz11_1 : w10.cell? ⟨gb179, 1, none⟩ = some (.slice A0_1 l0_1.length c0_1) := (kc9 BK179.out 1).trans rfl; have hcz11_2 : w10.cell? ⟨gb179, 2, none⟩ = some (.slice A0_2 l0_2.length c0_2) := (kc9 BK179.out 2).trans rfl; have hcz11_3 : w10.cell? ⟨gb179, 3, none⟩ = some (.slice A0_3 l0_3.length c0_3) := (kc9 BK179.out 3).trans rfl; have hfz11_0 := kz9 BK179.out 0; have hfz11_1 := kz9 BK179.out 1; have hfz11_2 := kz9 BK179.out 2; have hfz11_3 := kz9 BK179.out 3) | ((with_reducible refine gate_dst (N:=5) rfl ?_); refine box_event ?hg (N:=5) ?hd (cs:=#[.slice none 0 0, .slice none 0 0, .slice none 0 0, .slice none 0 0]) (t:=48) ?hr ?_; (case hd => rfl); (case hg => rfl); (case hr => first | (go_simp; done) | (go_simp; rfl)); intro gb180 hg w12 hbox hb; have BK180 := Am9 (hbox); have GW180 := Am9 ((by rw [hg]; exact (bz9 (by repeat (first | (with_reducible first | exact HB.out | apply ba9 | apply bn9 | apply bd9 | refine bs9 ?_ GE179.out) | exact HB.out))) : w.heap.size ≤ gb180)); have GE180 := Am9 ((by rw [hg]; exact (bz9 (by repeat (first | (with_reducible first | exact HB.out | apply ba9 | apply bn9 | apply bd9 | refine bs9 ?_ GE179.out) | exact HB.out))) : w.heap.size ≤ gb180)); replace HB := Am9 (bp9 (by repeat (first | (with_reducible first | exact HB.out | apply ba9 | apply bn9 | apply bd9 | refine bs9 ?_ GE179.out) | exact HB.out)) hb); have NB179_180 := Am9 ((by rw [hg]; exact Nat.ne_of_lt (blk_lt (g:=gb179) (o:=.cells #[.slice A0_0 l0_0.length c0_0, .slice A0_1 l0_1.length c0_1, .slice A0_2 l0_2.length c0_2, .slice A0_3 l0_3.length c0_3] 24 (0, 0)) (by (with_reducible repeat first | apply kn9 | apply kd9 | apply ka9); exact BK179.out)) : gb179 ≠ gb180)); have NB180_179 := Am9 ((by rw [hg]; exact Nat.ne_of_gt (blk_lt (g:=gb179) (o:=.cells #[.slice A0_0 l0_0.length c0_0, .slice A0_1 l0_1.length c0_1, .slice A0_2 l0_2.length c0_2, .slice A0_3 l0_3.length c0_3] 24 (0, 0)) (by (with_reducible repeat first | apply kn9 | apply kd9 | apply ka9); exact BK179.out)) : gb180 ≠ gb179)); replace BK179 := Am9 (kb9 (g:=gb179) (o:=.cells #[.slice A0_0 l0_0.length c0_0, .slice A0_1 l0_1.length c0_1, .slice A0_2 l0_2.length c0_2, .slice A0_3 l0_3.length c0_3] 24 (0, 0)) (by (with_reducible repeat first | apply kn9 | apply kd9 | apply ka9); exact BK179.out) hb); clear hb hbox hg; have hnb13 := NB180_179.out; have hnc13 := NB179_180.out; have hcz14_0 : w12.cell? ⟨gb180, 0, none⟩ = some (.slice none 0 0) := (kc9 BK180.out 0).trans rfl; have hcz14_1 : w12.cell? ⟨gb180, 1, none⟩ = some (.slice none 0 0) := (kc9 BK180.out 1).trans rfl; have hcz14_2 : w12.cell? ⟨gb180, 2, none⟩ = some (.slice none 0 0) := (kc9 BK180.out 2).trans rfl; have hcz14_3 : w12.cell? ⟨gb180, 3, none⟩ = some (.slice none 0 0) := (kc9 BK180.out 3).trans rfl; have hfz14_0 := kz9 BK180.out 0; have hfz14_1 := kz9 BK180.out 1; have hfz14_2 := kz9 BK180.out 2; have hfz14_3 := kz9 BK180.out 3) | ((with_reducible refine gate_store (t:=48) (p:=5) rfl ?_); refine store_event (t:=48) (p:=5) (v:=?vo_w15) (w1:=((((w12.setCell ⟨gb180, 0, none⟩ (.slice A0_0 l0_0.length c0_0)).setCell ⟨gb180, 1, none⟩ (.slice A0_1 l0_1.length c0_1)).setCell ⟨gb180, 2, none⟩ (.slice A0_2 l0_2.length c0_2)).setCell ⟨gb180, 3, none⟩ (.slice A0_3 l0_3.length c0_3))) ?hg ?ho ?hn ?hr ?_; (case ho => rfl); (case hg => rfl); (case hn => rfl); (case hr => first | (go_simp; done) | (go_simp; rfl)); intro w15 hw; have n0_ : Aside0 (w15.heap[gb179]? = some (.cells #[.slice A0_0 l0_0.length c0_0, .slice A0_1 l0_1.length c0_1, .slice A0_2 l0_2.length c0_2, .slice A0_3 l0_3.length c0_3] 24 (0, 0))) := ⟨(by rw [hw]; exact (by (with_reducible repeat first | apply kn9 | apply kd9 | apply ka9); refine kf9 ?_ NB179_180.out _; (with_reducible repeat first | apply kn9 | apply kd9 | apply ka9); refine kf9 ?_ NB179_180.out _; (with_reducible repeat first | apply kn9 | apply kd9 | apply ka9); refine kf9 ?_ NB179_180.out _; (with_reducible repeat first | apply kn9 | apply kd9 | apply ka9); refine kf9 ?_ NB179_180.out _; (with_reducible repeat first | apply kn9 | apply kd9 | apply ka9); exact BK179.out))⟩; have n1_ : Aside0 (w15.heap[gb180]? = some (.cells #[.slice A0_0 l0_0.length c0_0, .slice A0_1 l0_1.length c0_1, .slice A0_2 l0_2.length c0_2, .slice A0_3 l0_3.length c0_3] 48 (0, 0))) := ⟨(by rw [hw]; exact (by (with_reducible repeat first | apply kn9 | apply kd9 | apply ka9); refine blk_put (cs:=#[.slice A0_0 l0_0.length c0_0, .slice A0_1 l0_1.length c0_1, .slice A0_2 l0_2.length c0_2, .slice none 0 0]) ?_ 3 _ rfl; (with_reducible repeat first | apply kn9 | apply kd9 | apply ka9); refine blk_put (cs:=#[.slice A0_0 l0_0.length c0_0, .slice A0_1 l0_1.length c0_1, .slice none 0 0, .slice none 0 0]) ?_ 2 _ rfl; (with_reducible repeat first | apply kn9 | apply kd9 | apply ka9); refine blk_put (cs:=#[.slice A0_0 l0_0.length c0_0, .slice none 0 0, .slice none 0 0, .slice none 0 0]) ?_ 1 _ rfl; (with_reducible repeat first | apply kn9 | apply kd9 | apply ka9); refine blk_put (cs:=#[.slice none 0 0, .slice none 0 0, .slice none 0 0, .slice none 0 0]) ?_ 0 _ rfl; (with_reducible repeat first | apply kn9 | apply kd9 | apply ka9); exact BK180.out))⟩; have n2_ : Aside0 (Below w.heap.size w w15) := ⟨(by rw [hw]; exact (by repeat (first | (with_reducible first | exact HB.out | apply ba9 | apply bn9 | apply bd9 | refine bs9 ?_ GE179.out | refine bs9 ?_ GE180.out) | exact HB.out)))⟩; clear hw; clear BK179; clear BK180; clear HB; have BK179 := n0_; have BK180 := n1_; have HB := n2_; clear n0_ n1_ n2_; have hcz16_0 : w15.cell? ⟨gb180, 0, none⟩ = some (.slice A0_0 l0_0.length c0_0) := (kc9 BK180.out 0).trans rfl; have hcz16_1 : w15.cell? ⟨gb180, 1, none⟩ = some (.slice A0_1 l0_1.length c0_1) := (kc9 BK180.out 1).trans rfl; have hcz16_2 : w15.cell? ⟨gb180, 2, none⟩ = some (.slice A0_2 l0_2.length c0_2) := (kc9 BK180.out 2).trans rfl; have hcz16_3 : w15.cell? ⟨gb180, 3, none⟩ = some (.slice A0_3 l0_3.length c0_3) := (kc9 BK180.out 3).trans rfl; have hfz16_0 := kz9 BK180.out 0; have hfz16_1 := kz9 BK180.out 1; have hfz16_2 := kz9 BK180.out 2; have hfz16_3 := kz9 BK180.out 3) | ((with_reducible refine gate_callee (f:=33) rfl ?_); refine goesL_ (some 9) rfl rfl Try.func33 (by kernel_rfl) rfl #[.agg #[.slice A0_0 l0_0.length c0_0, .slice A0_1 l0_1.length c0_1, .slice A0_2 l0_2.length c0_2, .slice A0_3 l0_3.length c0_3]] rfl (by (try simp only [ma9, mc9, mn9]); first | done | rfl | (simp only [ld9, lt_9]; rfl)) ?_; (with_reducible refine (quorum_group_right.calls k (fun k_ => k_ < w.heap.size) _ _ l0_0 (fun k_ => k_ < w.heap.size) _ _ l0_1 (fun k_ => k_ < w.heap.size) _ _ l0_2 (fun k_ => k_ < w.heap.size) _ _ l0_3 true _ ?side1 ?side2 ?side3 ?side4 A3.out).mono ?_); (case side1 => exact Kd.V_mk HC0_0.out (Kd.F_below (Kd.C_F (Kd.heap_int .i64) HR0_0.out) (by repeat (first | (with_reducible first | exact HB.out | apply ba9 | apply bn9 | apply bd9 | refine bs9 ?_ GE179.out | refine bs9 ?_ GE180.out) | exact HB.out)))); (case side2 => exact Kd.V_mk HC0_1.out (Kd.F_below (Kd.C_F (Kd.heap_int .i64) HR0_1.out) (by repeat (first | (with_reducible first | exact HB.out | apply ba9 | apply bn9 | apply bd9 | refine bs9 ?_ GE179.out | refine bs9 ?_ GE180.out) | exact HB.out)))); (case side3 => exact Kd.V_mk HC0_2.out (Kd.F_below (Kd.C_F (Kd.heap_int .i64) HR0_2.out) (by repeat (first | (with_reducible first | exact HB.out | apply ba9 | apply bn9 | apply bd9 | refine bs9 ?_ GE179.out | refine bs9 ?_ GE180.out) | exact HB.out)))); (case side4 => exact Kd.V_mk HC0_3.out (Kd.F_below (Kd.C_F (Kd.heap_int .i64) HR0_3.out) (by repeat (first | (with_reducible first | exact HB.out | apply ba9 | apply bn9 | apply bd9 | refine bs9 ?_ GE179.out | refine bs9 ?_ GE180.out) | exact HB.out)))); rintro e w17 ⟨rfl, hb⟩; refine ⟨_, rfl, ?_⟩; replace BK179 := Am9 (kb9 (g:=gb179) (o:=.cells #[.slice A0_0 l0_0.length c0_0, .slice A0_1 l0_1.length c0_1, .slice A0_2 l0_2.length c0_2, .slice A0_3 l0_3.length c0_3] 24 (0, 0)) (by (with_reducible repeat first | apply kn9 | apply kd9 | apply ka9); exact BK179.out) hb); replace BK180 := Am9 (kb9 (g:=gb180) (o:=.cells #[.slice A0_0 l0_0.length c0_0, .slice A0_1 l0_1.length c0_1, .slice A0_2 l0_2.length c0_2, .slice A0_3 l0_3.length c0_3] 48 (0, 0)) (by (with_reducible repeat first | apply kn9 | apply kd9 | apply ka9); exact BK180.out) hb); replace HB := Am9 (bp9 (by repeat (first | (with_reducible first | exact HB.out | apply ba9 | apply bn9 | apply bd9 | refine bs9 ?_ GE179.out | refine bs9 ?_ GE180.out) | exact HB.out)) hb); (try clear hb); (try clear hb2); (try clear hk); (try clear hi); have hcz18_0 : w17.cell? ⟨gb180, 0, none⟩ = some (.slice A0_0 l0_0.length c0_0) := (kc9 BK180.out 0).trans rfl; have hcz18_1 : w17.cell? ⟨gb180, 1, none⟩ = some (.slice A0_1 l0_1.length c0_1) := (kc9 BK180.out 1).trans rfl; have hcz18_2 : w17.cell? ⟨gb180, 2, none⟩ = some (.slice A0_2 l0_2.length c0_2) := (kc9 BK180.out 2).trans rfl; have hcz18_3 : w17.cell? ⟨gb180, 3, none⟩ = some (.slice A0_3 l0_3.length c0_3) := (kc9 BK180.out 3).trans rfl; have hfz18_0 := kz9 BK180.out 0; have hfz18_1 := kz9 BK180.out 1; have hfz18_2 := kz9 BK180.out 2; have hfz18_3 := kz9 BK180.out 3) | (go_at_call 34; (with_reducible refine (quorum_most.calls k _ _ l0_0 _ _ l1 true _ ?side1 ?side2 ?side3 ?side4 A5.out).mono ?_); (case side1 => repeat (first | exact (Kd.C_below HR0_0.out HB.out) | (with_reducible refine Kd.C_alloc ?_ _) | (with_reducible refine Kd.C_drewN ?_ _) | (with_reducible refine Kd.C_drew ?_))); (case side2 => exact HC0_0.out); (case side3 => repeat (first | exact (Kd.C_below HR1.out HB.out) | (with_reducible refine Kd.C_alloc ?_ _) | (with_reducible refine Kd.C_drewN ?_ _) | (with_reducible refine Kd.C_drew ?_))); (case side4 => exact HC1.out); rintro e w19 ⟨rfl, hb⟩; replace BK179 := Am9 (kb9 (g:=gb179) (o:=.cells #[.slice A0_0 l0_0.length c0_0, .slice A0_1 l0_1.length c0_1, .slice A0_2 l0_2.length c0_2, .slice A0_3 l0_3.length c0_3] 24 (0, 0)) (by (with_reducible repeat first | apply kn9 | apply kd9 | apply ka9); exact BK179.out) hb); replace BK180 := Am9 (kb9 (g:=gb180) (o:=.cells #[.slice A0_0 l0_0.length c0_0, .slice A0_1 l0_1.length c0_1, .slice A0_2 l0_2.length c0_2, .slice A0_3 l0_3.length c0_3] 48 (0, 0)) (by (with_reducible repeat first | apply kn9 | apply kd9 | apply ka9); exact BK180.out) hb); replace HB := Am9 (bp9 (by repeat (first | (with_reducible first | exact HB.out | apply ba9 | apply bn9 | apply bd9 | refine bs9 ?_ GE179.out | refine bs9 ?_ GE180.out) | exact HB.out)) hb); (try clear hb); (try clear hb2); (try clear hk); (try clear hi); have hcz20_0 : w19.cell? ⟨gb180, 0, none⟩ = some (.slice A0_0 l0_0.length c0_0) := (kc9 BK180.out 0).trans rfl; have hcz20_1 : w19.cell? ⟨gb180, 1, none⟩ = some (.slice A0_1 l0_1.length c0_1) := (kc9 BK180.out 1).trans rfl; have hcz20_2 : w19.cell? ⟨gb180, 2, none⟩ = some (.slice A0_2 l0_2.length c0_2) := (kc9 BK180.out 2).trans rfl; have hcz20_3 : w19.cell? ⟨gb180, 3, none⟩ = some (.slice A0_3 l0_3.length c0_3) := (kc9 BK180.out 3).trans rfl; have hfz20_0 := kz9 BK180.out 0; have hfz20_1 := kz9 BK180.out 1; have hfz20_2 := kz9 BK180.out 2; have hfz20_3 := kz9 BK180.out 3) | (go_at_call 35; (with_reducible refine (quorum_group_joint.calls _ _ l0_0 _ _ l0_1 _ _ l0_2 _ _ l0_3 true _ ?side1 ?side2 ?side3 ?side4 ?side5 ?side6 ?side7 ?side8 A7.out).mono ?_); (case side1 => repeat (first | exact (Kd.C_below HR0_0.out HB.out) | (with_reducible refine Kd.C_alloc ?_ _) | (with_reducible refine Kd.C_drewN ?_ _) | (with_reducible refine Kd.C_drew ?_))); (case side2 => exact HC0_0.out); (case side3 => repeat (first | exact (Kd.C_below HR0_1.out HB.out) | (with_reducible refine Kd.C_alloc ?_ _) | (with_reducible refine Kd.C_drewN ?_ _) | (with_reducible refine Kd.C_drew ?_))); (case side4 => exact HC0_1.out); (case side5 => repeat (first | exact (Kd.C_below HR0_2.out HB.out) | (with_reducible refine Kd.C_alloc ?_ _) | (with_reducible refine Kd.C_drewN ?_ _) | (with_reducible refine Kd.C_drew ?_))); (case side6 => exact HC0_2.out); (case side7 => repeat (first | exact (Kd.C_below HR0_3.out HB.out) | (with_reducible refine Kd.C_alloc ?_ _) | (with_reducible refine Kd.C_drewN ?_ _) | (with_reducible refine Kd.C_drew ?_))); (case side8 => exact HC0_3.out); rintro e w21 ⟨rfl, hb⟩; replace BK179 := Am9 (kb9 (g:=gb179) (o:=.cells #[.slice A0_0 l0_0.length c0_0, .slice A0_1 l0_1.length c0_1, .slice A0_2 l0_2.length c0_2, .slice A0_3 l0_3.length c0_3] 24 (0, 0)) (by (with_reducible repeat first | apply kn9 | apply kd9 | apply ka9); exact BK179.out) hb); replace BK180 := Am9 (kb9 (g:=gb180) (o:=.cells #[.slice A0_0 l0_0.length c0_0, .slice A0_1 l0_1.length c0_1, .slice A0_2 l0_2.length c0_2, .slice A0_3 l0_3.length c0_3] 48 (0, 0)) (by (with_reducible repeat first | apply kn9 | apply kd9 | apply ka9); exact BK180.out) hb); replace HB := Am9 (bp9 (by repeat (first | (with_reducible first | exact HB.out | apply ba9 | apply bn9 | apply bd9 | refine bs9 ?_ GE179.out | refine bs9 ?_ GE180.out) | exact HB.out)) hb); (try clear hb); (try clear hb2); (try clear hk); (try clear hi); have hcz22_0 : w21.cell? ⟨gb180, 0, none⟩ = some (.slice A0_0 l0_0.length c0_0) := (kc9 BK180.out 0).trans rfl; have hcz22_1 : w21.cell? ⟨gb180, 1, none⟩ = some (.slice A0_1 l0_1.length c0_1) := (kc9 BK180.out 1).trans rfl; have hcz22_2 : w21.cell? ⟨gb180, 2, none⟩ = some (.slice A0_2 l0_2.length c0_2) := (kc9 BK180.out 2).trans rfl; have hcz22_3 : w21.cell? ⟨gb180, 3, none⟩ = some (.slice A0_3 l0_3.length c0_3) := (kc9 BK180.out 3).trans rfl; have hfz22_0 := kz9 BK180.out 0; have hfz22_1 := kz9 BK180.out 1; have hfz22_2 := kz9 BK180.out 2; have hfz22_3 := kz9 BK180.out 3) | (go_at_call 34; (with_reducible refine (quorum_most.calls k _ _ l0_1 _ _ l1 t184 _ ?side1 ?side2 ?side3 ?side4 A9.out).mono ?_); (case side1 => repeat (first | exact (Kd.C_below HR0_1.out HB.out) | (with_reducible refine Kd.C_alloc ?_ _) | (with_reducible refine Kd.C_drewN ?_ _) | (with_reducible refine Kd.C_drew ?_))); (case side2 => exact HC0_1.out); (case side3 => repeat (first | exact (Kd.C_below HR1.out HB.out) | (with_reducible refine Kd.C_alloc ?_ _) | (with_reducible refine Kd.C_drewN ?_ _) | (with_reducible refine Kd.C_drew ?_))); (case side4 => exact HC1.out); rintro e w23 ⟨rfl, hb⟩; replace BK179 := Am9 (kb9 (g:=gb179) (o:=.cells #[.slice A0_0 l0_0.length c0_0, .slice A0_1 l0_1.length c0_1, .slice A0_2 l0_2.length c0_2, .slice A0_3 l0_3.length c0_3] 24 (0, 0)) (by (with_reducible repeat first | apply kn9 | apply kd9 | apply ka9); exact BK179.out) hb); replace BK180 := Am9 (kb9 (g:=gb180) (o:=.cells #[.slice A0_0 l0_0.length c0_0, .slice A0_1 l0_1.length c0_1, .slice A0_2 l0_2.length c0_2, .slice A0_3 l0_3.length c0_3] 48 (0, 0)) (by (with_reducible repeat first | apply kn9 | apply kd9 | apply ka9); exact BK180.out) hb); replace HB := Am9 (bp9 (by repeat (first | (with_reducible first | exact HB.out | apply ba9 | apply bn9 | apply bd9 | refine bs9 ?_ GE179.out | refine bs9 ?_ GE180.out) | exact HB.out)) hb); (try clear hb); (try clear hb2); (try clear hk); (try clear hi)))
    go_ret
    exact ⟨by first | rfl | (simp [errW_none, errW_some] <;> rfl) | (simp [*, errW_none, errW_some] <;> rfl), by repeat (first | (with_reducible first | exact HB.out | apply ba9 | apply bn9 | apply bd9 | refine bs9 ?_ GE179.out | refine bs9 ?_ GE180.out) | exact HB.out)⟩
   ·replace c8 := Bool.eq_false_iff.mpr c8
    subst c8
    rw [if_neg (show ¬ (false = true) by decide)] at H
    obtain rfl := Option.some.inj H
    go_enter Try.func9, Try.ntmps9
    go_wp2_with (first | ((with_reducible refine gate_dst (N:=2) rfl ?_); refine box_event ?hg (N:=2) ?hd (cs:=#[.slice A0_0 l0_0.length c0_0, .slice A0_1 l0_1.length c0_1, .slice A0_2 l0_2.length c0_2, .slice A0_3 l0_3.length c0_3]) (t:=24) ?hr ?_; (case hd => rfl); (case hg => rfl); (case hr => first | (go_simp; done) | (go_simp; rfl)); intro gb179 hg w24 hbox hb; have BK179 := Am9 (hbox); have GW179 := Am9 ((by rw [hg]; exact (bz9 (by repeat (first | (with_reducible first | exact HB.out | apply ba9 | apply bn9 | apply bd9) | exact HB.out))) : w.heap.size ≤ gb179)); have GE179 := Am9 ((by rw [hg]; exact (bz9 (by repeat (first | (with_reducible first | exact HB.out | apply ba9 | apply bn9 | apply bd9) | exact HB.out))) : w.heap.size ≤ gb179)); replace HB := Am9 (bp9 (by repeat (first | (with_reducible first | exact HB.out | apply ba9 | apply bn9 | apply bd9) | exact HB.out)) hb); clear hb hbox hg; have hcz25_0 : w24.cell? ⟨gb179, 0, none⟩ = some (.slice A0_0 l0_0.length c0_0) := (kc9 BK179.out 0).trans rfl; have hcz25_1 : w24.cell? ⟨gb179, 1, none⟩ = some (.slice A0_1 l0_1.length c0_1) := (kc9 BK179.out 1).trans rfl; have hcz25_2 : w24.cell? ⟨gb179, 2, none⟩ = some (.slice A0_2 l0_2.length c0_2) := (kc9 BK179.out 2).trans rfl; have hcz25_3 : w24.cell? ⟨gb179, 3, none⟩ = some (.slice A0_3 l0_3.length c0_3) := (kc9 BK179.out 3).trans rfl; have hfz25_0 := kz9 BK179.out 0; have hfz25_1 := kz9 BK179.out 1; have hfz25_2 := kz9 BK179.out 2; have hfz25_3 := kz9 BK179.out 3) | ((with_reducible refine gate_dst (N:=5) rfl ?_); refine box_event ?hg (N:=5) ?hd (cs:=#[.slice none 0 0, .slice none 0 0, .slice none 0 0, .slice none 0 0]) (t:=48) ?hr ?_; (case hd => rfl); (case hg => rfl); (case hr => first | (go_simp; done) | (go_simp; rfl)); intro gb180 hg w26 hbox hb; have BK180 := Am9 (hbox); have GW180 := Am9 ((by rw [hg]; exact (bz9 (by repeat (first | (with_reducible first | exact HB.out | apply ba9 | apply bn9 | apply bd9 | refine bs9 ?_ GE179.out) | exact HB.out))) : w.heap.size ≤ gb180)); have GE180 := Am9 ((by rw [hg]; exact (bz9 (by repeat (first | (with_reducible first | exact HB.out | apply ba9 | apply bn9 | apply bd9 | refine bs9 ?_ GE179.out) | exact HB.out))) : w.heap.size ≤ gb180)); replace HB := Am9 (bp9 (by repeat (first | (with_reducible first | exact HB.out | apply ba9 | apply bn9 | apply bd9 | refine bs9 ?_ GE179.out) | exact HB.out)) hb); have NB179_180 := Am9 ((by rw [hg]; exact Nat.ne_of_lt (blk_lt (g:=gb179) (o:=.cells #[.slice A0_0 l0_0.length c0_0, .slice A0_1 l0_1.length c0_1, .slice A0_2 l0_2.length c0_2, .slice A0_3 l0_3.length c0_3] 24 (0, 0)) (by (with_reducible repeat first | apply kn9 | apply kd9 | apply ka9); exact BK179.out)) : gb179 ≠ gb180)); have NB180_179 := Am9 ((by rw [hg]; exact Nat.ne_of_gt (blk_lt (g:=gb179) (o:=.cells #[.slice A0_0 l0_0.length c0_0, .slice A0_1 l0_1.length c0_1, .slice A0_2 l0_2.length c0_2, .slice A0_3 l0_3.length c0_3] 24 (0, 0)) (by (with_reducible repeat first | apply kn9 | apply kd9 | apply ka9); exact BK179.out)) : gb180 ≠ gb179)); replace BK179 := Am9 (kb9 (g:=gb179) (o:=.cells #[.slice A0_0 l0_0.length c0_0, .slice A0_1 l0_1.length c0_1, .slice A0_2 l0_2.length c0_2, .slice A0_3 l0_3.length c0_3] 24 (0, 0)) (by (with_reducible repeat first | apply kn9 | apply kd9 | apply ka9); exact BK179.out) hb); clear hb hbox hg; have hnb27 := NB180_179.out; have hnc27 := NB179_180.out; have hcz28_0 : w26.cell? ⟨gb180, 0, none⟩ = some (.slice none 0 0) := (kc9 BK180.out 0).trans rfl; have hcz28_1 : w26.cell? ⟨gb180, 1, none⟩ = some (.slice none 0 0) := (kc9 BK180.out 1).trans rfl; have hcz28_2 : w26.cell? ⟨gb180, 2, none⟩ = some (.slice none 0 0) := (kc9 BK180.out 2).trans rfl; have hcz28_3 : w26.cell? ⟨gb180, 3, none⟩ = some (.slice none 0 0) := (kc9 BK180.out 3).trans rfl; have hfz28_0 := kz9 BK180.out 0; have hfz28_1 := kz9 BK180.out 1; have hfz28_2 := kz9 BK180.out 2; have hfz28_3 := kz9 BK180.out 3) | ((with_reducible refine gate_store (t:=48) (p:=5) rfl ?_); refine store_event (t:=48) (p:=5) (v:=?vo_w29) (w1:=((((w26.setCell ⟨gb180, 0, none⟩ (.slice A0_0 l0_0.length c0_0)).setCell ⟨gb180, 1, none⟩ (.slice A0_1 l0_1.length c0_1)).setCell ⟨gb180, 2, none⟩ (.slice A0_2 l0_2.length c0_2)).setCell ⟨gb180, 3, none⟩ (.slice A0_3 l0_3.length c0_3))) ?hg ?ho ?hn ?hr ?_; (case ho => rfl); (case hg => rfl); (case hn => rfl); (case hr => first | (go_simp; done) | (go_simp; rfl)); intro w29 hw; have n0_ : Aside0 (w29.heap[gb179]? = some (.cells #[.slice A0_0 l0_0.length c0_0, .slice A0_1 l0_1.length c0_1, .slice A0_2 l0_2.length c0_2, .slice A0_3 l0_3.length c0_3] 24 (0, 0))) := ⟨(by rw [hw]; exact (by (with_reducible repeat first | apply kn9 | apply kd9 | apply ka9); refine kf9 ?_ NB179_180.out _; (with_reducible repeat first | apply kn9 | apply kd9 | apply ka9); refine kf9 ?_ NB179_180.out _; (with_reducible repeat first | apply kn9 | apply kd9 | apply ka9); refine kf9 ?_ NB179_180.out _; (with_reducible repeat first | apply kn9 | apply kd9 | apply ka9); refine kf9 ?_ NB179_180.out _; (with_reducible repeat first | apply kn9 | apply kd9 | apply ka9); exact BK179.out))⟩; have n1_ : Aside0 (w29.heap[gb180]? = some (.cells #[.slice A0_0 l0_0.length c0_0, .slice A0_1 l0_1.length c0_1, .slice A0_2 l0_2.length c0_2, .slice A0_3 l0_3.length c0_3] 48 (0, 0))) := ⟨(by rw [hw]; exact (by (with_reducible repeat first | apply kn9 | apply kd9 | apply ka9); refine blk_put (cs:=#[.slice A0_0 l0_0.length c0_0, .slice A0_1 l0_1.length c0_1, .slice A0_2 l0_2.length c0_2, .slice none 0 0]) ?_ 3 _ rfl; (with_reducible repeat first | apply kn9 | apply kd9 | apply ka9); refine blk_put (cs:=#[.slice A0_0 l0_0.length c0_0, .slice A0_1 l0_1.length c0_1, .slice none 0 0, .slice none 0 0]) ?_ 2 _ rfl; (with_reducible repeat first | apply kn9 | apply kd9 | apply ka9); refine blk_put (cs:=#[.slice A0_0 l0_0.length c0_0, .slice none 0 0, .slice none 0 0, .slice none 0 0]) ?_ 1 _ rfl; (with_reducible repeat first | apply kn9 | apply kd9 | apply ka9); refine blk_put (cs:=#[.slice none 0 0, .slice none 0 0, .slice none 0 0, .slice none 0 0]) ?_ 0 _ rfl; (with_reducible repeat first | apply kn9 | apply kd9 | apply ka9); exact BK180.out))⟩; have n2_ : Aside0 (Below w.heap.size w w29) := ⟨(by rw [hw]; exact (by repeat (first | (with_reducible first | exact HB.out | apply ba9 | apply bn9 | apply bd9 | refine bs9 ?_ GE179.out | refine bs9 ?_ GE180.out) | exact HB.out)))⟩; clear hw; clear BK179; clear BK180; clear HB; have BK179 := n0_; have BK180 := n1_; have HB := n2_; clear n0_ n1_ n2_; have hcz30_0 : w29.cell? ⟨gb180, 0, none⟩ = some (.slice A0_0 l0_0.length c0_0) := (kc9 BK180.out 0).trans rfl; have hcz30_1 : w29.cell? ⟨gb180, 1, none⟩ = some (.slice A0_1 l0_1.length c0_1) := (kc9 BK180.out 1).trans rfl; have hcz30_2 : w29.cell? ⟨gb180, 2, none⟩ = some (.slice A0_2 l0_2.length c0_2) := (kc9 BK180.out 2).trans rfl; have hcz30_3 : w29.cell? ⟨gb180, 3, none⟩ = some (.slice A0_3 l0_3.length c0_3) := (kc9 BK180.out 3).trans rfl; have hfz30_0 := kz9 BK180.out 0; have hfz30_1 := kz9 BK180.out 1; have hfz30_2 := kz9 BK180.out 2; have hfz30_3 := kz9 BK180.out 3) | ((with_reducible refine gate_callee (f:=33) rfl ?_); refine goesL_ (some 9) rfl rfl Try.func33 (by kernel_rfl) rfl #[.agg #[.slice A0_0 l0_0.length c0_0, .slice A0_1 l0_1.length c0_1, .slice A0_2 l0_2.length c0_2, .slice A0_3 l0_3.length c0_3]] rfl (by (try simp only [ma9, mc9, mn9]); first | done | rfl | (simp only [ld9, lt_9]; rfl)) ?_; (with_reducible refine (quorum_group_right.calls k (fun k_ => k_ < w.heap.size) _ _ l0_0 (fun k_ => k_ < w.heap.size) _ _ l0_1 (fun k_ => k_ < w.heap.size) _ _ l0_2 (fun k_ => k_ < w.heap.size) _ _ l0_3 true _ ?side1 ?side2 ?side3 ?side4 A3.out).mono ?_); (case side1 => exact Kd.V_mk HC0_0.out (Kd.F_below (Kd.C_F (Kd.heap_int .i64) HR0_0.out) (by repeat (first | (with_reducible first | exact HB.out | apply ba9 | apply bn9 | apply bd9 | refine bs9 ?_ GE179.out | refine bs9 ?_ GE180.out) | exact HB.out)))); (case side2 => exact Kd.V_mk HC0_1.out (Kd.F_below (Kd.C_F (Kd.heap_int .i64) HR0_1.out) (by repeat (first | (with_reducible first | exact HB.out | apply ba9 | apply bn9 | apply bd9 | refine bs9 ?_ GE179.out | refine bs9 ?_ GE180.out) | exact HB.out)))); (case side3 => exact Kd.V_mk HC0_2.out (Kd.F_below (Kd.C_F (Kd.heap_int .i64) HR0_2.out) (by repeat (first | (with_reducible first | exact HB.out | apply ba9 | apply bn9 | apply bd9 | refine bs9 ?_ GE179.out | refine bs9 ?_ GE180.out) | exact HB.out)))); (case side4 => exact Kd.V_mk HC0_3.out (Kd.F_below (Kd.C_F (Kd.heap_int .i64) HR0_3.out) (by repeat (first | (with_reducible first | exact HB.out | apply ba9 | apply bn9 | apply bd9 | refine bs9 ?_ GE179.out | refine bs9 ?_ GE180.out) | exact HB.out)))); rintro e w31 ⟨rfl, hb⟩; refine ⟨_, rfl, ?_⟩; replace BK179 := Am9 (kb9 (g:=gb179) (o:=.cells #[.slice A0_0 l0_0.length c0_0, .slice A0_1 l0_1.length c0_1, .slice A0_2 l0_2.length c0_2, .slice A0_3 l0_3.length c0_3] 24 (0, 0)) (by (with_reducible repeat first | apply kn9 | apply kd9 | apply ka9); exact BK179.out) hb); replace BK180 := Am9 (kb9 (g:=gb180) (o:=.cells #[.slice A0_0 l0_0.length c0_0, .slice A0_1 l0_1.length c0_1, .slice A0_2 l0_2.length c0_2, .slice A0_3 l0_3.length c0_3] 48 (0, 0)) (by (with_reducible repeat first | apply kn9 | apply kd9 | apply ka9); exact BK180.out) hb); replace HB := Am9 (bp9 (by repeat (first | (with_reducible first | exact HB.out | apply ba9 | apply bn9 | apply bd9 | refine bs9 ?_ GE179.out | refine bs9 ?_ GE180.out) | exact HB.out)) hb); (try clear hb); (try clear hb2); (try clear hk); (try clear hi); have hcz32_0 : w31.cell? ⟨gb180, 0, none⟩ = some (.slice A0_0 l0_0.length c0_0) := (kc9 BK180.out 0).trans rfl; have hcz32_1 : w31.cell? ⟨gb180, 1, none⟩ = some (.slice A0_1 l0_1.length c0_1) := (kc9 BK180.out 1).trans rfl; have hcz32_2 : w31.cell? ⟨gb180, 2, none⟩ = some (.slice A0_2 l0_2.length c0_2) := (kc9 BK180.out 2).trans rfl; have hcz32_3 : w31.cell? ⟨gb180, 3, none⟩ = some (.slice A0_3 l0_3.length c0_3) := (kc9 BK180.out 3).trans rfl; have hfz32_0 := kz9 BK180.out 0; have hfz32_1 := kz9 BK180.out 1; have hfz32_2 := kz9 BK180.out 2; have hfz32_3 := kz9 BK180.out 3) | (go_at_call 34; (with_reducible refine (quorum_most.calls k _ _ l0_0 _ _ l1 true _ ?side1 ?side2 ?side3 ?side4 A5.out).mono ?_); (case side1 => repeat (first | exact (Kd.C_below HR0_0.out HB.out) | (with_reducible refine Kd.C_alloc ?_ _) | (with_reducible refine Kd.C_drewN ?_ _) | (with_reducible refine Kd.C_drew ?_))); (case side2 => exact HC0_0.out); (case side3 => repeat (first | exact (Kd.C_below HR1.out HB.out) | (with_reducible refine Kd.C_alloc ?_ _) | (with_reducible refine Kd.C_drewN ?_ _) | (with_reducible refine Kd.C_drew ?_))); (case side4 => exact HC1.out); rintro e w33 ⟨rfl, hb⟩; replace BK179 := Am9 (kb9 (g:=gb179) (o:=.cells #[.slice A0_0 l0_0.length c0_0, .slice A0_1 l0_1.length c0_1, .slice A0_2 l0_2.length c0_2, .slice A0_3 l0_3.length c0_3] 24 (0, 0)) (by (with_reducible repeat first | apply kn9 | apply kd9 | apply ka9); exact BK179.out) hb); replace BK180 := Am9 (kb9 (g:=gb180) (o:=.cells #[.slice A0_0 l0_0.length c0_0, .slice A0_1 l0_1.length c0_1, .slice A0_2 l0_2.length c0_2, .slice A0_3 l0_3.length c0_3] 48 (0, 0)) (by (with_reducible repeat first | apply kn9 | apply kd9 | apply ka9); exact BK180.out) hb); replace HB := Am9 (bp9 (by repeat (first | (with_reducible first | exact HB.out | apply ba9 | apply bn9 | apply bd9 | refine bs9 ?_ GE179.out | refine bs9 ?_ GE180.out) | exact HB.out)) hb); (try clear hb); (try clear hb2); (try clear hk); (try clear hi); have hcz34_0 : w33.cell? ⟨gb180, 0, none⟩ = some (.slice A0_0 l0_0.length c0_0) := (kc9 BK180.out 0).trans rfl; have hcz34_1 : w33.cell? ⟨gb180, 1, none⟩ = some (.slice A0_1 l0_1.length c0_1) := (kc9 BK180.out 1).trans rfl; have hcz34_2 : w33.cell? ⟨gb180, 2, none⟩ = some (.slice A0_2 l0_2.length c0_2) := (kc9 BK180.out 2).trans rfl; have hcz34_3 : w33.cell? ⟨gb180, 3, none⟩ = some (.slice A0_3 l0_3.length c0_3) := (kc9 BK180.out 3).trans rfl; have hfz34_0 := kz9 BK180.out 0; have hfz34_1 := kz9 BK180.out 1; have hfz34_2 := kz9 BK180.out 2; have hfz34_3 := kz9 BK180.out 3) | (go_at_call 35; (with_reducible refine (quorum_group_joint.calls _ _ l0_0 _ _ l0_1 _ _ l0_2 _ _ l0_3 false _ ?side1 ?side2 ?side3 ?side4 ?side5 ?side6 ?side7 ?side8 A7.out).mono ?_); (case side1 => repeat (first | exact (Kd.C_below HR0_0.out HB.out) | (with_reducible refine Kd.C_alloc ?_ _) | (with_reducible refine Kd.C_drewN ?_ _) | (with_reducible refine Kd.C_drew ?_))); (case side2 => exact HC0_0.out); (case side3 => repeat (first | exact (Kd.C_below HR0_1.out HB.out) | (with_reducible refine Kd.C_alloc ?_ _) | (with_reducible refine Kd.C_drewN ?_ _) | (with_reducible refine Kd.C_drew ?_))); (case side4 => exact HC0_1.out); (case side5 => repeat (first | exact (Kd.C_below HR0_2.out HB.out) | (with_reducible refine Kd.C_alloc ?_ _) | (with_reducible refine Kd.C_drewN ?_ _) | (with_reducible refine Kd.C_drew ?_))); (case side6 => exact HC0_2.out); (case side7 => repeat (first | exact (Kd.C_below HR0_3.out HB.out) | (with_reducible refine Kd.C_alloc ?_ _) | (with_reducible refine Kd.C_drewN ?_ _) | (with_reducible refine Kd.C_drew ?_))); (case side8 => exact HC0_3.out); rintro e w35 ⟨rfl, hb⟩; replace BK179 := Am9 (kb9 (g:=gb179) (o:=.cells #[.slice A0_0 l0_0.length c0_0, .slice A0_1 l0_1.length c0_1, .slice A0_2 l0_2.length c0_2, .slice A0_3 l0_3.length c0_3] 24 (0, 0)) (by (with_reducible repeat first | apply kn9 | apply kd9 | apply ka9); exact BK179.out) hb); replace BK180 := Am9 (kb9 (g:=gb180) (o:=.cells #[.slice A0_0 l0_0.length c0_0, .slice A0_1 l0_1.length c0_1, .slice A0_2 l0_2.length c0_2, .slice A0_3 l0_3.length c0_3] 48 (0, 0)) (by (with_reducible repeat first | apply kn9 | apply kd9 | apply ka9); exact BK180.out) hb); replace HB := Am9 (bp9 (by repeat (first | (with_reducible first | exact HB.out | apply ba9 | apply bn9 | apply bd9 | refine bs9 ?_ GE179.out | refine bs9 ?_ GE180.out) | exact HB.out)) hb); (try clear hb); (try clear hb2); (try clear hk); (try clear hi)))
    go_ret
    exact ⟨by first | rfl | (simp [errW_none, errW_some] <;> rfl) | (simp [*, errW_none, errW_some] <;> rfl), by repeat (first | (with_reducible first | exact HB.out | apply ba9 | apply bn9 | apply bd9 | refine bs9 ?_ GE179.out | refine bs9 ?_ GE180.out) | exact HB.out)⟩
  ·replace c6 := Bool.eq_false_iff.mpr c6
   subst c6
   rw [if_neg (show ¬ (false = true) by decide)] at H
   obtain rfl := Option.some.inj H
   go_enter Try.func9, Try.ntmps9
   go_wp2_with (first | ((with_reducible refine gate_dst (N:=2) rfl ?_); refine box_event ?hg (N:=2) ?hd (cs:=#[.slice A0_0 l0_0.length c0_0, .slice A0_1 l0_1.length c0_1, .slice A0_2 l0_2.length c0_2, .slice A0_3 l0_3.length c0_3]) (t:=24) ?hr ?_; (case hd => rfl); (case hg => rfl); (case hr => first | (go_simp; done) | (go_simp; rfl)); intro gb179 hg w36 hbox hb; have BK179 := Am9 (hbox); have GW179 := Am9 ((by rw [hg]; exact (bz9 (by repeat (first | (with_reducible first | exact HB.out | apply ba9 | apply bn9 | apply bd9) | exact HB.out))) : w.heap.size ≤ gb179)); have GE179 := Am9 ((by rw [hg]; exact (bz9 (by repeat (first | (with_reducible first | exact HB.out | apply ba9 | apply bn9 | apply bd9) | exact HB.out))) : w.heap.size ≤ gb179)); replace HB := Am9 (bp9 (by repeat (first | (with_reducible first | exact HB.out | apply ba9 | apply bn9 | apply bd9) | exact HB.out)) hb); clear hb hbox hg; have hcz37_0 : w36.cell? ⟨gb179, 0, none⟩ = some (.slice A0_0 l0_0.length c0_0) := (kc9 BK179.out 0).trans rfl; have hcz37_1 : w36.cell? ⟨gb179, 1, none⟩ = some (.slice A0_1 l0_1.length c0_1) := (kc9 BK179.out 1).trans rfl; have hcz37_2 : w36.cell? ⟨gb179, 2, none⟩ = some (.slice A0_2 l0_2.length c0_2) := (kc9 BK179.out 2).trans rfl; have hcz37_3 : w36.cell? ⟨gb179, 3, none⟩ = some (.slice A0_3 l0_3.length c0_3) := (kc9 BK179.out 3).trans rfl; have hfz37_0 := kz9 BK179.out 0; have hfz37_1 := kz9 BK179.out 1; have hfz37_2 := kz9 BK179.out 2; have hfz37_3 := kz9 BK179.out 3) | ((with_reducible refine gate_dst (N:=5) rfl ?_); refine box_event ?hg (N:=5) ?hd (cs:=#[.slice none 0 0, .slice none 0 0, .slice none 0 0, .slice none 0 0]) (t:=48) ?hr ?_; (case hd => rfl); (case hg => rfl); (case hr => first | (go_simp; done) | (go_simp; rfl)); intro gb180 hg w38 hbox hb; have BK180 := Am9 (hbox); have GW180 := Am9 ((by rw [hg]; exact (bz9 (by repeat (first | (with_reducible first | exact HB.out | apply ba9 | apply bn9 | apply bd9 | refine bs9 ?_ GE179.out) | exact HB.out))) : w.heap.size ≤ gb180)); have GE180 := Am9 ((by rw [hg]; exact (bz9 (by repeat (first | (with_reducible first | exact HB.out | apply ba9 | apply bn9 | apply bd9 | refine bs9 ?_ GE179.out) | exact HB.out))) : w.heap.size ≤ gb180)); replace HB := Am9 (bp9 (by repeat (first | (with_reducible first | exact HB.out | apply ba9 | apply bn9 | apply bd9 | refine bs9 ?_ GE179.out) | exact HB.out)) hb); have NB179_180 := Am9 ((by rw [hg]; exact Nat.ne_of_lt (blk_lt (g:=gb179) (o:=.cells #[.slice A0_0 l0_0.length c0_0, .slice A0_1 l0_1.length c0_1, .slice A0_2 l0_2.length c0_2, .slice A0_3 l0_3.length c0_3] 24 (0, 0)) (by (with_reducible repeat first | apply kn9 | apply kd9 | apply ka9); exact BK179.out)) : gb179 ≠ gb180)); have NB180_179 := Am9 ((by rw [hg]; exact Nat.ne_of_gt (blk_lt (g:=gb179) (o:=.cells #[.slice A0_0 l0_0.length c0_0, .slice A0_1 l0_1.length c0_1, .slice A0_2 l0_2.length c0_2, .slice A0_3 l0_3.length c0_3] 24 (0, 0)) (by (with_reducible repeat first | apply kn9 | apply kd9 | apply ka9); exact BK179.out)) : gb180 ≠ gb179)); replace BK179 := Am9 (kb9 (g:=gb179) (o:=.cells #[.slice A0_0 l0_0.length c0_0, .slice A0_1 l0_1.length c0_1, .slice A0_2 l0_2.length c0_2, .slice A0_3 l0_3.length c0_3] 24 (0, 0)) (by (with_reducible repeat first | apply kn9 | apply kd9 | apply ka9); exact BK179.out) hb); clear hb hbox hg; have hnb39 := NB180_179.out; have hnc39 := NB179_180.out; have hcz40_0 : w38.cell? ⟨gb180, 0, none⟩ = some (.slice none 0 0) := (kc9 BK180.out 0).trans rfl; have hcz40_1 : w38.cell? ⟨gb180, 1, none⟩ = some (.slice none 0 0) := (kc9 BK180.out 1).trans rfl; have hcz40_2 : w38.cell? ⟨gb180, 2, none⟩ = some (.slice none 0 0) := (kc9 BK180.out 2).trans rfl; have hcz40_3 : w38.cell? ⟨gb180, 3, none⟩ = some (.slice none 0 0) := (kc9 BK180.out 3).trans rfl; have hfz40_0 := kz9 BK180.out 0; have hfz40_1 := kz9 BK180.out 1; have hfz40_2 := kz9 BK180.out 2; have hfz40_3 := kz9 BK180.out 3) | ((with_reducible refine gate_store (t:=48) (p:=5) rfl ?_); refine store_event (t:=48) (p:=5) (v:=?vo_w41) (w1:=((((w38.setCell ⟨gb180, 0, none⟩ (.slice A0_0 l0_0.length c0_0)).setCell ⟨gb180, 1, none⟩ (.slice A0_1 l0_1.length c0_1)).setCell ⟨gb180, 2, none⟩ (.slice A0_2 l0_2.length c0_2)).setCell ⟨gb180, 3, none⟩ (.slice A0_3 l0_3.length c0_3))) ?hg ?ho ?hn ?hr ?_; (case ho => rfl); (case hg => rfl); (case hn => rfl); (case hr => first | (go_simp; done) | (go_simp; rfl)); intro w41 hw; have n0_ : Aside0 (w41.heap[gb179]? = some (.cells #[.slice A0_0 l0_0.length c0_0, .slice A0_1 l0_1.length c0_1, .slice A0_2 l0_2.length c0_2, .slice A0_3 l0_3.length c0_3] 24 (0, 0))) := ⟨(by rw [hw]; exact (by (with_reducible repeat first | apply kn9 | apply kd9 | apply ka9); refine kf9 ?_ NB179_180.out _; (with_reducible repeat first | apply kn9 | apply kd9 | apply ka9); refine kf9 ?_ NB179_180.out _; (with_reducible repeat first | apply kn9 | apply kd9 | apply ka9); refine kf9 ?_ NB179_180.out _; (with_reducible repeat first | apply kn9 | apply kd9 | apply ka9); refine kf9 ?_ NB179_180.out _; (with_reducible repeat first | apply kn9 | apply kd9 | apply ka9); exact BK179.out))⟩; have n1_ : Aside0 (w41.heap[gb180]? = some (.cells #[.slice A0_0 l0_0.length c0_0, .slice A0_1 l0_1.length c0_1, .slice A0_2 l0_2.length c0_2, .slice A0_3 l0_3.length c0_3] 48 (0, 0))) := ⟨(by rw [hw]; exact (by (with_reducible repeat first | apply kn9 | apply kd9 | apply ka9); refine blk_put (cs:=#[.slice A0_0 l0_0.length c0_0, .slice A0_1 l0_1.length c0_1, .slice A0_2 l0_2.length c0_2, .slice none 0 0]) ?_ 3 _ rfl; (with_reducible repeat first | apply kn9 | apply kd9 | apply ka9); refine blk_put (cs:=#[.slice A0_0 l0_0.length c0_0, .slice A0_1 l0_1.length c0_1, .slice none 0 0, .slice none 0 0]) ?_ 2 _ rfl; (with_reducible repeat first | apply kn9 | apply kd9 | apply ka9); refine blk_put (cs:=#[.slice A0_0 l0_0.length c0_0, .slice none 0 0, .slice none 0 0, .slice none 0 0]) ?_ 1 _ rfl; (with_reducible repeat first | apply kn9 | apply kd9 | apply ka9); refine blk_put (cs:=#[.slice none 0 0, .slice none 0 0, .slice none 0 0, .slice none 0 0]) ?_ 0 _ rfl; (with_reducible repeat first | apply kn9 | apply kd9 | apply ka9); exact BK180.out))⟩; have n2_ : Aside0 (Below w.heap.size w w41) := ⟨(by rw [hw]; exact (by repeat (first | (with_reducible first | exact HB.out | apply ba9 | apply bn9 | apply bd9 | refine bs9 ?_ GE179.out | refine bs9 ?_ GE180.out) | exact HB.out)))⟩; clear hw; clear BK179; clear BK180; clear HB; have BK179 := n0_; have BK180 := n1_; have HB := n2_; clear n0_ n1_ n2_; have hcz42_0 : w41.cell? ⟨gb180, 0, none⟩ = some (.slice A0_0 l0_0.length c0_0) := (kc9 BK180.out 0).trans rfl; have hcz42_1 : w41.cell? ⟨gb180, 1, none⟩ = some (.slice A0_1 l0_1.length c0_1) := (kc9 BK180.out 1).trans rfl; have hcz42_2 : w41.cell? ⟨gb180, 2, none⟩ = some (.slice A0_2 l0_2.length c0_2) := (kc9 BK180.out 2).trans rfl; have hcz42_3 : w41.cell? ⟨gb180, 3, none⟩ = some (.slice A0_3 l0_3.length c0_3) := (kc9 BK180.out 3).trans rfl; have hfz42_0 := kz9 BK180.out 0; have hfz42_1 := kz9 BK180.out 1; have hfz42_2 := kz9 BK180.out 2; have hfz42_3 := kz9 BK180.out 3) | ((with_reducible refine gate_callee (f:=33) rfl ?_); refine goesL_ (some 9) rfl rfl Try.func33 (by kernel_rfl) rfl #[.agg #[.slice A0_0 l0_0.length c0_0, .slice A0_1 l0_1.length c0_1, .slice A0_2 l0_2.length c0_2, .slice A0_3 l0_3.length c0_3]] rfl (by (try simp only [ma9, mc9, mn9]); first | done | rfl | (simp only [ld9, lt_9]; rfl)) ?_; (with_reducible refine (quorum_group_right.calls k (fun k_ => k_ < w.heap.size) _ _ l0_0 (fun k_ => k_ < w.heap.size) _ _ l0_1 (fun k_ => k_ < w.heap.size) _ _ l0_2 (fun k_ => k_ < w.heap.size) _ _ l0_3 true _ ?side1 ?side2 ?side3 ?side4 A3.out).mono ?_); (case side1 => exact Kd.V_mk HC0_0.out (Kd.F_below (Kd.C_F (Kd.heap_int .i64) HR0_0.out) (by repeat (first | (with_reducible first | exact HB.out | apply ba9 | apply bn9 | apply bd9 | refine bs9 ?_ GE179.out | refine bs9 ?_ GE180.out) | exact HB.out)))); (case side2 => exact Kd.V_mk HC0_1.out (Kd.F_below (Kd.C_F (Kd.heap_int .i64) HR0_1.out) (by repeat (first | (with_reducible first | exact HB.out | apply ba9 | apply bn9 | apply bd9 | refine bs9 ?_ GE179.out | refine bs9 ?_ GE180.out) | exact HB.out)))); (case side3 => exact Kd.V_mk HC0_2.out (Kd.F_below (Kd.C_F (Kd.heap_int .i64) HR0_2.out) (by repeat (first | (with_reducible first | exact HB.out | apply ba9 | apply bn9 | apply bd9 | refine bs9 ?_ GE179.out | refine bs9 ?_ GE180.out) | exact HB.out)))); (case side4 => exact Kd.V_mk HC0_3.out (Kd.F_below (Kd.C_F (Kd.heap_int .i64) HR0_3.out) (by repeat (first | (with_reducible first | exact HB.out | apply ba9 | apply bn9 | apply bd9 | refine bs9 ?_ GE179.out | refine bs9 ?_ GE180.out) | exact HB.out)))); rintro e w43 ⟨rfl, hb⟩; refine ⟨_, rfl, ?_⟩; replace BK179 := Am9 (kb9 (g:=gb179) (o:=.cells #[.slice A0_0 l0_0.length c0_0, .slice A0_1 l0_1.length c0_1, .slice A0_2 l0_2.length c0_2, .slice A0_3 l0_3.length c0_3] 24 (0, 0)) (by (with_reducible repeat first | apply kn9 | apply kd9 | apply ka9); exact BK179.out) hb); replace BK180 := Am9 (kb9 (g:=gb180) (o:=.cells #[.slice A0_0 l0_0.length c0_0, .slice A0_1 l0_1.length c0_1, .slice A0_2 l0_2.length c0_2, .slice A0_3 l0_3.length c0_3] 48 (0, 0)) (by (with_reducible repeat first | apply kn9 | apply kd9 | apply ka9); exact BK180.out) hb); replace HB := Am9 (bp9 (by repeat (first | (with_reducible first | exact HB.out | apply ba9 | apply bn9 | apply bd9 | refine bs9 ?_ GE179.out | refine bs9 ?_ GE180.out) | exact HB.out)) hb); (try clear hb); (try clear hb2); (try clear hk); (try clear hi); have hcz44_0 : w43.cell? ⟨gb180, 0, none⟩ = some (.slice A0_0 l0_0.length c0_0) := (kc9 BK180.out 0).trans rfl; have hcz44_1 : w43.cell? ⟨gb180, 1, none⟩ = some (.slice A0_1 l0_1.length c0_1) := (kc9 BK180.out 1).trans rfl; have hcz44_2 : w43.cell? ⟨gb180, 2, none⟩ = some (.slice A0_2 l0_2.length c0_2) := (kc9 BK180.out 2).trans rfl; have hcz44_3 : w43.cell? ⟨gb180, 3, none⟩ = some (.slice A0_3 l0_3.length c0_3) := (kc9 BK180.out 3).trans rfl; have hfz44_0 := kz9 BK180.out 0; have hfz44_1 := kz9 BK180.out 1; have hfz44_2 := kz9 BK180.out 2; have hfz44_3 := kz9 BK180.out 3) | (go_at_call 34; (with_reducible refine (quorum_most.calls k _ _ l0_0 _ _ l1 false _ ?side1 ?side2 ?side3 ?side4 A5.out).mono ?_); (case side1 => repeat (first | exact (Kd.C_below HR0_0.out HB.out) | (with_reducible refine Kd.C_alloc ?_ _) | (with_reducible refine Kd.C_drewN ?_ _) | (with_reducible refine Kd.C_drew ?_))); (case side2 => exact HC0_0.out); (case side3 => repeat (first | exact (Kd.C_below HR1.out HB.out) | (with_reducible refine Kd.C_alloc ?_ _) | (with_reducible refine Kd.C_drewN ?_ _) | (with_reducible refine Kd.C_drew ?_))); (case side4 => exact HC1.out); rintro e w45 ⟨rfl, hb⟩; replace BK179 := Am9 (kb9 (g:=gb179) (o:=.cells #[.slice A0_0 l0_0.length c0_0, .slice A0_1 l0_1.length c0_1, .slice A0_2 l0_2.length c0_2, .slice A0_3 l0_3.length c0_3] 24 (0, 0)) (by (with_reducible repeat first | apply kn9 | apply kd9 | apply ka9); exact BK179.out) hb); replace BK180 := Am9 (kb9 (g:=gb180) (o:=.cells #[.slice A0_0 l0_0.length c0_0, .slice A0_1 l0_1.length c0_1, .slice A0_2 l0_2.length c0_2, .slice A0_3 l0_3.length c0_3] 48 (0, 0)) (by (with_reducible repeat first | apply kn9 | apply kd9 | apply ka9); exact BK180.out) hb); replace HB := Am9 (bp9 (by repeat (first | (with_reducible first | exact HB.out | apply ba9 | apply bn9 | apply bd9 | refine bs9 ?_ GE179.out | refine bs9 ?_ GE180.out) | exact HB.out)) hb); (try clear hb); (try clear hb2); (try clear hk); (try clear hi)))
   go_ret
   exact ⟨by first | rfl | (simp [errW_none, errW_some] <;> rfl) | (simp [*, errW_none, errW_some] <;> rfl), by repeat (first | (with_reducible first | exact HB.out | apply ba9 | apply bn9 | apply bd9 | refine bs9 ?_ GE179.out | refine bs9 ?_ GE180.out) | exact HB.out)⟩
 ·replace c4 := Bool.eq_false_iff.mpr c4
  subst c4
  rw [if_neg (show ¬ (false = true) by decide)] at H
  obtain rfl := Option.some.inj H
  go_enter Try.func9, Try.ntmps9
  go_wp2_with (first | ((with_reducible refine gate_dst (N:=2) rfl ?_); refine box_event ?hg (N:=2) ?hd (cs:=#[.slice A0_0 l0_0.length c0_0, .slice A0_1 l0_1.length c0_1, .slice A0_2 l0_2.length c0_2, .slice A0_3 l0_3.length c0_3]) (t:=24) ?hr ?_; (case hd => rfl); (case hg => rfl); (case hr => first | (go_simp; done) | (go_simp; rfl)); intro gb179 hg w46 hbox hb; have BK179 := Am9 (hbox); have GW179 := Am9 ((by rw [hg]; exact (bz9 (by repeat (first | (with_reducible first | exact HB.out | apply ba9 | apply bn9 | apply bd9) | exact HB.out))) : w.heap.size ≤ gb179)); have GE179 := Am9 ((by rw [hg]; exact (bz9 (by repeat (first | (with_reducible first | exact HB.out | apply ba9 | apply bn9 | apply bd9) | exact HB.out))) : w.heap.size ≤ gb179)); replace HB := Am9 (bp9 (by repeat (first | (with_reducible first | exact HB.out | apply ba9 | apply bn9 | apply bd9) | exact HB.out)) hb); clear hb hbox hg; have hcz47_0 : w46.cell? ⟨gb179, 0, none⟩ = some (.slice A0_0 l0_0.length c0_0) := (kc9 BK179.out 0).trans rfl; have hcz47_1 : w46.cell? ⟨gb179, 1, none⟩ = some (.slice A0_1 l0_1.length c0_1) := (kc9 BK179.out 1).trans rfl; have hcz47_2 : w46.cell? ⟨gb179, 2, none⟩ = some (.slice A0_2 l0_2.length c0_2) := (kc9 BK179.out 2).trans rfl; have hcz47_3 : w46.cell? ⟨gb179, 3, none⟩ = some (.slice A0_3 l0_3.length c0_3) := (kc9 BK179.out 3).trans rfl; have hfz47_0 := kz9 BK179.out 0; have hfz47_1 := kz9 BK179.out 1; have hfz47_2 := kz9 BK179.out 2; have hfz47_3 := kz9 BK179.out 3) | ((with_reducible refine gate_dst (N:=5) rfl ?_); refine box_event ?hg (N:=5) ?hd (cs:=#[.slice none 0 0, .slice none 0 0, .slice none 0 0, .slice none 0 0]) (t:=48) ?hr ?_; (case hd => rfl); (case hg => rfl); (case hr => first | (go_simp; done) | (go_simp; rfl)); intro gb180 hg w48 hbox hb; have BK180 := Am9 (hbox); have GW180 := Am9 ((by rw [hg]; exact (bz9 (by repeat (first | (with_reducible first | exact HB.out | apply ba9 | apply bn9 | apply bd9 | refine bs9 ?_ GE179.out) | exact HB.out))) : w.heap.size ≤ gb180)); have GE180 := Am9 ((by rw [hg]; exact (bz9 (by repeat (first | (with_reducible first | exact HB.out | apply ba9 | apply bn9 | apply bd9 | refine bs9 ?_ GE179.out) | exact HB.out))) : w.heap.size ≤ gb180)); replace HB := Am9 (bp9 (by repeat (first | (with_reducible first | exact HB.out | apply ba9 | apply bn9 | apply bd9 | refine bs9 ?_ GE179.out) | exact HB.out)) hb); have NB179_180 := Am9 ((by rw [hg]; exact Nat.ne_of_lt (blk_lt (g:=gb179) (o:=.cells #[.slice A0_0 l0_0.length c0_0, .slice A0_1 l0_1.length c0_1, .slice A0_2 l0_2.length c0_2, .slice A0_3 l0_3.length c0_3] 24 (0, 0)) (by (with_reducible repeat first | apply kn9 | apply kd9 | apply ka9); exact BK179.out)) : gb179 ≠ gb180)); have NB180_179 := Am9 ((by rw [hg]; exact Nat.ne_of_gt (blk_lt (g:=gb179) (o:=.cells #[.slice A0_0 l0_0.length c0_0, .slice A0_1 l0_1.length c0_1, .slice A0_2 l0_2.length c0_2, .slice A0_3 l0_3.length c0_3] 24 (0, 0)) (by (with_reducible repeat first | apply kn9 | apply kd9 | apply ka9); exact BK179.out)) : gb180 ≠ gb179)); replace BK179 := Am9 (kb9 (g:=gb179) (o:=.cells #[.slice A0_0 l0_0.length c0_0, .slice A0_1 l0_1.length c0_1, .slice A0_2 l0_2.length c0_2, .slice A0_3 l0_3.length c0_3] 24 (0, 0)) (by (with_reducible repeat first | apply kn9 | apply kd9 | apply ka9); exact BK179.out) hb); clear hb hbox hg; have hnb49 := NB180_179.out; have hnc49 := NB179_180.out; have hcz50_0 : w48.cell? ⟨gb180, 0, none⟩ = some (.slice none 0 0) := (kc9 BK180.out 0).trans rfl; have hcz50_1 : w48.cell? ⟨gb180, 1, none⟩ = some (.slice none 0 0) := (kc9 BK180.out 1).trans rfl; have hcz50_2 : w48.cell? ⟨gb180, 2, none⟩ = some (.slice none 0 0) := (kc9 BK180.out 2).trans rfl; have hcz50_3 : w48.cell? ⟨gb180, 3, none⟩ = some (.slice none 0 0) := (kc9 BK180.out 3).trans rfl; have hfz50_0 := kz9 BK180.out 0; have hfz50_1 := kz9 BK180.out 1; have hfz50_2 := kz9 BK180.out 2; have hfz50_3 := kz9 BK180.out 3) | ((with_reducible refine gate_store (t:=48) (p:=5) rfl ?_); refine store_event (t:=48) (p:=5) (v:=?vo_w51) (w1:=((((w48.setCell ⟨gb180, 0, none⟩ (.slice A0_0 l0_0.length c0_0)).setCell ⟨gb180, 1, none⟩ (.slice A0_1 l0_1.length c0_1)).setCell ⟨gb180, 2, none⟩ (.slice A0_2 l0_2.length c0_2)).setCell ⟨gb180, 3, none⟩ (.slice A0_3 l0_3.length c0_3))) ?hg ?ho ?hn ?hr ?_; (case ho => rfl); (case hg => rfl); (case hn => rfl); (case hr => first | (go_simp; done) | (go_simp; rfl)); intro w51 hw; have n0_ : Aside0 (w51.heap[gb179]? = some (.cells #[.slice A0_0 l0_0.length c0_0, .slice A0_1 l0_1.length c0_1, .slice A0_2 l0_2.length c0_2, .slice A0_3 l0_3.length c0_3] 24 (0, 0))) := ⟨(by rw [hw]; exact (by (with_reducible repeat first | apply kn9 | apply kd9 | apply ka9); refine kf9 ?_ NB179_180.out _; (with_reducible repeat first | apply kn9 | apply kd9 | apply ka9); refine kf9 ?_ NB179_180.out _; (with_reducible repeat first | apply kn9 | apply kd9 | apply ka9); refine kf9 ?_ NB179_180.out _; (with_reducible repeat first | apply kn9 | apply kd9 | apply ka9); refine kf9 ?_ NB179_180.out _; (with_reducible repeat first | apply kn9 | apply kd9 | apply ka9); exact BK179.out))⟩; have n1_ : Aside0 (w51.heap[gb180]? = some (.cells #[.slice A0_0 l0_0.length c0_0, .slice A0_1 l0_1.length c0_1, .slice A0_2 l0_2.length c0_2, .slice A0_3 l0_3.length c0_3] 48 (0, 0))) := ⟨(by rw [hw]; exact (by (with_reducible repeat first | apply kn9 | apply kd9 | apply ka9); refine blk_put (cs:=#[.slice A0_0 l0_0.length c0_0, .slice A0_1 l0_1.length c0_1, .slice A0_2 l0_2.length c0_2, .slice none 0 0]) ?_ 3 _ rfl; (with_reducible repeat first | apply kn9 | apply kd9 | apply ka9); refine blk_put (cs:=#[.slice A0_0 l0_0.length c0_0, .slice A0_1 l0_1.length c0_1, .slice none 0 0, .slice none 0 0]) ?_ 2 _ rfl; (with_reducible repeat first | apply kn9 | apply kd9 | apply ka9); refine blk_put (cs:=#[.slice A0_0 l0_0.length c0_0, .slice none 0 0, .slice none 0 0, .slice none 0 0]) ?_ 1 _ rfl; (with_reducible repeat first | apply kn9 | apply kd9 | apply ka9); refine blk_put (cs:=#[.slice none 0 0, .slice none 0 0, .slice none 0 0, .slice none 0 0]) ?_ 0 _ rfl; (with_reducible repeat first | apply kn9 | apply kd9 | apply ka9); exact BK180.out))⟩; have n2_ : Aside0 (Below w.heap.size w w51) := ⟨(by rw [hw]; exact (by repeat (first | (with_reducible first | exact HB.out | apply ba9 | apply bn9 | apply bd9 | refine bs9 ?_ GE179.out | refine bs9 ?_ GE180.out) | exact HB.out)))⟩; clear hw; clear BK179; clear BK180; clear HB; have BK179 := n0_; have BK180 := n1_; have HB := n2_; clear n0_ n1_ n2_; have hcz52_0 : w51.cell? ⟨gb180, 0, none⟩ = some (.slice A0_0 l0_0.length c0_0) := (kc9 BK180.out 0).trans rfl; have hcz52_1 : w51.cell? ⟨gb180, 1, none⟩ = some (.slice A0_1 l0_1.length c0_1) := (kc9 BK180.out 1).trans rfl; have hcz52_2 : w51.cell? ⟨gb180, 2, none⟩ = some (.slice A0_2 l0_2.length c0_2) := (kc9 BK180.out 2).trans rfl; have hcz52_3 : w51.cell? ⟨gb180, 3, none⟩ = some (.slice A0_3 l0_3.length c0_3) := (kc9 BK180.out 3).trans rfl; have hfz52_0 := kz9 BK180.out 0; have hfz52_1 := kz9 BK180.out 1; have hfz52_2 := kz9 BK180.out 2; have hfz52_3 := kz9 BK180.out 3) | ((with_reducible refine gate_callee (f:=33) rfl ?_); refine goesL_ (some 9) rfl rfl Try.func33 (by kernel_rfl) rfl #[.agg #[.slice A0_0 l0_0.length c0_0, .slice A0_1 l0_1.length c0_1, .slice A0_2 l0_2.length c0_2, .slice A0_3 l0_3.length c0_3]] rfl (by (try simp only [ma9, mc9, mn9]); first | done | rfl | (simp only [ld9, lt_9]; rfl)) ?_; (with_reducible refine (quorum_group_right.calls k (fun k_ => k_ < w.heap.size) _ _ l0_0 (fun k_ => k_ < w.heap.size) _ _ l0_1 (fun k_ => k_ < w.heap.size) _ _ l0_2 (fun k_ => k_ < w.heap.size) _ _ l0_3 false _ ?side1 ?side2 ?side3 ?side4 A3.out).mono ?_); (case side1 => exact Kd.V_mk HC0_0.out (Kd.F_below (Kd.C_F (Kd.heap_int .i64) HR0_0.out) (by repeat (first | (with_reducible first | exact HB.out | apply ba9 | apply bn9 | apply bd9 | refine bs9 ?_ GE179.out | refine bs9 ?_ GE180.out) | exact HB.out)))); (case side2 => exact Kd.V_mk HC0_1.out (Kd.F_below (Kd.C_F (Kd.heap_int .i64) HR0_1.out) (by repeat (first | (with_reducible first | exact HB.out | apply ba9 | apply bn9 | apply bd9 | refine bs9 ?_ GE179.out | refine bs9 ?_ GE180.out) | exact HB.out)))); (case side3 => exact Kd.V_mk HC0_2.out (Kd.F_below (Kd.C_F (Kd.heap_int .i64) HR0_2.out) (by repeat (first | (with_reducible first | exact HB.out | apply ba9 | apply bn9 | apply bd9 | refine bs9 ?_ GE179.out | refine bs9 ?_ GE180.out) | exact HB.out)))); (case side4 => exact Kd.V_mk HC0_3.out (Kd.F_below (Kd.C_F (Kd.heap_int .i64) HR0_3.out) (by repeat (first | (with_reducible first | exact HB.out | apply ba9 | apply bn9 | apply bd9 | refine bs9 ?_ GE179.out | refine bs9 ?_ GE180.out) | exact HB.out)))); rintro e w53 ⟨rfl, hb⟩; refine ⟨_, rfl, ?_⟩; replace BK179 := Am9 (kb9 (g:=gb179) (o:=.cells #[.slice A0_0 l0_0.length c0_0, .slice A0_1 l0_1.length c0_1, .slice A0_2 l0_2.length c0_2, .slice A0_3 l0_3.length c0_3] 24 (0, 0)) (by (with_reducible repeat first | apply kn9 | apply kd9 | apply ka9); exact BK179.out) hb); replace BK180 := Am9 (kb9 (g:=gb180) (o:=.cells #[.slice A0_0 l0_0.length c0_0, .slice A0_1 l0_1.length c0_1, .slice A0_2 l0_2.length c0_2, .slice A0_3 l0_3.length c0_3] 48 (0, 0)) (by (with_reducible repeat first | apply kn9 | apply kd9 | apply ka9); exact BK180.out) hb); replace HB := Am9 (bp9 (by repeat (first | (with_reducible first | exact HB.out | apply ba9 | apply bn9 | apply bd9 | refine bs9 ?_ GE179.out | refine bs9 ?_ GE180.out) | exact HB.out)) hb); (try clear hb); (try clear hb2); (try clear hk); (try clear hi)))
  go_ret
  exact ⟨by first | rfl | (simp [errW_none, errW_some] <;> rfl) | (simp [*, errW_none, errW_some] <;> rfl), by repeat (first | (with_reducible first | exact HB.out | apply ba9 | apply bn9 | apply bd9 | refine bs9 ?_ GE179.out | refine bs9 ?_ GE180.out) | exact HB.out)⟩

theorem Am14 : type_of% @Aside0.mk := @Aside0.mk
theorem ba14 : type_of% @below_alloc := @below_alloc
theorem bn14 : type_of% @pw_below_drewN := @pw_below_drewN
theorem bd14 : type_of% @below_drew1 := @below_drew1
theorem bs14 : type_of% @below_set := @below_set
theorem kn14 : type_of% @blk_drewN := @blk_drewN
theorem kd14 : type_of% @blk_drew := @blk_drew
theorem ka14 : type_of% @blk_alloc := @blk_alloc
theorem kb14 : type_of% @blk_below := @blk_below
theorem bz14 : type_of% @below_size := @below_size
theorem bp14 : type_of% @below_step := @below_step
theorem kc14 : type_of% @blk_cell := @blk_cell
theorem kz14 : type_of% @blk_frozen := @blk_frozen
theorem ma14 : type_of% @List.map_toArray := @List.map_toArray
theorem mc14 : type_of% @List.map_cons := @List.map_cons
theorem mn14 : type_of% @List.map_nil := @List.map_nil
theorem ld14 : type_of% @List.length_drop := @List.length_drop
theorem lt_14 : type_of% @List.length_take := @List.length_take
/-! ### quorum_Right: function 14 -/
def quorum_Right.f (k : Nat) (l0_0 : List Int) (l0_1 : List Int) (l0_2 : List Int) (l0_3 : List Int) : Option (Bool) := (quorum_group_right.f k l0_0 l0_1 l0_2 l0_3).bind fun t186 => (some t186)
theorem quorum_Right.mono : ∀ a0 a1 a2 a3 k, LeO (quorum_Right.f k a0 a1 a2 a3) (quorum_Right.f (k + 1) a0 a1 a2 a3) := by
 intro a0 a1 a2 a3 k
 unfold quorum_Right.f
 repeat' first
   | (with_reducible exact quorum_group_right.mono _ _ _ _ _)
   | (with_reducible exact LeO.refl _)
   | (with_reducible exact LeO.none _)
   | (with_reducible refine LeO.ite ?_ ?_)
   | (with_reducible refine LeO.bind ?_ (fun _ => ?_))
   | exact quorum_group_right.mono _ _ _ _ _
   | exact LeO.none _
   | refine LeO.ite ?_ ?_
   | refine LeO.bind ?_ (fun _ => ?_)
set_option maxHeartbeats 8000000 in
set_option maxRecDepth 100000 in
theorem quorum_Right.calls (k : Nat) (A0_0 : Option Addr) (c0_0 : Nat) (l0_0 : List Int) (A0_1 : Option Addr) (c0_1 : Nat) (l0_1 : List Int) (A0_2 : Option Addr) (c0_2 : Nat) (l0_2 : List Int) (A0_3 : Option Addr) (c0_3 : Nat) (l0_3 : List Int) (r : Bool) (w : World) (hr0_0 : Kd.C (Kd.int .i64) w A0_0 l0_0.length l0_0) (hc0_0 : l0_0.length ≤ c0_0) (hr0_1 : Kd.C (Kd.int .i64) w A0_1 l0_1.length l0_1) (hc0_1 : l0_1.length ≤ c0_1) (hr0_2 : Kd.C (Kd.int .i64) w A0_2 l0_2.length l0_2) (hc0_2 : l0_2.length ≤ c0_2) (hr0_3 : Kd.C (Kd.int .i64) w A0_3 l0_3.length l0_3) (hc0_3 : l0_3.length ≤ c0_3) (h : quorum_Right.f k l0_0 l0_1 l0_2 l0_3 = some r) :
  Calls Try.prog 14 #[.agg #[.slice A0_0 l0_0.length c0_0, .slice A0_1 l0_1.length c0_1, .slice A0_2 l0_2.length c0_2, .slice A0_3 l0_3.length c0_3]] w fun e w' => e = .returned (.bool r) ∧ Below w.heap.size w w' := by
 have hu24 := Try.underlying24
 have hu48 := Try.underlying48
 have HR0_0 := Am14 hr0_0
 have HC0_0 := Am14 hc0_0
 clear hr0_0 hc0_0
 have HR0_1 := Am14 hr0_1
 have HC0_1 := Am14 hc0_1
 clear hr0_1 hc0_1
 have HR0_2 := Am14 hr0_2
 have HC0_2 := Am14 hc0_2
 clear hr0_2 hc0_2
 have HR0_3 := Am14 hr0_3
 have HC0_3 := Am14 hc0_3
 clear hr0_3 hc0_3
 have HB := Am14 (Below.refl w.heap.size w)
 have H : ((quorum_group_right.f k l0_0 l0_1 l0_2 l0_3).bind fun t186 => (some t186)) = some r := h
 clear h
 replace H := Option.bind_eq_some_iff.mp H
 obtain ⟨t186, A20, H⟩ := H
 try dsimp only at H
 have A2 := Am14 A20
 clear A20
 obtain rfl := Option.some.inj H
 go_enter Try.func14, Try.ntmps14
 go_wp2_with (first | ((with_reducible refine gate_dst (N:=1) rfl ?_); refine box_event ?hg (N:=1) ?hd (cs:=#[.slice A0_0 l0_0.length c0_0, .slice A0_1 l0_1.length c0_1, .slice A0_2 l0_2.length c0_2, .slice A0_3 l0_3.length c0_3]) (t:=24) ?hr ?_; (case hd => rfl); (case hg => rfl); (case hr => first | (go_simp; done) | (go_simp; rfl)); intro gb185 hg w3 hbox hb; have BK185 := Am14 (hbox); have GW185 := Am14 ((by rw [hg]; exact (bz14 (by repeat (first | (with_reducible first | exact HB.out | apply ba14 | apply bn14 | apply bd14) | exact HB.out))) : w.heap.size ≤ gb185)); have GE185 := Am14 ((by rw [hg]; exact (bz14 (by repeat (first | (with_reducible first | exact HB.out | apply ba14 | apply bn14 | apply bd14) | exact HB.out))) : w.heap.size ≤ gb185)); replace HB := Am14 (bp14 (by repeat (first | (with_reducible first | exact HB.out | apply ba14 | apply bn14 | apply bd14) | exact HB.out)) hb); clear hb hbox hg; have hcz4_0 : w3.cell? ⟨gb185, 0, none⟩ = some (.slice A0_0 l0_0.length c0_0) := (kc14 BK185.out 0).trans rfl; have hcz4_1 : w3.cell? ⟨gb185, 1, none⟩ = some (.slice A0_1 l0_1.length c0_1) := (kc14 BK185.out 1).trans rfl; have hcz4_2 : w3.cell? ⟨gb185, 2, none⟩ = some (.slice A0_2 l0_2.length c0_2) := (kc14 BK185.out 2).trans rfl; have hcz4_3 : w3.cell? ⟨gb185, 3, none⟩ = some (.slice A0_3 l0_3.length c0_3) := (kc14 BK185.out 3).trans rfl; have hfz4_0 := kz14 BK185.out 0; have hfz4_1 := kz14 BK185.out 1; have hfz4_2 := kz14 BK185.out 2; have hfz4_3 := kz14 BK185.out 3) | ((with_reducible refine gate_callee (f:=33) rfl ?_); refine goesL_ (some 5) rfl rfl Try.func33 (by kernel_rfl) rfl #[.agg #[.slice A0_0 l0_0.length c0_0, .slice A0_1 l0_1.length c0_1, .slice A0_2 l0_2.length c0_2, .slice A0_3 l0_3.length c0_3]] rfl (by (try simp only [ma14, mc14, mn14]); first | done | rfl | (simp only [ld14, lt_14]; rfl)) ?_; (with_reducible refine (quorum_group_right.calls k (fun k_ => k_ < w.heap.size) _ _ l0_0 (fun k_ => k_ < w.heap.size) _ _ l0_1 (fun k_ => k_ < w.heap.size) _ _ l0_2 (fun k_ => k_ < w.heap.size) _ _ l0_3 t186 _ ?side1 ?side2 ?side3 ?side4 A2.out).mono ?_); (case side1 => exact Kd.V_mk HC0_0.out (Kd.F_below (Kd.C_F (Kd.heap_int .i64) HR0_0.out) (by repeat (first | (with_reducible first | exact HB.out | apply ba14 | apply bn14 | apply bd14 | refine bs14 ?_ GE185.out) | exact HB.out)))); (case side2 => exact Kd.V_mk HC0_1.out (Kd.F_below (Kd.C_F (Kd.heap_int .i64) HR0_1.out) (by repeat (first | (with_reducible first | exact HB.out | apply ba14 | apply bn14 | apply bd14 | refine bs14 ?_ GE185.out) | exact HB.out)))); (case side3 => exact Kd.V_mk HC0_2.out (Kd.F_below (Kd.C_F (Kd.heap_int .i64) HR0_2.out) (by repeat (first | (with_reducible first | exact HB.out | apply ba14 | apply bn14 | apply bd14 | refine bs14 ?_ GE185.out) | exact HB.out)))); (case side4 => exact Kd.V_mk HC0_3.out (Kd.F_below (Kd.C_F (Kd.heap_int .i64) HR0_3.out) (by repeat (first | (with_reducible first | exact HB.out | apply ba14 | apply bn14 | apply bd14 | refine bs14 ?_ GE185.out) | exact HB.out)))); rintro e w5 ⟨rfl, hb⟩; refine ⟨_, rfl, ?_⟩; replace BK185 := Am14 (kb14 (g:=gb185) (o:=.cells #[.slice A0_0 l0_0.length c0_0, .slice A0_1 l0_1.length c0_1, .slice A0_2 l0_2.length c0_2, .slice A0_3 l0_3.length c0_3] 24 (0, 0)) (by (with_reducible repeat first | apply kn14 | apply kd14 | apply ka14); exact BK185.out) hb); replace HB := Am14 (bp14 (by repeat (first | (with_reducible first | exact HB.out | apply ba14 | apply bn14 | apply bd14 | refine bs14 ?_ GE185.out) | exact HB.out)) hb); (try clear hb); (try clear hb2); (try clear hk); (try clear hi)))
 go_ret
 exact ⟨by first | rfl | (simp [errW_none, errW_some] <;> rfl) | (simp [*, errW_none, errW_some] <;> rfl), by repeat (first | (with_reducible first | exact HB.out | apply ba14 | apply bn14 | apply bd14 | refine bs14 ?_ GE185.out) | exact HB.out)⟩

theorem Am17 : type_of% @Aside0.mk := @Aside0.mk
theorem ba17 : type_of% @below_alloc := @below_alloc
theorem bn17 : type_of% @pw_below_drewN := @pw_below_drewN
theorem bd17 : type_of% @below_drew1 := @below_drew1
theorem bs17 : type_of% @below_set := @below_set
theorem bz17 : type_of% @below_size := @below_size
theorem bp17 : type_of% @below_step := @below_step
theorem kc17 : type_of% @blk_cell := @blk_cell
theorem kz17 : type_of% @blk_frozen := @blk_frozen
theorem ma17 : type_of% @List.map_toArray := @List.map_toArray
theorem mc17 : type_of% @List.map_cons := @List.map_cons
theorem mn17 : type_of% @List.map_nil := @List.map_nil
theorem ld17 : type_of% @List.length_drop := @List.length_drop
theorem lt_17 : type_of% @List.length_take := @List.length_take
/-! ### quorum_Votes: function 17 -/
def quorum_Votes.f (k : Nat) (l0_0 : List Int) (l0_1 : List Int) (l0_2 : List Int) (l0_3 : List Int) (a1 : Int) : Option (Bool) := (slices_Contains_int_int.f k l0_0 a1).bind fun t188 => (if t188 = true then (some true) else ((slices_Contains_int_int.f k l0_1 a1).bind fun t189 => (some t189)))
theorem quorum_Votes.mono : ∀ a0 a1 a2 a3 a4 k, LeO (quorum_Votes.f k a0 a1 a2 a3 a4) (quorum_Votes.f (k + 1) a0 a1 a2 a3 a4) := by
 intro a0 a1 a2 a3 a4 k
 unfold quorum_Votes.f
 repeat' first
   | (with_reducible exact slices_Contains_int_int.mono _ _ _)
   | (with_reducible exact LeO.refl _)
   | (with_reducible exact LeO.none _)
   | (with_reducible refine LeO.ite ?_ ?_)
   | (with_reducible refine LeO.bind ?_ (fun _ => ?_))
   | exact slices_Contains_int_int.mono _ _ _
   | exact LeO.none _
   | refine LeO.ite ?_ ?_
   | refine LeO.bind ?_ (fun _ => ?_)
set_option maxHeartbeats 8000000 in
set_option maxRecDepth 100000 in
theorem quorum_Votes.calls (k : Nat) (A0_0 : Option Addr) (c0_0 : Nat) (l0_0 : List Int) (A0_1 : Option Addr) (c0_1 : Nat) (l0_1 : List Int) (A0_2 : Option Addr) (c0_2 : Nat) (l0_2 : List Int) (A0_3 : Option Addr) (c0_3 : Nat) (l0_3 : List Int) (a1 : Int) (r : Bool) (w : World) (hr0_0 : Kd.C (Kd.int .i64) w A0_0 l0_0.length l0_0) (hc0_0 : l0_0.length ≤ c0_0) (hr0_1 : Kd.C (Kd.int .i64) w A0_1 l0_1.length l0_1) (hc0_1 : l0_1.length ≤ c0_1) (hr0_2 : Kd.C (Kd.int .i64) w A0_2 l0_2.length l0_2) (hc0_2 : l0_2.length ≤ c0_2) (hr0_3 : Kd.C (Kd.int .i64) w A0_3 l0_3.length l0_3) (hc0_3 : l0_3.length ≤ c0_3) (h : quorum_Votes.f k l0_0 l0_1 l0_2 l0_3 a1 = some r) :
  Calls Try.prog 17 #[.agg #[.slice A0_0 l0_0.length c0_0, .slice A0_1 l0_1.length c0_1, .slice A0_2 l0_2.length c0_2, .slice A0_3 l0_3.length c0_3], .int .i64 a1] w fun e w' => e = .returned (.bool r) ∧ Below w.heap.size w w' := by
 have hu24 := Try.underlying24
 have HR0_0 := Am17 hr0_0
 have HC0_0 := Am17 hc0_0
 clear hr0_0 hc0_0
 have HR0_1 := Am17 hr0_1
 have HC0_1 := Am17 hc0_1
 clear hr0_1 hc0_1
 have HR0_2 := Am17 hr0_2
 have HC0_2 := Am17 hc0_2
 clear hr0_2 hc0_2
 have HR0_3 := Am17 hr0_3
 have HC0_3 := Am17 hc0_3
 clear hr0_3 hc0_3
 have HB := Am17 (Below.refl w.heap.size w)
 have H : ((slices_Contains_int_int.f k l0_0 a1).bind fun t188 => (if t188 = true then (some true) else ((slices_Contains_int_int.f k l0_1 a1).bind fun t189 => (some t189)))) = some r := h
 clear h
 replace H := Option.bind_eq_some_iff.mp H
 obtain ⟨t188, A30, H⟩ := H
 try dsimp only at H
 have A3 := Am17 A30
 clear A30
 by_cases c4 : t188 = true
 ·subst c4
  rw [if_pos rfl] at H
  obtain rfl := Option.some.inj H
  go_enter Try.func17, Try.ntmps17
  go_wp2_with (first | ((with_reducible refine gate_dst (N:=2) rfl ?_); refine box_event ?hg (N:=2) ?hd (cs:=#[.slice A0_0 l0_0.length c0_0, .slice A0_1 l0_1.length c0_1, .slice A0_2 l0_2.length c0_2, .slice A0_3 l0_3.length c0_3]) (t:=24) ?hr ?_; (case hd => rfl); (case hg => rfl); (case hr => first | (go_simp; done) | (go_simp; rfl)); intro gb187 hg w5 hbox hb; have BK187 := Am17 (hbox); have GW187 := Am17 ((by rw [hg]; exact (bz17 (by repeat (first | (with_reducible first | exact HB.out | apply ba17 | apply bn17 | apply bd17) | exact HB.out))) : w.heap.size ≤ gb187)); have GE187 := Am17 ((by rw [hg]; exact (bz17 (by repeat (first | (with_reducible first | exact HB.out | apply ba17 | apply bn17 | apply bd17) | exact HB.out))) : w.heap.size ≤ gb187)); replace HB := Am17 (bp17 (by repeat (first | (with_reducible first | exact HB.out | apply ba17 | apply bn17 | apply bd17) | exact HB.out)) hb); clear hb hbox hg; have hcz6_0 : w5.cell? ⟨gb187, 0, none⟩ = some (.slice A0_0 l0_0.length c0_0) := (kc17 BK187.out 0).trans rfl; have hcz6_1 : w5.cell? ⟨gb187, 1, none⟩ = some (.slice A0_1 l0_1.length c0_1) := (kc17 BK187.out 1).trans rfl; have hcz6_2 : w5.cell? ⟨gb187, 2, none⟩ = some (.slice A0_2 l0_2.length c0_2) := (kc17 BK187.out 2).trans rfl; have hcz6_3 : w5.cell? ⟨gb187, 3, none⟩ = some (.slice A0_3 l0_3.length c0_3) := (kc17 BK187.out 3).trans rfl; have hfz6_0 := kz17 BK187.out 0; have hfz6_1 := kz17 BK187.out 1; have hfz6_2 := kz17 BK187.out 2; have hfz6_3 := kz17 BK187.out 3) | ((with_reducible refine gate_callee (f:=41) rfl ?_); refine goesL_ (some 8) rfl rfl Try.func41 (by kernel_rfl) rfl #[.slice A0_0 l0_0.length c0_0, .int .i64 a1] rfl (by (try simp only [ma17, mc17, mn17]); first | done | rfl | (simp only [ld17, lt_17]; rfl)) ?_; (with_reducible refine (slices_Contains_int_int.calls k _ _ l0_0 a1 true _ ?side1 ?side2 A3.out).mono ?_); (case side1 => repeat (first | exact (Kd.C_below HR0_0.out HB.out) | (with_reducible refine Kd.C_alloc ?_ _) | (with_reducible refine Kd.C_drewN ?_ _) | (with_reducible refine Kd.C_drew ?_))); (case side2 => exact HC0_0.out); rintro e w' ⟨rfl, ⟨nd, rfl⟩⟩; refine ⟨_, rfl, ?_⟩))
  go_ret
  exact ⟨by first | rfl | (simp [errW_none, errW_some] <;> rfl) | (simp [*, errW_none, errW_some] <;> rfl), by repeat (first | (with_reducible first | exact HB.out | apply ba17 | apply bn17 | apply bd17 | refine bs17 ?_ GE187.out) | exact HB.out)⟩
 ·replace c4 := Bool.eq_false_iff.mpr c4
  subst c4
  rw [if_neg (show ¬ (false = true) by decide)] at H
  replace H := Option.bind_eq_some_iff.mp H
  obtain ⟨t189, A70, H⟩ := H
  try dsimp only at H
  have A7 := Am17 A70
  clear A70
  obtain rfl := Option.some.inj H
  go_enter Try.func17, Try.ntmps17
  go_wp2_with (first | ((with_reducible refine gate_dst (N:=2) rfl ?_); refine box_event ?hg (N:=2) ?hd (cs:=#[.slice A0_0 l0_0.length c0_0, .slice A0_1 l0_1.length c0_1, .slice A0_2 l0_2.length c0_2, .slice A0_3 l0_3.length c0_3]) (t:=24) ?hr ?_; (case hd => rfl); (case hg => rfl); (case hr => first | (go_simp; done) | (go_simp; rfl)); intro gb187 hg w8 hbox hb; have BK187 := Am17 (hbox); have GW187 := Am17 ((by rw [hg]; exact (bz17 (by repeat (first | (with_reducible first | exact HB.out | apply ba17 | apply bn17 | apply bd17) | exact HB.out))) : w.heap.size ≤ gb187)); have GE187 := Am17 ((by rw [hg]; exact (bz17 (by repeat (first | (with_reducible first | exact HB.out | apply ba17 | apply bn17 | apply bd17) | exact HB.out))) : w.heap.size ≤ gb187)); replace HB := Am17 (bp17 (by repeat (first | (with_reducible first | exact HB.out | apply ba17 | apply bn17 | apply bd17) | exact HB.out)) hb); clear hb hbox hg; have hcz9_0 : w8.cell? ⟨gb187, 0, none⟩ = some (.slice A0_0 l0_0.length c0_0) := (kc17 BK187.out 0).trans rfl; have hcz9_1 : w8.cell? ⟨gb187, 1, none⟩ = some (.slice A0_1 l0_1.length c0_1) := (kc17 BK187.out 1).trans rfl; have hcz9_2 : w8.cell? ⟨gb187, 2, none⟩ = some (.slice A0_2 l0_2.length c0_2) := (kc17 BK187.out 2).trans rfl; have hcz9_3 : w8.cell? ⟨gb187, 3, none⟩ = some (.slice A0_3 l0_3.length c0_3) := (kc17 BK187.out 3).trans rfl; have hfz9_0 := kz17 BK187.out 0; have hfz9_1 := kz17 BK187.out 1; have hfz9_2 := kz17 BK187.out 2; have hfz9_3 := kz17 BK187.out 3) | ((with_reducible refine gate_callee (f:=41) rfl ?_); refine goesL_ (some 8) rfl rfl Try.func41 (by kernel_rfl) rfl #[.slice A0_0 l0_0.length c0_0, .int .i64 a1] rfl (by (try simp only [ma17, mc17, mn17]); first | done | rfl | (simp only [ld17, lt_17]; rfl)) ?_; (with_reducible refine (slices_Contains_int_int.calls k _ _ l0_0 a1 false _ ?side1 ?side2 A3.out).mono ?_); (case side1 => repeat (first | exact (Kd.C_below HR0_0.out HB.out) | (with_reducible refine Kd.C_alloc ?_ _) | (with_reducible refine Kd.C_drewN ?_ _) | (with_reducible refine Kd.C_drew ?_))); (case side2 => exact HC0_0.out); rintro e w' ⟨rfl, ⟨nd, rfl⟩⟩; refine ⟨_, rfl, ?_⟩) | (go_at_call 41; (with_reducible refine (slices_Contains_int_int.calls k _ _ l0_1 a1 t189 _ ?side1 ?side2 A7.out).mono ?_); (case side1 => repeat (first | exact (Kd.C_below HR0_1.out (by repeat (first | (with_reducible first | exact HB.out | apply ba17 | apply bn17 | apply bd17 | refine bs17 ?_ GE187.out) | exact HB.out))) | (with_reducible refine Kd.C_alloc ?_ _) | (with_reducible refine Kd.C_drewN ?_ _) | (with_reducible refine Kd.C_drew ?_))); (case side2 => exact HC0_1.out); rintro e w' ⟨rfl, ⟨nd, rfl⟩⟩))
  go_ret
  exact ⟨by first | rfl | (simp [errW_none, errW_some] <;> rfl) | (simp [*, errW_none, errW_some] <;> rfl), by repeat (first | (with_reducible first | exact HB.out | apply ba17 | apply bn17 | apply bd17 | refine bs17 ?_ GE187.out) | exact HB.out)⟩

theorem Am16 : type_of% @Aside0.mk := @Aside0.mk
theorem ba16 : type_of% @below_alloc := @below_alloc
theorem bn16 : type_of% @pw_below_drewN := @pw_below_drewN
theorem bd16 : type_of% @below_drew1 := @below_drew1
theorem bs16 : type_of% @below_set := @below_set
theorem kn16 : type_of% @blk_drewN := @blk_drewN
theorem kd16 : type_of% @blk_drew := @blk_drew
theorem ka16 : type_of% @blk_alloc := @blk_alloc
theorem kb16 : type_of% @blk_below := @blk_below
theorem bz16 : type_of% @below_size := @below_size
theorem bp16 : type_of% @below_step := @below_step
theorem kc16 : type_of% @blk_cell := @blk_cell
theorem kz16 : type_of% @blk_frozen := @blk_frozen
theorem ma16 : type_of% @List.map_toArray := @List.map_toArray
theorem mc16 : type_of% @List.map_cons := @List.map_cons
theorem mn16 : type_of% @List.map_nil := @List.map_nil
theorem ld16 : type_of% @List.length_drop := @List.length_drop
theorem lt_16 : type_of% @List.length_take := @List.length_take
/-! ### quorum_Has: function 16 -/
def quorum_Has.f (k : Nat) (l0_0 : List Int) (l0_1 : List Int) (l0_2 : List Int) (l0_3 : List Int) (a1 : Int) : Option (Bool) := (quorum_Votes.f k l0_0 l0_1 l0_2 l0_3 a1).bind fun t191 => (if t191 = true then (some true) else ((slices_Contains_int_int.f k l0_2 a1).bind fun t192 => (some t192)))
theorem quorum_Has.mono : ∀ a0 a1 a2 a3 a4 k, LeO (quorum_Has.f k a0 a1 a2 a3 a4) (quorum_Has.f (k + 1) a0 a1 a2 a3 a4) := by
 intro a0 a1 a2 a3 a4 k
 unfold quorum_Has.f
 repeat' first
   | (with_reducible exact quorum_Votes.mono _ _ _ _ _ _)
   | (with_reducible exact slices_Contains_int_int.mono _ _ _)
   | (with_reducible exact LeO.refl _)
   | (with_reducible exact LeO.none _)
   | (with_reducible refine LeO.ite ?_ ?_)
   | (with_reducible refine LeO.bind ?_ (fun _ => ?_))
   | exact quorum_Votes.mono _ _ _ _ _ _
   | exact slices_Contains_int_int.mono _ _ _
   | exact LeO.none _
   | refine LeO.ite ?_ ?_
   | refine LeO.bind ?_ (fun _ => ?_)
set_option maxHeartbeats 8000000 in
set_option maxRecDepth 100000 in
theorem quorum_Has.calls (k : Nat) (A0_0 : Option Addr) (c0_0 : Nat) (l0_0 : List Int) (A0_1 : Option Addr) (c0_1 : Nat) (l0_1 : List Int) (A0_2 : Option Addr) (c0_2 : Nat) (l0_2 : List Int) (A0_3 : Option Addr) (c0_3 : Nat) (l0_3 : List Int) (a1 : Int) (r : Bool) (w : World) (hr0_0 : Kd.C (Kd.int .i64) w A0_0 l0_0.length l0_0) (hc0_0 : l0_0.length ≤ c0_0) (hr0_1 : Kd.C (Kd.int .i64) w A0_1 l0_1.length l0_1) (hc0_1 : l0_1.length ≤ c0_1) (hr0_2 : Kd.C (Kd.int .i64) w A0_2 l0_2.length l0_2) (hc0_2 : l0_2.length ≤ c0_2) (hr0_3 : Kd.C (Kd.int .i64) w A0_3 l0_3.length l0_3) (hc0_3 : l0_3.length ≤ c0_3) (h : quorum_Has.f k l0_0 l0_1 l0_2 l0_3 a1 = some r) :
  Calls Try.prog 16 #[.agg #[.slice A0_0 l0_0.length c0_0, .slice A0_1 l0_1.length c0_1, .slice A0_2 l0_2.length c0_2, .slice A0_3 l0_3.length c0_3], .int .i64 a1] w fun e w' => e = .returned (.bool r) ∧ Below w.heap.size w w' := by
 have hu24 := Try.underlying24
 have HR0_0 := Am16 hr0_0
 have HC0_0 := Am16 hc0_0
 clear hr0_0 hc0_0
 have HR0_1 := Am16 hr0_1
 have HC0_1 := Am16 hc0_1
 clear hr0_1 hc0_1
 have HR0_2 := Am16 hr0_2
 have HC0_2 := Am16 hc0_2
 clear hr0_2 hc0_2
 have HR0_3 := Am16 hr0_3
 have HC0_3 := Am16 hc0_3
 clear hr0_3 hc0_3
 have HB := Am16 (Below.refl w.heap.size w)
 have H : ((quorum_Votes.f k l0_0 l0_1 l0_2 l0_3 a1).bind fun t191 => (if t191 = true then (some true) else ((slices_Contains_int_int.f k l0_2 a1).bind fun t192 => (some t192)))) = some r := h
 clear h
 replace H := Option.bind_eq_some_iff.mp H
 obtain ⟨t191, A30, H⟩ := H
 try dsimp only at H
 have A3 := Am16 A30
 clear A30
 by_cases c4 : t191 = true
 ·subst c4
  rw [if_pos rfl] at H
  obtain rfl := Option.some.inj H
  go_enter Try.func16, Try.ntmps16
  go_wp2_with (first | ((with_reducible refine gate_dst (N:=2) rfl ?_); refine box_event ?hg (N:=2) ?hd (cs:=#[.slice A0_0 l0_0.length c0_0, .slice A0_1 l0_1.length c0_1, .slice A0_2 l0_2.length c0_2, .slice A0_3 l0_3.length c0_3]) (t:=24) ?hr ?_; (case hd => rfl); (case hg => rfl); (case hr => first | (go_simp; done) | (go_simp; rfl)); intro gb190 hg w5 hbox hb; have BK190 := Am16 (hbox); have GW190 := Am16 ((by rw [hg]; exact (bz16 (by repeat (first | (with_reducible first | exact HB.out | apply ba16 | apply bn16 | apply bd16) | exact HB.out))) : w.heap.size ≤ gb190)); have GE190 := Am16 ((by rw [hg]; exact (bz16 (by repeat (first | (with_reducible first | exact HB.out | apply ba16 | apply bn16 | apply bd16) | exact HB.out))) : w.heap.size ≤ gb190)); replace HB := Am16 (bp16 (by repeat (first | (with_reducible first | exact HB.out | apply ba16 | apply bn16 | apply bd16) | exact HB.out)) hb); clear hb hbox hg; have hcz6_0 : w5.cell? ⟨gb190, 0, none⟩ = some (.slice A0_0 l0_0.length c0_0) := (kc16 BK190.out 0).trans rfl; have hcz6_1 : w5.cell? ⟨gb190, 1, none⟩ = some (.slice A0_1 l0_1.length c0_1) := (kc16 BK190.out 1).trans rfl; have hcz6_2 : w5.cell? ⟨gb190, 2, none⟩ = some (.slice A0_2 l0_2.length c0_2) := (kc16 BK190.out 2).trans rfl; have hcz6_3 : w5.cell? ⟨gb190, 3, none⟩ = some (.slice A0_3 l0_3.length c0_3) := (kc16 BK190.out 3).trans rfl; have hfz6_0 := kz16 BK190.out 0; have hfz6_1 := kz16 BK190.out 1; have hfz6_2 := kz16 BK190.out 2; have hfz6_3 := kz16 BK190.out 3) | ((with_reducible refine gate_callee (f:=17) rfl ?_); refine goesL_ (some 7) rfl rfl Try.func17 (by kernel_rfl) rfl #[.agg #[.slice A0_0 l0_0.length c0_0, .slice A0_1 l0_1.length c0_1, .slice A0_2 l0_2.length c0_2, .slice A0_3 l0_3.length c0_3], .int .i64 a1] rfl (by (try simp only [ma16, mc16, mn16]); first | done | rfl | (simp only [ld16, lt_16]; rfl)) ?_; (with_reducible refine (quorum_Votes.calls k _ _ l0_0 _ _ l0_1 _ _ l0_2 _ _ l0_3 a1 true _ ?side1 ?side2 ?side3 ?side4 ?side5 ?side6 ?side7 ?side8 A3.out).mono ?_); (case side1 => repeat (first | exact (Kd.C_below HR0_0.out HB.out) | (with_reducible refine Kd.C_alloc ?_ _) | (with_reducible refine Kd.C_drewN ?_ _) | (with_reducible refine Kd.C_drew ?_))); (case side2 => exact HC0_0.out); (case side3 => repeat (first | exact (Kd.C_below HR0_1.out HB.out) | (with_reducible refine Kd.C_alloc ?_ _) | (with_reducible refine Kd.C_drewN ?_ _) | (with_reducible refine Kd.C_drew ?_))); (case side4 => exact HC0_1.out); (case side5 => repeat (first | exact (Kd.C_below HR0_2.out HB.out) | (with_reducible refine Kd.C_alloc ?_ _) | (with_reducible refine Kd.C_drewN ?_ _) | (with_reducible refine Kd.C_drew ?_))); (case side6 => exact HC0_2.out); (case side7 => repeat (first | exact (Kd.C_below HR0_3.out HB.out) | (with_reducible refine Kd.C_alloc ?_ _) | (with_reducible refine Kd.C_drewN ?_ _) | (with_reducible refine Kd.C_drew ?_))); (case side8 => exact HC0_3.out); rintro e w7 ⟨rfl, hb⟩; refine ⟨_, rfl, ?_⟩; replace BK190 := Am16 (kb16 (g:=gb190) (o:=.cells #[.slice A0_0 l0_0.length c0_0, .slice A0_1 l0_1.length c0_1, .slice A0_2 l0_2.length c0_2, .slice A0_3 l0_3.length c0_3] 24 (0, 0)) (by (with_reducible repeat first | apply kn16 | apply kd16 | apply ka16); exact BK190.out) hb); replace HB := Am16 (bp16 (by repeat (first | (with_reducible first | exact HB.out | apply ba16 | apply bn16 | apply bd16 | refine bs16 ?_ GE190.out) | exact HB.out)) hb); (try clear hb); (try clear hb2); (try clear hk); (try clear hi)))
  go_ret
  exact ⟨by first | rfl | (simp [errW_none, errW_some] <;> rfl) | (simp [*, errW_none, errW_some] <;> rfl), by repeat (first | (with_reducible first | exact HB.out | apply ba16 | apply bn16 | apply bd16 | refine bs16 ?_ GE190.out) | exact HB.out)⟩
 ·replace c4 := Bool.eq_false_iff.mpr c4
  subst c4
  rw [if_neg (show ¬ (false = true) by decide)] at H
  replace H := Option.bind_eq_some_iff.mp H
  obtain ⟨t192, A80, H⟩ := H
  try dsimp only at H
  have A8 := Am16 A80
  clear A80
  obtain rfl := Option.some.inj H
  go_enter Try.func16, Try.ntmps16
  go_wp2_with (first | ((with_reducible refine gate_dst (N:=2) rfl ?_); refine box_event ?hg (N:=2) ?hd (cs:=#[.slice A0_0 l0_0.length c0_0, .slice A0_1 l0_1.length c0_1, .slice A0_2 l0_2.length c0_2, .slice A0_3 l0_3.length c0_3]) (t:=24) ?hr ?_; (case hd => rfl); (case hg => rfl); (case hr => first | (go_simp; done) | (go_simp; rfl)); intro gb190 hg w9 hbox hb; have BK190 := Am16 (hbox); have GW190 := Am16 ((by rw [hg]; exact (bz16 (by repeat (first | (with_reducible first | exact HB.out | apply ba16 | apply bn16 | apply bd16) | exact HB.out))) : w.heap.size ≤ gb190)); have GE190 := Am16 ((by rw [hg]; exact (bz16 (by repeat (first | (with_reducible first | exact HB.out | apply ba16 | apply bn16 | apply bd16) | exact HB.out))) : w.heap.size ≤ gb190)); replace HB := Am16 (bp16 (by repeat (first | (with_reducible first | exact HB.out | apply ba16 | apply bn16 | apply bd16) | exact HB.out)) hb); clear hb hbox hg; have hcz10_0 : w9.cell? ⟨gb190, 0, none⟩ = some (.slice A0_0 l0_0.length c0_0) := (kc16 BK190.out 0).trans rfl; have hcz10_1 : w9.cell? ⟨gb190, 1, none⟩ = some (.slice A0_1 l0_1.length c0_1) := (kc16 BK190.out 1).trans rfl; have hcz10_2 : w9.cell? ⟨gb190, 2, none⟩ = some (.slice A0_2 l0_2.length c0_2) := (kc16 BK190.out 2).trans rfl; have hcz10_3 : w9.cell? ⟨gb190, 3, none⟩ = some (.slice A0_3 l0_3.length c0_3) := (kc16 BK190.out 3).trans rfl; have hfz10_0 := kz16 BK190.out 0; have hfz10_1 := kz16 BK190.out 1; have hfz10_2 := kz16 BK190.out 2; have hfz10_3 := kz16 BK190.out 3) | ((with_reducible refine gate_callee (f:=17) rfl ?_); refine goesL_ (some 7) rfl rfl Try.func17 (by kernel_rfl) rfl #[.agg #[.slice A0_0 l0_0.length c0_0, .slice A0_1 l0_1.length c0_1, .slice A0_2 l0_2.length c0_2, .slice A0_3 l0_3.length c0_3], .int .i64 a1] rfl (by (try simp only [ma16, mc16, mn16]); first | done | rfl | (simp only [ld16, lt_16]; rfl)) ?_; (with_reducible refine (quorum_Votes.calls k _ _ l0_0 _ _ l0_1 _ _ l0_2 _ _ l0_3 a1 false _ ?side1 ?side2 ?side3 ?side4 ?side5 ?side6 ?side7 ?side8 A3.out).mono ?_); (case side1 => repeat (first | exact (Kd.C_below HR0_0.out HB.out) | (with_reducible refine Kd.C_alloc ?_ _) | (with_reducible refine Kd.C_drewN ?_ _) | (with_reducible refine Kd.C_drew ?_))); (case side2 => exact HC0_0.out); (case side3 => repeat (first | exact (Kd.C_below HR0_1.out HB.out) | (with_reducible refine Kd.C_alloc ?_ _) | (with_reducible refine Kd.C_drewN ?_ _) | (with_reducible refine Kd.C_drew ?_))); (case side4 => exact HC0_1.out); (case side5 => repeat (first | exact (Kd.C_below HR0_2.out HB.out) | (with_reducible refine Kd.C_alloc ?_ _) | (with_reducible refine Kd.C_drewN ?_ _) | (with_reducible refine Kd.C_drew ?_))); (case side6 => exact HC0_2.out); (case side7 => repeat (first | exact (Kd.C_below HR0_3.out HB.out) | (with_reducible refine Kd.C_alloc ?_ _) | (with_reducible refine Kd.C_drewN ?_ _) | (with_reducible refine Kd.C_drew ?_))); (case side8 => exact HC0_3.out); rintro e w11 ⟨rfl, hb⟩; refine ⟨_, rfl, ?_⟩; replace BK190 := Am16 (kb16 (g:=gb190) (o:=.cells #[.slice A0_0 l0_0.length c0_0, .slice A0_1 l0_1.length c0_1, .slice A0_2 l0_2.length c0_2, .slice A0_3 l0_3.length c0_3] 24 (0, 0)) (by (with_reducible repeat first | apply kn16 | apply kd16 | apply ka16); exact BK190.out) hb); replace HB := Am16 (bp16 (by repeat (first | (with_reducible first | exact HB.out | apply ba16 | apply bn16 | apply bd16 | refine bs16 ?_ GE190.out) | exact HB.out)) hb); (try clear hb); (try clear hb2); (try clear hk); (try clear hi); have hcz12_0 : w11.cell? ⟨gb190, 0, none⟩ = some (.slice A0_0 l0_0.length c0_0) := (kc16 BK190.out 0).trans rfl; have hcz12_1 : w11.cell? ⟨gb190, 1, none⟩ = some (.slice A0_1 l0_1.length c0_1) := (kc16 BK190.out 1).trans rfl; have hcz12_2 : w11.cell? ⟨gb190, 2, none⟩ = some (.slice A0_2 l0_2.length c0_2) := (kc16 BK190.out 2).trans rfl; have hcz12_3 : w11.cell? ⟨gb190, 3, none⟩ = some (.slice A0_3 l0_3.length c0_3) := (kc16 BK190.out 3).trans rfl; have hfz12_0 := kz16 BK190.out 0; have hfz12_1 := kz16 BK190.out 1; have hfz12_2 := kz16 BK190.out 2; have hfz12_3 := kz16 BK190.out 3) | (go_at_call 41; (with_reducible refine (slices_Contains_int_int.calls k _ _ l0_2 a1 t192 _ ?side1 ?side2 A8.out).mono ?_); (case side1 => repeat (first | exact (Kd.C_below HR0_2.out HB.out) | (with_reducible refine Kd.C_alloc ?_ _) | (with_reducible refine Kd.C_drewN ?_ _) | (with_reducible refine Kd.C_drew ?_))); (case side2 => exact HC0_2.out); rintro e w' ⟨rfl, ⟨nd, rfl⟩⟩))
  go_ret
  exact ⟨by first | rfl | (simp [errW_none, errW_some] <;> rfl) | (simp [*, errW_none, errW_some] <;> rfl), by repeat (first | (with_reducible first | exact HB.out | apply ba16 | apply bn16 | apply bd16 | refine bs16 ?_ GE190.out) | exact HB.out)⟩

/-! ### watershedkit_LentConfig: function 18 -/
-- GIVEN
def watershedkit_LentConfig.f (l0_0 l0_1 l0_2 l0_3 : List Int) : Option (List Int × List Int × List Int × List Int) := some (l0_0, l0_1, l0_2, l0_3)

/-! ### watershedkit_mark: function 42 -/
def watershedkit_mark.f (a0 : Int) (a1 : Int) : Option (Int) := some (wrap64 ((wrap64 (1000003 * (wrap64 (a0 + 7)))) + a1))
set_option maxHeartbeats 8000000 in
set_option maxRecDepth 100000 in
theorem watershedkit_mark.calls (a0 : Int) (a1 : Int) (r : Int) (w : World) (h : watershedkit_mark.f a0 a1 = some r) :
    Calls Try.prog 42 #[.int .i64 a0, .int .i64 a1] w fun e w' => e = .returned (.int .i64 r) ∧ Drawn0 w w' := by
  have H : (some (wrap64 ((wrap64 (1000003 * (wrap64 (a0 + 7)))) + a1))) = some r := h
  clear h
  obtain rfl := Option.some.inj H
  go_enter Try.func42, Try.ntmps42
  go_wp2
  go_ret
  exact ⟨by first | rfl | (simp; done) | (simp [*]; done), by repeat (first | exact Drawn0.refl _ | apply Drawn0.step)⟩

/-! ### watershedkit_LentInts: function 19 -/
-- GIVEN
def watershedkit_LentInts.f (l0 : List Int) : Option (List Int) := some l0

end Go.Proofs.Ytkilmclncpmjnaa.P06t
