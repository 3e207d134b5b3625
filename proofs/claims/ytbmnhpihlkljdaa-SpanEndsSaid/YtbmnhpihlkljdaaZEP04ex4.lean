-- Written by gprint.py, a program of this session, over the kit's print; the functions of my own contracts are marked GIVEN
import Derived.Test.YtbmnhpihlkljdaaZEP04ex0
import Derived.Test.YtbmnhpihlkljdaaZEP04ex1
import Derived.Test.YtbmnhpihlkljdaaZEP04ex2
import Derived.Test.YtbmnhpihlkljdaaZEP04ex3
namespace Go.Proofs.Ytbmnhpihlkljdaa.P04e
open Go.RowKit Go.Proofs.YtbmnhpihlkljdaaW.PrintWords Go.Proofs.YtbmnhpihlkljdaaW.PrintLast Go.Proofs.YtbmnhpihlkljdaaW.PrintMore
attribute [local go_sem] max2_str max2_int min2_int max_two min_two max_three min_three max_four min_four   -- for this text's walks alone
set_option linter.unusedVariables false
set_option linter.unusedSimpArgs false

attribute [local go_sem high] eqA26
/-! ### span_Cut: function 24 -/
-- GIVEN
theorem Amg24 : type_of% @Aside0.mk := @Aside0.mk
theorem Rag24 : type_of% @Kd.R_alloc := @Kd.R_alloc
theorem Rng24 : type_of% @Kd.R_drewN := @Kd.R_drewN
theorem Rdg24 : type_of% @Kd.R_drew := @Kd.R_drew
theorem Rfg24 : type_of% @Kd.R_far := @Kd.R_far
theorem Rog24 : type_of% @Kd.R_mono := @Kd.R_mono
theorem Rbg24 : type_of% @Kd.R_below := @Kd.R_below
theorem Ryg24 : type_of% @Kd.R_types := @Kd.R_types
theorem bag24 : type_of% @below_alloc := @below_alloc
theorem bng24 : type_of% @pw_below_drewN := @pw_below_drewN
theorem bdg24 : type_of% @below_drew1 := @below_drew1
theorem bsg24 : type_of% @below_set := @below_set
theorem kng24 : type_of% @blk_drewN := @blk_drewN
theorem kdg24 : type_of% @blk_drew := @blk_drew
theorem kag24 : type_of% @blk_alloc := @blk_alloc
theorem kbg24 : type_of% @blk_below := @blk_below
theorem Rlg24 : type_of% @Kd.R_lower := @Kd.R_lower
theorem bzg24 : type_of% @below_size := @below_size
theorem bpg24 : type_of% @below_step := @below_step
theorem kcg24 : type_of% @blk_cell := @blk_cell
theorem kzg24 : type_of% @blk_frozen := @blk_frozen
theorem mag24 : type_of% @List.map_toArray := @List.map_toArray
theorem mcg24 : type_of% @List.map_cons := @List.map_cons
theorem mng24 : type_of% @List.map_nil := @List.map_nil
theorem ldg24 : type_of% @List.length_drop := @List.length_drop
theorem lt_g24 : type_of% @List.length_take := @List.length_take
theorem infoCut26 : (Try.prog.info? 26).map (fun i => (i.zero, i.size, i.bytes)) = some (some (.agg #[(.string ⟨#[]⟩), (.string ⟨#[]⟩)]), 2, 32) := by kernel_rfl
def span_Cut.l0 : Nat → List (S26) → List ByteArray → Int → Int → ByteArray → ByteArray → Option ((List (S26)))
 | 0, _, _, _, _, _, _ => none
 | k + 1, x5, x14, x15, x16, x142000, x142001 => if x16 < x15 then (if 0 ≤ x16 then (if x16 < (x14.length : Int) then ((span_Has.f k x142000 x142001 (rdOf ByteArray.empty x14 x16)).bind fun t153 => (if t153 = true then (if (rdOf ByteArray.empty x14 x16).toList = x142000.toList then (span_Cut.l0 k x5 x14 x15 (wrap64 (x16 + 1)) x142000 x142001) else (if x5.length < 4398046511104 then (span_Cut.l0 k (x5 ++ [(⟨x142000, rdOf ByteArray.empty x14 x16⟩ : S26)]) x14 x15 (wrap64 (x16 + 1)) (rdOf ByteArray.empty x14 x16) x142001) else (none))) else (span_Cut.l0 k x5 x14 x15 (wrap64 (x16 + 1)) x142000 x142001))) else (none)) else (none)) else (if x5.length < 4398046511104 then (some (x5 ++ [(⟨x142000, x142001⟩ : S26)])) else (none))
def span_Cut.f (k : Nat) (a0_0 : ByteArray) (a0_1 : ByteArray) (l1 : List ByteArray) : Option ((List (S26))) := (span_Right.f k a0_0 a0_1).bind fun t142 => (if t142 = true then ((cutF l1).bind fun t149 => (span_Cut.l0 k ([] : List (S26)) t149 (t149.length : Int) 0 a0_0 a0_1)) else (some ([] : List (S26))))
theorem span_Cut.mono_l : ∀ k, (∀ y0 y1 y2 y3 y4 y5, LeO (span_Cut.l0 k y0 y1 y2 y3 y4 y5) (span_Cut.l0 (k + 1) y0 y1 y2 y3 y4 y5))
 | 0 => fun _ _ _ _ _ _ r h => by simp [span_Cut.l0] at h
 | k + 1 => by
  have ih0 := span_Cut.mono_l k
  ·intro y0 y1 y2 y3 y4 y5
   unfold span_Cut.l0
   repeat' first
   | (with_reducible exact ih0 _ _ _ _ _ _)
   | (with_reducible exact span_Has.mono _ _ _ _)
   | (with_reducible exact span_Right.mono _ _ _)
   | (with_reducible exact LeO.refl _)
   | (with_reducible exact LeO.none _)
   | (with_reducible refine LeO.ite ?_ ?_)
   | (with_reducible refine LeO.bind ?_ (fun _ => ?_))
   | exact ih0 _ _ _ _ _ _
   | exact span_Has.mono _ _ _ _
   | exact span_Right.mono _ _ _
   | exact LeO.none _
   | refine LeO.ite ?_ ?_
   | refine LeO.bind ?_ (fun _ => ?_)
theorem span_Cut.mono : ∀ a0 a1 a2 k, LeO (span_Cut.f k a0 a1 a2) (span_Cut.f (k + 1) a0 a1 a2) := by
 intro a0 a1 a2 k
 have ih0 := span_Cut.mono_l k
 unfold span_Cut.f
 repeat' first
   | (with_reducible exact ih0 _ _ _ _ _ _)
   | (with_reducible exact span_Has.mono _ _ _ _)
   | (with_reducible exact span_Right.mono _ _ _)
   | (with_reducible exact LeO.refl _)
   | (with_reducible exact LeO.none _)
   | (with_reducible refine LeO.ite ?_ ?_)
   | (with_reducible refine LeO.bind ?_ (fun _ => ?_))
   | exact ih0 _ _ _ _ _ _
   | exact span_Has.mono _ _ _ _
   | exact span_Right.mono _ _ _
   | exact LeO.none _
   | refine LeO.ite ?_ ?_
   | refine LeO.bind ?_ (fun _ => ?_)
set_option maxHeartbeats 8000000 in
set_option maxRecDepth 100000 in
theorem span_Cut.calls (k : Nat) (a0_0 : ByteArray) (a0_1 : ByteArray) (A1 : Option Addr) (c1 : Nat) (l1 : List ByteArray) (r : List (S26)) (w : World) (hr1 : Kd.C Kd.string w A1 l1.length l1) (hc1 : l1.length ≤ c1) (h : span_Cut.f k a0_0 a0_1 l1 = some r) :
  Calls Try.prog 24 #[.agg #[.string a0_0, .string a0_1], .slice A1 l1.length c1] w fun e w' => ∃ v0_ : Value, e = .returned (v0_) ∧ Kd.R k26 26 w' w.heap.size (fun _ => True) v0_ r ∧ Below w.heap.size w w' := by
 have hu26 := Try.underlying26
 have HR1 := Amg24 hr1
 have HC1 := Amg24 hc1
 clear hr1 hc1
 have HB := Amg24 (Below.refl w.heap.size w)
 have H : ((span_Right.f k a0_0 a0_1).bind fun t142 => (if t142 = true then ((cutF l1).bind fun t149 => (span_Cut.l0 k ([] : List (S26)) t149 (t149.length : Int) 0 a0_0 a0_1)) else (some ([] : List (S26))))) = some r := h
 clear h
 replace H := Option.bind_eq_some_iff.mp H
 obtain ⟨t142, A30, H⟩ := H
 try dsimp only at H
 have A3 := Amg24 A30
 clear A30
 by_cases c4 : t142 = true
 ·subst c4
  rw [if_pos rfl] at H
  replace H := Option.bind_eq_some_iff.mp H
  obtain ⟨t149, A70, H⟩ := H
  try dsimp only at H
  have hcut := cutF_eq A70
  have A7 := Amg24 hcut.1
  have A7b := Amg24 hcut.2
  clear A70
  clear hcut
  have H' := Amg24 H
  clear H
  go_enter Try.func24, Try.ntmps24
  go_wp2_with (first | ((with_reducible refine gate_dst (N:=2) rfl ?_); refine box_event ?hg (N:=2) ?hd (cs:=#[.string a0_0, .string a0_1]) (t:=26) ?hr ?_; (case hd => rfl); (case hg => rfl); (case hr => first | (go_simp; done) | (go_simp; rfl)); intro gb141 hg w8 hbox hb; have BK141 := Amg24 (hbox); have GW141 := Amg24 ((by rw [hg]; exact (bzg24 (by repeat (first | (with_reducible first | exact HB.out | apply bag24 | apply bng24 | apply bdg24) | exact HB.out))) : w.heap.size ≤ gb141)); have GE141 := Amg24 ((by rw [hg]; exact (bzg24 (by repeat (first | (with_reducible first | exact HB.out | apply bag24 | apply bng24 | apply bdg24) | exact HB.out))) : w.heap.size ≤ gb141)); replace HB := Amg24 (bpg24 (by repeat (first | (with_reducible first | exact HB.out | apply bag24 | apply bng24 | apply bdg24) | exact HB.out)) hb); clear hb hbox hg; have hcz9_0 : w8.cell? ⟨gb141, 0, none⟩ = some (.string a0_0) := (kcg24 BK141.out 0).trans rfl; have hcz9_1 : w8.cell? ⟨gb141, 1, none⟩ = some (.string a0_1) := (kcg24 BK141.out 1).trans rfl; have hfz9_0 := kzg24 BK141.out 0; have hfz9_1 := kzg24 BK141.out 1) | ((with_reducible refine gate_callee (f:=16) rfl ?_); refine goesL_ (some 9) rfl rfl Try.func16 (by kernel_rfl) rfl #[.agg #[.string a0_0, .string a0_1]] rfl (by (try simp only [mag24, mcg24, mng24]); first | done | rfl | (simp only [ldg24, lt_g24]; rfl)) ?_; (with_reducible refine (span_Right.calls k a0_0 a0_1 true _ A3.out).mono ?_); rintro e w10 ⟨rfl, hb⟩; refine ⟨_, rfl, ?_⟩; replace BK141 := Amg24 (kbg24 (g:=gb141) (o:=.cells #[.string a0_0, .string a0_1] 26 (0, 0)) (by (with_reducible repeat first | apply kng24 | apply kdg24 | apply kag24); exact BK141.out) hb); replace HB := Amg24 (bpg24 (by repeat (first | (with_reducible first | exact HB.out | apply bag24 | apply bng24 | apply bdg24 | refine bsg24 ?_ GE141.out) | exact HB.out)) hb); (try clear hb); (try clear hb2); (try clear hk); (try clear hi)) | ((with_reducible refine gate_callee (f:=36) rfl ?_); refine goesL_ (some 12) rfl rfl Try.func36 (by kernel_rfl) rfl #[.slice A1 l1.length c1] rfl (by (try simp only [mag24, mcg24, mng24]); first | done | rfl | (simp only [ldg24, lt_g24]; rfl)) ?_; (with_reducible refine (Try.values' A1 l1.length c1 _).mono ?_); rintro e w11 ⟨b11, rfl, hbx, hb⟩; refine ⟨_, rfl, ?_⟩; have n1_ := Amg24 (kbg24 (g:=gb141) (o:=.cells #[.string a0_0, .string a0_1] 26 (0, 0)) (by (with_reducible repeat first | apply kng24 | apply kdg24 | apply kag24); exact BK141.out) hb); have n2_ := Amg24 (bpg24 (by repeat (first | (with_reducible first | exact HB.out | apply bag24 | apply bng24 | apply bdg24 | refine bsg24 ?_ GE141.out) | exact HB.out)) hb); have BX11 := Amg24 hbx; clear BK141; clear HB; have BK141 := n1_; have HB := n2_; clear n1_ n2_ hb hbx) | ((with_reducible refine gate_callee (f:=35) rfl ?_); refine goesL_ (some 13) rfl rfl Try.func35 (by kernel_rfl) rfl #[.func (.func 40) #[] #[.pointer (some ⟨b11, 0, none⟩)]] rfl (by (try simp only [mag24, mcg24, mng24]); first | done | rfl | (simp only [ldg24, lt_g24]; rfl)) ?_; (with_reducible refine (sorted_calls l1 A1 c1 b11 _ ?side1 A7b.out ?side2).mono ?_); (case side1 => repeat (first | exact (Kd.C_below HR1.out HB.out) | (with_reducible refine Kd.C_alloc ?_ _) | (with_reducible refine Kd.C_drewN ?_ _) | (with_reducible refine Kd.C_drew ?_))); (case side2 => exact (by (with_reducible repeat first | apply kng24 | apply kdg24 | apply kag24); exact BX11.out)); rintro e w13 ⟨v147, rfl, ho0, hb⟩; refine ⟨_, rfl, ?_⟩; have n0_ := Amg24 (Rlg24 ho0 (bzg24 (by repeat (first | (with_reducible first | exact HB.out | apply bag24 | apply bng24 | apply bdg24 | refine bsg24 ?_ GE141.out) | exact HB.out)))); have n1_ := Amg24 (kbg24 (g:=gb141) (o:=.cells #[.string a0_0, .string a0_1] 26 (0, 0)) (by (with_reducible repeat first | apply kng24 | apply kdg24 | apply kag24); exact BK141.out) hb); have n2_ := Amg24 (bpg24 (by repeat (first | (with_reducible first | exact HB.out | apply bag24 | apply bng24 | apply bdg24 | refine bsg24 ?_ GE141.out) | exact HB.out)) hb); clear BK141; clear HB; have HO148 := n0_; have BK141 := n1_; have HB := n2_; clear n0_ n1_ n2_ hb ho0; obtain ⟨Ao14, co14, eo14⟩ := Kd.R_slice HO148.out; subst eo14) | ((with_reducible refine gate_callee (f:=34) rfl ?_); refine goesL_ (some 14) rfl rfl Try.func34 (by kernel_rfl) rfl #[.slice Ao14 ((sortedOf l1).map sb).length co14] rfl (by (try simp only [mag24, mcg24, mng24]); first | done | rfl | (simp only [ldg24, lt_g24]; rfl)) ?_; (with_reducible refine (compact_calls l1 w.heap.size Ao14 _ co14 _ ?side1).mono ?_); (case side1 => (with_reducible repeat first | apply Rag24 | apply Rng24 | apply Rdg24); exact HO148.out); rintro e w15 ⟨v150, rfl, ho0, hgr⟩; refine ⟨_, rfl, ?_⟩; have hown := fun k_ hk_ => own_cutK HO148.out k_ hk_; have n1_ := Amg24 (blk_grownK (g:=gb141) (by (with_reducible repeat first | apply kng24 | apply kdg24 | apply kag24); exact BK141.out) hgr (fun k_ hk_ => own_cutT HO148.out BK141.out (by decide) k_ hk_)); have n2_ := Amg24 (below_grownK (by repeat (first | (with_reducible first | exact HB.out | apply bag24 | apply bng24 | apply bdg24 | refine bsg24 ?_ GE141.out) | exact HB.out)) hgr hown); clear HO148; clear BK141; clear HB; have HO151 := Amg24 (show Kd.R Kd.string 9 w15 w.heap.size (fun _ => True) v150 t149 by rw [A7.out]; exact ho0); have BK141 := n1_; have HB := n2_; clear n1_ n2_ ho0 hgr hown; obtain ⟨Ao16, co16, eo16⟩ := Kd.R_slice HO151.out; subst eo16))
  go_loopg [5, 16] k (fun kq v5 v16 w' => ∃ (x5_1 : List (S26)) (x16_1 : Int) (x142000_1 : ByteArray), v16 = .int .i64 x16_1 ∧ Aside0 (span_Cut.l0 kq x5_1 t149 (t149.length : Int) x16_1 x142000_1 a0_1 = some r) ∧ Aside0 (kq ≤ k) ∧ Aside0 (Kd.R k26 26 w' w.heap.size (fun k_ => k_ ≠ gb141) v5 x5_1) ∧ Aside0 (Kd.R Kd.string 9 w' w.heap.size (fun _ => True) (.slice Ao16 t149.length co16) t149) ∧ Aside0 (w'.heap[gb141]? = some (.cells #[.string x142000_1, .string a0_1] 26 (0, 0))) ∧ Aside0 (Below w.heap.size w w'))
  case atStart => exact ⟨(([] : List (S26))), (0), (a0_0), (by first | rfl | (simp; done) | (simp [*]; done)), H', ⟨Nat.le_refl _⟩, ⟨by first | exact Kd.R_nil _ _ _ _ _ | exact Kd.N_nil _ _ _ _ _ | exact Kd.V_nil _ _ _ _ _ | exact Kd.Q_nil _ _ _ _ _ | exact Kd.S_nil _ _ _ _ _⟩, ⟨by (with_reducible repeat first | apply Rag24 | apply Rng24 | apply Rdg24); exact Rog24 HO151.out (fun _ hk => trivial)⟩, ⟨by (with_reducible repeat first | apply kng24 | apply kdg24 | apply kag24); exact BK141.out⟩, ⟨by repeat (first | (with_reducible first | exact HB.out | apply bag24 | apply bng24 | apply bdg24 | refine bsg24 ?_ GE141.out) | exact HB.out)⟩⟩
  case round =>
   clear H'
   try clear c1
   try clear c2
   try clear p2
   try clear c3
   try clear c4
   try clear c16
   try clear hcz9_0
   try clear hcz9_1
   try clear hfz9_0
   try clear hfz9_1
   obtain ⟨x5_1, x16_1, x142000_1, rfl, HA, HK1, HO_5, HO_14, BK141, HB⟩ := hrel
   cases gk with
   | zero => exact absurd HA.out (by simp [span_Cut.l0])
   | succ k1 =>
    have H := HA.out
    clear HA
    simp only [span_Cut.l0] at H
    by_cases c17 : x16_1 < (t149.length : Int)
    ·rw [if_pos c17] at H
     have c17b0 : decide (x16_1 < (t149.length : Int)) = true := decide_eq_true c17
     clear c17
     by_cases c18 : 0 ≤ x16_1
     ·rw [if_pos c18] at H
      have c18b0 : decide (0 ≤ x16_1) = true := decide_eq_true c18
      clear c18
      by_cases c19 : x16_1 < (t149.length : Int)
      ·rw [if_pos c19] at H
       have c19b0 : decide (x16_1 < (t149.length : Int)) = true := decide_eq_true c19
       clear c19
       replace H := Option.bind_eq_some_iff.mp H
       obtain ⟨t153, A200, H⟩ := H
       try dsimp only at H
       have A20 := Amg24 A200
       clear A200
       by_cases c21 : t153 = true
       ·subst c21
        rw [if_pos rfl] at H
        by_cases c22 : (rdOf ByteArray.empty t149 x16_1).toList = x142000_1.toList
        ·rw [if_pos c22] at H
         have c22b0 : ((rdOf ByteArray.empty t149 x16_1).toList == x142000_1.toList) = true := beq_iff_eq.mpr c22
         have c22b1 : ((rdOf ByteArray.empty t149 x16_1).toList != x142000_1.toList) = false := bne_eq_false_iff_eq.mpr c22
         clear c22
         have H' := Amg24 H
         clear H
         have p152 : 0 ≤ (x16_1 : Int) := of_decide_eq_true (by first | (with_reducible assumption) | assumption)
         have q152 : x16_1 < (t149.length : Int) := of_decide_eq_true (by first | (with_reducible assumption) | assumption)
         obtain ⟨ad152, e152, hx152_0⟩ := Kd.at_string (Kd.R_reads' HO_14.out).2.2 x16_1 p152 q152
         cases e152
         replace p152 := eq_true p152
         replace q152 := eq_true q152
         have hcz23_0 : wr.cell? ⟨gb141, 0, none⟩ = some (.string x142000_1) := (kcg24 BK141.out 0).trans rfl
         have hcz23_1 : wr.cell? ⟨gb141, 1, none⟩ = some (.string a0_1) := (kcg24 BK141.out 1).trans rfl
         have hfz23_0 := kzg24 BK141.out 0
         have hfz23_1 := kzg24 BK141.out 1
         go_wp2_with (first | ((with_reducible refine gate_callee (f:=20) rfl ?_); refine goesL_ (some 22) rfl rfl Try.func20 (by kernel_rfl) rfl #[.agg #[.string x142000_1, .string a0_1], .string (rdOf ByteArray.empty t149 x16_1)] rfl (by (try simp only [mag24, mcg24, mng24]); first | done | rfl | (simp only [ldg24, lt_g24]; rfl)) ?_; (with_reducible refine (span_Has.calls k1 x142000_1 a0_1 (rdOf ByteArray.empty t149 x16_1) true _ A20.out).mono ?_); rintro e w24 ⟨rfl, hb⟩; refine ⟨_, rfl, ?_⟩; replace HO_5 := Amg24 (Rbg24 (by (with_reducible repeat first | apply Rag24 | apply Rng24 | apply Rdg24); exact HO_5.out) hb); replace HO_14 := Amg24 (Rbg24 (by (with_reducible repeat first | apply Rag24 | apply Rng24 | apply Rdg24); exact HO_14.out) hb); replace BK141 := Amg24 (kbg24 (g:=gb141) (o:=.cells #[.string x142000_1, .string a0_1] 26 (0, 0)) (by (with_reducible repeat first | apply kng24 | apply kdg24 | apply kag24); exact BK141.out) hb); replace HB := Amg24 (bpg24 (by repeat (first | (with_reducible first | exact HB.out | apply bag24 | apply bng24 | apply bdg24 | refine bsg24 ?_ GE141.out) | exact HB.out)) hb); (try clear hb); (try clear hb2); (try clear hk); (try clear hi); have hcz25_0 : w24.cell? ⟨gb141, 0, none⟩ = some (.string x142000_1) := (kcg24 BK141.out 0).trans rfl; have hcz25_1 : w24.cell? ⟨gb141, 1, none⟩ = some (.string a0_1) := (kcg24 BK141.out 1).trans rfl; have hfz25_0 := kzg24 BK141.out 0; have hfz25_1 := kzg24 BK141.out 1))
         go_roundg k1
         case measure => have := HK1.out; omega
         case rel => exact ⟨(x5_1), (wrap64 (x16_1 + 1)), (x142000_1), (by first | rfl | (simp; done) | (simp [*]; done)), H', ⟨by have := HK1.out; omega⟩, ⟨by (with_reducible repeat first | apply Rag24 | apply Rng24 | apply Rdg24); exact HO_5.out⟩, ⟨by (with_reducible repeat first | apply Rag24 | apply Rng24 | apply Rdg24); exact HO_14.out⟩, ⟨by (with_reducible repeat first | apply kng24 | apply kdg24 | apply kag24); exact BK141.out⟩, ⟨by repeat (first | (with_reducible first | exact HB.out | apply bag24 | apply bng24 | apply bdg24 | refine bsg24 ?_ GE141.out) | exact HB.out)⟩⟩
        ·rw [if_neg c22] at H
         have c22b0 : ((rdOf ByteArray.empty t149 x16_1).toList == x142000_1.toList) = false := beq_eq_false_iff_ne.mpr c22
         have c22b1 : ((rdOf ByteArray.empty t149 x16_1).toList != x142000_1.toList) = true := bne_iff_ne.mpr c22
         by_cases c26 : x5_1.length < 4398046511104
         ·rw [if_pos c26] at H
          have LMc26 := Amg24 c26
          clear c26
          obtain ⟨y154, hy154⟩ : ∃ y_ : List (S26), y_ = (x5_1 ++ [(⟨x142000_1, rdOf ByteArray.empty t149 x16_1⟩ : S26)]) := ⟨_, rfl⟩
          replace H : (span_Cut.l0 k1 y154 t149 (t149.length : Int) (wrap64 (x16_1 + 1)) (rdOf ByteArray.empty t149 x16_1) a0_1) = some r := by first | (rw [hy154]; with_reducible exact H) | (have H2_ := (Option.bind_some _ _).symm.trans H; rw [hy154]; with_reducible exact H2_) | (have H2_ := (Option.bind_some _ _).symm.trans H; with_reducible exact H2_) | with_reducible exact H | (rw [hy154]; exact H) | exact H
          have Ny154 := Amg24 hy154
          clear hy154
          have H' := Amg24 H
          clear H
          have p152 : 0 ≤ (x16_1 : Int) := of_decide_eq_true (by first | (with_reducible assumption) | assumption)
          have q152 : x16_1 < (t149.length : Int) := of_decide_eq_true (by first | (with_reducible assumption) | assumption)
          obtain ⟨ad152, e152, hx152_0⟩ := Kd.at_string (Kd.R_reads' HO_14.out).2.2 x16_1 p152 q152
          cases e152
          replace p152 := eq_true p152
          replace q152 := eq_true q152
          have hcz27_0 : wr.cell? ⟨gb141, 0, none⟩ = some (.string x142000_1) := (kcg24 BK141.out 0).trans rfl
          have hcz27_1 : wr.cell? ⟨gb141, 1, none⟩ = some (.string a0_1) := (kcg24 BK141.out 1).trans rfl
          have hfz27_0 := kzg24 BK141.out 0
          have hfz27_1 := kzg24 BK141.out 1
          go_wp2_with (first | ((with_reducible refine gate_callee (f:=20) rfl ?_); refine goesL_ (some 22) rfl rfl Try.func20 (by kernel_rfl) rfl #[.agg #[.string x142000_1, .string a0_1], .string (rdOf ByteArray.empty t149 x16_1)] rfl (by (try simp only [mag24, mcg24, mng24]); first | done | rfl | (simp only [ldg24, lt_g24]; rfl)) ?_; (with_reducible refine (span_Has.calls k1 x142000_1 a0_1 (rdOf ByteArray.empty t149 x16_1) true _ A20.out).mono ?_); rintro e w28 ⟨rfl, hb⟩; refine ⟨_, rfl, ?_⟩; replace HO_5 := Amg24 (Rbg24 (by (with_reducible repeat first | apply Rag24 | apply Rng24 | apply Rdg24); exact HO_5.out) hb); replace HO_14 := Amg24 (Rbg24 (by (with_reducible repeat first | apply Rag24 | apply Rng24 | apply Rdg24); exact HO_14.out) hb); replace BK141 := Amg24 (kbg24 (g:=gb141) (o:=.cells #[.string x142000_1, .string a0_1] 26 (0, 0)) (by (with_reducible repeat first | apply kng24 | apply kdg24 | apply kag24); exact BK141.out) hb); replace HB := Amg24 (bpg24 (by repeat (first | (with_reducible first | exact HB.out | apply bag24 | apply bng24 | apply bdg24 | refine bsg24 ?_ GE141.out) | exact HB.out)) hb); (try clear hb); (try clear hb2); (try clear hk); (try clear hi); have hcz29_0 : w28.cell? ⟨gb141, 0, none⟩ = some (.string x142000_1) := (kcg24 BK141.out 0).trans rfl; have hcz29_1 : w28.cell? ⟨gb141, 1, none⟩ = some (.string a0_1) := (kcg24 BK141.out 1).trans rfl; have hfz29_0 := kzg24 BK141.out 0; have hfz29_1 := kzg24 BK141.out 1) | ((with_reducible refine gate_builtin (b:=.append) (xs:=#[.tmp 30, .tmp 35]) rfl ?_); at_builtin; refine Kd.R_append k26 (w0:=w) w.heap.size rfl (.tmp 30) (.tmp 35) 22 26 (.agg #[(.string ⟨#[]⟩), (.string ⟨#[]⟩)]) 32 rfl Try.underlying22 infoCut26 rfl (by decide) (by omega) u5 x5_1 (⟨x142000_1, rdOf ByteArray.empty t149 x16_1⟩ : S26) [.string x142000_1, .string (rdOf ByteArray.empty t149 x16_1)] (fun k_ => k_ ≠ gb141) (fun _ => False) rfl rfl ?aP (fun _ hk => hk.elim) ?aF ?aO ?aB ?aS ?aL ?_; (case aP => exact k26_mkM _ _ _ (⟨x142000_1, rdOf ByteArray.empty t149 x16_1⟩ : S26)); (case aB => exact (by repeat (first | (with_reducible first | exact HB.out | apply bag24 | apply bng24 | apply bdg24 | refine bsg24 ?_ GE141.out) | exact HB.out))); (case aF => exact (fun k_ hk => Kd.freshB (g:=gb141) (o:=.cells #[.string x142000_1, .string a0_1] 26 (0, 0)) (by (with_reducible repeat first | apply kng24 | apply kdg24 | apply kag24); exact BK141.out) k_ hk)); (case aO => exact (by (with_reducible repeat first | apply Rag24 | apply Rng24 | apply Rdg24); exact HO_5.out)); (case aS => exact (bzg24 (by repeat (first | (with_reducible first | exact HB.out | apply bag24 | apply bng24 | apply bdg24 | refine bsg24 ?_ GE141.out) | exact HB.out)))); (case aL => have := LMc26.out; omega); intro v155 w30 ho hb hg hat; rw [← Ny154.out] at ho; have n0_ := Amg24 (Kd.R_over' (by (with_reducible repeat first | apply Rag24 | apply Rng24 | apply Rdg24); exact HO_14.out) (Kd.R_typed (by (with_reducible repeat first | apply Rag24 | apply Rng24 | apply Rdg24); exact HO_5.out)) (by decide) hg); have n1_ := Amg24 (blk_grown (g:=gb141) (o:=.cells #[.string x142000_1, .string a0_1] 26 (0, 0)) (by (with_reducible repeat first | apply kng24 | apply kdg24 | apply kag24); exact BK141.out) hg (Kd.R_away HO_5.out (fun _ hk => hk))); have n2_ := Amg24 (hb); have n3_ := Amg24 (ho); clear HO_14; clear BK141; clear HB; clear HO_5; have HO_14 := n0_; have BK141 := n1_; have HB := n2_; have HO156 := n3_; clear n0_ n1_ n2_ n3_; clear ho hb hg hat; have hcz31_0 : w30.cell? ⟨gb141, 0, none⟩ = some (.string x142000_1) := (kcg24 BK141.out 0).trans rfl; have hcz31_1 : w30.cell? ⟨gb141, 1, none⟩ = some (.string a0_1) := (kcg24 BK141.out 1).trans rfl; have hfz31_0 := kzg24 BK141.out 0; have hfz31_1 := kzg24 BK141.out 1))
          go_roundg k1
          case measure => have := HK1.out; omega
          case rel => exact ⟨(y154), (wrap64 (x16_1 + 1)), (rdOf ByteArray.empty t149 x16_1), (by first | rfl | (simp; done) | (simp [*]; done)), H', ⟨by have := HK1.out; omega⟩, ⟨by (with_reducible repeat first | apply Rag24 | apply Rng24 | apply Rdg24); exact Rog24 (Rfg24 (p:=⟨gb141, 0, none⟩) (Rog24 HO156.out (fun k_ hk => (⟨hk, hk⟩ : _ ∧ k_ ≠ gb141))) (fun _ h=>h.2) (.string (rdOf ByteArray.empty t149 x16_1))) (fun _ hk => hk.1)⟩, ⟨by (with_reducible repeat first | apply Rag24 | apply Rng24 | apply Rdg24); exact Rog24 (Rfg24 (p:=⟨gb141, 0, none⟩) (Ryg24 HO_14.out BK141.out (by decide)) (fun _ h=>h.2) (.string (rdOf ByteArray.empty t149 x16_1))) (fun _ hk => trivial)⟩, ⟨by (with_reducible repeat first | apply kng24 | apply kdg24 | apply kag24); refine blk_put (cs:=#[.string x142000_1, .string a0_1]) ?_ 0 _ rfl; (with_reducible repeat first | apply kng24 | apply kdg24 | apply kag24); exact BK141.out⟩, ⟨by repeat (first | (with_reducible first | exact HB.out | apply bag24 | apply bng24 | apply bdg24 | refine bsg24 ?_ GE141.out) | exact HB.out)⟩⟩
         ·rw [if_neg c26] at H
          exact absurd H (by simp)
       ·replace c21 := Bool.eq_false_iff.mpr c21
        subst c21
        rw [if_neg (show ¬ (false = true) by decide)] at H
        have H' := Amg24 H
        clear H
        have p152 : 0 ≤ (x16_1 : Int) := of_decide_eq_true (by first | (with_reducible assumption) | assumption)
        have q152 : x16_1 < (t149.length : Int) := of_decide_eq_true (by first | (with_reducible assumption) | assumption)
        obtain ⟨ad152, e152, hx152_0⟩ := Kd.at_string (Kd.R_reads' HO_14.out).2.2 x16_1 p152 q152
        cases e152
        replace p152 := eq_true p152
        replace q152 := eq_true q152
        have hcz32_0 : wr.cell? ⟨gb141, 0, none⟩ = some (.string x142000_1) := (kcg24 BK141.out 0).trans rfl
        have hcz32_1 : wr.cell? ⟨gb141, 1, none⟩ = some (.string a0_1) := (kcg24 BK141.out 1).trans rfl
        have hfz32_0 := kzg24 BK141.out 0
        have hfz32_1 := kzg24 BK141.out 1
        go_wp2_with (first | ((with_reducible refine gate_callee (f:=20) rfl ?_); refine goesL_ (some 22) rfl rfl Try.func20 (by kernel_rfl) rfl #[.agg #[.string x142000_1, .string a0_1], .string (rdOf ByteArray.empty t149 x16_1)] rfl (by (try simp only [mag24, mcg24, mng24]); first | done | rfl | (simp only [ldg24, lt_g24]; rfl)) ?_; (with_reducible refine (span_Has.calls k1 x142000_1 a0_1 (rdOf ByteArray.empty t149 x16_1) false _ A20.out).mono ?_); rintro e w33 ⟨rfl, hb⟩; refine ⟨_, rfl, ?_⟩; replace HO_5 := Amg24 (Rbg24 (by (with_reducible repeat first | apply Rag24 | apply Rng24 | apply Rdg24); exact HO_5.out) hb); replace HO_14 := Amg24 (Rbg24 (by (with_reducible repeat first | apply Rag24 | apply Rng24 | apply Rdg24); exact HO_14.out) hb); replace BK141 := Amg24 (kbg24 (g:=gb141) (o:=.cells #[.string x142000_1, .string a0_1] 26 (0, 0)) (by (with_reducible repeat first | apply kng24 | apply kdg24 | apply kag24); exact BK141.out) hb); replace HB := Amg24 (bpg24 (by repeat (first | (with_reducible first | exact HB.out | apply bag24 | apply bng24 | apply bdg24 | refine bsg24 ?_ GE141.out) | exact HB.out)) hb); (try clear hb); (try clear hb2); (try clear hk); (try clear hi)))
        go_roundg k1
        case measure => have := HK1.out; omega
        case rel => exact ⟨(x5_1), (wrap64 (x16_1 + 1)), (x142000_1), (by first | rfl | (simp; done) | (simp [*]; done)), H', ⟨by have := HK1.out; omega⟩, ⟨by (with_reducible repeat first | apply Rag24 | apply Rng24 | apply Rdg24); exact HO_5.out⟩, ⟨by (with_reducible repeat first | apply Rag24 | apply Rng24 | apply Rdg24); exact HO_14.out⟩, ⟨by (with_reducible repeat first | apply kng24 | apply kdg24 | apply kag24); exact BK141.out⟩, ⟨by repeat (first | (with_reducible first | exact HB.out | apply bag24 | apply bng24 | apply bdg24 | refine bsg24 ?_ GE141.out) | exact HB.out)⟩⟩
      ·rw [if_neg c19] at H
       exact absurd H (by simp)
     ·rw [if_neg c18] at H
      exact absurd H (by simp)
    ·rw [if_neg c17] at H
     have c17b0 : decide (x16_1 < (t149.length : Int)) = false := decide_eq_false c17
     clear c17
     by_cases c34 : x5_1.length < 4398046511104
     ·rw [if_pos c34] at H
      have LMc34 := Amg24 c34
      clear c34
      obtain ⟨y157, hy157⟩ : ∃ y_ : List (S26), y_ = (x5_1 ++ [(⟨x142000_1, a0_1⟩ : S26)]) := ⟨_, rfl⟩
      replace H : (some y157) = some r := by first | (rw [hy157]; with_reducible exact H) | (have H2_ := (Option.bind_some _ _).symm.trans H; rw [hy157]; with_reducible exact H2_) | (have H2_ := (Option.bind_some _ _).symm.trans H; with_reducible exact H2_) | with_reducible exact H | (rw [hy157]; exact H) | exact H
      have Ny157 := Amg24 hy157
      clear hy157
      obtain rfl := Option.some.inj H
      have hcz35_0 : wr.cell? ⟨gb141, 0, none⟩ = some (.string x142000_1) := (kcg24 BK141.out 0).trans rfl
      have hcz35_1 : wr.cell? ⟨gb141, 1, none⟩ = some (.string a0_1) := (kcg24 BK141.out 1).trans rfl
      have hfz35_0 := kzg24 BK141.out 0
      have hfz35_1 := kzg24 BK141.out 1
      go_wp2_with (first | ((with_reducible refine gate_builtin (b:=.append) (xs:=#[.tmp 40, .tmp 42]) rfl ?_); at_builtin; refine Kd.R_append k26 (w0:=w) w.heap.size rfl (.tmp 40) (.tmp 42) 22 26 (.agg #[(.string ⟨#[]⟩), (.string ⟨#[]⟩)]) 32 rfl Try.underlying22 infoCut26 rfl (by decide) (by omega) u5 x5_1 (⟨x142000_1, a0_1⟩ : S26) [.string x142000_1, .string a0_1] (fun k_ => k_ ≠ gb141) (fun _ => False) rfl rfl ?aP (fun _ hk => hk.elim) ?aF ?aO ?aB ?aS ?aL ?_; (case aP => exact k26_mkM _ _ _ (⟨x142000_1, a0_1⟩ : S26)); (case aB => exact (by repeat (first | (with_reducible first | exact HB.out | apply bag24 | apply bng24 | apply bdg24 | refine bsg24 ?_ GE141.out) | exact HB.out))); (case aF => exact (fun k_ hk => Kd.freshB (g:=gb141) (o:=.cells #[.string x142000_1, .string a0_1] 26 (0, 0)) (by (with_reducible repeat first | apply kng24 | apply kdg24 | apply kag24); exact BK141.out) k_ hk)); (case aO => exact (by (with_reducible repeat first | apply Rag24 | apply Rng24 | apply Rdg24); exact HO_5.out)); (case aS => exact (bzg24 (by repeat (first | (with_reducible first | exact HB.out | apply bag24 | apply bng24 | apply bdg24 | refine bsg24 ?_ GE141.out) | exact HB.out)))); (case aL => have := LMc34.out; omega); intro v158 w36 ho hb hg hat; rw [← Ny157.out] at ho; have n0_ := Amg24 (Kd.R_over' (by (with_reducible repeat first | apply Rag24 | apply Rng24 | apply Rdg24); exact HO_14.out) (Kd.R_typed (by (with_reducible repeat first | apply Rag24 | apply Rng24 | apply Rdg24); exact HO_5.out)) (by decide) hg); have n1_ := Amg24 (blk_grown (g:=gb141) (o:=.cells #[.string x142000_1, .string a0_1] 26 (0, 0)) (by (with_reducible repeat first | apply kng24 | apply kdg24 | apply kag24); exact BK141.out) hg (Kd.R_away HO_5.out (fun _ hk => hk))); have n2_ := Amg24 (hb); have n3_ := Amg24 (ho); clear HO_14; clear BK141; clear HB; clear HO_5; have HO_14 := n0_; have BK141 := n1_; have HB := n2_; have HO159 := n3_; clear n0_ n1_ n2_ n3_; clear ho hb hg hat))
      go_ret
      exact ⟨_, by first | rfl | (simp [errW_none, errW_some] <;> rfl) | (simp [*, errW_none, errW_some] <;> rfl), by (with_reducible repeat first | apply Rag24 | apply Rng24 | apply Rdg24); exact Rog24 HO159.out (fun _ hk => trivial), by repeat (first | (with_reducible first | exact HB.out | apply bag24 | apply bng24 | apply bdg24 | refine bsg24 ?_ GE141.out) | exact HB.out)⟩
     ·rw [if_neg c34] at H
      exact absurd H (by simp)
 ·replace c4 := Bool.eq_false_iff.mpr c4
  subst c4
  rw [if_neg (show ¬ (false = true) by decide)] at H
  obtain rfl := Option.some.inj H
  go_enter Try.func24, Try.ntmps24
  go_wp2_with (first | ((with_reducible refine gate_dst (N:=2) rfl ?_); refine box_event ?hg (N:=2) ?hd (cs:=#[.string a0_0, .string a0_1]) (t:=26) ?hr ?_; (case hd => rfl); (case hg => rfl); (case hr => first | (go_simp; done) | (go_simp; rfl)); intro gb141 hg w37 hbox hb; have BK141 := Amg24 (hbox); have GW141 := Amg24 ((by rw [hg]; exact (bzg24 (by repeat (first | (with_reducible first | exact HB.out | apply bag24 | apply bng24 | apply bdg24) | exact HB.out))) : w.heap.size ≤ gb141)); have GE141 := Amg24 ((by rw [hg]; exact (bzg24 (by repeat (first | (with_reducible first | exact HB.out | apply bag24 | apply bng24 | apply bdg24) | exact HB.out))) : w.heap.size ≤ gb141)); replace HB := Amg24 (bpg24 (by repeat (first | (with_reducible first | exact HB.out | apply bag24 | apply bng24 | apply bdg24) | exact HB.out)) hb); clear hb hbox hg; have hcz38_0 : w37.cell? ⟨gb141, 0, none⟩ = some (.string a0_0) := (kcg24 BK141.out 0).trans rfl; have hcz38_1 : w37.cell? ⟨gb141, 1, none⟩ = some (.string a0_1) := (kcg24 BK141.out 1).trans rfl; have hfz38_0 := kzg24 BK141.out 0; have hfz38_1 := kzg24 BK141.out 1) | ((with_reducible refine gate_callee (f:=16) rfl ?_); refine goesL_ (some 9) rfl rfl Try.func16 (by kernel_rfl) rfl #[.agg #[.string a0_0, .string a0_1]] rfl (by (try simp only [mag24, mcg24, mng24]); first | done | rfl | (simp only [ldg24, lt_g24]; rfl)) ?_; (with_reducible refine (span_Right.calls k a0_0 a0_1 false _ A3.out).mono ?_); rintro e w39 ⟨rfl, hb⟩; refine ⟨_, rfl, ?_⟩; replace BK141 := Amg24 (kbg24 (g:=gb141) (o:=.cells #[.string a0_0, .string a0_1] 26 (0, 0)) (by (with_reducible repeat first | apply kng24 | apply kdg24 | apply kag24); exact BK141.out) hb); replace HB := Amg24 (bpg24 (by repeat (first | (with_reducible first | exact HB.out | apply bag24 | apply bng24 | apply bdg24 | refine bsg24 ?_ GE141.out) | exact HB.out)) hb); (try clear hb); (try clear hb2); (try clear hk); (try clear hi)))
  go_ret
  exact ⟨_, by first | rfl | (simp [errW_none, errW_some] <;> rfl) | (simp [*, errW_none, errW_some] <;> rfl), by first | exact Kd.R_nil _ _ _ _ _ | exact Kd.N_nil _ _ _ _ _ | exact Kd.V_nil _ _ _ _ _ | exact Kd.Q_nil _ _ _ _ _ | exact Kd.S_nil _ _ _ _ _, by repeat (first | (with_reducible first | exact HB.out | apply bag24 | apply bng24 | apply bdg24 | refine bsg24 ?_ GE141.out) | exact HB.out)⟩

theorem Am27 : type_of% @Aside0.mk := @Aside0.mk
theorem ba27 : type_of% @below_alloc := @below_alloc
theorem bn27 : type_of% @pw_below_drewN := @pw_below_drewN
theorem bd27 : type_of% @below_drew1 := @below_drew1
theorem bs27 : type_of% @below_set := @below_set
theorem kn27 : type_of% @blk_drewN := @blk_drewN
theorem kd27 : type_of% @blk_drew := @blk_drew
theorem ka27 : type_of% @blk_alloc := @blk_alloc
theorem bz27 : type_of% @below_size := @below_size
theorem bp27 : type_of% @below_step := @below_step
theorem kc27 : type_of% @blk_cell := @blk_cell
theorem kz27 : type_of% @blk_frozen := @blk_frozen
/-! ### span_All: function 27 -/
def span_All.f  : Option (ByteArray × ByteArray) := some ((⟨#[]⟩ : ByteArray), (⟨#[]⟩ : ByteArray))
set_option maxHeartbeats 8000000 in
set_option maxRecDepth 100000 in
theorem span_All.calls  (r1 : ByteArray) (r2 : ByteArray) (w : World) (h : span_All.f  = some (r1, r2)) :
  Calls Try.prog 27 #[] w fun e w' => e = .returned (.agg #[.string r1, .string r2]) ∧ Below w.heap.size w w' := by
 have hu26 := Try.underlying26
 have HB := Am27 (Below.refl w.heap.size w)
 have H : (some ((⟨#[]⟩ : ByteArray), (⟨#[]⟩ : ByteArray))) = some (r1, r2) := h
 clear h
 simp only [Option.some.injEq, Prod.mk.injEq] at H
 obtain ⟨rfl, rfl⟩ := H
 go_enter Try.func27, Try.ntmps27
 go_wp2_with (first | ((with_reducible refine gate_dst (N:=0) rfl ?_); refine box_event ?hg (N:=0) ?hd (cs:=#[.string (⟨#[]⟩ : ByteArray), .string (⟨#[]⟩ : ByteArray)]) (t:=26) ?hr ?_; (case hd => rfl); (case hg => rfl); (case hr => first | (go_simp; done) | (go_simp; rfl)); intro gb162 hg w1 hbox hb; have BK162 := Am27 (hbox); have GW162 := Am27 ((by rw [hg]; exact (bz27 (by repeat (first | (with_reducible first | exact HB.out | apply ba27 | apply bn27 | apply bd27) | exact HB.out))) : w.heap.size ≤ gb162)); have GE162 := Am27 ((by rw [hg]; exact (bz27 (by repeat (first | (with_reducible first | exact HB.out | apply ba27 | apply bn27 | apply bd27) | exact HB.out))) : w.heap.size ≤ gb162)); replace HB := Am27 (bp27 (by repeat (first | (with_reducible first | exact HB.out | apply ba27 | apply bn27 | apply bd27) | exact HB.out)) hb); clear hb hbox hg; have hcz2_0 : w1.cell? ⟨gb162, 0, none⟩ = some (.string (⟨#[]⟩ : ByteArray)) := (kc27 BK162.out 0).trans rfl; have hcz2_1 : w1.cell? ⟨gb162, 1, none⟩ = some (.string (⟨#[]⟩ : ByteArray)) := (kc27 BK162.out 1).trans rfl; have hfz2_0 := kz27 BK162.out 0; have hfz2_1 := kz27 BK162.out 1))
 refine bodyPost_ret (results_cell_row rfl _ _ gb162 26 #[.string (⟨#[]⟩ : ByteArray), .string (⟨#[]⟩ : ByteArray)] (0, 0) _ rfl (by (with_reducible repeat first | apply kn27 | apply kd27 | apply ka27); refine blk_put (cs:=#[.string (⟨#[]⟩ : ByteArray), .string (⟨#[]⟩ : ByteArray)]) ?_ 1 _ rfl; (with_reducible repeat first | apply kn27 | apply kd27 | apply ka27); refine blk_put (cs:=#[.string (⟨#[]⟩ : ByteArray), .string (⟨#[]⟩ : ByteArray)]) ?_ 0 _ rfl; (with_reducible repeat first | apply kn27 | apply kd27 | apply ka27); exact BK162.out) Try.underlying26 rfl (by kernel_rfl)) rfl ?_
 exact ⟨by first | rfl | (simp [errW_none, errW_some] <;> rfl) | (simp [*, errW_none, errW_some] <;> rfl), by repeat (first | (with_reducible first | exact HB.out | apply ba27 | apply bn27 | apply bd27 | refine bs27 ?_ GE162.out) | exact HB.out)⟩

theorem Am8 : type_of% @Aside0.mk := @Aside0.mk
theorem Ra8 : type_of% @Kd.R_alloc := @Kd.R_alloc
theorem Rn8 : type_of% @Kd.R_drewN := @Kd.R_drewN
theorem Rd8 : type_of% @Kd.R_drew := @Kd.R_drew
theorem Rf8 : type_of% @Kd.R_far := @Kd.R_far
theorem Ro8 : type_of% @Kd.R_mono := @Kd.R_mono
theorem Rb8 : type_of% @Kd.R_below := @Kd.R_below
theorem Ry8 : type_of% @Kd.R_types := @Kd.R_types
theorem ba8 : type_of% @below_alloc := @below_alloc
theorem bn8 : type_of% @pw_below_drewN := @pw_below_drewN
theorem bd8 : type_of% @below_drew1 := @below_drew1
theorem bs8 : type_of% @below_set := @below_set
theorem kn8 : type_of% @blk_drewN := @blk_drewN
theorem kd8 : type_of% @blk_drew := @blk_drew
theorem ka8 : type_of% @blk_alloc := @blk_alloc
theorem kb8 : type_of% @blk_below := @blk_below
theorem Rl8 : type_of% @Kd.R_lower := @Kd.R_lower
theorem bz8 : type_of% @below_size := @below_size
theorem bp8 : type_of% @below_step := @below_step
theorem kc8 : type_of% @blk_cell := @blk_cell
theorem kz8 : type_of% @blk_frozen := @blk_frozen
theorem ma8 : type_of% @List.map_toArray := @List.map_toArray
theorem mc8 : type_of% @List.map_cons := @List.map_cons
theorem mn8 : type_of% @List.map_nil := @List.map_nil
theorem ld8 : type_of% @List.length_drop := @List.length_drop
theorem lt_8 : type_of% @List.length_take := @List.length_take
/-! ### watershedlaw04_awake: function 8 -/
def watershedlaw04_awake.f (k : Nat)  : Option (Bool) := (span_All.f).bind fun bt163 => ((span_Cut.f k bt163.1 bt163.2 (([(⟨#[109]⟩ : ByteArray)] : List ByteArray))).bind fun t168 => ((span_Meet.f k (⟨#[97]⟩ : ByteArray) (⟨#[99]⟩ : ByteArray) (⟨#[98]⟩ : ByteArray) (⟨#[]⟩ : ByteArray)).bind fun bt171 => (if (t168.length : Int) = 2 then (if 0 < (t168.length : Int) then (if ((((rd_T26 t168 0).f0).toList) == ([] : List UInt8) && ((((rd_T26 t168 0).f1).toList) == ([109] : List UInt8))) = true then (if 1 < (t168.length : Int) then (if ((((rd_T26 t168 1).f0).toList) == ([109] : List UInt8) && ((((rd_T26 t168 1).f1).toList) == ([] : List UInt8))) = true then (if bt171.2.2 = true then (if (bt171.1.toList == ([98] : List UInt8) && (bt171.2.1.toList == ([99] : List UInt8))) = true then ((span_Parts.f k t168).bind fun t177 => (if t177 = true then ((span_Key.f k (⟨#[97, 49]⟩ : ByteArray)).bind fun t178 => (if t178 = true then ((span_Key.f k (⟨#[65]⟩ : ByteArray)).bind fun t179 => (some (!t179))) else (none))) else (none))) else (none)) else (none)) else (none)) else (none)) else (none)) else (none)) else (none))))
theorem watershedlaw04_awake.mono : ∀ k, LeO (watershedlaw04_awake.f k ) (watershedlaw04_awake.f (k + 1) ) := by
 intro  k
 unfold watershedlaw04_awake.f
 repeat' first
   | (with_reducible exact span_Cut.mono _ _ _ _)
   | (with_reducible exact span_Key.mono _ _)
   | (with_reducible exact span_Meet.mono _ _ _ _ _)
   | (with_reducible exact span_Parts.mono _ _)
   | (with_reducible exact LeO.refl _)
   | (with_reducible exact LeO.none _)
   | (with_reducible refine LeO.ite ?_ ?_)
   | (with_reducible refine LeO.bind ?_ (fun _ => ?_))
   | exact span_Cut.mono _ _ _ _
   | exact span_Key.mono _ _
   | exact span_Meet.mono _ _ _ _ _
   | exact span_Parts.mono _ _
   | exact LeO.none _
   | refine LeO.ite ?_ ?_
   | refine LeO.bind ?_ (fun _ => ?_)
set_option maxHeartbeats 8000000 in
set_option maxRecDepth 100000 in
theorem watershedlaw04_awake.calls (k : Nat)  (r : Bool) (w : World) (h : watershedlaw04_awake.f k  = some r) :
  Calls Try.prog 8 #[] w fun e w' => e = .returned (.bool r) ∧ Below w.heap.size w w' := by
 have hu26 := Try.underlying26
 have HB := Am8 (Below.refl w.heap.size w)
 have H : ((span_All.f).bind fun bt163 => ((span_Cut.f k bt163.1 bt163.2 (([(⟨#[109]⟩ : ByteArray)] : List ByteArray))).bind fun t168 => ((span_Meet.f k (⟨#[97]⟩ : ByteArray) (⟨#[99]⟩ : ByteArray) (⟨#[98]⟩ : ByteArray) (⟨#[]⟩ : ByteArray)).bind fun bt171 => (if (t168.length : Int) = 2 then (if 0 < (t168.length : Int) then (if ((((rd_T26 t168 0).f0).toList) == ([] : List UInt8) && ((((rd_T26 t168 0).f1).toList) == ([109] : List UInt8))) = true then (if 1 < (t168.length : Int) then (if ((((rd_T26 t168 1).f0).toList) == ([109] : List UInt8) && ((((rd_T26 t168 1).f1).toList) == ([] : List UInt8))) = true then (if bt171.2.2 = true then (if (bt171.1.toList == ([98] : List UInt8) && (bt171.2.1.toList == ([99] : List UInt8))) = true then ((span_Parts.f k t168).bind fun t177 => (if t177 = true then ((span_Key.f k (⟨#[97, 49]⟩ : ByteArray)).bind fun t178 => (if t178 = true then ((span_Key.f k (⟨#[65]⟩ : ByteArray)).bind fun t179 => (some (!t179))) else (none))) else (none))) else (none)) else (none)) else (none)) else (none)) else (none)) else (none)) else (none))))) = some r := h
 clear h
 replace H := Option.bind_eq_some_iff.mp H
 obtain ⟨⟨t163, t164⟩, A10, H⟩ := H
 try dsimp only at H
 have A1 := Am8 A10
 clear A10
 obtain ⟨y165, hy165⟩ : ∃ y_ : List ByteArray, y_ = (([(⟨#[109]⟩ : ByteArray)] : List ByteArray)) := ⟨_, rfl⟩
 replace H : ((span_Cut.f k t163 t164 y165).bind fun t168 => ((span_Meet.f k (⟨#[97]⟩ : ByteArray) (⟨#[99]⟩ : ByteArray) (⟨#[98]⟩ : ByteArray) (⟨#[]⟩ : ByteArray)).bind fun bt171 => (if (t168.length : Int) = 2 then (if 0 < (t168.length : Int) then (if ((((rd_T26 t168 0).f0).toList) == ([] : List UInt8) && ((((rd_T26 t168 0).f1).toList) == ([109] : List UInt8))) = true then (if 1 < (t168.length : Int) then (if ((((rd_T26 t168 1).f0).toList) == ([109] : List UInt8) && ((((rd_T26 t168 1).f1).toList) == ([] : List UInt8))) = true then (if bt171.2.2 = true then (if (bt171.1.toList == ([98] : List UInt8) && (bt171.2.1.toList == ([99] : List UInt8))) = true then ((span_Parts.f k t168).bind fun t177 => (if t177 = true then ((span_Key.f k (⟨#[97, 49]⟩ : ByteArray)).bind fun t178 => (if t178 = true then ((span_Key.f k (⟨#[65]⟩ : ByteArray)).bind fun t179 => (some (!t179))) else (none))) else (none))) else (none)) else (none)) else (none)) else (none)) else (none)) else (none)) else (none)))) = some r := by first | (rw [hy165]; with_reducible exact H) | (have H2_ := (Option.bind_some _ _).symm.trans H; rw [hy165]; with_reducible exact H2_) | (have H2_ := (Option.bind_some _ _).symm.trans H; with_reducible exact H2_) | with_reducible exact H | (rw [hy165]; exact H) | exact H
 have Ny165 := Am8 hy165
 clear hy165
 replace H := Option.bind_eq_some_iff.mp H
 obtain ⟨t168, A20, H⟩ := H
 try dsimp only at H
 have A2 := Am8 A20
 clear A20
 replace H := Option.bind_eq_some_iff.mp H
 obtain ⟨⟨t171, t172, t173⟩, A30, H⟩ := H
 try dsimp only at H
 have A3 := Am8 A30
 clear A30
 by_cases c4 : (t168.length : Int) = 2
 ·rw [if_pos c4] at H
  have c4b0 : ((t168.length : Int) == 2) = true := beq_iff_eq.mpr c4
  have c4b1 : ((t168.length : Int) != 2) = false := bne_eq_false_iff_eq.mpr c4
  clear c4
  by_cases c5 : 0 < (t168.length : Int)
  ·rw [if_pos c5] at H
   have c5b0 : decide (0 < (t168.length : Int)) = true := decide_eq_true c5
   have c5b1 : decide (0 < t168.length) = true := decide_eq_true (by omega)
   clear c5
   by_cases c6 : ((((rd_T26 t168 0).f0).toList) == ([] : List UInt8) && ((((rd_T26 t168 0).f1).toList) == ([109] : List UInt8))) = true
   ·rw [if_pos c6] at H
    have c6b0 : ((((rd_T26 t168 0).f0).toList) == ([] : List UInt8) && ((((rd_T26 t168 0).f1).toList) == ([109] : List UInt8))) = true := c6
    (try (have c6b1 : decide ((((rd_T26 t168 0).f0).toList) = ([] : List UInt8) && ((((rd_T26 t168 0).f1).toList) == ([109] : List UInt8))) = true := by simpa using c6))
    (try (have c6b2 : ((((rd_T26 t168 0).f0).toList) == ([] : List UInt8) && ((((rd_T26 t168 0).f1).toList) == ([109] : List UInt8))) = true := by simpa using c6))
    (try (have c6b3 : ((((rd_T26 t168 0).f0).toList).isEmpty && ((((rd_T26 t168 0).f1).toList) == ([109] : List UInt8))) = true := by simpa using c6))
    clear c6
    by_cases c7 : 1 < (t168.length : Int)
    ·rw [if_pos c7] at H
     have c7b0 : decide (1 < (t168.length : Int)) = true := decide_eq_true c7
     have c7b1 : decide (1 < t168.length) = true := decide_eq_true (by omega)
     clear c7
     by_cases c8 : ((((rd_T26 t168 1).f0).toList) == ([109] : List UInt8) && ((((rd_T26 t168 1).f1).toList) == ([] : List UInt8))) = true
     ·rw [if_pos c8] at H
      have c8b0 : ((((rd_T26 t168 1).f0).toList) == ([109] : List UInt8) && ((((rd_T26 t168 1).f1).toList) == ([] : List UInt8))) = true := c8
      (try (have c8b1 : decide ((((rd_T26 t168 1).f0).toList) = ([109] : List UInt8) && ((((rd_T26 t168 1).f1).toList) == ([] : List UInt8))) = true := by simpa using c8))
      (try (have c8b2 : ((((rd_T26 t168 1).f0).toList) == ([109] : List UInt8) && ((((rd_T26 t168 1).f1).toList) == ([] : List UInt8))) = true := by simpa using c8))
      (try (have c8b3 : ((((rd_T26 t168 1).f0).toList) == ([109] : List UInt8) && ((((rd_T26 t168 1).f1).toList).isEmpty)) = true := by simpa using c8))
      clear c8
      by_cases c9 : t173 = true
      ·subst c9
       rw [if_pos rfl] at H
       by_cases c10 : (t171.toList == ([98] : List UInt8) && (t172.toList == ([99] : List UInt8))) = true
       ·rw [if_pos c10] at H
        have c10b0 : (t171.toList == ([98] : List UInt8) && (t172.toList == ([99] : List UInt8))) = true := c10
        (try (have c10b1 : decide (t171.toList = ([98] : List UInt8) && (t172.toList == ([99] : List UInt8))) = true := by simpa using c10))
        (try (have c10b2 : (t171.toList == ([98] : List UInt8) && (t172.toList == ([99] : List UInt8))) = true := by simpa using c10))
        clear c10
        replace H := Option.bind_eq_some_iff.mp H
        obtain ⟨t177, A110, H⟩ := H
        try dsimp only at H
        have A11 := Am8 A110
        clear A110
        by_cases c12 : t177 = true
        ·subst c12
         rw [if_pos rfl] at H
         replace H := Option.bind_eq_some_iff.mp H
         obtain ⟨t178, A130, H⟩ := H
         try dsimp only at H
         have A13 := Am8 A130
         clear A130
         by_cases c14 : t178 = true
         ·subst c14
          rw [if_pos rfl] at H
          replace H := Option.bind_eq_some_iff.mp H
          obtain ⟨t179, A150, H⟩ := H
          try dsimp only at H
          have A15 := Am8 A150
          clear A150
          obtain rfl := Option.some.inj H
          go_enter Try.func8, Try.ntmps8
          go_wp2_with (first | ((with_reducible refine gate_callee (f:=27) rfl ?_); refine goesL_ (some 4) rfl rfl Try.func27 (by kernel_rfl) rfl #[] rfl (by (try simp only [ma8, mc8, mn8]); first | done | rfl | (simp only [ld8, lt_8]; rfl)) ?_; (with_reducible refine (span_All.calls  t163 t164 _ A1.out).mono ?_); rintro e w16 ⟨rfl, hb⟩; refine ⟨_, rfl, ?_⟩; replace HB := Am8 (bp8 (by repeat (first | (with_reducible first | exact HB.out | apply ba8 | apply bn8 | apply bd8) | exact HB.out)) hb); (try clear hb); (try clear hb2); (try clear hk); (try clear hi)) | ((with_reducible refine gate_dst (N:=5) rfl ?_); refine Kd.R_lit Kd.string _ 9 ?hg (N:=5) ?hd (xs:=([(⟨#[109]⟩ : ByteArray)] : List ByteArray)) (inner:=[.string (⟨#[109]⟩ : ByteArray)]) (ok:=fun _ => True) (okp:=fun _ => True) ?hr ?hp (fun _ hk => hk) trivial (Below.refl _ _) (Nat.le_refl _) (by simp) ?_; (case hd => rfl); (case hg => rfl); (case hr => first | (go_simp; done) | (go_simp; rfl)); (case hp => exact (Reps.one (show Kd.M Kd.string _ _ _ (⟨#[109]⟩ : ByteArray) [.string (⟨#[109]⟩ : ByteArray)] from rfl) (Reps.none _ _))); intro v166 w17 ho18 hb hg_ hnew_; clear hg_ hnew_; (first | rw [← Ny165.out] at ho18 | (simp only [Int.reduceToNat] at ho18; rw [← Ny165.out] at ho18)); have HO167 := Am8 (Rl8 ho18 (bz8 (by repeat (first | (with_reducible first | exact HB.out | apply ba8 | apply bn8 | apply bd8) | exact HB.out)))); replace HB := Am8 (bp8 (by repeat (first | (with_reducible first | exact HB.out | apply ba8 | apply bn8 | apply bd8) | exact HB.out)) hb); clear hb ho18; obtain ⟨Ao19, co19, eo19⟩ := Kd.R_slice HO167.out; subst eo19) | ((with_reducible refine gate_callee (f:=24) rfl ?_); refine goesL_ (some 6) rfl rfl Try.func24 (by kernel_rfl) rfl #[.agg #[.string t163, .string t164], .slice Ao19 y165.length co19] rfl (by (try simp only [ma8, mc8, mn8]); first | done | rfl | (simp only [ld8, lt_8]; rfl)) ?_; (with_reducible refine (span_Cut.calls k t163 t164 _ _ y165 t168 _ ?side1 ?side2 A2.out).mono ?_); (case side1 => repeat (first | exact (Kd.R_reads' HO167.out).2.2 | (with_reducible refine Kd.C_alloc ?_ _) | (with_reducible refine Kd.C_drewN ?_ _) | (with_reducible refine Kd.C_drew ?_))); (case side2 => exact (Kd.R_reads' HO167.out).2.1); rintro e w20 ⟨v169, rfl, ho0, hb⟩; refine ⟨_, rfl, ?_⟩; replace HO167 := Am8 (Rb8 (by (with_reducible repeat first | apply Ra8 | apply Rn8 | apply Rd8); exact HO167.out) hb); have HO170 := Am8 (Rl8 ho0 (bz8 (by repeat (first | (with_reducible first | exact HB.out | apply ba8 | apply bn8 | apply bd8) | exact HB.out)))); replace HB := Am8 (bp8 (by repeat (first | (with_reducible first | exact HB.out | apply ba8 | apply bn8 | apply bd8) | exact HB.out)) hb); (try clear hb); (try clear hb2); (try clear hk); (try clear hi); (try clear ho0)) | ((with_reducible refine gate_callee (f:=12) rfl ?_); refine goesL_ (some 10) rfl rfl Try.func12 (by kernel_rfl) rfl #[.agg #[.string (⟨#[97]⟩ : ByteArray), .string (⟨#[99]⟩ : ByteArray)], .agg #[.string (⟨#[98]⟩ : ByteArray), .string (⟨#[]⟩ : ByteArray)]] rfl (by (try simp only [ma8, mc8, mn8]); first | done | rfl | (simp only [ld8, lt_8]; rfl)) ?_; (with_reducible refine (span_Meet.calls k (⟨#[97]⟩ : ByteArray) (⟨#[99]⟩ : ByteArray) (⟨#[98]⟩ : ByteArray) (⟨#[]⟩ : ByteArray) t171 t172 true _ A3.out).mono ?_); rintro e w21 ⟨rfl, hb⟩; refine ⟨_, rfl, ?_⟩; replace HO167 := Am8 (Rb8 (by (with_reducible repeat first | apply Ra8 | apply Rn8 | apply Rd8); exact HO167.out) hb); replace HO170 := Am8 (Rb8 (by (with_reducible repeat first | apply Ra8 | apply Rn8 | apply Rd8); exact HO170.out) hb); replace HB := Am8 (bp8 (by repeat (first | (with_reducible first | exact HB.out | apply ba8 | apply bn8 | apply bd8) | exact HB.out)) hb); (try clear hb); (try clear hb2); (try clear hk); (try clear hi)) | ((with_reducible refine gate_dst (N:=2) rfl ?_); refine box_event ?hg (N:=2) ?hd (cs:=#[.string (⟨#[]⟩ : ByteArray), .string (⟨#[]⟩ : ByteArray)]) (t:=26) ?hr ?_; (case hd => rfl); (case hg => rfl); (case hr => first | (go_simp; done) | (go_simp; rfl)); intro gb174 hg w22 hbox hb; replace HO167 := Am8 (Rb8 (by (with_reducible repeat first | apply Ra8 | apply Rn8 | apply Rd8); exact HO167.out) hb); replace HO170 := Am8 (Rb8 (Kd.R_elderB (by (with_reducible repeat first | apply Ra8 | apply Rn8 | apply Rd8); exact HO170.out) gb174 (Nat.le_of_eq hg.symm)) hb); have BK174 := Am8 (hbox); have GW174 := Am8 ((by rw [hg]; exact (bz8 (by repeat (first | (with_reducible first | exact HB.out | apply ba8 | apply bn8 | apply bd8) | exact HB.out))) : w.heap.size ≤ gb174)); have GE174 := Am8 ((by rw [hg]; exact (bz8 (by repeat (first | (with_reducible first | exact HB.out | apply ba8 | apply bn8 | apply bd8) | exact HB.out))) : w.heap.size ≤ gb174)); replace HB := Am8 (bp8 (by repeat (first | (with_reducible first | exact HB.out | apply ba8 | apply bn8 | apply bd8) | exact HB.out)) hb); clear hb hbox hg; have hcz23_0 : w22.cell? ⟨gb174, 0, none⟩ = some (.string (⟨#[]⟩ : ByteArray)) := (kc8 BK174.out 0).trans rfl; have hcz23_1 : w22.cell? ⟨gb174, 1, none⟩ = some (.string (⟨#[]⟩ : ByteArray)) := (kc8 BK174.out 1).trans rfl; have hfz23_0 := kz8 BK174.out 0; have hfz23_1 := kz8 BK174.out 1; obtain ⟨Ao24, co24, eo24⟩ := Kd.R_slice HO170.out; subst eo24; have p175 : 0 ≤ (0 : Int) := (by omega); have q175 : 0 < (t168.length : Int) := of_decide_eq_true (by first | (with_reducible assumption) | assumption); obtain ⟨ad175, e175, hx175_0, hx175_1⟩ := at_T26 (Kd.R_reads' HO170.out).2.2 0 p175 q175; cases e175; have qi175 : (0 < t168.length) = True := eq_true (by omega); (try rw [show ((0 : Int)).toNat = 0 from rfl] at hx175_0); (try rw [show 0 * 2 = 0 from rfl] at hx175_0); (try rw [Addr.add_zero'] at hx175_0); (try rw [show ((0 : Int)).toNat = 0 from rfl] at hx175_1); (try rw [show 0 * 2 = 0 from rfl] at hx175_1); (try rw [Addr.add_zero'] at hx175_1); have hn175_0 : ad175.block ≠ gb174 := (by first | exact Kd.own_blk (Kd.R_ne HO170.out BK174.out (by decide)) | exact (HO170.out.1 _ rfl).2); have hn175_1 : ad175.block ≠ gb174 := (by first | exact Kd.own_blk (Kd.R_ne HO170.out BK174.out (by decide)) | exact (HO170.out.1 _ rfl).2); replace hx175_0 := (cell_far (p:=⟨gb174, 0, none⟩) (by first | (rw [add_block]; exact hn175_0) | (show (Addr.add _ _).block ≠ _; rw [add_block]; exact hn175_0) | exact hn175_0) (.string t171)).trans hx175_0; replace hx175_1 := (cell_far (p:=⟨gb174, 0, none⟩) (by first | (rw [add_block]; exact hn175_0) | (show (Addr.add _ _).block ≠ _; rw [add_block]; exact hn175_0) | exact hn175_0) (.string t171)).trans hx175_1; replace hx175_0 := (cell_far (p:=⟨gb174, 1, none⟩) (by first | (rw [add_block]; exact hn175_1) | (show (Addr.add _ _).block ≠ _; rw [add_block]; exact hn175_1) | exact hn175_1) (.string t172)).trans hx175_0; replace hx175_1 := (cell_far (p:=⟨gb174, 1, none⟩) (by first | (rw [add_block]; exact hn175_1) | (show (Addr.add _ _).block ≠ _; rw [add_block]; exact hn175_1) | exact hn175_1) (.string t172)).trans hx175_1; clear hn175_0; clear hn175_1; replace p175 := eq_true p175; replace q175 := eq_true q175; have p176 : 0 ≤ (1 : Int) := (by omega); have q176 : 1 < (t168.length : Int) := of_decide_eq_true (by first | (with_reducible assumption) | assumption); obtain ⟨ad176, e176, hx176_0, hx176_1⟩ := at_T26 (Kd.R_reads' HO170.out).2.2 1 p176 q176; obtain rfl : ad175 = ad176 := (by injection e176); (try simp only [show (1 : Int).toNat = 1 from rfl, Nat.reduceMul, Nat.reduceEqDiff, Go.Addr.add, ↓reduceIte] at hx176_0); (try simp only [show (1 : Int).toNat = 1 from rfl, Nat.reduceMul, Nat.reduceEqDiff, Go.Addr.add, ↓reduceIte] at hx176_1); have qi176 : (1 < t168.length) = True := eq_true (by omega); (try rw [show ((1 : Int)).toNat = 1 from rfl] at hx176_0); (try rw [show 1 * 2 = 2 from rfl] at hx176_0); (try rw [show ((1 : Int)).toNat = 1 from rfl] at hx176_1); (try rw [show 1 * 2 = 2 from rfl] at hx176_1); have hn176_0 : ad175.block ≠ gb174 := (by first | exact Kd.own_blk (Kd.R_ne HO170.out BK174.out (by decide)) | exact (HO170.out.1 _ rfl).2); have hn176_1 : ad175.block ≠ gb174 := (by first | exact Kd.own_blk (Kd.R_ne HO170.out BK174.out (by decide)) | exact (HO170.out.1 _ rfl).2); replace hx176_0 := (cell_far (p:=⟨gb174, 0, none⟩) (by first | (rw [add_block]; exact hn176_0) | (show (Addr.add _ _).block ≠ _; rw [add_block]; exact hn176_0) | exact hn176_0) (.string t171)).trans hx176_0; replace hx176_1 := (cell_far (p:=⟨gb174, 0, none⟩) (by first | (rw [add_block]; exact hn176_0) | (show (Addr.add _ _).block ≠ _; rw [add_block]; exact hn176_0) | exact hn176_0) (.string t171)).trans hx176_1; replace hx176_0 := (cell_far (p:=⟨gb174, 1, none⟩) (by first | (rw [add_block]; exact hn176_1) | (show (Addr.add _ _).block ≠ _; rw [add_block]; exact hn176_1) | exact hn176_1) (.string t172)).trans hx176_0; replace hx176_1 := (cell_far (p:=⟨gb174, 1, none⟩) (by first | (rw [add_block]; exact hn176_1) | (show (Addr.add _ _).block ≠ _; rw [add_block]; exact hn176_1) | exact hn176_1) (.string t172)).trans hx176_1; clear hn176_0; clear hn176_1; replace p176 := eq_true p176; replace q176 := eq_true q176) | (go_at_call 10; (with_reducible refine (span_Parts.calls k _ _ t168 true _ ?side1 ?side2 A11.out).mono ?_); (case side1 => refine (Kd.R_reads' (e:=26) (base:=w.heap.size) (ok:=fun k_ => (True ∧ k_ ≠ gb174)) (n:=t168.length) (c:=co24) ?_).2.2; exact (by (with_reducible repeat first | apply Ra8 | apply Rn8 | apply Rd8); exact (Ro8 (Rf8 (p:=⟨gb174, 1, none⟩) (Rf8 (p:=⟨gb174, 0, none⟩) (Ro8 HO170.out (fun k_ hk => (⟨hk, hk.2⟩ : _ ∧ k_ ≠ gb174))) (fun _ h=>h.2) (.string t171)) (fun _ h=>h.2) (.string t172)) (fun _ h=>h.1)))); (case side2 => exact (Kd.R_reads' HO170.out).2.1); rintro e w25 ⟨rfl, hb⟩; replace HO167 := Am8 (Rb8 (by (with_reducible repeat first | apply Ra8 | apply Rn8 | apply Rd8); exact (Ro8 (Rf8 (p:=⟨gb174, 1, none⟩) (Rf8 (p:=⟨gb174, 0, none⟩) (Ry8 HO167.out BK174.out (by decide)) (fun _ h=>h.2) (.string t171)) (fun _ h=>h.2) (.string t172)) (fun _ h=>h.1))) hb); replace HO170 := Am8 (Rb8 (by (with_reducible repeat first | apply Ra8 | apply Rn8 | apply Rd8); exact (Ro8 (Rf8 (p:=⟨gb174, 1, none⟩) (Rf8 (p:=⟨gb174, 0, none⟩) (Ro8 HO170.out (fun k_ hk => (⟨hk, hk.2⟩ : _ ∧ k_ ≠ gb174))) (fun _ h=>h.2) (.string t171)) (fun _ h=>h.2) (.string t172)) (fun _ h=>h.1))) hb); replace BK174 := Am8 (kb8 (g:=gb174) (o:=.cells #[.string t171, .string t172] 26 (0, 0)) (by (with_reducible repeat first | apply kn8 | apply kd8 | apply ka8); refine blk_put (cs:=#[.string t171, .string (⟨#[]⟩ : ByteArray)]) ?_ 1 _ rfl; (with_reducible repeat first | apply kn8 | apply kd8 | apply ka8); refine blk_put (cs:=#[.string (⟨#[]⟩ : ByteArray), .string (⟨#[]⟩ : ByteArray)]) ?_ 0 _ rfl; (with_reducible repeat first | apply kn8 | apply kd8 | apply ka8); exact BK174.out) hb); replace HB := Am8 (bp8 (by repeat (first | (with_reducible first | exact HB.out | apply ba8 | apply bn8 | apply bd8 | refine bs8 ?_ GE174.out) | exact HB.out)) hb); (try clear hb); (try clear hb2); (try clear hk); (try clear hi)) | (go_at_call 18; (with_reducible refine (span_Key.calls k (⟨#[97, 49]⟩ : ByteArray) true _ A13.out).mono ?_); rintro e w' ⟨rfl, ⟨nd, rfl⟩⟩) | (go_at_call 18; (with_reducible refine (span_Key.calls k (⟨#[65]⟩ : ByteArray) t179 _ A15.out).mono ?_); rintro e w' ⟨rfl, ⟨nd, rfl⟩⟩))
          go_ret
          exact ⟨by first | rfl | (simp [errW_none, errW_some] <;> rfl) | (simp [*, errW_none, errW_some] <;> rfl), by repeat (first | (with_reducible first | exact HB.out | apply ba8 | apply bn8 | apply bd8 | refine bs8 ?_ GE174.out) | exact HB.out)⟩
         ·replace c14 := Bool.eq_false_iff.mpr c14
          subst c14
          rw [if_neg (show ¬ (false = true) by decide)] at H
          exact absurd H (by simp)
        ·replace c12 := Bool.eq_false_iff.mpr c12
         subst c12
         rw [if_neg (show ¬ (false = true) by decide)] at H
         exact absurd H (by simp)
       ·rw [if_neg c10] at H
        exact absurd H (by simp)
      ·replace c9 := Bool.eq_false_iff.mpr c9
       subst c9
       rw [if_neg (show ¬ (false = true) by decide)] at H
       exact absurd H (by simp)
     ·rw [if_neg c8] at H
      exact absurd H (by simp)
    ·rw [if_neg c7] at H
     exact absurd H (by simp)
   ·rw [if_neg c6] at H
    exact absurd H (by simp)
  ·rw [if_neg c5] at H
   exact absurd H (by simp)
 ·rw [if_neg c4] at H
  exact absurd H (by simp)

theorem Am9 : type_of% @Aside0.mk := @Aside0.mk
/-! ### watershedlaw04_few: function 9 -/
mutual
def watershedlaw04_few.l0 : Nat → List ByteArray → Int → Option (Bool)
 | 0, _, _ => none
 | k + 1, x0, x3 => if x3 < (x0.length : Int) then (watershedlaw04_few.j1 k x0 x3 (decide (x3 < 61))) else (watershedlaw04_few.j1 k x0 x3 false)
def watershedlaw04_few.j1 : Nat → List ByteArray → Int → Bool → Option (Bool)
 | 0, _, _, _ => none
 | k + 1, x0, x3, x11 => if x11 = true then (if 0 ≤ x3 then (if x3 < (x0.length : Int) then (if ((rdOf ByteArray.empty x0 x3).size : Int) > 40 then (some false) else (watershedlaw04_few.l0 k x0 (wrap64 (x3 + 1)))) else (none)) else (none)) else (some (decide ((x0.length : Int) ≤ 60)))
end
def watershedlaw04_few.f (k : Nat) (l0 : List ByteArray) : Option (Bool) := watershedlaw04_few.l0 k l0 0
theorem watershedlaw04_few.mono_l : ∀ k, (∀ y0 y1, LeO (watershedlaw04_few.l0 k y0 y1) (watershedlaw04_few.l0 (k + 1) y0 y1)) ∧ (∀ y0 y1 y2, LeO (watershedlaw04_few.j1 k y0 y1 y2) (watershedlaw04_few.j1 (k + 1) y0 y1 y2))
 | 0 => ⟨fun _ _ r h => by simp [watershedlaw04_few.l0] at h, fun _ _ _ r h => by simp [watershedlaw04_few.j1] at h⟩
 | k + 1 => by
  obtain ⟨ih0, ih1⟩ := watershedlaw04_few.mono_l k
  refine ⟨?_, ?_⟩
  ·intro y0 y1
   unfold watershedlaw04_few.l0
   repeat' first
   | (with_reducible exact ih0 _ _)
   | (with_reducible exact ih1 _ _ _)
   | (with_reducible exact LeO.refl _)
   | (with_reducible exact LeO.none _)
   | (with_reducible refine LeO.ite ?_ ?_)
   | (with_reducible refine LeO.bind ?_ (fun _ => ?_))
   | exact ih0 _ _
   | exact ih1 _ _ _
   | exact LeO.none _
   | refine LeO.ite ?_ ?_
   | refine LeO.bind ?_ (fun _ => ?_)
  ·intro y0 y1 y2
   unfold watershedlaw04_few.j1
   repeat' first
   | (with_reducible exact ih0 _ _)
   | (with_reducible exact ih1 _ _ _)
   | (with_reducible exact LeO.refl _)
   | (with_reducible exact LeO.none _)
   | (with_reducible refine LeO.ite ?_ ?_)
   | (with_reducible refine LeO.bind ?_ (fun _ => ?_))
   | exact ih0 _ _
   | exact ih1 _ _ _
   | exact LeO.none _
   | refine LeO.ite ?_ ?_
   | refine LeO.bind ?_ (fun _ => ?_)
theorem watershedlaw04_few.mono : ∀ a0 k, LeO (watershedlaw04_few.f k a0) (watershedlaw04_few.f (k + 1) a0) := by
 intro a0 k
 obtain ⟨ih0, ih1⟩ := watershedlaw04_few.mono_l k
 unfold watershedlaw04_few.f
 repeat' first
   | (with_reducible exact ih0 _ _)
   | (with_reducible exact ih1 _ _ _)
   | (with_reducible exact LeO.refl _)
   | (with_reducible exact LeO.none _)
   | (with_reducible refine LeO.ite ?_ ?_)
   | (with_reducible refine LeO.bind ?_ (fun _ => ?_))
   | exact ih0 _ _
   | exact ih1 _ _ _
   | exact LeO.none _
   | refine LeO.ite ?_ ?_
   | refine LeO.bind ?_ (fun _ => ?_)
set_option maxHeartbeats 8000000 in
set_option maxRecDepth 100000 in
theorem watershedlaw04_few.calls (k : Nat) (A0 : Option Addr) (c0 : Nat) (l0 : List ByteArray) (r : Bool) (w : World) (hr0 : Kd.C Kd.string w A0 l0.length l0) (hc0 : l0.length ≤ c0) (h : watershedlaw04_few.f k l0 = some r) :
  Calls Try.prog 9 #[.slice A0 l0.length c0] w fun e w' => e = .returned (.bool r) ∧ Drawn0 w w' := by
 have HR0 := Am9 hr0
 have HC0 := Am9 hc0
 clear hr0 hc0
 have H : (watershedlaw04_few.l0 k l0 0) = some r := h
 clear h
 have H' := Am9 H
 clear H
 go_enter Try.func9, Try.ntmps9
 go_wp2
 go_loopg [3] k (fun kq v3 w' => ∃ (x3_1 : Int), v3 = .int .i64 x3_1 ∧ Aside0 (watershedlaw04_few.l0 kq l0 x3_1 = some r) ∧ Aside0 (kq ≤ k) ∧ Drawn0 w w')
 case atStart => exact ⟨(0), (by first | rfl | (simp; done) | (simp [*]; done)), H', ⟨Nat.le_refl _⟩, by repeat (first | exact Drawn0.refl _ | apply Drawn0.step)⟩
 case round =>
  clear H'
  obtain ⟨x3_1, rfl, HA, HK1, ⟨m1, rfl⟩⟩ := hrel
  cases gk with
  | zero => exact absurd HA.out (by simp [watershedlaw04_few.l0])
  | succ k1 =>
   have H := HA.out
   clear HA
   simp only [watershedlaw04_few.l0] at H
   have HC2 := Am9 H
   clear H
   go_upto_region 2 with (fail)
   go_cut [11] (fun v11 wc => ∃ (kq : Nat) (x11_1 : Bool), v11 = .bool x11_1 ∧ Aside0 (watershedlaw04_few.j1 kq l0 x3_1 x11_1 = some r) ∧ Aside0 (kq ≤ k1) ∧ Drawn0 w wc)
   case first =>
    have H := HC2.out
    clear HC2
    by_cases c3 : x3_1 < (l0.length : Int)
    ·rw [if_pos c3] at H
     have c3b0 : decide (x3_1 < (l0.length : Int)) = true := decide_eq_true c3
     clear c3
     (first | rw [c3b0] | (simp only [i64_w, i32_w]; rw [c3b0]) | skip)
     have H' := Am9 H
     clear H
     go_wp2
     go_meet
     case rel => exact ⟨_, (decide (x3_1 < 61)), (by first | rfl | (simp; done) | (simp [*]; done)), H', ⟨by have := HK1.out; first | omega | exact Nat.le_refl _⟩, by repeat (first | exact Drawn0.refl _ | apply Drawn0.step)⟩
    ·rw [if_neg c3] at H
     have c3b0 : decide (x3_1 < (l0.length : Int)) = false := decide_eq_false c3
     clear c3
     (first | rw [c3b0] | (simp only [i64_w, i32_w]; rw [c3b0]) | skip)
     have H' := Am9 H
     clear H
     go_wp2
     go_meet
     case rel => exact ⟨_, (false), (by first | rfl | (simp; done) | (simp [*]; done)), H', ⟨by have := HK1.out; first | omega | exact Nat.le_refl _⟩, by repeat (first | exact Drawn0.refl _ | apply Drawn0.step)⟩
   case rest =>
    clear HC2
    try clear p2
    try clear c3
    try clear c3b0
    obtain ⟨kq, x11_1, rfl, HA, HJ1, ⟨mc1, rfl⟩⟩ := hcut
    cases kq with
    | zero => exact absurd HA.out (by simp [watershedlaw04_few.j1])
    | succ kj1 =>
     have H := HA.out
     clear HA
     simp only [watershedlaw04_few.j1] at H
     by_cases c4 : x11_1 = true
     ·subst c4
      rw [if_pos rfl] at H
      by_cases c5 : 0 ≤ x3_1
      ·rw [if_pos c5] at H
       have c5b0 : decide (0 ≤ x3_1) = true := decide_eq_true c5
       clear c5
       by_cases c6 : x3_1 < (l0.length : Int)
       ·rw [if_pos c6] at H
        have c6b0 : decide (x3_1 < (l0.length : Int)) = true := decide_eq_true c6
        clear c6
        by_cases c7 : ((rdOf ByteArray.empty l0 x3_1).size : Int) > 40
        ·rw [if_pos c7] at H
         have c7b0 : decide (40 < ((rdOf ByteArray.empty l0 x3_1).size : Int)) = true := decide_eq_true c7
         have c7b1 : decide (40 < (rdOf ByteArray.empty l0 x3_1).size) = true := decide_eq_true (by omega)
         clear c7
         obtain rfl := Option.some.inj H
         have p180 : 0 ≤ (x3_1 : Int) := of_decide_eq_true (by first | (with_reducible assumption) | assumption)
         have q180 : x3_1 < (l0.length : Int) := of_decide_eq_true (by first | (with_reducible assumption) | assumption)
         obtain ⟨ad180, e180, hx180_0⟩ := Kd.at_string HR0.out x3_1 p180 q180
         cases e180
         replace p180 := eq_true p180
         replace q180 := eq_true q180
         go_wp2
         go_ret
         exact ⟨by first | rfl | (simp; done) | (simp [*]; done), by repeat (first | exact Drawn0.refl _ | apply Drawn0.step)⟩
        ·rw [if_neg c7] at H
         have c7b0 : decide (40 < ((rdOf ByteArray.empty l0 x3_1).size : Int)) = false := decide_eq_false c7
         have c7b1 : decide (40 < (rdOf ByteArray.empty l0 x3_1).size) = false := decide_eq_false (by omega)
         clear c7
         have H' := Am9 H
         clear H
         have p180 : 0 ≤ (x3_1 : Int) := of_decide_eq_true (by first | (with_reducible assumption) | assumption)
         have q180 : x3_1 < (l0.length : Int) := of_decide_eq_true (by first | (with_reducible assumption) | assumption)
         obtain ⟨ad180, e180, hx180_0⟩ := Kd.at_string HR0.out x3_1 p180 q180
         cases e180
         replace p180 := eq_true p180
         replace q180 := eq_true q180
         go_wp2
         go_roundg kj1
         case measure => have := HK1.out; have := HJ1.out; omega
         case rel => exact ⟨(wrap64 (x3_1 + 1)), (by first | rfl | (simp; done) | (simp [*]; done)), H', ⟨by have := HK1.out; have := HJ1.out; omega⟩, by repeat (first | exact Drawn0.refl _ | apply Drawn0.step)⟩
       ·rw [if_neg c6] at H
        exact absurd H (by simp)
      ·rw [if_neg c5] at H
       exact absurd H (by simp)
     ·replace c4 := Bool.eq_false_iff.mpr c4
      subst c4
      rw [if_neg (show ¬ (false = true) by decide)] at H
      obtain rfl := Option.some.inj H
      go_wp2
      go_ret
      exact ⟨by first | rfl | (simp; done) | (simp [*]; done), by repeat (first | exact Drawn0.refl _ | apply Drawn0.step)⟩

end Go.Proofs.Ytbmnhpihlkljdaa.P04e
