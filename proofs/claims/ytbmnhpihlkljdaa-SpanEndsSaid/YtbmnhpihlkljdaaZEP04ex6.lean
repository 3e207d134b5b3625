-- Written by gprint.py, a program of this session, over the kit's print; the functions of my own contracts are marked GIVEN
import Derived.Test.YtbmnhpihlkljdaaZEP04ex0
import Derived.Test.YtbmnhpihlkljdaaZEP04ex2
import Derived.Test.YtbmnhpihlkljdaaZEP04ex3
import Derived.Test.YtbmnhpihlkljdaaZEP04ex5
namespace Go.Proofs.Ytbmnhpihlkljdaa.P04e
open Go.RowKit Go.Proofs.YtbmnhpihlkljdaaW.PrintWords Go.Proofs.YtbmnhpihlkljdaaW.PrintLast Go.Proofs.YtbmnhpihlkljdaaW.PrintMore
attribute [local go_sem] max2_str max2_int min2_int max_two min_two max_three min_three max_four min_four   -- for this text's walks alone
set_option linter.unusedVariables false
set_option linter.unusedSimpArgs false

theorem Am13 : type_of% @Aside0.mk := @Aside0.mk
theorem ba13 : type_of% @below_alloc := @below_alloc
theorem bn13 : type_of% @pw_below_drewN := @pw_below_drewN
theorem bd13 : type_of% @below_drew1 := @below_drew1
theorem bs13 : type_of% @below_set := @below_set
theorem kn13 : type_of% @blk_drewN := @blk_drewN
theorem kd13 : type_of% @blk_drew := @blk_drew
theorem ka13 : type_of% @blk_alloc := @blk_alloc
theorem kf13 : type_of% @blk_far := @blk_far
theorem kb13 : type_of% @blk_below := @blk_below
theorem bz13 : type_of% @below_size := @below_size
theorem bp13 : type_of% @below_step := @below_step
theorem kc13 : type_of% @blk_cell := @blk_cell
theorem kz13 : type_of% @blk_frozen := @blk_frozen
theorem sa13 : type_of% @List.setIfInBounds_toArray := @List.setIfInBounds_toArray
theorem sz13 : type_of% @List.set_cons_zero := @List.set_cons_zero
theorem ss13 : type_of% @List.set_cons_succ := @List.set_cons_succ
theorem ma13 : type_of% @List.map_toArray := @List.map_toArray
theorem mc13 : type_of% @List.map_cons := @List.map_cons
theorem mn13 : type_of% @List.map_nil := @List.map_nil
theorem ld13 : type_of% @List.length_drop := @List.length_drop
theorem lt_13 : type_of% @List.length_take := @List.length_take
/-! ### watershedref04_Meet: function 13 -/
mutual
def watershedref04_Meet.j0 : Nat → Bool → ByteArray → ByteArray → ByteArray → ByteArray → ByteArray → ByteArray → Option (ByteArray × ByteArray × Bool)
 | 0, _, _, _, _, _, _, _ => none
 | k + 1, x29, x186000, x186001, x187000, x187001, x189000, x189001 => if x29 = true then (watershedref04_Meet.j1 k x186000 x186001 x187000 x187001 x189000 x187001) else (watershedref04_Meet.j1 k x186000 x186001 x187000 x187001 x189000 x189001)
def watershedref04_Meet.j1 : Nat → ByteArray → ByteArray → ByteArray → ByteArray → ByteArray → ByteArray → Option (ByteArray × ByteArray × Bool)
 | 0, _, _, _, _, _, _ => none
 | k + 1, x186000, x186001, x187000, x187001, x189000, x189001 => (watershedref04_Right.f k x186000 x186001).bind fun t189 => (if t189 = true then ((watershedref04_Right.f k x187000 x187001).bind fun t190 => (if t190 = true then ((watershedref04_Right.f k x189000 x189001).bind fun t191 => (if t191 = true then (some (x189000, x189001, true)) else (some ((⟨#[]⟩ : ByteArray), (⟨#[]⟩ : ByteArray), false)))) else (some ((⟨#[]⟩ : ByteArray), (⟨#[]⟩ : ByteArray), false)))) else (some ((⟨#[]⟩ : ByteArray), (⟨#[]⟩ : ByteArray), false)))
end
def watershedref04_Meet.f (k : Nat) (a0_0 : ByteArray) (a0_1 : ByteArray) (a1_0 : ByteArray) (a1_1 : ByteArray) : Option (ByteArray × ByteArray × Bool) := if a0_1.toList = ([] : List UInt8) then (watershedref04_Meet.j0 k true a0_0 a0_1 a1_0 a1_1 (smax a0_0 a1_0) a0_1) else (if a1_1.toList = ([] : List UInt8) then (watershedref04_Meet.j0 k false a0_0 a0_1 a1_0 a1_1 (smax a0_0 a1_0) a0_1) else (watershedref04_Meet.j0 k (Op.bytesLess a1_1.toList a0_1.toList) a0_0 a0_1 a1_0 a1_1 (smax a0_0 a1_0) a0_1))
theorem watershedref04_Meet.mono_l : ∀ k, (∀ y0 y1 y2 y3 y4 y5 y6, LeO (watershedref04_Meet.j0 k y0 y1 y2 y3 y4 y5 y6) (watershedref04_Meet.j0 (k + 1) y0 y1 y2 y3 y4 y5 y6)) ∧ (∀ y0 y1 y2 y3 y4 y5, LeO (watershedref04_Meet.j1 k y0 y1 y2 y3 y4 y5) (watershedref04_Meet.j1 (k + 1) y0 y1 y2 y3 y4 y5))
 | 0 => ⟨fun _ _ _ _ _ _ _ r h => by simp [watershedref04_Meet.j0] at h, fun _ _ _ _ _ _ r h => by simp [watershedref04_Meet.j1] at h⟩
 | k + 1 => by
  obtain ⟨ih0, ih1⟩ := watershedref04_Meet.mono_l k
  refine ⟨?_, ?_⟩
  ·intro y0 y1 y2 y3 y4 y5 y6
   unfold watershedref04_Meet.j0
   repeat' first
   | (with_reducible exact ih0 _ _ _ _ _ _ _)
   | (with_reducible exact ih1 _ _ _ _ _ _)
   | (with_reducible exact watershedref04_Right.mono _ _ _)
   | (with_reducible exact LeO.refl _)
   | (with_reducible exact LeO.none _)
   | (with_reducible refine LeO.ite ?_ ?_)
   | (with_reducible refine LeO.bind ?_ (fun _ => ?_))
   | exact ih0 _ _ _ _ _ _ _
   | exact ih1 _ _ _ _ _ _
   | exact watershedref04_Right.mono _ _ _
   | exact LeO.none _
   | refine LeO.ite ?_ ?_
   | refine LeO.bind ?_ (fun _ => ?_)
  ·intro y0 y1 y2 y3 y4 y5
   unfold watershedref04_Meet.j1
   repeat' first
   | (with_reducible exact ih0 _ _ _ _ _ _ _)
   | (with_reducible exact ih1 _ _ _ _ _ _)
   | (with_reducible exact watershedref04_Right.mono _ _ _)
   | (with_reducible exact LeO.refl _)
   | (with_reducible exact LeO.none _)
   | (with_reducible refine LeO.ite ?_ ?_)
   | (with_reducible refine LeO.bind ?_ (fun _ => ?_))
   | exact ih0 _ _ _ _ _ _ _
   | exact ih1 _ _ _ _ _ _
   | exact watershedref04_Right.mono _ _ _
   | exact LeO.none _
   | refine LeO.ite ?_ ?_
   | refine LeO.bind ?_ (fun _ => ?_)
theorem watershedref04_Meet.mono : ∀ a0 a1 a2 a3 k, LeO (watershedref04_Meet.f k a0 a1 a2 a3) (watershedref04_Meet.f (k + 1) a0 a1 a2 a3) := by
 intro a0 a1 a2 a3 k
 obtain ⟨ih0, ih1⟩ := watershedref04_Meet.mono_l k
 unfold watershedref04_Meet.f
 repeat' first
   | (with_reducible exact ih0 _ _ _ _ _ _ _)
   | (with_reducible exact ih1 _ _ _ _ _ _)
   | (with_reducible exact watershedref04_Right.mono _ _ _)
   | (with_reducible exact LeO.refl _)
   | (with_reducible exact LeO.none _)
   | (with_reducible refine LeO.ite ?_ ?_)
   | (with_reducible refine LeO.bind ?_ (fun _ => ?_))
   | exact ih0 _ _ _ _ _ _ _
   | exact ih1 _ _ _ _ _ _
   | exact watershedref04_Right.mono _ _ _
   | exact LeO.none _
   | refine LeO.ite ?_ ?_
   | refine LeO.bind ?_ (fun _ => ?_)
set_option maxHeartbeats 8000000 in
set_option maxRecDepth 100000 in
theorem watershedref04_Meet.calls (k : Nat) (a0_0 : ByteArray) (a0_1 : ByteArray) (a1_0 : ByteArray) (a1_1 : ByteArray) (r1 : ByteArray) (r2 : ByteArray) (r3 : Bool) (w : World) (h : watershedref04_Meet.f k a0_0 a0_1 a1_0 a1_1 = some (r1, r2, r3)) :
  Calls Try.prog 13 #[.agg #[.string a0_0, .string a0_1], .agg #[.string a1_0, .string a1_1]] w fun e w' => e = .returned (.tuple #[.agg #[.string r1, .string r2], .bool r3]) ∧ Below w.heap.size w w' := by
 have hu26 := Try.underlying26
 have HB := Am13 (Below.refl w.heap.size w)
 have H : (if a0_1.toList = ([] : List UInt8) then (watershedref04_Meet.j0 k true a0_0 a0_1 a1_0 a1_1 (smax a0_0 a1_0) a0_1) else (if a1_1.toList = ([] : List UInt8) then (watershedref04_Meet.j0 k false a0_0 a0_1 a1_0 a1_1 (smax a0_0 a1_0) a0_1) else (watershedref04_Meet.j0 k (Op.bytesLess a1_1.toList a0_1.toList) a0_0 a0_1 a1_0 a1_1 (smax a0_0 a1_0) a0_1))) = some (r1, r2, r3) := h
 clear h
 have HC3 := Am13 H
 clear H
 go_enter Try.func13, Try.ntmps13
 go_upto_region 2 with (first | ((with_reducible refine gate_dst (N:=2) rfl ?_); refine box_event ?hg (N:=2) ?hd (cs:=#[.string a0_0, .string a0_1]) (t:=26) ?hr ?_; (case hd => rfl); (case hg => rfl); (case hr => first | (go_simp; done) | (go_simp; rfl)); intro gb185 hg w4 hbox hb; have BK185 := Am13 (hbox); have GW185 := Am13 ((by rw [hg]; exact (bz13 (by repeat (first | (with_reducible first | exact HB.out | apply ba13 | apply bn13 | apply bd13) | exact HB.out))) : w.heap.size ≤ gb185)); have GE185 := Am13 ((by rw [hg]; exact (bz13 (by repeat (first | (with_reducible first | exact HB.out | apply ba13 | apply bn13 | apply bd13) | exact HB.out))) : w.heap.size ≤ gb185)); replace HB := Am13 (bp13 (by repeat (first | (with_reducible first | exact HB.out | apply ba13 | apply bn13 | apply bd13) | exact HB.out)) hb); clear hb hbox hg) | ((with_reducible refine gate_dst (N:=3) rfl ?_); refine box_event ?hg (N:=3) ?hd (cs:=#[.string a1_0, .string a1_1]) (t:=26) ?hr ?_; (case hd => rfl); (case hg => rfl); (case hr => first | (go_simp; done) | (go_simp; rfl)); intro gb186 hg w5 hbox hb; have BK186 := Am13 (hbox); have GW186 := Am13 ((by rw [hg]; exact (bz13 (by repeat (first | (with_reducible first | exact HB.out | apply ba13 | apply bn13 | apply bd13 | refine bs13 ?_ GE185.out) | exact HB.out))) : w.heap.size ≤ gb186)); have GE186 := Am13 ((by rw [hg]; exact (bz13 (by repeat (first | (with_reducible first | exact HB.out | apply ba13 | apply bn13 | apply bd13 | refine bs13 ?_ GE185.out) | exact HB.out))) : w.heap.size ≤ gb186)); replace HB := Am13 (bp13 (by repeat (first | (with_reducible first | exact HB.out | apply ba13 | apply bn13 | apply bd13 | refine bs13 ?_ GE185.out) | exact HB.out)) hb); have NB185_186 := Am13 ((by rw [hg]; exact Nat.ne_of_lt (blk_lt (g:=gb185) (o:=.cells #[.string a0_0, .string a0_1] 26 (0, 0)) (by (with_reducible repeat first | apply kn13 | apply kd13 | apply ka13); exact BK185.out)) : gb185 ≠ gb186)); have NB186_185 := Am13 ((by rw [hg]; exact Nat.ne_of_gt (blk_lt (g:=gb185) (o:=.cells #[.string a0_0, .string a0_1] 26 (0, 0)) (by (with_reducible repeat first | apply kn13 | apply kd13 | apply ka13); exact BK185.out)) : gb186 ≠ gb185)); replace BK185 := Am13 (kb13 (g:=gb185) (o:=.cells #[.string a0_0, .string a0_1] 26 (0, 0)) (by (with_reducible repeat first | apply kn13 | apply kd13 | apply ka13); exact BK185.out) hb); clear hb hbox hg) | ((with_reducible refine gate_dst (N:=4) rfl ?_); refine box_event ?hg (N:=4) ?hd (cs:=#[.string (⟨#[]⟩ : ByteArray), .string (⟨#[]⟩ : ByteArray)]) (t:=26) ?hr ?_; (case hd => rfl); (case hg => rfl); (case hr => first | (go_simp; done) | (go_simp; rfl)); intro gb187 hg w6 hbox hb; have BK187 := Am13 (hbox); have GW187 := Am13 ((by rw [hg]; exact (bz13 (by repeat (first | (with_reducible first | exact HB.out | apply ba13 | apply bn13 | apply bd13 | refine bs13 ?_ GE185.out | refine bs13 ?_ GE186.out) | exact HB.out))) : w.heap.size ≤ gb187)); have GE187 := Am13 ((by rw [hg]; exact (bz13 (by repeat (first | (with_reducible first | exact HB.out | apply ba13 | apply bn13 | apply bd13 | refine bs13 ?_ GE185.out | refine bs13 ?_ GE186.out) | exact HB.out))) : w.heap.size ≤ gb187)); replace HB := Am13 (bp13 (by repeat (first | (with_reducible first | exact HB.out | apply ba13 | apply bn13 | apply bd13 | refine bs13 ?_ GE185.out | refine bs13 ?_ GE186.out) | exact HB.out)) hb); have NB185_187 := Am13 ((by rw [hg]; exact Nat.ne_of_lt (blk_lt (g:=gb185) (o:=.cells #[.string a0_0, .string a0_1] 26 (0, 0)) (by (with_reducible repeat first | apply kn13 | apply kd13 | apply ka13); exact BK185.out)) : gb185 ≠ gb187)); have NB187_185 := Am13 ((by rw [hg]; exact Nat.ne_of_gt (blk_lt (g:=gb185) (o:=.cells #[.string a0_0, .string a0_1] 26 (0, 0)) (by (with_reducible repeat first | apply kn13 | apply kd13 | apply ka13); exact BK185.out)) : gb187 ≠ gb185)); replace BK185 := Am13 (kb13 (g:=gb185) (o:=.cells #[.string a0_0, .string a0_1] 26 (0, 0)) (by (with_reducible repeat first | apply kn13 | apply kd13 | apply ka13); exact BK185.out) hb); have NB186_187 := Am13 ((by rw [hg]; exact Nat.ne_of_lt (blk_lt (g:=gb186) (o:=.cells #[.string a1_0, .string a1_1] 26 (0, 0)) (by (with_reducible repeat first | apply kn13 | apply kd13 | apply ka13); exact BK186.out)) : gb186 ≠ gb187)); have NB187_186 := Am13 ((by rw [hg]; exact Nat.ne_of_gt (blk_lt (g:=gb186) (o:=.cells #[.string a1_0, .string a1_1] 26 (0, 0)) (by (with_reducible repeat first | apply kn13 | apply kd13 | apply ka13); exact BK186.out)) : gb187 ≠ gb186)); replace BK186 := Am13 (kb13 (g:=gb186) (o:=.cells #[.string a1_0, .string a1_1] 26 (0, 0)) (by (with_reducible repeat first | apply kn13 | apply kd13 | apply ka13); exact BK186.out) hb); clear hb hbox hg; have hnb7 := NB185_186.out; have hnc7 := NB186_185.out; have hnb8 := NB185_187.out; have hnc8 := NB187_185.out; have hcz9_0 : w6.cell? ⟨gb185, 0, none⟩ = some (.string a0_0) := (kc13 BK185.out 0).trans rfl; have hcz9_1 : w6.cell? ⟨gb185, 1, none⟩ = some (.string a0_1) := (kc13 BK185.out 1).trans rfl; have hfz9_0 := kz13 BK185.out 0; have hfz9_1 := kz13 BK185.out 1; have hnb10 := NB186_187.out; have hnc10 := NB187_186.out; have hcz11_0 : w6.cell? ⟨gb186, 0, none⟩ = some (.string a1_0) := (kc13 BK186.out 0).trans rfl; have hcz11_1 : w6.cell? ⟨gb186, 1, none⟩ = some (.string a1_1) := (kc13 BK186.out 1).trans rfl; have hfz11_0 := kz13 BK186.out 0; have hfz11_1 := kz13 BK186.out 1) | ((with_reducible refine gate_dst (N:=6) rfl ?_); refine box_event ?hg (N:=6) ?hd (cs:=#[.string (⟨#[]⟩ : ByteArray), .string (⟨#[]⟩ : ByteArray)]) (t:=26) ?hr ?_; (case hd => rfl); (case hg => rfl); (case hr => first | (go_simp; done) | (go_simp; rfl)); intro gb188 hg w12 hbox hb; have BK188 := Am13 (hbox); have GW188 := Am13 ((by rw [hg]; exact (bz13 (by repeat (first | (with_reducible first | exact HB.out | apply ba13 | apply bn13 | apply bd13 | refine bs13 ?_ GE185.out | refine bs13 ?_ GE186.out | refine bs13 ?_ GE187.out) | exact HB.out))) : w.heap.size ≤ gb188)); have GE188 := Am13 ((by rw [hg]; exact (bz13 (by repeat (first | (with_reducible first | exact HB.out | apply ba13 | apply bn13 | apply bd13 | refine bs13 ?_ GE185.out | refine bs13 ?_ GE186.out | refine bs13 ?_ GE187.out) | exact HB.out))) : w.heap.size ≤ gb188)); replace HB := Am13 (bp13 (by repeat (first | (with_reducible first | exact HB.out | apply ba13 | apply bn13 | apply bd13 | refine bs13 ?_ GE185.out | refine bs13 ?_ GE186.out | refine bs13 ?_ GE187.out) | exact HB.out)) hb); have NB185_188 := Am13 ((by rw [hg]; exact Nat.ne_of_lt (blk_lt (g:=gb185) (o:=.cells #[.string a0_0, .string a0_1] 26 (0, 0)) (by (with_reducible repeat first | apply kn13 | apply kd13 | apply ka13); exact BK185.out)) : gb185 ≠ gb188)); have NB188_185 := Am13 ((by rw [hg]; exact Nat.ne_of_gt (blk_lt (g:=gb185) (o:=.cells #[.string a0_0, .string a0_1] 26 (0, 0)) (by (with_reducible repeat first | apply kn13 | apply kd13 | apply ka13); exact BK185.out)) : gb188 ≠ gb185)); replace BK185 := Am13 (kb13 (g:=gb185) (o:=.cells #[.string a0_0, .string a0_1] 26 (0, 0)) (by (with_reducible repeat first | apply kn13 | apply kd13 | apply ka13); exact BK185.out) hb); have NB186_188 := Am13 ((by rw [hg]; exact Nat.ne_of_lt (blk_lt (g:=gb186) (o:=.cells #[.string a1_0, .string a1_1] 26 (0, 0)) (by (with_reducible repeat first | apply kn13 | apply kd13 | apply ka13); exact BK186.out)) : gb186 ≠ gb188)); have NB188_186 := Am13 ((by rw [hg]; exact Nat.ne_of_gt (blk_lt (g:=gb186) (o:=.cells #[.string a1_0, .string a1_1] 26 (0, 0)) (by (with_reducible repeat first | apply kn13 | apply kd13 | apply ka13); exact BK186.out)) : gb188 ≠ gb186)); replace BK186 := Am13 (kb13 (g:=gb186) (o:=.cells #[.string a1_0, .string a1_1] 26 (0, 0)) (by (with_reducible repeat first | apply kn13 | apply kd13 | apply ka13); exact BK186.out) hb); have NB187_188 := Am13 ((by rw [hg]; exact Nat.ne_of_lt (blk_lt (g:=gb187) (o:=.cells #[.string (⟨#[]⟩ : ByteArray), .string (⟨#[]⟩ : ByteArray)] 26 (0, 0)) (by (with_reducible repeat first | apply kn13 | apply kd13 | apply ka13); exact BK187.out)) : gb187 ≠ gb188)); have NB188_187 := Am13 ((by rw [hg]; exact Nat.ne_of_gt (blk_lt (g:=gb187) (o:=.cells #[.string (⟨#[]⟩ : ByteArray), .string (⟨#[]⟩ : ByteArray)] 26 (0, 0)) (by (with_reducible repeat first | apply kn13 | apply kd13 | apply ka13); exact BK187.out)) : gb188 ≠ gb187)); replace BK187 := Am13 (kb13 (g:=gb187) (o:=.cells #[.string (⟨#[]⟩ : ByteArray), .string (⟨#[]⟩ : ByteArray)] 26 (0, 0)) (by (with_reducible repeat first | apply kn13 | apply kd13 | apply ka13); exact BK187.out) hb); clear hb hbox hg; have hnb13 := NB188_185.out; have hnc13 := NB185_188.out; have hnb14 := NB188_186.out; have hnc14 := NB186_188.out; have hnb15 := NB188_187.out; have hnc15 := NB187_188.out; have hcz16_0 : w12.cell? ⟨gb188, 0, none⟩ = some (.string (⟨#[]⟩ : ByteArray)) := (kc13 BK188.out 0).trans rfl; have hcz16_1 : w12.cell? ⟨gb188, 1, none⟩ = some (.string (⟨#[]⟩ : ByteArray)) := (kc13 BK188.out 1).trans rfl; have hfz16_0 := kz13 BK188.out 0; have hfz16_1 := kz13 BK188.out 1))
 (try simp only [Act.put, sa13, sz13, ss13])
 go_cut [29] (fun v29 wc => ∃ (kq : Nat) (x29_2 : Bool), v29 = .bool x29_2 ∧ Aside0 (watershedref04_Meet.j0 kq x29_2 a0_0 a0_1 a1_0 a1_1 (smax a0_0 a1_0) a0_1 = some (r1, r2, r3)) ∧ Aside0 (kq ≤ k) ∧ Aside0 (wc.heap[gb185]? = some (.cells #[.string a0_0, .string a0_1] 26 (0, 0))) ∧ Aside0 (wc.heap[gb186]? = some (.cells #[.string a1_0, .string a1_1] 26 (0, 0))) ∧ Aside0 (wc.heap[gb187]? = some (.cells #[.string (⟨#[]⟩ : ByteArray), .string (⟨#[]⟩ : ByteArray)] 26 (0, 0))) ∧ Aside0 (wc.heap[gb188]? = some (.cells #[.string (smax a0_0 a1_0), .string a0_1] 26 (0, 0))) ∧ Aside0 (Below w.heap.size w wc))
 case first =>
  have H := HC3.out
  clear HC3
  by_cases c17 : a0_1.toList = ([] : List UInt8)
  ·rw [if_pos c17] at H
   have c17b0 : (a0_1.toList == ([] : List UInt8)) = true := beq_iff_eq.mpr c17
   have c17b1 : (a0_1.toList != ([] : List UInt8)) = false := bne_eq_false_iff_eq.mpr c17
   clear c17
   (first | rw [c17b0] | (simp only [i64_w, i32_w]; rw [c17b0]) | skip)
   have H' := Am13 H
   clear H
   have hnb18 := NB185_186.out
   have hnc18 := NB186_185.out
   have hnb19 := NB185_187.out
   have hnc19 := NB187_185.out
   have hnb20 := NB185_188.out
   have hnc20 := NB188_185.out
   have hcz21_0 : w12.cell? ⟨gb185, 0, none⟩ = some (.string a0_0) := (kc13 BK185.out 0).trans rfl
   have hcz21_1 : w12.cell? ⟨gb185, 1, none⟩ = some (.string a0_1) := (kc13 BK185.out 1).trans rfl
   have hfz21_0 := kz13 BK185.out 0
   have hfz21_1 := kz13 BK185.out 1
   go_wp2
   go_meet
   case rel => exact ⟨_, (true), (by first | rfl | (simp; done) | (simp [*]; done)), H', ⟨by first | omega | exact Nat.le_refl _⟩, ⟨by (with_reducible repeat first | apply kn13 | apply kd13 | apply ka13); refine kf13 ?_ NB185_188.out _; (with_reducible repeat first | apply kn13 | apply kd13 | apply ka13); refine kf13 ?_ NB185_188.out _; (with_reducible repeat first | apply kn13 | apply kd13 | apply ka13); exact BK185.out⟩, ⟨by (with_reducible repeat first | apply kn13 | apply kd13 | apply ka13); refine kf13 ?_ NB186_188.out _; (with_reducible repeat first | apply kn13 | apply kd13 | apply ka13); refine kf13 ?_ NB186_188.out _; (with_reducible repeat first | apply kn13 | apply kd13 | apply ka13); exact BK186.out⟩, ⟨by (with_reducible repeat first | apply kn13 | apply kd13 | apply ka13); refine kf13 ?_ NB187_188.out _; (with_reducible repeat first | apply kn13 | apply kd13 | apply ka13); refine kf13 ?_ NB187_188.out _; (with_reducible repeat first | apply kn13 | apply kd13 | apply ka13); exact BK187.out⟩, ⟨by (with_reducible repeat first | apply kn13 | apply kd13 | apply ka13); refine blk_put (cs:=#[.string (smax a0_0 a1_0), .string (⟨#[]⟩ : ByteArray)]) ?_ 1 _ rfl; (with_reducible repeat first | apply kn13 | apply kd13 | apply ka13); refine blk_put (cs:=#[.string (⟨#[]⟩ : ByteArray), .string (⟨#[]⟩ : ByteArray)]) ?_ 0 _ rfl; (with_reducible repeat first | apply kn13 | apply kd13 | apply ka13); exact BK188.out⟩, ⟨by repeat (first | (with_reducible first | exact HB.out | apply ba13 | apply bn13 | apply bd13 | refine bs13 ?_ GE185.out | refine bs13 ?_ GE186.out | refine bs13 ?_ GE187.out | refine bs13 ?_ GE188.out) | exact HB.out)⟩⟩
  ·rw [if_neg c17] at H
   have c17b0 : (a0_1.toList == ([] : List UInt8)) = false := beq_eq_false_iff_ne.mpr c17
   have c17b1 : (a0_1.toList != ([] : List UInt8)) = true := bne_iff_ne.mpr c17
   (first | rw [c17b0] | (simp only [i64_w, i32_w]; rw [c17b0]) | skip)
   by_cases c22 : a1_1.toList = ([] : List UInt8)
   ·rw [if_pos c22] at H
    have c22b0 : (a1_1.toList == ([] : List UInt8)) = true := beq_iff_eq.mpr c22
    have c22b1 : (a1_1.toList != ([] : List UInt8)) = false := bne_eq_false_iff_eq.mpr c22
    clear c22
    have H' := Am13 H
    clear H
    have hnb23 := NB185_186.out
    have hnc23 := NB186_185.out
    have hnb24 := NB185_187.out
    have hnc24 := NB187_185.out
    have hnb25 := NB185_188.out
    have hnc25 := NB188_185.out
    have hcz26_0 : w12.cell? ⟨gb185, 0, none⟩ = some (.string a0_0) := (kc13 BK185.out 0).trans rfl
    have hcz26_1 : w12.cell? ⟨gb185, 1, none⟩ = some (.string a0_1) := (kc13 BK185.out 1).trans rfl
    have hfz26_0 := kz13 BK185.out 0
    have hfz26_1 := kz13 BK185.out 1
    have hnb27 := NB186_187.out
    have hnc27 := NB187_186.out
    have hnb28 := NB186_188.out
    have hnc28 := NB188_186.out
    have hcz29_0 : w12.cell? ⟨gb186, 0, none⟩ = some (.string a1_0) := (kc13 BK186.out 0).trans rfl
    have hcz29_1 : w12.cell? ⟨gb186, 1, none⟩ = some (.string a1_1) := (kc13 BK186.out 1).trans rfl
    have hfz29_0 := kz13 BK186.out 0
    have hfz29_1 := kz13 BK186.out 1
    go_wp2
    go_meet
    case rel => exact ⟨_, (false), (by first | rfl | (simp; done) | (simp [*]; done)), H', ⟨by first | omega | exact Nat.le_refl _⟩, ⟨by (with_reducible repeat first | apply kn13 | apply kd13 | apply ka13); refine kf13 ?_ NB185_188.out _; (with_reducible repeat first | apply kn13 | apply kd13 | apply ka13); refine kf13 ?_ NB185_188.out _; (with_reducible repeat first | apply kn13 | apply kd13 | apply ka13); exact BK185.out⟩, ⟨by (with_reducible repeat first | apply kn13 | apply kd13 | apply ka13); refine kf13 ?_ NB186_188.out _; (with_reducible repeat first | apply kn13 | apply kd13 | apply ka13); refine kf13 ?_ NB186_188.out _; (with_reducible repeat first | apply kn13 | apply kd13 | apply ka13); exact BK186.out⟩, ⟨by (with_reducible repeat first | apply kn13 | apply kd13 | apply ka13); refine kf13 ?_ NB187_188.out _; (with_reducible repeat first | apply kn13 | apply kd13 | apply ka13); refine kf13 ?_ NB187_188.out _; (with_reducible repeat first | apply kn13 | apply kd13 | apply ka13); exact BK187.out⟩, ⟨by (with_reducible repeat first | apply kn13 | apply kd13 | apply ka13); refine blk_put (cs:=#[.string (smax a0_0 a1_0), .string (⟨#[]⟩ : ByteArray)]) ?_ 1 _ rfl; (with_reducible repeat first | apply kn13 | apply kd13 | apply ka13); refine blk_put (cs:=#[.string (⟨#[]⟩ : ByteArray), .string (⟨#[]⟩ : ByteArray)]) ?_ 0 _ rfl; (with_reducible repeat first | apply kn13 | apply kd13 | apply ka13); exact BK188.out⟩, ⟨by repeat (first | (with_reducible first | exact HB.out | apply ba13 | apply bn13 | apply bd13 | refine bs13 ?_ GE185.out | refine bs13 ?_ GE186.out | refine bs13 ?_ GE187.out | refine bs13 ?_ GE188.out) | exact HB.out)⟩⟩
   ·rw [if_neg c22] at H
    have c22b0 : (a1_1.toList == ([] : List UInt8)) = false := beq_eq_false_iff_ne.mpr c22
    have c22b1 : (a1_1.toList != ([] : List UInt8)) = true := bne_iff_ne.mpr c22
    have H' := Am13 H
    clear H
    have hnb30 := NB185_186.out
    have hnc30 := NB186_185.out
    have hnb31 := NB185_187.out
    have hnc31 := NB187_185.out
    have hnb32 := NB185_188.out
    have hnc32 := NB188_185.out
    have hcz33_0 : w12.cell? ⟨gb185, 0, none⟩ = some (.string a0_0) := (kc13 BK185.out 0).trans rfl
    have hcz33_1 : w12.cell? ⟨gb185, 1, none⟩ = some (.string a0_1) := (kc13 BK185.out 1).trans rfl
    have hfz33_0 := kz13 BK185.out 0
    have hfz33_1 := kz13 BK185.out 1
    have hnb34 := NB186_187.out
    have hnc34 := NB187_186.out
    have hnb35 := NB186_188.out
    have hnc35 := NB188_186.out
    have hcz36_0 : w12.cell? ⟨gb186, 0, none⟩ = some (.string a1_0) := (kc13 BK186.out 0).trans rfl
    have hcz36_1 : w12.cell? ⟨gb186, 1, none⟩ = some (.string a1_1) := (kc13 BK186.out 1).trans rfl
    have hfz36_0 := kz13 BK186.out 0
    have hfz36_1 := kz13 BK186.out 1
    go_wp2
    go_meet
    case rel => exact ⟨_, ((Op.bytesLess a1_1.toList a0_1.toList)), (by first | rfl | (simp; done) | (simp [*]; done)), H', ⟨by first | omega | exact Nat.le_refl _⟩, ⟨by (with_reducible repeat first | apply kn13 | apply kd13 | apply ka13); refine kf13 ?_ NB185_188.out _; (with_reducible repeat first | apply kn13 | apply kd13 | apply ka13); refine kf13 ?_ NB185_188.out _; (with_reducible repeat first | apply kn13 | apply kd13 | apply ka13); exact BK185.out⟩, ⟨by (with_reducible repeat first | apply kn13 | apply kd13 | apply ka13); refine kf13 ?_ NB186_188.out _; (with_reducible repeat first | apply kn13 | apply kd13 | apply ka13); refine kf13 ?_ NB186_188.out _; (with_reducible repeat first | apply kn13 | apply kd13 | apply ka13); exact BK186.out⟩, ⟨by (with_reducible repeat first | apply kn13 | apply kd13 | apply ka13); refine kf13 ?_ NB187_188.out _; (with_reducible repeat first | apply kn13 | apply kd13 | apply ka13); refine kf13 ?_ NB187_188.out _; (with_reducible repeat first | apply kn13 | apply kd13 | apply ka13); exact BK187.out⟩, ⟨by (with_reducible repeat first | apply kn13 | apply kd13 | apply ka13); refine blk_put (cs:=#[.string (smax a0_0 a1_0), .string (⟨#[]⟩ : ByteArray)]) ?_ 1 _ rfl; (with_reducible repeat first | apply kn13 | apply kd13 | apply ka13); refine blk_put (cs:=#[.string (⟨#[]⟩ : ByteArray), .string (⟨#[]⟩ : ByteArray)]) ?_ 0 _ rfl; (with_reducible repeat first | apply kn13 | apply kd13 | apply ka13); exact BK188.out⟩, ⟨by repeat (first | (with_reducible first | exact HB.out | apply ba13 | apply bn13 | apply bd13 | refine bs13 ?_ GE185.out | refine bs13 ?_ GE186.out | refine bs13 ?_ GE187.out | refine bs13 ?_ GE188.out) | exact HB.out)⟩⟩
 case rest =>
  clear HC3
  try clear c1
  try clear c2
  try clear p2
  try clear c3
  try clear c7
  try clear c8
  try clear c10
  try clear c13
  try clear c14
  try clear c15
  try clear c17
  try clear c17b0
  try clear c17b1
  try clear c18
  try clear c19
  try clear c20
  try clear c22
  try clear c22b0
  try clear c22b1
  try clear c23
  try clear c24
  try clear c25
  try clear c27
  try clear c28
  try clear c30
  try clear c31
  try clear c32
  try clear c34
  try clear c35
  try clear hcz11_0
  try clear hcz11_1
  try clear hcz16_0
  try clear hcz16_1
  try clear hcz21_0
  try clear hcz21_1
  try clear hcz26_0
  try clear hcz26_1
  try clear hcz29_0
  try clear hcz29_1
  try clear hcz33_0
  try clear hcz33_1
  try clear hcz36_0
  try clear hcz36_1
  try clear hcz9_0
  try clear hcz9_1
  try clear hfz11_0
  try clear hfz11_1
  try clear hfz16_0
  try clear hfz16_1
  try clear hfz21_0
  try clear hfz21_1
  try clear hfz26_0
  try clear hfz26_1
  try clear hfz29_0
  try clear hfz29_1
  try clear hfz33_0
  try clear hfz33_1
  try clear hfz36_0
  try clear hfz36_1
  try clear hfz9_0
  try clear hfz9_1
  obtain ⟨kq, x29_2, rfl, HA, HJ2, BK185, BK186, BK187, BK188, HB⟩ := hcut
  cases kq with
  | zero => exact absurd HA.out (by simp [watershedref04_Meet.j0])
  | succ kj2 =>
   have H := HA.out
   clear HA
   simp only [watershedref04_Meet.j0] at H
   have HC37 := Am13 H
   clear H
   go_upto_if 29 with (fail)
   go_cut [] (fun wc => ∃ (kq : Nat) (x189001_36 : ByteArray), Aside0 (watershedref04_Meet.j1 kq a0_0 a0_1 a1_0 a1_1 (smax a0_0 a1_0) x189001_36 = some (r1, r2, r3)) ∧ Aside0 (kq ≤ kj2) ∧ Aside0 (wc.heap[gb185]? = some (.cells #[.string a0_0, .string a0_1] 26 (0, 0))) ∧ Aside0 (wc.heap[gb186]? = some (.cells #[.string a1_0, .string a1_1] 26 (0, 0))) ∧ Aside0 (wc.heap[gb187]? = some (.cells #[.string (⟨#[]⟩ : ByteArray), .string (⟨#[]⟩ : ByteArray)] 26 (0, 0))) ∧ Aside0 (wc.heap[gb188]? = some (.cells #[.string (smax a0_0 a1_0), .string x189001_36] 26 (0, 0))) ∧ Aside0 (Below w.heap.size w wc))
   case first =>
    have H := HC37.out
    clear HC37
    by_cases c38 : x29_2 = true
    ·subst c38
     rw [if_pos rfl] at H
     have H' := Am13 H
     clear H
     have hnb39 := NB186_185.out
     have hnc39 := NB185_186.out
     have hnb40 := NB186_187.out
     have hnc40 := NB187_186.out
     have hnb41 := NB186_188.out
     have hnc41 := NB188_186.out
     have hcz42_0 : wc.cell? ⟨gb186, 0, none⟩ = some (.string a1_0) := (kc13 BK186.out 0).trans rfl
     have hcz42_1 : wc.cell? ⟨gb186, 1, none⟩ = some (.string a1_1) := (kc13 BK186.out 1).trans rfl
     have hfz42_0 := kz13 BK186.out 0
     have hfz42_1 := kz13 BK186.out 1
     have hnb43 := NB188_185.out
     have hnc43 := NB185_188.out
     have hnb44 := NB188_187.out
     have hnc44 := NB187_188.out
     have hcz45_0 : wc.cell? ⟨gb188, 0, none⟩ = some (.string (smax a0_0 a1_0)) := (kc13 BK188.out 0).trans rfl
     have hcz45_1 : wc.cell? ⟨gb188, 1, none⟩ = some (.string a0_1) := (kc13 BK188.out 1).trans rfl
     have hfz45_0 := kz13 BK188.out 0
     have hfz45_1 := kz13 BK188.out 1
     go_wp2
     go_meet
     case rel => exact ⟨_, (a1_1), H', ⟨by have := HJ2.out; first | omega | exact Nat.le_refl _⟩, ⟨by (with_reducible repeat first | apply kn13 | apply kd13 | apply ka13); refine kf13 ?_ NB185_188.out _; (with_reducible repeat first | apply kn13 | apply kd13 | apply ka13); exact BK185.out⟩, ⟨by (with_reducible repeat first | apply kn13 | apply kd13 | apply ka13); refine kf13 ?_ NB186_188.out _; (with_reducible repeat first | apply kn13 | apply kd13 | apply ka13); exact BK186.out⟩, ⟨by (with_reducible repeat first | apply kn13 | apply kd13 | apply ka13); refine kf13 ?_ NB187_188.out _; (with_reducible repeat first | apply kn13 | apply kd13 | apply ka13); exact BK187.out⟩, ⟨by (with_reducible repeat first | apply kn13 | apply kd13 | apply ka13); refine blk_put (cs:=#[.string (smax a0_0 a1_0), .string a0_1]) ?_ 1 _ rfl; (with_reducible repeat first | apply kn13 | apply kd13 | apply ka13); exact BK188.out⟩, ⟨by repeat (first | (with_reducible first | exact HB.out | apply ba13 | apply bn13 | apply bd13 | refine bs13 ?_ GE185.out | refine bs13 ?_ GE186.out | refine bs13 ?_ GE187.out | refine bs13 ?_ GE188.out) | exact HB.out)⟩⟩
    ·replace c38 := Bool.eq_false_iff.mpr c38
     subst c38
     rw [if_neg (show ¬ (false = true) by decide)] at H
     have H' := Am13 H
     clear H
     go_wp2
     go_meet
     case rel => exact ⟨_, (a0_1), H', ⟨by have := HJ2.out; first | omega | exact Nat.le_refl _⟩, ⟨by (with_reducible repeat first | apply kn13 | apply kd13 | apply ka13); exact BK185.out⟩, ⟨by (with_reducible repeat first | apply kn13 | apply kd13 | apply ka13); exact BK186.out⟩, ⟨by (with_reducible repeat first | apply kn13 | apply kd13 | apply ka13); exact BK187.out⟩, ⟨by (with_reducible repeat first | apply kn13 | apply kd13 | apply ka13); exact BK188.out⟩, ⟨by repeat (first | (with_reducible first | exact HB.out | apply ba13 | apply bn13 | apply bd13 | refine bs13 ?_ GE185.out | refine bs13 ?_ GE186.out | refine bs13 ?_ GE187.out | refine bs13 ?_ GE188.out) | exact HB.out)⟩⟩
   case rest =>
    clear HC37
    try clear c1
    try clear c2
    try clear p2
    try clear c3
    try clear c4
    try clear c7
    try clear c8
    try clear c10
    try clear c13
    try clear c14
    try clear c15
    try clear c17
    try clear c17b0
    try clear c17b1
    try clear c18
    try clear c19
    try clear c20
    try clear c22
    try clear c22b0
    try clear c22b1
    try clear c23
    try clear c24
    try clear c25
    try clear c27
    try clear c28
    try clear c30
    try clear c31
    try clear c32
    try clear c34
    try clear c35
    try clear c38
    try clear c39
    try clear c40
    try clear c41
    try clear c43
    try clear c44
    try clear hcz11_0
    try clear hcz11_1
    try clear hcz16_0
    try clear hcz16_1
    try clear hcz21_0
    try clear hcz21_1
    try clear hcz26_0
    try clear hcz26_1
    try clear hcz29_0
    try clear hcz29_1
    try clear hcz33_0
    try clear hcz33_1
    try clear hcz36_0
    try clear hcz36_1
    try clear hcz42_0
    try clear hcz42_1
    try clear hcz45_0
    try clear hcz45_1
    try clear hcz9_0
    try clear hcz9_1
    try clear hfz11_0
    try clear hfz11_1
    try clear hfz16_0
    try clear hfz16_1
    try clear hfz21_0
    try clear hfz21_1
    try clear hfz26_0
    try clear hfz26_1
    try clear hfz29_0
    try clear hfz29_1
    try clear hfz33_0
    try clear hfz33_1
    try clear hfz36_0
    try clear hfz36_1
    try clear hfz42_0
    try clear hfz42_1
    try clear hfz45_0
    try clear hfz45_1
    try clear hfz9_0
    try clear hfz9_1
    try clear p2
    obtain ⟨kq, x189001_36, HA, HJ36, BK185, BK186, BK187, BK188, HB⟩ := hcut
    cases kq with
    | zero => exact absurd HA.out (by simp [watershedref04_Meet.j1])
    | succ kj36 =>
     have H := HA.out
     clear HA
     simp only [watershedref04_Meet.j1] at H
     replace H := Option.bind_eq_some_iff.mp H
     obtain ⟨t189, A460, H⟩ := H
     try dsimp only at H
     have A46 := Am13 A460
     clear A460
     by_cases c47 : t189 = true
     ·subst c47
      rw [if_pos rfl] at H
      replace H := Option.bind_eq_some_iff.mp H
      obtain ⟨t190, A480, H⟩ := H
      try dsimp only at H
      have A48 := Am13 A480
      clear A480
      by_cases c49 : t190 = true
      ·subst c49
       rw [if_pos rfl] at H
       replace H := Option.bind_eq_some_iff.mp H
       obtain ⟨t191, A500, H⟩ := H
       try dsimp only at H
       have A50 := Am13 A500
       clear A500
       by_cases c51 : t191 = true
       ·subst c51
        rw [if_pos rfl] at H
        simp only [Option.some.injEq, Prod.mk.injEq] at H
        obtain ⟨rfl, rfl, rfl⟩ := H
        have hnb52 := NB185_186.out
        have hnc52 := NB186_185.out
        have hnb53 := NB185_187.out
        have hnc53 := NB187_185.out
        have hnb54 := NB185_188.out
        have hnc54 := NB188_185.out
        have hcz55_0 : wc.cell? ⟨gb185, 0, none⟩ = some (.string a0_0) := (kc13 BK185.out 0).trans rfl
        have hcz55_1 : wc.cell? ⟨gb185, 1, none⟩ = some (.string a0_1) := (kc13 BK185.out 1).trans rfl
        have hfz55_0 := kz13 BK185.out 0
        have hfz55_1 := kz13 BK185.out 1
        go_wp2_with (first | ((with_reducible refine gate_callee (f:=17) rfl ?_); refine goesL_ (some 34) rfl rfl Try.func17 (by kernel_rfl) rfl #[.agg #[.string a0_0, .string a0_1]] rfl (by (try simp only [ma13, mc13, mn13]); first | done | rfl | (simp only [ld13, lt_13]; rfl)) ?_; (with_reducible refine (watershedref04_Right.calls kj36 a0_0 a0_1 true _ A46.out).mono ?_); rintro e w56 ⟨rfl, hb⟩; refine ⟨_, rfl, ?_⟩; replace BK185 := Am13 (kb13 (g:=gb185) (o:=.cells #[.string a0_0, .string a0_1] 26 (0, 0)) (by (with_reducible repeat first | apply kn13 | apply kd13 | apply ka13); exact BK185.out) hb); replace BK186 := Am13 (kb13 (g:=gb186) (o:=.cells #[.string a1_0, .string a1_1] 26 (0, 0)) (by (with_reducible repeat first | apply kn13 | apply kd13 | apply ka13); exact BK186.out) hb); replace BK187 := Am13 (kb13 (g:=gb187) (o:=.cells #[.string (⟨#[]⟩ : ByteArray), .string (⟨#[]⟩ : ByteArray)] 26 (0, 0)) (by (with_reducible repeat first | apply kn13 | apply kd13 | apply ka13); exact BK187.out) hb); replace BK188 := Am13 (kb13 (g:=gb188) (o:=.cells #[.string (smax a0_0 a1_0), .string x189001_36] 26 (0, 0)) (by (with_reducible repeat first | apply kn13 | apply kd13 | apply ka13); exact BK188.out) hb); replace HB := Am13 (bp13 (by repeat (first | (with_reducible first | exact HB.out | apply ba13 | apply bn13 | apply bd13 | refine bs13 ?_ GE185.out | refine bs13 ?_ GE186.out | refine bs13 ?_ GE187.out | refine bs13 ?_ GE188.out) | exact HB.out)) hb); (try clear hb); (try clear hb2); (try clear hk); (try clear hi); have hnb57 := NB186_187.out; have hnc57 := NB187_186.out; have hnb58 := NB186_188.out; have hnc58 := NB188_186.out; have hcz59_0 : w56.cell? ⟨gb186, 0, none⟩ = some (.string a1_0) := (kc13 BK186.out 0).trans rfl; have hcz59_1 : w56.cell? ⟨gb186, 1, none⟩ = some (.string a1_1) := (kc13 BK186.out 1).trans rfl; have hfz59_0 := kz13 BK186.out 0; have hfz59_1 := kz13 BK186.out 1) | (go_at_call 17; (with_reducible refine (watershedref04_Right.calls kj36 a1_0 a1_1 true _ A48.out).mono ?_); rintro e w60 ⟨rfl, hb⟩; replace BK185 := Am13 (kb13 (g:=gb185) (o:=.cells #[.string a0_0, .string a0_1] 26 (0, 0)) (by (with_reducible repeat first | apply kn13 | apply kd13 | apply ka13); exact BK185.out) hb); replace BK186 := Am13 (kb13 (g:=gb186) (o:=.cells #[.string a1_0, .string a1_1] 26 (0, 0)) (by (with_reducible repeat first | apply kn13 | apply kd13 | apply ka13); exact BK186.out) hb); replace BK187 := Am13 (kb13 (g:=gb187) (o:=.cells #[.string (⟨#[]⟩ : ByteArray), .string (⟨#[]⟩ : ByteArray)] 26 (0, 0)) (by (with_reducible repeat first | apply kn13 | apply kd13 | apply ka13); exact BK187.out) hb); replace BK188 := Am13 (kb13 (g:=gb188) (o:=.cells #[.string (smax a0_0 a1_0), .string x189001_36] 26 (0, 0)) (by (with_reducible repeat first | apply kn13 | apply kd13 | apply ka13); exact BK188.out) hb); replace HB := Am13 (bp13 (by repeat (first | (with_reducible first | exact HB.out | apply ba13 | apply bn13 | apply bd13 | refine bs13 ?_ GE185.out | refine bs13 ?_ GE186.out | refine bs13 ?_ GE187.out | refine bs13 ?_ GE188.out) | exact HB.out)) hb); (try clear hb); (try clear hb2); (try clear hk); (try clear hi); have hnb61 := NB188_187.out; have hnc61 := NB187_188.out; have hcz62_0 : w60.cell? ⟨gb188, 0, none⟩ = some (.string (smax a0_0 a1_0)) := (kc13 BK188.out 0).trans rfl; have hcz62_1 : w60.cell? ⟨gb188, 1, none⟩ = some (.string x189001_36) := (kc13 BK188.out 1).trans rfl; have hfz62_0 := kz13 BK188.out 0; have hfz62_1 := kz13 BK188.out 1) | (go_at_call 17; (with_reducible refine (watershedref04_Right.calls kj36 (smax a0_0 a1_0) x189001_36 true _ A50.out).mono ?_); rintro e w63 ⟨rfl, hb⟩; replace BK185 := Am13 (kb13 (g:=gb185) (o:=.cells #[.string a0_0, .string a0_1] 26 (0, 0)) (by (with_reducible repeat first | apply kn13 | apply kd13 | apply ka13); exact BK185.out) hb); replace BK186 := Am13 (kb13 (g:=gb186) (o:=.cells #[.string a1_0, .string a1_1] 26 (0, 0)) (by (with_reducible repeat first | apply kn13 | apply kd13 | apply ka13); exact BK186.out) hb); replace BK187 := Am13 (kb13 (g:=gb187) (o:=.cells #[.string (⟨#[]⟩ : ByteArray), .string (⟨#[]⟩ : ByteArray)] 26 (0, 0)) (by (with_reducible repeat first | apply kn13 | apply kd13 | apply ka13); exact BK187.out) hb); replace BK188 := Am13 (kb13 (g:=gb188) (o:=.cells #[.string (smax a0_0 a1_0), .string x189001_36] 26 (0, 0)) (by (with_reducible repeat first | apply kn13 | apply kd13 | apply ka13); exact BK188.out) hb); replace HB := Am13 (bp13 (by repeat (first | (with_reducible first | exact HB.out | apply ba13 | apply bn13 | apply bd13 | refine bs13 ?_ GE185.out | refine bs13 ?_ GE186.out | refine bs13 ?_ GE187.out | refine bs13 ?_ GE188.out) | exact HB.out)) hb); (try clear hb); (try clear hb2); (try clear hk); (try clear hi); have hcz64_0 : w63.cell? ⟨gb188, 0, none⟩ = some (.string (smax a0_0 a1_0)) := (kc13 BK188.out 0).trans rfl; have hcz64_1 : w63.cell? ⟨gb188, 1, none⟩ = some (.string x189001_36) := (kc13 BK188.out 1).trans rfl; have hfz64_0 := kz13 BK188.out 0; have hfz64_1 := kz13 BK188.out 1; have hcz65_0 : w63.cell? ⟨gb187, 0, none⟩ = some (.string (⟨#[]⟩ : ByteArray)) := (kc13 BK187.out 0).trans rfl; have hcz65_1 : w63.cell? ⟨gb187, 1, none⟩ = some (.string (⟨#[]⟩ : ByteArray)) := (kc13 BK187.out 1).trans rfl; have hfz65_0 := kz13 BK187.out 0; have hfz65_1 := kz13 BK187.out 1))
        refine bodyPost_ret (results_ct rfl _ _ gb187 26 #[.string (smax a0_0 a1_0), .string x189001_36] (0, 0) _ rfl (by (with_reducible repeat first | apply kn13 | apply kd13 | apply ka13); refine blk_put (cs:=#[.string (smax a0_0 a1_0), .string (⟨#[]⟩ : ByteArray)]) ?_ 1 _ rfl; (with_reducible repeat first | apply kn13 | apply kd13 | apply ka13); refine blk_put (cs:=#[.string (⟨#[]⟩ : ByteArray), .string (⟨#[]⟩ : ByteArray)]) ?_ 0 _ rfl; (with_reducible repeat first | apply kn13 | apply kd13 | apply ka13); exact BK187.out) Try.underlying26 rfl (by kernel_rfl)) rfl ?_
        exact ⟨by first | rfl | (simp [errW_none, errW_some] <;> rfl) | (simp [*, errW_none, errW_some] <;> rfl), by repeat (first | (with_reducible first | exact HB.out | apply ba13 | apply bn13 | apply bd13 | refine bs13 ?_ GE185.out | refine bs13 ?_ GE186.out | refine bs13 ?_ GE187.out | refine bs13 ?_ GE188.out) | exact HB.out)⟩
       ·replace c51 := Bool.eq_false_iff.mpr c51
        subst c51
        rw [if_neg (show ¬ (false = true) by decide)] at H
        simp only [Option.some.injEq, Prod.mk.injEq] at H
        obtain ⟨rfl, rfl, rfl⟩ := H
        have hnb66 := NB185_186.out
        have hnc66 := NB186_185.out
        have hnb67 := NB185_187.out
        have hnc67 := NB187_185.out
        have hnb68 := NB185_188.out
        have hnc68 := NB188_185.out
        have hcz69_0 : wc.cell? ⟨gb185, 0, none⟩ = some (.string a0_0) := (kc13 BK185.out 0).trans rfl
        have hcz69_1 : wc.cell? ⟨gb185, 1, none⟩ = some (.string a0_1) := (kc13 BK185.out 1).trans rfl
        have hfz69_0 := kz13 BK185.out 0
        have hfz69_1 := kz13 BK185.out 1
        go_wp2_with (first | ((with_reducible refine gate_callee (f:=17) rfl ?_); refine goesL_ (some 34) rfl rfl Try.func17 (by kernel_rfl) rfl #[.agg #[.string a0_0, .string a0_1]] rfl (by (try simp only [ma13, mc13, mn13]); first | done | rfl | (simp only [ld13, lt_13]; rfl)) ?_; (with_reducible refine (watershedref04_Right.calls kj36 a0_0 a0_1 true _ A46.out).mono ?_); rintro e w70 ⟨rfl, hb⟩; refine ⟨_, rfl, ?_⟩; replace BK185 := Am13 (kb13 (g:=gb185) (o:=.cells #[.string a0_0, .string a0_1] 26 (0, 0)) (by (with_reducible repeat first | apply kn13 | apply kd13 | apply ka13); exact BK185.out) hb); replace BK186 := Am13 (kb13 (g:=gb186) (o:=.cells #[.string a1_0, .string a1_1] 26 (0, 0)) (by (with_reducible repeat first | apply kn13 | apply kd13 | apply ka13); exact BK186.out) hb); replace BK187 := Am13 (kb13 (g:=gb187) (o:=.cells #[.string (⟨#[]⟩ : ByteArray), .string (⟨#[]⟩ : ByteArray)] 26 (0, 0)) (by (with_reducible repeat first | apply kn13 | apply kd13 | apply ka13); exact BK187.out) hb); replace BK188 := Am13 (kb13 (g:=gb188) (o:=.cells #[.string (smax a0_0 a1_0), .string x189001_36] 26 (0, 0)) (by (with_reducible repeat first | apply kn13 | apply kd13 | apply ka13); exact BK188.out) hb); replace HB := Am13 (bp13 (by repeat (first | (with_reducible first | exact HB.out | apply ba13 | apply bn13 | apply bd13 | refine bs13 ?_ GE185.out | refine bs13 ?_ GE186.out | refine bs13 ?_ GE187.out | refine bs13 ?_ GE188.out) | exact HB.out)) hb); (try clear hb); (try clear hb2); (try clear hk); (try clear hi); have hnb71 := NB186_187.out; have hnc71 := NB187_186.out; have hnb72 := NB186_188.out; have hnc72 := NB188_186.out; have hcz73_0 : w70.cell? ⟨gb186, 0, none⟩ = some (.string a1_0) := (kc13 BK186.out 0).trans rfl; have hcz73_1 : w70.cell? ⟨gb186, 1, none⟩ = some (.string a1_1) := (kc13 BK186.out 1).trans rfl; have hfz73_0 := kz13 BK186.out 0; have hfz73_1 := kz13 BK186.out 1) | (go_at_call 17; (with_reducible refine (watershedref04_Right.calls kj36 a1_0 a1_1 true _ A48.out).mono ?_); rintro e w74 ⟨rfl, hb⟩; replace BK185 := Am13 (kb13 (g:=gb185) (o:=.cells #[.string a0_0, .string a0_1] 26 (0, 0)) (by (with_reducible repeat first | apply kn13 | apply kd13 | apply ka13); exact BK185.out) hb); replace BK186 := Am13 (kb13 (g:=gb186) (o:=.cells #[.string a1_0, .string a1_1] 26 (0, 0)) (by (with_reducible repeat first | apply kn13 | apply kd13 | apply ka13); exact BK186.out) hb); replace BK187 := Am13 (kb13 (g:=gb187) (o:=.cells #[.string (⟨#[]⟩ : ByteArray), .string (⟨#[]⟩ : ByteArray)] 26 (0, 0)) (by (with_reducible repeat first | apply kn13 | apply kd13 | apply ka13); exact BK187.out) hb); replace BK188 := Am13 (kb13 (g:=gb188) (o:=.cells #[.string (smax a0_0 a1_0), .string x189001_36] 26 (0, 0)) (by (with_reducible repeat first | apply kn13 | apply kd13 | apply ka13); exact BK188.out) hb); replace HB := Am13 (bp13 (by repeat (first | (with_reducible first | exact HB.out | apply ba13 | apply bn13 | apply bd13 | refine bs13 ?_ GE185.out | refine bs13 ?_ GE186.out | refine bs13 ?_ GE187.out | refine bs13 ?_ GE188.out) | exact HB.out)) hb); (try clear hb); (try clear hb2); (try clear hk); (try clear hi); have hnb75 := NB188_187.out; have hnc75 := NB187_188.out; have hcz76_0 : w74.cell? ⟨gb188, 0, none⟩ = some (.string (smax a0_0 a1_0)) := (kc13 BK188.out 0).trans rfl; have hcz76_1 : w74.cell? ⟨gb188, 1, none⟩ = some (.string x189001_36) := (kc13 BK188.out 1).trans rfl; have hfz76_0 := kz13 BK188.out 0; have hfz76_1 := kz13 BK188.out 1) | (go_at_call 17; (with_reducible refine (watershedref04_Right.calls kj36 (smax a0_0 a1_0) x189001_36 false _ A50.out).mono ?_); rintro e w77 ⟨rfl, hb⟩; replace BK185 := Am13 (kb13 (g:=gb185) (o:=.cells #[.string a0_0, .string a0_1] 26 (0, 0)) (by (with_reducible repeat first | apply kn13 | apply kd13 | apply ka13); exact BK185.out) hb); replace BK186 := Am13 (kb13 (g:=gb186) (o:=.cells #[.string a1_0, .string a1_1] 26 (0, 0)) (by (with_reducible repeat first | apply kn13 | apply kd13 | apply ka13); exact BK186.out) hb); replace BK187 := Am13 (kb13 (g:=gb187) (o:=.cells #[.string (⟨#[]⟩ : ByteArray), .string (⟨#[]⟩ : ByteArray)] 26 (0, 0)) (by (with_reducible repeat first | apply kn13 | apply kd13 | apply ka13); exact BK187.out) hb); replace BK188 := Am13 (kb13 (g:=gb188) (o:=.cells #[.string (smax a0_0 a1_0), .string x189001_36] 26 (0, 0)) (by (with_reducible repeat first | apply kn13 | apply kd13 | apply ka13); exact BK188.out) hb); replace HB := Am13 (bp13 (by repeat (first | (with_reducible first | exact HB.out | apply ba13 | apply bn13 | apply bd13 | refine bs13 ?_ GE185.out | refine bs13 ?_ GE186.out | refine bs13 ?_ GE187.out | refine bs13 ?_ GE188.out) | exact HB.out)) hb); (try clear hb); (try clear hb2); (try clear hk); (try clear hi); have hcz78_0 : w77.cell? ⟨gb187, 0, none⟩ = some (.string (⟨#[]⟩ : ByteArray)) := (kc13 BK187.out 0).trans rfl; have hcz78_1 : w77.cell? ⟨gb187, 1, none⟩ = some (.string (⟨#[]⟩ : ByteArray)) := (kc13 BK187.out 1).trans rfl; have hfz78_0 := kz13 BK187.out 0; have hfz78_1 := kz13 BK187.out 1))
        refine bodyPost_ret (results_ct rfl _ _ gb187 26 #[.string (⟨#[]⟩ : ByteArray), .string (⟨#[]⟩ : ByteArray)] (0, 0) _ rfl (by (with_reducible repeat first | apply kn13 | apply kd13 | apply ka13); refine blk_put (cs:=#[.string (⟨#[]⟩ : ByteArray), .string (⟨#[]⟩ : ByteArray)]) ?_ 1 _ rfl; (with_reducible repeat first | apply kn13 | apply kd13 | apply ka13); refine blk_put (cs:=#[.string (⟨#[]⟩ : ByteArray), .string (⟨#[]⟩ : ByteArray)]) ?_ 0 _ rfl; (with_reducible repeat first | apply kn13 | apply kd13 | apply ka13); exact BK187.out) Try.underlying26 rfl (by kernel_rfl)) rfl ?_
        exact ⟨by first | rfl | (simp [errW_none, errW_some] <;> rfl) | (simp [*, errW_none, errW_some] <;> rfl), by repeat (first | (with_reducible first | exact HB.out | apply ba13 | apply bn13 | apply bd13 | refine bs13 ?_ GE185.out | refine bs13 ?_ GE186.out | refine bs13 ?_ GE187.out | refine bs13 ?_ GE188.out) | exact HB.out)⟩
      ·replace c49 := Bool.eq_false_iff.mpr c49
       subst c49
       rw [if_neg (show ¬ (false = true) by decide)] at H
       simp only [Option.some.injEq, Prod.mk.injEq] at H
       obtain ⟨rfl, rfl, rfl⟩ := H
       have hnb79 := NB185_186.out
       have hnc79 := NB186_185.out
       have hnb80 := NB185_187.out
       have hnc80 := NB187_185.out
       have hnb81 := NB185_188.out
       have hnc81 := NB188_185.out
       have hcz82_0 : wc.cell? ⟨gb185, 0, none⟩ = some (.string a0_0) := (kc13 BK185.out 0).trans rfl
       have hcz82_1 : wc.cell? ⟨gb185, 1, none⟩ = some (.string a0_1) := (kc13 BK185.out 1).trans rfl
       have hfz82_0 := kz13 BK185.out 0
       have hfz82_1 := kz13 BK185.out 1
       go_wp2_with (first | ((with_reducible refine gate_callee (f:=17) rfl ?_); refine goesL_ (some 34) rfl rfl Try.func17 (by kernel_rfl) rfl #[.agg #[.string a0_0, .string a0_1]] rfl (by (try simp only [ma13, mc13, mn13]); first | done | rfl | (simp only [ld13, lt_13]; rfl)) ?_; (with_reducible refine (watershedref04_Right.calls kj36 a0_0 a0_1 true _ A46.out).mono ?_); rintro e w83 ⟨rfl, hb⟩; refine ⟨_, rfl, ?_⟩; replace BK185 := Am13 (kb13 (g:=gb185) (o:=.cells #[.string a0_0, .string a0_1] 26 (0, 0)) (by (with_reducible repeat first | apply kn13 | apply kd13 | apply ka13); exact BK185.out) hb); replace BK186 := Am13 (kb13 (g:=gb186) (o:=.cells #[.string a1_0, .string a1_1] 26 (0, 0)) (by (with_reducible repeat first | apply kn13 | apply kd13 | apply ka13); exact BK186.out) hb); replace BK187 := Am13 (kb13 (g:=gb187) (o:=.cells #[.string (⟨#[]⟩ : ByteArray), .string (⟨#[]⟩ : ByteArray)] 26 (0, 0)) (by (with_reducible repeat first | apply kn13 | apply kd13 | apply ka13); exact BK187.out) hb); replace BK188 := Am13 (kb13 (g:=gb188) (o:=.cells #[.string (smax a0_0 a1_0), .string x189001_36] 26 (0, 0)) (by (with_reducible repeat first | apply kn13 | apply kd13 | apply ka13); exact BK188.out) hb); replace HB := Am13 (bp13 (by repeat (first | (with_reducible first | exact HB.out | apply ba13 | apply bn13 | apply bd13 | refine bs13 ?_ GE185.out | refine bs13 ?_ GE186.out | refine bs13 ?_ GE187.out | refine bs13 ?_ GE188.out) | exact HB.out)) hb); (try clear hb); (try clear hb2); (try clear hk); (try clear hi); have hnb84 := NB186_187.out; have hnc84 := NB187_186.out; have hnb85 := NB186_188.out; have hnc85 := NB188_186.out; have hcz86_0 : w83.cell? ⟨gb186, 0, none⟩ = some (.string a1_0) := (kc13 BK186.out 0).trans rfl; have hcz86_1 : w83.cell? ⟨gb186, 1, none⟩ = some (.string a1_1) := (kc13 BK186.out 1).trans rfl; have hfz86_0 := kz13 BK186.out 0; have hfz86_1 := kz13 BK186.out 1) | (go_at_call 17; (with_reducible refine (watershedref04_Right.calls kj36 a1_0 a1_1 false _ A48.out).mono ?_); rintro e w87 ⟨rfl, hb⟩; replace BK185 := Am13 (kb13 (g:=gb185) (o:=.cells #[.string a0_0, .string a0_1] 26 (0, 0)) (by (with_reducible repeat first | apply kn13 | apply kd13 | apply ka13); exact BK185.out) hb); replace BK186 := Am13 (kb13 (g:=gb186) (o:=.cells #[.string a1_0, .string a1_1] 26 (0, 0)) (by (with_reducible repeat first | apply kn13 | apply kd13 | apply ka13); exact BK186.out) hb); replace BK187 := Am13 (kb13 (g:=gb187) (o:=.cells #[.string (⟨#[]⟩ : ByteArray), .string (⟨#[]⟩ : ByteArray)] 26 (0, 0)) (by (with_reducible repeat first | apply kn13 | apply kd13 | apply ka13); exact BK187.out) hb); replace BK188 := Am13 (kb13 (g:=gb188) (o:=.cells #[.string (smax a0_0 a1_0), .string x189001_36] 26 (0, 0)) (by (with_reducible repeat first | apply kn13 | apply kd13 | apply ka13); exact BK188.out) hb); replace HB := Am13 (bp13 (by repeat (first | (with_reducible first | exact HB.out | apply ba13 | apply bn13 | apply bd13 | refine bs13 ?_ GE185.out | refine bs13 ?_ GE186.out | refine bs13 ?_ GE187.out | refine bs13 ?_ GE188.out) | exact HB.out)) hb); (try clear hb); (try clear hb2); (try clear hk); (try clear hi); have hnb88 := NB187_188.out; have hnc88 := NB188_187.out; have hcz89_0 : w87.cell? ⟨gb187, 0, none⟩ = some (.string (⟨#[]⟩ : ByteArray)) := (kc13 BK187.out 0).trans rfl; have hcz89_1 : w87.cell? ⟨gb187, 1, none⟩ = some (.string (⟨#[]⟩ : ByteArray)) := (kc13 BK187.out 1).trans rfl; have hfz89_0 := kz13 BK187.out 0; have hfz89_1 := kz13 BK187.out 1))
       refine bodyPost_ret (results_ct rfl _ _ gb187 26 #[.string (⟨#[]⟩ : ByteArray), .string (⟨#[]⟩ : ByteArray)] (0, 0) _ rfl (by (with_reducible repeat first | apply kn13 | apply kd13 | apply ka13); refine blk_put (cs:=#[.string (⟨#[]⟩ : ByteArray), .string (⟨#[]⟩ : ByteArray)]) ?_ 1 _ rfl; (with_reducible repeat first | apply kn13 | apply kd13 | apply ka13); refine blk_put (cs:=#[.string (⟨#[]⟩ : ByteArray), .string (⟨#[]⟩ : ByteArray)]) ?_ 0 _ rfl; (with_reducible repeat first | apply kn13 | apply kd13 | apply ka13); exact BK187.out) Try.underlying26 rfl (by kernel_rfl)) rfl ?_
       exact ⟨by first | rfl | (simp [errW_none, errW_some] <;> rfl) | (simp [*, errW_none, errW_some] <;> rfl), by repeat (first | (with_reducible first | exact HB.out | apply ba13 | apply bn13 | apply bd13 | refine bs13 ?_ GE185.out | refine bs13 ?_ GE186.out | refine bs13 ?_ GE187.out | refine bs13 ?_ GE188.out) | exact HB.out)⟩
     ·replace c47 := Bool.eq_false_iff.mpr c47
      subst c47
      rw [if_neg (show ¬ (false = true) by decide)] at H
      simp only [Option.some.injEq, Prod.mk.injEq] at H
      obtain ⟨rfl, rfl, rfl⟩ := H
      have hnb90 := NB185_186.out
      have hnc90 := NB186_185.out
      have hnb91 := NB185_187.out
      have hnc91 := NB187_185.out
      have hnb92 := NB185_188.out
      have hnc92 := NB188_185.out
      have hcz93_0 : wc.cell? ⟨gb185, 0, none⟩ = some (.string a0_0) := (kc13 BK185.out 0).trans rfl
      have hcz93_1 : wc.cell? ⟨gb185, 1, none⟩ = some (.string a0_1) := (kc13 BK185.out 1).trans rfl
      have hfz93_0 := kz13 BK185.out 0
      have hfz93_1 := kz13 BK185.out 1
      go_wp2_with (first | ((with_reducible refine gate_callee (f:=17) rfl ?_); refine goesL_ (some 34) rfl rfl Try.func17 (by kernel_rfl) rfl #[.agg #[.string a0_0, .string a0_1]] rfl (by (try simp only [ma13, mc13, mn13]); first | done | rfl | (simp only [ld13, lt_13]; rfl)) ?_; (with_reducible refine (watershedref04_Right.calls kj36 a0_0 a0_1 false _ A46.out).mono ?_); rintro e w94 ⟨rfl, hb⟩; refine ⟨_, rfl, ?_⟩; replace BK185 := Am13 (kb13 (g:=gb185) (o:=.cells #[.string a0_0, .string a0_1] 26 (0, 0)) (by (with_reducible repeat first | apply kn13 | apply kd13 | apply ka13); exact BK185.out) hb); replace BK186 := Am13 (kb13 (g:=gb186) (o:=.cells #[.string a1_0, .string a1_1] 26 (0, 0)) (by (with_reducible repeat first | apply kn13 | apply kd13 | apply ka13); exact BK186.out) hb); replace BK187 := Am13 (kb13 (g:=gb187) (o:=.cells #[.string (⟨#[]⟩ : ByteArray), .string (⟨#[]⟩ : ByteArray)] 26 (0, 0)) (by (with_reducible repeat first | apply kn13 | apply kd13 | apply ka13); exact BK187.out) hb); replace BK188 := Am13 (kb13 (g:=gb188) (o:=.cells #[.string (smax a0_0 a1_0), .string x189001_36] 26 (0, 0)) (by (with_reducible repeat first | apply kn13 | apply kd13 | apply ka13); exact BK188.out) hb); replace HB := Am13 (bp13 (by repeat (first | (with_reducible first | exact HB.out | apply ba13 | apply bn13 | apply bd13 | refine bs13 ?_ GE185.out | refine bs13 ?_ GE186.out | refine bs13 ?_ GE187.out | refine bs13 ?_ GE188.out) | exact HB.out)) hb); (try clear hb); (try clear hb2); (try clear hk); (try clear hi); have hnb95 := NB187_186.out; have hnc95 := NB186_187.out; have hnb96 := NB187_188.out; have hnc96 := NB188_187.out; have hcz97_0 : w94.cell? ⟨gb187, 0, none⟩ = some (.string (⟨#[]⟩ : ByteArray)) := (kc13 BK187.out 0).trans rfl; have hcz97_1 : w94.cell? ⟨gb187, 1, none⟩ = some (.string (⟨#[]⟩ : ByteArray)) := (kc13 BK187.out 1).trans rfl; have hfz97_0 := kz13 BK187.out 0; have hfz97_1 := kz13 BK187.out 1))
      refine bodyPost_ret (results_ct rfl _ _ gb187 26 #[.string (⟨#[]⟩ : ByteArray), .string (⟨#[]⟩ : ByteArray)] (0, 0) _ rfl (by (with_reducible repeat first | apply kn13 | apply kd13 | apply ka13); refine blk_put (cs:=#[.string (⟨#[]⟩ : ByteArray), .string (⟨#[]⟩ : ByteArray)]) ?_ 1 _ rfl; (with_reducible repeat first | apply kn13 | apply kd13 | apply ka13); refine blk_put (cs:=#[.string (⟨#[]⟩ : ByteArray), .string (⟨#[]⟩ : ByteArray)]) ?_ 0 _ rfl; (with_reducible repeat first | apply kn13 | apply kd13 | apply ka13); exact BK187.out) Try.underlying26 rfl (by kernel_rfl)) rfl ?_
      exact ⟨by first | rfl | (simp [errW_none, errW_some] <;> rfl) | (simp [*, errW_none, errW_some] <;> rfl), by repeat (first | (with_reducible first | exact HB.out | apply ba13 | apply bn13 | apply bd13 | refine bs13 ?_ GE185.out | refine bs13 ?_ GE186.out | refine bs13 ?_ GE187.out | refine bs13 ?_ GE188.out) | exact HB.out)⟩

/-! ### span_Within: function 14 -/
-- GIVEN
/-! ### span_Within: function 14 -/
def span_Within.f (k : Nat) (a0_0 : ByteArray) (a0_1 : ByteArray) (a1_0 : ByteArray) (a1_1 : ByteArray) : Option (Bool) := (span_ends.f a0_0 a0_1).bind fun bt194 => ((span_ends.f a1_0 a1_1).bind fun bt198 => ((span_Right.f k a0_0 a0_1).bind fun t202 => (if t202 = true then ((span_Right.f k a1_0 a1_1).bind fun t203 => (if t203 = true then ((span_text_compare.f bt198.1 bt194.1).bind fun t204 => (if t204 ≤ 0 then ((span_high_over.f bt198.2 bt194.2).bind fun t205 => (some t205)) else (some false))) else (some false))) else (some false))))
theorem span_Within.mono : ∀ a0 a1 a2 a3 k, LeO (span_Within.f k a0 a1 a2 a3) (span_Within.f (k + 1) a0 a1 a2 a3) := by
 intro a0 a1 a2 a3 k
 unfold span_Within.f
 repeat' first
   | (with_reducible exact span_Right.mono _ _ _)
   | (with_reducible exact LeO.refl _)
   | (with_reducible exact LeO.none _)
   | (with_reducible refine LeO.ite ?_ ?_)
   | (with_reducible refine LeO.bind ?_ (fun _ => ?_))
   | exact span_Right.mono _ _ _
   | exact LeO.none _
   | refine LeO.ite ?_ ?_
   | refine LeO.bind ?_ (fun _ => ?_)
open Go.Proofs.Ytbmnhpihlkljdaa.St in
set_option maxHeartbeats 4000000 in
set_option maxRecDepth 100000 in
theorem span_Within.calls (k : Nat) (a0_0 a0_1 a1_0 a1_1 : ByteArray) (r : Bool) (w : World) (h : span_Within.f k a0_0 a0_1 a1_0 a1_1 = some r) :
    Calls Try.prog 14 #[.agg #[.string a0_0, .string a0_1], .agg #[.string a1_0, .string a1_1]] w fun e w' => e = .returned (.bool r) ∧ Below w.heap.size w w' := by
  have hu26 := Try.underlying26
  have hu48 := Try.underlying48
  have hu49 := Try.underlying49
  have hu46 := Try.underlying46
  simp only [span_Within.f, span_ends.f, Option.bind_some] at h
  replace h := Option.bind_eq_some_iff.1 h
  obtain ⟨t1, A1, h⟩ := h
  have HA1 := Aside0.mk A1
  clear A1
  have HT := Aside0.mk (((stay_below (Below.refl w.heap.size w)).box #[.string a0_0, .string a0_1] 26).box #[.string a1_0, .string a1_1] 26)
  simp only [World.size_alloc] at HT
  have walk : ∀ (t2 t5 : Bool) (t4 : Int), (t1 = true → Aside0 (span_Right.f k a1_0 a1_1 = some t2)) → (t1 = true → t2 = true → Aside0 (span_text_compare.f a1_0 a0_0 = some t4)) → (t1 = true → t2 = true → t4 ≤ 0 → Aside0 (span_high_over.f a1_1 a0_1 = some t5)) → r = (t1 && (t2 && (decide (t4 ≤ 0) && t5))) →
      Calls Try.prog 14 #[.agg #[.string a0_0, .string a0_1], .agg #[.string a1_0, .string a1_1]] w fun e w' => e = .returned (.bool r) ∧ Below w.heap.size w w' := by
    intro t2 t5 t4 q2 q4 q5 hr
    subst hr
    clear h
    cases t1
    · clear q2 q4 q5
      go_enter Try.func14, Try.ntmps14
      go_wp2_with (first
      | (go_at_call 28; (with_reducible refine (span_ends.calls a0_0 a0_1 _ _ _ rfl).mono ?_); rintro e w1 ⟨rfl, hb⟩; have HU := Aside0.mk (((HT.out.step hb).box #[.string a0_0] 48).box #[.string a0_1] 49); simp only [World.size_alloc] at HU; obtain ⟨c10, c11⟩ := HU.out.now.1.1.2.c2; clear hb)
      | (go_at_call 28; (with_reducible refine (span_ends.calls a1_0 a1_1 _ _ _ rfl).mono ?_); rintro e w2 ⟨rfl, hb⟩; have HV := Aside0.mk (((HU.out.step hb).box #[.string a1_0] 48).box #[.string a1_1] 49); simp only [World.size_alloc] at HV; obtain ⟨c20, c21⟩ := HV.out.now.1.1.1.1.1.2.c2; clear hb)
      | (go_at_call 16; (with_reducible refine (span_Right.calls k a0_0 a0_1 _ _ HA1.out).mono ?_); rintro e w3 ⟨rfl, hb⟩; have HX := Aside0.mk (HV.out.step hb); clear hb))
      go_ret
      exact ⟨rfl, HX.out.now.1.1.1.1.1.1⟩
    have HA2 := q2 rfl
    cases t2
    · clear q2 q4 q5
      go_enter Try.func14, Try.ntmps14
      go_wp2_with (first
      | (go_at_call 28; (with_reducible refine (span_ends.calls a0_0 a0_1 _ _ _ rfl).mono ?_); rintro e w1 ⟨rfl, hb⟩; have HU := Aside0.mk (((HT.out.step hb).box #[.string a0_0] 48).box #[.string a0_1] 49); simp only [World.size_alloc] at HU; obtain ⟨c10, c11⟩ := HU.out.now.1.1.2.c2; clear hb)
      | (go_at_call 28; (with_reducible refine (span_ends.calls a1_0 a1_1 _ _ _ rfl).mono ?_); rintro e w2 ⟨rfl, hb⟩; have HV := Aside0.mk (((HU.out.step hb).box #[.string a1_0] 48).box #[.string a1_1] 49); simp only [World.size_alloc] at HV; obtain ⟨c20, c21⟩ := HV.out.now.1.1.1.1.1.2.c2; clear hb)
      | (go_at_call 16; (with_reducible refine (span_Right.calls k a0_0 a0_1 _ _ HA1.out).mono ?_); rintro e w3 ⟨rfl, hb⟩; have HX := Aside0.mk (HV.out.step hb); obtain ⟨c30, c31⟩ := HX.out.now.1.1.1.1.2.c2; clear hb)
        | (go_at_call 16; (with_reducible refine (span_Right.calls k a1_0 a1_1 _ _ HA2.out).mono ?_); rintro e w4 ⟨rfl, hb⟩; have HY := Aside0.mk (HX.out.step hb); clear hb))
      go_ret
      exact ⟨rfl, HY.out.now.1.1.1.1.1.1⟩
    have HA4 := q4 rfl rfl
    by_cases h4 : t4 ≤ 0
    · have HA5 := q5 rfl rfl h4
      have h4b : decide (t4 ≤ 0) = true := decide_eq_true h4
      clear q2 q4 q5
      go_enter Try.func14, Try.ntmps14
      go_wp2_with (first
      | (go_at_call 28; (with_reducible refine (span_ends.calls a0_0 a0_1 _ _ _ rfl).mono ?_); rintro e w1 ⟨rfl, hb⟩; have HU := Aside0.mk (((HT.out.step hb).box #[.string a0_0] 48).box #[.string a0_1] 49); simp only [World.size_alloc] at HU; obtain ⟨c10, c11⟩ := HU.out.now.1.1.2.c2; clear hb)
      | (go_at_call 28; (with_reducible refine (span_ends.calls a1_0 a1_1 _ _ _ rfl).mono ?_); rintro e w2 ⟨rfl, hb⟩; have HV := Aside0.mk (((HU.out.step hb).box #[.string a1_0] 48).box #[.string a1_1] 49); simp only [World.size_alloc] at HV; obtain ⟨c20, c21⟩ := HV.out.now.1.1.1.1.1.2.c2; clear hb)
      | (go_at_call 16; (with_reducible refine (span_Right.calls k a0_0 a0_1 _ _ HA1.out).mono ?_); rintro e w3 ⟨rfl, hb⟩; have HX := Aside0.mk (HV.out.step hb); obtain ⟨c30, c31⟩ := HX.out.now.1.1.1.1.2.c2; clear hb)
        | (go_at_call 16; (with_reducible refine (span_Right.calls k a1_0 a1_1 _ _ HA2.out).mono ?_); rintro e w4 ⟨rfl, hb⟩; have HY := Aside0.mk (HX.out.step hb); have c40 := HY.out.now.1.2.c1; have c41 := HY.out.now.1.1.1.2.c1; clear hb)
        | (go_at_call 30; (with_reducible refine (span_text_compare.calls a1_0 a0_0 _ _ HA4.out).mono ?_); rintro e w5 ⟨rfl, hb⟩; have HZ := Aside0.mk (HY.out.step hb); have c50 := HZ.out.now.2.c1; have c51 := HZ.out.now.1.1.2.c1; clear hb)
        | (go_at_call 29; (with_reducible refine (span_high_over.calls a1_1 a0_1 _ _ HA5.out).mono ?_); rintro e w6 ⟨rfl, hb⟩; have HW := Aside0.mk (HZ.out.step hb); clear hb))
      go_ret
      exact ⟨by simp [h4b], HW.out.now.1.1.1.1.1.1⟩
    · have h4b : decide (t4 ≤ 0) = false := decide_eq_false h4
      clear q2 q4 q5
      go_enter Try.func14, Try.ntmps14
      go_wp2_with (first
      | (go_at_call 28; (with_reducible refine (span_ends.calls a0_0 a0_1 _ _ _ rfl).mono ?_); rintro e w1 ⟨rfl, hb⟩; have HU := Aside0.mk (((HT.out.step hb).box #[.string a0_0] 48).box #[.string a0_1] 49); simp only [World.size_alloc] at HU; obtain ⟨c10, c11⟩ := HU.out.now.1.1.2.c2; clear hb)
      | (go_at_call 28; (with_reducible refine (span_ends.calls a1_0 a1_1 _ _ _ rfl).mono ?_); rintro e w2 ⟨rfl, hb⟩; have HV := Aside0.mk (((HU.out.step hb).box #[.string a1_0] 48).box #[.string a1_1] 49); simp only [World.size_alloc] at HV; obtain ⟨c20, c21⟩ := HV.out.now.1.1.1.1.1.2.c2; clear hb)
      | (go_at_call 16; (with_reducible refine (span_Right.calls k a0_0 a0_1 _ _ HA1.out).mono ?_); rintro e w3 ⟨rfl, hb⟩; have HX := Aside0.mk (HV.out.step hb); obtain ⟨c30, c31⟩ := HX.out.now.1.1.1.1.2.c2; clear hb)
        | (go_at_call 16; (with_reducible refine (span_Right.calls k a1_0 a1_1 _ _ HA2.out).mono ?_); rintro e w4 ⟨rfl, hb⟩; have HY := Aside0.mk (HX.out.step hb); have c40 := HY.out.now.1.2.c1; have c41 := HY.out.now.1.1.1.2.c1; clear hb)
        | (go_at_call 30; (with_reducible refine (span_text_compare.calls a1_0 a0_0 _ _ HA4.out).mono ?_); rintro e w5 ⟨rfl, hb⟩; have HZ := Aside0.mk (HY.out.step hb); clear hb))
      go_ret
      exact ⟨by simp [h4b], HZ.out.now.1.1.1.1.1.1⟩
  cases t1
  · exact walk false false 0 (fun e => by cases e) (fun e => by cases e) (fun e => by cases e) (by simpa using h.symm)
  simp only [if_true] at h
  obtain ⟨t2, A2, h⟩ := Option.bind_eq_some_iff.1 h
  cases t2
  · exact walk false false 0 (fun _ => ⟨A2⟩) (fun _ e => by cases e) (fun _ e => by cases e) (by simpa using h.symm)
  simp only [if_true] at h
  obtain ⟨t4, A4, h⟩ := Option.bind_eq_some_iff.1 h
  by_cases h4 : t4 ≤ 0
  · rw [if_pos h4] at h
    obtain ⟨t5, A5, h⟩ := Option.bind_eq_some_iff.1 h
    exact walk true t5 t4 (fun _ => ⟨A2⟩) (fun _ _ => ⟨A4⟩) (fun _ _ _ => ⟨A5⟩) (by simpa [h4] using h.symm)
  · rw [if_neg h4] at h
    exact walk true false t4 (fun _ => ⟨A2⟩) (fun _ _ => ⟨A4⟩) (fun _ _ e => absurd e h4) (by simpa [h4] using h.symm)

/-! ### watershedref04_Within: function 15 -/
-- GIVEN
/-! ### watershedref04_Within: function 15 -/
def watershedref04_Within.f (k : Nat) (a0_0 : ByteArray) (a0_1 : ByteArray) (a1_0 : ByteArray) (a1_1 : ByteArray) : Option (Bool) := (watershedref04_Right.f k a0_0 a0_1).bind fun t208 => (if t208 = true then ((watershedref04_Right.f k a1_0 a1_1).bind fun t209 => (if t209 = true then (if (Op.bytesLess a1_0.toList a0_0.toList) = true then (if a1_1.toList = ([] : List UInt8) then (some true) else (if a0_1.toList = ([] : List UInt8) then (some false) else (if (Op.bytesLess a0_1.toList a1_1.toList) = true then (some true) else (if a0_1.toList = a1_1.toList then (some true) else (some false))))) else (if a1_0.toList = a0_0.toList then (if a1_1.toList = ([] : List UInt8) then (some true) else (if a0_1.toList = ([] : List UInt8) then (some false) else (if (Op.bytesLess a0_1.toList a1_1.toList) = true then (some true) else (if a0_1.toList = a1_1.toList then (some true) else (some false))))) else (some false))) else (some false))) else (some false))
theorem watershedref04_Within.mono : ∀ a0 a1 a2 a3 k, LeO (watershedref04_Within.f k a0 a1 a2 a3) (watershedref04_Within.f (k + 1) a0 a1 a2 a3) := by
 intro a0 a1 a2 a3 k
 unfold watershedref04_Within.f
 repeat' first
   | (with_reducible exact watershedref04_Right.mono _ _ _)
   | (with_reducible exact LeO.refl _)
   | (with_reducible exact LeO.none _)
   | (with_reducible refine LeO.ite ?_ ?_)
   | (with_reducible refine LeO.bind ?_ (fun _ => ?_))
   | exact watershedref04_Right.mono _ _ _
   | exact LeO.none _
   | refine LeO.ite ?_ ?_
   | refine LeO.bind ?_ (fun _ => ?_)
theorem wcell {W w1 : World} (hb : Below W.heap.size W w1) : (∀ b o, b < W.heap.size → w1.cell? ⟨b, o, none⟩ = W.cell? ⟨b, o, none⟩) :=
  fun b o h => hb.cell (p := ⟨b, o, none⟩) h
theorem below2 {w w1 w2 : World} (h : Below w.heap.size w w1) (k : Below w1.heap.size w1 w2) : Below w.heap.size w w2 := below_step h k
set_option maxHeartbeats 4000000 in
set_option maxRecDepth 100000 in
theorem watershedref04_Within.calls (k : Nat) (a0_0 a0_1 a1_0 a1_1 : ByteArray) (r : Bool) (w : World) (h : watershedref04_Within.f k a0_0 a0_1 a1_0 a1_1 = some r) :
    Calls Try.prog 15 #[.agg #[.string a0_0, .string a0_1], .agg #[.string a1_0, .string a1_1]] w fun e w' => e = .returned (.bool r) ∧ Below w.heap.size w w' := by
  have hu26 := Try.underlying26
  simp only [watershedref04_Within.f] at h
  replace h := Option.bind_eq_some_iff.1 h
  obtain ⟨t1, A1, h⟩ := h
  have HA1 := Aside0.mk A1
  clear A1
  cases t1
  · obtain rfl : false = r := by simpa using h
    clear h
    go_enter Try.func15, Try.ntmps15
    go_wp2_with (go_at_call 17; (with_reducible refine (watershedref04_Right.calls k _ _ _ _ HA1.out).mono ?_); rintro e w1 ⟨rfl, hb⟩)
    go_ret
    exact ⟨rfl, below2 (below_alloc (below_alloc (Below.refl _ _) _) _) hb⟩
  simp only [if_true] at h
  replace h := Option.bind_eq_some_iff.1 h
  obtain ⟨t2, A2, h⟩ := h
  have HA2 := Aside0.mk A2
  clear A2
  cases t2
  · obtain rfl : false = r := by simpa using h
    clear h
    go_enter Try.func15, Try.ntmps15
    go_wp2_with (first
      | (go_at_call 17; (with_reducible refine (watershedref04_Right.calls k a0_0 a0_1 _ _ HA1.out).mono ?_); rintro e w1 ⟨rfl, hb⟩; have hc := wcell hb; have HB := Aside0.mk hb; clear hb)
      | (go_at_call 17; (with_reducible refine (watershedref04_Right.calls k a1_0 a1_1 _ _ HA2.out).mono ?_); rintro e w2 ⟨rfl, hb⟩))
    all_goals (go_ret; exact ⟨rfl, below2 (below2 (below_alloc (below_alloc (Below.refl _ _) _) _) HB.out) hb⟩)
  simp only [if_true] at h
  have hr : r = ((Op.bytesLess a1_0.toList a0_0.toList || a1_0.toList == a0_0.toList) && (a1_1.toList.isEmpty || (!a0_1.toList.isEmpty && (Op.bytesLess a0_1.toList a1_1.toList || a0_1.toList == a1_1.toList)))) := by
    by_cases c1 : Op.bytesLess a1_0.toList a0_0.toList = true <;> by_cases c2 : a1_0.toList = a0_0.toList <;> by_cases c3 : a1_1.toList = [] <;> by_cases c4 : a0_1.toList = [] <;> by_cases c5 : Op.bytesLess a0_1.toList a1_1.toList = true <;> by_cases c6 : a0_1.toList = a1_1.toList <;> simp [c1, c2, c3, c4, c5, c6] at h <;> simp_all
  clear h
  subst hr
  cases b1 : (Op.bytesLess a1_0.toList a0_0.toList || a1_0.toList == a0_0.toList) <;> cases b2 : a1_1.toList.isEmpty <;> cases b3 : a0_1.toList.isEmpty <;> cases b4 : (Op.bytesLess a0_1.toList a1_1.toList || a0_1.toList == a1_1.toList)
  all_goals
    go_enter Try.func15, Try.ntmps15
    go_wp2_with (first
      | (go_at_call 17; (with_reducible refine (watershedref04_Right.calls k a0_0 a0_1 _ _ HA1.out).mono ?_); rintro e w1 ⟨rfl, hb⟩; have hc := wcell hb; have HB := Aside0.mk hb; clear hb)
      | (go_at_call 17; (with_reducible refine (watershedref04_Right.calls k a1_0 a1_1 _ _ HA2.out).mono ?_); rintro e w2 ⟨rfl, hb⟩; have hz0 : w.heap.size < w1.heap.size := (by have := HB.out.size; simp at this; omega); have hz1 : w.heap.size + 1 < w1.heap.size := (by have := HB.out.size; simp at this; omega); have hc2 := wcell hb; have HB2 := Aside0.mk hb; clear hb))
    go_ret
    exact ⟨rfl, below2 (below2 (below_alloc (below_alloc (Below.refl _ _) _) _) HB.out) HB2.out⟩

theorem Am21 : type_of% @Aside0.mk := @Aside0.mk
theorem ba21 : type_of% @below_alloc := @below_alloc
theorem bn21 : type_of% @pw_below_drewN := @pw_below_drewN
theorem bd21 : type_of% @below_drew1 := @below_drew1
theorem bs21 : type_of% @below_set := @below_set
theorem kn21 : type_of% @blk_drewN := @blk_drewN
theorem kd21 : type_of% @blk_drew := @blk_drew
theorem ka21 : type_of% @blk_alloc := @blk_alloc
theorem kb21 : type_of% @blk_below := @blk_below
theorem bz21 : type_of% @below_size := @below_size
theorem bp21 : type_of% @below_step := @below_step
theorem kc21 : type_of% @blk_cell := @blk_cell
theorem kz21 : type_of% @blk_frozen := @blk_frozen
theorem ma21 : type_of% @List.map_toArray := @List.map_toArray
theorem mc21 : type_of% @List.map_cons := @List.map_cons
theorem mn21 : type_of% @List.map_nil := @List.map_nil
theorem ld21 : type_of% @List.length_drop := @List.length_drop
theorem lt_21 : type_of% @List.length_take := @List.length_take
/-! ### watershedref04_Has: function 21 -/
def watershedref04_Has.f (k : Nat) (a0_0 : ByteArray) (a0_1 : ByteArray) (a1 : ByteArray) : Option (Bool) := (watershedref04_Right.f k a0_0 a0_1).bind fun t193 => (if t193 = true then ((watershedref04_Key.f k a1).bind fun t194 => (if t194 = true then (if (Op.bytesLess a0_0.toList a1.toList) = true then (if a0_1.toList = ([] : List UInt8) then (some true) else (some (Op.bytesLess a1.toList a0_1.toList))) else (if a0_0.toList = a1.toList then (if a0_1.toList = ([] : List UInt8) then (some true) else (some (Op.bytesLess a1.toList a0_1.toList))) else (some false))) else (some false))) else (some false))
theorem watershedref04_Has.mono : ∀ a0 a1 a2 k, LeO (watershedref04_Has.f k a0 a1 a2) (watershedref04_Has.f (k + 1) a0 a1 a2) := by
 intro a0 a1 a2 k
 unfold watershedref04_Has.f
 repeat' first
   | (with_reducible exact watershedref04_Key.mono _ _)
   | (with_reducible exact watershedref04_Right.mono _ _ _)
   | (with_reducible exact LeO.refl _)
   | (with_reducible exact LeO.none _)
   | (with_reducible refine LeO.ite ?_ ?_)
   | (with_reducible refine LeO.bind ?_ (fun _ => ?_))
   | exact watershedref04_Key.mono _ _
   | exact watershedref04_Right.mono _ _ _
   | exact LeO.none _
   | refine LeO.ite ?_ ?_
   | refine LeO.bind ?_ (fun _ => ?_)
set_option maxHeartbeats 8000000 in
set_option maxRecDepth 100000 in
theorem watershedref04_Has.calls (k : Nat) (a0_0 : ByteArray) (a0_1 : ByteArray) (a1 : ByteArray) (r : Bool) (w : World) (h : watershedref04_Has.f k a0_0 a0_1 a1 = some r) :
  Calls Try.prog 21 #[.agg #[.string a0_0, .string a0_1], .string a1] w fun e w' => e = .returned (.bool r) ∧ Below w.heap.size w w' := by
 have hu26 := Try.underlying26
 have HB := Am21 (Below.refl w.heap.size w)
 have H : ((watershedref04_Right.f k a0_0 a0_1).bind fun t193 => (if t193 = true then ((watershedref04_Key.f k a1).bind fun t194 => (if t194 = true then (if (Op.bytesLess a0_0.toList a1.toList) = true then (if a0_1.toList = ([] : List UInt8) then (some true) else (some (Op.bytesLess a1.toList a0_1.toList))) else (if a0_0.toList = a1.toList then (if a0_1.toList = ([] : List UInt8) then (some true) else (some (Op.bytesLess a1.toList a0_1.toList))) else (some false))) else (some false))) else (some false))) = some r := h
 clear h
 replace H := Option.bind_eq_some_iff.mp H
 obtain ⟨t193, A30, H⟩ := H
 try dsimp only at H
 have A3 := Am21 A30
 clear A30
 by_cases c4 : t193 = true
 ·subst c4
  rw [if_pos rfl] at H
  replace H := Option.bind_eq_some_iff.mp H
  obtain ⟨t194, A50, H⟩ := H
  try dsimp only at H
  have A5 := Am21 A50
  clear A50
  by_cases c6 : t194 = true
  ·subst c6
   rw [if_pos rfl] at H
   by_cases c7 : (Op.bytesLess a0_0.toList a1.toList) = true
   ·rw [if_pos c7] at H
    have c7b0 : (Op.bytesLess a0_0.toList a1.toList) = true := c7
    clear c7
    by_cases c8 : a0_1.toList = ([] : List UInt8)
    ·rw [if_pos c8] at H
     have c8b0 : (a0_1.toList == ([] : List UInt8)) = true := beq_iff_eq.mpr c8
     have c8b1 : (a0_1.toList != ([] : List UInt8)) = false := bne_eq_false_iff_eq.mpr c8
     clear c8
     obtain rfl := Option.some.inj H
     go_enter Try.func21, Try.ntmps21
     go_wp2_with (first | ((with_reducible refine gate_dst (N:=2) rfl ?_); refine box_event ?hg (N:=2) ?hd (cs:=#[.string a0_0, .string a0_1]) (t:=26) ?hr ?_; (case hd => rfl); (case hg => rfl); (case hr => first | (go_simp; done) | (go_simp; rfl)); intro gb192 hg w9 hbox hb; have BK192 := Am21 (hbox); have GW192 := Am21 ((by rw [hg]; exact (bz21 (by repeat (first | (with_reducible first | exact HB.out | apply ba21 | apply bn21 | apply bd21) | exact HB.out))) : w.heap.size ≤ gb192)); have GE192 := Am21 ((by rw [hg]; exact (bz21 (by repeat (first | (with_reducible first | exact HB.out | apply ba21 | apply bn21 | apply bd21) | exact HB.out))) : w.heap.size ≤ gb192)); replace HB := Am21 (bp21 (by repeat (first | (with_reducible first | exact HB.out | apply ba21 | apply bn21 | apply bd21) | exact HB.out)) hb); clear hb hbox hg; have hcz10_0 : w9.cell? ⟨gb192, 0, none⟩ = some (.string a0_0) := (kc21 BK192.out 0).trans rfl; have hcz10_1 : w9.cell? ⟨gb192, 1, none⟩ = some (.string a0_1) := (kc21 BK192.out 1).trans rfl; have hfz10_0 := kz21 BK192.out 0; have hfz10_1 := kz21 BK192.out 1) | ((with_reducible refine gate_callee (f:=17) rfl ?_); refine goesL_ (some 6) rfl rfl Try.func17 (by kernel_rfl) rfl #[.agg #[.string a0_0, .string a0_1]] rfl (by (try simp only [ma21, mc21, mn21]); first | done | rfl | (simp only [ld21, lt_21]; rfl)) ?_; (with_reducible refine (watershedref04_Right.calls k a0_0 a0_1 true _ A3.out).mono ?_); rintro e w11 ⟨rfl, hb⟩; refine ⟨_, rfl, ?_⟩; replace BK192 := Am21 (kb21 (g:=gb192) (o:=.cells #[.string a0_0, .string a0_1] 26 (0, 0)) (by (with_reducible repeat first | apply kn21 | apply kd21 | apply ka21); exact BK192.out) hb); replace HB := Am21 (bp21 (by repeat (first | (with_reducible first | exact HB.out | apply ba21 | apply bn21 | apply bd21 | refine bs21 ?_ GE192.out) | exact HB.out)) hb); (try clear hb); (try clear hb2); (try clear hk); (try clear hi)) | (go_at_call 19; (with_reducible refine (watershedref04_Key.calls k a1 true _ A5.out).mono ?_); rintro e w' ⟨rfl, ⟨nd, rfl⟩⟩; have hcz12_0 : w11.cell? ⟨gb192, 0, none⟩ = some (.string a0_0) := (kc21 BK192.out 0).trans rfl; have hcz12_1 : w11.cell? ⟨gb192, 1, none⟩ = some (.string a0_1) := (kc21 BK192.out 1).trans rfl; have hfz12_0 := kz21 BK192.out 0; have hfz12_1 := kz21 BK192.out 1))
     go_ret
     exact ⟨by first | rfl | (simp [errW_none, errW_some] <;> rfl) | (simp [*, errW_none, errW_some] <;> rfl), by repeat (first | (with_reducible first | exact HB.out | apply ba21 | apply bn21 | apply bd21 | refine bs21 ?_ GE192.out) | exact HB.out)⟩
    ·rw [if_neg c8] at H
     have c8b0 : (a0_1.toList == ([] : List UInt8)) = false := beq_eq_false_iff_ne.mpr c8
     have c8b1 : (a0_1.toList != ([] : List UInt8)) = true := bne_iff_ne.mpr c8
     obtain rfl := Option.some.inj H
     go_enter Try.func21, Try.ntmps21
     go_wp2_with (first | ((with_reducible refine gate_dst (N:=2) rfl ?_); refine box_event ?hg (N:=2) ?hd (cs:=#[.string a0_0, .string a0_1]) (t:=26) ?hr ?_; (case hd => rfl); (case hg => rfl); (case hr => first | (go_simp; done) | (go_simp; rfl)); intro gb192 hg w13 hbox hb; have BK192 := Am21 (hbox); have GW192 := Am21 ((by rw [hg]; exact (bz21 (by repeat (first | (with_reducible first | exact HB.out | apply ba21 | apply bn21 | apply bd21) | exact HB.out))) : w.heap.size ≤ gb192)); have GE192 := Am21 ((by rw [hg]; exact (bz21 (by repeat (first | (with_reducible first | exact HB.out | apply ba21 | apply bn21 | apply bd21) | exact HB.out))) : w.heap.size ≤ gb192)); replace HB := Am21 (bp21 (by repeat (first | (with_reducible first | exact HB.out | apply ba21 | apply bn21 | apply bd21) | exact HB.out)) hb); clear hb hbox hg; have hcz14_0 : w13.cell? ⟨gb192, 0, none⟩ = some (.string a0_0) := (kc21 BK192.out 0).trans rfl; have hcz14_1 : w13.cell? ⟨gb192, 1, none⟩ = some (.string a0_1) := (kc21 BK192.out 1).trans rfl; have hfz14_0 := kz21 BK192.out 0; have hfz14_1 := kz21 BK192.out 1) | ((with_reducible refine gate_callee (f:=17) rfl ?_); refine goesL_ (some 6) rfl rfl Try.func17 (by kernel_rfl) rfl #[.agg #[.string a0_0, .string a0_1]] rfl (by (try simp only [ma21, mc21, mn21]); first | done | rfl | (simp only [ld21, lt_21]; rfl)) ?_; (with_reducible refine (watershedref04_Right.calls k a0_0 a0_1 true _ A3.out).mono ?_); rintro e w15 ⟨rfl, hb⟩; refine ⟨_, rfl, ?_⟩; replace BK192 := Am21 (kb21 (g:=gb192) (o:=.cells #[.string a0_0, .string a0_1] 26 (0, 0)) (by (with_reducible repeat first | apply kn21 | apply kd21 | apply ka21); exact BK192.out) hb); replace HB := Am21 (bp21 (by repeat (first | (with_reducible first | exact HB.out | apply ba21 | apply bn21 | apply bd21 | refine bs21 ?_ GE192.out) | exact HB.out)) hb); (try clear hb); (try clear hb2); (try clear hk); (try clear hi)) | (go_at_call 19; (with_reducible refine (watershedref04_Key.calls k a1 true _ A5.out).mono ?_); rintro e w' ⟨rfl, ⟨nd, rfl⟩⟩; have hcz16_0 : w15.cell? ⟨gb192, 0, none⟩ = some (.string a0_0) := (kc21 BK192.out 0).trans rfl; have hcz16_1 : w15.cell? ⟨gb192, 1, none⟩ = some (.string a0_1) := (kc21 BK192.out 1).trans rfl; have hfz16_0 := kz21 BK192.out 0; have hfz16_1 := kz21 BK192.out 1))
     go_ret
     exact ⟨by first | rfl | (simp [errW_none, errW_some] <;> rfl) | (simp [*, errW_none, errW_some] <;> rfl), by repeat (first | (with_reducible first | exact HB.out | apply ba21 | apply bn21 | apply bd21 | refine bs21 ?_ GE192.out) | exact HB.out)⟩
   ·rw [if_neg c7] at H
    have c7b0 : (Op.bytesLess a0_0.toList a1.toList) = false := by simpa using c7
    clear c7
    by_cases c17 : a0_0.toList = a1.toList
    ·rw [if_pos c17] at H
     have c17b0 : (a0_0.toList == a1.toList) = true := beq_iff_eq.mpr c17
     have c17b1 : (a0_0.toList != a1.toList) = false := bne_eq_false_iff_eq.mpr c17
     clear c17
     by_cases c18 : a0_1.toList = ([] : List UInt8)
     ·rw [if_pos c18] at H
      have c18b0 : (a0_1.toList == ([] : List UInt8)) = true := beq_iff_eq.mpr c18
      have c18b1 : (a0_1.toList != ([] : List UInt8)) = false := bne_eq_false_iff_eq.mpr c18
      clear c18
      obtain rfl := Option.some.inj H
      go_enter Try.func21, Try.ntmps21
      go_wp2_with (first | ((with_reducible refine gate_dst (N:=2) rfl ?_); refine box_event ?hg (N:=2) ?hd (cs:=#[.string a0_0, .string a0_1]) (t:=26) ?hr ?_; (case hd => rfl); (case hg => rfl); (case hr => first | (go_simp; done) | (go_simp; rfl)); intro gb192 hg w19 hbox hb; have BK192 := Am21 (hbox); have GW192 := Am21 ((by rw [hg]; exact (bz21 (by repeat (first | (with_reducible first | exact HB.out | apply ba21 | apply bn21 | apply bd21) | exact HB.out))) : w.heap.size ≤ gb192)); have GE192 := Am21 ((by rw [hg]; exact (bz21 (by repeat (first | (with_reducible first | exact HB.out | apply ba21 | apply bn21 | apply bd21) | exact HB.out))) : w.heap.size ≤ gb192)); replace HB := Am21 (bp21 (by repeat (first | (with_reducible first | exact HB.out | apply ba21 | apply bn21 | apply bd21) | exact HB.out)) hb); clear hb hbox hg; have hcz20_0 : w19.cell? ⟨gb192, 0, none⟩ = some (.string a0_0) := (kc21 BK192.out 0).trans rfl; have hcz20_1 : w19.cell? ⟨gb192, 1, none⟩ = some (.string a0_1) := (kc21 BK192.out 1).trans rfl; have hfz20_0 := kz21 BK192.out 0; have hfz20_1 := kz21 BK192.out 1) | ((with_reducible refine gate_callee (f:=17) rfl ?_); refine goesL_ (some 6) rfl rfl Try.func17 (by kernel_rfl) rfl #[.agg #[.string a0_0, .string a0_1]] rfl (by (try simp only [ma21, mc21, mn21]); first | done | rfl | (simp only [ld21, lt_21]; rfl)) ?_; (with_reducible refine (watershedref04_Right.calls k a0_0 a0_1 true _ A3.out).mono ?_); rintro e w21 ⟨rfl, hb⟩; refine ⟨_, rfl, ?_⟩; replace BK192 := Am21 (kb21 (g:=gb192) (o:=.cells #[.string a0_0, .string a0_1] 26 (0, 0)) (by (with_reducible repeat first | apply kn21 | apply kd21 | apply ka21); exact BK192.out) hb); replace HB := Am21 (bp21 (by repeat (first | (with_reducible first | exact HB.out | apply ba21 | apply bn21 | apply bd21 | refine bs21 ?_ GE192.out) | exact HB.out)) hb); (try clear hb); (try clear hb2); (try clear hk); (try clear hi)) | (go_at_call 19; (with_reducible refine (watershedref04_Key.calls k a1 true _ A5.out).mono ?_); rintro e w' ⟨rfl, ⟨nd, rfl⟩⟩; have hcz22_0 : w21.cell? ⟨gb192, 0, none⟩ = some (.string a0_0) := (kc21 BK192.out 0).trans rfl; have hcz22_1 : w21.cell? ⟨gb192, 1, none⟩ = some (.string a0_1) := (kc21 BK192.out 1).trans rfl; have hfz22_0 := kz21 BK192.out 0; have hfz22_1 := kz21 BK192.out 1))
      go_ret
      exact ⟨by first | rfl | (simp [errW_none, errW_some] <;> rfl) | (simp [*, errW_none, errW_some] <;> rfl), by repeat (first | (with_reducible first | exact HB.out | apply ba21 | apply bn21 | apply bd21 | refine bs21 ?_ GE192.out) | exact HB.out)⟩
     ·rw [if_neg c18] at H
      have c18b0 : (a0_1.toList == ([] : List UInt8)) = false := beq_eq_false_iff_ne.mpr c18
      have c18b1 : (a0_1.toList != ([] : List UInt8)) = true := bne_iff_ne.mpr c18
      obtain rfl := Option.some.inj H
      go_enter Try.func21, Try.ntmps21
      go_wp2_with (first | ((with_reducible refine gate_dst (N:=2) rfl ?_); refine box_event ?hg (N:=2) ?hd (cs:=#[.string a0_0, .string a0_1]) (t:=26) ?hr ?_; (case hd => rfl); (case hg => rfl); (case hr => first | (go_simp; done) | (go_simp; rfl)); intro gb192 hg w23 hbox hb; have BK192 := Am21 (hbox); have GW192 := Am21 ((by rw [hg]; exact (bz21 (by repeat (first | (with_reducible first | exact HB.out | apply ba21 | apply bn21 | apply bd21) | exact HB.out))) : w.heap.size ≤ gb192)); have GE192 := Am21 ((by rw [hg]; exact (bz21 (by repeat (first | (with_reducible first | exact HB.out | apply ba21 | apply bn21 | apply bd21) | exact HB.out))) : w.heap.size ≤ gb192)); replace HB := Am21 (bp21 (by repeat (first | (with_reducible first | exact HB.out | apply ba21 | apply bn21 | apply bd21) | exact HB.out)) hb); clear hb hbox hg; have hcz24_0 : w23.cell? ⟨gb192, 0, none⟩ = some (.string a0_0) := (kc21 BK192.out 0).trans rfl; have hcz24_1 : w23.cell? ⟨gb192, 1, none⟩ = some (.string a0_1) := (kc21 BK192.out 1).trans rfl; have hfz24_0 := kz21 BK192.out 0; have hfz24_1 := kz21 BK192.out 1) | ((with_reducible refine gate_callee (f:=17) rfl ?_); refine goesL_ (some 6) rfl rfl Try.func17 (by kernel_rfl) rfl #[.agg #[.string a0_0, .string a0_1]] rfl (by (try simp only [ma21, mc21, mn21]); first | done | rfl | (simp only [ld21, lt_21]; rfl)) ?_; (with_reducible refine (watershedref04_Right.calls k a0_0 a0_1 true _ A3.out).mono ?_); rintro e w25 ⟨rfl, hb⟩; refine ⟨_, rfl, ?_⟩; replace BK192 := Am21 (kb21 (g:=gb192) (o:=.cells #[.string a0_0, .string a0_1] 26 (0, 0)) (by (with_reducible repeat first | apply kn21 | apply kd21 | apply ka21); exact BK192.out) hb); replace HB := Am21 (bp21 (by repeat (first | (with_reducible first | exact HB.out | apply ba21 | apply bn21 | apply bd21 | refine bs21 ?_ GE192.out) | exact HB.out)) hb); (try clear hb); (try clear hb2); (try clear hk); (try clear hi)) | (go_at_call 19; (with_reducible refine (watershedref04_Key.calls k a1 true _ A5.out).mono ?_); rintro e w' ⟨rfl, ⟨nd, rfl⟩⟩; have hcz26_0 : w25.cell? ⟨gb192, 0, none⟩ = some (.string a0_0) := (kc21 BK192.out 0).trans rfl; have hcz26_1 : w25.cell? ⟨gb192, 1, none⟩ = some (.string a0_1) := (kc21 BK192.out 1).trans rfl; have hfz26_0 := kz21 BK192.out 0; have hfz26_1 := kz21 BK192.out 1))
      go_ret
      exact ⟨by first | rfl | (simp [errW_none, errW_some] <;> rfl) | (simp [*, errW_none, errW_some] <;> rfl), by repeat (first | (with_reducible first | exact HB.out | apply ba21 | apply bn21 | apply bd21 | refine bs21 ?_ GE192.out) | exact HB.out)⟩
    ·rw [if_neg c17] at H
     have c17b0 : (a0_0.toList == a1.toList) = false := beq_eq_false_iff_ne.mpr c17
     have c17b1 : (a0_0.toList != a1.toList) = true := bne_iff_ne.mpr c17
     obtain rfl := Option.some.inj H
     go_enter Try.func21, Try.ntmps21
     go_wp2_with (first | ((with_reducible refine gate_dst (N:=2) rfl ?_); refine box_event ?hg (N:=2) ?hd (cs:=#[.string a0_0, .string a0_1]) (t:=26) ?hr ?_; (case hd => rfl); (case hg => rfl); (case hr => first | (go_simp; done) | (go_simp; rfl)); intro gb192 hg w27 hbox hb; have BK192 := Am21 (hbox); have GW192 := Am21 ((by rw [hg]; exact (bz21 (by repeat (first | (with_reducible first | exact HB.out | apply ba21 | apply bn21 | apply bd21) | exact HB.out))) : w.heap.size ≤ gb192)); have GE192 := Am21 ((by rw [hg]; exact (bz21 (by repeat (first | (with_reducible first | exact HB.out | apply ba21 | apply bn21 | apply bd21) | exact HB.out))) : w.heap.size ≤ gb192)); replace HB := Am21 (bp21 (by repeat (first | (with_reducible first | exact HB.out | apply ba21 | apply bn21 | apply bd21) | exact HB.out)) hb); clear hb hbox hg; have hcz28_0 : w27.cell? ⟨gb192, 0, none⟩ = some (.string a0_0) := (kc21 BK192.out 0).trans rfl; have hcz28_1 : w27.cell? ⟨gb192, 1, none⟩ = some (.string a0_1) := (kc21 BK192.out 1).trans rfl; have hfz28_0 := kz21 BK192.out 0; have hfz28_1 := kz21 BK192.out 1) | ((with_reducible refine gate_callee (f:=17) rfl ?_); refine goesL_ (some 6) rfl rfl Try.func17 (by kernel_rfl) rfl #[.agg #[.string a0_0, .string a0_1]] rfl (by (try simp only [ma21, mc21, mn21]); first | done | rfl | (simp only [ld21, lt_21]; rfl)) ?_; (with_reducible refine (watershedref04_Right.calls k a0_0 a0_1 true _ A3.out).mono ?_); rintro e w29 ⟨rfl, hb⟩; refine ⟨_, rfl, ?_⟩; replace BK192 := Am21 (kb21 (g:=gb192) (o:=.cells #[.string a0_0, .string a0_1] 26 (0, 0)) (by (with_reducible repeat first | apply kn21 | apply kd21 | apply ka21); exact BK192.out) hb); replace HB := Am21 (bp21 (by repeat (first | (with_reducible first | exact HB.out | apply ba21 | apply bn21 | apply bd21 | refine bs21 ?_ GE192.out) | exact HB.out)) hb); (try clear hb); (try clear hb2); (try clear hk); (try clear hi)) | (go_at_call 19; (with_reducible refine (watershedref04_Key.calls k a1 true _ A5.out).mono ?_); rintro e w' ⟨rfl, ⟨nd, rfl⟩⟩; have hcz30_0 : w29.cell? ⟨gb192, 0, none⟩ = some (.string a0_0) := (kc21 BK192.out 0).trans rfl; have hcz30_1 : w29.cell? ⟨gb192, 1, none⟩ = some (.string a0_1) := (kc21 BK192.out 1).trans rfl; have hfz30_0 := kz21 BK192.out 0; have hfz30_1 := kz21 BK192.out 1))
     go_ret
     exact ⟨by first | rfl | (simp [errW_none, errW_some] <;> rfl) | (simp [*, errW_none, errW_some] <;> rfl), by repeat (first | (with_reducible first | exact HB.out | apply ba21 | apply bn21 | apply bd21 | refine bs21 ?_ GE192.out) | exact HB.out)⟩
  ·replace c6 := Bool.eq_false_iff.mpr c6
   subst c6
   rw [if_neg (show ¬ (false = true) by decide)] at H
   obtain rfl := Option.some.inj H
   go_enter Try.func21, Try.ntmps21
   go_wp2_with (first | ((with_reducible refine gate_dst (N:=2) rfl ?_); refine box_event ?hg (N:=2) ?hd (cs:=#[.string a0_0, .string a0_1]) (t:=26) ?hr ?_; (case hd => rfl); (case hg => rfl); (case hr => first | (go_simp; done) | (go_simp; rfl)); intro gb192 hg w31 hbox hb; have BK192 := Am21 (hbox); have GW192 := Am21 ((by rw [hg]; exact (bz21 (by repeat (first | (with_reducible first | exact HB.out | apply ba21 | apply bn21 | apply bd21) | exact HB.out))) : w.heap.size ≤ gb192)); have GE192 := Am21 ((by rw [hg]; exact (bz21 (by repeat (first | (with_reducible first | exact HB.out | apply ba21 | apply bn21 | apply bd21) | exact HB.out))) : w.heap.size ≤ gb192)); replace HB := Am21 (bp21 (by repeat (first | (with_reducible first | exact HB.out | apply ba21 | apply bn21 | apply bd21) | exact HB.out)) hb); clear hb hbox hg; have hcz32_0 : w31.cell? ⟨gb192, 0, none⟩ = some (.string a0_0) := (kc21 BK192.out 0).trans rfl; have hcz32_1 : w31.cell? ⟨gb192, 1, none⟩ = some (.string a0_1) := (kc21 BK192.out 1).trans rfl; have hfz32_0 := kz21 BK192.out 0; have hfz32_1 := kz21 BK192.out 1) | ((with_reducible refine gate_callee (f:=17) rfl ?_); refine goesL_ (some 6) rfl rfl Try.func17 (by kernel_rfl) rfl #[.agg #[.string a0_0, .string a0_1]] rfl (by (try simp only [ma21, mc21, mn21]); first | done | rfl | (simp only [ld21, lt_21]; rfl)) ?_; (with_reducible refine (watershedref04_Right.calls k a0_0 a0_1 true _ A3.out).mono ?_); rintro e w33 ⟨rfl, hb⟩; refine ⟨_, rfl, ?_⟩; replace BK192 := Am21 (kb21 (g:=gb192) (o:=.cells #[.string a0_0, .string a0_1] 26 (0, 0)) (by (with_reducible repeat first | apply kn21 | apply kd21 | apply ka21); exact BK192.out) hb); replace HB := Am21 (bp21 (by repeat (first | (with_reducible first | exact HB.out | apply ba21 | apply bn21 | apply bd21 | refine bs21 ?_ GE192.out) | exact HB.out)) hb); (try clear hb); (try clear hb2); (try clear hk); (try clear hi)) | (go_at_call 19; (with_reducible refine (watershedref04_Key.calls k a1 false _ A5.out).mono ?_); rintro e w' ⟨rfl, ⟨nd, rfl⟩⟩))
   go_ret
   exact ⟨by first | rfl | (simp [errW_none, errW_some] <;> rfl) | (simp [*, errW_none, errW_some] <;> rfl), by repeat (first | (with_reducible first | exact HB.out | apply ba21 | apply bn21 | apply bd21 | refine bs21 ?_ GE192.out) | exact HB.out)⟩
 ·replace c4 := Bool.eq_false_iff.mpr c4
  subst c4
  rw [if_neg (show ¬ (false = true) by decide)] at H
  obtain rfl := Option.some.inj H
  go_enter Try.func21, Try.ntmps21
  go_wp2_with (first | ((with_reducible refine gate_dst (N:=2) rfl ?_); refine box_event ?hg (N:=2) ?hd (cs:=#[.string a0_0, .string a0_1]) (t:=26) ?hr ?_; (case hd => rfl); (case hg => rfl); (case hr => first | (go_simp; done) | (go_simp; rfl)); intro gb192 hg w34 hbox hb; have BK192 := Am21 (hbox); have GW192 := Am21 ((by rw [hg]; exact (bz21 (by repeat (first | (with_reducible first | exact HB.out | apply ba21 | apply bn21 | apply bd21) | exact HB.out))) : w.heap.size ≤ gb192)); have GE192 := Am21 ((by rw [hg]; exact (bz21 (by repeat (first | (with_reducible first | exact HB.out | apply ba21 | apply bn21 | apply bd21) | exact HB.out))) : w.heap.size ≤ gb192)); replace HB := Am21 (bp21 (by repeat (first | (with_reducible first | exact HB.out | apply ba21 | apply bn21 | apply bd21) | exact HB.out)) hb); clear hb hbox hg; have hcz35_0 : w34.cell? ⟨gb192, 0, none⟩ = some (.string a0_0) := (kc21 BK192.out 0).trans rfl; have hcz35_1 : w34.cell? ⟨gb192, 1, none⟩ = some (.string a0_1) := (kc21 BK192.out 1).trans rfl; have hfz35_0 := kz21 BK192.out 0; have hfz35_1 := kz21 BK192.out 1) | ((with_reducible refine gate_callee (f:=17) rfl ?_); refine goesL_ (some 6) rfl rfl Try.func17 (by kernel_rfl) rfl #[.agg #[.string a0_0, .string a0_1]] rfl (by (try simp only [ma21, mc21, mn21]); first | done | rfl | (simp only [ld21, lt_21]; rfl)) ?_; (with_reducible refine (watershedref04_Right.calls k a0_0 a0_1 false _ A3.out).mono ?_); rintro e w36 ⟨rfl, hb⟩; refine ⟨_, rfl, ?_⟩; replace BK192 := Am21 (kb21 (g:=gb192) (o:=.cells #[.string a0_0, .string a0_1] 26 (0, 0)) (by (with_reducible repeat first | apply kn21 | apply kd21 | apply ka21); exact BK192.out) hb); replace HB := Am21 (bp21 (by repeat (first | (with_reducible first | exact HB.out | apply ba21 | apply bn21 | apply bd21 | refine bs21 ?_ GE192.out) | exact HB.out)) hb); (try clear hb); (try clear hb2); (try clear hk); (try clear hi)))
  go_ret
  exact ⟨by first | rfl | (simp [errW_none, errW_some] <;> rfl) | (simp [*, errW_none, errW_some] <;> rfl), by repeat (first | (with_reducible first | exact HB.out | apply ba21 | apply bn21 | apply bd21 | refine bs21 ?_ GE192.out) | exact HB.out)⟩

theorem Am33 : type_of% @Aside0.mk := @Aside0.mk
theorem ba33 : type_of% @below_alloc := @below_alloc
theorem bn33 : type_of% @pw_below_drewN := @pw_below_drewN
theorem bd33 : type_of% @below_drew1 := @below_drew1
theorem Rl33 : type_of% @Kd.R_lower := @Kd.R_lower
theorem bz33 : type_of% @below_size := @below_size
theorem bp33 : type_of% @below_step := @below_step
/-! ### watershedkit_markText: function 33 -/
def watershedkit_markText.f (a0 : Int) (a1 : Int) : Option (ByteArray) := some (strOfNums (([35, (a0) % 256, (a0 / 256) % 256, (a0 / 65536) % 256, 47, (a1) % 256, (a1 / 256) % 256, (a1 / 65536) % 256] : List Int)))
set_option maxHeartbeats 8000000 in
set_option maxRecDepth 100000 in
theorem watershedkit_markText.calls (a0 : Int) (a1 : Int) (r : ByteArray) (w : World) (h : watershedkit_markText.f a0 a1 = some r) :
  Calls Try.prog 33 #[.int .i64 a0, .int .i64 a1] w fun e w' => e = .returned (.string r) ∧ Below w.heap.size w w' := by
 have HB := Am33 (Below.refl w.heap.size w)
 have H : (some (strOfNums (([35, (a0) % 256, (a0 / 256) % 256, (a0 / 65536) % 256, 47, (a1) % 256, (a1 / 256) % 256, (a1 / 65536) % 256] : List Int)))) = some r := h
 clear h
 obtain ⟨y195, hy195⟩ : ∃ y_ : List Int, y_ = (([35, (a0) % 256, (a0 / 256) % 256, (a0 / 65536) % 256, 47, (a1) % 256, (a1 / 256) % 256, (a1 / 65536) % 256] : List Int)) := ⟨_, rfl⟩
 replace H : (some (strOfNums y195)) = some r := by first | (rw [hy195]; with_reducible exact H) | (have H2_ := (Option.bind_some _ _).symm.trans H; rw [hy195]; with_reducible exact H2_) | (have H2_ := (Option.bind_some _ _).symm.trans H; with_reducible exact H2_) | with_reducible exact H | (rw [hy195]; exact H) | exact H
 have Ny195 := Am33 hy195
 clear hy195
 obtain rfl := Option.some.inj H
 go_enter Try.func33, Try.ntmps33
 go_wp2_with (first | ((with_reducible refine gate_dst (N:=21) rfl ?_); refine Kd.R_lit (Kd.int .u8) _ 5 ?hg (N:=21) ?hd (xs:=([35, (a0) % 256, (a0 / 256) % 256, (a0 / 65536) % 256, 47, (a1) % 256, (a1 / 256) % 256, (a1 / 65536) % 256] : List Int)) (inner:=[.int .u8 35, .int .u8 ((a0) % 256), .int .u8 ((a0 / 256) % 256), .int .u8 ((a0 / 65536) % 256), .int .u8 47, .int .u8 ((a1) % 256), .int .u8 ((a1 / 256) % 256), .int .u8 ((a1 / 65536) % 256)]) (ok:=fun _ => True) (okp:=fun _ => True) ?hr ?hp (fun _ hk => hk) trivial (Below.refl _ _) (Nat.le_refl _) (by simp) ?_; (case hd => rfl); (case hg => rfl); (case hr => first | (go_simp; done) | (go_simp; rfl)); (case hp => exact (Reps.one (show Kd.M (Kd.int .u8) _ _ _ 35 [.int .u8 35] from rfl) (Reps.one (show Kd.M (Kd.int .u8) _ _ _ ((a0) % 256) [.int .u8 ((a0) % 256)] from rfl) (Reps.one (show Kd.M (Kd.int .u8) _ _ _ ((a0 / 256) % 256) [.int .u8 ((a0 / 256) % 256)] from rfl) (Reps.one (show Kd.M (Kd.int .u8) _ _ _ ((a0 / 65536) % 256) [.int .u8 ((a0 / 65536) % 256)] from rfl) (Reps.one (show Kd.M (Kd.int .u8) _ _ _ 47 [.int .u8 47] from rfl) (Reps.one (show Kd.M (Kd.int .u8) _ _ _ ((a1) % 256) [.int .u8 ((a1) % 256)] from rfl) (Reps.one (show Kd.M (Kd.int .u8) _ _ _ ((a1 / 256) % 256) [.int .u8 ((a1 / 256) % 256)] from rfl) (Reps.one (show Kd.M (Kd.int .u8) _ _ _ ((a1 / 65536) % 256) [.int .u8 ((a1 / 65536) % 256)] from rfl) (Reps.none _ _)))))))))); intro v196 w3 ho4 hb hg_ hnew_; clear hg_ hnew_; (first | rw [← Ny195.out] at ho4 | (simp only [Int.reduceToNat] at ho4; rw [← Ny195.out] at ho4)); have HO197 := Am33 (Rl33 ho4 (bz33 (by repeat (first | (with_reducible first | exact HB.out | apply ba33 | apply bn33 | apply bd33) | exact HB.out)))); replace HB := Am33 (bp33 (by repeat (first | (with_reducible first | exact HB.out | apply ba33 | apply bn33 | apply bd33) | exact HB.out)) hb); clear hb ho4; have hcv5 := own_string (P:=Try.prog) Try.underlying62 Try.underlying5 Try.underlying9 (Kd.own_of_R HO197.out)))
 go_ret
 exact ⟨by first | rfl | (simp [errW_none, errW_some] <;> rfl) | (simp [*, errW_none, errW_some] <;> rfl), by repeat (first | (with_reducible first | exact HB.out | apply ba33 | apply bn33 | apply bd33) | exact HB.out)⟩

end Go.Proofs.Ytbmnhpihlkljdaa.P04e
