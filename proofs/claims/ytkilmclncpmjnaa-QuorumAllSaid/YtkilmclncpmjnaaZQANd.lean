import Derived.Test.YtkilmclncpmjnaaZQAWMore
import Derived.Test.YtkilmclncpmjnaaZQAShelf
import Derived.Lib.AppendZeros
import Derived.Sort.OwnSortedInts
namespace Go.Proofs.Ytkilmclncpmjnaa.Nd
open Go.RowKit Go.Proofs.YtkilmclncpmjnaaW.PrintWords Go.Proofs.YtkilmclncpmjnaaW.PrintLast Go.Proofs.YtkilmclncpmjnaaW.PrintMore
theorem infoG : (Try.prog.info? 3).map (fun i => (i.zero, i.size, i.bytes)) = some (some (.int .i64 0), 1, 8) := by kernel_rfl
set_option maxHeartbeats 2000000
set_option maxRecDepth 100000
/-- slices.Grow of the nil slice. -/
theorem grow_nil (n : Nat) (w : World) (hn : n * 8 ≤ 140737488355328) :
    Calls Try.prog 55 #[.slice none 0 0, .int .i64 n] w fun e w' => ∃ v, e = .returned v ∧ w'.ownsRow w.heap.size 3 1 v 0 [] ∧ Below w.heap.size w w' := by
  obtain ⟨i0, hi, hzz⟩ := Option.map_eq_some_iff.1 infoG
  simp only [Prod.mk.injEq] at hzz
  obtain ⟨hz0, hz1, hz2⟩ := hzz
  rcases Nat.eq_zero_or_pos n with h0 | h0
  · subst h0
    go_enter Try.func55, Try.ntmps55
    go_wp2
    go_ret
    exact ⟨_, rfl, own_nil _ _ _ _, Below.refl _ _⟩
  · have hr := Lib.run_append_nil_zeros (P := Try.prog) w 22 3 22 3 i0 (.int .i64 0) .i64 .i64 Try.underlying22 Try.underlying3 hi hz0 n h0 (by rw [hz1]; decide) (by omega) (by rw [hz2]; omega)
    have hm := grownCap_le_maxLen w n 0 3 (by simp only [maxLen]; omega)
    have hge := grownCap_ge w n 0 3
    obtain ⟨cap, hcap⟩ : ∃ cap, cap = grownCap w n 0 3 := ⟨_, rfl⟩
    rw [← hcap] at hr hm hge
    have hcs : (Builtin.zeroCells (Value.cells (.int .i64 0)) n ++ Builtin.zeroCells (Value.cells (.int .i64 0)) (cap - n)).size = cap := by
      simp [Builtin.zeroCells, Value.cells]; omega
    obtain ⟨C, hC⟩ : ∃ C, C = Builtin.zeroCells (Value.cells (.int .i64 0)) n ++ Builtin.zeroCells (Value.cells (.int .i64 0)) (cap - n) := ⟨_, rfl⟩
    rw [← hC] at hr hcs
    clear hC hcap
    have HM := Aside0.mk hm
    have HCS := Aside0.mk hcs
    have hpos : (0 : Int) < (n : Int) := by omega
    clear hm hcs hge
    go_enter Try.func55, Try.ntmps55
    go_wp2_with (at_builtin; refine Lib.wpList_append_run _ rfl (.tmp 20) (.tmp 21) 22 3 rfl (.slice none 0 0) (.int .i64 n) rfl (by first | rfl | (go_simp; done)) _ _ hr ?_)
    go_ret
    refine ⟨_, rfl, ⟨rfl, .inr ⟨_, cap, C, rfl, Nat.le_refl _, ?_, by omega, HM.out, by have := HCS.out; omega, by simp⟩⟩, ?_⟩
    · exact (blk_new w.drew _)
    · exact below_alloc (below_drew1 (Below.refl _ _)) _
theorem row_at {w : World} {A : Option Addr} {n : Nat} {l : List (List Int)} (h : Kd.C (Kd.slice 3 (Kd.int .i64)) w A n l) (j : Nat) (hj : j < n) :
    ∃ (x : List Int) (B : Option Addr) (c : Nat) (ad : Addr), l[j]? = some x ∧ A = some ad ∧ w.cell? (ad.add j) = some (.slice B x.length c) ∧ x.length ≤ c ∧ Kd.C (Kd.int .i64) w B x.length x := by
  obtain ⟨hl, _, hc⟩ := h
  obtain ⟨ad, e, hc⟩ := hc (by omega)
  have hj' : j < l.length := by omega
  obtain ⟨c, hs, ⟨B, c', rfl, hle, hr⟩, hcell⟩ := hc j _ (List.getElem?_eq_getElem hj')
  refine ⟨l[j], B, c', ad, List.getElem?_eq_getElem hj', e, ?_, hle, hr⟩
  have := hcell 0 _ rfl
  simpa [Kd.slice] using this
theorem take_succ_flat (ls : List (List Int)) (j : Nat) (x : List Int) (h : ls[j]? = some x) : (ls.take (j + 1)).flatten = (ls.take j).flatten ++ x := by
  rw [List.take_add_one, h]; simp
theorem flat_le (ls : List (List Int)) (j : Nat) : (ls.take j).flatten.length ≤ ls.flatten.length := by
  have : ls.flatten = (ls.take j).flatten ++ (ls.drop j).flatten := by rw [← List.flatten_append, List.take_append_drop]
  rw [this, List.length_append]; omega
/-- slices.Concat. -/
theorem concat (A0 : Option Addr) (c0 : Nat) (ls : List (List Int)) (w : World) (hr : Kd.C (Kd.slice 3 (Kd.int .i64)) w A0 ls.length ls) (hb : ls.flatten.length * 8 ≤ 140737488355328) :
    Calls Try.prog 48 #[.slice A0 ls.length c0] w fun e w' => ∃ v, e = .returned v ∧ Kd.R (Kd.int .i64) 3 w' w.heap.size (fun _ => True) v ls.flatten ∧ Below w.heap.size w w' := by
  have hlen : ls.length ≤ 9223372036854775807 := hr.2.1
  have HR := Aside0.mk hr
  clear hr
  go_enter Try.func48, Try.ntmps48
  go_wp2
  go_loopw [3, 11] (fun v3 v11 w' => ∃ j : Nat, v11 = .int .i64 j ∧ j ≤ ls.length ∧ v3 = .int .i64 ((ls.take j).flatten.length : Nat) ∧ w' = w) (fun _ v11 _ => ls.length - (intOf v11).toNat)
  case atStart => exact ⟨0, rfl, by omega, by simp, rfl⟩
  case round =>
    obtain ⟨j, rfl, hj, rfl, rfl⟩ := hrel
    by_cases hlt : j < ls.length
    · obtain ⟨x, B, c, ad, hx, rfl, hcell, hle, hrx⟩ := row_at HR.out j hlt
      have ht := take_succ_flat ls j x hx
      have hf := flat_le ls (j + 1)
      rw [ht, List.length_append] at hf
      have HT := Aside0.mk ht
      clear ht hx hrx
      obtain ⟨a, ha⟩ : ∃ a, a = (ls.take j).flatten.length := ⟨_, rfl⟩
      rw [← ha] at hf ⊢
      have HA := Aside0.mk ha
      clear ha
      have h1 : (0 : Int) ≤ (a : Int) + (x.length : Int) := by omega
      have h2 : (a : Int) + (x.length : Int) ≤ 140737488355328 := by omega
      have h3 : decide ((a : Int) + (x.length : Int) < 0) = false := decide_eq_false (by omega)
      go_wp2
      go_roundw
      case rel => exact ⟨j + 1, by go_num, by omega, by rw [HT.out, List.length_append, ← HA.out]; go_num, trivial⟩
      case measure => simp [intOf]; omega
    · obtain rfl : j = ls.length := by omega
      obtain ⟨wo, rfl⟩ : ∃ wo : World, wo = wr := ⟨_, rfl⟩
      rw [List.take_length]
      have hb1 := flat_le ls 0
      obtain ⟨a, ha⟩ : ∃ a, a = ls.flatten.length := ⟨_, rfl⟩
      rw [← ha] at hb ⊢
      have HA := Aside0.mk ha
      clear ha hb1
      go_wp2_with (go_at_call 55; (with_reducible refine (grow_nil a _ hb).mono ?_); rintro e w1 ⟨v6, rfl, ho, hbl⟩; have HO : Aside0 (Kd.R (Kd.int .i64) 3 w1 wo.heap.size (fun _ => True) v6 []) := ⟨Kd.R_of_own (by simpa [encs] using ho) (fun _ _ => trivial)⟩; have HB := Aside0.mk hbl; clear ho hbl)
      go_loopw [6, 27] (fun v6 v27 w' => ∃ j : Nat, v27 = .int .i64 j ∧ j ≤ ls.length ∧ Aside0 (Kd.R (Kd.int .i64) 3 w' wo.heap.size (fun _ => True) v6 (ls.take j).flatten) ∧ Aside0 (Below wo.heap.size wo w')) (fun _ v27 _ => ls.length - (intOf v27).toNat)
      case atStart => exact ⟨0, rfl, by omega, by simpa using HO, HB⟩
      case round =>
        obtain ⟨j, rfl, hj, HO2, HB2⟩ := hrel
        clear HO HB
        by_cases hlt : j < ls.length
        · obtain ⟨x, B, c, ad, hx, rfl, hcell, hle, hrx⟩ := row_at (Kd.C_below HR.out HB2.out) j hlt
          have ht := take_succ_flat ls j x hx
          have hf := flat_le ls (j + 1)
          rw [ht, List.length_append, ← HA.out] at hf
          have HT := Aside0.mk ht
          have HX := Aside0.mk hrx
          have HF := Aside0.mk (show ((ls.take j).flatten.length + x.length) * 8 ≤ 140737488355328 by omega)
          clear ht hx hrx hf
          go_wp2_with (at_builtin; refine Kd.R_append_rows (Kd.int .i64) (w0 := wo) (Rr := fun x cs => (Kd.int .i64).K wr x cs) wo.heap.size rfl (.tmp 31) (.tmp 32) 22 3 (.int .i64 0) 8 rfl Try.underlying22 infoG rfl (by decide) (by omega) _ (ls.take j).flatten x B x.length c (fun _ => True) (fun _ => False) rfl rfl HO2.out HX.out (fun _ _ h => h) (fun _ h => h.elim) (fun _ _ => trivial) HB2.out (below_size HB2.out) HF.out ?_; intro v7 w7 ho7 hb7 _ _; have HO7 := Aside0.mk ho7; have HB7 := Aside0.mk hb7; clear ho7 hb7)
          go_roundw
          case rel => exact ⟨j + 1, by go_num, by omega, ⟨by rw [HT.out]; exact HO7.out⟩, HB7⟩
          case measure => simp [intOf]; omega
        · obtain rfl : j = ls.length := by omega
          have HO3 := HO2.out
          rw [List.take_length] at HO3
          have HO4 := Aside0.mk HO3
          clear HO3 HO2
          go_wp2
          go_ret
          exact ⟨_, rfl, HO4.out, HB2.out⟩
theorem own_sort (base : Nat) (A : Option Addr) (n c : Nat) (l : List Int) (w : World) (hl : l.length < 4611686018427387904) (hR : Kd.R (Kd.int .i64) 3 w base (fun _ => True) (.slice A n c) l) :
    Calls Try.prog 49 #[.slice A n c] w fun e w' => e = .returned (.tuple #[]) ∧ Kd.R (Kd.int .i64) 3 w' base (fun _ => True) (.slice A n c) (l.mergeSort fun x y => decide (x ≤ y)) ∧ w.grownBy w' (Value.slice A n c).ownBlock := by
  have ho : w.ownsRow base 3 1 (.slice A n c) l.length (l.map (Value.int .i64)) := by
    have := Kd.own_of_R hR
    simpa [encs] using this
  rcases ho.2 with ⟨hv, h0⟩ | ⟨g, cap, cur, hv, hbase, hg, h1, h2, h3, h4⟩
  · cases hv
    have hn : l = [] := List.eq_nil_of_length_eq_zero h0
    subst hn
    refine (Try.slices_Sort_int_none none 0 w).mono ?_
    rintro e w' ⟨rfl, rfl⟩
    exact ⟨rfl, by simpa using hR, World.grownBy.refl _ _⟩
  · cases hv
    have hH : Sort.Holds (Value.int .i64) w g 0 l.toArray := holds_of_blockI hg (by simpa using h4)
    refine (Try.slices_Sort_int g 0 c l w hH (blk_lt hg) hl).mono ?_
    rintro e w' ⟨rfl, q, os, rfl⟩
    obtain ⟨ts, hts⟩ : ∃ ts, ts = l.mergeSort fun x y => decide (x ≤ y) := ⟨_, rfl⟩
    have htl : ts.length = l.length := by rw [hts, List.length_mergeSort]
    have hh := heap_sortedI (n := q) (os := os) ts.toArray hg
    have hgr := grownBy_sortedI (w := w) (g := g) (n := q) (os := os) ts.toArray
    have htk := take_putCellsI cur ts (by omega)
    rw [← hts]
    refine ⟨rfl, ?_, by simpa [Value.ownBlock] using hgr⟩
    rw [← htl]
    refine Kd.R_of_own ?_ (fun _ _ => trivial)
    refine ⟨by simp [encs], .inr ⟨g, c, _, rfl, hbase, hh, by omega, h2, by simp [Sort.putCells]; omega, ?_⟩⟩
    simpa [encs] using htk
theorem compact_lenI (zs : List Int) : (Lib.compact zs).length ≤ zs.length := by
  have := List.length_filter_le (Lib.keeps zs.toArray) (List.range zs.length)
  simpa [Lib.compact, Lib.compactUpTo] using this
theorem own_compact (base : Nat) (A : Option Addr) (n c : Nat) (l : List Int) (w : World) (hR : Kd.R (Kd.int .i64) 3 w base (fun _ => True) (.slice A n c) l) :
    Calls Try.prog 50 #[.slice A n c] w fun e w' => ∃ v, e = .returned v ∧ Kd.R (Kd.int .i64) 3 w' base (fun _ => True) v (Lib.compact l) ∧ w.grownBy w' (Value.slice A n c).ownBlock := by
  have ho : w.ownsRow base 3 1 (.slice A n c) l.length (l.map (Value.int .i64)) := by
    have := Kd.own_of_R hR
    simpa [encs] using this
  rcases ho.2 with ⟨hv, h0⟩ | ⟨g, cap, cur, hv, hbase, hg, h1, h2, h3, h4⟩
  · cases hv
    refine (Try.slices_Compact_int_empty none 0 w).mono ?_
    rintro e w' ⟨rfl, rfl⟩
    have hn : l = [] := List.eq_nil_of_length_eq_zero h0
    subst hn
    exact ⟨_, rfl, by simpa [Lib.compact, Lib.compactUpTo] using hR, World.grownBy.refl _ _⟩
  · cases hv
    have hH : Sort.Holds (Value.int .i64) w g 0 l.toArray := holds_of_blockI hg (by simpa using h4)
    refine (Try.slices_Compact_int g 0 c l w hH (by simp [maxLen] at h2; omega) h1).mono ?_
    rintro e w' ⟨rfl, q, rfl⟩
    have hle := compact_lenI l
    obtain ⟨ts, hts⟩ : ∃ ts, ts = Lib.compact l ++ List.replicate (l.length - (Lib.compact l).length) 0 := ⟨_, rfl⟩
    have htl : ts.length = l.length := by rw [hts, List.length_append, List.length_replicate]; omega
    have hh := heap_sortedI (os := #[]) (n := q) ts.toArray hg
    have hgr := grownBy_sortedI (w := w) (g := g) (n := q) (os := #[]) ts.toArray
    have htk := take_putCellsI cur ts (by omega)
    rw [← hts]
    rw [Sort.grow_empty] at hh hgr
    refine ⟨_, rfl, ?_, by simpa [Value.ownBlock] using hgr⟩
    refine Kd.R_of_own ?_ (fun _ _ => trivial)
    refine ⟨by simp [encs], .inr ⟨g, c, _, rfl, hbase, hh, by omega, h2, by simp [Sort.putCells]; omega, ?_⟩⟩
    have e1 : (Lib.compact l).length * 1 ≤ ts.length := by omega
    have := congrArg (List.take ((Lib.compact l).length * 1)) htk
    rw [List.take_take, Nat.min_eq_left e1] at this
    simp only [encs]
    have h5 : (List.take ((Lib.compact l).length * 1) (ts.map (Value.int .i64))) = (Lib.compact l).map (Value.int .i64) := by
      rw [hts, List.map_append, Nat.mul_one, List.take_append_of_le_length (by simp), List.take_of_length_le (by simp)]
    rw [h5] at this
    simpa using this
/-- What quorum.Nodes tells. -/
def nodesL (a b c : List Int) : List Int := Lib.compact ((a ++ b ++ c).mergeSort fun x y => decide (x ≤ y))
theorem c_three {W : World} {g : Nat} {A0 A1 A2 : Option Addr} {c0 c1 c2 : Nat} {l0 l1 l2 : List Int} (hg : W.heap[g]? = some (.cells #[.slice A0 l0.length c0, .slice A1 l1.length c1, .slice A2 l2.length c2] 22 (0, 0)))
    (h0 : Kd.C (Kd.int .i64) W A0 l0.length l0) (q0 : l0.length ≤ c0) (h1 : Kd.C (Kd.int .i64) W A1 l1.length l1) (q1 : l1.length ≤ c1) (h2 : Kd.C (Kd.int .i64) W A2 l2.length l2) (q2 : l2.length ≤ c2) :
    Kd.C (Kd.slice 3 (Kd.int .i64)) W (some ⟨g, 0, none⟩) [l0, l1, l2].length [l0, l1, l2] := by
  have ha : ∀ j, (⟨g, 0, none⟩ : Addr).add j = ⟨g, j, none⟩ := fun j => by unfold Addr.add; split <;> simp_all
  refine ⟨rfl, by simp, fun _ => ⟨_, rfl, fun j p hj => ?_⟩⟩
  match j, hj with
  | 0, hj => cases hj; exact ⟨[.slice A0 l0.length c0], rfl, ⟨A0, c0, rfl, q0, h0⟩, fun i u hu => by (cases i with | zero => (cases hu; simp only [Kd.slice, ha]; exact (blk_cell hg 0).trans rfl) | succ i => simp at hu)⟩
  | 1, hj => cases hj; exact ⟨[.slice A1 l1.length c1], rfl, ⟨A1, c1, rfl, q1, h1⟩, fun i u hu => by (cases i with | zero => (cases hu; simp only [Kd.slice, ha]; exact (blk_cell hg 1).trans rfl) | succ i => simp at hu)⟩
  | 2, hj => cases hj; exact ⟨[.slice A2 l2.length c2], rfl, ⟨A2, c2, rfl, q2, h2⟩, fun i u hu => by (cases i with | zero => (cases hu; simp only [Kd.slice, ha]; exact (blk_cell hg 2).trans rfl) | succ i => simp at hu)⟩
  | j + 3, hj => simp at hj
theorem nodes_calls (A0 A1 A2 A3 : Option Addr) (c0 c1 c2 c3 : Nat) (l0 l1 l2 l3 : List Int) (w : World) (h0 : Kd.C (Kd.int .i64) w A0 l0.length l0) (q0 : l0.length ≤ c0) (h1 : Kd.C (Kd.int .i64) w A1 l1.length l1) (q1 : l1.length ≤ c1) (h2 : Kd.C (Kd.int .i64) w A2 l2.length l2) (q2 : l2.length ≤ c2)
    (b0 : l0.length ≤ 1000) (b1 : l1.length ≤ 1000) (b2 : l2.length ≤ 1000) :
    Calls Try.prog 27 #[.agg #[.slice A0 l0.length c0, .slice A1 l1.length c1, .slice A2 l2.length c2, .slice A3 l3.length c3]] w fun e w' => ∃ v, e = .returned v ∧ Kd.R (Kd.int .i64) 3 w' w.heap.size (fun _ => True) v (nodesL l0 l1 l2) ∧ Below w.heap.size w w' := by
  have hu := Try.underlying24
  obtain ⟨W2, hW2⟩ : ∃ W2, W2 = (w.alloc (.cells #[.slice A0 l0.length c0, .slice A1 l1.length c1, .slice A2 l2.length c2, .slice A3 l3.length c3] 24)).alloc (.cells #[.slice A0 l0.length c0, .slice A1 l1.length c1, .slice A2 l2.length c2] 22) := ⟨_, rfl⟩
  have hB2 : Below w.heap.size w W2 := by rw [hW2]; exact below_alloc (below_alloc (Below.refl _ _) _) _
  have hg2 : W2.heap[w.heap.size + 1]? = some (.cells #[.slice A0 l0.length c0, .slice A1 l1.length c1, .slice A2 l2.length c2] 22 (0, 0)) := by
    rw [hW2]
    have := blk_new (w.alloc (.cells #[.slice A0 l0.length c0, .slice A1 l1.length c1, .slice A2 l2.length c2, .slice A3 l3.length c3] 24)) (.cells #[.slice A0 l0.length c0, .slice A1 l1.length c1, .slice A2 l2.length c2] 22)
    rw [World.size_alloc] at this
    exact this
  have HC := Aside0.mk (c_three hg2 (Kd.C_below h0 hB2) q0 (Kd.C_below h1 hB2) q1 (Kd.C_below h2 hB2) q2)
  have HB2 := Aside0.mk hB2
  rw [hW2] at HC HB2
  have HL := Aside0.mk (show [l0, l1, l2].flatten.length * 8 ≤ 140737488355328 by simp; omega)
  have HL2 := Aside0.mk (show [l0, l1, l2].flatten.length < 4611686018427387904 by simp; omega)
  have hcc := concat (some ⟨w.heap.size + 1, 0, none⟩) 3 [l0, l1, l2] _ HC.out HL.out
  change Calls Try.prog 48 #[.slice (some ⟨w.heap.size + 1, 0, none⟩) 3 3] _ _ at hcc
  have hl2 := HL2.out
  obtain ⟨L, hL⟩ : ∃ L, L = [l0, l1, l2].flatten := ⟨_, rfl⟩
  rw [← hL] at hcc hl2
  have HCC := Aside0.mk hcc
  have HL3 := Aside0.mk hl2
  have HLE := Aside0.mk hL
  clear hL hl2 HL HL2
  clear hcc hg2 hB2 hW2 h0 h1 h2 q0 q1 q2 b0 b1 b2
  go_enter Try.func27, Try.ntmps27
  go_wp2_with (first
    | (go_at_call 48; (with_reducible refine HCC.out.mono ?_); rintro e w1 ⟨v3, rfl, ho, hb⟩; obtain ⟨A, c, rfl⟩ := Kd.R_slice ho; have HO := Aside0.mk (Kd.R_lower ho (below_size HB2.out)); have HB := Aside0.mk (below_step HB2.out hb); clear ho hb)
    | (go_at_call 49; (with_reducible refine (own_sort _ _ _ _ _ _ HL3.out HO.out).mono ?_); rintro e w2 ⟨rfl, ho, hg⟩; have HO2 := Aside0.mk ho; have HB3 := Aside0.mk (HB.out.grown hg HB.out.size (fun k e => own_base (Kd.own_of_R HO.out) k e)); clear ho hg)
    | (go_at_call 50; (with_reducible refine (own_compact _ _ _ _ _ _ HO2.out).mono ?_); rintro e w3 ⟨v5, rfl, ho, hg⟩; have HO3 := Aside0.mk ho; have HB4 := Aside0.mk (HB3.out.grown hg HB3.out.size (fun k e => own_base (Kd.own_of_R HO2.out) k e)); clear ho hg))
  go_ret
  refine ⟨_, rfl, ?_, HB4.out⟩
  have := HO3.out
  rw [HLE.out] at this
  simpa [nodesL] using this
end Go.Proofs.Ytkilmclncpmjnaa.Nd
