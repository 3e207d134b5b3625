/- Texts of this session, made one by a program of this session (mergemods.py). -/
import Derived.Test.YtaeamdhkdiblmaaZDADmA
import Derived.Lib.AppendZeros
import Derived.Maps.RangeWalk
set_option linter.unusedSimpArgs false
set_option linter.unusedVariables false
namespace Go.Proofs.Ytaeamdhkdiblmaa.Dk
open Go.RowKit Go.Proofs.YtaeamdhkdiblmaaW.PrintWords Go.Proofs.YtaeamdhkdiblmaaW.PrintLast Go.Proofs.YtaeamdhkdiblmaaW.PrintMore
/-! A disk, told plainly -/
structure DS where
  files : List (List UInt8 × Nat)
  bytes : Nat → List Int
  pieces : List (Nat × Int)
  size : Int
def DS.ids (d : DS) : List Nat := d.files.map (·.2)
def upd (b : Nat → List Int) (f : Nat) (xs : List Int) : Nat → List Int := fun k => if k = f then xs else b k
theorem upd_self (b : Nat → List Int) (f : Nat) (xs : List Int) : upd b f xs f = xs := if_pos rfl
theorem upd_ne {b : Nat → List Int} {f k : Nat} {xs : List Int} (h : k ≠ f) : upd b f xs k = b k := if_neg h
/-- How many bytes of a file wait. -/
def sumOf (f : Nat) (l : List (Nat × Int)) : Int := sumP (l.filter fun x => x.1 == f)
def lenSum (b : Nat → List Int) (l : List Nat) : Nat := (l.map fun f => (b f).length).sum
def DS.total (d : DS) : Nat := lenSum d.bytes d.ids
abbrev room : Nat := 1099511627776
structure DS.Ok (d : DS) : Prop where
  nodup : d.ids.Nodup
  old : ∀ x ∈ d.pieces, x.1 ∈ d.ids
  pos : ∀ x ∈ d.pieces, 0 < x.2
  wait : ∀ f ∈ d.ids, sumOf f d.pieces ≤ (d.bytes f).length
  few : d.total + d.files.length ≤ room
abbrev BK : Kd Int := Kd.int .u8
/-- The block of a file's bytes. -/
def ownB (W : World) (f : Nat) : Option Nat := match W.heap[f]? with | some (.cells cs _ _) => cs[0]?.bind Value.ownBlock | _ => none
theorem ownB_of {W : World} {f t : Nat} {u : Value} {z : Nat × Nat} (h : W.heap[f]? = some (.cells #[u] t z)) : ownB W f = u.ownBlock := by
  unfold ownB
  rw [h]
  rfl
theorem ownB_same {W W' : World} {f : Nat} (h : W'.heap[f]? = W.heap[f]?) : ownB W' f = ownB W f := by
  unfold ownB
  rw [h]
def FileAt (W : World) (F : Nat → Prop) (f : Nat) (xs : List Int) : Prop := ∃ u, W.heap[f]? = some (.cells #[u] 78 (0, 0)) ∧ BK.R 5 W 0 F u xs
structure IsDisk (W : World) (F : Nat → Prop) (p : Nat) (d : DS) : Prop where
  ok : d.Ok
  low : ∀ k, F k → k < W.heap.size
  hp : F p
  core : ∃ v m, Head W p v (.map (some m)) d.size ∧ Files W m d.files.length d.files ∧ F m ∧ Pcs W F v d.pieces
  file : ∀ f ∈ d.ids, F f ∧ FileAt W F f (d.bytes f)
  apart : ∀ f ∈ d.ids, ∀ f' ∈ d.ids, f ≠ f' → ∀ k, ownB W f = some k → ownB W f' ≠ some k
theorem Files.same {W W' : World} {m n : Nat} {fs : List (List UInt8 × Nat)} (h : Files W m n fs) (hs : W'.heap[m]? = W.heap[m]?) : Files W' m n fs := by
  obtain ⟨es, clock, hb, r⟩ := h
  exact ⟨es, clock, hs.trans hb, r⟩
theorem Files.isMap {W : World} {m n : Nat} {fs : List (List UInt8 × Nat)} (h : Files W m n fs) : ∃ es clock, W.heap[m]? = some (.map es clock) := by
  obtain ⟨es, clock, hb, r⟩ := h
  exact ⟨es, clock, hb⟩
theorem Files.exact {W : World} {m n : Nat} {fs : List (List UInt8 × Nat)} (h : Files W m n fs) : Files W m fs.length fs := by
  obtain ⟨es, clock, hb, hf, hs, hD⟩ := h
  refine ⟨es, clock, hb, hf, ?_, hD⟩
  have h2 := congrArg Maps.size hD
  simp only [datF, Maps.size_eq, length_sorted, List.length_map, Array.length_toList] at h2
  omega
theorem Pcs.mono {W : World} {F F' : Nat → Prop} {v : Value} {l : List (Nat × Int)} (h : Pcs W F v l) (hF : ∀ k, F k → F' k) : Pcs W F' v l := by
  rcases h with h | ⟨g, cap, e, hc, hg, h⟩
  · exact .inl h
  · exact .inr ⟨g, cap, e, hc, hF _ hg, h⟩
theorem Pcs.move {W W' : World} {F : Nat → Prop} {v : Value} {l : List (Nat × Int)} (h : Pcs W F v l) (hs : ∀ k, F k → W'.heap[k]? = W.heap[k]?) : Pcs W' F v l := by
  rcases h with h | ⟨g, cap, e, hc, hF, h⟩
  · exact .inl h
  · exact .inr ⟨g, cap, e, hc, hF, h.same (hs g hF)⟩
theorem FileAt.move {W W' : World} {F : Nat → Prop} {f : Nat} {xs : List Int} (h : FileAt W F f xs) (hf : F f) (hs : ∀ k, F k → W'.heap[k]? = W.heap[k]?) : FileAt W' F f xs := by
  obtain ⟨u, h1, h2⟩ := h
  exact ⟨u, (hs f hf).trans h1, Kd.R_move h2 hs⟩
theorem FileAt.mono {W : World} {F F' : Nat → Prop} {f : Nat} {xs : List Int} (h : FileAt W F f xs) (hF : ∀ k, F k → F' k) : FileAt W F' f xs := by
  obtain ⟨u, h1, h2⟩ := h
  exact ⟨u, h1, Kd.R_mono h2 hF⟩
/-- None of the disk's blocks has turned. -/
theorem IsDisk.move {W W' : World} {F : Nat → Prop} {p : Nat} {d : DS} (h : IsDisk W F p d) (hs : ∀ k, F k → W'.heap[k]? = W.heap[k]?) (hz : W.heap.size ≤ W'.heap.size) : IsDisk W' F p d where
  ok := h.ok
  low := fun k hk => Nat.lt_of_lt_of_le (h.low k hk) hz
  hp := h.hp
  core := by
    obtain ⟨v, m, h1, h2, h3, h4⟩ := h.core
    exact ⟨v, m, (hs p h.hp).trans h1, h2.same (hs m h3), h3, h4.move hs⟩
  file := fun f hf => ⟨(h.file f hf).1, (h.file f hf).2.move (h.file f hf).1 hs⟩
  apart := fun f hf f' hf' hne k => by
    rw [ownB_same (hs f (h.file f hf).1), ownB_same (hs f' (h.file f' hf').1)]
    exact h.apart f hf f' hf' hne k
theorem IsDisk.mono {W : World} {F F' : Nat → Prop} {p : Nat} {d : DS} (h : IsDisk W F p d) (hF : ∀ k, F k → F' k) (hl : ∀ k, F' k → k < W.heap.size) : IsDisk W F' p d where
  ok := h.ok
  low := hl
  hp := hF _ h.hp
  core := by
    obtain ⟨v, m, h1, h2, h3, h4⟩ := h.core
    exact ⟨v, m, h1, h2, hF _ h3, h4.mono hF⟩
  file := fun f hf => ⟨hF _ (h.file f hf).1, (h.file f hf).2.mono hF⟩
  apart := h.apart
theorem IsDisk.ch {W W' : World} {F G : Nat → Prop} {p : Nat} {d : DS} (h : IsDisk W F p d) (hc : Ch G W W') (hG : ∀ k, F k → ¬ G k) : IsDisk W' F p d := h.move (fun k hk => hc.block k (h.low k hk) (hG k hk)) hc.size
theorem IsDisk.below {W W' : World} {F : Nat → Prop} {p : Nat} {d : DS} (h : IsDisk W F p d) (hb : Below W.heap.size W W') : IsDisk W' F p d := h.ch (Ch.of (F := fun _ => False) hb) (fun _ _ h => h)
/-- What a disk's blocks are behind a call. -/
def Grown (F : Nat → Prop) (w w' : World) : Nat → Prop := fun k => F k ∨ (w.heap.size ≤ k ∧ k < w'.heap.size)
end Go.Proofs.Ytaeamdhkdiblmaa.Dk
set_option linter.unusedSimpArgs false
set_option linter.unusedVariables false
namespace Go.Proofs.Ytaeamdhkdiblmaa.Dk
open Go.RowKit Go.Proofs.YtaeamdhkdiblmaaW.PrintWords Go.Proofs.YtaeamdhkdiblmaaW.PrintLast Go.Proofs.YtaeamdhkdiblmaaW.PrintMore
theorem infoG : (Try.prog.info? 5).map (fun i => (i.zero, i.size, i.bytes)) = some (some (.int .u8 0), 1, 1) := by kernel_rfl
set_option maxHeartbeats 2000000
set_option maxRecDepth 100000
/-- slices.Grow of the nil slice. -/
theorem grow_nil (n : Nat) (w : World) (hn : n * 1 ≤ 140737488355328) :
    Calls Try.prog 64 #[.slice none 0 0, .int .i64 n] w fun e w' => ∃ v, e = .returned v ∧ w'.ownsRow w.heap.size 5 1 v 0 [] ∧ Below w.heap.size w w' := by
  obtain ⟨i0, hi, hzz⟩ := Option.map_eq_some_iff.1 infoG
  simp only [Prod.mk.injEq] at hzz
  obtain ⟨hz0, hz1, hz2⟩ := hzz
  rcases Nat.eq_zero_or_pos n with h0 | h0
  · subst h0
    go_enter Try.func64, Try.ntmps64
    go_wp2
    go_ret
    exact ⟨_, rfl, own_nil _ _ _ _, Below.refl _ _⟩
  · have hr := Lib.run_append_nil_zeros (P := Try.prog) w 32 3 32 5 i0 (.int .u8 0) .i64 .i64 Try.underlying32 Try.underlying3 hi hz0 n h0 (by rw [hz1]; decide) (by omega) (by rw [hz2]; omega)
    have hm := grownCap_le_maxLen w n 0 5 (by simp only [maxLen]; omega)
    have hge := grownCap_ge w n 0 5
    obtain ⟨cap, hcap⟩ : ∃ cap, cap = grownCap w n 0 5 := ⟨_, rfl⟩
    rw [← hcap] at hr hm hge
    have hcs : (Builtin.zeroCells (Value.cells (.int .u8 0)) n ++ Builtin.zeroCells (Value.cells (.int .u8 0)) (cap - n)).size = cap := by
      simp [Builtin.zeroCells, Value.cells]; omega
    obtain ⟨C, hC⟩ : ∃ C, C = Builtin.zeroCells (Value.cells (.int .u8 0)) n ++ Builtin.zeroCells (Value.cells (.int .u8 0)) (cap - n) := ⟨_, rfl⟩
    rw [← hC] at hr hcs
    clear hC hcap
    have HM := Aside0.mk hm
    have HCS := Aside0.mk hcs
    have hpos : (0 : Int) < (n : Int) := by omega
    clear hm hcs hge
    go_enter Try.func64, Try.ntmps64
    go_wp2_with (at_builtin; refine Lib.wpList_append_run _ rfl (.tmp 20) (.tmp 21) 32 3 rfl (.slice none 0 0) (.int .i64 n) rfl (by first | rfl | (go_simp; done)) _ _ hr ?_)
    go_ret
    refine ⟨_, rfl, ⟨rfl, .inr ⟨_, cap, C, rfl, Nat.le_refl _, ?_, by omega, HM.out, by have := HCS.out; omega, by simp⟩⟩, ?_⟩
    · exact (blk_new w.drew _)
    · exact below_alloc (below_drew1 (Below.refl _ _)) _
theorem row_at {w : World} {A : Option Addr} {n : Nat} {l : List (List Int)} (h : Kd.C (Kd.slice 5 (Kd.int .u8)) w A n l) (j : Nat) (hj : j < n) :
    ∃ (x : List Int) (B : Option Addr) (c : Nat) (ad : Addr), l[j]? = some x ∧ A = some ad ∧ w.cell? (ad.add j) = some (.slice B x.length c) ∧ x.length ≤ c ∧ Kd.C (Kd.int .u8) w B x.length x := by
  obtain ⟨hl, _, hc⟩ := h
  obtain ⟨ad, e, hc⟩ := hc (by omega)
  have hj' : j < l.length := by omega
  obtain ⟨c, hs, ⟨B, c', rfl, hle, hr⟩, hcell⟩ := hc j _ (List.getElem?_eq_getElem hj')
  refine ⟨l[j], B, c', ad, List.getElem?_eq_getElem hj', e, ?_, hle, hr⟩
  have := hcell 0 _ rfl
  simpa [Kd.slice] using this
theorem take_succ_flat (ls : List (List Int)) (j : Nat) (x : List Int) (h : ls[j]? = some x) : (ls.take (j + 1)).flatten = (ls.take j).flatten ++ x := by
  rw [List.take_add_one, h]; simp
theorem flat_le (ls : List (List Int)) (j : Nat) : (ls.take j).flatten.length ≤ ls.flatten.length := by
  have : ls.flatten = (ls.take j).flatten ++ (ls.drop j).flatten := by rw [← List.flatten_append, List.take_append_drop]
  rw [this, List.length_append]; omega
/-- slices.Concat. -/
theorem concat (A0 : Option Addr) (c0 : Nat) (ls : List (List Int)) (w : World) (hr : Kd.C (Kd.slice 5 (Kd.int .u8)) w A0 ls.length ls) (hb : ls.flatten.length * 1 ≤ 140737488355328) :
    Calls Try.prog 36 #[.slice A0 ls.length c0] w fun e w' => ∃ v, e = .returned v ∧ Kd.R (Kd.int .u8) 5 w' w.heap.size (fun _ => True) v ls.flatten ∧ Below w.heap.size w w' := by
  have hlen : ls.length ≤ 9223372036854775807 := hr.2.1
  have HR := Aside0.mk hr
  clear hr
  go_enter Try.func36, Try.ntmps36
  go_wp2
  go_loopw [3, 11] (fun v3 v11 w' => ∃ j : Nat, v11 = .int .i64 j ∧ j ≤ ls.length ∧ v3 = .int .i64 ((ls.take j).flatten.length : Nat) ∧ w' = w) (fun _ v11 _ => ls.length - (intOf v11).toNat)
  case atStart => exact ⟨0, rfl, by omega, by simp, rfl⟩
  case round =>
    obtain ⟨j, rfl, hj, rfl, rfl⟩ := hrel
    by_cases hlt : j < ls.length
    · obtain ⟨x, B, c, ad, hx, rfl, hcell, hle, hrx⟩ := row_at HR.out j hlt
      have ht := take_succ_flat ls j x hx
      have hf := flat_le ls (j + 1)
      rw [ht, List.length_append] at hf
      have HT := Aside0.mk ht
      clear ht hx hrx
      obtain ⟨a, ha⟩ : ∃ a, a = (ls.take j).flatten.length := ⟨_, rfl⟩
      rw [← ha] at hf ⊢
      have HA := Aside0.mk ha
      clear ha
      have h1 : (0 : Int) ≤ (a : Int) + (x.length : Int) := by omega
      have h2 : (a : Int) + (x.length : Int) ≤ 140737488355328 := by omega
      have h3 : decide ((a : Int) + (x.length : Int) < 0) = false := decide_eq_false (by omega)
      go_wp2
      go_roundw
      case rel => exact ⟨j + 1, by go_num, by omega, by rw [HT.out, List.length_append, ← HA.out]; go_num, trivial⟩
      case measure => simp [intOf]; omega
    · obtain rfl : j = ls.length := by omega
      obtain ⟨wo, rfl⟩ : ∃ wo : World, wo = wr := ⟨_, rfl⟩
      rw [List.take_length]
      have hb1 := flat_le ls 0
      obtain ⟨a, ha⟩ : ∃ a, a = ls.flatten.length := ⟨_, rfl⟩
      rw [← ha] at hb ⊢
      have HA := Aside0.mk ha
      clear ha hb1
      go_wp2_with (go_at_call 64; (with_reducible refine (grow_nil a _ hb).mono ?_); rintro e w1 ⟨v6, rfl, ho, hbl⟩; have HO : Aside0 (Kd.R (Kd.int .u8) 5 w1 wo.heap.size (fun _ => True) v6 []) := ⟨Kd.R_of_own (by simpa [encs] using ho) (fun _ _ => trivial)⟩; have HB := Aside0.mk hbl; clear ho hbl)
      go_loopw [6, 27] (fun v6 v27 w' => ∃ j : Nat, v27 = .int .i64 j ∧ j ≤ ls.length ∧ Aside0 (Kd.R (Kd.int .u8) 5 w' wo.heap.size (fun _ => True) v6 (ls.take j).flatten) ∧ Aside0 (Below wo.heap.size wo w')) (fun _ v27 _ => ls.length - (intOf v27).toNat)
      case atStart => exact ⟨0, rfl, by omega, by simpa using HO, HB⟩
      case round =>
        obtain ⟨j, rfl, hj, HO2, HB2⟩ := hrel
        clear HO HB
        by_cases hlt : j < ls.length
        · obtain ⟨x, B, c, ad, hx, rfl, hcell, hle, hrx⟩ := row_at (Kd.C_below HR.out HB2.out) j hlt
          have ht := take_succ_flat ls j x hx
          have hf := flat_le ls (j + 1)
          rw [ht, List.length_append, ← HA.out] at hf
          have HT := Aside0.mk ht
          have HX := Aside0.mk hrx
          have HF := Aside0.mk (show ((ls.take j).flatten.length + x.length) * 1 ≤ 140737488355328 by omega)
          clear ht hx hrx hf
          go_wp2_with (at_builtin; refine Kd.R_append_rows (Kd.int .u8) (w0 := wo) (Rr := fun x cs => (Kd.int .u8).K wr x cs) wo.heap.size rfl (.tmp 31) (.tmp 32) 32 5 (.int .u8 0) 1 rfl Try.underlying32 infoG rfl (by decide) (by omega) _ (ls.take j).flatten x B x.length c (fun _ => True) (fun _ => False) rfl rfl HO2.out HX.out (fun _ _ h => h) (fun _ h => h.elim) (fun _ _ => trivial) HB2.out (below_size HB2.out) HF.out ?_; intro v7 w7 ho7 hb7 _ _; have HO7 := Aside0.mk ho7; have HB7 := Aside0.mk hb7; clear ho7 hb7)
          go_roundw
          case rel => exact ⟨j + 1, by go_num, by omega, ⟨by rw [HT.out]; exact HO7.out⟩, HB7⟩
          case measure => simp [intOf]; omega
        · obtain rfl : j = ls.length := by omega
          have HO3 := HO2.out
          rw [List.take_length] at HO3
          have HO4 := Aside0.mk HO3
          clear HO3 HO2
          go_wp2
          go_ret
          exact ⟨_, rfl, HO4.out, HB2.out⟩

end Go.Proofs.Ytaeamdhkdiblmaa.Dk
set_option linter.unusedSimpArgs false
set_option linter.unusedVariables false
namespace Go.Proofs.Ytaeamdhkdiblmaa.Dk
open Go.RowKit Go.Proofs.YtaeamdhkdiblmaaW.PrintWords Go.Proofs.YtaeamdhkdiblmaaW.PrintLast Go.Proofs.YtaeamdhkdiblmaaW.PrintMore
set_option maxHeartbeats 2000000
set_option maxRecDepth 100000
/-- slices.Clone of bytes. -/
theorem clone (u : Value) (xs : List Int) (F : Nat → Prop) (w : World) (h : BK.R 5 w 0 F u xs) (hl : xs.length ≤ room) :
    Calls Try.prog 41 #[u] w fun e w' => ∃ v, e = .returned v ∧ BK.R 5 w' w.heap.size (fun _ => True) v xs ∧ Below w.heap.size w w' := by
  obtain ⟨A, c, rfl, hc, hC⟩ := Kd.R_reads h
  rcases A with _ | ad
  · have h0 : xs = [] := by
      rcases xs with _ | ⟨x, xs⟩
      · rfl
      · obtain ⟨ad, e, _⟩ := hC.2.2 (by simp)
        cases e
    subst h0
    have hc0 : c = 0 := by
      obtain ⟨inner, ho⟩ := Kd.R_own h
      rcases ho.2 with ⟨e, _⟩ | ⟨g, cap, cur, e, _⟩
      · injection e
      · cases e
    subst hc0
    have hn := Go.Lib.run_eql_slice_nil (P := Try.prog) w 32 5 none 0 0 0 0 Try.underlying32
    go_enter Try.func41, Try.ntmps41
    go_wp2
    go_ret
    exact ⟨_, rfl, Kd.R_nil _ _ _ _ _, Below.refl _ _⟩
  · have HC := Aside0.mk hC
    have HL := Aside0.mk hl
    clear h hC hl
    have hn := Go.Lib.run_eql_slice_nil (P := Try.prog) w 32 5 (some ad) xs.length c 0 0 Try.underlying32
    have hub := Try.underlying32
    have HO : Aside0 (BK.R 5 (w.alloc (.cells #[] 5)) w.heap.size (fun _ => True) (.slice (some ⟨w.heap.size, 0, none⟩) 0 0) []) := ⟨Kd.R_of_own ⟨rfl, .inr ⟨_, 0, #[], rfl, Nat.le_refl _, blk_new w _, Nat.le_refl _, by decide, rfl, rfl⟩⟩ (fun _ _ => trivial)⟩
    have HB := Aside0.mk (below_alloc (Below.refl w.heap.size w) (.cells #[] 5))
    have HX := Aside0.mk (Kd.C_below HC.out HB.out)
    clear HC
    go_enter Try.func41, Try.ntmps41
    go_wp2_with (at_builtin; refine Kd.R_append_rows BK (w0 := w) (Rr := fun x cs => BK.K (w.alloc (.cells #[] 5)) x cs) w.heap.size rfl (.tmp 5) (.tmp 6) 32 5 (.int .u8 0) 1 rfl Try.underlying32 infoG rfl (by decide) (by omega) _ [] xs (some ad) xs.length c (fun _ => True) (fun _ => False) rfl rfl HO.out HX.out (fun _ _ h => h) (fun _ h => h.elim) (fun _ _ => trivial) HB.out (below_size HB.out) (by have := HL.out; simp only [room, List.length_nil] at *; omega) ?_; intro v7 w7 ho7 hb7 _ _; rw [List.nil_append] at ho7; have HO7 := Aside0.mk ho7; have HB7 := Aside0.mk hb7; clear ho7 hb7)
    go_ret
    exact ⟨_, rfl, HO7.out, HB7.out⟩
end Go.Proofs.Ytaeamdhkdiblmaa.Dk
set_option linter.unusedSimpArgs false
set_option linter.unusedVariables false
namespace Go.Proofs.Ytaeamdhkdiblmaa.Dk
open Go.RowKit Go.Proofs.YtaeamdhkdiblmaaW.PrintWords Go.Proofs.YtaeamdhkdiblmaaW.PrintLast Go.Proofs.YtaeamdhkdiblmaaW.PrintMore
set_option maxHeartbeats 4000000
set_option maxRecDepth 100000
theorem key9 (x : ByteArray) (hx : x.size ≤ 9223372036854775807) : keyOf Try.prog 9 (.string x) = some (.string x.data.toList) := by
  simp [keyOf, mapKey, Try.underlying9, maxLen, hx]
theorem findF_mem {fs : List (List UInt8 × Nat)} {x : List UInt8} {f : Nat} (h : findF fs x = some f) : (x, f) ∈ fs := by
  unfold findF at h
  obtain ⟨e, he, rfl⟩ := Option.map_eq_some_iff.1 h
  have h1 := List.find?_some he
  have h2 := List.mem_of_find?_eq_some he
  simp only [decide_eq_true_eq] at h1
  rw [← h1]
  exact h2
theorem findF_id {d : DS} {x : List UInt8} {f : Nat} (h : findF d.files x = some f) : f ∈ d.ids := List.mem_map.2 ⟨_, findF_mem h, rfl⟩
theorem total_ge {b : Nat → List Int} : ∀ {l : List Nat} {f : Nat}, f ∈ l → (b f).length ≤ lenSum b l
  | g :: r, f, h => by
    rcases List.mem_cons.1 h with rfl | h
    · simp [lenSum]
    · have := total_ge (b := b) h
      simp only [lenSum, List.map_cons, List.sum_cons] at this ⊢
      omega
theorem IsDisk.len {W : World} {F : Nat → Prop} {p : Nat} {d : DS} (h : IsDisk W F p d) {f : Nat} (hf : f ∈ d.ids) : (d.bytes f).length ≤ room := by
  have h1 := total_ge (b := d.bytes) hf
  have h2 := h.ok.few
  unfold DS.total at h2
  omega
theorem lookup_none {W : World} {m n : Nat} {fs : List (List UInt8 × Nat)} (h : Files W m n fs) (x : ByteArray) (hx : keyOf Try.prog 9 (.string x) = some (.string x.data.toList)) (hf : findF fs x.data.toList = none) :
    (Instr.lookup 63 (.map (some m)) (.string x) false).run Try.prog W = .ok (.pointer none) W := by
  rw [lookup h x hx, hf]; rfl
theorem lookup_some {W : World} {m n : Nat} {fs : List (List UInt8 × Nat)} (h : Files W m n fs) (x : ByteArray) (hx : keyOf Try.prog 9 (.string x) = some (.string x.data.toList)) {f : Nat} (hf : findF fs x.data.toList = some f) :
    (Instr.lookup 63 (.map (some m)) (.string x) false).run Try.prog W = .ok (ptr f) W := by
  rw [lookup h x hx, hf]; rfl
theorem Files.below {W W' : World} {m n : Nat} {fs : List (List UInt8 × Nat)} (h : Files W m n fs) (hb : Below W.heap.size W W') : Files W' m n fs := h.same (hb.block m (by obtain ⟨_, _, hm⟩ := h.isMap; exact blk_lt hm))
/-- Disk.Read. -/
theorem read (F : Nat → Prop) (p : Nat) (d : DS) (x : ByteArray) (hx : x.size ≤ 9223372036854775807) (w : World) (h : IsDisk w F p d) :
    Calls Try.prog 12 #[ptr p, .string x] w fun e w' => Below w.heap.size w w' ∧ match findF d.files x.data.toList with
      | none => e = .returned (.tuple #[.slice none 0 0, .bool false])
      | some f => ∃ v, e = .returned (.tuple #[v, .bool true]) ∧ BK.R 5 w' w.heap.size (fun _ => True) v (d.bytes f) := by
  obtain ⟨v, m, hh, hfs, hm, hp⟩ := h.core
  have hu65 := Try.underlying65
  have hu78 := Try.underlying78
  have hu63 := Try.underlying63
  have HD := Aside0.mk h
  have HH := Aside0.mk hh
  have HFS := Aside0.mk hfs
  have HK := Aside0.mk (key9 x hx)
  clear h hh hfs hp hm
  cases hf : findF d.files x.data.toList with
  | none =>
    go_enter Try.func12, Try.ntmps12
    go_wp2_with (go_at_call 34; (with_reducible refine (known p m v d.size w HH.out).mono ?_); rintro e w1 ⟨rfl, hb⟩; have HB := Aside0.mk hb; have c1 : w1.cell? ⟨p, 1, none⟩ = some (.map (some m)) := (blk_cell (blk_below HH.out hb) 1).trans rfl; have hlk := lookup_none (HFS.out.below hb) x HK.out hf; clear hb)
    go_ret2
    exact ⟨HB.out, rfl⟩
  | some f =>
    have hid := findF_id hf
    obtain ⟨u, hu, hR⟩ := (HD.out.file f hid).2
    have HR := Aside0.mk hR
    have HU := Aside0.mk hu
    have HL := Aside0.mk (HD.out.len hid)
    clear hid hu hR
    go_enter Try.func12, Try.ntmps12
    go_wp2_with (first
      | (go_at_call 34; (with_reducible refine (known p m v d.size w HH.out).mono ?_); rintro e w1 ⟨rfl, hb⟩; have HB := Aside0.mk hb; have c1 : w1.cell? ⟨p, 1, none⟩ = some (.map (some m)) := (blk_cell (blk_below HH.out hb) 1).trans rfl; have hlk := lookup_some (HFS.out.below hb) x HK.out hf; have c2 : w1.cell? ⟨f, 0, none⟩ = some u := (blk_cell (blk_below HU.out hb) 0).trans rfl; have HR1 := Aside0.mk (Kd.R_below HR.out hb); clear hb)
      | (go_at_call 41; (with_reducible refine (clone u (d.bytes f) F w1 HR1.out HL.out).mono ?_); rintro e w2 ⟨v2, rfl, hr2, hb⟩; have HB2 := Aside0.mk (below_tr HB.out hb); have HR2 := Aside0.mk (Kd.R_lower hr2 (below_size HB.out)); clear hr2 hb))
    go_ret2
    exact ⟨HB2.out, _, rfl, HR2.out⟩
end Go.Proofs.Ytaeamdhkdiblmaa.Dk
set_option linter.unusedSimpArgs false
set_option linter.unusedVariables false
namespace Go.Proofs.Ytaeamdhkdiblmaa.Dk
open Go.RowKit Go.Proofs.YtaeamdhkdiblmaaW.PrintWords Go.Proofs.YtaeamdhkdiblmaaW.PrintLast Go.Proofs.YtaeamdhkdiblmaaW.PrintMore
set_option maxHeartbeats 4000000
set_option maxRecDepth 100000
/-- The sum over those entries that have come. -/
def doneL (left : Lit → Bool) (g : Nat → Nat) (fs : List (List UInt8 × Nat)) : Nat := ((fs.filter fun x => !left (.string x.1)).map fun x => g x.2).sum
theorem doneL_none (g : Nat → Nat) (left : Lit → Bool) (fs : List (List UInt8 × Nat)) (h : ∀ x ∈ fs, left (.string x.1) = true) : doneL left g fs = 0 := by
  unfold doneL
  rw [List.filter_eq_nil_iff.2 (fun x hx => by simp [h x hx])]
  rfl
theorem doneL_all (g : Nat → Nat) (left : Lit → Bool) (fs : List (List UInt8 × Nat)) (h : ∀ kl, left kl = false) : doneL left g fs = ((fs.map (·.2)).map g).sum := by
  unfold doneL
  rw [List.filter_eq_self.2 (fun x hx => by simp [h]), List.map_map]
  rfl
theorem doneL_off {g : Nat → Nat} {left : Lit → Bool} {x : List UInt8} : ∀ {fs : List (List UInt8 × Nat)}, (∀ e ∈ fs, e.1 ≠ x) → doneL (fun z => left z && !z.sameKey (.string x)) g fs = doneL left g fs := by
  intro fs h
  unfold doneL
  congr 2
  apply List.filter_congr
  intro e he
  have hb : (Lit.string e.1).sameKey (.string x) = false := by simp [Lit.sameKey, h e he]
  simp [hb]
theorem doneL_step {g : Nat → Nat} {left : Lit → Bool} {x : List UInt8} {b : Nat} (hl : left (.string x) = true) : ∀ {fs : List (List UInt8 × Nat)}, fs.Pairwise (fun p q => p.1 ≠ q.1) → (x, b) ∈ fs → doneL (fun z => left z && !z.sameKey (.string x)) g fs = doneL left g fs + g b
  | e :: r, hp, hm => by
    obtain ⟨h1, h2⟩ := List.pairwise_cons.1 hp
    rcases List.mem_cons.1 hm with rfl | hm
    · have := doneL_off (g := g) (left := left) (x := x) (fs := r) (fun e he => Ne.symm (h1 e he))
      unfold doneL at this ⊢
      have hs : (Lit.string x).sameKey (.string x) = true := by simp [Lit.sameKey]
      rw [List.filter_cons_of_pos (by simp [hs]), List.filter_cons_of_neg (by simp [hl]), List.map_cons, List.sum_cons, this]
      exact Nat.add_comm _ _
    · have hne := h1 _ hm
      have := doneL_step (g := g) hl h2 hm
      unfold doneL at this ⊢
      have hb : (Lit.string e.1).sameKey (.string x) = false := by simp only [Lit.sameKey, beq_eq_false_iff_ne]; exact hne
      cases hle : left (.string e.1)
      · rw [List.filter_cons_of_pos (by simp [hle]), List.filter_cons_of_pos (by simp [hle]), List.map_cons, List.sum_cons, List.map_cons, List.sum_cons, this]
        omega
      · rw [List.filter_cons_of_neg (by simp [hle, hb]), List.filter_cons_of_neg (by simp [hle]), this]
theorem doneL_le (g : Nat → Nat) (left : Lit → Bool) : ∀ fs : List (List UInt8 × Nat), doneL left g fs ≤ ((fs.map (·.2)).map g).sum
  | [] => Nat.le_refl _
  | e :: r => by
    have := doneL_le g left r
    unfold doneL at this ⊢
    simp only [List.map_cons, List.sum_cons]
    cases hle : left (.string e.1)
    · rw [List.filter_cons_of_pos (by simp [hle]), List.map_cons, List.sum_cons]; omega
    · rw [List.filter_cons_of_neg (by simp [hle])]; omega
theorem Files.apart {W : World} {m n : Nat} {fs : List (List UInt8 × Nat)} (h : Files W m n fs) : fs.Pairwise (fun p q => p.1 ≠ q.1) := by
  obtain ⟨es, e, hp, _⟩ := World.ownsMap.entries h keyed9
  unfold datF at e
  simp only [DataW.map.injEq] at e
  subst e
  rw [List.pairwise_map] at hp
  exact hp.imp (fun h e => h (congrArg Lit.string e))
theorem atKey_find {fs : List (List UInt8 × Nat)} {x : List UInt8} {c : Option Nat} {y : DataW Unit × List MemPlace} (hy : ptrElem (valF c) = some y) (h : ∀ zd, (datF fs).atKey (.string x) zd = y.1) : ∃ b, c = some b ∧ (x, b) ∈ fs := by
  have hat : ∀ zd, (datF fs).atKey (.string x) zd = match findF fs x with | some b => .lit (.int .i64 b) | none => zd := by
    intro zd
    unfold DataW.atKey datF findF
    simp only
    rw [List.find?_map]
    have hp : ((fun p : Lit × DataW Unit => p.1.sameKey (.string x)) ∘ fun e : List UInt8 × Nat => ((.string e.1 : Lit), (.lit (.int .i64 e.2) : DataW Unit))) = fun e => decide (e.1 = x) := by
      funext e
      simp only [Function.comp, Lit.sameKey]
      exact Bool.beq_eq_decide_eq _ _
    rw [hp]
    cases fs.find? fun e => decide (e.1 = x) <;> rfl
  cases hf : findF fs x with
  | none =>
    have h1 := h (.lit (.int .i64 0))
    have h2 := h (.lit (.int .i64 1))
    rw [hat, hf] at h1 h2
    simp only at h1 h2
    rw [← h1] at h2
    simp at h2
  | some b =>
    have h1 := h (.lit (.int .i64 0))
    rw [hat, hf] at h1
    simp only at h1
    refine ⟨b, ?_, findF_mem hf⟩
    cases c with
    | none =>
      rw [show valF none = .pointer none from rfl, ptrElem_nil] at hy
      cases hy
      cases h1
    | some b' =>
      rw [show valF (some b') = ptr b' from rfl, ptrElem_ptr] at hy
      cases hy
      simp at h1
      exact congrArg some (by omega)
theorem ptr_shape (v : Value) (y : DataW Unit × List MemPlace) (h : ptrElem v = some y) : ∃ c, v = valF c := by
  rcases ptrElem_inv h with ⟨rfl, _⟩ | ⟨b, rfl, _⟩
  · exact ⟨none, rfl⟩
  · exact ⟨some b, rfl⟩
theorem key_shape (key : Value) (kl : Lit) (h : keyOf Try.prog 9 key = some kl) : ∃ x, key = .string x := by
  cases key <;> simp [keyOf, mapKey, Try.underlying9] at h
  exact ⟨_, rfl⟩
theorem key_lit {x : ByteArray} {kl : Lit} (h : keyOf Try.prog 9 (.string x) = some kl) : kl = .string x.data.toList := by
  simp [keyOf, mapKey, Try.underlying9] at h
  exact h.2.symm
theorem below_grown {w w1 w2 : World} {r : Nat} (h : Below w.heap.size w w1) (hg : w1.grownBy w2 (some r)) (hr : w.heap.size ≤ r) : Below w.heap.size w w2 :=
  ⟨hg.os.trans h.os, hg.tape.trans h.tape, hg.output.trans h.output, Nat.le_trans h.size hg.size, fun k hk => (hg.block k (Nat.lt_of_lt_of_le hk h.size) (fun e => by injection e; omega)).trans (h.block k hk)⟩
/-- Disk.fits. -/
theorem fits (F : Nat → Prop) (p : Nat) (d : DS) (more : Nat) (hmore : more ≤ room) (w : World) (h : IsDisk w F p d) (hsz : d.size ≤ 9223372036854775807) :
    Calls Try.prog 37 #[ptr p, .int .i64 more] w fun e w' => e = .returned (.bool (decide (d.size < 1) || decide (((more + d.total : Nat) : Int) ≤ d.size))) ∧ Below w.heap.size w w' := by
  obtain ⟨v, m, hh, hfs, hm, hp⟩ := h.core
  have hu65 := Try.underlying65
  have hu78 := Try.underlying78
  have hu63 := Try.underlying63
  have htot := h.ok.few
  simp only [room] at hmore htot
  have HD := Aside0.mk h
  have HH := Aside0.mk hh
  have HFS := Aside0.mk hfs
  have c1 : w.cell? ⟨p, 1, none⟩ = some (.map (some m)) := (blk_cell hh 1).trans rfl
  clear h hh hfs hp hm
  go_enter Try.func37, Try.ntmps37
  go_wp2_with (at_range; refine wpList_range_own _ rfl _ 63 rfl 9 76 keyed9 Try.underlying63 ptrElem m d.files.length (datF d.files) rfl HFS.out ?_; intro w0 hrg0 hg0 hs0)
  go_frame
  have hst : doneL (Maps.has (datF d.files)) (fun f => (d.bytes f).length) d.files = 0 := doneL_none _ _ _ (fun x hx => by
    rw [datF, Maps.has_eq, List.any_eq_true]
    exact ⟨_, List.mem_map.2 ⟨x, hx, rfl⟩, by simp [Lit.sameKey]⟩)
  have HS := Aside0.mk hst
  have HR := Aside0.mk hrg0
  have HB := Aside0.mk (show Below w.heap.size w w0 from ⟨hg0.os, hg0.tape, hg0.output, hg0.size, fun k hk => hg0.block k hk (by simp)⟩)
  clear hst hrg0 hg0 hs0
  go_loopw [1, 6] (fun v1 v6 w' => ∃ left cnt, v1 = .int .i64 ((more + doneL left (fun f => (d.bytes f).length) d.files : Nat) : Int) ∧ Aside0 (w'.ranges Try.prog 9 ptrElem m w.heap.size d.files.length (datF d.files) left cnt) ∧ Aside0 (Below w.heap.size w w')) (fun _ _ w' => w'.rangeLeft m w.heap.size)
  case atStart => exact ⟨_, _, by rw [HS.out]; rfl, HR, HB⟩
  case round =>
    obtain ⟨left, cnt, rfl, HR1, HB1⟩ := hrel
    clear HR HB HS
    have hle := doneL_le (fun f => (d.bytes f).length) left d.files
    go_wp2_with (at_next; refine wpList_next_ranges _ rfl _ rfl 9 keyed9 ptrElem Value.string valF key_shape ptr_shape m w.heap.size d.files.length (datF d.files) left cnt rfl HR1.out ?_ ?_)
    · intro hc0 hl0
      have hall := doneL_all (fun f => (d.bytes f).length) left d.files hl0
      rw [hall] at hle ⊢
      have htt : ((d.files.map (·.2)).map fun f => (d.bytes f).length).sum = d.total := rfl
      rw [htt] at hle ⊢
      have c2 : wr.cell? ⟨p, 2, none⟩ = some (.int .i64 d.size) := (blk_cell (blk_below HH.out HB1.out) 2).trans rfl
      clear hall htt hl0 HR1
      go_wp2
      all_goals (go_ret; exact ⟨by first | rfl | (simp; done) | (simp; omega), HB1.out⟩)
    · rintro x c kl y1 y2 w1 cnt1 hkey hleft hy hat hrg1 hlt hg1 hs1 hen
      obtain rfl := key_lit hkey
      obtain ⟨b, rfl, hmem⟩ := atKey_find hy hat
      have hbid : b ∈ d.ids := List.mem_map.2 ⟨_, hmem, rfl⟩
      have hb1 := below_grown HB1.out hg1 (Nat.le_refl _)
      obtain ⟨u, hu, hR⟩ := (HD.out.file b hbid).2
      obtain ⟨A, cc, rfl⟩ := Kd.R_slice hR
      have c3 : w1.cell? ⟨b, 0, none⟩ = some (.slice A (d.bytes b).length cc) := (blk_cell (blk_below hu hb1) 0).trans rfl
      have hstep := doneL_step (g := fun f => (d.bytes f).length) hleft HFS.out.apart hmem
      have hle1 := doneL_le (fun f => (d.bytes f).length) (fun z => left z && !z.sameKey (.string x.data.toList)) d.files
      have htt : ((d.files.map (·.2)).map fun f => (d.bytes f).length).sum = d.total := rfl
      rw [hstep, htt] at hle1
      rw [show valF (some b) = ptr b from rfl] at hen ⊢
      have HST := Aside0.mk hstep
      have HRG := Aside0.mk hrg1
      have HLT := Aside0.mk (show w1.rangeLeft m w.heap.size < wr.rangeLeft m w.heap.size by rw [hrg1.left_eq, HR1.out.left_eq]; exact hlt)
      have HB2 := Aside0.mk hb1
      clear hkey hleft hy hat hrg1 hlt hg1 hs1 hR hu hstep hb1 hmem hbid HR1 HB1 htt hle
      go_wp2
      go_roundw
      case rel =>
        refine ⟨_, _, ?_, HRG, HB2⟩
        rw [HST.out]
        go_num
      case measure => exact HLT.out
end Go.Proofs.Ytaeamdhkdiblmaa.Dk
set_option linter.unusedSimpArgs false
set_option linter.unusedVariables false
namespace Go.Proofs.Ytaeamdhkdiblmaa.Dk
open Go.RowKit Go.Proofs.YtaeamdhkdiblmaaW.PrintWords Go.Proofs.YtaeamdhkdiblmaaW.PrintLast Go.Proofs.YtaeamdhkdiblmaaW.PrintMore
/-! A queue's slice, as the kit's own word for rows says it -/
theorem two_of {inner : List Value} {i : Nat} {a b : Value} : (inner.drop i).take 2 = [a, b] ↔ inner[i]? = some a ∧ inner[i + 1]? = some b := by
  constructor
  · intro h
    have h0 : ((inner.drop i).take 2)[0]? = some a := by rw [h]; rfl
    have h1 : ((inner.drop i).take 2)[1]? = some b := by rw [h]; rfl
    rw [List.getElem?_take, if_pos (by omega), List.getElem?_drop] at h0 h1
    exact ⟨by simpa using h0, by simpa using h1⟩
  · rintro ⟨h0, h1⟩
    have l1 := (List.getElem?_eq_some_iff.1 h1).1
    apply List.ext_getElem?
    intro q
    rw [List.getElem?_take, List.getElem?_drop]
    match q with
    | 0 => simpa using h0
    | 1 => simpa using h1
    | q + 2 => rw [if_neg (by omega)]; simp
theorem Pcs.R {W : World} {F : Nat → Prop} {v : Value} {l : List (Nat × Int)} (h : Pcs W F v l) : PK.R 80 W 0 F v l := by
  rcases h with ⟨rfl, rfl⟩ | ⟨g, cap, rfl, hc, hF, cur, hg, hs, hl, hcl⟩
  · exact Kd.R_nil _ _ _ _ _
  · have hlen : (cur.toList.take (l.length * 2)).length = l.length * 2 := by
      have hs2 : cur.toList.length = cap * 2 := by rw [← hs]; simp
      rw [List.length_take]; omega
    refine ⟨fun k hk => ?_, cur.toList.take (l.length * 2), ⟨hlen, .inr ⟨g, cap, cur, rfl, Nat.zero_le _, hg, hl, by simpa [maxLen] using hc, hs, rfl⟩⟩, hlen, fun j p hj => ?_⟩
    · have : g = k := by simpa [Value.ownBlock] using hk
      subst this
      exact hF
    · obtain ⟨b, m⟩ := p
      obtain ⟨h0, h1⟩ := hcl j b m hj
      have hjl := (List.getElem?_eq_some_iff.1 hj).1
      refine ⟨[ptr b], [.int .i64 m], ?_, rfl, rfl⟩
      refine two_of.2 ⟨?_, ?_⟩
      · show (cur.toList.take (l.length * 2))[j * 2]? = _
        rw [List.getElem?_take, if_pos (show j * 2 < l.length * 2 by omega), Array.getElem?_toList]; exact h0
      · show (cur.toList.take (l.length * 2))[j * 2 + 1]? = _
        rw [List.getElem?_take, if_pos (show j * 2 + 1 < l.length * 2 by omega), Array.getElem?_toList]; exact h1
theorem Pcs.of {W : World} {F : Nat → Prop} {v : Value} {l : List (Nat × Int)} {base : Nat} (h : PK.R 80 W base F v l) : Pcs W F v l := by
  obtain ⟨hok, inner, ⟨hl, ho⟩, hr⟩ := h
  rcases ho with ⟨rfl, hn⟩ | ⟨g, cap, cur, rfl, _, hg, hnc, hcm, hcs, ht⟩
  · exact .inl ⟨rfl, List.eq_nil_of_length_eq_zero hn⟩
  · refine .inr ⟨g, cap, rfl, by simpa [maxLen] using hcm, hok g (by simp [Value.ownBlock]), cur, hg, hcs, hnc, fun j b m hj => ?_⟩
    have hjl := (List.getElem?_eq_some_iff.1 hj).1
    obtain ⟨c0, c1, e, h0, h1⟩ := hr.2 j (b, m) hj
    obtain rfl : c0 = [ptr b] := h0
    obtain rfl : c1 = [.int .i64 m] := h1
    obtain ⟨i0, i1⟩ := two_of.1 e
    rw [← ht] at i0 i1
    rw [List.getElem?_take, if_pos (show j * PK.sz < l.length * PK.sz from Nat.mul_lt_mul_of_pos_right hjl (by decide)), Array.getElem?_toList] at i0
    rw [List.getElem?_take, if_pos (show j * PK.sz + 1 < l.length * PK.sz by show j * 2 + 1 < l.length * 2; omega), Array.getElem?_toList] at i1
    exact ⟨i0, i1⟩
theorem infoP : (Try.prog.info? 80).map (fun i => (i.zero, i.size, i.bytes)) = some (some (.agg #[.pointer none, .int .i64 0]), 2, 16) := by kernel_rfl
/-! The files' list, with a new one -/
def insF (x : List UInt8 × Nat) : List (List UInt8 × Nat) → List (List UInt8 × Nat)
  | [] => [x]
  | y :: r => if bytesBefore x.1 y.1 then x :: y :: r else y :: insF x r
theorem insF_perm (x : List UInt8 × Nat) : ∀ l, (insF x l).Perm (x :: l)
  | [] => List.Perm.refl _
  | y :: r => by
    unfold insF
    split
    · exact List.Perm.refl _
    · exact ((insF_perm x r).cons y).trans (List.Perm.swap x y r)
theorem insF_dat (x : List UInt8 × Nat) : ∀ l : List (List UInt8 × Nat), (insF x l).map (fun x => ((.string x.1 : Lit), (.lit (.int .i64 x.2) : DataW Unit))) = DataW.insert ((.string x.1 : Lit), (.lit (.int .i64 x.2) : DataW Unit)) (l.map fun x => ((.string x.1 : Lit), (.lit (.int .i64 x.2) : DataW Unit)))
  | [] => rfl
  | y :: r => by
    unfold insF
    simp only [List.map_cons, DataW.insert]
    have hb : (Lit.string x.1).before (.string y.1) = bytesBefore x.1 y.1 := rfl
    rw [hb]
    split
    · rfl
    · rw [List.map_cons, insF_dat x r]
/-- What a store at a name leaves. -/
def putF (n : List UInt8) (f : Nat) (l : List (List UInt8 × Nat)) : List (List UInt8 × Nat) := insF (n, f) (l.filter fun x => x.1 != n)
def delF (n : List UInt8) (l : List (List UInt8 × Nat)) : List (List UInt8 × Nat) := l.filter fun x => x.1 != n
theorem datF_del (n : List UInt8) (l : List (List UInt8 × Nat)) : datF (delF n l) = (datF l).del (.string n) := by
  unfold datF delF DataW.del
  simp only [DataW.map.injEq]
  rw [List.filter_map]
  congr 1
theorem datF_put (n : List UInt8) (f : Nat) (l : List (List UInt8 × Nat)) : datF (putF n f l) = (datF l).put (.string n) (.lit (.int .i64 f)) := by
  have h := datF_del n l
  unfold datF putF DataW.put
  simp only [DataW.map.injEq]
  rw [insF_dat]
  unfold datF delF DataW.del at h
  simp only [DataW.map.injEq] at h
  rw [h]
theorem delF_none {n : List UInt8} {l : List (List UInt8 × Nat)} (h : findF l n = none) : delF n l = l := by
  unfold findF at h
  unfold delF
  rw [List.filter_eq_self]
  intro x hx
  have := List.find?_eq_none.1 (Option.map_eq_none_iff.1 h) x hx
  simpa using this
theorem putF_none {n : List UInt8} {f : Nat} {l : List (List UInt8 × Nat)} (h : findF l n = none) : putF n f l = insF (n, f) l := by
  have := delF_none h
  unfold delF at this
  unfold putF
  rw [this]
end Go.Proofs.Ytaeamdhkdiblmaa.Dk
set_option linter.unusedSimpArgs false
set_option linter.unusedVariables false
namespace Go.Proofs.Ytaeamdhkdiblmaa.Dk
open Go.RowKit Go.Proofs.YtaeamdhkdiblmaaW.PrintWords Go.Proofs.YtaeamdhkdiblmaaW.PrintLast Go.Proofs.YtaeamdhkdiblmaaW.PrintMore
/-! What a disk is behind a step that turns one of its parts -/
theorem BK_own {W : World} {F : Nat → Prop} {u : Value} {xs : List Int} {base : Nat} (h : BK.R 5 W base F u xs) : BK.R 5 W base (fun k => u.ownBlock = some k ∧ F k) u xs := ⟨fun k hk => ⟨hk, h.1 k hk⟩, h.2⟩
theorem Files.ne {W : World} {m n t k : Nat} {fs : List (List UInt8 × Nat)} {cs : Array Value} {z : Nat × Nat} (h : Files W m n fs) (hk : W.heap[k]? = some (.cells cs t z)) : m ≠ k := by
  rintro rfl
  obtain ⟨es, c, hm⟩ := h.isMap
  rw [hm] at hk
  cases hk
theorem own_type {W : World} {F : Nat → Prop} {u : Value} {xs : List Int} {base k : Nat} (h : BK.R 5 W base F u xs) (hk : u.ownBlock = some k) : ∃ cs, W.heap[k]? = some (.cells cs 5 (0, 0)) := Kd.R_typed h k hk
theorem pcs_type {W : World} {F : Nat → Prop} {v : Value} {l : List (Nat × Int)} {k : Nat} (h : Pcs W F v l) (hk : v.ownBlock = some k) : F k ∧ ∃ cs, W.heap[k]? = some (.cells cs 80 (0, 0)) := by
  rcases h with ⟨rfl, _⟩ | ⟨g, cap, rfl, _, hF, cur, hg, _⟩
  · cases hk
  · have : g = k := by simpa [Value.ownBlock] using hk
    subst this
    exact ⟨hF, cur, hg⟩
theorem Pcs.keep {W W' : World} {F : Nat → Prop} {v : Value} {l : List (Nat × Int)} (h : Pcs W F v l) (hs : ∀ k, v.ownBlock = some k → W'.heap[k]? = W.heap[k]?) : Pcs W' F v l := by
  rcases h with h | ⟨g, cap, rfl, hc, hF, h⟩
  · exact .inl h
  · exact .inr ⟨g, cap, rfl, hc, hF, h.same (hs g (by simp [Value.ownBlock]))⟩
theorem FileAt.keep {W W' : World} {F : Nat → Prop} {f : Nat} {xs : List Int} (h : FileAt W F f xs) (hf : W'.heap[f]? = W.heap[f]?) (hs : ∀ k, ownB W f = some k → W'.heap[k]? = W.heap[k]?) : FileAt W' F f xs := by
  obtain ⟨u, h1, h2⟩ := h
  refine ⟨u, hf.trans h1, Kd.R_mono (Kd.R_move (BK_own h2) (fun k hk => hs k ?_)) (fun k hk => hk.2)⟩
  rw [ownB_of h1]
  exact hk.1
theorem FileAt.own {W : World} {F : Nat → Prop} {f : Nat} {xs : List Int} (h : FileAt W F f xs) {k : Nat} (hk : ownB W f = some k) : F k ∧ ∃ cs, W.heap[k]? = some (.cells cs 5 (0, 0)) := by
  obtain ⟨u, h1, h2⟩ := h
  rw [ownB_of h1] at hk
  exact ⟨h2.1 k hk, own_type h2 hk⟩
theorem FileAt.blk {W : World} {F : Nat → Prop} {f : Nat} {xs : List Int} (h : FileAt W F f xs) : ∃ cs, W.heap[f]? = some (.cells cs 78 (0, 0)) := by
  obtain ⟨u, h1, h2⟩ := h
  exact ⟨_, h1⟩
/-- A file's bytes have turned. -/
theorem IsDisk.putBytes {W W1 : World} {F : Nat → Prop} {p : Nat} {d : DS} (h : IsDisk W F p d) {f : Nat} (hf : f ∈ d.ids) {u v1 : Value} {xs' : List Int} (hu : W.heap[f]? = some (.cells #[u] 78 (0, 0)))
    (hR : BK.R 5 W1 0 (fun k => F k ∨ W.heap.size ≤ k) v1 xs') (hg : W.grownBy W1 u.ownBlock) (hv : v1.ownBlock = u.ownBlock ∨ ∃ b, v1.ownBlock = some b ∧ W.heap.size ≤ b) (hok : DS.Ok { d with bytes := upd d.bytes f xs' }) :
    IsDisk (W1.setCell ⟨f, 0, none⟩ v1) (fun k => F k ∨ (W.heap.size ≤ k ∧ k < W1.heap.size)) p { d with bytes := upd d.bytes f xs' } := by
  obtain ⟨v, m, hh, hfs, hm, hp⟩ := h.core
  have hut : ∀ k, u.ownBlock = some k → F k ∧ ∃ cs, W.heap[k]? = some (.cells cs 5 (0, 0)) := fun k hk => (h.file f hf).2.own (by rw [ownB_of hu]; exact hk)
  have hfu : some f ≠ u.ownBlock := fun e => by
    obtain ⟨_, cs, hc⟩ := hut f e.symm
    exact blk_ne hu hc (by decide) rfl
  have hs : ∀ k, k < W.heap.size → k ≠ f → some k ≠ u.ownBlock → (W1.setCell ⟨f, 0, none⟩ v1).heap[k]? = W.heap[k]? := fun k hk hne hno => (Below.heap_setCell W1 _ v1 k hne).trans (hg.block k hk hno)
  have hnt : ∀ k t cs, W.heap[k]? = some (.cells cs t (0, 0)) → t ≠ 5 → some k ≠ u.ownBlock := fun k t cs hk ht e => by
    obtain ⟨_, cs', hc⟩ := hut k e.symm
    exact blk_ne hk hc ht rfl
  have hst : ∀ k t cs, W.heap[k]? = some (.cells cs t (0, 0)) → t ≠ 5 → k ≠ f → (W1.setCell ⟨f, 0, none⟩ v1).heap[k]? = W.heap[k]? := fun k t cs hk ht hne => hs k (blk_lt hk) hne (hnt k t cs hk ht)
  have hf1 : (W1.setCell ⟨f, 0, none⟩ v1).heap[f]? = some (.cells #[v1] 78 (0, 0)) := blk_put (blk_grown hu hg hfu) 0 v1 rfl
  have hsz : (W1.setCell ⟨f, 0, none⟩ v1).heap.size = W1.heap.size := by simp [World.setCell]
  have hv1 : ∀ k, v1.ownBlock = some k → k ≠ f := fun k hk => by
    obtain ⟨cs, hc⟩ := own_type hR hk
    exact blk_ne hc (blk_grown hu hg hfu) (by decide)
  have hother : ∀ f' ∈ d.ids, f' ≠ f → (W1.setCell ⟨f, 0, none⟩ v1).heap[f']? = W.heap[f']? := fun f' hf' hne => by
    obtain ⟨cs, hc⟩ := (h.file f' hf').2.blk
    exact hst f' 78 cs hc (by decide) hne
  refine ⟨hok, fun k hk => ?_, .inl h.hp, ⟨v, m, ?_, ?_, .inl hm, ?_⟩, fun f' hf' => ?_, fun a ha b hb hab k => ?_⟩
  · rw [hsz]
    rcases hk with hk | hk
    · exact Nat.lt_of_lt_of_le (h.low k hk) hg.size
    · exact hk.2
  · exact (hst p 65 _ hh (by decide) (blk_ne hh hu (by decide))).trans hh
  · refine hfs.same (hs m (h.low m hm) (hfs.ne hu) (fun e => ?_))
    obtain ⟨_, cs', hc⟩ := hut m e.symm
    exact hfs.ne hc rfl
  · refine (hp.keep (fun k hk => ?_)).mono (fun k hk => .inl hk)
    obtain ⟨_, cs, hc⟩ := pcs_type hp hk
    exact hst k 80 cs hc (by decide) (blk_ne hc hu (by decide))
  · refine ⟨.inl (h.file f' hf').1, ?_⟩
    show FileAt _ _ f' (upd d.bytes f xs' f')
    by_cases e : f' = f
    · subst e
      rw [upd_self]
      refine ⟨v1, hf1, Kd.R_mono (Kd.R_bound (Kd.R_far (BK_own hR) (p := ⟨f', 0, none⟩) (fun k hk => hv1 k hk.1) v1)) (fun k hk => ?_)⟩
      rcases hk.1.2 with h1 | h1
      · exact .inl h1
      · exact .inr ⟨h1, by have := hk.2.2.1; rw [hsz] at this; exact this⟩
    · rw [upd_ne e]
      refine ((h.file f' hf').2.keep (hother f' hf' e) (fun k hk => ?_)).mono (fun k hk => .inl hk)
      obtain ⟨hFk, cs, hc⟩ := (h.file f' hf').2.own hk
      refine hs k (blk_lt hc) (blk_ne hc hu (by decide)) (fun e2 => ?_)
      exact h.apart f' hf' f hf e k hk (by rw [ownB_of hu]; exact e2.symm)
  · -- two files' bytes lie apart
    have key : ∀ c ∈ d.ids, c ≠ f → ∀ k, ownB W c = some k → v1.ownBlock ≠ some k := fun c hc hcf k hk e => by
      rcases hv with hv | ⟨b', hb', hb2⟩
      · exact h.apart c hc f hf hcf k hk (by rw [ownB_of hu, ← hv]; exact e)
      · rw [hb'] at e
        cases e
        have := h.low k ((h.file c hc).2.own hk).1
        omega
    by_cases ea : a = f
    · subst ea
      have eb : b ≠ a := Ne.symm hab
      rw [ownB_of hf1, ownB_same (hother b hb eb)]
      exact fun e1 e2 => key b hb eb k e2 e1
    · rw [ownB_same (hother a ha ea)]
      by_cases eb : b = f
      · subst eb
        rw [ownB_of hf1]
        exact fun e1 e2 => key a ha ea k e1 e2
      · rw [ownB_same (hother b hb eb)]
        exact h.apart a ha b hb hab k
end Go.Proofs.Ytaeamdhkdiblmaa.Dk
set_option linter.unusedSimpArgs false
set_option linter.unusedVariables false
namespace Go.Proofs.Ytaeamdhkdiblmaa.Dk
open Go.RowKit Go.Proofs.YtaeamdhkdiblmaaW.PrintWords Go.Proofs.YtaeamdhkdiblmaaW.PrintLast Go.Proofs.YtaeamdhkdiblmaaW.PrintMore
theorem T80.not {W : World} {k t : Nat} {cs : Array Value} {z : Nat × Nat} (hk : W.heap[k]? = some (.cells cs t z)) (ht : t ≠ 80) : ¬ T80 W k := by
  rintro ⟨cur, h⟩
  rw [hk] at h
  simp only [Option.some.injEq, Obj.cells.injEq] at h
  exact ht h.2.1
theorem Head.map {W : World} {p m m' : Nat} {v v' : Value} {sz sz' : Int} (h : Head W p v (.map (some m)) sz) (h' : Head W p v' (.map (some m')) sz') : m = m' ∧ v = v' ∧ sz = sz' := by
  unfold Head at h h'
  rw [h] at h'
  simp at h'
  exact ⟨h'.2.1, h'.1, h'.2.2⟩
/-- The pieces, and perhaps one file's slice (not its bytes), have turned. f? is that file. -/
theorem IsDisk.turn {W W' : World} {F F' : Nat → Prop} {p : Nat} {d : DS} (h : IsDisk W F p d) (f : Nat) (xs' : List Int) (l' : List (Nat × Int))
    (hc : Ch (fun k => F k ∧ (k = p ∨ T80 W k ∨ k = f)) W W') {v' v0 mv : Value} {sz : Int} (h0 : Head W p v0 mv sz) (hh : Head W' p v' mv sz) (hp : Pcs W' F' v' l') (hF : ∀ k, F k → F' k) (hl : ∀ k, F' k → k < W'.heap.size)
    (hfile : f ∈ d.ids → ∃ u', W'.heap[f]? = some (.cells #[u'] 78 (0, 0)) ∧ BK.R 5 W' 0 F u' xs' ∧ ∀ k, u'.ownBlock = some k → ownB W f = some k)
    (hnot : f ∉ d.ids → upd d.bytes f xs' = d.bytes ∧ ¬ F f)
    (hok : DS.Ok { d with bytes := upd d.bytes f xs', pieces := l' }) : IsDisk W' F' p { d with bytes := upd d.bytes f xs', pieces := l' } := by
  obtain ⟨v, m, hh0, hfs, hm, hp0⟩ := h.core
  have hmv : mv = .map (some m) ∧ sz = d.size := by
    unfold Head at h0 hh0
    rw [h0] at hh0
    simp at hh0
    exact ⟨hh0.2.1, hh0.2.2⟩
  obtain ⟨rfl, rfl⟩ := hmv
  have hs : ∀ k, k < W.heap.size → k ≠ p → ¬ T80 W k → k ≠ f → W'.heap[k]? = W.heap[k]? := fun k hk h1 h2 h3 => hc.block k hk (fun e => e.2.elim h1 (fun e => e.elim h2 h3))
  have hpT : ∀ k cs t, W.heap[k]? = some (.cells cs t (0, 0)) → t ≠ 80 → t ≠ 65 → k ≠ f → W'.heap[k]? = W.heap[k]? := fun k cs t hk h1 h2 h3 => hs k (blk_lt hk) (blk_ne hk hh0 h2) (T80.not hk h1) h3
  have hfm : f ∈ d.ids → ∃ cs, W.heap[f]? = some (.cells cs 78 (0, 0)) := fun hf => (h.file f hf).2.blk
  have hF0 : F f → f ∈ d.ids := fun hf => Classical.byContradiction (fun hn => (hnot hn).2 hf)
  have hother : ∀ f' ∈ d.ids, f' ≠ f → W'.heap[f']? = W.heap[f']? := fun f' hf' hne => by
    obtain ⟨cs, hcs⟩ := (h.file f' hf').2.blk
    exact hpT f' cs 78 hcs (by decide) (by decide) hne
  have hbytes : ∀ f' ∈ d.ids, ∀ k, ownB W f' = some k → W'.heap[k]? = W.heap[k]? := fun f' hf' k hk => by
    obtain ⟨hFk, cs, hcs⟩ := (h.file f' hf').2.own hk
    refine hpT k cs 5 hcs (by decide) (by decide) (fun e => ?_)
    subst e
    obtain ⟨cs', hcs'⟩ := hfm (hF0 hFk)
    exact blk_ne hcs hcs' (by decide) rfl
  refine ⟨hok, hl, hF _ h.hp, ⟨v', m, hh, ?_, hF _ hm, hp⟩, fun f' hf' => ?_, fun a ha b hb hab k => ?_⟩
  · refine hfs.same (hs m (h.low m hm) (hfs.ne hh0) (fun e => ?_) (fun e => ?_))
    · obtain ⟨cs, hcs⟩ := e
      exact hfs.ne hcs rfl
    · subst e
      obtain ⟨cs, hcs⟩ := hfm (hF0 hm)
      exact hfs.ne hcs rfl
  · refine ⟨hF _ (h.file f' hf').1, ?_⟩
    show FileAt W' F' f' (upd d.bytes f xs' f')
    by_cases e : f' = f
    · subst e
      obtain ⟨u', h1, h2, h3⟩ := hfile hf'
      rw [upd_self]
      exact ⟨u', h1, Kd.R_mono h2 hF⟩
    · rw [upd_ne e]
      exact ((h.file f' hf').2.keep (hother f' hf' e) (hbytes f' hf')).mono hF
  · have key : ∀ c ∈ d.ids, ∀ k, ownB W' c = some k → ownB W c = some k := fun c hc2 k hk => by
      by_cases e : c = f
      · subst e
        obtain ⟨u', h1, h2, h3⟩ := hfile hc2
        rw [ownB_of h1] at hk
        exact h3 k hk
      · rw [ownB_same (hother c hc2 e)] at hk
        exact hk
    exact fun e1 e2 => h.apart a ha b hb hab k (key a ha k e1) (key b hb k e2)
theorem upd_same (b : Nat → List Int) (f : Nat) : upd b f (b f) = b := by
  funext k
  unfold upd
  split
  · rename_i e; rw [e]
  · rfl
/-- The pieces have turned. -/
theorem IsDisk.putPieces {W W' : World} {F F' : Nat → Prop} {p : Nat} {d : DS} (h : IsDisk W F p d) (l' : List (Nat × Int))
    (hc : Ch (fun k => F k ∧ (k = p ∨ T80 W k)) W W') {v' v0 mv : Value} {sz : Int} (h0 : Head W p v0 mv sz) (hh : Head W' p v' mv sz) (hp : Pcs W' F' v' l') (hF : ∀ k, F k → F' k) (hl : ∀ k, F' k → k < W'.heap.size)
    (hok : DS.Ok { d with pieces := l' }) : IsDisk W' F' p { d with pieces := l' } := by
  have hpid : p ∉ d.ids := fun hp => by
    obtain ⟨v, m, hh0, _⟩ := h.core
    obtain ⟨cs, hcs⟩ := (h.file p hp).2.blk
    exact blk_ne hcs hh0 (by decide) rfl
  have hbig : W.heap.size ∉ d.ids := fun hi => by have := h.low _ (h.file _ hi).1; omega
  have := h.turn W.heap.size (d.bytes W.heap.size) l' (hc.mono (fun k hk => ⟨hk.1, hk.2.elim .inl (fun e => .inr (.inl e))⟩)) h0 hh hp hF hl (fun hi => absurd hi hbig) (fun _ => ⟨upd_same _ _, fun hF => by have := h.low _ hF; omega⟩) (by rw [upd_same]; exact hok)
  rw [upd_same] at this
  exact this
/-- A new file. -/
def DS.add (d : DS) (n : List UInt8) (f : Nat) : DS := { d with files := insF (n, f) d.files, bytes := upd d.bytes f [] }
theorem DS.add_ids (d : DS) (n : List UInt8) (f : Nat) : (d.add n f).ids.Perm (f :: d.ids) := (insF_perm (n, f) d.files).map Prod.snd
theorem lenSum_perm {b : Nat → List Int} {l l' : List Nat} (h : l.Perm l') : lenSum b l = lenSum b l' := (h.map _).sum_nat
theorem lenSum_upd {b : Nat → List Int} {f : Nat} {xs : List Int} {l : List Nat} (h : f ∉ l) : lenSum (upd b f xs) l = lenSum b l := by
  unfold lenSum
  congr 1
  apply List.map_congr_left
  intro k hk
  have hne : k ≠ f := fun e => h (by rw [← e]; exact hk)
  rw [upd_ne hne]
theorem DS.add_total (d : DS) (n : List UInt8) (f : Nat) (hf : f ∉ d.ids) : (d.add n f).total = d.total := by
  unfold DS.total
  rw [lenSum_perm (d.add_ids n f)]
  show lenSum (upd d.bytes f []) (f :: d.ids) = _
  have h1 : lenSum (upd d.bytes f []) (f :: d.ids) = (upd d.bytes f [] f).length + lenSum (upd d.bytes f []) d.ids := by simp [lenSum]
  rw [h1, upd_self, lenSum_upd hf]
  simp
theorem DS.add_ok {d : DS} (h : d.Ok) (n : List UInt8) (f : Nat) (hf : f ∉ d.ids) (hr : d.total + d.files.length + 1 ≤ room) : (d.add n f).Ok where
  nodup := (d.add_ids n f).nodup_iff.2 (List.nodup_cons.2 ⟨hf, h.nodup⟩)
  old := fun x hx => (d.add_ids n f).mem_iff.2 (List.mem_cons_of_mem _ (h.old x hx))
  pos := h.pos
  wait := fun g hg => by
    rcases List.mem_cons.1 ((d.add_ids n f).mem_iff.1 hg) with rfl | hg
    · have : sumOf g d.pieces = 0 := by
        unfold sumOf
        rw [List.filter_eq_nil_iff.2 (fun x hx => by
          simp only [beq_iff_eq]
          rintro rfl
          exact hf (h.old x hx))]
        rfl
      show sumOf g d.pieces ≤ _
      rw [this]
      exact Int.natCast_nonneg _
    · show sumOf g d.pieces ≤ ((upd d.bytes f [] g).length : Int)
      have hne : g ≠ f := fun e => hf (by rw [← e]; exact hg)
      rw [upd_ne hne]
      exact h.wait g hg
  few := by
    rw [DS.add_total d n f hf]
    have : (d.add n f).files.length = d.files.length + 1 := (insF_perm (n, f) d.files).length_eq
    omega
theorem IsDisk.addFile {W W' : World} {F : Nat → Prop} {p m c : Nat} {d : DS} {v : Value} {sz : Int} (h : IsDisk W F p d) (hh : Head W p v (.map (some m)) sz) (n : List UInt8) (hf : findF d.files n = none) (hr : d.total + d.files.length + 1 ≤ room)
    (hown : W'.ownsMap Try.prog 9 ptrElem m c ((datF d.files).put (.string n) (.lit (.int .i64 W.heap.size)))) (hg : (W.alloc (.cells #[.slice none 0 0] 78)).grownBy W' (some m)) :
    IsDisk W' (fun k => F k ∨ k = W.heap.size) p (d.add n W.heap.size) := by
  obtain ⟨v2, m2, hh2, hfs, hm, hp⟩ := h.core
  obtain ⟨rfl, rfl, rfl⟩ := Head.map hh hh2
  have hbig : W.heap.size ∉ d.ids := fun hi => by have := h.low _ (h.file _ hi).1; omega
  have hold : ∀ k, k < W.heap.size → k ≠ m → W'.heap[k]? = W.heap[k]? := fun k hk hne => (hg.block k (by rw [World.size_alloc]; omega) (fun e => hne (by injection e))).trans (Below.heap_alloc W _ k hk)
  have hcell : ∀ (k t : Nat) (cs : Array Value), W.heap[k]? = some (.cells cs t (0, 0)) → W'.heap[k]? = W.heap[k]? := fun k t cs hk => hold k (blk_lt hk) (Ne.symm (hfs.ne hk))
  have hm2 := hfs.isMap
  have hnew : W'.heap[W.heap.size]? = some (.cells #[.slice none 0 0] 78 (0, 0)) := (hg.block _ (by rw [World.size_alloc]; omega) (fun e => by injection e with e; have := h.low m hm; omega)).trans (blk_new W _)
  have hsz : W.heap.size + 1 ≤ W'.heap.size := by have := hg.size; rw [World.size_alloc] at this; exact this
  have hidb : ∀ f ∈ d.ids, W'.heap[f]? = W.heap[f]? := fun f hf => by
    obtain ⟨cs, hcs⟩ := (h.file f hf).2.blk
    exact hcell f _ _ hcs
  refine ⟨DS.add_ok h.ok n _ hbig hr, fun k hk => ?_, .inl h.hp, ⟨v, m, (hcell p _ _ hh).trans hh, ?_, .inl hm, ?_⟩, fun f hf => ?_, fun a ha b hb hab k => ?_⟩
  · rcases hk with hk | rfl
    · have := h.low k hk; omega
    · omega
  · rw [← datF_put, putF_none hf] at hown
    exact Files.exact hown
  · refine (hp.keep (fun k hk => ?_)).mono (fun k hk => .inl hk)
    obtain ⟨_, cs, hcs⟩ := pcs_type hp hk
    exact hcell k _ _ hcs
  · rcases List.mem_cons.1 ((d.add_ids n W.heap.size).mem_iff.1 hf) with rfl | hf
    · refine ⟨.inr rfl, ?_⟩
      show FileAt W' _ _ (upd d.bytes W.heap.size [] W.heap.size)
      rw [upd_self]
      exact ⟨_, hnew, Kd.R_nil _ _ _ _ _⟩
    · refine ⟨.inl (h.file f hf).1, ?_⟩
      show FileAt W' _ _ (upd d.bytes W.heap.size [] f)
      have hne : f ≠ W.heap.size := fun e => hbig (by rw [← e]; exact hf)
      rw [upd_ne hne]
      refine ((h.file f hf).2.keep (hidb f hf) (fun k hk => ?_)).mono (fun k hk => .inl hk)
      obtain ⟨_, cs, hcs⟩ := (h.file f hf).2.own hk
      exact hcell k _ _ hcs
  · have key : ∀ c ∈ (d.add n W.heap.size).ids, ∀ k, ownB W' c = some k → c ∈ d.ids ∧ ownB W c = some k := fun c hc k hk => by
      rcases List.mem_cons.1 ((d.add_ids n W.heap.size).mem_iff.1 hc) with rfl | hc
      · rw [ownB_of hnew] at hk
        cases hk
      · rw [ownB_same (hidb c hc)] at hk
        exact ⟨hc, hk⟩
    exact fun e1 e2 => h.apart a (key a ha k e1).1 b (key b hb k e2).1 hab k (key a ha k e1).2 (key b hb k e2).2
end Go.Proofs.Ytaeamdhkdiblmaa.Dk
set_option linter.unusedSimpArgs false
set_option linter.unusedVariables false
namespace Go.Proofs.Ytaeamdhkdiblmaa.Dk
open Go.RowKit Go.Proofs.YtaeamdhkdiblmaaW.PrintWords Go.Proofs.YtaeamdhkdiblmaaW.PrintLast Go.Proofs.YtaeamdhkdiblmaaW.PrintMore
set_option maxHeartbeats 4000000
set_option maxRecDepth 100000
def rightN (n : List UInt8) : Bool := !(n == []) && decide (n.length ≤ 40)
/-- disk.right. -/
theorem right (x : ByteArray) (w : World) (hx : x.size ≤ 9223372036854775807) : Calls Try.prog 35 #[.string x] w fun e w' => e = .returned (.bool (rightN x.data.toList)) ∧ Below w.heap.size w w' := by
  go_enter Try.func35, Try.ntmps35
  go_wp2
  all_goals
    go_ret
    refine ⟨?_, Below.refl _ _⟩
    have hs : x.size = x.data.toList.length := rfl
    rename_i h1
    rw [ByteArray.toList_eq] at h1
    first
      | (rw [h1]; rfl)
      | (rw [ByteArray.toList_eq, hs, rightN]; congr 2; cases hx2 : x.data.toList with
          | nil => exact absurd hx2 h1
          | cons a b => simp; omega)
/-- Bytes are appended to a file (whose block, if there is none yet, is f0). -/
def DS.put (d : DS) (n : List UInt8) (f0 : Nat) : DS := match findF d.files n with | some _ => d | none => d.add n f0
def DS.more (d : DS) (f : Nat) (bs : List Int) : DS := { d with bytes := upd d.bytes f (d.bytes f ++ bs), pieces := if bs = [] then d.pieces else d.pieces ++ [(f, (bs.length : Int))] }
theorem lenSum_put {b : Nat → List Int} {f : Nat} {bs : List Int} : ∀ {l : List Nat}, l.Nodup → f ∈ l → lenSum (upd b f (b f ++ bs)) l = lenSum b l + bs.length
  | g :: r, hn, hf => by
    obtain ⟨h1, h2⟩ := List.nodup_cons.1 hn
    have hc : ∀ b : Nat → List Int, lenSum b (g :: r) = (b g).length + lenSum b r := fun b => by simp [lenSum]
    rw [hc, hc]
    rcases List.mem_cons.1 hf with rfl | hf
    · rw [upd_self, lenSum_upd h1, List.length_append]; omega
    · have hne : g ≠ f := fun e => h1 (e ▸ hf)
      rw [upd_ne hne, lenSum_put h2 hf]; omega
theorem sumP_app (l l' : List (Nat × Int)) : sumP (l ++ l') = sumP l + sumP l' := by simp [sumP]
theorem DS.bytes_ok {d : DS} (h : d.Ok) {f : Nat} (hf : f ∈ d.ids) (bs : List Int) (hr : d.total + bs.length + d.files.length ≤ room) : DS.Ok { d with bytes := upd d.bytes f (d.bytes f ++ bs) } where
  nodup := h.nodup
  old := h.old
  pos := h.pos
  wait := fun g hg => by
    show sumOf g d.pieces ≤ ((upd d.bytes f (d.bytes f ++ bs) g).length : Int)
    have := h.wait g hg
    by_cases e : g = f
    · subst e
      rw [upd_self, List.length_append]
      omega
    · rw [upd_ne e]; exact this
  few := by
    show lenSum (upd d.bytes f (d.bytes f ++ bs)) d.ids + d.files.length ≤ room
    rw [lenSum_put h.nodup hf]
    have : d.total = lenSum d.bytes d.ids := rfl
    omega
theorem DS.more_ok {d : DS} (h : d.Ok) {f : Nat} (hf : f ∈ d.ids) (bs : List Int) (hr : d.total + bs.length + d.files.length ≤ room) : (d.more f bs).Ok := by
  have h1 := DS.bytes_ok h hf bs hr
  by_cases hb : bs = []
  · unfold DS.more
    rw [if_pos hb]
    exact h1
  · have hlen : 0 < bs.length := List.length_pos_iff.2 hb
    unfold DS.more
    rw [if_neg hb]
    refine ⟨h1.nodup, fun x hx => ?_, fun x hx => ?_, fun g hg => ?_, h1.few⟩
    · rcases List.mem_append.1 hx with hx | hx
      · exact h.old x hx
      · rw [List.mem_singleton.1 hx]; exact hf
    · rcases List.mem_append.1 hx with hx | hx
      · exact h.pos x hx
      · rw [List.mem_singleton.1 hx]; show (0 : Int) < (bs.length : Int); omega
    · show sumOf g (d.pieces ++ [(f, (bs.length : Int))]) ≤ ((upd d.bytes f (d.bytes f ++ bs) g).length : Int)
      have hw := h.wait g hg
      unfold sumOf at hw ⊢
      rw [List.filter_append, sumP_app]
      by_cases e : g = f
      · subst e
        rw [upd_self, List.length_append, List.filter_cons_of_pos (by simp)]
        simp [sumP] at hw ⊢
        omega
      · have hne : (f == g) = false := beq_false_of_ne (Ne.symm e)
        rw [upd_ne e, List.filter_cons_of_neg (by simp [hne])]
        simp [sumP] at hw ⊢
        omega
end Go.Proofs.Ytaeamdhkdiblmaa.Dk
